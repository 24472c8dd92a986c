/- Arguments, opened: arrays of integers by value; integers. -/
import Derived.Test.YtfecopfofkdnpaaBase
import Derived.ProofKit
import Derived.OpenShut
namespace Go.Proofs.Ytfecopfofkdnpaa
open Go.ChangeShapes Go.WideShapes Go.ChangeAt Go.RowKit
section
variable {P : Program} {H : Type} {enc : TypeId × Value → H} {w : World}

theorem bv_of_wf {m : Nat} (k : IntKind) (hm : (k = .u8 ∧ m = 8) ∨ (k = .u32 ∧ m = 32) ∨ (k = .u64 ∧ m = 64)) {n : Int} (h : (Lit.int k n).wf = true) : ∃ x : BitVec m, n = wI x := by
  have hb : 0 ≤ n ∧ n < (2 : Int) ^ m := by
    rcases hm with ⟨rfl, rfl⟩ | ⟨rfl, rfl⟩ | ⟨rfl, rfl⟩ <;>
      (simp [Lit.wf, IntKind.min, IntKind.max, IntKind.signed, IntKind.bits] at h; omega)
  obtain ⟨q, rfl⟩ := Int.eq_ofNat_of_zero_le hb.1
  have hq : q < 2 ^ m := by have := hb.2; exact_mod_cast this
  exact ⟨BitVec.ofNat m q, by unfold wI; rw [BitVec.toNat_ofNat, Nat.mod_eq_of_lt hq]⟩

/-- An array of integers, by value. -/
theorem open_arr {m : Nat} {r : Reach} {b0 base : Nat} {spare : Nat → Bool} {held : Bool} {T E n : Nat} {k : IntKind} {v : Value} {d : DataW H} {p : List MemPlace} (hm : (k = .u8 ∧ m = 8) ∨ (k = .u32 ∧ m = 32) ∨ (k = .u64 ∧ m = 64))
    (hT : P.underlying T = some (.array n E)) (hE : P.underlying E = some (.int k)) (hc : P.cellsOf E = 1) (hC : P.cellsOf T = n)
    (hv : Value.okWide P w r b0 T v) (h : DataW.Trod enc P w base spare held T v d p) : ∃ l : List (BitVec m), l.length = n ∧ v = .agg (l.map fun x => Value.int k (wI x)).toArray := by
  unfold Value.okWide at hv
  rw [hT] at hv
  obtain ⟨cs, rfl, hsz, _⟩ := hv
  obtain ⟨fuel, hf⟩ := h
  obtain ⟨xs, q, _, _, _, hlen, hall⟩ := DataW.trod_array hT hf
  have hget : ∀ i : Nat, i < n → ∃ x : BitVec m, cs[i]? = some (.int k (wI x)) := fun i hi => by
    have h1 := hall i hi
    rw [hc] at h1
    have h2 : ∃ y, xs[i]? = some y := ⟨xs[i]'(by omega), by simp⟩
    obtain ⟨y, hy⟩ := h2
    rw [hy] at h1
    obtain ⟨z, hz, _, hwf⟩ := DataW.trod_int hE h1
    obtain ⟨x, rfl⟩ := bv_of_wf k hm hwf
    refine ⟨x, ?_⟩
    have hi2 : i < cs.size := by omega
    have : ((cs.toList.drop (i * 1)).take 1)[0]? = some (.int k (wI x)) := by
      have e : (Value.agg cs).cells.toList = cs.toList := rfl
      rw [← e, hz]; rfl
    simpa using this
  have key : ∀ c, c ≤ n → ∃ l : List (BitVec m), l.length = c ∧ cs.toList.take c = l.map fun x => Value.int k (wI x) := by
    intro c
    induction c with
    | zero => intro _; exact ⟨[], rfl, by simp⟩
    | succ c ih =>
      intro hc'
      obtain ⟨l, hl, he⟩ := ih (by omega)
      obtain ⟨x, hx⟩ := hget c (by omega)
      refine ⟨l ++ [x], by simp [hl], ?_⟩
      have hx' : cs.toList[c]? = some (.int k (wI x)) := by simpa using hx
      rw [List.take_add_one, he, hx']; simp
  obtain ⟨l, hl, he⟩ := key n (Nat.le_refl _)
  refine ⟨l, hl, ?_⟩
  rw [List.take_of_length_le (by simp; omega)] at he
  rw [← he]
end
end Go.Proofs.Ytfecopfofkdnpaa
