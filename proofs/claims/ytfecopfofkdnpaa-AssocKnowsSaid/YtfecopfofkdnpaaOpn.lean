/- Arguments, opened by their types: what a reading says of the cells. -/
import Derived.Test.YtfecopfofkdnpaaOpen
import Derived.Test.YtfecopfofkdnpaaLoc
import Derived.ChangeArms
import Derived.Deep.Slices
namespace Go.Proofs.Ytfecopfofkdnpaa
open Go.RowKit
/-- These cells read as a value of the type. -/
def Tr {H : Type} (enc : TypeId × Value → H) (P : Program) (w : World) (base : Nat) (T : TypeId) (cs : List Value) : Prop := ∃ fuel x, DataW.trod enc P w base (fun _ => true) true fuel T cs = some x
theorem spot_none {w : World} {a : Addr} {v : Value} (h : w.cell? a = some v) : a.spot = none := by
  unfold World.cell? at h
  split at h
  · split at h
    · cases h
    · rename_i h2; cases hs : a.spot with
      | none => rfl
      | some s => rw [hs] at h2; exact absurd rfl h2
  · cases h
section
variable {H : Type} {enc : TypeId × Value → H} {P : Program} {w : World} {base : Nat} {T : TypeId} {cs : List Value}
theorem Tr.of {v : Value} {d : DataW H} {p : List MemPlace} (h : DataW.Trod enc P w base (fun _ => true) true T v d p) : Tr enc P w base T v.cells.toList := by
  obtain ⟨fuel, hf⟩ := h; exact ⟨fuel, _, hf⟩
theorem Tr.int {k : IntKind} (hT : P.underlying T = some (.int k)) (h : Tr enc P w base T cs) : ∃ n, cs = [.int k n] ∧ (Lit.int k n).wf = true := by
  obtain ⟨f, x, h⟩ := h
  obtain ⟨n, h1, _, h2⟩ := DataW.trod_int hT h
  exact ⟨n, h1, h2⟩
theorem Tr.bool (hT : P.underlying T = some .bool) (h : Tr enc P w base T cs) : ∃ b, cs = [.bool b] := by
  obtain ⟨f, x, h⟩ := h
  obtain ⟨b, h1, _⟩ := DataW.trod_bool hT h
  exact ⟨b, h1⟩
theorem Tr.string (hT : P.underlying T = some .string) (h : Tr enc P w base T cs) : ∃ s : ByteArray, cs = [.string s] ∧ s.size ≤ maxLen := by
  obtain ⟨f, x, h⟩ := h
  obtain ⟨s, h1, _, h2⟩ := DataW.trod_string hT h
  exact ⟨s, h1, h2⟩
theorem Tr.struct {fs : Array Field} (hT : P.underlying T = some (.struct fs)) (h : Tr enc P w base T cs) : cs.length = P.cellsOf T ∧ ∀ (i : Nat) (f : Field), fs[i]? = some f → Tr enc P w base f.type ((cs.drop f.offset).take (P.cellsOf f.type)) := by
  obtain ⟨f, x, h⟩ := h
  obtain ⟨xs, n, _, _, hl, hn, hf⟩ := DataW.trod_struct hT h
  refine ⟨hl, fun i f hi => ?_⟩
  have h1 := hf i f hi
  have hlt := (Array.getElem?_eq_some_iff.1 hi).1
  rw [List.getElem?_eq_getElem (by omega)] at h1
  exact ⟨n, _, h1⟩
theorem Tr.field {fs : Array Field} (hT : P.underlying T = some (.struct fs)) (h : Tr enc P w base T cs) (i t off n : Nat) (hf : (fs[i]?).map (fun f => (f.type, f.offset)) = some (t, off)) (hn : P.cellsOf t = n) : Tr enc P w base t ((cs.drop off).take n) := by
  cases hq : fs[i]? with
  | none => rw [hq] at hf; cases hf
  | some f =>
    rw [hq] at hf
    have h1 := (h.struct hT).2 i f hq
    cases hf
    rw [← hn]; exact h1
theorem Tr.len {fs : Array Field} (hT : P.underlying T = some (.struct fs)) (h : Tr enc P w base T cs) (n : Nat) (hn : P.cellsOf T = n) : cs.length = n := by rw [← hn]; exact (h.struct hT).1
theorem Tr.array {n : Nat} {e : TypeId} (hT : P.underlying T = some (.array n e)) (h : Tr enc P w base T cs) : cs.length = P.cellsOf T ∧ ∀ i : Nat, i < n → Tr enc P w base e ((cs.drop (i * P.cellsOf e)).take (P.cellsOf e)) := by
  obtain ⟨f, x, h⟩ := h
  obtain ⟨xs, m, _, _, hl, hn, hf⟩ := DataW.trod_array hT h
  refine ⟨hl, fun i hi => ?_⟩
  have h1 := hf i hi
  rw [List.getElem?_eq_getElem (by omega)] at h1
  exact ⟨m, _, h1⟩
theorem Tr.slice {e : TypeId} (hT : P.underlying T = some (.slice e)) (hc : 0 < P.cellsOf e) (h : Tr enc P w base T cs) : ∃ (ad : Option Addr) (len cap : Nat), cs = [.slice ad len cap] ∧ len ≤ cap ∧ cap ≤ maxLen ∧ (ad = none → len = 0 ∧ cap = 0) ∧
    ∀ i : Nat, i < len → ∃ b off es, ad = some ⟨b, off, none⟩ ∧ b < w.heap.size ∧ es.length = P.cellsOf e ∧ Tr enc P w base e es ∧ w.rangeAt b (off + i * P.cellsOf e) es := by
  obtain ⟨f, x, h⟩ := h
  rcases Deep.open_slice hT h with ⟨h0, _⟩ | ⟨a, len, cap, m, n, D, Pl, h1, h2, h3, h4, hm, _, hx⟩
  · exact ⟨none, 0, 0, h0, Nat.le_refl _, Nat.zero_le _, (fun _ => ⟨rfl, rfl⟩), fun i hi => absurd hi (by omega)⟩
  · refine ⟨some a, len, cap, h1, h3, h4, (fun h => by cases h), fun i hi => ?_⟩
    have hsp : a.spot = none := by
      obtain ⟨es, he, _⟩ := hx 0 (by rw [hm]; simp; omega)
      obtain ⟨_, hl, hcell⟩ := World.cells?_some he
      have h0 := hcell 0 hc
      rw [List.getElem?_eq_getElem (by omega)] at h0
      rw [show (a.add (0 * P.cellsOf e)).add 0 = a by simp [Addr.add]] at h0
      exact spot_none h0
    obtain ⟨b, off, s⟩ := a
    cases hsp
    obtain ⟨es, he, ht⟩ := hx i (by rw [hm]; simp; omega)
    obtain ⟨_, hl, hcell⟩ := World.cells?_some he
    have hr : w.rangeAt b (off + i * P.cellsOf e) es := fun j v hv => by
      have hj := (List.getElem?_eq_some_iff.1 hv).1
      have h0 := hcell j (by omega)
      rw [Addr.add_mid, Addr.add_mid, hv] at h0
      exact h0
    have h0 : ∃ v, es[0]? = some v := ⟨es[0]'(by omega), by simp⟩
    obtain ⟨v, hv⟩ := h0
    exact ⟨b, off, es, rfl, block_lt_of_cell (hr 0 v hv), hl, ⟨n, _, ht⟩, hr⟩
theorem bytes_of {m : List Value} (h : ∀ i : Nat, i < m.length → ∃ n, m[i]? = some (.int .u8 n) ∧ (Lit.int .u8 n).wf = true) : ∃ l : List (BitVec 8), m = l.map V8 := by
  induction m with
  | nil => exact ⟨[], rfl⟩
  | cons v m ih =>
    obtain ⟨l, hl⟩ := ih fun i hi => by simpa using h (i + 1) (by simpa using hi)
    obtain ⟨n, hn, hw⟩ := h 0 (by simp)
    obtain ⟨x, rfl⟩ := bv_of_wf (m := 8) .u8 (.inl ⟨rfl, rfl⟩) hw
    have : v = V8 x := by simpa using hn
    exact ⟨x :: l, by rw [this, hl]; rfl⟩
/-- An array of bytes. -/
theorem Tr.bytes {n : Nat} {e : TypeId} (hT : P.underlying T = some (.array n e)) (hE : P.underlying e = some (.int .u8)) (hc : P.cellsOf e = 1) (hC : P.cellsOf T = n) (h : Tr enc P w base T cs) : ∃ l : List (BitVec 8), l.length = n ∧ cs = l.map V8 := by
  obtain ⟨hl, ha⟩ := h.array hT
  rw [hC] at hl
  obtain ⟨l, rfl⟩ := bytes_of (m := cs) fun i hi => by
    obtain ⟨k, hk, hw⟩ := (ha i (by omega)).int hE
    rw [hc] at hk
    refine ⟨k, ?_, hw⟩
    have : ((cs.drop (i * 1)).take 1)[0]? = some (.int .u8 k) := by rw [hk]; rfl
    simpa using this
  exact ⟨l, by simpa using hl, rfl⟩
/-- A slice of bytes. -/
theorem Tr.slb {e : TypeId} (hT : P.underlying T = some (.slice e)) (hE : P.underlying e = some (.int .u8)) (hc : P.cellsOf e = 1) (h : Tr enc P w base T cs) : ∃ (ad : Option Addr) (cap : Nat) (l : List (BitVec 8)), cs = [.slice ad l.length cap] ∧ l.length ≤ cap ∧ cap ≤ maxLen ∧ (ad = none → cap = 0) ∧ SlB w (.slice ad l.length cap) l := by
  obtain ⟨ad, len, cap, h1, h2, h3, h4, h5⟩ := h.slice hT (by omega)
  have key : ∀ k, k ≤ len → ∃ l : List (BitVec 8), l.length = k ∧ ∀ j x, l[j]? = some x → ∃ b off, ad = some ⟨b, off, none⟩ ∧ b < w.heap.size ∧ w.cell? ⟨b, off + j, none⟩ = some (V8 x) := by
    intro k
    induction k with
    | zero => intro _; exact ⟨[], rfl, fun j x hj => by simp at hj⟩
    | succ k ih =>
      intro hk
      obtain ⟨l, hl, hL⟩ := ih (by omega)
      obtain ⟨b, off, es, ha, hb, hel, ht, hr⟩ := h5 k (by omega)
      obtain ⟨n, hn, hw⟩ := ht.int hE
      obtain ⟨x, rfl⟩ := bv_of_wf (m := 8) .u8 (.inl ⟨rfl, rfl⟩) hw
      refine ⟨l ++ [x], by simp [hl], fun j y hy => ?_⟩
      by_cases hj : j < l.length
      · rw [List.getElem?_append_left hj] at hy; exact hL j y hy
      · rw [List.getElem?_append_right (by omega)] at hy
        have hj0 : j - l.length = 0 := by
          have := (List.getElem?_eq_some_iff.1 hy).1
          simp at this; omega
        rw [hj0] at hy
        have : x = y := by simpa using hy
        subst this
        refine ⟨b, off, ha, hb, ?_⟩
        have h0 := hr 0 (V8 x) (by rw [hn]; rfl)
        rw [hc] at h0
        rwa [show off + k * 1 + 0 = off + j by omega] at h0
  obtain ⟨l, hl, hL⟩ := key len (Nat.le_refl _)
  subst hl
  refine ⟨ad, cap, l, h1, h2, h3, fun h => (h4 h).2, ?_⟩
  cases l with
  | nil =>
    refine .inl ⟨rfl, ?_⟩
    cases ad with
    | none => obtain ⟨_, rfl⟩ := h4 rfl; exact .inl rfl
    | some a => exact .inr ⟨a, cap, rfl⟩
  | cons x l =>
    obtain ⟨b, off, rfl, hb, _⟩ := hL 0 x rfl
    refine .inr ⟨b, off, cap, rfl, hb, fun j y hy => ?_⟩
    obtain ⟨b', off', he, _, hc'⟩ := hL j y hy
    cases he
    exact hc'
end
end Go.Proofs.Ytfecopfofkdnpaa
