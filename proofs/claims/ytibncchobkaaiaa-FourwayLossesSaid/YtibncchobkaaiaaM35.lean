/- Texts of this proof, put together: Open, Opn, Opn25. -/
import Derived.Test.YtibncchobkaaiaaM1
import Derived.ProofKit
import Derived.OpenShut
import Derived.Test.YtibncchobkaaiaaM9
import Derived.ChangeArms
import Derived.Deep.Slices
import Derived.Test.YtibncchobkaaiaaM31
namespace Go.Proofs.Ytibncchobkaaiaa
open Go.ChangeShapes Go.WideShapes Go.ChangeAt Go.RowKit
section
variable {P : Program} {H : Type} {enc : TypeId × Value → H} {w : World}
theorem bv_of_wf {m : Nat} (k : IntKind) (hm : (k = .u8 ∧ m = 8) ∨ (k = .u32 ∧ m = 32) ∨ (k = .u64 ∧ m = 64)) {n : Int} (h : (Lit.int k n).wf = true) : ∃ x : BitVec m, n = wI x := by
 have hb : 0 ≤ n ∧ n < (2 : Int) ^ m := by
  rcases hm with ⟨rfl, rfl⟩ | ⟨rfl, rfl⟩ | ⟨rfl, rfl⟩ <;>
   (simp [Lit.wf, IntKind.min, IntKind.max, IntKind.signed, IntKind.bits] at h; omega)
 obtain ⟨q, rfl⟩ := Int.eq_ofNat_of_zero_le hb.1
 have hq : q < 2 ^ m := by have := hb.2; exact_mod_cast this
 exact ⟨BitVec.ofNat m q, by unfold wI; rw [BitVec.toNat_ofNat, Nat.mod_eq_of_lt hq]⟩
end
end Go.Proofs.Ytibncchobkaaiaa
namespace Go.Proofs.Ytibncchobkaaiaa
open Go.RowKit
def Tr {H : Type} (enc : TypeId × Value → H) (P : Program) (w : World) (base : Nat) (T : TypeId) (cs : List Value) : Prop := ∃ fuel x, DataW.trod enc P w base (fun _ => true) true fuel T cs = some x
theorem spot_none {w : World} {a : Addr} {v : Value} (h : w.cell? a = some v) : a.spot = none := by
 unfold World.cell? at h
 split at h
 ·split at h
  ·cases h
  ·rename_i h2; cases hs : a.spot with
   | none => rfl
   | some s => rw [hs] at h2; exact absurd rfl h2
 ·cases h
section
variable {H : Type} {enc : TypeId × Value → H} {P : Program} {w : World} {base : Nat} {T : TypeId} {cs : List Value}
theorem Tr.of {v : Value} {d : DataW H} {p : List MemPlace} (h : DataW.Trod enc P w base (fun _ => true) true T v d p) : Tr enc P w base T v.cells.toList := by
 obtain ⟨fuel, hf⟩ := h; exact ⟨fuel, _, hf⟩
theorem Tr.int {k : IntKind} (hT : P.underlying T = some (.int k)) (h : Tr enc P w base T cs) : ∃ n, cs = [.int k n] ∧ (Lit.int k n).wf = true := by
 obtain ⟨f, x, h⟩ := h
 obtain ⟨n, h1, _, h2⟩ := DataW.trod_int hT h
 exact ⟨n, h1, h2⟩
theorem Tr.bool (hT : P.underlying T = some .bool) (h : Tr enc P w base T cs) : ∃ b, cs = [.bool b] := by
 obtain ⟨f, x, h⟩ := h
 obtain ⟨b, h1, _⟩ := DataW.trod_bool hT h
 exact ⟨b, h1⟩
theorem Tr.string (hT : P.underlying T = some .string) (h : Tr enc P w base T cs) : ∃ s : ByteArray, cs = [.string s] ∧ s.size ≤ maxLen := by
 obtain ⟨f, x, h⟩ := h
 obtain ⟨s, h1, _, h2⟩ := DataW.trod_string hT h
 exact ⟨s, h1, h2⟩
theorem Tr.struct {fs : Array Field} (hT : P.underlying T = some (.struct fs)) (h : Tr enc P w base T cs) : cs.length = P.cellsOf T ∧ ∀ (i : Nat) (f : Field), fs[i]? = some f → Tr enc P w base f.type ((cs.drop f.offset).take (P.cellsOf f.type)) := by
 obtain ⟨f, x, h⟩ := h
 obtain ⟨xs, n, _, _, hl, hn, hf⟩ := DataW.trod_struct hT h
 refine ⟨hl, fun i f hi => ?_⟩
 have h1 := hf i f hi
 have hlt := (Array.getElem?_eq_some_iff.1 hi).1
 rw [List.getElem?_eq_getElem (by omega)] at h1
 exact ⟨n, _, h1⟩
theorem Tr.field {fs : Array Field} (hT : P.underlying T = some (.struct fs)) (h : Tr enc P w base T cs) (i t off n : Nat) (hf : (fs[i]?).map (fun f => (f.type, f.offset)) = some (t, off)) (hn : P.cellsOf t = n) : Tr enc P w base t ((cs.drop off).take n) := by
 cases hq : fs[i]? with
 | none => rw [hq] at hf; cases hf
 | some f =>
  rw [hq] at hf
  have h1 := (h.struct hT).2 i f hq
  cases hf
  rw [← hn]; exact h1
theorem Tr.len {fs : Array Field} (hT : P.underlying T = some (.struct fs)) (h : Tr enc P w base T cs) (n : Nat) (hn : P.cellsOf T = n) : cs.length = n := by rw [← hn]; exact (h.struct hT).1
theorem Tr.array {n : Nat} {e : TypeId} (hT : P.underlying T = some (.array n e)) (h : Tr enc P w base T cs) : cs.length = P.cellsOf T ∧ ∀ i : Nat, i < n → Tr enc P w base e ((cs.drop (i * P.cellsOf e)).take (P.cellsOf e)) := by
 obtain ⟨f, x, h⟩ := h
 obtain ⟨xs, m, _, _, hl, hn, hf⟩ := DataW.trod_array hT h
 refine ⟨hl, fun i hi => ?_⟩
 have h1 := hf i hi
 rw [List.getElem?_eq_getElem (by omega)] at h1
 exact ⟨m, _, h1⟩
theorem Tr.slice {e : TypeId} (hT : P.underlying T = some (.slice e)) (hc : 0 < P.cellsOf e) (h : Tr enc P w base T cs) : ∃ (ad : Option Addr) (len cap : Nat), cs = [.slice ad len cap] ∧ len ≤ cap ∧ cap ≤ maxLen ∧ (ad = none → len = 0 ∧ cap = 0) ∧
  ∀ i : Nat, i < len → ∃ b off es, ad = some ⟨b, off, none⟩ ∧ b < w.heap.size ∧ es.length = P.cellsOf e ∧ Tr enc P w base e es ∧ w.rangeAt b (off + i * P.cellsOf e) es := by
 obtain ⟨f, x, h⟩ := h
 rcases Deep.open_slice hT h with ⟨h0, _⟩ | ⟨a, len, cap, m, n, D, Pl, h1, h2, h3, h4, hm, _, hx⟩
 ·exact ⟨none, 0, 0, h0, Nat.le_refl _, Nat.zero_le _, (fun _ => ⟨rfl, rfl⟩), fun i hi => absurd hi (by omega)⟩
 ·refine ⟨some a, len, cap, h1, h3, h4, (fun h => by cases h), fun i hi => ?_⟩
  have hsp : a.spot = none := by
   obtain ⟨es, he, _⟩ := hx 0 (by rw [hm]; simp; omega)
   obtain ⟨_, hl, hcell⟩ := World.cells?_some he
   have h0 := hcell 0 hc
   rw [List.getElem?_eq_getElem (by omega)] at h0
   rw [show (a.add (0 * P.cellsOf e)).add 0 = a by simp [Addr.add]] at h0
   exact spot_none h0
  obtain ⟨b, off, s⟩ := a
  cases hsp
  obtain ⟨es, he, ht⟩ := hx i (by rw [hm]; simp; omega)
  obtain ⟨_, hl, hcell⟩ := World.cells?_some he
  have hr : w.rangeAt b (off + i * P.cellsOf e) es := fun j v hv => by
   have hj := (List.getElem?_eq_some_iff.1 hv).1
   have h0 := hcell j (by omega)
   rw [Addr.add_mid, Addr.add_mid, hv] at h0
   exact h0
  have h0 : ∃ v, es[0]? = some v := ⟨es[0]'(by omega), by simp⟩
  obtain ⟨v, hv⟩ := h0
  exact ⟨b, off, es, rfl, block_lt_of_cell (hr 0 v hv), hl, ⟨n, _, ht⟩, hr⟩
theorem bytes_of {m : List Value} (h : ∀ i : Nat, i < m.length → ∃ n, m[i]? = some (.int .u8 n) ∧ (Lit.int .u8 n).wf = true) : ∃ l : List (BitVec 8), m = l.map V8 := by
 induction m with
 | nil => exact ⟨[], rfl⟩
 | cons v m ih =>
  obtain ⟨l, hl⟩ := ih fun i hi => by simpa using h (i + 1) (by simpa using hi)
  obtain ⟨n, hn, hw⟩ := h 0 (by simp)
  obtain ⟨x, rfl⟩ := bv_of_wf (m := 8) .u8 (.inl ⟨rfl, rfl⟩) hw
  have : v = V8 x := by simpa using hn
  exact ⟨x :: l, by rw [this, hl]; rfl⟩
theorem Tr.bytes {n : Nat} {e : TypeId} (hT : P.underlying T = some (.array n e)) (hE : P.underlying e = some (.int .u8)) (hc : P.cellsOf e = 1) (hC : P.cellsOf T = n) (h : Tr enc P w base T cs) : ∃ l : List (BitVec 8), l.length = n ∧ cs = l.map V8 := by
 obtain ⟨hl, ha⟩ := h.array hT
 rw [hC] at hl
 obtain ⟨l, rfl⟩ := bytes_of (m := cs) fun i hi => by
  obtain ⟨k, hk, hw⟩ := (ha i (by omega)).int hE
  rw [hc] at hk
  refine ⟨k, ?_, hw⟩
  have : ((cs.drop (i * 1)).take 1)[0]? = some (.int .u8 k) := by rw [hk]; rfl
  simpa using this
 exact ⟨l, by simpa using hl, rfl⟩
end
end Go.Proofs.Ytibncchobkaaiaa
namespace Go.Proofs.Ytibncchobkaaiaa
open Go.RowKit Go.WideShapes
structure Ev.Ok (o : Ev) : Prop where
 k0 : 0 ≤ o.kind
 k1 : o.kind < 256
 t0 : 0 ≤ o.to
 t1 : o.to < 256
section
variable {H : Type} {enc : TypeId × Value → H} {w : World} {base : Nat} {cs : List Value}
theorem peel {cs l : List Value} {o n : Nat} (h : (cs.drop o).take n = l) : cs.drop o = l ++ cs.drop (o + n) := by rw [← h, ← List.drop_drop, List.take_append_drop]
theorem Tr.slT {α : Type} {sz S e : Nat} {f : α → List Value} {K : α → Prop} (hT : Try.prog.underlying S = some (.slice e)) (hc : Try.prog.cellsOf e = sz) (h0 : 0 < sz) (hel : ∀ {cs}, Tr enc Try.prog w base e cs → ∃ x, K x ∧ cs = f x) (h : Tr enc Try.prog w base S cs) : ∃ (v : Value) (xs : List α), cs = [v] ∧ SlT sz f w v xs ∧ (∀ x ∈ xs, K x) ∧ xs.length ≤ 9223372036854775807 := by
 obtain ⟨a, ln, cp, h1, h2, h3, h4, h5⟩ := h.slice hT (by rw [hc]; exact h0)
 rw [hc] at h5
 have key : ∀ k, k ≤ ln → ∃ l : List α, l.length = k ∧ (∀ q ∈ l, K q) ∧ ∀ (j : Nat) q, l[j]? = some q → ∃ b off, a = some ⟨b, off, none⟩ ∧ b < w.heap.size ∧ w.rangeAt b (off + j * sz) (f q) := by
  intro k
  induction k with
  | zero => intro _; exact ⟨[], rfl, fun q hq => (by cases hq), fun j x hj => by simp at hj⟩
  | succ k ih =>
   intro hk
   obtain ⟨l, hl, h16, hL⟩ := ih (by omega)
   obtain ⟨b, off, es, ha, hb, hel', ht, hr⟩ := h5 k (by omega)
   obtain ⟨q, hq16, rfl⟩ := hel ht
   refine ⟨l ++ [q], by simp [hl], fun x hx => by rcases List.mem_append.1 hx with hx | hx; exact h16 x hx; simp at hx; rw [hx]; exact hq16, fun j y hy => ?_⟩
   by_cases hj : j < l.length
   ·rw [List.getElem?_append_left hj] at hy; exact hL j y hy
   ·rw [List.getElem?_append_right (by omega)] at hy
    have hj0 : j - l.length = 0 := by
     have := (List.getElem?_eq_some_iff.1 hy).1
     simp at this; omega
    rw [hj0] at hy
    have : q = y := by simpa using hy
    subst this
    obtain rfl : j = k := by omega
    exact ⟨b, off, ha, hb, hr⟩
 obtain ⟨l, hl, h16, hL⟩ := key ln (Nat.le_refl _)
 exact ⟨_, l, h1, ⟨a, ln, cp, rfl, hl.symm, h2, hL⟩, h16, by unfold maxLen at h3; omega⟩
theorem Tr.vc {n T e : Nat} (hT : Try.prog.underlying T = some (.array n e)) (hE : Try.prog.underlying e = some (.int .u8)) (hc : Try.prog.cellsOf e = 1) (hC : Try.prog.cellsOf T = n) (h : Tr enc Try.prog w base T cs) : ∃ x : Vc n, cs = x.1.map V8 := by
 obtain ⟨l, hl, e⟩ := h.bytes hT hE hc hC
 exact ⟨⟨l, hl⟩, e⟩
theorem Tr.group (h : Tr enc Try.prog w base 30 cs) : ∃ (g : Int) (k : Vc 16), cs = cat (partsG g k) := by
 have hl := h.len Try.underlying30 17 (by kernel_rfl)
 obtain ⟨g, h0, _⟩ := (h.field Try.underlying30 0 3 0 1 rfl (by kernel_rfl)).int Try.underlying3
 obtain ⟨k, h1⟩ := (h.field Try.underlying30 1 25 1 16 rfl (by kernel_rfl)).vc Try.underlying25 Try.underlying5 (by kernel_rfl) (by kernel_rfl)
 refine ⟨g, k, ?_⟩
 have hend : cs.drop 17 = [] := List.drop_eq_nil_of_le (by omega)
 rw [show cs = cs.drop 0 from rfl, peel h0, peel h1]
 simp only [Nat.reduceAdd, hend, partsG, cat, List.append_nil, List.cons_append, List.nil_append]
theorem Tr.pair (h : Tr enc Try.prog w base 48 cs) : ∃ p : Pr, cs = cat (partsP p) := by
 have hl := h.len Try.underlying48 93 (by kernel_rfl)
 obtain ⟨a1, h0⟩ := (h.field Try.underlying48 0 23 0 6 rfl (by kernel_rfl)).vc Try.underlying23 Try.underlying5 (by kernel_rfl) (by kernel_rfl)
 obtain ⟨a2, h1⟩ := (h.field Try.underlying48 1 23 6 6 rfl (by kernel_rfl)).vc Try.underlying23 Try.underlying5 (by kernel_rfl) (by kernel_rfl)
 obtain ⟨k1, h2⟩ := (h.field Try.underlying48 2 25 12 16 rfl (by kernel_rfl)).vc Try.underlying25 Try.underlying5 (by kernel_rfl) (by kernel_rfl)
 obtain ⟨k2, h3⟩ := (h.field Try.underlying48 3 25 28 16 rfl (by kernel_rfl)).vc Try.underlying25 Try.underlying5 (by kernel_rfl) (by kernel_rfl)
 obtain ⟨n1, h4⟩ := (h.field Try.underlying48 4 26 44 16 rfl (by kernel_rfl)).vc Try.underlying26 Try.underlying5 (by kernel_rfl) (by kernel_rfl)
 obtain ⟨n2, h5⟩ := (h.field Try.underlying48 5 26 60 16 rfl (by kernel_rfl)).vc Try.underlying26 Try.underlying5 (by kernel_rfl) (by kernel_rfl)
 obtain ⟨g, k, h6⟩ := (h.field Try.underlying48 6 30 76 17 rfl (by kernel_rfl)).group
 refine ⟨⟨a1, a2, k1, k2, n1, n2, g, k⟩, ?_⟩
 have hend : cs.drop 93 = [] := List.drop_eq_nil_of_le (by omega)
 rw [show cs = cs.drop 0 from rfl, peel h0, peel h1, peel h2, peel h3, peel h4, peel h5, peel h6]
 simp only [Nat.reduceAdd, hend, partsP, partsG, cat, List.append_nil, List.cons_append, List.nil_append]
theorem Tr.ints (h : Tr enc Try.prog w base 72 cs) : ∃ (v : Value) (xs : List Int), cs = [v] ∧ SlT 1 i64c w v xs ∧ (∀ x ∈ xs, True) ∧ xs.length ≤ 9223372036854775807 :=
 h.slT Try.underlying72 (by kernel_rfl) (by decide) fun h => by obtain ⟨n, e, _⟩ := h.int Try.underlying3; exact ⟨n, trivial, e⟩
theorem Tr.bools (h : Tr enc Try.prog w base 69 cs) : ∃ (v : Value) (xs : List Bool), cs = [v] ∧ SlT 1 boolc w v xs ∧ (∀ x ∈ xs, True) ∧ xs.length ≤ 9223372036854775807 :=
 h.slT Try.underlying69 (by kernel_rfl) (by decide) fun h => by obtain ⟨n, e⟩ := h.bool Try.underlying4; exact ⟨n, trivial, e⟩
end
section
variable {H : Type} {enc : TypeId × Value → H} {w : World} {r : Reach} {b0 base : Nat} {v : Value} {d : DataW H} {p : List MemPlace}
set_option maxRecDepth 10000 in
theorem open_pair (hv : Value.okWide Try.prog w r b0 48 v) (h : DataW.Trod enc Try.prog w base (fun _ => true) true 48 v d p) : ∃ x : Pr, v = .agg (cat (partsP x)).toArray := by
 obtain ⟨cs, hcs, _⟩ := okWide_struct (P := Try.prog) Try.underlying48 hv
 have ht := Tr.of h
 rw [hcs] at ht
 obtain ⟨x, h5⟩ := ht.pair
 refine ⟨x, ?_⟩
 have h5 : cs.toList = cat (partsP x) := h5
 rw [hcs, ← h5]
set_option maxRecDepth 10000 in
theorem open_ints25 (hv : Value.okWide Try.prog w r b0 72 v) (h : DataW.Trod enc Try.prog w base (fun _ => true) true 72 v d p) : ∃ xs : List Int, SlT 1 i64c w v xs ∧ xs.length ≤ 9223372036854775807 := by
 obtain ⟨a, n, c, rfl⟩ := okWide_slice Try.underlying72 hv
 obtain ⟨u, xs, e, h1, _, h2⟩ := (Tr.of h).ints
 obtain rfl : Value.slice a n c = u := by simpa [Value.cells] using e
 exact ⟨xs, h1, h2⟩
set_option maxRecDepth 10000 in
theorem open_bools25 (hv : Value.okWide Try.prog w r b0 69 v) (h : DataW.Trod enc Try.prog w base (fun _ => true) true 69 v d p) : ∃ xs : List Bool, SlT 1 boolc w v xs ∧ xs.length ≤ 9223372036854775807 := by
 obtain ⟨a, n, c, rfl⟩ := okWide_slice Try.underlying69 hv
 obtain ⟨u, xs, e, h1, _, h2⟩ := (Tr.of h).bools
 obtain rfl : Value.slice a n c = u := by simpa [Value.cells] using e
 exact ⟨xs, h1, h2⟩
end
end Go.Proofs.Ytibncchobkaaiaa
