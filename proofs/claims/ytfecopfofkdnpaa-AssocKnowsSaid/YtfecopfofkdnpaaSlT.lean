/- Slices of any element, by the cells of an element: what comes in (SlT), what is a call's own (ownsRow), append; worlds that differ only above a block number (Chg). -/
import Derived.Test.YtfecopfofkdnpaaFree
import Derived.Test.YtfecopfofkdnpaaLit
import Derived.Laws.AppendOwn
namespace Go.Proofs.Ytfecopfofkdnpaa
open Go.RowKit
theorem rangeAt_ext {w w' : World} {b o : Nat} {cs : List Value} (h : w.rangeAt b o cs) (hb : b < w.heap.size) (hx : Ext w w') : w'.rangeAt b o cs := fun j v hv => (hx.cell hb).trans (h j v hv)
theorem Loc.tail {w0 w : World} {b : Bk} {bs : List Bk} (h : Loc w0 w (b :: bs)) : Loc w0 w bs :=
  ⟨h.1, (List.nodup_cons.1 h.2.1).2, fun c hc => h.2.2 c (by simp [hc])⟩
theorem wpList_load_midG {P : Program} {ops : Array Oper} {rest : List Oper} {op : Oper} {a : Act} {w : World} {Q : Exit → Act → World → Prop} (hgd : Region.wanted op (yielded ops a.tmps) = true) (ty : TypeId) (x : Operand) (ho : op.op = .load ty x)
    (b o : Nat) (hx : a.eval x = .pointer (some ⟨b, o, none⟩)) (cs : List Value) (d : TypeDesc) (hc : w.rangeAt b o cs)
    (hu : P.underlying ty = some d) (hd : d.isRow = true) (hi : (P.info? ty).map (·.size) = some cs.length)
    (h : wpList P ops Q rest (a.put op.dst (.agg cs.toArray)) w) : wpList P ops Q (op :: rest) a w :=
  wpList_step fun _ hK => by rw [if_pos hgd]; exact wp_load_mid ty x ho b o hx cs d hc hu hd hi (hK _ _ h)
theorem L_subG {P : Program} {ops : Array Oper} {rest : List Oper} {o : Oper} {a : Act} {w0 w : World} {Q : Exit → Act → World → Prop} {bs : List Bk} (H : Kp (Loc w0 w bs)) (hgd : Region.wanted o (yielded ops a.tmps) = true) (ty : TypeId) (x : Operand) (ho : o.op = .load ty x) (i : Nat) {g T : Nat} {cs : List Value} (hi : bs[i]? = some (g, T, cs)) (off : Nat)
    (hx : a.eval x = .pointer (some ⟨g, off, none⟩)) (ds : List Value) (hds : (cs.drop off).take ds.length = ds) {d : TypeDesc} (hu : P.underlying ty = some d) (hd : d.isRow = true) (hz : (P.info? ty).map (·.size) = some ds.length)
    (h : wpList P ops Q rest (a.put o.dst (.agg ds.toArray)) w) : wpList P ops Q (o :: rest) a w :=
  wpList_load_midG hgd ty x ho g off hx ds d ((H.out.at i hi).range hds) hu hd hz h
/-- Below lo nothing has changed. -/
def Chg (lo : Nat) (a b : World) : Prop := lo ≤ b.heap.size ∧ ∀ k, k < lo → b.heap[k]? = a.heap[k]?
theorem Chg.refl (w : World) : Chg w.heap.size w w := ⟨Nat.le_refl _, fun _ _ => rfl⟩
theorem Chg.ext {lo : Nat} {a b c : World} (h : Chg lo a b) (hx : Ext b c) : Chg lo a c := by
  obtain ⟨x, rfl⟩ := hx
  exact ⟨by rw [more_size]; have := h.1; omega, fun k hk => (more_heap b x k (Nat.lt_of_lt_of_le hk h.1)).trans (h.2 k hk)⟩
theorem Chg.wrote {lo g : Nat} {a b c : World} (h : Chg lo a b) (hw : Wrote b c g) (hg : lo ≤ g) : Chg lo a c := by
  obtain ⟨ds, rfl⟩ := hw
  exact ⟨by rw [setRow_size]; exact h.1, fun k hk => (setRow_other b g k ds (by omega)).trans (h.2 k hk)⟩
theorem Chg.of_ext {a b : World} (h : Ext a b) : Chg a.heap.size a b := (Chg.refl a).ext h
theorem Chg.of_out {a b : World} (h : Out [] a b) : Chg a.heap.size a b := ⟨h.size, fun k hk => h.block k hk (by simp)⟩
theorem Chg.le {lo lo' : Nat} {a b : World} (h : Chg lo a b) (hl : lo' ≤ lo) : Chg lo' a b := ⟨Nat.le_trans hl h.1, fun k hk => h.2 k (Nat.lt_of_lt_of_le hk hl)⟩
theorem Chg.trans {lo : Nat} {a b c : World} (h : Chg lo a b) (k : Chg lo b c) : Chg lo a c := ⟨k.1, fun i hi => (k.2 i hi).trans (h.2 i hi)⟩
theorem Chg.cell {lo b i : Nat} {w w' : World} (h : Chg lo w w') (hb : b < lo) : w'.cell? ⟨b, i, none⟩ = w.cell? ⟨b, i, none⟩ := by
  simp only [World.cell?, h.2 b hb]
theorem Chg.range {lo b o : Nat} {w w' : World} {cs : List Value} (h : Chg lo w w') (hb : b < lo) (hr : w.rangeAt b o cs) : w'.rangeAt b o cs := fun j v hv => (h.cell hb).trans (hr j v hv)
theorem Loc.add {w0 w : World} {bs : List Bk} (h : Loc w0 w bs) (n : Nat) (hn : ∀ g ∈ bs.map (·.1), g < n) (h0 : w0.heap.size ≤ n) {g T : Nat} {cs : List Value} (hg : n ≤ g) (hl : Lc w g T cs) : Loc w0 w ((g, T, cs) :: bs) := by
  refine ⟨h.1, ?_, fun b hb => ?_⟩
  · rw [List.map_cons, List.nodup_cons]
    exact ⟨fun hm => by have := hn g hm; omega, h.2.1⟩
  · rcases List.mem_cons.1 hb with rfl | hb
    · exact ⟨by omega, hl⟩
    · exact h.2.2 b hb
theorem Loc.allLt {w0 w : World} {bs : List Bk} (h : Loc w0 w bs) : ∀ g ∈ bs.map (·.1), g < w.heap.size := fun g hg => by
  obtain ⟨b, hb, rfl⟩ := List.mem_map.1 hg
  exact (h.2.2 b hb).2.lt
section
variable {α : Type} {sz : Nat} {f : α → List Value}
/-- A slice of elements, each of sz cells. -/
def SlT (sz : Nat) (f : α → List Value) (w : World) (v : Value) (xs : List α) : Prop :=
  ∃ ad n c, v = .slice ad n c ∧ n = xs.length ∧ n ≤ c ∧ ∀ (j : Nat) x, xs[j]? = some x → ∃ b off, ad = some ⟨b, off, none⟩ ∧ b < w.heap.size ∧ w.rangeAt b (off + j * sz) (f x)
theorem SlT.ext {w w' : World} {v : Value} {xs : List α} (h : SlT sz f w v xs) (hx : Ext w w') : SlT sz f w' v xs := by
  obtain ⟨ad, n, c, h1, h2, h3, h4⟩ := h
  exact ⟨ad, n, c, h1, h2, h3, fun j x hj => by obtain ⟨b, off, q1, q2, q3⟩ := h4 j x hj; exact ⟨b, off, q1, Nat.lt_of_lt_of_le q2 hx.size, rangeAt_ext q3 q2 hx⟩⟩
theorem SlT.chg {w w' : World} {v : Value} {xs : List α} (h : SlT sz f w v xs) (hc : Chg w.heap.size w w') : SlT sz f w' v xs := by
  obtain ⟨ad, n, c, h1, h2, h3, h4⟩ := h
  exact ⟨ad, n, c, h1, h2, h3, fun j x hj => by obtain ⟨b, off, q1, q2, q3⟩ := h4 j x hj; exact ⟨b, off, q1, Nat.lt_of_lt_of_le q2 hc.1, hc.range q2 q3⟩⟩
theorem SlT.nil (w : World) : SlT sz f w (.slice none 0 0) [] := ⟨none, 0, 0, rfl, rfl, Nat.le_refl _, fun j x hj => by simp at hj⟩
theorem flatMap_at : ∀ (xs : List α), (∀ x ∈ xs, (f x).length = sz) → ∀ (j : Nat) x, xs[j]? = some x → ((xs.flatMap f).drop (j * sz)).take sz = f x
  | [], _, j, x, h => by simp at h
  | y :: ys, hf, 0, x, h => by
    have : y = x := by simpa using h
    subst this
    have hy := hf y (by simp)
    rw [List.flatMap_cons, Nat.zero_mul, List.drop_zero, List.take_append_of_le_length (by rw [hy]; exact Nat.le_refl _), List.take_of_length_le (by rw [hy]; exact Nat.le_refl _)]
  | y :: ys, hf, j + 1, x, h => by
    have hy := hf y (by simp)
    rw [List.flatMap_cons, Nat.succ_mul, Nat.add_comm, ← List.drop_drop, List.drop_append_of_le_length (by rw [hy]; exact Nat.le_refl _), show (f y).drop sz = [] from List.drop_of_length_le (by rw [hy]; exact Nat.le_refl _), List.nil_append]
    exact flatMap_at ys (fun z hz => hf z (by simp [hz])) j x (by simpa using h)
theorem flatMap_len : ∀ (xs : List α), (∀ x ∈ xs, (f x).length = sz) → (xs.flatMap f).length = xs.length * sz
  | [], _ => by simp
  | y :: ys, hf => by rw [List.flatMap_cons, List.length_append, hf y (by simp), flatMap_len ys (fun z hz => hf z (by simp [hz])), List.length_cons, Nat.succ_mul]; omega
theorem SlT.of_block {w : World} {g T c : Nat} {cs : List Value} {xs : List α} (hf : ∀ x ∈ xs, (f x).length = sz) (h : Lc w g T cs) (hx : cs.take (xs.length * sz) = xs.flatMap f) (hc : xs.length ≤ c) : SlT sz f w (.slice (some ⟨g, 0, none⟩) xs.length c) xs := by
  refine ⟨_, _, _, rfl, rfl, hc, fun j x hj => ⟨g, 0, rfl, h.lt, ?_⟩⟩
  refine h.range ?_
  have h1 := flatMap_at xs hf j x hj
  have hjl := (List.getElem?_eq_some_iff.1 hj).1
  rw [← hx, List.drop_take, List.take_take] at h1
  rw [Nat.zero_add, hf x (List.mem_of_getElem? hj)]
  have h2 : min sz (xs.length * sz - j * sz) = sz := by
    have : (j + 1) * sz ≤ xs.length * sz := Nat.mul_le_mul_right _ hjl
    rw [Nat.succ_mul] at this; omega
  rwa [h2] at h1
theorem SlT.of_owns {w : World} {base E : Nat} {v : Value} {xs : List α} (hf : ∀ x ∈ xs, (f x).length = sz) (h : w.ownsRow base E sz v xs.length (xs.flatMap f)) : SlT sz f w v xs := by
  obtain ⟨_, ⟨rfl, hn⟩ | ⟨g, cap, cur, rfl, _, hg, hle, _, _, ht⟩⟩ := h
  · have : xs = [] := List.length_eq_zero_iff.1 hn
    subst this; exact SlT.nil w
  · exact SlT.of_block (cs := cur.toList) hf (by rw [Lc]; simpa using hg) ht hle
end
theorem ownsT_ext {w w' : World} {base E n sz : Nat} {v : Value} {xs : List Value} (h : w.ownsRow base E sz v n xs) (hx : Ext w w') : w'.ownsRow base E sz v n xs := by
  obtain ⟨h1, h2⟩ := h
  rcases h2 with ⟨rfl, rfl⟩ | ⟨g, cap, cur, rfl, hb, hg, a, b, c, ht⟩
  · exact ⟨h1, .inl ⟨rfl, rfl⟩⟩
  · exact ⟨h1, .inr ⟨g, cap, cur, rfl, hb, ext_heap hx hg, a, b, c, ht⟩⟩
theorem ownsT_block {w : World} {base E n sz : Nat} {v : Value} {xs : List Value} (h : w.ownsRow base E sz v n xs) : ∀ k, v.ownBlock = some k → base ≤ k := by
  intro k hk
  obtain ⟨_, h2⟩ := h
  rcases h2 with ⟨rfl, _⟩ | ⟨g, cap, cur, rfl, hb, _⟩
  · cases hk
  · have : g = k := by simpa [Value.ownBlock] using hk
    omega
theorem ownsT_nil (w : World) (base E sz : Nat) : w.ownsRow base E sz (.slice none 0 0) 0 [] := ⟨by simp, .inl ⟨rfl, rfl⟩⟩
/-- Own slices stay where only other blocks change. -/
theorem ownsT_keep {w w' : World} {base E n sz : Nat} {v : Value} {xs : List Value} (h : w.ownsRow base E sz v n xs) (hk : ∀ k, v.ownBlock = some k → w'.heap[k]? = w.heap[k]?) : w'.ownsRow base E sz v n xs := by
  obtain ⟨h1, h2⟩ := h
  rcases h2 with ⟨rfl, rfl⟩ | ⟨g, cap, cur, rfl, hb, hg, a, b, c, ht⟩
  · exact ⟨h1, .inl ⟨rfl, rfl⟩⟩
  · exact ⟨h1, .inr ⟨g, cap, cur, rfl, hb, (hk g rfl).trans hg, a, b, c, ht⟩⟩
end Go.Proofs.Ytfecopfofkdnpaa
