/- Texts of this proof, put together: Lit, SlT, Fld, Hd. -/
import Derived.Test.YtfecopfofkdnpaaS3
import Derived.Test.YtfecopfofkdnpaaS4
import Derived.Laws.AppendOwn
import Derived.Test.YtfecopfofkdnpaaS1
namespace Go.Proofs.Ytfecopfofkdnpaa
open Go.RowKit
theorem Loc.tl {w0 w : World} {b : Bk} {bs : List Bk} (h : Loc w0 w (b :: bs)) : Loc w0 w bs :=
 ⟨h.1, (List.nodup_cons.1 h.2.1).2, fun c hc => h.2.2 c (by simp [hc])⟩
section
variable {P : Program} {ops : Array Oper} {rest : List Oper} {o : Oper} {a : Act} {w0 w : World} {Q : Exit → Act → World → Prop} {bs : List Bk}
theorem L_bd (hgd : Region.wanted o (yielded ops a.tmps) = true) (t : TypeId) (parts : Array (Nat × Operand)) (ho : o.op = .build t parts) (ps : Array (Nat × Value)) (hp : parts.map (fun p => (p.1, a.eval p.2)) = ps) (cs : List Value)
  (hrun : ∀ w, (Instr.build t ps).run P w = .ok (.agg cs.toArray) w) (h : wpList P ops Q rest (a.put o.dst (.agg cs.toArray)) w) : wpList P ops Q (o :: rest) a w := by
 refine wpList_step fun K hK => ?_
 rw [if_pos hgd]
 unfold Oper.wp execOp
 simp only [ho, Sem.run_bind, hp, hrun w, Result.andThen_ok, Sem.run_pure]
 exact hK _ _ h
theorem L_bs (H : Kp (Loc w0 w bs)) (hgd : Region.wanted o (yielded ops a.tmps) = true) (t : TypeId) (n : Nat) (parts : Array (Nat × Operand)) (ho : o.op = .buildSlice t n parts) (ps : Array (Nat × Value)) (hp : parts.map (fun p => (p.1, a.eval p.2)) = ps) (e : TypeId) (cs : List Value)
  (hrun : ∀ w, (Instr.buildSlice t n ps).run P w = .ok (.slice (some ⟨w.heap.size, 0, none⟩) n n) (w.alloc (.cells cs.toArray e)))
  (h : ∀ g w', Kp (g = w.heap.size) → Kp (Ext w w') → Kp (Loc w0 w' ((g, e, cs) :: bs)) → wpList P ops Q rest (a.put o.dst (.slice (some ⟨g, 0, none⟩) n n)) w') : wpList P ops Q (o :: rest) a w := by
 refine wpList_step fun K hK => ?_
 rw [if_pos hgd]
 unfold Oper.wp execOp
 simp only [ho, Sem.run_bind, hp, hrun w, Result.andThen_ok, Sem.run_pure]
 exact hK _ _ (h _ _ (kp rfl) (kp (Ext.alloc _ _)) (kp (H.out.new e cs)))
theorem L_mk (H : Kp (Loc w0 w bs)) (hgd : Region.wanted o (yielded ops a.tmps) = true) (t : TypeId) (x y : Operand) (ho : o.op = .makeSlice t x y) (u v : Value) (hx : a.eval x = u) (hy : a.eval y = v) (n c : Nat) (e : TypeId) (cs : List Value)
  (hrun : ∀ w, (Instr.makeSlice t u v).run P w = .ok (.slice (some ⟨w.heap.size, 0, none⟩) n c) (w.alloc (.cells cs.toArray e)))
  (h : ∀ g w', Kp (g = w.heap.size) → Kp (Ext w w') → Kp (Loc w0 w' ((g, e, cs) :: bs)) → wpList P ops Q rest (a.put o.dst (.slice (some ⟨g, 0, none⟩) n c)) w') : wpList P ops Q (o :: rest) a w := by
 refine wpList_step fun K hK => ?_
 rw [if_pos hgd]
 unfold Oper.wp execOp
 simp only [ho, hx, hy, Sem.run_bind, hrun w, Result.andThen_ok, Sem.run_pure]
 exact hK _ _ (h _ _ (kp rfl) (kp (Ext.alloc _ _)) (kp (H.out.new e cs)))
end
theorem rangeAt_ext {w w' : World} {b o : Nat} {cs : List Value} (h : w.rangeAt b o cs) (hb : b < w.heap.size) (hx : Ext w w') : w'.rangeAt b o cs := fun j v hv => (hx.cell hb).trans (h j v hv)
theorem Loc.tail {w0 w : World} {b : Bk} {bs : List Bk} (h : Loc w0 w (b :: bs)) : Loc w0 w bs :=
 ⟨h.1, (List.nodup_cons.1 h.2.1).2, fun c hc => h.2.2 c (by simp [hc])⟩
theorem wpList_load_midG {P : Program} {ops : Array Oper} {rest : List Oper} {op : Oper} {a : Act} {w : World} {Q : Exit → Act → World → Prop} (hgd : Region.wanted op (yielded ops a.tmps) = true) (ty : TypeId) (x : Operand) (ho : op.op = .load ty x)
  (b o : Nat) (hx : a.eval x = .pointer (some ⟨b, o, none⟩)) (cs : List Value) (d : TypeDesc) (hc : w.rangeAt b o cs)
  (hu : P.underlying ty = some d) (hd : d.isRow = true) (hi : (P.info? ty).map (·.size) = some cs.length)
  (h : wpList P ops Q rest (a.put op.dst (.agg cs.toArray)) w) : wpList P ops Q (op :: rest) a w :=
 wpList_step fun _ hK => by rw [if_pos hgd]; exact wp_load_mid ty x ho b o hx cs d hc hu hd hi (hK _ _ h)
theorem L_subG {P : Program} {ops : Array Oper} {rest : List Oper} {o : Oper} {a : Act} {w0 w : World} {Q : Exit → Act → World → Prop} {bs : List Bk} (H : Kp (Loc w0 w bs)) (hgd : Region.wanted o (yielded ops a.tmps) = true) (ty : TypeId) (x : Operand) (ho : o.op = .load ty x) (i : Nat) {g T : Nat} {cs : List Value} (hi : bs[i]? = some (g, T, cs)) (off : Nat)
  (hx : a.eval x = .pointer (some ⟨g, off, none⟩)) (ds : List Value) (hds : (cs.drop off).take ds.length = ds) {d : TypeDesc} (hu : P.underlying ty = some d) (hd : d.isRow = true) (hz : (P.info? ty).map (·.size) = some ds.length)
  (h : wpList P ops Q rest (a.put o.dst (.agg ds.toArray)) w) : wpList P ops Q (o :: rest) a w :=
 wpList_load_midG hgd ty x ho g off hx ds d ((H.out.at i hi).range hds) hu hd hz h
def Chg (lo : Nat) (a b : World) : Prop := lo ≤ b.heap.size ∧ ∀ k, k < lo → b.heap[k]? = a.heap[k]?
theorem Chg.refl (w : World) : Chg w.heap.size w w := ⟨Nat.le_refl _, fun _ _ => rfl⟩
theorem Chg.ext {lo : Nat} {a b c : World} (h : Chg lo a b) (hx : Ext b c) : Chg lo a c := by
 obtain ⟨x, rfl⟩ := hx
 exact ⟨by rw [more_size]; have := h.1; omega, fun k hk => (more_heap b x k (Nat.lt_of_lt_of_le hk h.1)).trans (h.2 k hk)⟩
theorem Chg.wrote {lo g : Nat} {a b c : World} (h : Chg lo a b) (hw : Wrote b c g) (hg : lo ≤ g) : Chg lo a c := by
 obtain ⟨ds, rfl⟩ := hw
 exact ⟨by rw [setRow_size]; exact h.1, fun k hk => (setRow_other b g k ds (by omega)).trans (h.2 k hk)⟩
theorem Chg.of_ext {a b : World} (h : Ext a b) : Chg a.heap.size a b := (Chg.refl a).ext h
theorem Chg.le {lo lo' : Nat} {a b : World} (h : Chg lo a b) (hl : lo' ≤ lo) : Chg lo' a b := ⟨Nat.le_trans hl h.1, fun k hk => h.2 k (Nat.lt_of_lt_of_le hk hl)⟩
theorem Chg.trans {lo : Nat} {a b c : World} (h : Chg lo a b) (k : Chg lo b c) : Chg lo a c := ⟨k.1, fun i hi => (k.2 i hi).trans (h.2 i hi)⟩
theorem Chg.cell {lo b i : Nat} {w w' : World} (h : Chg lo w w') (hb : b < lo) : w'.cell? ⟨b, i, none⟩ = w.cell? ⟨b, i, none⟩ := by
 simp only [World.cell?, h.2 b hb]
theorem Chg.range {lo b o : Nat} {w w' : World} {cs : List Value} (h : Chg lo w w') (hb : b < lo) (hr : w.rangeAt b o cs) : w'.rangeAt b o cs := fun j v hv => (h.cell hb).trans (hr j v hv)
theorem Loc.add {w0 w : World} {bs : List Bk} (h : Loc w0 w bs) (n : Nat) (hn : ∀ g ∈ bs.map (·.1), g < n) (h0 : w0.heap.size ≤ n) {g T : Nat} {cs : List Value} (hg : n ≤ g) (hl : Lc w g T cs) : Loc w0 w ((g, T, cs) :: bs) := by
 refine ⟨h.1, ?_, fun b hb => ?_⟩
 ·rw [List.map_cons, List.nodup_cons]
  exact ⟨fun hm => by have := hn g hm; omega, h.2.1⟩
 ·rcases List.mem_cons.1 hb with rfl | hb
  ·exact ⟨by omega, hl⟩
  ·exact h.2.2 b hb
theorem Loc.allLt {w0 w : World} {bs : List Bk} (h : Loc w0 w bs) : ∀ g ∈ bs.map (·.1), g < w.heap.size := fun g hg => by
 obtain ⟨b, hb, rfl⟩ := List.mem_map.1 hg
 exact (h.2.2 b hb).2.lt
section
variable {α : Type} {sz : Nat} {f : α → List Value}
def SlT (sz : Nat) (f : α → List Value) (w : World) (v : Value) (xs : List α) : Prop :=
 ∃ ad n c, v = .slice ad n c ∧ n = xs.length ∧ n ≤ c ∧ ∀ (j : Nat) x, xs[j]? = some x → ∃ b off, ad = some ⟨b, off, none⟩ ∧ b < w.heap.size ∧ w.rangeAt b (off + j * sz) (f x)
theorem SlT.ext {w w' : World} {v : Value} {xs : List α} (h : SlT sz f w v xs) (hx : Ext w w') : SlT sz f w' v xs := by
 obtain ⟨ad, n, c, h1, h2, h3, h4⟩ := h
 exact ⟨ad, n, c, h1, h2, h3, fun j x hj => by obtain ⟨b, off, q1, q2, q3⟩ := h4 j x hj; exact ⟨b, off, q1, Nat.lt_of_lt_of_le q2 hx.size, rangeAt_ext q3 q2 hx⟩⟩
theorem SlT.nil (w : World) : SlT sz f w (.slice none 0 0) [] := ⟨none, 0, 0, rfl, rfl, Nat.le_refl _, fun j x hj => by simp at hj⟩
theorem flatMap_at : ∀ (xs : List α), (∀ x ∈ xs, (f x).length = sz) → ∀ (j : Nat) x, xs[j]? = some x → ((xs.flatMap f).drop (j * sz)).take sz = f x
 | [], _, j, x, h => by simp at h
 | y :: ys, hf, 0, x, h => by
  have : y = x := by simpa using h
  subst this
  have hy := hf y (by simp)
  rw [List.flatMap_cons, Nat.zero_mul, List.drop_zero, List.take_append_of_le_length (by rw [hy]; exact Nat.le_refl _), List.take_of_length_le (by rw [hy]; exact Nat.le_refl _)]
 | y :: ys, hf, j + 1, x, h => by
  have hy := hf y (by simp)
  rw [List.flatMap_cons, Nat.succ_mul, Nat.add_comm, ← List.drop_drop, List.drop_append_of_le_length (by rw [hy]; exact Nat.le_refl _), show (f y).drop sz = [] from List.drop_of_length_le (by rw [hy]; exact Nat.le_refl _), List.nil_append]
  exact flatMap_at ys (fun z hz => hf z (by simp [hz])) j x (by simpa using h)
theorem flatMap_len : ∀ (xs : List α), (∀ x ∈ xs, (f x).length = sz) → (xs.flatMap f).length = xs.length * sz
 | [], _ => by simp
 | y :: ys, hf => by rw [List.flatMap_cons, List.length_append, hf y (by simp), flatMap_len ys (fun z hz => hf z (by simp [hz])), List.length_cons, Nat.succ_mul]; omega
theorem SlT.of_block {w : World} {g T c : Nat} {cs : List Value} {xs : List α} (hf : ∀ x ∈ xs, (f x).length = sz) (h : Lc w g T cs) (hx : cs.take (xs.length * sz) = xs.flatMap f) (hc : xs.length ≤ c) : SlT sz f w (.slice (some ⟨g, 0, none⟩) xs.length c) xs := by
 refine ⟨_, _, _, rfl, rfl, hc, fun j x hj => ⟨g, 0, rfl, h.lt, ?_⟩⟩
 refine h.range ?_
 have h1 := flatMap_at xs hf j x hj
 have hjl := (List.getElem?_eq_some_iff.1 hj).1
 rw [← hx, List.drop_take, List.take_take] at h1
 rw [Nat.zero_add, hf x (List.mem_of_getElem? hj)]
 have h2 : min sz (xs.length * sz - j * sz) = sz := by
  have : (j + 1) * sz ≤ xs.length * sz := Nat.mul_le_mul_right _ hjl
  rw [Nat.succ_mul] at this; omega
 rwa [h2] at h1
theorem SlT.of_owns {w : World} {base E : Nat} {v : Value} {xs : List α} (hf : ∀ x ∈ xs, (f x).length = sz) (h : w.ownsRow base E sz v xs.length (xs.flatMap f)) : SlT sz f w v xs := by
 obtain ⟨_, ⟨rfl, hn⟩ | ⟨g, cap, cur, rfl, _, hg, hle, _, _, ht⟩⟩ := h
 ·have : xs = [] := List.length_eq_zero_iff.1 hn
  subst this; exact SlT.nil w
 ·exact SlT.of_block (cs := cur.toList) hf (by rw [Lc]; simpa using hg) ht hle
end
theorem ownsT_ext {w w' : World} {base E n sz : Nat} {v : Value} {xs : List Value} (h : w.ownsRow base E sz v n xs) (hx : Ext w w') : w'.ownsRow base E sz v n xs := by
 obtain ⟨h1, h2⟩ := h
 rcases h2 with ⟨rfl, rfl⟩ | ⟨g, cap, cur, rfl, hb, hg, a, b, c, ht⟩
 ·exact ⟨h1, .inl ⟨rfl, rfl⟩⟩
 ·exact ⟨h1, .inr ⟨g, cap, cur, rfl, hb, ext_heap hx hg, a, b, c, ht⟩⟩
theorem ownsT_block {w : World} {base E n sz : Nat} {v : Value} {xs : List Value} (h : w.ownsRow base E sz v n xs) : ∀ k, v.ownBlock = some k → base ≤ k := by
 intro k hk
 obtain ⟨_, h2⟩ := h
 rcases h2 with ⟨rfl, _⟩ | ⟨g, cap, cur, rfl, hb, _⟩
 ·cases hk
 ·have : g = k := by simpa [Value.ownBlock] using hk
  omega
theorem ownsT_nil (w : World) (base E sz : Nat) : w.ownsRow base E sz (.slice none 0 0) 0 [] := ⟨by simp, .inl ⟨rfl, rfl⟩⟩
theorem ownsT_keep {w w' : World} {base E n sz : Nat} {v : Value} {xs : List Value} (h : w.ownsRow base E sz v n xs) (hk : ∀ k, v.ownBlock = some k → w'.heap[k]? = w.heap[k]?) : w'.ownsRow base E sz v n xs := by
 obtain ⟨h1, h2⟩ := h
 rcases h2 with ⟨rfl, rfl⟩ | ⟨g, cap, cur, rfl, hb, hg, a, b, c, ht⟩
 ·exact ⟨h1, .inl ⟨rfl, rfl⟩⟩
 ·exact ⟨h1, .inr ⟨g, cap, cur, rfl, hb, (hk g rfl).trans hg, a, b, c, ht⟩⟩
abbrev By := List (BitVec 8)
abbrev Vc (n : Nat) := {l : By // l.length = n}
structure Lf where
 n : Nat
 cs : List Value
 h : cs.length = n
 o : cs.all (·.oneCell') = true
theorem one_V8 (l : By) : (l.map V8).all (·.oneCell') = true := by simp [List.all_map, Function.comp_def, Value.oneCell']
abbrev Lf.v {n : Nat} (x : Vc n) : Lf := ⟨n, x.1.map V8, by simpa using x.2, one_V8 _⟩
abbrev Lf.i (k : IntKind) (x : Int) : Lf := ⟨1, [.int k x], rfl, rfl⟩
abbrev Lf.b (x : Bool) : Lf := ⟨1, [.bool x], rfl, rfl⟩
abbrev Lf.s (a : Option Addr) (n c : Nat) : Lf := ⟨1, [.slice a n c], rfl, rfl⟩
abbrev Lf.w (x : Value) (h : x.oneCell' = true) : Lf := ⟨1, [x], rfl, by simp [h]⟩
def cat : List Lf → List Value
 | [] => []
 | [p] => p.cs
 | p :: q :: l => p.cs ++ cat (q :: l)
theorem cat_cons (p : Lf) (l : List Lf) : cat (p :: l) = p.cs ++ cat l := by cases l <;> simp [cat]
def lsum : List Lf → Nat
 | [] => 0
 | p :: l => p.n + lsum l
def nth : List Lf → Nat → Option Lf
 | [], _ => none
 | p :: _, 0 => some p
 | _ :: l, i + 1 => nth l i
def fat : List Lf → Nat → Option Nat
 | [], _ => none
 | _ :: _, 0 => some 0
 | p :: l, k + 1 => match Nat.ble p.n (k + 1) with
  | true => match fat l (k + 1 - p.n) with
   | some i => some (i + 1)
   | none => none
  | false => none
theorem cat_len : ∀ l, (cat l).length = lsum l
 | [] => rfl
 | p :: l => by rw [cat_cons, List.length_append, cat_len l, p.h, lsum]
theorem cat_one : ∀ l, (cat l).all (·.oneCell') = true
 | [] => rfl
 | p :: l => by rw [cat_cons, List.all_append, p.o, cat_one l]; rfl
theorem cat_append : ∀ l m, cat (l ++ m) = cat l ++ cat m
 | [], _ => rfl
 | p :: l, m => by rw [List.cons_append, cat_cons, cat_append l m, cat_cons, List.append_assoc]
theorem fat_spec : ∀ {l : List Lf} {off i : Nat}, fat l off = some i → i < l.length ∧ (cat l).drop off = cat (l.drop i) ∧ off = lsum (l.take i)
 | [], off, i, h => by simp [fat] at h
 | p :: l, 0, i, h => by
  simp only [fat, Option.some.injEq] at h
  subst h
  exact ⟨by simp, rfl, rfl⟩
 | p :: l, k + 1, i, h => by
  unfold fat at h
  split at h
  ·rename_i hb
   have hb := Nat.le_of_ble_eq_true hb
   split at h
   ·rename_i j hj
    simp only [Option.some.injEq] at h
    subst h
    obtain ⟨h1, h2, h3⟩ := fat_spec hj
    refine ⟨by simp; omega, ?_, ?_⟩
    ·rw [cat_cons, List.drop_append, List.drop_of_length_le (by rw [p.h]; exact hb), List.nil_append, p.h, List.drop_succ_cons, h2]
    ·rw [List.take_succ_cons, lsum, ← h3]; omega
   ·cases h
  ·cases h
theorem nth_get : ∀ {l : List Lf} {i : Nat} {p : Lf}, nth l i = some p → l.drop i = p :: l.drop (i + 1)
 | [], _, _, h => by simp [nth] at h
 | q :: l, 0, p, h => by simp only [nth, Option.some.injEq] at h; subst h; rfl
 | q :: l, i + 1, p, h => by rw [List.drop_succ_cons, List.drop_succ_cons]; exact nth_get (by simpa [nth] using h)
theorem cat_part {ps : List Lf} {off i : Nat} {p : Lf} (h : fat ps off = some i) (hp : nth ps i = some p) : ((cat ps).drop off).take p.cs.length = p.cs := by
 obtain ⟨h1, h2, h3⟩ := fat_spec h
 rw [h2, nth_get hp, cat_cons, List.take_append_of_le_length (Nat.le_refl _), List.take_of_length_le (Nat.le_refl _)]
theorem cat_group {ps qs : List Lf} {off i : Nat} (h : fat ps off = some i) (hp : (ps.drop i).take qs.length = qs) : ((cat ps).drop off).take (cat qs).length = cat qs := by
 obtain ⟨h1, h2, h3⟩ := fat_spec h
 rw [h2]
 conv => lhs; rw [← List.take_append_drop qs.length (ps.drop i), hp, cat_append]
 rw [List.take_append_of_le_length (Nat.le_refl _), List.take_of_length_le (Nat.le_refl _)]
theorem cat_cell {ps : List Lf} {off i : Nat} {v : Value} {h : [v].length = 1} {o : [v].all (·.oneCell') = true} (hf : fat ps off = some i) (hp : nth ps i = some ⟨1, [v], h, o⟩) : (cat ps)[off]? = some v := by
 obtain ⟨h1, h2, h3⟩ := fat_spec hf
 have := nth_get hp
 rw [show off = off + 0 from rfl, ← List.getElem?_drop, h2, this, cat_cons]
 rfl
theorem cat_split {ps : List Lf} {off i : Nat} (h : fat ps off = some i) : (cat ps).take off = cat (ps.take i) := by
 obtain ⟨h1, h2, h3⟩ := fat_spec h
 conv => lhs; rw [← List.take_append_drop i ps, cat_append]
 have hl : (cat (ps.take i)).length = off := by rw [cat_len, ← h3]
 rw [← hl, List.take_append_of_le_length (Nat.le_refl _), List.take_of_length_le (Nat.le_refl _)]
def pput (ps : List Lf) (i n : Nat) (qs : List Lf) : List Lf := ps.take i ++ qs ++ ps.drop (i + n)
theorem lsum_append : ∀ l m, lsum (l ++ m) = lsum l + lsum m
 | [], _ => by simp [lsum]
 | p :: l, m => by rw [List.cons_append, lsum, lsum_append l m, lsum]; omega
theorem cat_put {ps qs : List Lf} {off i : Nat} (n : Nat) (h : fat ps off = some i) (hn : lsum ((ps.drop i).take n) = lsum qs) : (cat ps).take off ++ cat qs ++ (cat ps).drop (off + (cat qs).length) = cat (pput ps i n qs) := by
 obtain ⟨h1, h2, h3⟩ := fat_spec h
 rw [cat_split h, pput, cat_append, cat_append]
 congr 1
 rw [cat_len, ← List.drop_drop, h2]
 conv => lhs; rw [← List.take_append_drop n (ps.drop i), cat_append]
 have hl : (cat ((ps.drop i).take n)).length = lsum qs := by rw [cat_len, hn]
 rw [← hl, List.drop_append_of_le_length (Nat.le_refl _), List.drop_of_length_le (Nat.le_refl _), List.nil_append, List.drop_drop]
theorem put_fits {ps : List Lf} {off i : Nat} (n : Nat) (h : fat ps off = some i) : off + lsum ((ps.drop i).take n) ≤ (cat ps).length := by
 obtain ⟨h1, h2, h3⟩ := fat_spec h
 rw [cat_len]
 conv => rhs; rw [← List.take_append_drop i ps, lsum_append, ← h3, ← List.take_append_drop n (ps.drop i), lsum_append]
 omega
theorem cat1 (p : Lf) : cat [p] = p.cs := by simp [cat]
section
variable {P : Program}
theorem run_loadVar_cell (w : World) (b o : Nat) (ty : TypeId) (v : Value) (hc : w.cell? ⟨b, o, none⟩ = some v) {d : TypeDesc} (hu : P.underlying ty = some d) (hd : d.isRow = false) : (loadVar ty ⟨b, o, none⟩).run P w = .ok v w := by
 have hg : (isAgg ty).run P w = .ok false w := by
  unfold isAgg
  rw [Sem.run_bind, run_underlying hu w]
  cases d <;> simp_all
 simp [loadVar, hg, run_load, hc]
variable {ops : Array Oper} {rest : List Oper} {o : Oper} {a : Act} {w0 w : World} {Q : Exit → Act → World → Prop} {bs : List Bk}
theorem L_f1 (H : Kp (Loc w0 w bs)) (hgd : Region.wanted o (yielded ops a.tmps) = true) (ty : TypeId) (x : Operand) (ho : o.op = .load ty x) (k : Nat) {g T : Nat} {ps : List Lf} (hi : bs[k]? = some (g, T, cat ps)) (off : Nat)
  (hx : a.eval x = .pointer (some ⟨g, off, none⟩)) (i : Nat) (hf : fat ps off = some i) (v : Value) {hv ho'} (hp : nth ps i = some ⟨1, [v], hv, ho'⟩) {d : TypeDesc} (hu : P.underlying ty = some d) (hd : d.isRow = false)
  (h : wpList P ops Q rest (a.put o.dst v) w) : wpList P ops Q (o :: rest) a w := by
 refine wpList_step fun K hK => ?_
 rw [if_pos hgd]
 have hc : w.cell? ⟨g, off, none⟩ = some v := (H.out.at k hi).cell (cat_cell hf hp)
 unfold Oper.wp execOp
 simp only [ho, hx, Instr.loadAt, Instr.sureAddr, Sem.run_bind, Sem.run_pure, Result.andThen_ok, run_loadVar_cell w g off ty v hc hu hd]
 exact hK _ _ h
theorem L_fv (H : Kp (Loc w0 w bs)) (hgd : Region.wanted o (yielded ops a.tmps) = true) (ty : TypeId) (x : Operand) (ho : o.op = .load ty x) (k : Nat) {g T : Nat} {ps : List Lf} (hi : bs[k]? = some (g, T, cat ps)) (off : Nat)
  (hx : a.eval x = .pointer (some ⟨g, off, none⟩)) (i : Nat) (hf : fat ps off = some i) {n : Nat} {cs : List Value} {hn ho'} (hp : nth ps i = some ⟨n, cs, hn, ho'⟩) {d : TypeDesc} (hu : P.underlying ty = some d) (hd : d.isRow = true) (hz : (P.info? ty).map (·.size) = some n)
  (h : wpList P ops Q rest (a.put o.dst (.agg cs.toArray)) w) : wpList P ops Q (o :: rest) a w :=
 L_subG H hgd ty x ho k hi off hx cs (cat_part hf hp) hu hd (by rw [hz, hn]) h
theorem L_fg (H : Kp (Loc w0 w bs)) (hgd : Region.wanted o (yielded ops a.tmps) = true) (ty : TypeId) (x : Operand) (ho : o.op = .load ty x) (k : Nat) {g T : Nat} {ps : List Lf} (hi : bs[k]? = some (g, T, cat ps)) (off : Nat)
  (hx : a.eval x = .pointer (some ⟨g, off, none⟩)) (i : Nat) (hf : fat ps off = some i) (qs : List Lf) (hp : (ps.drop i).take qs.length = qs) {d : TypeDesc} (hu : P.underlying ty = some d) (hd : d.isRow = true) (hz : (P.info? ty).map (·.size) = some (lsum qs))
  (h : wpList P ops Q rest (a.put o.dst (.agg (cat qs).toArray)) w) : wpList P ops Q (o :: rest) a w :=
 L_subG H hgd ty x ho k hi off hx (cat qs) (cat_group hf hp) hu hd (by rw [hz, cat_len]) h
theorem L_fa (H : Kp (Loc w0 w bs)) (hgd : Region.wanted o (yielded ops a.tmps) = true) (ty : TypeId) (x : Operand) (ho : o.op = .load ty x) (k : Nat) {g T : Nat} {ps : List Lf} (hi : bs[k]? = some (g, T, cat ps))
  (hx : a.eval x = .pointer (some ⟨g, 0, none⟩)) {d : TypeDesc} (hu : P.underlying ty = some d) (hd : d.isRow = true) (hz : (P.info? ty).map (·.size) = some (lsum ps))
  (h : wpList P ops Q rest (a.put o.dst (.agg (cat ps).toArray)) w) : wpList P ops Q (o :: rest) a w :=
 L_subG H hgd ty x ho k hi 0 hx (cat ps) (by rw [List.drop_zero, List.take_of_length_le (Nat.le_refl _)]) hu hd (by rw [hz, cat_len]) h
theorem L_sg (H : Kp (Loc w0 w bs)) (hgd : o.guard = none) (hdst : o.dst = none) (ty : TypeId) (x y : Operand) (ho : o.op = .store ty x y) (k : Nat) {g T : Nat} {ps : List Lf} (hi : bs[k]? = some (g, T, cat ps)) (off : Nat)
  (hx : a.eval x = .pointer (some ⟨g, off, none⟩)) (i : Nat) (hf : fat ps off = some i) (n : Nat) (qs : List Lf) (hy : a.eval y = .agg (cat qs).toArray) (hn : lsum ((ps.drop i).take n) = lsum qs) (hz : (P.info? ty).map (·.size) = some (lsum qs)) (new : List Lf) (hnew : pput ps i n qs = new)
  (h : ∀ w', Kp (Wrote w w' g) → Kp (Loc w0 w' (bs.set k (g, T, cat new))) → wpList P ops Q rest a w') : wpList P ops Q (o :: rest) a w :=
 L_seg H hgd hdst ty x y ho k hi off hx (cat qs) hy (by rw [hz, List.size_toArray, cat_len]) (by
  have := put_fits n hf
  rw [hn] at this
  simp only [List.size_toArray]; rw [cat_len qs]; exact this) (by have := cat_one qs; simpa using this) (cat new) (by rw [cat_put n hf hn, hnew]) h
theorem L_s1 (H : Kp (Loc w0 w bs)) (hgd : o.guard = none) (hdst : o.dst = none) (ty : TypeId) (x y : Operand) (ho : o.op = .store ty x y) (k : Nat) {g T : Nat} {ps : List Lf} (hi : bs[k]? = some (g, T, cat ps)) (off : Nat)
  (hx : a.eval x = .pointer (some ⟨g, off, none⟩)) (i : Nat) (hf : fat ps off = some i) (v : Value) (hy : a.eval y = v) (h1 : v.oneCell' = true) {p : Lf} (hp : nth ps i = some p) (hn : p.n = 1) (hz : (P.info? ty).map (·.size) = some 1) (new : List Lf) (hnew : pput ps i 1 [Lf.w v h1] = new)
  (h : ∀ w', Kp (Wrote w w' g) → Kp (Loc w0 w' (bs.set k (g, T, cat new))) → wpList P ops Q rest a w') : wpList P ops Q (o :: rest) a w := by
 refine L_cell H hgd hdst ty x y ho k hi off hx v hy h1 hz ?_ (cat new) ?_ h
 ·have := put_fits 1 hf
  rw [nth_get hp] at this
  simp only [List.take_succ_cons, List.take_zero, lsum, hn] at this
  omega
 ·have h2 := cat_put (qs := [Lf.w v h1]) 1 hf (by rw [nth_get hp]; simp [lsum, hn])
  rw [hnew] at h2
  rw [← h2, cat1]
  have h3 := put_fits 1 hf
  rw [nth_get hp] at h3
  simp only [List.take_succ_cons, List.take_zero, lsum, hn] at h3
  rw [List.set_eq_take_append_cons_drop, if_pos (by omega)]
  simp
theorem L_sa (H : Kp (Loc w0 w bs)) (hgd : o.guard = none) (hdst : o.dst = none) (ty : TypeId) (x y : Operand) (ho : o.op = .store ty x y) (k : Nat) {g T : Nat} {ps : List Lf} (hi : bs[k]? = some (g, T, cat ps))
  (hx : a.eval x = .pointer (some ⟨g, 0, none⟩)) (qs : List Lf) (hy : a.eval y = .agg (cat qs).toArray) (hn : lsum ps = lsum qs) (hz : (P.info? ty).map (·.size) = some (lsum qs))
  (h : ∀ w', Kp (Wrote w w' g) → Kp (Loc w0 w' (bs.set k (g, T, cat qs))) → wpList P ops Q rest a w') : wpList P ops Q (o :: rest) a w :=
 L_store H hgd hdst ty x y ho k hi hx (cat qs) hy (by rw [hz, List.size_toArray, cat_len]) (by rw [cat_len, cat_len, hn]) (by have := cat_one qs; simpa using this) h
end
structure Hd where
 kind : Int
 sub : Int
 toDs : Bool
 fromDs : Bool
 more : Bool
 retry : Bool
 sleep : Bool
 mdata : Bool
 prot : Bool
 dur : Int
 a1 : List (BitVec 8)
 a2 : List (BitVec 8)
 a3 : List (BitVec 8)
 a4 : List (BitVec 8)
 seq : Int
 frag : Int
 tid : Int
 ack : Int
 amsdu : Bool
 eosp : Bool
deriving DecidableEq
structure Hd.Ok (h : Hd) : Prop where
 k0 : 0 ≤ h.kind
 k1 : h.kind < 256
 s0 : 0 ≤ h.sub
 s1 : h.sub < 256
 c0 : 0 ≤ h.ack
 c1 : h.ack < 256
 l1 : h.a1.length = 6
 l2 : h.a2.length = 6
 l3 : h.a3.length = 6
 l4 : h.a4.length = 6
def cellsH (h : Hd) : List Value :=
 [.int .u8 h.kind, .int .u8 h.sub, .bool h.toDs, .bool h.fromDs, .bool h.more, .bool h.retry, .bool h.sleep, .bool h.mdata, .bool h.prot, .int .i64 h.dur] ++ (h.a1.map V8 ++ (h.a2.map V8 ++ (h.a3.map V8 ++ (h.a4.map V8 ++ [.int .i64 h.seq, .int .i64 h.frag, .int .i64 h.tid, .int .u8 h.ack, .bool h.amsdu, .bool h.eosp]))))
theorem six {α : Type} {l : List α} (h : l.length = 6) : ∃ a b c d e f, l = [a, b, c, d, e, f] := by
 match l, h with
 | [a, b, c, d, e, f], _ => exact ⟨a, b, c, d, e, f, rfl⟩
def b8 (n m : Int) : Int := bits .and .u8 n m
def knownF (k s : Int) : (Bool × Bool × Bool) × Bool :=
 if k = 0 then ((true, true, false), decide (s ≤ 5) || s == 8 || (decide (10 ≤ s) && decide (s ≤ 13)))
 else if k = 1 then ((false, false, false), decide (8 ≤ s) && decide (s ≤ 13))
 else if k = 2 then ((true, true, bits .and .u8 s 8 != 0), bits .and .u8 s 3 == 0 && decide (s ≤ 12))
 else ((false, false, false), false)
def cellsFm (f : Bool × Bool × Bool) : List Value := [.bool f.1, .bool f.2.1, .bool f.2.2]
theorem known_any (k s : Int) (w : World) :
  Calls Try.prog 64 #[.int .u8 k, .int .u8 s] w fun e w' => e = .returned (.tuple #[.agg (cellsFm (knownF k s).1).toArray, .bool (knownF k s).2]) ∧ Ext w w' := by
 have H := kp (Loc.start w)
 have HZ := kp (fun f : Bool × Bool × Bool => show (Try.prog.info? 117).map (·.size) = some (cellsFm f).toArray.size by kernel_rfl)
 have HO := kp (fun f : Bool × Bool × Bool => show (cellsFm f).toArray.all (·.oneCell') = true by simp [cellsFm, Value.oneCell'])
 by_cases h0 : k = 0
 ·subst h0
  go_enter Try.func64, Try.ntmps64
  go_wp2_with (first | ((with_reducible refine isAl 4 117 ?_); (with_reducible refine L_alloc H rfl 117 rfl (cellsFm (false, false, false)) (fun _ _ => by kernel_rfl) ?_); clear H; intro g4 w4 HGg4 HEg4 H; simp only [pA]) | ((with_reducible refine isSt 117 ?_); (first | (refine L_store H rfl rfl 117 _ _ rfl 0 rfl rfl (cellsFm (true, true, false)) rfl (HZ.out _) (rfl) (HO.out _) ?_; clear H; intro wz HWwz H; simp only [szA] at H) | (refine L_store H rfl rfl 117 _ _ rfl 1 rfl rfl (cellsFm (true, true, false)) rfl (HZ.out _) (rfl) (HO.out _) ?_; clear H; intro wz HWwz H; simp only [ssA, szA] at H) | (refine L_store H rfl rfl 117 _ _ rfl 2 rfl rfl (cellsFm (true, true, false)) rfl (HZ.out _) (rfl) (HO.out _) ?_; clear H; intro wz HWwz H; simp only [ssA, szA] at H) | (refine L_store H rfl rfl 117 _ _ rfl 3 rfl rfl (cellsFm (true, true, false)) rfl (HZ.out _) (rfl) (HO.out _) ?_; clear H; intro wz HWwz H; simp only [ssA, szA] at H) | (refine L_store H rfl rfl 117 _ _ rfl 4 rfl rfl (cellsFm (true, true, false)) rfl (HZ.out _) (rfl) (HO.out _) ?_; clear H; intro wz HWwz H; simp only [ssA, szA] at H) | (refine L_store H rfl rfl 117 _ _ rfl 5 rfl rfl (cellsFm (true, true, false)) rfl (HZ.out _) (rfl) (HO.out _) ?_; clear H; intro wz HWwz H; simp only [ssA, szA] at H))))
  all_goals exact ret_row2 Try.results64 _ _ _ (0, 0) _ rfl _ rfl (H.out.at 0 rfl) Try.underlying117 rfl (HZ.out _) rfl ⟨by simp [knownF, *] <;> omega, H.out.1⟩
 by_cases h1 : k = 1
 ·subst h1
  go_enter Try.func64, Try.ntmps64
  go_wp2_with (first | ((with_reducible refine isAl 4 117 ?_); (with_reducible refine L_alloc H rfl 117 rfl (cellsFm (false, false, false)) (fun _ _ => by kernel_rfl) ?_); clear H; intro g4 w4 HGg4 HEg4 H; simp only [pA]) | ((with_reducible refine isSt 117 ?_); (first | (refine L_store H rfl rfl 117 _ _ rfl 0 rfl rfl (cellsFm (false, false, false)) rfl (HZ.out _) (rfl) (HO.out _) ?_; clear H; intro wz HWwz H; simp only [szA] at H) | (refine L_store H rfl rfl 117 _ _ rfl 1 rfl rfl (cellsFm (false, false, false)) rfl (HZ.out _) (rfl) (HO.out _) ?_; clear H; intro wz HWwz H; simp only [ssA, szA] at H) | (refine L_store H rfl rfl 117 _ _ rfl 2 rfl rfl (cellsFm (false, false, false)) rfl (HZ.out _) (rfl) (HO.out _) ?_; clear H; intro wz HWwz H; simp only [ssA, szA] at H) | (refine L_store H rfl rfl 117 _ _ rfl 3 rfl rfl (cellsFm (false, false, false)) rfl (HZ.out _) (rfl) (HO.out _) ?_; clear H; intro wz HWwz H; simp only [ssA, szA] at H) | (refine L_store H rfl rfl 117 _ _ rfl 4 rfl rfl (cellsFm (false, false, false)) rfl (HZ.out _) (rfl) (HO.out _) ?_; clear H; intro wz HWwz H; simp only [ssA, szA] at H) | (refine L_store H rfl rfl 117 _ _ rfl 5 rfl rfl (cellsFm (false, false, false)) rfl (HZ.out _) (rfl) (HO.out _) ?_; clear H; intro wz HWwz H; simp only [ssA, szA] at H))))
  all_goals exact ret_row2 Try.results64 _ _ _ (0, 0) _ rfl _ rfl (H.out.at 0 rfl) Try.underlying117 rfl (HZ.out _) rfl ⟨by simp [knownF, *] <;> omega, H.out.1⟩
 by_cases h2 : k = 2
 ·subst h2
  go_enter Try.func64, Try.ntmps64
  go_wp2_with (first | ((with_reducible refine isAl 4 117 ?_); (with_reducible refine L_alloc H rfl 117 rfl (cellsFm (false, false, false)) (fun _ _ => by kernel_rfl) ?_); clear H; intro g4 w4 HGg4 HEg4 H; simp only [pA]) | ((with_reducible refine isSt 117 ?_); (first | (refine L_store H rfl rfl 117 _ _ rfl 0 rfl rfl (cellsFm (true, true, bits .and .u8 s 8 != 0)) rfl (HZ.out _) (rfl) (HO.out _) ?_; clear H; intro wz HWwz H; simp only [szA] at H) | (refine L_store H rfl rfl 117 _ _ rfl 1 rfl rfl (cellsFm (true, true, bits .and .u8 s 8 != 0)) rfl (HZ.out _) (rfl) (HO.out _) ?_; clear H; intro wz HWwz H; simp only [ssA, szA] at H) | (refine L_store H rfl rfl 117 _ _ rfl 2 rfl rfl (cellsFm (true, true, bits .and .u8 s 8 != 0)) rfl (HZ.out _) (rfl) (HO.out _) ?_; clear H; intro wz HWwz H; simp only [ssA, szA] at H) | (refine L_store H rfl rfl 117 _ _ rfl 3 rfl rfl (cellsFm (true, true, bits .and .u8 s 8 != 0)) rfl (HZ.out _) (rfl) (HO.out _) ?_; clear H; intro wz HWwz H; simp only [ssA, szA] at H) | (refine L_store H rfl rfl 117 _ _ rfl 4 rfl rfl (cellsFm (true, true, bits .and .u8 s 8 != 0)) rfl (HZ.out _) (rfl) (HO.out _) ?_; clear H; intro wz HWwz H; simp only [ssA, szA] at H) | (refine L_store H rfl rfl 117 _ _ rfl 5 rfl rfl (cellsFm (true, true, bits .and .u8 s 8 != 0)) rfl (HZ.out _) (rfl) (HO.out _) ?_; clear H; intro wz HWwz H; simp only [ssA, szA] at H))))
  all_goals exact ret_row2 Try.results64 _ _ _ (0, 0) _ rfl _ rfl (H.out.at 0 rfl) Try.underlying117 rfl (HZ.out _) rfl ⟨by simp [knownF, *] <;> omega, H.out.1⟩
 have e0 : (k == 0) = false := by simp [h0]
 have e1 : (k == 1) = false := by simp [h1]
 have e2 : (k == 2) = false := by simp [h2]
 go_enter Try.func64, Try.ntmps64
 go_wp2_with (first | ((with_reducible refine isAl 4 117 ?_); (with_reducible refine L_alloc H rfl 117 rfl (cellsFm (false, false, false)) (fun _ _ => by kernel_rfl) ?_); clear H; intro g4 w4 HGg4 HEg4 H; simp only [pA]) | ((with_reducible refine isSt 117 ?_); (first | (refine L_store H rfl rfl 117 _ _ rfl 0 rfl rfl (cellsFm (false, false, false)) rfl (HZ.out _) (rfl) (HO.out _) ?_; clear H; intro wz HWwz H; simp only [szA] at H) | (refine L_store H rfl rfl 117 _ _ rfl 1 rfl rfl (cellsFm (false, false, false)) rfl (HZ.out _) (rfl) (HO.out _) ?_; clear H; intro wz HWwz H; simp only [ssA, szA] at H) | (refine L_store H rfl rfl 117 _ _ rfl 2 rfl rfl (cellsFm (false, false, false)) rfl (HZ.out _) (rfl) (HO.out _) ?_; clear H; intro wz HWwz H; simp only [ssA, szA] at H) | (refine L_store H rfl rfl 117 _ _ rfl 3 rfl rfl (cellsFm (false, false, false)) rfl (HZ.out _) (rfl) (HO.out _) ?_; clear H; intro wz HWwz H; simp only [ssA, szA] at H) | (refine L_store H rfl rfl 117 _ _ rfl 4 rfl rfl (cellsFm (false, false, false)) rfl (HZ.out _) (rfl) (HO.out _) ?_; clear H; intro wz HWwz H; simp only [ssA, szA] at H) | (refine L_store H rfl rfl 117 _ _ rfl 5 rfl rfl (cellsFm (false, false, false)) rfl (HZ.out _) (rfl) (HO.out _) ?_; clear H; intro wz HWwz H; simp only [ssA, szA] at H))))
 all_goals exact ret_row2 Try.results64 _ _ _ (0, 0) _ rfl _ rfl (H.out.at 0 rfl) Try.underlying117 rfl (HZ.out _) rfl ⟨by simp [knownF, *] <;> omega, H.out.1⟩
end Go.Proofs.Ytfecopfofkdnpaa
