/- Texts of this proof, put together: Com, Lc. -/
import Derived.Test.YtibncchobkaaiaaProg
import Derived.Test.YtibncchobkaaiaaM3
import Derived.Test.YtibncchobkaaiaaM1
namespace Go.Proofs.Ytibncchobkaaiaa
open Go.RowKit
section
variable {P : Program}
theorem ret_bool {a b : Bool} (h : a = b) : Ending.returned (.bool a) = .returned (.bool b) := by rw [h]
theorem take_step {α : Type} {l m : List α} {k : Nat} {x : α} (h : l.take k = m.take k) (hl : l[k]? = some x) (hm : m[k]? = some x) : l.take (k + 1) = m.take (k + 1) := by
 rw [List.take_add_one, List.take_add_one, h, hl, hm]
theorem wI_ofInt8 (n : Int) : wI (BitVec.ofInt 8 n) = n % 256 := by
 unfold wI; rw [BitVec.toNat_ofInt]; omega
def Parts (w : World) (vs : List Value) (ls : List (List (BitVec 8))) : Prop := vs.length = ls.length ∧ ∀ (j : Nat) v l, vs[j]? = some v → ls[j]? = some l → SlB w v l
theorem Parts.ext {w w' : World} {vs : List Value} {ls : List (List (BitVec 8))} (h : Parts w vs ls) (hx : Ext w w') : Parts w' vs ls :=
 ⟨h.1, fun j v l h1 h2 => (h.2 j v l h1 h2).ext hx⟩
theorem parts5 {w : World} {v0 v1 v2 v3 v4 : Value} {l0 l1 l2 l3 l4 : List (BitVec 8)} (h0 : SlB w v0 l0) (h1 : SlB w v1 l1) (h2 : SlB w v2 l2) (h3 : SlB w v3 l3) (h4 : SlB w v4 l4) : Parts w [v0, v1, v2, v3, v4] [l0, l1, l2, l3, l4] := by
 refine ⟨rfl, fun j v l hv hl => ?_⟩
 match j with
 | 0 => cases hv; cases hl; exact h0
 | 1 => cases hv; cases hl; exact h1
 | 2 => cases hv; cases hl; exact h2
 | 3 => cases hv; cases hl; exact h3
 | 4 => cases hv; cases hl; exact h4
 | n + 5 => simp at hv
theorem flat_take_le (ls : List (List (BitVec 8))) (k : Nat) : (ls.take k).flatten.length ≤ ls.flatten.length := by
 conv => rhs; rw [← List.take_append_drop k ls, List.flatten_append, List.length_append]
 omega
theorem info_u8 : (Try.prog.info? 5).map (fun i => (i.zero, i.size, i.bytes)) = some (some (.int .u8 0), 1, 1) := by kernel_rfl
theorem SlB.at {w : World} {ad : Option Addr} {n cap : Nat} {l : List (BitVec 8)} (h : SlB w (.slice ad n cap) l) (j : Nat) (x : BitVec 8) (hj : l[j]? = some x) : ∃ b off, ad = some ⟨b, off, none⟩ ∧ b < w.heap.size ∧ w.cell? ⟨b, off + j, none⟩ = some (V8 x) := by
 rcases h with ⟨rfl, _⟩ | ⟨b, off, cap', hv, hb, hc⟩
 ·simp at hj
 ·cases hv
  exact ⟨b, off, rfl, hb, hc j x hj⟩
def tabS : List (Tmp × (Value → World → Prop)) → Tmp → Value → World → Prop
 | [], _, _, _ => True
 | p :: l, d, v, w => if d = p.1 then p.2 v w else tabS l d v w
def Mono (φ : Value → World → Prop) : Prop := ∀ v w w', φ v w → Ext w w' → φ v w'
theorem tabS_mono : ∀ (l : List (Tmp × (Value → World → Prop))), (∀ p ∈ l, Mono p.2) → ∀ d v w w', tabS l d v w → Ext w w' → tabS l d v w'
 | [], _, _, _, _, _, _, _ => trivial
 | p :: l, h, d, v, w, w', h1, hx => by
  unfold tabS at h1 ⊢
  split
  ·rename_i hd; rw [if_pos hd] at h1; exact h p (by simp) v w w' h1 hx
  ·rename_i hd; rw [if_neg hd] at h1; exact tabS_mono l (fun q hq => h q (by simp [hq])) d v w w' h1 hx
theorem mono_eq (u : Value) : Mono (fun v _ => v = u) := fun _ _ _ h _ => h
theorem mono_SlB (l : List (BitVec 8)) : Mono (fun v w => SlB w v l) := fun _ _ _ h hx => h.ext hx
theorem owns_ext {w w' : World} {base E n : Nat} {v : Value} {xs : List Value} (h : w.ownsRow base E 1 v n xs) (hx : Ext w w') : w'.ownsRow base E 1 v n xs := by
 obtain ⟨h1, h2⟩ := h
 rcases h2 with ⟨rfl, rfl⟩ | ⟨g, cap, cur, rfl, hb, hg, a, b, c, ht⟩
 ·exact ⟨h1, .inl ⟨rfl, rfl⟩⟩
 ·exact ⟨h1, .inr ⟨g, cap, cur, rfl, hb, ext_heap hx hg, a, b, c, ht⟩⟩
theorem owns_cap {w : World} {base E n m cap : Nat} {ad : Option Addr} {xs : List Value} (h : w.ownsRow base E 1 (.slice ad m cap) n xs) : m ≤ cap := by
 obtain ⟨h1, h2⟩ := h
 rcases h2 with ⟨h3, _⟩ | ⟨g, cap', cur, h3, hb, hg, a, b, c, ht⟩
 ·cases h3; exact Nat.le_refl _
 ·cases h3; omega
theorem SlB.take {w : World} {ad : Option Addr} {m cap n cap' : Nat} {l : List (BitVec 8)} (h : SlB w (.slice ad m cap) l) (hn : n ≤ l.length) (hc : ad = none → cap' = 0) : SlB w (.slice ad n cap') (l.take n) := by
 have hl : (l.take n).length = n := by rw [List.length_take]; omega
 rcases h with ⟨rfl, h⟩ | ⟨b, off, cp, hv, hb, hc2⟩
 ·have : n = 0 := by simpa using hn
  subst this
  refine .inl ⟨by simp, ?_⟩
  rcases h with h | ⟨a, c, h⟩
  ·cases h; left; rw [hc rfl]
  ·cases h; exact .inr ⟨_, _, rfl⟩
 ·cases hv
  refine .inr ⟨b, off, cap', by rw [hl], hb, fun j x hj => hc2 j x ?_⟩
  rw [List.getElem?_take] at hj
  split at hj
  ·exact hj
  ·cases hj
theorem info_iu : ∃ iu, Try.prog.info? 5 = some iu ∧ iu.zero = some (.int .u8 0) ∧ iu.size = 1 ∧ iu.bytes = 1 := by
 have h := info_u8
 cases hq : Try.prog.info? 5 with
 | none => simp [hq] at h
 | some iu => simp [hq] at h; exact ⟨iu, rfl, h⟩
def RetO (l : List (BitVec 8)) (w : World) (e : Ending) (w' : World) : Prop := ∃ v, e = .returned v ∧ w'.ownsRow w.heap.size 5 1 v l.length (l.map V8) ∧ Ext w w'
theorem V8_ofInt (n : Int) : V8 (BitVec.ofInt 8 n) = .int .u8 (n % 256) := by unfold V8; rw [wI_ofInt8]
def sliceLen : Value → Nat
 | .slice _ n _ => n
 | _ => 0
theorem owns_empty (w : World) (base : Nat) (hb : base ≤ w.heap.size) : (w.alloc (.cells #[] 5)).ownsRow base 5 1 (.slice (some ⟨w.heap.size, 0, none⟩) 0 0) ([] : List (BitVec 8)).length (([] : List (BitVec 8)).map V8) :=
 ⟨rfl, .inr ⟨w.heap.size, 0, #[], rfl, hb, hp_new _ _, Nat.le_refl _, Nat.zero_le _, rfl, rfl⟩⟩
theorem owns_base {w : World} {base base' E n : Nat} {v : Value} {xs : List Value} (h : w.ownsRow base E 1 v n xs) (hb : base' ≤ base) : w.ownsRow base' E 1 v n xs := by
 obtain ⟨h1, h2⟩ := h
 rcases h2 with h2 | ⟨g, cap, cur, h3, hg, h4⟩
 ·exact ⟨h1, .inl h2⟩
 ·exact ⟨h1, .inr ⟨g, cap, cur, h3, Nat.le_trans hb hg, h4⟩⟩
theorem SlB.nil_cap {w : World} {n cap : Nat} {l : List (BitVec 8)} (h : SlB w (.slice none n cap) l) : cap = 0 := by
 rcases h with ⟨_, h | ⟨a, c, h⟩⟩ | ⟨b, off, c, h, _⟩
 ·cases h; rfl
 ·cases h
 ·cases h
theorem results_cell_tmp_row {fn : Func} {p q : Tmp} {ty : TypeId} (h : fn.results = #[.cell p ty, .tmp q]) (tmps : Array Value) (w : World) (g : Nat) (t : TypeId) (cs : Array Value) (fr : Nat × Nat) (d : TypeDesc)
  (hp : tmps.getD p undef = .pointer (some ⟨g, 0, none⟩)) (v : Value) (hv : tmps.getD q undef = v) (hg : w.heap[g]? = some (.cells cs t fr))
  (hu : P.underlying ty = some d) (hd : (match d with | .struct _ | .array _ _ => true | _ => false) = true) (hi : (P.info? ty).map (·.size) = some cs.size) :
  (results fn tmps).run P w = .ok (.tuple #[.agg cs, v]) w := by
 have hp' : tmps[p]?.getD undef = .pointer (some ⟨g, 0, none⟩) := by simpa using hp
 have hv' : tmps[q]?.getD undef = v := by simpa using hv
 simp [results, h, hp', hv', asAddr, run_loadVar_row w g t ty cs fr d hg hu hd hi]
theorem ret_row2 {fn : Func} {R : Ending → World → Prop} {a : Act} {w : World} {p q : Tmp} {ty : TypeId} (h : fn.results = #[.cell p ty, .tmp q]) (g : Nat) (t : TypeId) (cs : Array Value) (fr : Nat × Nat) (d : TypeDesc)
  (hp : a.tmps.getD p undef = .pointer (some ⟨g, 0, none⟩)) (v : Value) (hv : a.tmps.getD q undef = v) (hg : w.heap[g]? = some (.cells cs t fr))
  (hu : P.underlying ty = some d) (hd : (match d with | .struct _ | .array _ _ => true | _ => false) = true) (hi : (P.info? ty).map (·.size) = some cs.size)
  (hdf : a.defers = []) (hR : R (.returned (.tuple #[.agg cs, v])) w) : bodyPost P fn R .ret a w :=
 bodyPost_ret (results_cell_tmp_row h a.tmps w g t cs fr d hp v hv hg hu hd hi) hdf hR
theorem wpList_cpS {ops : Array Oper} {rest : List Oper} {o : Oper} {a : Act} {w w' : World} {Q : Exit → Act → World → Prop} (hgd : o.guard = none) (d s : Operand) (dT sT : TypeId)
  (ho : o.op = .call { callee := .builtin .copy, args := #[d, s], argTypes := #[dT, sT] }) (elem : TypeId) (hu : P.underlying dT = some (.slice elem)) (hsz : (P.info? elem).map (·.size) = some 1)
  (g off dLen dCap : Nat) (hd : a.eval d = .slice (some ⟨g, off, none⟩) dLen dCap) (y : Value) (hs : a.eval s = y) (m : List (BitVec 8)) (hy : SlB w y m)
  (cur : List Value) (t : TypeId) (hg : w.heap[g]? = some (.cells cur.toArray t (0, 0)))
  (n : Nat) (hn : n = Nat.min m.length dLen) (hfit : off + n ≤ cur.length)
  (new : List Value) (hnew : cur.take off ++ ((m.map V8).take n ++ cur.drop (off + n)) = new) (hw : w.setRow g new.toArray = w')
  (h : wpList P ops Q rest (a.put o.dst (goInt n)) w') : wpList P ops Q (o :: rest) a w := by
 have hl : ((m.map V8).take n).length = n := by
  rw [List.length_take, List.length_map]; have := Nat.min_le_left m.length dLen; have h2 : Nat.min m.length dLen = min m.length dLen := rfl; omega
 have same : n = 0 → w' = w := by
  rintro rfl
  rw [← hw, ← hnew]
  simp only [List.take_zero, List.nil_append, Nat.add_zero, List.take_append_drop]
  unfold World.setRow
  congr 1
  refine Array.ext_getElem? fun j => ?_
  rw [Array.getElem?_modify]
  split
  ·subst_vars; rw [hg]; rfl
  ·rfl
 rcases hy with ⟨rfl, hv⟩ | ⟨b, o2, cap, rfl, hb, hc⟩
 ·have hn0 : n = 0 := by rw [hn]; exact Nat.zero_min dLen
  have hw2 := same hn0
  subst hn0
  rw [hw2] at h
  rcases hv with rfl | ⟨ad, cap, rfl⟩
  ·exact wpList_copy_nothing hgd d s dT sT ho elem hu hsz _ _ _ _ _ _ hd hs (Nat.zero_min dLen) h
  ·exact wpList_copy_nothing hgd d s dT sT ho elem hu hsz _ _ _ _ _ _ hd hs (Nat.zero_min dLen) h
 ·refine wpList_copy_own hgd d s dT sT ho elem hu hsz g off dLen dCap ⟨b, o2, none⟩ m.length cap hd hs cur.toArray t hg ((m.map V8).take n) (by rw [hl]; exact hn) ?_ (by simpa [hl] using hfit) ?_ ?_
  ·intro j v hv
   rw [Addr.add_mid]
   rw [List.getElem?_take] at hv
   split at hv
   ·rw [List.getElem?_map] at hv
    cases hm : m[j]? with
    | none => simp [hm] at hv
    | some z => simp [hm] at hv; subst hv; exact hc j z hm
   ·cases hv
  ·intro v hv
   exact mem_V8 m v (List.mem_of_mem_take hv)
  ·rw [hl]
   have e : (cur.toArray.toList.take off ++ ((m.map V8).take n ++ cur.toArray.toList.drop (off + n))) = new := by simpa using hnew
   rw [e, hw]; exact h
end
end Go.Proofs.Ytibncchobkaaiaa
namespace Go.Proofs.Ytibncchobkaaiaa
open Go.RowKit
theorem setRow_same {w : World} {g : Nat} {cs : Array Value} {t : TypeId} {fr : Nat × Nat} (h : w.heap[g]? = some (.cells cs t fr)) : w.setRow g cs = w := by
 unfold World.setRow
 congr 1
 refine Array.ext_getElem? fun j => ?_
 rw [Array.getElem?_modify]
 split
 ·subst_vars; rw [h]; rfl
 ·rfl
theorem setRow_setRow (w : World) (g : Nat) (cs cs' : Array Value) : (w.setRow g cs).setRow g cs' = w.setRow g cs' := by
 unfold World.setRow
 congr 1
 refine Array.ext_getElem? fun j => ?_
 simp only [Array.getElem?_modify]
 split
 ·cases w.heap[j]? with
  | none => rfl
  | some o => cases o <;> rfl
 ·rfl
theorem setRow_size (w : World) (g : Nat) (cs : Array Value) : (w.setRow g cs).heap.size = w.heap.size := by simp [World.setRow]
theorem setRow_setCell {w : World} {g i : Nat} {cs : Array Value} {t : TypeId} (v : Value) (h : w.heap[g]? = some (.cells cs t (0, 0))) : w.setCell ⟨g, i, none⟩ v = w.setRow g (cs.setIfInBounds i v) := by
 unfold World.setRow World.setCell
 congr 1
 refine Array.ext_getElem? fun j => ?_
 simp only [Array.getElem?_modify]
 split
 ·rename_i e; subst e; rw [h]; rfl
 ·rfl
theorem ext_setRow2 {w w' : World} (h : Ext w w') {g : Nat} (hg : g < w.heap.size) (cs : Array Value) : Ext (w.setRow g cs) (w'.setRow g cs) := by
 obtain ⟨x, rfl⟩ := h
 exact ⟨x, setRow_more w x cs g hg⟩
abbrev Lc (w : World) (g : Nat) (T : TypeId) (cs : List Value) : Prop := w.heap[g]? = some (.cells cs.toArray T (0, 0))
theorem Lc.ext {w w' : World} {g T : Nat} {cs : List Value} (h : Lc w g T cs) (hx : Ext w w') : Lc w' g T cs := ext_heap hx h
theorem Lc.lt {w : World} {g T : Nat} {cs : List Value} (h : Lc w g T cs) : g < w.heap.size := (Array.getElem?_eq_some_iff.1 h).1
theorem Lc.new (w : World) (T : TypeId) (cs : List Value) : Lc (w.alloc (.cells cs.toArray T)) w.heap.size T cs := hp_new w _
theorem Lc.set {w : World} {g T : Nat} {cs : List Value} (h : Lc w g T cs) (ds : List Value) : Lc (w.setRow g ds.toArray) g T ds := setRow_heap w g _ ds.toArray T (0, 0) h
theorem Lc.other {w : World} {g b T : Nat} {cs : List Value} (h : Lc w b T cs) (hne : b ≠ g) (ds : Array Value) : Lc (w.setRow g ds) b T cs := (setRow_other w g b ds hne).trans h
theorem Lc.cell {w : World} {g T i : Nat} {cs : List Value} {v : Value} (h : Lc w g T cs) (hi : cs[i]? = some v) : w.cell? ⟨g, i, none⟩ = some v := by
 rw [cell_of_row w g i _ _ (0, 0) h]; simpa using hi
theorem Lc.range {w : World} {g T o : Nat} {cs ds : List Value} (h : Lc w g T cs) (hd : (cs.drop o).take ds.length = ds) : w.rangeAt g o ds := fun j v hv => by
 refine h.cell ?_
 have hj := (List.getElem?_eq_some_iff.1 hv).1
 rw [← hd, List.getElem?_take, if_pos hj, List.getElem?_drop] at hv
 exact hv
theorem Lc.setCell {w : World} {g T i : Nat} {cs : List Value} (h : Lc w g T cs) (v : Value) : w.setCell ⟨g, i, none⟩ v = w.setRow g (cs.set i v).toArray := by
 rw [setRow_setCell v h]; simp
theorem cell_setRow {w : World} {g b i : Nat} {ds : Array Value} (hne : b ≠ g) : (w.setRow g ds).cell? ⟨b, i, none⟩ = w.cell? ⟨b, i, none⟩ := by
 have h := setRow_other w g b ds hne
 simp only [World.cell?, h]
section
variable {P : Program}
theorem wpList_st_cell {ops : Array Oper} {rest : List Oper} {o : Oper} {a : Act} {w : World} {Q : Exit → Act → World → Prop} (hgd : o.guard = none) (hdst : o.dst = none) (ty : TypeId) (x y : Operand) (ho : o.op = .store ty x y)
  (g i : Nat) (v : Value) (hx : a.eval x = .pointer (some ⟨g, i, none⟩)) (hy : a.eval y = v) (h1 : v.oneCell' = true) (hi : (P.info? ty).map (·.size) = some 1)
  (t : TypeId) (old new : List Value) (hg : Lc w g t old) (hf : i < old.length) (hn : old.set i v = new)
  (h : wpList P ops Q rest a (w.setRow g new.toArray)) : wpList P ops Q (o :: rest) a w := by
 refine wpList_plain hgd fun K hK => ?_
 have hs := run_storeCells_at (P := P) g i t [v] 0 old.toArray w hg (by simp; omega) (fun u hu => by simp at hu; subst hu; exact h1)
 have hnew : (old.toArray.toList.take (i + 0) ++ [v] ++ old.toArray.toList.drop (i + 0 + [v].length)).toArray = new.toArray := by
  rw [← hn]; simp [List.set_eq_take_append_cons_drop, hf]
 rw [hnew] at hs
 have hv : (storeVar ty ⟨g, i, none⟩ v).run P w = .ok () (w.setRow g new.toArray) := by
  cases hq : P.info? ty with
  | none => simp [hq] at hi
  | some k =>
   have hz : k.size = 1 := by simpa [hq] using hi
   have hcl : v.cells = #[v] := by cases v <;> first | rfl | simp [Value.oneCell'] at h1
   simp [storeVar, sizeOf, typeInfo, hq, hz, hcl] at hs ⊢
   simpa using hs
 unfold Oper.wp execOp
 simp only [ho, hx, hy, Instr.storeAt, Instr.sureAddr, Sem.run_bind, Sem.run_pure, Result.andThen_ok, hv]
 show K (a.put o.dst undef) _
 rw [hdst]
 exact hK _ _ h
end
section
variable {P : Program}
theorem wpList_st_seg {ops : Array Oper} {rest : List Oper} {o : Oper} {a : Act} {w w' : World} {Q : Exit → Act → World → Prop} (hgd : o.guard = none) (hdst : o.dst = none) (ty : TypeId) (x y : Operand) (ho : o.op = .store ty x y)
  (g off : Nat) (cells : Array Value) (hx : a.eval x = .pointer (some ⟨g, off, none⟩)) (hy : a.eval y = .agg cells)
  (t : TypeId) (old : Array Value) (hg : w.heap[g]? = some (.cells old t (0, 0))) (hi : (P.info? ty).map (·.size) = some cells.size)
  (hfit : off + cells.size ≤ old.size) (h1 : cells.all (·.oneCell') = true) (new : Array Value)
  (hnew : (old.toList.take off ++ cells.toList ++ old.toList.drop (off + cells.size)).toArray = new) (hw : w.setRow g new = w')
  (h : wpList P ops Q rest a w') : wpList P ops Q (o :: rest) a w := by
 refine wpList_plain hgd fun K hK => ?_
 have hs := run_storeCells_at (P := P) g off t cells.toList 0 old w hg (by simpa using hfit) (fun v hv => (Array.all_eq_true_iff_forall_mem.1 h1) v (by simpa using hv))
 simp only [Nat.add_zero, Array.length_toList, hnew, hw] at hs
 have hv : (storeVar ty ⟨g, off, none⟩ (.agg cells)).run P w = .ok () w' := by
  cases hq : P.info? ty with
  | none => simp [hq] at hi
  | some i =>
   have hz : cells.size = i.size := by simp [hq] at hi; omega
   simp [storeVar, sizeOf, typeInfo, hq, Value.cells, hz, hs]
 unfold Oper.wp execOp
 simp only [ho, hx, hy, Instr.storeAt, Instr.sureAddr, Sem.run_bind, Sem.run_pure, Result.andThen_ok, hv]
 show K (a.put o.dst undef) w'
 rw [hdst]
 exact hK _ _ h
end
end Go.Proofs.Ytibncchobkaaiaa
