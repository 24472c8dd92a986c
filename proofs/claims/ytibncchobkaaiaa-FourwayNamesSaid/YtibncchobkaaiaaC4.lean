/- Texts of this proof, put together: Com, Lc, Late, Loc, Opn. -/
import Derived.Test.YtibncchobkaaiaaProg
import Derived.Test.YtibncchobkaaiaaC3
import Derived.Test.YtibncchobkaaiaaC2
import Derived.Test.YtibncchobkaaiaaC1
import Derived.ChangeArms
import Derived.Deep.Slices
namespace Go.Proofs.Ytibncchobkaaiaa
open Go.RowKit
section
variable {P : Program}
theorem ret_bool {a b : Bool} (h : a = b) : Ending.returned (.bool a) = .returned (.bool b) := by rw [h]
theorem wI_ofInt8 (n : Int) : wI (BitVec.ofInt 8 n) = n % 256 := by
 unfold wI; rw [BitVec.toNat_ofInt]; omega
def Parts (w : World) (vs : List Value) (ls : List (List (BitVec 8))) : Prop := vs.length = ls.length ∧ ∀ (j : Nat) v l, vs[j]? = some v → ls[j]? = some l → SlB w v l
theorem Parts.ext {w w' : World} {vs : List Value} {ls : List (List (BitVec 8))} (h : Parts w vs ls) (hx : Ext w w') : Parts w' vs ls :=
 ⟨h.1, fun j v l h1 h2 => (h.2 j v l h1 h2).ext hx⟩
theorem parts5 {w : World} {v0 v1 v2 v3 v4 : Value} {l0 l1 l2 l3 l4 : List (BitVec 8)} (h0 : SlB w v0 l0) (h1 : SlB w v1 l1) (h2 : SlB w v2 l2) (h3 : SlB w v3 l3) (h4 : SlB w v4 l4) : Parts w [v0, v1, v2, v3, v4] [l0, l1, l2, l3, l4] := by
 refine ⟨rfl, fun j v l hv hl => ?_⟩
 match j with
 | 0 => cases hv; cases hl; exact h0
 | 1 => cases hv; cases hl; exact h1
 | 2 => cases hv; cases hl; exact h2
 | 3 => cases hv; cases hl; exact h3
 | 4 => cases hv; cases hl; exact h4
 | n + 5 => simp at hv
theorem flat_take_le (ls : List (List (BitVec 8))) (k : Nat) : (ls.take k).flatten.length ≤ ls.flatten.length := by
 conv => rhs; rw [← List.take_append_drop k ls, List.flatten_append, List.length_append]
 omega
theorem info_u8 : (Try.prog.info? 5).map (fun i => (i.zero, i.size, i.bytes)) = some (some (.int .u8 0), 1, 1) := by kernel_rfl
theorem SlB.at {w : World} {ad : Option Addr} {n cap : Nat} {l : List (BitVec 8)} (h : SlB w (.slice ad n cap) l) (j : Nat) (x : BitVec 8) (hj : l[j]? = some x) : ∃ b off, ad = some ⟨b, off, none⟩ ∧ b < w.heap.size ∧ w.cell? ⟨b, off + j, none⟩ = some (V8 x) := by
 rcases h with ⟨rfl, _⟩ | ⟨b, off, cap', hv, hb, hc⟩
 ·simp at hj
 ·cases hv
  exact ⟨b, off, rfl, hb, hc j x hj⟩
def tabS : List (Tmp × (Value → World → Prop)) → Tmp → Value → World → Prop
 | [], _, _, _ => True
 | p :: l, d, v, w => if d = p.1 then p.2 v w else tabS l d v w
def Mono (φ : Value → World → Prop) : Prop := ∀ v w w', φ v w → Ext w w' → φ v w'
theorem tabS_mono : ∀ (l : List (Tmp × (Value → World → Prop))), (∀ p ∈ l, Mono p.2) → ∀ d v w w', tabS l d v w → Ext w w' → tabS l d v w'
 | [], _, _, _, _, _, _, _ => trivial
 | p :: l, h, d, v, w, w', h1, hx => by
  unfold tabS at h1 ⊢
  split
  ·rename_i hd; rw [if_pos hd] at h1; exact h p (by simp) v w w' h1 hx
  ·rename_i hd; rw [if_neg hd] at h1; exact tabS_mono l (fun q hq => h q (by simp [hq])) d v w w' h1 hx
theorem mono_eq (u : Value) : Mono (fun v _ => v = u) := fun _ _ _ h _ => h
theorem mono_SlB (l : List (BitVec 8)) : Mono (fun v w => SlB w v l) := fun _ _ _ h hx => h.ext hx
theorem owns_ext {w w' : World} {base E n : Nat} {v : Value} {xs : List Value} (h : w.ownsRow base E 1 v n xs) (hx : Ext w w') : w'.ownsRow base E 1 v n xs := by
 obtain ⟨h1, h2⟩ := h
 rcases h2 with ⟨rfl, rfl⟩ | ⟨g, cap, cur, rfl, hb, hg, a, b, c, ht⟩
 ·exact ⟨h1, .inl ⟨rfl, rfl⟩⟩
 ·exact ⟨h1, .inr ⟨g, cap, cur, rfl, hb, ext_heap hx hg, a, b, c, ht⟩⟩
theorem owns_cap {w : World} {base E n m cap : Nat} {ad : Option Addr} {xs : List Value} (h : w.ownsRow base E 1 (.slice ad m cap) n xs) : m ≤ cap := by
 obtain ⟨h1, h2⟩ := h
 rcases h2 with ⟨h3, _⟩ | ⟨g, cap', cur, h3, hb, hg, a, b, c, ht⟩
 ·cases h3; exact Nat.le_refl _
 ·cases h3; omega
theorem SlB.take {w : World} {ad : Option Addr} {m cap n cap' : Nat} {l : List (BitVec 8)} (h : SlB w (.slice ad m cap) l) (hn : n ≤ l.length) (hc : ad = none → cap' = 0) : SlB w (.slice ad n cap') (l.take n) := by
 have hl : (l.take n).length = n := by rw [List.length_take]; omega
 rcases h with ⟨rfl, h⟩ | ⟨b, off, cp, hv, hb, hc2⟩
 ·have : n = 0 := by simpa using hn
  subst this
  refine .inl ⟨by simp, ?_⟩
  rcases h with h | ⟨a, c, h⟩
  ·cases h; left; rw [hc rfl]
  ·cases h; exact .inr ⟨_, _, rfl⟩
 ·cases hv
  refine .inr ⟨b, off, cap', by rw [hl], hb, fun j x hj => hc2 j x ?_⟩
  rw [List.getElem?_take] at hj
  split at hj
  ·exact hj
  ·cases hj
theorem info_iu : ∃ iu, Try.prog.info? 5 = some iu ∧ iu.zero = some (.int .u8 0) ∧ iu.size = 1 ∧ iu.bytes = 1 := by
 have h := info_u8
 cases hq : Try.prog.info? 5 with
 | none => simp [hq] at h
 | some iu => simp [hq] at h; exact ⟨iu, rfl, h⟩
def RetO (l : List (BitVec 8)) (w : World) (e : Ending) (w' : World) : Prop := ∃ v, e = .returned v ∧ w'.ownsRow w.heap.size 5 1 v l.length (l.map V8) ∧ Ext w w'
theorem V8_ofInt (n : Int) : V8 (BitVec.ofInt 8 n) = .int .u8 (n % 256) := by unfold V8; rw [wI_ofInt8]
def sliceLen : Value → Nat
 | .slice _ n _ => n
 | _ => 0
theorem owns_empty (w : World) (base : Nat) (hb : base ≤ w.heap.size) : (w.alloc (.cells #[] 5)).ownsRow base 5 1 (.slice (some ⟨w.heap.size, 0, none⟩) 0 0) ([] : List (BitVec 8)).length (([] : List (BitVec 8)).map V8) :=
 ⟨rfl, .inr ⟨w.heap.size, 0, #[], rfl, hb, hp_new _ _, Nat.le_refl _, Nat.zero_le _, rfl, rfl⟩⟩
theorem owns_base {w : World} {base base' E n : Nat} {v : Value} {xs : List Value} (h : w.ownsRow base E 1 v n xs) (hb : base' ≤ base) : w.ownsRow base' E 1 v n xs := by
 obtain ⟨h1, h2⟩ := h
 rcases h2 with h2 | ⟨g, cap, cur, h3, hg, h4⟩
 ·exact ⟨h1, .inl h2⟩
 ·exact ⟨h1, .inr ⟨g, cap, cur, h3, Nat.le_trans hb hg, h4⟩⟩
theorem SlB.nil_cap {w : World} {n cap : Nat} {l : List (BitVec 8)} (h : SlB w (.slice none n cap) l) : cap = 0 := by
 rcases h with ⟨_, h | ⟨a, c, h⟩⟩ | ⟨b, off, c, h, _⟩
 ·cases h; rfl
 ·cases h
 ·cases h
theorem results_cell_tmp_row {fn : Func} {p q : Tmp} {ty : TypeId} (h : fn.results = #[.cell p ty, .tmp q]) (tmps : Array Value) (w : World) (g : Nat) (t : TypeId) (cs : Array Value) (fr : Nat × Nat) (d : TypeDesc)
  (hp : tmps.getD p undef = .pointer (some ⟨g, 0, none⟩)) (v : Value) (hv : tmps.getD q undef = v) (hg : w.heap[g]? = some (.cells cs t fr))
  (hu : P.underlying ty = some d) (hd : (match d with | .struct _ | .array _ _ => true | _ => false) = true) (hi : (P.info? ty).map (·.size) = some cs.size) :
  (results fn tmps).run P w = .ok (.tuple #[.agg cs, v]) w := by
 have hp' : tmps[p]?.getD undef = .pointer (some ⟨g, 0, none⟩) := by simpa using hp
 have hv' : tmps[q]?.getD undef = v := by simpa using hv
 simp [results, h, hp', hv', asAddr, run_loadVar_row w g t ty cs fr d hg hu hd hi]
theorem ret_row2 {fn : Func} {R : Ending → World → Prop} {a : Act} {w : World} {p q : Tmp} {ty : TypeId} (h : fn.results = #[.cell p ty, .tmp q]) (g : Nat) (t : TypeId) (cs : Array Value) (fr : Nat × Nat) (d : TypeDesc)
  (hp : a.tmps.getD p undef = .pointer (some ⟨g, 0, none⟩)) (v : Value) (hv : a.tmps.getD q undef = v) (hg : w.heap[g]? = some (.cells cs t fr))
  (hu : P.underlying ty = some d) (hd : (match d with | .struct _ | .array _ _ => true | _ => false) = true) (hi : (P.info? ty).map (·.size) = some cs.size)
  (hdf : a.defers = []) (hR : R (.returned (.tuple #[.agg cs, v])) w) : bodyPost P fn R .ret a w :=
 bodyPost_ret (results_cell_tmp_row h a.tmps w g t cs fr d hp v hv hg hu hd hi) hdf hR
theorem wpList_cpS {ops : Array Oper} {rest : List Oper} {o : Oper} {a : Act} {w w' : World} {Q : Exit → Act → World → Prop} (hgd : o.guard = none) (d s : Operand) (dT sT : TypeId)
  (ho : o.op = .call { callee := .builtin .copy, args := #[d, s], argTypes := #[dT, sT] }) (elem : TypeId) (hu : P.underlying dT = some (.slice elem)) (hsz : (P.info? elem).map (·.size) = some 1)
  (g off dLen dCap : Nat) (hd : a.eval d = .slice (some ⟨g, off, none⟩) dLen dCap) (y : Value) (hs : a.eval s = y) (m : List (BitVec 8)) (hy : SlB w y m)
  (cur : List Value) (t : TypeId) (hg : w.heap[g]? = some (.cells cur.toArray t (0, 0)))
  (n : Nat) (hn : n = Nat.min m.length dLen) (hfit : off + n ≤ cur.length)
  (new : List Value) (hnew : cur.take off ++ ((m.map V8).take n ++ cur.drop (off + n)) = new) (hw : w.setRow g new.toArray = w')
  (h : wpList P ops Q rest (a.put o.dst (goInt n)) w') : wpList P ops Q (o :: rest) a w := by
 have hl : ((m.map V8).take n).length = n := by
  rw [List.length_take, List.length_map]; have := Nat.min_le_left m.length dLen; have h2 : Nat.min m.length dLen = min m.length dLen := rfl; omega
 have same : n = 0 → w' = w := by
  rintro rfl
  rw [← hw, ← hnew]
  simp only [List.take_zero, List.nil_append, Nat.add_zero, List.take_append_drop]
  unfold World.setRow
  congr 1
  refine Array.ext_getElem? fun j => ?_
  rw [Array.getElem?_modify]
  split
  ·subst_vars; rw [hg]; rfl
  ·rfl
 rcases hy with ⟨rfl, hv⟩ | ⟨b, o2, cap, rfl, hb, hc⟩
 ·have hn0 : n = 0 := by rw [hn]; exact Nat.zero_min dLen
  have hw2 := same hn0
  subst hn0
  rw [hw2] at h
  rcases hv with rfl | ⟨ad, cap, rfl⟩
  ·exact wpList_copy_nothing hgd d s dT sT ho elem hu hsz _ _ _ _ _ _ hd hs (Nat.zero_min dLen) h
  ·exact wpList_copy_nothing hgd d s dT sT ho elem hu hsz _ _ _ _ _ _ hd hs (Nat.zero_min dLen) h
 ·refine wpList_copy_own hgd d s dT sT ho elem hu hsz g off dLen dCap ⟨b, o2, none⟩ m.length cap hd hs cur.toArray t hg ((m.map V8).take n) (by rw [hl]; exact hn) ?_ (by simpa [hl] using hfit) ?_ ?_
  ·intro j v hv
   rw [Addr.add_mid]
   rw [List.getElem?_take] at hv
   split at hv
   ·rw [List.getElem?_map] at hv
    cases hm : m[j]? with
    | none => simp [hm] at hv
    | some z => simp [hm] at hv; subst hv; exact hc j z hm
   ·cases hv
  ·intro v hv
   exact mem_V8 m v (List.mem_of_mem_take hv)
  ·rw [hl]
   have e : (cur.toArray.toList.take off ++ ((m.map V8).take n ++ cur.toArray.toList.drop (off + n))) = new := by simpa using hnew
   rw [e, hw]; exact h
end
end Go.Proofs.Ytibncchobkaaiaa
namespace Go.Proofs.Ytibncchobkaaiaa
open Go.RowKit
theorem setRow_same {w : World} {g : Nat} {cs : Array Value} {t : TypeId} {fr : Nat × Nat} (h : w.heap[g]? = some (.cells cs t fr)) : w.setRow g cs = w := by
 unfold World.setRow
 congr 1
 refine Array.ext_getElem? fun j => ?_
 rw [Array.getElem?_modify]
 split
 ·subst_vars; rw [h]; rfl
 ·rfl
theorem setRow_setRow (w : World) (g : Nat) (cs cs' : Array Value) : (w.setRow g cs).setRow g cs' = w.setRow g cs' := by
 unfold World.setRow
 congr 1
 refine Array.ext_getElem? fun j => ?_
 simp only [Array.getElem?_modify]
 split
 ·cases w.heap[j]? with
  | none => rfl
  | some o => cases o <;> rfl
 ·rfl
theorem setRow_size (w : World) (g : Nat) (cs : Array Value) : (w.setRow g cs).heap.size = w.heap.size := by simp [World.setRow]
theorem setRow_setCell {w : World} {g i : Nat} {cs : Array Value} {t : TypeId} (v : Value) (h : w.heap[g]? = some (.cells cs t (0, 0))) : w.setCell ⟨g, i, none⟩ v = w.setRow g (cs.setIfInBounds i v) := by
 unfold World.setRow World.setCell
 congr 1
 refine Array.ext_getElem? fun j => ?_
 simp only [Array.getElem?_modify]
 split
 ·rename_i e; subst e; rw [h]; rfl
 ·rfl
theorem ext_setRow2 {w w' : World} (h : Ext w w') {g : Nat} (hg : g < w.heap.size) (cs : Array Value) : Ext (w.setRow g cs) (w'.setRow g cs) := by
 obtain ⟨x, rfl⟩ := h
 exact ⟨x, setRow_more w x cs g hg⟩
abbrev Lc (w : World) (g : Nat) (T : TypeId) (cs : List Value) : Prop := w.heap[g]? = some (.cells cs.toArray T (0, 0))
theorem Lc.ext {w w' : World} {g T : Nat} {cs : List Value} (h : Lc w g T cs) (hx : Ext w w') : Lc w' g T cs := ext_heap hx h
theorem Lc.lt {w : World} {g T : Nat} {cs : List Value} (h : Lc w g T cs) : g < w.heap.size := (Array.getElem?_eq_some_iff.1 h).1
theorem Lc.new (w : World) (T : TypeId) (cs : List Value) : Lc (w.alloc (.cells cs.toArray T)) w.heap.size T cs := hp_new w _
theorem Lc.set {w : World} {g T : Nat} {cs : List Value} (h : Lc w g T cs) (ds : List Value) : Lc (w.setRow g ds.toArray) g T ds := setRow_heap w g _ ds.toArray T (0, 0) h
theorem Lc.other {w : World} {g b T : Nat} {cs : List Value} (h : Lc w b T cs) (hne : b ≠ g) (ds : Array Value) : Lc (w.setRow g ds) b T cs := (setRow_other w g b ds hne).trans h
theorem Lc.cell {w : World} {g T i : Nat} {cs : List Value} {v : Value} (h : Lc w g T cs) (hi : cs[i]? = some v) : w.cell? ⟨g, i, none⟩ = some v := by
 rw [cell_of_row w g i _ _ (0, 0) h]; simpa using hi
theorem Lc.range {w : World} {g T o : Nat} {cs ds : List Value} (h : Lc w g T cs) (hd : (cs.drop o).take ds.length = ds) : w.rangeAt g o ds := fun j v hv => by
 refine h.cell ?_
 have hj := (List.getElem?_eq_some_iff.1 hv).1
 rw [← hd, List.getElem?_take, if_pos hj, List.getElem?_drop] at hv
 exact hv
theorem Lc.setCell {w : World} {g T i : Nat} {cs : List Value} (h : Lc w g T cs) (v : Value) : w.setCell ⟨g, i, none⟩ v = w.setRow g (cs.set i v).toArray := by
 rw [setRow_setCell v h]; simp
theorem cell_setRow {w : World} {g b i : Nat} {ds : Array Value} (hne : b ≠ g) : (w.setRow g ds).cell? ⟨b, i, none⟩ = w.cell? ⟨b, i, none⟩ := by
 have h := setRow_other w g b ds hne
 simp only [World.cell?, h]
section
variable {P : Program}
theorem wpList_st_cell {ops : Array Oper} {rest : List Oper} {o : Oper} {a : Act} {w : World} {Q : Exit → Act → World → Prop} (hgd : o.guard = none) (hdst : o.dst = none) (ty : TypeId) (x y : Operand) (ho : o.op = .store ty x y)
  (g i : Nat) (v : Value) (hx : a.eval x = .pointer (some ⟨g, i, none⟩)) (hy : a.eval y = v) (h1 : v.oneCell' = true) (hi : (P.info? ty).map (·.size) = some 1)
  (t : TypeId) (old new : List Value) (hg : Lc w g t old) (hf : i < old.length) (hn : old.set i v = new)
  (h : wpList P ops Q rest a (w.setRow g new.toArray)) : wpList P ops Q (o :: rest) a w := by
 refine wpList_plain hgd fun K hK => ?_
 have hs := run_storeCells_at (P := P) g i t [v] 0 old.toArray w hg (by simp; omega) (fun u hu => by simp at hu; subst hu; exact h1)
 have hnew : (old.toArray.toList.take (i + 0) ++ [v] ++ old.toArray.toList.drop (i + 0 + [v].length)).toArray = new.toArray := by
  rw [← hn]; simp [List.set_eq_take_append_cons_drop, hf]
 rw [hnew] at hs
 have hv : (storeVar ty ⟨g, i, none⟩ v).run P w = .ok () (w.setRow g new.toArray) := by
  cases hq : P.info? ty with
  | none => simp [hq] at hi
  | some k =>
   have hz : k.size = 1 := by simpa [hq] using hi
   have hcl : v.cells = #[v] := by cases v <;> first | rfl | simp [Value.oneCell'] at h1
   simp [storeVar, sizeOf, typeInfo, hq, hz, hcl] at hs ⊢
   simpa using hs
 unfold Oper.wp execOp
 simp only [ho, hx, hy, Instr.storeAt, Instr.sureAddr, Sem.run_bind, Sem.run_pure, Result.andThen_ok, hv]
 show K (a.put o.dst undef) _
 rw [hdst]
 exact hK _ _ h
end
section
variable {P : Program}
theorem wpList_st_seg {ops : Array Oper} {rest : List Oper} {o : Oper} {a : Act} {w w' : World} {Q : Exit → Act → World → Prop} (hgd : o.guard = none) (hdst : o.dst = none) (ty : TypeId) (x y : Operand) (ho : o.op = .store ty x y)
  (g off : Nat) (cells : Array Value) (hx : a.eval x = .pointer (some ⟨g, off, none⟩)) (hy : a.eval y = .agg cells)
  (t : TypeId) (old : Array Value) (hg : w.heap[g]? = some (.cells old t (0, 0))) (hi : (P.info? ty).map (·.size) = some cells.size)
  (hfit : off + cells.size ≤ old.size) (h1 : cells.all (·.oneCell') = true) (new : Array Value)
  (hnew : (old.toList.take off ++ cells.toList ++ old.toList.drop (off + cells.size)).toArray = new) (hw : w.setRow g new = w')
  (h : wpList P ops Q rest a w') : wpList P ops Q (o :: rest) a w := by
 refine wpList_plain hgd fun K hK => ?_
 have hs := run_storeCells_at (P := P) g off t cells.toList 0 old w hg (by simpa using hfit) (fun v hv => (Array.all_eq_true_iff_forall_mem.1 h1) v (by simpa using hv))
 simp only [Nat.add_zero, Array.length_toList, hnew, hw] at hs
 have hv : (storeVar ty ⟨g, off, none⟩ (.agg cells)).run P w = .ok () w' := by
  cases hq : P.info? ty with
  | none => simp [hq] at hi
  | some i =>
   have hz : cells.size = i.size := by simp [hq] at hi; omega
   simp [storeVar, sizeOf, typeInfo, hq, Value.cells, hz, hs]
 unfold Oper.wp execOp
 simp only [ho, hx, hy, Instr.storeAt, Instr.sureAddr, Sem.run_bind, Sem.run_pure, Result.andThen_ok, hv]
 show K (a.put o.dst undef) w'
 rw [hdst]
 exact hK _ _ h
end
end Go.Proofs.Ytibncchobkaaiaa
namespace Go.Proofs.Ytibncchobkaaiaa
open Go.RowKit
section
variable {P : Program} {ops : Array Oper}
def Zat (iS : Nat) (Z Z2 : Obj) (rem : List Nat) : Obj := if iS ∈ rem then Z else Z2
theorem ext_setRow {W w : World} {b : Nat} {cs : Array Value} (h : Ext W w) (hb : W.heap.size ≤ b) : Ext W (w.setRow b cs) := by
 have hB := h.below
 refine Ext.of_below ⟨hB.os, hB.tape, hB.output, by simp only [World.setRow, Array.size_modify]; exact hB.size, fun k hk => ?_⟩
 simp only [World.setRow, Array.getElem?_modify]
 rw [if_neg (by omega)]
 exact hB.block k hk
structure InvL (ops : Array Oper) (n iA dA iS : Nat) (Z Z2 : Obj) (W : World) (a0 A : Act) (rem : List Nat) (listed : Array Bool) (a : Act) (w : World) : Prop where
 head : HeadInv .any ops n listed
 nodup : rem.Nodup
 lt : ∀ j ∈ rem, j < n
 mem : ∀ j, j < n → (listed.getD j false = true ↔ j ∉ rem)
 size : a.tmps.size = a0.tmps.size
 defers : a.defers = a0.defers
 done : ∀ d, d ≠ dA → (∃ j o, j < n ∧ j ∉ rem ∧ ops[j]? = some o ∧ o.dst = some d) → a.tmps[d]? = A.tmps[d]?
 open_ : ∀ d, d ≠ dA → (∀ j o, j < n → j ∉ rem → ops[j]? = some o → o.dst ≠ some d) → a.tmps[d]? = a0.tmps[d]?
 ext : Ext W w
 made : iA < n → iA ∉ rem → ∃ b, W.heap.size ≤ b ∧ w.heap[b]? = some (Zat iS Z Z2 rem) ∧ a.tmps[dA]? = some (.pointer (some ⟨b, 0, none⟩))
theorem InvL.step {n iA dA iS : Nat} {Z Z2 : Obj} {W : World} {a0 A : Act} {rem : List Nat} {listed : Array Bool} {a : Act} {w w' : World} (inv : InvL ops n iA dA iS Z Z2 W a0 A rem listed a w)
  {i : Nat} {o : Oper} (hi : i ∈ Region.ready .any ops listed) (hin : i < n) (ho : ops[i]? = some o) (v : Value) (hext : Ext W w')
  (hv : ∀ d, o.dst = some d → d ≠ dA → d < a0.tmps.size → A.tmps[d]? = some v) (hsz : A.tmps.size = a0.tmps.size)
  (hm : iA < n → iA ∉ rem.erase i → ∃ b, W.heap.size ≤ b ∧ w'.heap[b]? = some (Zat iS Z Z2 (rem.erase i)) ∧ (a.put o.dst v).tmps[dA]? = some (.pointer (some ⟨b, 0, none⟩))) :
  InvL ops n iA dA iS Z Z2 W a0 A (rem.erase i) (listed.setIfInBounds i true) (a.put o.dst v) w' := by
 have hun := (mem_ready.1 hi).1
 have hirem : i ∈ rem := by
  rcases Classical.em (i ∈ rem) with h | h
  ·exact h
  ·have := (inv.mem i hin).2 h
   rw [getD_both hun] at this; cases this
 have hmem : ∀ j, j < n → (j ∉ rem.erase i ↔ j ∉ rem ∨ j = i) := fun j _ => by
  rw [inv.nodup.mem_erase_iff]
  constructor
  ·intro h; by_cases hj : j = i
   ·exact .inr hj
   ·exact .inl fun hm => h ⟨hj, hm⟩
  ·rintro (h | h) ⟨h1, h2⟩
   ·exact h h2
   ·exact h1 h
 have hlen : i < listed.size := by
  rcases Nat.lt_or_ge i listed.size with h | h
  ·exact h
  ·simp [Array.getElem?_eq_none h] at hun
 refine ⟨inv.head.set hi hin, inv.nodup.erase i, fun j hj => inv.lt j (List.mem_of_mem_erase hj), fun j hj => ?_, by rw [put_size, inv.size], by rw [put_defers, inv.defers], fun d hd h => ?_, fun d hd h => ?_, hext, hm⟩
 ·rw [hmem j hj]
  by_cases hji : i = j
  ·subst hji; simp [hlen]
  ·rw [getD_set_ne false hji, inv.mem j hj]
   exact ⟨fun h => .inl h, fun h => h.resolve_right fun e => hji e.symm⟩
 ·obtain ⟨j, oj, hj, hjr, hoj, hdj⟩ := h
  by_cases hod : o.dst = some d
  ·rw [hod, put_get, if_pos rfl]
   by_cases hlt : d < a.tmps.size
   ·rw [if_pos hlt, hv d hod hd (by rw [← inv.size]; exact hlt)]
   ·rw [if_neg hlt, Array.getElem?_eq_none (by rw [hsz, ← inv.size]; omega)]
  ·rw [put_other _ _ _ _ hod]
   refine inv.done d hd ⟨j, oj, hj, ?_, hoj, hdj⟩
   rcases (hmem j hj).1 hjr with h | h
   ·exact h
   ·subst h; rw [ho] at hoj; cases hoj; exact absurd hdj hod
 ·have hod : o.dst ≠ some d := h i o hin ((hmem i hin).2 (.inr rfl)) ho
  rw [put_other _ _ _ _ hod]
  exact inv.open_ d hd fun j oj hj hjr hoj => h j oj hj ((hmem j hj).2 (.inl hjr)) hoj
theorem InvL.base {n iA dA iS : Nat} {Z Z2 : Obj} {W : World} {x : Xtra} {a0 A : Act} {rem : List Nat} {listed : Array Bool} {a : Act} {w : World} (inv : InvL ops n iA dA iS Z Z2 (more W x) a0 A rem listed a w) : InvL ops n iA dA iS Z Z2 W a0 A rem listed a w :=
 ⟨inv.head, inv.nodup, inv.lt, inv.mem, inv.size, inv.defers, inv.done, inv.open_, (Ext.more W x).trans inv.ext, fun h1 h2 => by obtain ⟨b, h3, h4⟩ := inv.made h1 h2; exact ⟨b, by rw [more_size] at h3; omega, h4⟩⟩
end
end Go.Proofs.Ytibncchobkaaiaa
namespace Go.Proofs.Ytibncchobkaaiaa
open Go.RowKit
abbrev Bk := Nat × TypeId × List Value
def Loc (w0 w : World) (bs : List Bk) : Prop := Ext w0 w ∧ (bs.map (·.1)).Nodup ∧ ∀ b ∈ bs, w0.heap.size ≤ b.1 ∧ Lc w b.1 b.2.1 b.2.2
theorem Loc.start (w : World) : Loc w w [] := ⟨Ext.refl w, List.nodup_nil, fun b hb => by cases hb⟩
theorem Loc.ext {w0 w w' : World} {bs : List Bk} (h : Loc w0 w bs) (hx : Ext w w') : Loc w0 w' bs := ⟨h.1.trans hx, h.2.1, fun b hb => ⟨(h.2.2 b hb).1, (h.2.2 b hb).2.ext hx⟩⟩
theorem Loc.at {w0 w : World} {bs : List Bk} (h : Loc w0 w bs) (i : Nat) {b : Bk} (hi : bs[i]? = some b) : Lc w b.1 b.2.1 b.2.2 := (h.2.2 b (List.mem_of_getElem? hi)).2
theorem Loc.le {w0 w : World} {bs : List Bk} (h : Loc w0 w bs) (i : Nat) {b : Bk} (hi : bs[i]? = some b) : w0.heap.size ≤ b.1 := (h.2.2 b (List.mem_of_getElem? hi)).1
theorem Loc.lt {w0 w : World} {bs : List Bk} (h : Loc w0 w bs) (i : Nat) {b : Bk} (hi : bs[i]? = some b) : b.1 < w.heap.size := (h.at i hi).lt
theorem Loc.new {w0 w : World} {bs : List Bk} (h : Loc w0 w bs) (T : TypeId) (cs : List Value) : Loc w0 (w.alloc (.cells cs.toArray T)) ((w.heap.size, T, cs) :: bs) := by
 refine ⟨h.1.trans (Ext.alloc _ _), ?_, ?_⟩
 ·rw [List.map_cons, List.nodup_cons]
  refine ⟨fun hm => ?_, h.2.1⟩
  obtain ⟨b, hb, he⟩ := List.mem_map.1 hm
  have := (h.2.2 b hb).2.lt
  rw [he] at this; omega
 ·intro b hb
  rcases List.mem_cons.1 hb with rfl | hb
  ·exact ⟨h.1.below.size, Lc.new w T cs⟩
  ·exact ⟨(h.2.2 b hb).1, (h.2.2 b hb).2.ext (Ext.alloc _ _)⟩
theorem nodup_get : ∀ {l : List Nat} (_ : l.Nodup) {i j : Nat} {x : Nat}, l[i]? = some x → l[j]? = some x → i = j
 | [], _, _, _, _, h, _ => by simp at h
 | y :: l, hn, 0, 0, _, _, _ => rfl
 | y :: l, hn, 0, j + 1, x, h, h2 => by
  have : y = x := by simpa using h
  subst this
  exact absurd (List.mem_of_getElem? (by simpa using h2)) (List.nodup_cons.1 hn).1
 | y :: l, hn, i + 1, 0, x, h, h2 => by
  have : y = x := by simpa using h2
  subst this
  exact absurd (List.mem_of_getElem? (by simpa using h)) (List.nodup_cons.1 hn).1
 | y :: l, hn, i + 1, j + 1, x, h, h2 => by exact congrArg (· + 1) (nodup_get (List.nodup_cons.1 hn).2 (i := i) (j := j) (x := x) (by simpa using h) (by simpa using h2))
theorem Loc.set {w0 w : World} {bs : List Bk} (h : Loc w0 w bs) (i : Nat) {g T : Nat} {cs : List Value} (hi : bs[i]? = some (g, T, cs)) (ds : List Value) : Loc w0 (w.setRow g ds.toArray) (bs.set i (g, T, ds)) := by
 have hmap : (bs.set i (g, T, ds)).map (·.1) = bs.map (·.1) := by
  refine List.ext_getElem? fun j => ?_
  rw [List.getElem?_map, List.getElem?_map, List.getElem?_set]
  split
  ·rename_i e; subst e
   have hl := (List.getElem?_eq_some_iff.1 hi).1
   rw [if_pos hl, hi]; rfl
  ·rfl
 have hle : w0.heap.size ≤ g := h.le i hi
 refine ⟨ext_setRow h.1 hle, by rw [hmap]; exact h.2.1, fun b hb => ?_⟩
 obtain ⟨j, hj⟩ := List.getElem?_of_mem hb
 rw [List.getElem?_set] at hj
 split at hj
 ·split at hj
  ·cases hj; exact ⟨hle, (h.at i hi : Lc w g T cs).set ds⟩
  ·cases hj
 ·rename_i hne
  have hbm := List.mem_of_getElem? hj
  refine ⟨(h.2.2 b hbm).1, (h.2.2 b hbm).2.other ?_ _⟩
  intro e
  have h1 : (bs.map (·.1))[i]? = some g := by rw [List.getElem?_map, hi]; rfl
  have h2 : (bs.map (·.1))[j]? = some g := by rw [List.getElem?_map, hj]; simp [e]
  exact hne (nodup_get h.2.1 h1 h2)
def Wrote (w w' : World) (g : Nat) : Prop := ∃ ds, w' = w.setRow g ds
theorem run_box_agg {P : Program} (T : TypeId) (cs : Array Value) (w : World) : (Instr.box T (.agg cs)).run P w = .ok (.pointer (some ⟨w.heap.size, 0, none⟩)) (w.alloc (.cells cs T)) := by
 simp [Instr.box, newVar, newRow, go_sem]
section
variable {P : Program} {ops : Array Oper} {rest : List Oper} {o : Oper} {a : Act} {w0 w : World} {Q : Exit → Act → World → Prop} {bs : List Bk}
theorem L_alloc (H : Kp (Loc w0 w bs)) (hg : o.guard = none) (t : TypeId) (_ : o.op = .alloc t) (cs : List Value)
  (hrun : ∀ (e : Operand → Value) (w : World), (execOp e o).run P w = .ok (.value (.pointer (some ⟨w.heap.size, 0, none⟩))) (w.alloc (.cells cs.toArray t)))
  (h : ∀ g w', Kp (g = w.heap.size) → Kp (Ext w w') → Kp (Loc w0 w' ((g, t, cs) :: bs)) → wpList P ops Q rest (a.put o.dst (.pointer (some ⟨g, 0, none⟩))) w') : wpList P ops Q (o :: rest) a w := by
 refine wpList_plain hg fun K hK => ?_
 unfold Oper.wp
 rw [hrun]
 exact hK _ _ (h _ _ (kp rfl) (kp (Ext.alloc _ _)) (kp (H.out.new t cs)))
theorem L_box (H : Kp (Loc w0 w bs)) (hg : o.guard = none) (t : TypeId) (x : Operand) (ho : o.op = .box t x) (cs : List Value) (hx : a.eval x = .agg cs.toArray)
  (h : ∀ g w', Kp (g = w.heap.size) → Kp (Ext w w') → Kp (Loc w0 w' ((g, t, cs) :: bs)) → wpList P ops Q rest (a.put o.dst (.pointer (some ⟨g, 0, none⟩))) w') : wpList P ops Q (o :: rest) a w := by
 refine wpList_plain hg fun K hK => ?_
 unfold Oper.wp execOp
 simp only [ho, hx, Sem.run_bind, Sem.run_pure, Result.andThen_ok, run_box_agg]
 exact hK _ _ (h _ _ (kp rfl) (kp (Ext.alloc _ _)) (kp (H.out.new t cs)))
theorem L_store (H : Kp (Loc w0 w bs)) (hgd : o.guard = none) (hdst : o.dst = none) (ty : TypeId) (x y : Operand) (ho : o.op = .store ty x y) (i : Nat) {g T : Nat} {old : List Value} (hi : bs[i]? = some (g, T, old))
  (hx : a.eval x = .pointer (some ⟨g, 0, none⟩)) (cs : List Value) (hy : a.eval y = .agg cs.toArray) (hz : (P.info? ty).map (·.size) = some cs.toArray.size) (hold : old.length = cs.length) (h1 : cs.toArray.all (·.oneCell') = true)
  (h : ∀ w', Kp (Wrote w w' g) → Kp (Loc w0 w' (bs.set i (g, T, cs))) → wpList P ops Q rest a w') : wpList P ops Q (o :: rest) a w :=
 wpList_st_row hgd hdst ty x y ho g cs.toArray hx hy T old.toArray (H.out.at i hi) hz (by simpa using hold) h1 rfl (h _ (kp ⟨_, rfl⟩) (kp (H.out.set i hi cs)))
theorem L_seg (H : Kp (Loc w0 w bs)) (hgd : o.guard = none) (hdst : o.dst = none) (ty : TypeId) (x y : Operand) (ho : o.op = .store ty x y) (i : Nat) {g T : Nat} {old : List Value} (hi : bs[i]? = some (g, T, old)) (off : Nat)
  (hx : a.eval x = .pointer (some ⟨g, off, none⟩)) (cs : List Value) (hy : a.eval y = .agg cs.toArray) (hz : (P.info? ty).map (·.size) = some cs.toArray.size) (hfit : off + cs.toArray.size ≤ old.toArray.size) (h1 : cs.toArray.all (·.oneCell') = true)
  (new : List Value) (hn : (old.take off ++ cs ++ old.drop (off + cs.length)).toArray = new.toArray)
  (h : ∀ w', Kp (Wrote w w' g) → Kp (Loc w0 w' (bs.set i (g, T, new))) → wpList P ops Q rest a w') : wpList P ops Q (o :: rest) a w :=
 wpList_st_seg hgd hdst ty x y ho g off cs.toArray hx hy T old.toArray (H.out.at i hi) hz hfit h1 new.toArray hn rfl (h _ (kp ⟨_, rfl⟩) (kp (H.out.set i hi new)))
theorem L_cell (H : Kp (Loc w0 w bs)) (hgd : o.guard = none) (hdst : o.dst = none) (ty : TypeId) (x y : Operand) (ho : o.op = .store ty x y) (i : Nat) {g T : Nat} {old : List Value} (hi : bs[i]? = some (g, T, old)) (off : Nat)
  (hx : a.eval x = .pointer (some ⟨g, off, none⟩)) (v : Value) (hy : a.eval y = v) (h1 : v.oneCell' = true) (hz : (P.info? ty).map (·.size) = some 1) (hfit : off < old.length)
  (new : List Value) (hn : old.set off v = new)
  (h : ∀ w', Kp (Wrote w w' g) → Kp (Loc w0 w' (bs.set i (g, T, new))) → wpList P ops Q rest a w') : wpList P ops Q (o :: rest) a w :=
 wpList_st_cell hgd hdst ty x y ho g off v hx hy h1 hz T old new (H.out.at i hi) hfit hn (h _ (kp ⟨_, rfl⟩) (kp (H.out.set i hi new)))
end
theorem run_load_cell {w0 w : World} {bs : List Bk} (H : Loc w0 w bs) (i : Nat) {g T : Nat} {cs : List Value} (hi : bs[i]? = some (g, T, cs)) (off : Nat) (v : Value) (hv : cs[off]? = some v) : w.cell? ⟨g, off, none⟩ = some v := (H.at i hi).cell hv
theorem owns_wrote {w w' : World} {base E sz n g : Nat} {v : Value} {xs : List Value} (h : w.ownsRow base E sz v n xs) (hw : Wrote w w' g) (hb : g < base) : w'.ownsRow base E sz v n xs := by
 obtain ⟨ds, rfl⟩ := hw
 obtain ⟨h1, h2 | ⟨b, cap, cur, h3, hg, hh, h4⟩⟩ := h
 ·exact ⟨h1, .inl h2⟩
 ·exact ⟨h1, .inr ⟨b, cap, cur, h3, hg, (setRow_other w g b ds (by omega)).trans hh, h4⟩⟩
end Go.Proofs.Ytibncchobkaaiaa
namespace Go.Proofs.Ytibncchobkaaiaa
open Go.RowKit
def Tr {H : Type} (enc : TypeId × Value → H) (P : Program) (w : World) (base : Nat) (T : TypeId) (cs : List Value) : Prop := ∃ fuel x, DataW.trod enc P w base (fun _ => true) true fuel T cs = some x
theorem spot_none {w : World} {a : Addr} {v : Value} (h : w.cell? a = some v) : a.spot = none := by
 unfold World.cell? at h
 split at h
 ·split at h
  ·cases h
  ·rename_i h2; cases hs : a.spot with
   | none => rfl
   | some s => rw [hs] at h2; exact absurd rfl h2
 ·cases h
section
variable {H : Type} {enc : TypeId × Value → H} {P : Program} {w : World} {base : Nat} {T : TypeId} {cs : List Value}
theorem Tr.of {v : Value} {d : DataW H} {p : List MemPlace} (h : DataW.Trod enc P w base (fun _ => true) true T v d p) : Tr enc P w base T v.cells.toList := by
 obtain ⟨fuel, hf⟩ := h; exact ⟨fuel, _, hf⟩
theorem Tr.int {k : IntKind} (hT : P.underlying T = some (.int k)) (h : Tr enc P w base T cs) : ∃ n, cs = [.int k n] ∧ (Lit.int k n).wf = true := by
 obtain ⟨f, x, h⟩ := h
 obtain ⟨n, h1, _, h2⟩ := DataW.trod_int hT h
 exact ⟨n, h1, h2⟩
theorem Tr.bool (hT : P.underlying T = some .bool) (h : Tr enc P w base T cs) : ∃ b, cs = [.bool b] := by
 obtain ⟨f, x, h⟩ := h
 obtain ⟨b, h1, _⟩ := DataW.trod_bool hT h
 exact ⟨b, h1⟩
theorem Tr.string (hT : P.underlying T = some .string) (h : Tr enc P w base T cs) : ∃ s : ByteArray, cs = [.string s] ∧ s.size ≤ maxLen := by
 obtain ⟨f, x, h⟩ := h
 obtain ⟨s, h1, _, h2⟩ := DataW.trod_string hT h
 exact ⟨s, h1, h2⟩
theorem Tr.struct {fs : Array Field} (hT : P.underlying T = some (.struct fs)) (h : Tr enc P w base T cs) : cs.length = P.cellsOf T ∧ ∀ (i : Nat) (f : Field), fs[i]? = some f → Tr enc P w base f.type ((cs.drop f.offset).take (P.cellsOf f.type)) := by
 obtain ⟨f, x, h⟩ := h
 obtain ⟨xs, n, _, _, hl, hn, hf⟩ := DataW.trod_struct hT h
 refine ⟨hl, fun i f hi => ?_⟩
 have h1 := hf i f hi
 have hlt := (Array.getElem?_eq_some_iff.1 hi).1
 rw [List.getElem?_eq_getElem (by omega)] at h1
 exact ⟨n, _, h1⟩
theorem Tr.field {fs : Array Field} (hT : P.underlying T = some (.struct fs)) (h : Tr enc P w base T cs) (i t off n : Nat) (hf : (fs[i]?).map (fun f => (f.type, f.offset)) = some (t, off)) (hn : P.cellsOf t = n) : Tr enc P w base t ((cs.drop off).take n) := by
 cases hq : fs[i]? with
 | none => rw [hq] at hf; cases hf
 | some f =>
  rw [hq] at hf
  have h1 := (h.struct hT).2 i f hq
  cases hf
  rw [← hn]; exact h1
theorem Tr.len {fs : Array Field} (hT : P.underlying T = some (.struct fs)) (h : Tr enc P w base T cs) (n : Nat) (hn : P.cellsOf T = n) : cs.length = n := by rw [← hn]; exact (h.struct hT).1
theorem Tr.array {n : Nat} {e : TypeId} (hT : P.underlying T = some (.array n e)) (h : Tr enc P w base T cs) : cs.length = P.cellsOf T ∧ ∀ i : Nat, i < n → Tr enc P w base e ((cs.drop (i * P.cellsOf e)).take (P.cellsOf e)) := by
 obtain ⟨f, x, h⟩ := h
 obtain ⟨xs, m, _, _, hl, hn, hf⟩ := DataW.trod_array hT h
 refine ⟨hl, fun i hi => ?_⟩
 have h1 := hf i hi
 rw [List.getElem?_eq_getElem (by omega)] at h1
 exact ⟨m, _, h1⟩
theorem Tr.slice {e : TypeId} (hT : P.underlying T = some (.slice e)) (hc : 0 < P.cellsOf e) (h : Tr enc P w base T cs) : ∃ (ad : Option Addr) (len cap : Nat), cs = [.slice ad len cap] ∧ len ≤ cap ∧ cap ≤ maxLen ∧ (ad = none → len = 0 ∧ cap = 0) ∧
  ∀ i : Nat, i < len → ∃ b off es, ad = some ⟨b, off, none⟩ ∧ b < w.heap.size ∧ es.length = P.cellsOf e ∧ Tr enc P w base e es ∧ w.rangeAt b (off + i * P.cellsOf e) es := by
 obtain ⟨f, x, h⟩ := h
 rcases Deep.open_slice hT h with ⟨h0, _⟩ | ⟨a, len, cap, m, n, D, Pl, h1, h2, h3, h4, hm, _, hx⟩
 ·exact ⟨none, 0, 0, h0, Nat.le_refl _, Nat.zero_le _, (fun _ => ⟨rfl, rfl⟩), fun i hi => absurd hi (by omega)⟩
 ·refine ⟨some a, len, cap, h1, h3, h4, (fun h => by cases h), fun i hi => ?_⟩
  have hsp : a.spot = none := by
   obtain ⟨es, he, _⟩ := hx 0 (by rw [hm]; simp; omega)
   obtain ⟨_, hl, hcell⟩ := World.cells?_some he
   have h0 := hcell 0 hc
   rw [List.getElem?_eq_getElem (by omega)] at h0
   rw [show (a.add (0 * P.cellsOf e)).add 0 = a by simp [Addr.add]] at h0
   exact spot_none h0
  obtain ⟨b, off, s⟩ := a
  cases hsp
  obtain ⟨es, he, ht⟩ := hx i (by rw [hm]; simp; omega)
  obtain ⟨_, hl, hcell⟩ := World.cells?_some he
  have hr : w.rangeAt b (off + i * P.cellsOf e) es := fun j v hv => by
   have hj := (List.getElem?_eq_some_iff.1 hv).1
   have h0 := hcell j (by omega)
   rw [Addr.add_mid, Addr.add_mid, hv] at h0
   exact h0
  have h0 : ∃ v, es[0]? = some v := ⟨es[0]'(by omega), by simp⟩
  obtain ⟨v, hv⟩ := h0
  exact ⟨b, off, es, rfl, block_lt_of_cell (hr 0 v hv), hl, ⟨n, _, ht⟩, hr⟩
theorem bytes_of {m : List Value} (h : ∀ i : Nat, i < m.length → ∃ n, m[i]? = some (.int .u8 n) ∧ (Lit.int .u8 n).wf = true) : ∃ l : List (BitVec 8), m = l.map V8 := by
 induction m with
 | nil => exact ⟨[], rfl⟩
 | cons v m ih =>
  obtain ⟨l, hl⟩ := ih fun i hi => by simpa using h (i + 1) (by simpa using hi)
  obtain ⟨n, hn, hw⟩ := h 0 (by simp)
  obtain ⟨x, rfl⟩ := bv_of_wf (m := 8) .u8 (.inl ⟨rfl, rfl⟩) hw
  have : v = V8 x := by simpa using hn
  exact ⟨x :: l, by rw [this, hl]; rfl⟩
theorem Tr.bytes {n : Nat} {e : TypeId} (hT : P.underlying T = some (.array n e)) (hE : P.underlying e = some (.int .u8)) (hc : P.cellsOf e = 1) (hC : P.cellsOf T = n) (h : Tr enc P w base T cs) : ∃ l : List (BitVec 8), l.length = n ∧ cs = l.map V8 := by
 obtain ⟨hl, ha⟩ := h.array hT
 rw [hC] at hl
 obtain ⟨l, rfl⟩ := bytes_of (m := cs) fun i hi => by
  obtain ⟨k, hk, hw⟩ := (ha i (by omega)).int hE
  rw [hc] at hk
  refine ⟨k, ?_, hw⟩
  have : ((cs.drop (i * 1)).take 1)[0]? = some (.int .u8 k) := by rw [hk]; rfl
  simpa using this
 exact ⟨l, by simpa using hl, rfl⟩
end
end Go.Proofs.Ytibncchobkaaiaa
