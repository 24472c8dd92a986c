/- Local rows in a world that is a variable. -/
import Derived.Test.YtfecopfofkdnpaaCom
namespace Go.Proofs.Ytfecopfofkdnpaa
open Go.RowKit
theorem setRow_same {w : World} {g : Nat} {cs : Array Value} {t : TypeId} {fr : Nat × Nat} (h : w.heap[g]? = some (.cells cs t fr)) : w.setRow g cs = w := by
  unfold World.setRow
  congr 1
  refine Array.ext_getElem? fun j => ?_
  rw [Array.getElem?_modify]
  split
  · subst_vars; rw [h]; rfl
  · rfl
theorem setRow_setRow (w : World) (g : Nat) (cs cs' : Array Value) : (w.setRow g cs).setRow g cs' = w.setRow g cs' := by
  unfold World.setRow
  congr 1
  refine Array.ext_getElem? fun j => ?_
  simp only [Array.getElem?_modify]
  split
  · cases w.heap[j]? with
    | none => rfl
    | some o => cases o <;> rfl
  · rfl
theorem setRow_size (w : World) (g : Nat) (cs : Array Value) : (w.setRow g cs).heap.size = w.heap.size := by simp [World.setRow]
theorem setRow_setCell {w : World} {g i : Nat} {cs : Array Value} {t : TypeId} (v : Value) (h : w.heap[g]? = some (.cells cs t (0, 0))) : w.setCell ⟨g, i, none⟩ v = w.setRow g (cs.setIfInBounds i v) := by
  unfold World.setRow World.setCell
  congr 1
  refine Array.ext_getElem? fun j => ?_
  simp only [Array.getElem?_modify]
  split
  · rename_i e; subst e; rw [h]; rfl
  · rfl
theorem ext_setRow2 {w w' : World} (h : Ext w w') {g : Nat} (hg : g < w.heap.size) (cs : Array Value) : Ext (w.setRow g cs) (w'.setRow g cs) := by
  obtain ⟨x, rfl⟩ := h
  exact ⟨x, setRow_more w x cs g hg⟩

/-- A block that reads as these cells. -/
abbrev Lc (w : World) (g : Nat) (T : TypeId) (cs : List Value) : Prop := w.heap[g]? = some (.cells cs.toArray T (0, 0))
theorem Lc.ext {w w' : World} {g T : Nat} {cs : List Value} (h : Lc w g T cs) (hx : Ext w w') : Lc w' g T cs := ext_heap hx h
theorem Lc.lt {w : World} {g T : Nat} {cs : List Value} (h : Lc w g T cs) : g < w.heap.size := (Array.getElem?_eq_some_iff.1 h).1
theorem Lc.new (w : World) (T : TypeId) (cs : List Value) : Lc (w.alloc (.cells cs.toArray T)) w.heap.size T cs := hp_new w _
theorem Lc.set {w : World} {g T : Nat} {cs : List Value} (h : Lc w g T cs) (ds : List Value) : Lc (w.setRow g ds.toArray) g T ds := setRow_heap w g _ ds.toArray T (0, 0) h
theorem Lc.other {w : World} {g b T : Nat} {cs : List Value} (h : Lc w b T cs) (hne : b ≠ g) (ds : Array Value) : Lc (w.setRow g ds) b T cs := (setRow_other w g b ds hne).trans h
theorem Lc.cell {w : World} {g T i : Nat} {cs : List Value} {v : Value} (h : Lc w g T cs) (hi : cs[i]? = some v) : w.cell? ⟨g, i, none⟩ = some v := by
  rw [cell_of_row w g i _ _ (0, 0) h]; simpa using hi
theorem Lc.frozen {w : World} {g T i : Nat} {cs : List Value} (h : Lc w g T cs) : w.frozen? ⟨g, i, none⟩ = false := by
  unfold Lc at h; simp [World.frozen?, h]
theorem Lc.range {w : World} {g T o : Nat} {cs ds : List Value} (h : Lc w g T cs) (hd : (cs.drop o).take ds.length = ds) : w.rangeAt g o ds := fun j v hv => by
  refine h.cell ?_
  have hj := (List.getElem?_eq_some_iff.1 hv).1
  rw [← hd, List.getElem?_take, if_pos hj, List.getElem?_drop] at hv
  exact hv
theorem Lc.setCell {w : World} {g T i : Nat} {cs : List Value} (h : Lc w g T cs) (v : Value) : w.setCell ⟨g, i, none⟩ v = w.setRow g (cs.set i v).toArray := by
  rw [setRow_setCell v h]; simp
theorem cell_setRow {w : World} {g b i : Nat} {ds : Array Value} (hne : b ≠ g) : (w.setRow g ds).cell? ⟨b, i, none⟩ = w.cell? ⟨b, i, none⟩ := by
  have h := setRow_other w g b ds hne
  simp only [World.cell?, h]
theorem range_setRow {w : World} {g b o : Nat} {ds : Array Value} {cs : List Value} (h : w.rangeAt b o cs) (hne : b ≠ g) : (w.setRow g ds).rangeAt b o cs := fun j v hv => (cell_setRow hne).trans (h j v hv)
section
variable {P : Program}
/-- A store of one cell into a row. -/
theorem wpList_st_cell {ops : Array Oper} {rest : List Oper} {o : Oper} {a : Act} {w : World} {Q : Exit → Act → World → Prop} (hgd : o.guard = none) (hdst : o.dst = none) (ty : TypeId) (x y : Operand) (ho : o.op = .store ty x y)
    (g i : Nat) (v : Value) (hx : a.eval x = .pointer (some ⟨g, i, none⟩)) (hy : a.eval y = v) (h1 : v.oneCell' = true) (hi : (P.info? ty).map (·.size) = some 1)
    (t : TypeId) (old new : List Value) (hg : Lc w g t old) (hf : i < old.length) (hn : old.set i v = new)
    (h : wpList P ops Q rest a (w.setRow g new.toArray)) : wpList P ops Q (o :: rest) a w := by
  refine wpList_plain hgd fun K hK => ?_
  have hs := run_storeCells_at (P := P) g i t [v] 0 old.toArray w hg (by simp; omega) (fun u hu => by simp at hu; subst hu; exact h1)
  have hnew : (old.toArray.toList.take (i + 0) ++ [v] ++ old.toArray.toList.drop (i + 0 + [v].length)).toArray = new.toArray := by
    rw [← hn]; simp [List.set_eq_take_append_cons_drop, hf]
  rw [hnew] at hs
  have hv : (storeVar ty ⟨g, i, none⟩ v).run P w = .ok () (w.setRow g new.toArray) := by
    cases hq : P.info? ty with
    | none => simp [hq] at hi
    | some k =>
      have hz : k.size = 1 := by simpa [hq] using hi
      have hcl : v.cells = #[v] := by cases v <;> first | rfl | simp [Value.oneCell'] at h1
      simp [storeVar, sizeOf, typeInfo, hq, hz, hcl] at hs ⊢
      simpa using hs
  unfold Oper.wp execOp
  simp only [ho, hx, hy, Instr.storeAt, Instr.sureAddr, Sem.run_bind, Sem.run_pure, Result.andThen_ok, hv]
  show K (a.put o.dst undef) _
  rw [hdst]
  exact hK _ _ h
theorem wpList_alZ {ops : Array Oper} {rest : List Oper} {o : Oper} {a : Act} {w : World} {Q : Exit → Act → World → Prop} (hg : o.guard = none) (t : TypeId) (_ : o.op = .alloc t) (cs : List Value)
    (hrun : ∀ (e : Operand → Value) (w : World), (execOp e o).run P w = .ok (.value (.pointer (some ⟨w.heap.size, 0, none⟩))) (w.alloc (.cells cs.toArray t)))
    (h : wpList P ops Q rest (a.put o.dst (.pointer (some ⟨w.heap.size, 0, none⟩))) (w.alloc (.cells cs.toArray t))) : wpList P ops Q (o :: rest) a w := by
  refine wpList_plain hg fun K hK => ?_
  unfold Oper.wp
  rw [hrun]
  exact hK _ _ h
/-- A literal that needs no operand. -/
theorem wpList_bd0 {ops : Array Oper} {rest : List Oper} {o : Oper} {a : Act} {w : World} {Q : Exit → Act → World → Prop} (hg : o.guard = none) (t : TypeId) (_ : o.op = .build t #[]) (cs : List Value)
    (hrun : ∀ (e : Operand → Value) (w : World), (execOp e o).run P w = .ok (.value (.agg cs.toArray)) w)
    (h : wpList P ops Q rest (a.put o.dst (.agg cs.toArray)) w) : wpList P ops Q (o :: rest) a w := by
  refine wpList_plain hg fun K hK => ?_
  unfold Oper.wp
  rw [hrun]
  exact hK _ _ h
end
section
variable {P : Program}
/-- A struct into the midst of a row; the world behind it by an equation. -/
theorem wpList_st_seg {ops : Array Oper} {rest : List Oper} {o : Oper} {a : Act} {w w' : World} {Q : Exit → Act → World → Prop} (hgd : o.guard = none) (hdst : o.dst = none) (ty : TypeId) (x y : Operand) (ho : o.op = .store ty x y)
    (g off : Nat) (cells : Array Value) (hx : a.eval x = .pointer (some ⟨g, off, none⟩)) (hy : a.eval y = .agg cells)
    (t : TypeId) (old : Array Value) (hg : w.heap[g]? = some (.cells old t (0, 0))) (hi : (P.info? ty).map (·.size) = some cells.size)
    (hfit : off + cells.size ≤ old.size) (h1 : cells.all (·.oneCell') = true) (new : Array Value)
    (hnew : (old.toList.take off ++ cells.toList ++ old.toList.drop (off + cells.size)).toArray = new) (hw : w.setRow g new = w')
    (h : wpList P ops Q rest a w') : wpList P ops Q (o :: rest) a w := by
  refine wpList_plain hgd fun K hK => ?_
  have hs := run_storeCells_at (P := P) g off t cells.toList 0 old w hg (by simpa using hfit) (fun v hv => (Array.all_eq_true_iff_forall_mem.1 h1) v (by simpa using hv))
  simp only [Nat.add_zero, Array.length_toList, hnew, hw] at hs
  have hv : (storeVar ty ⟨g, off, none⟩ (.agg cells)).run P w = .ok () w' := by
    cases hq : P.info? ty with
    | none => simp [hq] at hi
    | some i =>
      have hz : cells.size = i.size := by simp [hq] at hi; omega
      simp [storeVar, sizeOf, typeInfo, hq, Value.cells, hz, hs]
  unfold Oper.wp execOp
  simp only [ho, hx, hy, Instr.storeAt, Instr.sureAddr, Sem.run_bind, Sem.run_pure, Result.andThen_ok, hv]
  show K (a.put o.dst undef) w'
  rw [hdst]
  exact hK _ _ h
end
end Go.Proofs.Ytfecopfofkdnpaa
