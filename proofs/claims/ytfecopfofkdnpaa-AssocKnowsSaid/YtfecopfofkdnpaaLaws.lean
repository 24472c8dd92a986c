/- Laws on whole rows (arrays and structs by value) in worlds that are written out, for the walk in order and for the quiet walk. -/
import Derived.Test.YtfecopfofkdnpaaMore
import Derived.Test.YtfecopfofkdnpaaFlat
import Derived.Laws.Rows
import Derived.Deep.MidRow
import Derived.Laws.CopyOwn
namespace Go.Proofs.Ytfecopfofkdnpaa
open Go.RowKit
theorem all_V32 (l : List (BitVec 32)) : ((l.map V32).toArray.all (·.oneCell')) = true := by simp [Value.oneCell']
theorem all_V8 (l : List (BitVec 8)) : ((l.map V8).toArray.all (·.oneCell')) = true := by simp [Value.oneCell']
theorem mem_V32 (l : List (BitVec 32)) : ∀ v ∈ l.map V32, v.oneCell' = true := by simp [Value.oneCell']
theorem mem_V8 (l : List (BitVec 8)) : ∀ v ∈ l.map V8, v.oneCell' = true := by simp [Value.oneCell']
section
variable {P : Program}

theorem hp_at (w : World) (o : Obj) (n : Nat) (h : n = w.heap.size) : (w.alloc o).heap[n]? = some o := by subst h; exact heap_alloc_new w o
theorem hp_past (w : World) (o : Obj) (n : Nat) (h : n < w.heap.size) : (w.alloc o).heap[n]? = w.heap[n]? := heap_alloc_old w o h

theorem hp_more {w : World} {n : Nat} {o : Obj} {x : Xtra} (h : w.heap[n]? = some o) : (more w x).heap[n]? = some o := by
  rw [more_heap w x n (by rw [Array.getElem?_eq_some_iff] at h; exact h.1)]; exact h
theorem hp_alloc {w : World} {n : Nat} {o o' : Obj} (h : w.heap[n]? = some o) : (w.alloc o').heap[n]? = some o := by
  rw [hp_past w o' n (by rw [Array.getElem?_eq_some_iff] at h; exact h.1)]; exact h
theorem hp_new (w : World) (o : Obj) : (w.alloc o).heap[w.heap.size]? = some o := heap_alloc_new w o
theorem setRow_at (w : World) (c c' : Array Value) (t : TypeId) (fr : Nat × Nat) (n : Nat) (h : n = w.heap.size) : (w.alloc (.cells c t fr)).setRow n c' = w.alloc (.cells c' t fr) := by
  subst h
  show World.mk ((w.heap.push _).modify _ _) _ _ _ _ = World.mk (w.heap.push _) _ _ _ _
  congr 1
  refine Array.ext_getElem? fun j => ?_
  simp only [Array.getElem?_modify, Array.getElem?_push]
  by_cases hj : j = w.heap.size
  · subst hj; simp
  · rw [if_neg (fun e => hj e.symm)]; simp [hj]
theorem setRow_past (w : World) (o : Obj) (c' : Array Value) (n : Nat) (h : n < w.heap.size) : (w.alloc o).setRow n c' = (w.setRow n c').alloc o := by
  show World.mk ((w.heap.push _).modify _ _) _ _ _ _ = World.mk ((w.heap.modify _ _).push _) _ _ _ _
  congr 1
  refine Array.ext_getElem? fun j => ?_
  simp only [Array.getElem?_modify, Array.getElem?_push, Array.size_modify]
  by_cases hj : j = w.heap.size
  · subst hj; rw [if_neg (by omega)]; simp
  · simp [hj]
theorem setRow_more (w : World) (x : Xtra) (c' : Array Value) (n : Nat) (h : n < w.heap.size) : (more w x).setRow n c' = more (w.setRow n c') x := by
  unfold more World.setRow
  congr 1
  refine Array.ext_getElem? fun j => ?_
  by_cases hj : j < w.heap.size
  · rw [Array.getElem?_append_left (by simpa using hj)]
    simp only [Array.getElem?_modify]
    rw [Array.getElem?_append_left hj]
  · rw [Array.getElem?_append_right (by simpa using hj)]
    simp only [Array.getElem?_modify, Array.size_modify]
    rw [if_neg (by omega), Array.getElem?_append_right (by omega)]
attribute [go_sem] hp_at hp_past setRow_at setRow_past setRow_more

/-- An element of an array value, one cell wide. -/
theorem run_index_arr (w : World) {T E n : Nat} {d : TypeDesc} (hT : P.underlying T = some (.array n E)) (hE : P.underlying E = some d) (hd : (match d with | .struct _ | .array _ _ => true | _ => false) = false)
    (hs : (P.info? E).map (·.size) = some 1) (cs : Array Value) (k : IntKind) (i : Nat) (v : Value) (hi : i < n) (hv : cs[i]? = some v) :
    (Instr.index T (.agg cs) (.int k (i : Int))).run P w = .ok v w := by
  cases hq : P.info? E with
  | none => simp [hq] at hs
  | some j =>
    have hj : j.size = 1 := by simpa [hq] using hs
    have hag : (isAgg E).run P w = .ok false w := by
      unfold isAgg
      rw [Sem.run_bind, run_underlying hE w]
      cases d <;> simp_all
    have h1 : (0 : Int) ≤ i ∧ (i : Int) < n := by omega
    simp only [Instr.index, asIntOf, Sem.run_bind, Sem.run_pure, Result.andThen_ok, run_underlying hT w]
    rw [if_pos h1]
    simp [sizeOf, typeInfo, hq, hj, part, hag, hv]

/-- A whole row out of the head of a block, in a quiet walk. -/
theorem quiet_load_row {o : Oper} {a : Act} {C : World → Prop} {K : Act → Prop} (ty : TypeId) (x : Operand) (ho : o.op = .load ty x)
    (g : Nat) (hx : a.eval x = .pointer (some ⟨g, 0, none⟩)) (t : TypeId) (cs : Array Value) (fr : Nat × Nat) (d : TypeDesc) (hg : ∀ w, C w → w.heap[g]? = some (.cells cs t fr))
    (hu : P.underlying ty = some d) (hd : (match d with | .struct _ | .array _ _ => true | _ => false) = true) (hi : (P.info? ty).map (·.size) = some cs.size)
    (h : K (a.put o.dst (.agg cs))) : o.quiet P a C K := by
  refine ⟨.agg cs, fun w hw => ?_, h⟩
  unfold Oper.quietAt execOp
  simp only [ho, hx, Instr.loadAt, Instr.sureAddr, Sem.run_bind, Sem.run_pure, Result.andThen_ok, run_loadVar_row w g t ty cs fr d (hg w hw) hu hd hi]
  exact ⟨rfl, rfl⟩

/-- A whole row into the head of a block; the world behind it by an equation. -/
theorem wpList_st_row {ops : Array Oper} {rest : List Oper} {o : Oper} {a : Act} {w w' : World} {Q : Exit → Act → World → Prop} (hgd : o.guard = none) (hdst : o.dst = none) (ty : TypeId) (x y : Operand) (ho : o.op = .store ty x y)
    (g : Nat) (cells : Array Value) (hx : a.eval x = .pointer (some ⟨g, 0, none⟩)) (hy : a.eval y = .agg cells)
    (t : TypeId) (old : Array Value) (hg : w.heap[g]? = some (.cells old t (0, 0))) (hi : (P.info? ty).map (·.size) = some cells.size)
    (hold : old.size = cells.size) (h1 : cells.all (·.oneCell') = true) (hw : w.setRow g cells = w')
    (h : wpList P ops Q rest a w') : wpList P ops Q (o :: rest) a w := by
  refine wpList_store_row hgd ty x y ho g cells hx hy t old hg hi hold h1 ?_
  rw [hw, hdst]; exact h

/-- copy between two rows that are known whole. -/
theorem wpList_cp {ops : Array Oper} {rest : List Oper} {o : Oper} {a : Act} {w w' : World} {Q : Exit → Act → World → Prop} (hgd : o.guard = none) (d s : Operand) (dT sT : TypeId)
    (ho : o.op = .call { callee := .builtin .copy, args := #[d, s], argTypes := #[dT, sT] }) (elem : TypeId) (hu : P.underlying dT = some (.slice elem)) (hsz : (P.info? elem).map (·.size) = some 1)
    (g off dLen dCap gs so sLen sCap : Nat) (hd : a.eval d = .slice (some ⟨g, off, none⟩) dLen dCap) (hs : a.eval s = .slice (some ⟨gs, so, none⟩) sLen sCap)
    (cur : List Value) (t : TypeId) (hg : w.heap[g]? = some (.cells cur.toArray t (0, 0))) (src : List Value) (ts : TypeId) (fr : Nat × Nat) (hgs : w.heap[gs]? = some (.cells src.toArray ts fr))
    (n : Nat) (hn : n = Nat.min sLen dLen) (hfs : so + n ≤ src.length) (hfit : off + n ≤ cur.length) (h1 : ∀ v ∈ src, v.oneCell' = true)
    (new : List Value) (hnew : cur.take off ++ ((src.drop so).take n ++ cur.drop (off + n)) = new) (hw : w.setRow g new.toArray = w')
    (h : wpList P ops Q rest (a.put o.dst (goInt n)) w') : wpList P ops Q (o :: rest) a w := by
  have hl : ((src.drop so).take n).length = n := by simp; omega
  refine wpList_copy_own hgd d s dT sT ho elem hu hsz g off dLen dCap ⟨gs, so, none⟩ sLen sCap hd hs cur.toArray t hg ((src.drop so).take n) (by rw [hl]; exact hn) ?_ (by simpa [hl] using hfit) ?_ ?_
  · intro j v hv
    have hadd : (⟨gs, so, none⟩ : Addr).add j = ⟨gs, so + j, none⟩ := Addr.add_mid gs so j
    rw [hadd, cell_of_row w gs (so + j) src.toArray ts fr hgs]
    rw [List.getElem?_take] at hv
    split at hv
    · simpa using hv
    · cases hv
  · intro v hv
    exact h1 v (List.mem_of_mem_drop (List.mem_of_mem_take hv))
  · rw [hl]
    have e : (cur.toArray.toList.take off ++ ((src.drop so).take n ++ cur.toArray.toList.drop (off + n))) = new := by simpa using hnew
    rw [e, hw]; exact h

/-- The result lies in a row of its own. -/
theorem ret_row {fn : Func} {R : Ending → World → Prop} {a : Act} {w : World} {p : Tmp} {ty : TypeId} (h : fn.results = #[.cell p ty]) (g : Nat) (t : TypeId) (cs : Array Value) (fr : Nat × Nat) (d : TypeDesc)
    (hp : a.tmps.getD p undef = .pointer (some ⟨g, 0, none⟩)) (hg : w.heap[g]? = some (.cells cs t fr))
    (hu : P.underlying ty = some d) (hd : (match d with | .struct _ | .array _ _ => true | _ => false) = true) (hi : (P.info? ty).map (·.size) = some cs.size)
    (hdf : a.defers = []) (hR : R (.returned (.agg cs)) w) : bodyPost P fn R .ret a w :=
  bodyPost_ret (results_cell_row h a.tmps w g t cs fr d hp hg hu hd hi) hdf hR
end
end Go.Proofs.Ytfecopfofkdnpaa
