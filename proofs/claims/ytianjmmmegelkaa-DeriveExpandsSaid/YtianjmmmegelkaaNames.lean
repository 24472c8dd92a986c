/- Expand's errors, Step with an error, Pairwise with equal addresses; the walk of DeriveNames. -/
import Derived.Test.YtianjmmmegelkaaExpand
import Derived.Test.YtianjmmmegelkaaLaw23a
import Derived.Test.YtianjmmmegelkaaEq
import Derived.Test.YtianjmmmegelkaaSpine0
namespace Go.Proofs.Ytianjmmmegelkaa
open Go.RowKit
section
variable {P : Program}
theorem results_cell_tmp_row {fn : Func} {p q : Tmp} {ty : TypeId} (h : fn.results = #[.cell p ty, .tmp q]) (tmps : Array Value) (w : World) (g : Nat) (t : TypeId) (cs : Array Value) (fr : Nat × Nat) (d : TypeDesc)
    (hp : tmps.getD p undef = .pointer (some ⟨g, 0, none⟩)) (v : Value) (hv : tmps.getD q undef = v) (hg : w.heap[g]? = some (.cells cs t fr))
    (hu : P.underlying ty = some d) (hd : (match d with | .struct _ | .array _ _ => true | _ => false) = true) (hi : (P.info? ty).map (·.size) = some cs.size) :
    (results fn tmps).run P w = .ok (.tuple #[.agg cs, v]) w := by
  have hp' : tmps[p]?.getD undef = .pointer (some ⟨g, 0, none⟩) := by simpa using hp
  have hv' : tmps[q]?.getD undef = v := by simpa using hv
  simp [results, h, hp', hv', asAddr, run_loadVar_row w g t ty cs fr d hg hu hd hi]
theorem ret_row2 {fn : Func} {R : Ending → World → Prop} {a : Act} {w : World} {p q : Tmp} {ty : TypeId} (h : fn.results = #[.cell p ty, .tmp q]) (g : Nat) (t : TypeId) (cs : Array Value) (fr : Nat × Nat) (d : TypeDesc)
    (hp : a.tmps.getD p undef = .pointer (some ⟨g, 0, none⟩)) (v : Value) (hv : a.tmps.getD q undef = v) (hg : w.heap[g]? = some (.cells cs t fr))
    (hu : P.underlying ty = some d) (hd : (match d with | .struct _ | .array _ _ => true | _ => false) = true) (hi : (P.info? ty).map (·.size) = some cs.size)
    (hdf : a.defers = []) (hR : R (.returned (.tuple #[.agg cs, v])) w) : bodyPost P fn R .ret a w :=
  bodyPost_ret (results_cell_tmp_row h a.tmps w g t cs fr d hp v hv hg hu hd hi) hdf hR
end

set_option maxHeartbeats 1600000 in
theorem expand_neg (ks : List (BitVec 8)) (s : ByteArray) (ac : Option Addr) (q cc : Nat) (n : Int) (hn : n < 0) (w : World) :
    Calls Try.prog 17 #[.agg (ks.map V8).toArray, .string s, .slice ac q cc, .int .i64 n] w fun e w' => e = .returned (.tuple #[.slice none 0 0, .int .i64 2]) ∧ Ext w w' := by
  go_enter Try.func17, Try.ntmps17
  go_wp2_with fail
  refine bodyPost_ret (v := .tuple #[.slice none 0 0, .int .i64 2]) (by simp [results, Try.results17, go_sem]) rfl ⟨rfl, Ext.alloc _ _⟩
set_option maxHeartbeats 1600000 in
theorem expand_many (ks : List (BitVec 8)) (s : ByteArray) (hs : s.size ≤ 9223372036854775807) (ac : Option Addr) (q cc : Nat) (n : Int) (hn : 0 ≤ n) (ho : 32 < s.size ∨ 256 < q ∨ 1024 < n) (w : World) :
    Calls Try.prog 17 #[.agg (ks.map V8).toArray, .string s, .slice ac q cc, .int .i64 n] w fun e w' => e = .returned (.tuple #[.slice none 0 0, .int .i64 4]) ∧ Ext w w' := by
  have hn' : ¬ n < 0 := by omega
  by_cases h1 : 32 < (s.size : Int)
  case pos =>
    go_enter Try.func17, Try.ntmps17
    go_wp2_with fail
    refine bodyPost_ret (v := .tuple #[.slice none 0 0, .int .i64 4]) (by simp [results, Try.results17, go_sem]) rfl ⟨rfl, Ext.alloc _ _⟩
  by_cases h2 : 256 < (q : Int)
  case pos =>
    go_enter Try.func17, Try.ntmps17
    go_wp2_with fail
    refine bodyPost_ret (v := .tuple #[.slice none 0 0, .int .i64 4]) (by simp [results, Try.results17, go_sem]) rfl ⟨rfl, Ext.alloc _ _⟩
  have h3 : 1024 < n := by omega
  go_enter Try.func17, Try.ntmps17
  go_wp2_with fail
  refine bodyPost_ret (v := .tuple #[.slice none 0 0, .int .i64 4]) (by simp [results, Try.results17, go_sem]) rfl ⟨rfl, Ext.alloc _ _⟩

set_option maxHeartbeats 1600000 in
theorem step_many (ks : List (BitVec 8)) (hk : ks.length = 16) (s : ByteArray) (hs : s.size ≤ 9223372036854775807) (ho : 32 < s.size) (w : World) :
    Calls Try.prog 19 #[.agg (ks.map V8).toArray, .string s, .slice none 0 0] w fun e w' => e = .returned (.tuple #[.agg z16, .int .i64 4]) ∧ Ext w w' := by
  have HK := kp (sizeK ks hk)
  have HE := kp (fun w => expand_many ks s hs none 0 0 16 (by omega) (.inl ho) w)
  have HZ := kp (sizeK (List.replicate 16 0) (by simp))
  clear hk ho hs
  go_enter Try.func19, Try.ntmps19
  go_wp2_with (first | ((with_reducible refine wpList_copy_nothing rfl _ _ 22 22 rfl 5 Try.underlying22 size5 _ _ _ _ _ _ rfl rfl (by decide) ?_); simp only [Act.put, List.setIfInBounds_toArray, List.set_cons_zero, List.set_cons_succ]) | ((with_reducible show wpList _ _ _ (Oper.mk _ (Op.load 29 _) _ _ _ _ :: _) _ _); (with_reducible refine wpList_load_row rfl 29 _ rfl (w.heap.size) rfl 29 ((ks.map V8).toArray) (0, 0) _ (hp_alloc (hp_new _ _)) Try.underlying29 rfl (HK.out) ?_); simp only [Act.put, List.setIfInBounds_toArray, List.set_cons_zero, List.set_cons_succ]) | (go_at_call 17; refine (HE.out _).mono ?_; rintro e w' ⟨rfl, x, rfl⟩) | ((with_reducible show wpList _ _ _ (Oper.mk _ (Op.load 29 _) _ _ _ _ :: _) _ _); (with_reducible refine wpList_load_row rfl 29 _ rfl (w.heap.size + 1) rfl 29 (z16) (0, 0) _ (hp_more (hp_at _ _ _ (by simp))) Try.underlying29 rfl (HZ.out) ?_); simp only [Act.put, List.setIfInBounds_toArray, List.set_cons_zero, List.set_cons_succ]) | ((with_reducible show wpList _ _ _ (Oper.mk none (Op.store 29 _ _) _ _ _ _ :: _) _ _); with_reducible refine wpList_st_row rfl rfl 29 _ _ rfl (w.heap.size + 1) (z16) rfl rfl 29 (z16) (hp_more (hp_at _ _ _ (by simp))) (HZ.out) (rfl) (all_V8 _) (by rewrite [setRow_more _ _ _ _ (by simp <;> omega), setRow_at _ _ _ _ _ _ (by simp <;> omega)]; rfl) ?_))
  exact ret_row2 Try.results19 (w.heap.size + 1) 29 z16 (0, 0) _ rfl (.int .i64 4) rfl (hp_more (hp_at _ _ _ (by simp))) Try.underlying29 rfl HZ.out rfl ⟨rfl, ((Ext.alloc _ _).trans (Ext.alloc _ _)).trans (Ext.more _ _)⟩

theorem size49 : (Try.prog.info? 49).map (·.size) = some 6 := by kernel_rfl
theorem size45 : (Try.prog.info? 45).map (·.size) = some 48 := by kernel_rfl
def z48 : Array Value := ((List.replicate 48 (0 : BitVec 8)).map V8).toArray
set_option maxHeartbeats 1600000 in
set_option maxRecDepth 10000 in
theorem pair_same (ks : List (BitVec 8)) (l : List (BitVec 8)) (hl : l.length = 6) (n1 n2 : Array Value) (w : World) :
    Calls Try.prog 21 #[.agg (ks.map V8).toArray, .agg (l.map V8).toArray, .agg (l.map V8).toArray, .agg n1, .agg n2] w fun e w' => e = .returned (.tuple #[.agg z48, .int .i64 2]) ∧ Ext w w' := by
  have HA := kp (show (Try.prog.info? 49).map (·.size) = some (l.map V8).toArray.size by rw [size49]; simp [hl])
  have HZ := kp (show (Try.prog.info? 45).map (·.size) = some z48.size by rw [size45]; rfl)
  have HO := kp (show (z48.all (·.oneCell')) = true from all_V8 _)
  have heq : ∀ w, (binOp .eql 49 (.agg (l.map V8).toArray) (.agg (l.map V8).toArray)).run Try.prog w = .ok (.bool true) w := fun w => by
    have h := run_eql_V8 (P := Try.prog) w Try.underlying49 Try.underlying5 size5 l l hl hl
    rw [h]; simp
  clear hl
  go_enter Try.func21, Try.ntmps21
  go_wp2_with (first | ((with_reducible show wpList _ _ _ (Oper.mk _ (Op.load 49 _) _ _ _ _ :: _) _ _); (with_reducible refine wpList_load_row rfl 49 _ rfl (w.heap.size + 1) rfl 49 ((l.map V8).toArray) (0, 0) _ (hp_alloc (hp_alloc (hp_alloc (hp_alloc (hp_at _ _ _ (by simp)))))) Try.underlying49 rfl (HA.out) ?_); simp only [Act.put, List.setIfInBounds_toArray, List.set_cons_zero, List.set_cons_succ]) | ((with_reducible show wpList _ _ _ (Oper.mk _ (Op.load 49 _) _ _ _ _ :: _) _ _); (with_reducible refine wpList_load_row rfl 49 _ rfl (w.heap.size + 1 + 1) rfl 49 ((l.map V8).toArray) (0, 0) _ (hp_alloc (hp_alloc (hp_alloc (hp_at _ _ _ (by simp))))) Try.underlying49 rfl (HA.out) ?_); simp only [Act.put, List.setIfInBounds_toArray, List.set_cons_zero, List.set_cons_succ]) | ((with_reducible show wpList _ _ _ (Oper.mk _ (Op.load 45 _) _ _ _ _ :: _) _ _); (with_reducible refine wpList_load_row rfl 45 _ rfl (w.heap.size + 1 + 1 + 1 + 1 + 1) rfl 45 (z48) (0, 0) _ (hp_at _ _ _ (by simp)) Try.underlying45 rfl (HZ.out) ?_); simp only [Act.put, List.setIfInBounds_toArray, List.set_cons_zero, List.set_cons_succ]) | ((with_reducible show wpList _ _ _ (Oper.mk none (Op.store 45 _ _) _ _ _ _ :: _) _ _); with_reducible refine wpList_st_row rfl rfl 45 _ _ rfl (w.heap.size + 1 + 1 + 1 + 1 + 1) (z48) rfl rfl 45 (z48) (hp_at _ _ _ (by simp)) (HZ.out) (rfl) (HO.out) (by rewrite [setRow_at _ _ _ _ _ _ (by simp <;> omega)]; rfl) ?_))
  exact ret_row2 Try.results21 (w.heap.size + 1 + 1 + 1 + 1 + 1) 45 z48 (0, 0) _ rfl (.int .i64 2) rfl (hp_at _ _ _ (by simp)) Try.underlying45 rfl HZ.out rfl ⟨rfl, (((((Ext.alloc _ _).trans (Ext.alloc _ _)).trans (Ext.alloc _ _)).trans (Ext.alloc _ _)).trans (Ext.alloc _ _)).trans (Ext.alloc _ _)⟩
end Go.Proofs.Ytianjmmmegelkaa
