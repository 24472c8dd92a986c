/- counter.Next and hotspotref24.Next; the walk of CounterMatches. -/
import Derived.Test.YtjnaegpjhbobaaaRef24b
import Derived.Test.YtjnaegpjhbobaaaCeq
namespace Go.Proofs.Ytjnaegpjhbobaaa
open Go.RowKit
section
variable {P : Program}
theorem results_tct_row {fn : Func} {p q r : Tmp} {ty : TypeId} (h : fn.results = #[.tmp r, .cell p ty, .tmp q]) (tmps : Array Value) (w : World) (g : Nat) (t : TypeId) (cs : Array Value) (fr : Nat × Nat) (d : TypeDesc) (u : Value) (hr : tmps.getD r undef = u)
    (hp : tmps.getD p undef = .pointer (some ⟨g, 0, none⟩)) (v : Value) (hv : tmps.getD q undef = v) (hg : w.heap[g]? = some (.cells cs t fr))
    (hu : P.underlying ty = some d) (hd : (match d with | .struct _ | .array _ _ => true | _ => false) = true) (hi : (P.info? ty).map (·.size) = some cs.size) :
    (results fn tmps).run P w = .ok (.tuple #[u, .agg cs, v]) w := by
  have hr' : tmps[r]?.getD undef = u := by simpa using hr
  have hp' : tmps[p]?.getD undef = .pointer (some ⟨g, 0, none⟩) := by simpa using hp
  have hv' : tmps[q]?.getD undef = v := by simpa using hv
  simp [results, h, hr', hp', hv', asAddr, run_loadVar_row w g t ty cs fr d hg hu hd hi]
theorem ret_row3 {fn : Func} {R : Ending → World → Prop} {a : Act} {w : World} {p q r : Tmp} {ty : TypeId} (h : fn.results = #[.tmp r, .cell p ty, .tmp q]) (g : Nat) (t : TypeId) (cs : Array Value) (fr : Nat × Nat) (d : TypeDesc) (u : Value) (hr : a.tmps.getD r undef = u)
    (hp : a.tmps.getD p undef = .pointer (some ⟨g, 0, none⟩)) (v : Value) (hv : a.tmps.getD q undef = v) (hg : w.heap[g]? = some (.cells cs t fr))
    (hu : P.underlying ty = some d) (hd : (match d with | .struct _ | .array _ _ => true | _ => false) = true) (hi : (P.info? ty).map (·.size) = some cs.size)
    (hdf : a.defers = []) (hR : R (.returned (.tuple #[u, .agg cs, v])) w) : bodyPost P fn R .ret a w :=
  bodyPost_ret (results_tct_row h a.tmps w g t cs fr d u hr hp v hv hg hu hd hi) hdf hR
end
/-- The next number, the counters, and the error. -/
def nextF (a : Int) (l : List Win) : Int × (Int × List Win) × Int :=
  if checkF a l = 8 then (0, (0, zeroWs), 8) else if a = most then (0, (0, zeroWs), 22) else (a + 1, (a + 1, l), 0)
theorem nextF_len (a : Int) (l : List Win) (hl : l.length = 9) : (nextF a l).2.1.2.length = 9 := by
  unfold nextF
  split
  · rfl
  split
  · rfl
  · exact hl

set_option maxHeartbeats 3200000 in
theorem next_any (a : Int) (l : List Win) (hl : l.length = 9) (w : World) :
    Calls Try.prog 13 #[.agg (cellsC a l).toArray] w fun e w' => e = .returned (.tuple #[.int .i64 (nextF a l).1, .agg (cellsC (nextF a l).2.1.1 (nextF a l).2.1.2).toArray, .int .i64 (nextF a l).2.2]) ∧ Ext w w' := by
  have hc0 : (cellsC a l)[0]? = some (.int .i64 a) := rfl
  have HS := kp (sizeC a l hl)
  have HK := kp (fun w => check_any a l hl w)
  have HZ := kp (show (Try.prog.info? 29).map (·.size) = some zeroC.size from size29)
  have HO := kp (show (zeroC.all (·.oneCell')) = true by simp [Value.oneCell'])
  rcases checkF_cases a l with hk | hk
  case inl =>
    have HF := kp (show nextF a l = (0, (0, zeroWs), 8) by simp [nextF, hk])
    rw [hk] at HK
    clear hk
    go_enter Try.func13, Try.ntmps13
    go_wp2_with (first | ((with_reducible show wpList _ _ _ (Oper.mk _ (Op.load 29 _) _ _ _ _ :: _) _ _); (with_reducible refine wpList_load_row rfl 29 _ rfl (w.heap.size) rfl 29 ((cellsC a l).toArray) (0, 0) _ (hp_alloc (hp_new _ _)) Try.underlying29 rfl (HS.out) ?_); simp only [Act.put, List.setIfInBounds_toArray, List.set_cons_zero, List.set_cons_succ]) | ((with_reducible show wpList _ _ _ (Oper.mk none (Op.store 29 _ _) _ _ _ _ :: _) _ _); with_reducible refine wpList_st_row rfl rfl 29 _ _ rfl (w.heap.size + 1) (zeroC) rfl rfl 29 (_) (hp_more (hp_at _ _ _ (by simp))) (HZ.out) (rfl) (HO.out) (by rewrite [setRow_more _ _ _ _ (by first | assumption | (simp <;> omega)), setRow_at _ _ _ _ _ _ (by simp <;> omega)]; rfl) ?_) | (go_at_call 12; refine (HK.out _).mono ?_; rintro e w' ⟨rfl, x, rfl⟩))
    exact ret_row3 Try.results13 (w.heap.size + 1) 29 _ (0, 0) _ (.int .i64 0) rfl rfl (.int .i64 8) rfl (hp_more (hp_at _ _ _ (by simp))) Try.underlying29 rfl HZ.out rfl ⟨by rw [HF.out]; rfl, ((Ext.alloc _ _).trans (Ext.alloc _ _)).trans (Ext.more _ _)⟩
  have HK2 := kp hk
  rw [hk] at HK
  have hr : 0 ≤ a ∧ a ≤ 281474976710655 := by
    unfold checkF most at hk
    split at hk
    · cases hk
    · rename_i h; omega
  obtain ⟨ha0, ha1⟩ := hr
  clear hk
  by_cases hm : a = 281474976710655
  case pos =>
    have HF := kp (show nextF a l = (0, (0, zeroWs), 22) by unfold nextF; rw [HK2.out, if_neg (by decide), if_pos (by unfold most; exact hm)])
    have hmb : (a == 281474976710655) = true := by simpa using hm
    clear hm
    go_enter Try.func13, Try.ntmps13
    go_wp2_with (first | ((with_reducible show wpList _ _ _ (Oper.mk _ (Op.load 29 _) _ _ _ _ :: _) _ _); (with_reducible refine wpList_load_row rfl 29 _ rfl (w.heap.size) rfl 29 ((cellsC a l).toArray) (0, 0) _ (hp_alloc (hp_new _ _)) Try.underlying29 rfl (HS.out) ?_); simp only [Act.put, List.setIfInBounds_toArray, List.set_cons_zero, List.set_cons_succ]) | ((with_reducible show wpList _ _ _ (Oper.mk none (Op.store 29 _ _) _ _ _ _ :: _) _ _); with_reducible refine wpList_st_row rfl rfl 29 _ _ rfl (w.heap.size + 1) (zeroC) rfl rfl 29 (_) (hp_more (hp_at _ _ _ (by simp))) (HZ.out) (rfl) (HO.out) (by rewrite [setRow_more _ _ _ _ (by first | assumption | (simp <;> omega)), setRow_at _ _ _ _ _ _ (by simp <;> omega)]; rfl) ?_) | (go_at_call 12; refine (HK.out _).mono ?_; rintro e w' ⟨rfl, x, rfl⟩))
    exact ret_row3 Try.results13 (w.heap.size + 1) 29 _ (0, 0) _ (.int .i64 0) rfl rfl (.int .i64 22) rfl (hp_more (hp_at _ _ _ (by simp))) Try.underlying29 rfl HZ.out rfl ⟨by rw [HF.out]; rfl, ((Ext.alloc _ _).trans (Ext.alloc _ _)).trans (Ext.more _ _)⟩
  have HF := kp (show nextF a l = (a + 1, (a + 1, l), 0) by simp [nextF, HK2.out, most, hm])
  have hmb : (a == 281474976710655) = false := by simpa using hm
  have HG := kp (show ((cellsC a l).set 0 (.int .i64 (a + 1))).toArray = (cellsC (a + 1) l).toArray from rfl)
  have HSN := kp (show (Try.prog.info? 29).map (·.size) = some ((cellsC a l).set 0 (.int .i64 (a + 1))).toArray.size by rw [HG.out]; exact sizeC (a + 1) l hl)
  have HON := kp (show (((cellsC a l).set 0 (.int .i64 (a + 1))).toArray.all (·.oneCell')) = true by rw [HG.out]; exact all_cellsC _ _)
  have HEN := kp (show zeroC.size = ((cellsC a l).set 0 (.int .i64 (a + 1))).toArray.size by rw [HG.out]; exact zeroC_size (a + 1) l hl)
  have hc1 : ((cellsC a l).set 0 (.int .i64 (a + 1)))[0]? = some (.int .i64 (a + 1)) := rfl
  have hlt : a < 281474976710655 := by omega
  clear hm
  go_enter Try.func13, Try.ntmps13
  go_wp2_with (first | ((with_reducible show wpList _ _ _ (Oper.mk _ (Op.load 29 _) _ _ _ _ :: _) _ _); (with_reducible refine wpList_load_row rfl 29 _ rfl (w.heap.size) rfl 29 ((cellsC a l).toArray) (0, 0) _ (hp_alloc (hp_new _ _)) Try.underlying29 rfl (HS.out) ?_); simp only [Act.put, List.setIfInBounds_toArray, List.set_cons_zero, List.set_cons_succ]) | (go_at_call 12; refine (HK.out _).mono ?_; rintro e w' ⟨rfl, x, rfl⟩))
  (first | with_reducible refine region_f2 4 (by kernel_rfl) (by kernel_rfl) (by kernel_rfl) (by kernel_rfl) (by decide) (Nat.le_of_ble_eq_true (by kernel_rfl)) ?_ | refine region_f 4 (by kernel_rfl) (by kernel_rfl) (by kernel_rfl) (by kernel_rfl) (by decide) (Nat.le_of_ble_eq_true (by kernel_rfl)) ?_)
  apply Exists.intro
  refine ⟨fun xz4 => ?_, fun xq4 => ?_⟩
  · simp only [List.take_succ_cons, List.take_zero]
    unfold Cx
    repeat (first | ((with_reducible show wpQuiet _ _ _ _ (Oper.mk _ (Op.load 29 _) _ _ _ _ :: _) _); go_big_quiet_want; with_reducible refine quiet_load_row 29 _ rfl (w.heap.size) rfl 29 (((cellsC a l).set 0 (.int .i64 (a + 1))).toArray) (0, 0) _ (fun _ hw => by obtain ⟨xx, rfl⟩ := hw; exact hp_more (hp_alloc (hp_new _ _))) Try.underlying29 rfl (HSN.out) ?_; simp only [Act.put, List.setIfInBounds_toArray, List.set_cons_zero, List.set_cons_succ]; go_big_quiet_on) | go_big_quiet_step (fail))
    exact wpQuiet_nil rfl
  simp only [List.drop_succ_cons, List.drop_zero]
  go_wp2_with ((with_reducible show wpList _ _ _ (Oper.mk none (Op.store 29 _ _) _ _ _ _ :: _) _ _); with_reducible refine wpList_st_row rfl rfl 29 _ _ rfl (w.heap.size + 1) (((cellsC a l).set 0 (.int .i64 (a + 1))).toArray) rfl rfl 29 (_) (hp_more (hp_at _ _ _ (by simp))) (HSN.out) (HEN.out) (HON.out) (by rewrite [setRow_more _ _ _ _ (by first | assumption | (simp <;> omega)), setRow_at _ _ _ _ _ _ (by simp <;> omega)]; rfl) ?_)
  exact ret_row3 Try.results13 (w.heap.size + 1) 29 _ (0, 0) _ (.int .i64 (a + 1)) rfl rfl (.int .i64 0) rfl (hp_more (hp_at _ _ _ (by simp))) Try.underlying29 rfl HSN.out rfl ⟨by rw [HF.out, HG.out], ((Ext.alloc _ _).trans (Ext.alloc _ _)).trans (Ext.more _ _)⟩

set_option maxHeartbeats 3200000 in
theorem rnext_any (a : Int) (l : List Win) (hl : l.length = 9) (w : World) :
    Calls Try.prog 14 #[.agg (cellsC a l).toArray] w fun e w' => e = .returned (.tuple #[.int .i64 (nextF a l).1, .agg (cellsC (nextF a l).2.1.1 (nextF a l).2.1.2).toArray, .int .i64 (nextF a l).2.2]) ∧ Ext w w' := by
  have hc0 : (cellsC a l)[0]? = some (.int .i64 a) := rfl
  have HS := kp (sizeC a l hl)
  have HK := kp (fun w => rcheck_any a l hl w)
  have HZ := kp (show (Try.prog.info? 29).map (·.size) = some zeroC.size from size29)
  have HO := kp (show (zeroC.all (·.oneCell')) = true by simp [Value.oneCell'])
  rcases checkF_cases a l with hk | hk
  case inl =>
    have HF := kp (show nextF a l = (0, (0, zeroWs), 8) by simp [nextF, hk])
    rw [hk] at HK
    clear hk
    go_enter Try.func14, Try.ntmps14
    go_wp2_with (first | ((with_reducible show wpList _ _ _ (Oper.mk _ (Op.load 29 _) _ _ _ _ :: _) _ _); (with_reducible refine wpList_load_row rfl 29 _ rfl (w.heap.size) rfl 29 ((cellsC a l).toArray) (0, 0) _ (hp_alloc (hp_new _ _)) Try.underlying29 rfl (HS.out) ?_); simp only [Act.put, List.setIfInBounds_toArray, List.set_cons_zero, List.set_cons_succ]) | ((with_reducible show wpList _ _ _ (Oper.mk none (Op.store 29 _ _) _ _ _ _ :: _) _ _); with_reducible refine wpList_st_row rfl rfl 29 _ _ rfl (w.heap.size + 1) (zeroC) rfl rfl 29 (_) (hp_more (hp_at _ _ _ (by simp))) (HZ.out) (rfl) (HO.out) (by rewrite [setRow_more _ _ _ _ (by first | assumption | (simp <;> omega)), setRow_at _ _ _ _ _ _ (by simp <;> omega)]; rfl) ?_) | (go_at_call 16; refine (HK.out _).mono ?_; rintro e w' ⟨rfl, x, rfl⟩))
    exact ret_row3 Try.results14 (w.heap.size + 1) 29 _ (0, 0) _ (.int .i64 0) rfl rfl (.int .i64 8) rfl (hp_more (hp_at _ _ _ (by simp))) Try.underlying29 rfl HZ.out rfl ⟨by rw [HF.out]; rfl, ((Ext.alloc _ _).trans (Ext.alloc _ _)).trans (Ext.more _ _)⟩
  have HK2 := kp hk
  rw [hk] at HK
  have hr : 0 ≤ a ∧ a ≤ 281474976710655 := by
    unfold checkF most at hk
    split at hk
    · cases hk
    · rename_i h; omega
  obtain ⟨ha0, ha1⟩ := hr
  clear hk
  by_cases hm : a = 281474976710655
  case pos =>
    have HF := kp (show nextF a l = (0, (0, zeroWs), 22) by unfold nextF; rw [HK2.out, if_neg (by decide), if_pos (by unfold most; exact hm)])
    have hmb : (a == 281474976710655) = true := by simpa using hm
    clear hm
    go_enter Try.func14, Try.ntmps14
    go_wp2_with (first | ((with_reducible show wpList _ _ _ (Oper.mk _ (Op.load 29 _) _ _ _ _ :: _) _ _); (with_reducible refine wpList_load_row rfl 29 _ rfl (w.heap.size) rfl 29 ((cellsC a l).toArray) (0, 0) _ (hp_alloc (hp_new _ _)) Try.underlying29 rfl (HS.out) ?_); simp only [Act.put, List.setIfInBounds_toArray, List.set_cons_zero, List.set_cons_succ]) | ((with_reducible show wpList _ _ _ (Oper.mk none (Op.store 29 _ _) _ _ _ _ :: _) _ _); with_reducible refine wpList_st_row rfl rfl 29 _ _ rfl (w.heap.size + 1) (zeroC) rfl rfl 29 (_) (hp_more (hp_at _ _ _ (by simp))) (HZ.out) (rfl) (HO.out) (by rewrite [setRow_more _ _ _ _ (by first | assumption | (simp <;> omega)), setRow_at _ _ _ _ _ _ (by simp <;> omega)]; rfl) ?_) | (go_at_call 16; refine (HK.out _).mono ?_; rintro e w' ⟨rfl, x, rfl⟩))
    exact ret_row3 Try.results14 (w.heap.size + 1) 29 _ (0, 0) _ (.int .i64 0) rfl rfl (.int .i64 22) rfl (hp_more (hp_at _ _ _ (by simp))) Try.underlying29 rfl HZ.out rfl ⟨by rw [HF.out]; rfl, ((Ext.alloc _ _).trans (Ext.alloc _ _)).trans (Ext.more _ _)⟩
  have HF := kp (show nextF a l = (a + 1, (a + 1, l), 0) by simp [nextF, HK2.out, most, hm])
  have hmb : (a == 281474976710655) = false := by simpa using hm
  have HG := kp (show ((cellsC a l).set 0 (.int .i64 (a + 1))).toArray = (cellsC (a + 1) l).toArray from rfl)
  have HSN := kp (show (Try.prog.info? 29).map (·.size) = some ((cellsC a l).set 0 (.int .i64 (a + 1))).toArray.size by rw [HG.out]; exact sizeC (a + 1) l hl)
  have HON := kp (show (((cellsC a l).set 0 (.int .i64 (a + 1))).toArray.all (·.oneCell')) = true by rw [HG.out]; exact all_cellsC _ _)
  have HEN := kp (show zeroC.size = ((cellsC a l).set 0 (.int .i64 (a + 1))).toArray.size by rw [HG.out]; exact zeroC_size (a + 1) l hl)
  have hc1 : ((cellsC a l).set 0 (.int .i64 (a + 1)))[0]? = some (.int .i64 (a + 1)) := rfl
  have hlt : a < 281474976710655 := by omega
  clear hm
  go_enter Try.func14, Try.ntmps14
  go_wp2_with (first | ((with_reducible show wpList _ _ _ (Oper.mk _ (Op.load 29 _) _ _ _ _ :: _) _ _); (with_reducible refine wpList_load_row rfl 29 _ rfl (w.heap.size) rfl 29 ((cellsC a l).toArray) (0, 0) _ (hp_alloc (hp_new _ _)) Try.underlying29 rfl (HS.out) ?_); simp only [Act.put, List.setIfInBounds_toArray, List.set_cons_zero, List.set_cons_succ]) | (go_at_call 16; refine (HK.out _).mono ?_; rintro e w' ⟨rfl, x, rfl⟩))
  (first | with_reducible refine region_f2 4 (by kernel_rfl) (by kernel_rfl) (by kernel_rfl) (by kernel_rfl) (by decide) (Nat.le_of_ble_eq_true (by kernel_rfl)) ?_ | refine region_f 4 (by kernel_rfl) (by kernel_rfl) (by kernel_rfl) (by kernel_rfl) (by decide) (Nat.le_of_ble_eq_true (by kernel_rfl)) ?_)
  apply Exists.intro
  refine ⟨fun xz4 => ?_, fun xq4 => ?_⟩
  · simp only [List.take_succ_cons, List.take_zero]
    unfold Cx
    repeat (first | ((with_reducible show wpQuiet _ _ _ _ (Oper.mk _ (Op.load 29 _) _ _ _ _ :: _) _); go_big_quiet_want; with_reducible refine quiet_load_row 29 _ rfl (w.heap.size) rfl 29 (((cellsC a l).set 0 (.int .i64 (a + 1))).toArray) (0, 0) _ (fun _ hw => by obtain ⟨xx, rfl⟩ := hw; exact hp_more (hp_alloc (hp_new _ _))) Try.underlying29 rfl (HSN.out) ?_; simp only [Act.put, List.setIfInBounds_toArray, List.set_cons_zero, List.set_cons_succ]; go_big_quiet_on) | go_big_quiet_step (fail))
    exact wpQuiet_nil rfl
  simp only [List.drop_succ_cons, List.drop_zero]
  go_wp2_with ((with_reducible show wpList _ _ _ (Oper.mk none (Op.store 29 _ _) _ _ _ _ :: _) _ _); with_reducible refine wpList_st_row rfl rfl 29 _ _ rfl (w.heap.size + 1) (((cellsC a l).set 0 (.int .i64 (a + 1))).toArray) rfl rfl 29 (_) (hp_more (hp_at _ _ _ (by simp))) (HSN.out) (HEN.out) (HON.out) (by rewrite [setRow_more _ _ _ _ (by first | assumption | (simp <;> omega)), setRow_at _ _ _ _ _ _ (by simp <;> omega)]; rfl) ?_)
  exact ret_row3 Try.results14 (w.heap.size + 1) 29 _ (0, 0) _ (.int .i64 (a + 1)) rfl rfl (.int .i64 0) rfl (hp_more (hp_at _ _ _ (by simp))) Try.underlying29 rfl HSN.out rfl ⟨by rw [HF.out, HG.out], ((Ext.alloc _ _).trans (Ext.alloc _ _)).trans (Ext.more _ _)⟩

set_option maxHeartbeats 3200000 in
theorem counterMatches.walk (a : Int) (_ : (Lit.int .i64 a).wf = true) (l : List Win) (hl : l.length = 9) (tid : Int) (_ : (Lit.int .i64 tid).wf = true) (n : Int) (_ : (Lit.int .i64 n).wf = true) (w : World) :
    Calls Try.prog 5 #[.agg (cellsC a l).toArray, .int .i64 tid, .int .i64 n] w fun e w' => e = .returned (.bool true) ∧ Ext w w' := by
  have HS := kp (sizeC a l hl)
  have HN := kp (fun w => next_any a l hl w)
  have HRN := kp (fun w => rnext_any a l hl w)
  have hln := nextF_len a l hl
  have HA := kp (fun w => accept_any a l tid n hl w)
  have HRA := kp (fun w => raccept_any a l tid n hl w)
  have hla := acceptF_len a l tid n hl
  have HC := kp (fun w => check_any a l hl w)
  have HRC := kp (fun w => rcheck_any a l hl w)
  clear hl
  unfold RetAcc at HA HRA
  generalize nextF a l = r1 at *
  generalize acceptF a l tid n = r2 at *
  generalize checkF a l = ck at *
  obtain ⟨q, ⟨a1, l1⟩, e1⟩ := r1
  obtain ⟨⟨a2, l2⟩, e2⟩ := r2
  dsimp only at HN HRN hln HA HRA hla
  have HS1 := kp (sizeC a1 l1 hln)
  have HE1 := kp (zeroC_size a1 l1 hln)
  have HO1 := kp (all_cellsC a1 l1)
  have HS2 := kp (sizeC a2 l2 hla)
  have HE2 := kp (zeroC_size a2 l2 hla)
  have HO2 := kp (all_cellsC a2 l2)
  have heq1 : ∀ w, (binOp .eql 29 (.agg (cellsC a1 l1).toArray) (.agg (cellsC a1 l1).toArray)).run Try.prog w = .ok (.bool true) w := fun w => eqCounters w a1 l1 hln
  have heq2 : ∀ w, (binOp .eql 29 (.agg (cellsC a2 l2).toArray) (.agg (cellsC a2 l2).toArray)).run Try.prog w = .ok (.bool true) w := fun w => eqCounters w a2 l2 hla
  clear hln hla
  go_enter Try.func5, Try.ntmps5
  go_wp2_with ((with_reducible show wpList _ _ _ (Oper.mk _ (Op.load 29 _) _ _ _ _ :: _) _ _); (with_reducible refine wpList_load_row rfl 29 _ rfl (w.heap.size) rfl 29 ((cellsC a l).toArray) (0, 0) _ (hp_new _ _) Try.underlying29 rfl (HS.out) ?_); simp only [Act.put, List.setIfInBounds_toArray, List.set_cons_zero, List.set_cons_succ])
  refine (HN.out _).mono ?_
  rintro e w1 ⟨rfl, hx1⟩
  have R1 := kp (ext_heap hx1 (hp_new _ _))
  have X1 := kp ((Ext.alloc _ _).trans hx1)
  clear hx1
  go_wp2_with (first | ((with_reducible show wpList _ _ _ (Oper.mk none (Op.store 29 _ _) _ _ _ _ :: _) _ _); with_reducible refine wpList_st_row rfl rfl 29 _ _ rfl (w1.heap.size) ((cellsC a1 l1).toArray) rfl rfl 29 (_) (hp_new _ _) (HS1.out) (HE1.out) (HO1.out) (by rewrite [setRow_at _ _ _ _ _ _ (by simp <;> omega)]; rfl) ?_) | ((with_reducible show wpList _ _ _ (Oper.mk _ (Op.load 29 _) _ _ _ _ :: _) _ _); (with_reducible refine wpList_load_row rfl 29 _ rfl (w.heap.size) rfl 29 ((cellsC a l).toArray) (0, 0) _ (hp_alloc R1.out) Try.underlying29 rfl (HS.out) ?_); simp only [Act.put, List.setIfInBounds_toArray, List.set_cons_zero, List.set_cons_succ]))
  refine (HRN.out _).mono ?_
  rintro e w2 ⟨rfl, hx2⟩
  have R2 := kp (ext_heap hx2 (hp_alloc R1.out))
  have P2 := kp (ext_heap hx2 (hp_new _ _))
  have X2 := kp ((X1.out.trans (Ext.alloc _ _)).trans hx2)
  clear hx2 R1 X1
  go_wp2_with (first | ((with_reducible show wpList _ _ _ (Oper.mk none (Op.store 29 _ _) _ _ _ _ :: _) _ _); with_reducible refine wpList_st_row rfl rfl 29 _ _ rfl (w2.heap.size) ((cellsC a1 l1).toArray) rfl rfl 29 (_) (hp_new _ _) (HS1.out) (HE1.out) (HO1.out) (by rewrite [setRow_at _ _ _ _ _ _ (by simp <;> omega)]; rfl) ?_) | ((with_reducible show wpList _ _ _ (Oper.mk _ (Op.load 29 _) _ _ _ _ :: _) _ _); (with_reducible refine wpList_load_row rfl 29 _ rfl (w.heap.size) rfl 29 ((cellsC a l).toArray) (0, 0) _ (hp_alloc R2.out) Try.underlying29 rfl (HS.out) ?_); simp only [Act.put, List.setIfInBounds_toArray, List.set_cons_zero, List.set_cons_succ]))
  refine (HA.out _).mono ?_
  rintro e w3 ⟨rfl, hx3⟩
  have R3 := kp (ext_heap hx3 (hp_alloc R2.out))
  have P3 := kp (ext_heap hx3 (hp_alloc P2.out))
  have Q3 := kp (ext_heap hx3 (hp_new _ _))
  have X3 := kp ((X2.out.trans (Ext.alloc _ _)).trans hx3)
  clear hx3 R2 P2 X2
  go_wp2_with (first | ((with_reducible show wpList _ _ _ (Oper.mk none (Op.store 29 _ _) _ _ _ _ :: _) _ _); with_reducible refine wpList_st_row rfl rfl 29 _ _ rfl (w3.heap.size) ((cellsC a2 l2).toArray) rfl rfl 29 (_) (hp_new _ _) (HS2.out) (HE2.out) (HO2.out) (by rewrite [setRow_at _ _ _ _ _ _ (by simp <;> omega)]; rfl) ?_) | ((with_reducible show wpList _ _ _ (Oper.mk _ (Op.load 29 _) _ _ _ _ :: _) _ _); (with_reducible refine wpList_load_row rfl 29 _ rfl (w.heap.size) rfl 29 ((cellsC a l).toArray) (0, 0) _ (hp_alloc R3.out) Try.underlying29 rfl (HS.out) ?_); simp only [Act.put, List.setIfInBounds_toArray, List.set_cons_zero, List.set_cons_succ]))
  refine (HRA.out _).mono ?_
  rintro e w4 ⟨rfl, hx4⟩
  have R4 := kp (ext_heap hx4 (hp_alloc R3.out))
  have P4 := kp (ext_heap hx4 (hp_alloc P3.out))
  have Q4 := kp (ext_heap hx4 (hp_alloc Q3.out))
  have S4 := kp (ext_heap hx4 (hp_new _ _))
  have X4 := kp ((X3.out.trans (Ext.alloc _ _)).trans hx4)
  clear hx4 R3 P3 Q3 X3
  go_wp2_with ((with_reducible show wpList _ _ _ (Oper.mk none (Op.store 29 _ _) _ _ _ _ :: _) _ _); with_reducible refine wpList_st_row rfl rfl 29 _ _ rfl (w4.heap.size) ((cellsC a2 l2).toArray) rfl rfl 29 (_) (hp_new _ _) (HS2.out) (HE2.out) (HO2.out) (by rewrite [setRow_at _ _ _ _ _ _ (by simp <;> omega)]; rfl) ?_)
  have R5 := kp (hp_alloc (o' := .cells (cellsC a2 l2).toArray 29) R4.out)
  have P5 := kp (hp_alloc (o' := .cells (cellsC a2 l2).toArray 29) P4.out)
  have Q5 := kp (hp_alloc (o' := .cells (cellsC a2 l2).toArray 29) Q4.out)
  have S5 := kp (hp_alloc (o' := .cells (cellsC a2 l2).toArray 29) S4.out)
  have T5 := kp (hp_new w4 (.cells (cellsC a2 l2).toArray 29))
  have X5 := kp (X4.out.trans (Ext.alloc w4 (.cells (cellsC a2 l2).toArray 29)))
  generalize w4.alloc (.cells (cellsC a2 l2).toArray 29) = w5 at *
  clear R4 P4 Q4 S4 X4
  (first | with_reducible refine region_f2 31 (by kernel_rfl) (by kernel_rfl) (by kernel_rfl) (by kernel_rfl) (by decide) (Nat.le_of_ble_eq_true (by kernel_rfl)) ?_ | refine region_f 31 (by kernel_rfl) (by kernel_rfl) (by kernel_rfl) (by kernel_rfl) (by decide) (Nat.le_of_ble_eq_true (by kernel_rfl)) ?_)
  apply Exists.intro
  refine ⟨fun xz2 => ?_, fun xq2 => ?_⟩
  · simp only [List.take_succ_cons, List.take_zero]
    unfold Cx
    repeat (first | ((with_reducible show wpQuiet _ _ _ _ (Oper.mk _ (Op.load 29 _) _ _ _ _ :: _) _); go_big_quiet_want; with_reducible refine quiet_load_row 29 _ rfl (w.heap.size) rfl 29 ((cellsC a l).toArray) (0, 0) _ (fun _ hw => by obtain ⟨xx, rfl⟩ := hw; exact hp_more R5.out) Try.underlying29 rfl (HS.out) ?_; simp only [Act.put, List.setIfInBounds_toArray, List.set_cons_zero, List.set_cons_succ]; go_big_quiet_on) | ((with_reducible show wpQuiet _ _ _ _ (Oper.mk _ (Op.load 29 _) _ _ _ _ :: _) _); go_big_quiet_want; with_reducible refine quiet_load_row 29 _ rfl (w1.heap.size) rfl 29 ((cellsC a1 l1).toArray) (0, 0) _ (fun _ hw => by obtain ⟨xx, rfl⟩ := hw; exact hp_more P5.out) Try.underlying29 rfl (HS1.out) ?_; simp only [Act.put, List.setIfInBounds_toArray, List.set_cons_zero, List.set_cons_succ]; go_big_quiet_on) | ((with_reducible show wpQuiet _ _ _ _ (Oper.mk _ (Op.load 29 _) _ _ _ _ :: _) _); go_big_quiet_want; with_reducible refine quiet_load_row 29 _ rfl (w2.heap.size) rfl 29 ((cellsC a1 l1).toArray) (0, 0) _ (fun _ hw => by obtain ⟨xx, rfl⟩ := hw; exact hp_more Q5.out) Try.underlying29 rfl (HS1.out) ?_; simp only [Act.put, List.setIfInBounds_toArray, List.set_cons_zero, List.set_cons_succ]; go_big_quiet_on) | ((with_reducible show wpQuiet _ _ _ _ (Oper.mk _ (Op.load 29 _) _ _ _ _ :: _) _); go_big_quiet_want; with_reducible refine quiet_load_row 29 _ rfl (w3.heap.size) rfl 29 ((cellsC a2 l2).toArray) (0, 0) _ (fun _ hw => by obtain ⟨xx, rfl⟩ := hw; exact hp_more S5.out) Try.underlying29 rfl (HS2.out) ?_; simp only [Act.put, List.setIfInBounds_toArray, List.set_cons_zero, List.set_cons_succ]; go_big_quiet_on) | ((with_reducible show wpQuiet _ _ _ _ (Oper.mk _ (Op.load 29 _) _ _ _ _ :: _) _); go_big_quiet_want; with_reducible refine quiet_load_row 29 _ rfl (w4.heap.size) rfl 29 ((cellsC a2 l2).toArray) (0, 0) _ (fun _ hw => by obtain ⟨xx, rfl⟩ := hw; exact hp_more T5.out) Try.underlying29 rfl (HS2.out) ?_; simp only [Act.put, List.setIfInBounds_toArray, List.set_cons_zero, List.set_cons_succ]; go_big_quiet_on) | go_big_quiet_step (first | (go_at_call 12; exact Calls.cx_of (HC.out _)) | exact Calls.cx_of (HRC.out _)))
    exact wpQuiet_nil rfl
  simp only [List.drop_succ_cons, List.drop_zero]
  go_wp2_with fail
  go_ret
  exact ⟨rfl, X5.out.trans (Ext.more _ _)⟩
end Go.Proofs.Ytjnaegpjhbobaaa
