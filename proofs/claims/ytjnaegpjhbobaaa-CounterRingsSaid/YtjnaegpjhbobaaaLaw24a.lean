/- Contracts of the law's helpers taken, rejects and alive. -/
import Derived.Test.YtjnaegpjhbobaaaAccept
import Derived.Test.YtjnaegpjhbobaaaLate
namespace Go.Proofs.Ytjnaegpjhbobaaa
open Go.RowKit

theorem acceptF_len (a : Int) (l : List Win) (tid n : Int) (hl : l.length = 9) : (acceptF a l tid n).1.2.length = 9 := by
  unfold acceptF
  split
  · rfl
  split
  · rfl
  split
  · rfl
  split
  · simpa using hl
  · rfl
theorem sizeC (a : Int) (l : List Win) (hl : l.length = 9) : (Try.prog.info? 29).map (·.size) = some (cellsC a l).toArray.size := by
  rw [size29]; simp [cellsC_len, hl]
abbrev zeroC : Array Value := #[.int .i64 0, .int .i64 0, .int .u64 0, .int .i64 0, .int .u64 0, .int .i64 0, .int .u64 0, .int .i64 0, .int .u64 0, .int .i64 0, .int .u64 0, .int .i64 0, .int .u64 0, .int .i64 0, .int .u64 0, .int .i64 0, .int .u64 0, .int .i64 0, .int .u64 0]
theorem zeroC_size (a : Int) (l : List Win) (hl : l.length = 9) : (#[.int .i64 0, .int .i64 0, .int .u64 0, .int .i64 0, .int .u64 0, .int .i64 0, .int .u64 0, .int .i64 0, .int .u64 0, .int .i64 0, .int .u64 0, .int .i64 0, .int .u64 0, .int .i64 0, .int .u64 0, .int .i64 0, .int .u64 0, .int .i64 0, .int .u64 0] : Array Value).size = (cellsC a l).toArray.size := by
  simp [cellsC_len, hl]

set_option maxHeartbeats 800000 in
theorem rejects_any (a : Int) (l : List Win) (n : Int) (hl : l.length = 9) (w : World) :
    Calls Try.prog 24 #[.agg (cellsC a l).toArray, .int .i64 n] w fun e w' => e = .returned (.bool (decide ((acceptF a l 0 n).2 = 32))) ∧ Ext w w' := by
  have HS := kp (sizeC a l hl)
  have HA := kp (fun w => accept_any a l 0 n hl w)
  have hl2 := acceptF_len a l 0 n hl
  obtain ⟨r, hr⟩ : ∃ r, acceptF a l 0 n = r := ⟨_, rfl⟩
  rw [hr] at HA hl2 ⊢
  clear hr hl
  obtain ⟨⟨a', l'⟩, q⟩ := r
  unfold RetAcc at HA
  dsimp only at HA hl2 ⊢
  have HS2 := kp (sizeC a' l' hl2)
  have HE := kp (zeroC_size a' l' hl2)
  have HO := kp (all_cellsC a' l')
  clear hl2
  go_enter Try.func24, Try.ntmps24
  go_wp2_with (first | (go_at_call 11; refine (HA.out _).mono ?_; rintro e w' ⟨rfl, x, rfl⟩) | ((with_reducible show wpList _ _ _ (Oper.mk _ (Op.load 29 _) _ _ _ _ :: _) _ _); (with_reducible refine wpList_load_row rfl 29 _ rfl (w.heap.size) rfl 29 ((cellsC a l).toArray) (0, 0) _ (hp_new _ _) Try.underlying29 rfl (HS.out) ?_); simp only [Act.put, List.setIfInBounds_toArray, List.set_cons_zero, List.set_cons_succ]) | ((with_reducible show wpList _ _ _ (Oper.mk none (Op.store 29 _ _) _ _ _ _ :: _) _ _); with_reducible refine wpList_st_row rfl rfl 29 _ _ rfl (_) ((cellsC a' l').toArray) rfl rfl 29 (_) (hp_at _ _ _ (by simp [more_size])) (HS2.out) (HE.out) (HO.out) (by rewrite [setRow_at _ _ _ _ _ _ (by simp <;> omega)]; rfl) ?_))
  go_ret
  exact ⟨by rw [show decide (q = 32) = (q == 32) by rw [Bool.eq_iff_iff]; simp]; rfl, ((Ext.alloc _ _).trans (Ext.more _ _)).trans (Ext.alloc _ _)⟩

/-- taken: numbers one after the other. -/
def takenF : Int × List Win → List Int → (Int × List Win) × Bool
  | c, [] => (c, true)
  | c, n :: t => if (acceptF c.1 c.2 0 n).2 = 0 then takenF (acceptF c.1 c.2 0 n).1 t else (c, false)

set_option maxHeartbeats 1600000 in
theorem taken_any (a : Int) (l : List Win) (hl : l.length = 9) (ns : List Int) (hn : ns.length ≤ 1000) (b o cap : Nat) (w : World) (hb : b < w.heap.size) (hc : ∀ (j : Nat) (n : Int), ns[j]? = some n → w.cell? ⟨b, o + j, none⟩ = some (.int .i64 n)) :
    Calls Try.prog 21 #[.agg (cellsC a l).toArray, .slice (some ⟨b, o, none⟩) ns.length cap] w fun e w' => e = .returned (.tuple #[.agg (cellsC (takenF (a, l) ns).1.1 (takenF (a, l) ns).1.2).toArray, .bool (takenF (a, l) ns).2]) ∧ Ext w w' := by
  have HC := kp hc
  obtain ⟨n, hnn⟩ : ∃ n, n = ns.length := ⟨_, rfl⟩
  rw [← hnn] at hn ⊢
  have HN := kp hnn
  have HL := kp hl
  clear hc hnn hl
  go_enter Try.func21, Try.ntmps21
  go_wp2_with fail
  go_loopw [6] (fun i wr => ∃ (k : Nat) (a' : Int) (l' : List Win) (x : Xtra), k ≤ n ∧ i = .int .i64 k ∧ Kp (l'.length = 9 ∧ takenF (a, l) ns = takenF (a', l') (ns.drop k)) ∧ wr = more ((w.alloc (.cells (cellsC a' l').toArray 29)).alloc (.cells zeroC 29)) x) (fun i _ => n - (intOf i).toNat)
  case atStart => exact ⟨0, a, l, _, by omega, rfl, kp ⟨HL.out, rfl⟩, by rw [← more_self]⟩
  case round =>
    obtain ⟨k, a', l', x, hk, rfl, HT, rfl⟩ := hrel
    have HS := kp (sizeC a' l' HT.out.1)
    by_cases hlt : k < n
    · obtain ⟨y, hy⟩ : ∃ y, ns[k]? = some y := ⟨ns[k]'(by rw [← HN.out]; omega), by simp⟩
      have hcell := HC.out k y hy
      have hb1 : b < w.heap.size + 1 := by omega
      have hb2 : b < w.heap.size + 1 + 1 := by omega
      have hb3 : b < w.heap.size + 1 + 1 + x.blocks.size := by omega
      have HY := kp hy
      clear hy
      have HA := kp (fun w => accept_any a' l' 0 y HT.out.1 w)
      have hl2 := acceptF_len a' l' 0 y HT.out.1
      have HD := kp (show ns.drop k = y :: ns.drop (k + 1) by
        have h := HY.out
        rw [List.getElem?_eq_some_iff] at h
        obtain ⟨h1, h2⟩ := h
        rw [List.drop_eq_getElem_cons h1, h2])
      obtain ⟨r, hr⟩ : ∃ r, acceptF a' l' 0 y = r := ⟨_, rfl⟩
      have HR := kp hr
      rw [hr] at HA hl2
      clear hr
      obtain ⟨⟨a2, l2⟩, q⟩ := r
      unfold RetAcc at HA
      dsimp only at HA hl2
      have HL2 := kp hl2
      have HS2 := kp (sizeC a2 l2 hl2)
      have HE := kp (zeroC_size a2 l2 hl2)
      have HO := kp (all_cellsC a2 l2)
      have HZ := kp (zeroC_size a' l' HT.out.1)
      have HO1 := kp (all_cellsC a' l')
      have HEE := kp (show (cellsC a' l').toArray.size = (cellsC a2 l2).toArray.size by rw [← HZ.out, HE.out])
      clear hl2
      by_cases hq : q = 0
      · subst hq
        have HT2 := kp (show takenF (a', l') (ns.drop k) = takenF (a2, l2) (ns.drop (k + 1)) by rw [HD.out, takenF]; simp [HR.out])
        go_wp2_with fail
        refine region_late 9 7 10 22 29 29 (zeroC) ((cellsC a2 l2).toArray) (by kernel_rfl) (by kernel_rfl) (by kernel_rfl) (by kernel_rfl) (by intro o ho; cases ho; exact ⟨rfl, rfl, by simp, fun _ _ => by kernel_rfl⟩) (by intro o ho; cases ho; exact ⟨rfl, rfl, rfl, by decide⟩) (by kernel_rfl) (by decide) (by decide) (by decide) (HS2.out) (HE.out) (HO.out) ((w.alloc (.cells (cellsC a' l').toArray 29)).alloc (.cells zeroC 29)) (.inr ⟨_, rfl⟩) ?_
        apply Exists.intro
        refine ⟨fun xz2 => ?_, ?_, fun xm2 xq2 => ?_⟩
        · simp only [List.eraseIdx_cons_succ, List.eraseIdx_cons_zero]
          unfold Cx
          repeat (first | ((with_reducible show wpQuiet _ _ _ _ (Oper.mk _ (Op.load 29 _) _ _ _ _ :: _) _); go_big_quiet_want; with_reducible refine quiet_load_row 29 _ rfl (w.heap.size) rfl 29 ((cellsC a' l').toArray) (0, 0) _ (fun _ hw => by obtain ⟨xx, rfl⟩ := hw; exact hp_more (hp_alloc (hp_new _ _))) Try.underlying29 rfl (HS.out) ?_; simp only [Act.put, List.setIfInBounds_toArray, List.set_cons_zero, List.set_cons_succ]; go_big_quiet_on) | go_big_quiet_step (exact Calls.cx_of (HA.out _)))
          exact wpQuiet_nil rfl
        · rfl
        simp only [Act.put, List.setIfInBounds_toArray, List.set_cons_zero, List.set_cons_succ]
        try simp only [World.size_alloc]
        try simp only [more_size]
        go_wp2_with (first | ((with_reducible show wpList _ _ _ (Oper.mk _ (Op.load 29 _) _ _ _ _ :: _) _ _); (with_reducible refine wpList_load_row rfl 29 _ rfl (_) rfl 29 ((cellsC a2 l2).toArray) (0, 0) _ (hp_more (hp_at _ _ _ (by simp))) Try.underlying29 rfl (HS2.out) ?_); simp only [Act.put, List.setIfInBounds_toArray, List.set_cons_zero, List.set_cons_succ]) | ((with_reducible show wpList _ _ _ (Oper.mk none (Op.store 29 _ _) _ _ _ _ :: _) _ _); with_reducible refine wpList_st_row rfl rfl 29 _ _ rfl (w.heap.size) ((cellsC a2 l2).toArray) rfl rfl 29 (_) (hp_more (hp_alloc (hp_more (hp_alloc (hp_new _ _))))) (HS2.out) (HEE.out) (HO.out) (by rewrite [setRow_more _ _ _ _ (by first | assumption | (simp <;> omega)), setRow_past _ _ _ _ (by simp <;> omega), setRow_more _ _ _ _ (by first | assumption | (simp <;> omega)), setRow_past _ _ _ _ (by simp <;> omega), setRow_at _ _ _ _ _ _ (by simp <;> omega)]; rfl) ?_))
        go_roundw
        case rel => exact ⟨k + 1, a2, l2, _, by omega, by go_num, kp ⟨HL2.out, by rw [HT.out.2, HT2.out]⟩, by rw [alloc_more (more _ _), more_more, more_more]⟩
        case measure => simp [intOf]; omega
      · have HT2 := kp (show takenF (a', l') (ns.drop k) = ((a', l'), false) by rw [HD.out, takenF]; simp [HR.out, hq])
        go_wp2_with fail
        refine region_late 9 7 10 22 29 29 (zeroC) ((cellsC a2 l2).toArray) (by kernel_rfl) (by kernel_rfl) (by kernel_rfl) (by kernel_rfl) (by intro o ho; cases ho; exact ⟨rfl, rfl, by simp, fun _ _ => by kernel_rfl⟩) (by intro o ho; cases ho; exact ⟨rfl, rfl, rfl, by decide⟩) (by kernel_rfl) (by decide) (by decide) (by decide) (HS2.out) (HE.out) (HO.out) ((w.alloc (.cells (cellsC a' l').toArray 29)).alloc (.cells zeroC 29)) (.inr ⟨_, rfl⟩) ?_
        apply Exists.intro
        refine ⟨fun xz3 => ?_, ?_, fun xm3 xq3 => ?_⟩
        · simp only [List.eraseIdx_cons_succ, List.eraseIdx_cons_zero]
          unfold Cx
          repeat (first | ((with_reducible show wpQuiet _ _ _ _ (Oper.mk _ (Op.load 29 _) _ _ _ _ :: _) _); go_big_quiet_want; with_reducible refine quiet_load_row 29 _ rfl (w.heap.size) rfl 29 ((cellsC a' l').toArray) (0, 0) _ (fun _ hw => by obtain ⟨xx, rfl⟩ := hw; exact hp_more (hp_alloc (hp_new _ _))) Try.underlying29 rfl (HS.out) ?_; simp only [Act.put, List.setIfInBounds_toArray, List.set_cons_zero, List.set_cons_succ]; go_big_quiet_on) | go_big_quiet_step (exact Calls.cx_of (HA.out _)))
          exact wpQuiet_nil rfl
        · rfl
        simp only [Act.put, List.setIfInBounds_toArray, List.set_cons_zero, List.set_cons_succ]
        try simp only [World.size_alloc]
        try simp only [more_size]
        go_wp2_with (first | ((with_reducible show wpList _ _ _ (Oper.mk _ (Op.load 29 _) _ _ _ _ :: _) _ _); (with_reducible refine wpList_load_row rfl 29 _ rfl (w.heap.size) rfl 29 ((cellsC a' l').toArray) (0, 0) _ (hp_more (hp_alloc (hp_more (hp_alloc (hp_new _ _))))) Try.underlying29 rfl (HS.out) ?_); simp only [Act.put, List.setIfInBounds_toArray, List.set_cons_zero, List.set_cons_succ]) | ((with_reducible show wpList _ _ _ (Oper.mk none (Op.store 29 _ _) _ _ _ _ :: _) _ _); with_reducible refine wpList_st_row rfl rfl 29 _ _ rfl (w.heap.size + 1) ((cellsC a' l').toArray) rfl rfl 29 (_) (hp_more (hp_alloc (hp_more (hp_at _ _ _ (by simp))))) (HS.out) (HZ.out) (HO1.out) (by rewrite [setRow_more _ _ _ _ (by first | assumption | (simp <;> omega)), setRow_past _ _ _ _ (by simp <;> omega), setRow_more _ _ _ _ (by first | assumption | (simp <;> omega)), setRow_at _ _ _ _ _ _ (by simp <;> omega)]; rfl) ?_))
        exact ret_row2 Try.results21 (w.heap.size + 1) 29 _ (0, 0) _ rfl (.bool false) rfl (hp_more (hp_alloc (hp_more (hp_at _ _ _ (by simp))))) Try.underlying29 rfl HS.out rfl ⟨by rw [HT.out.2, HT2.out], ((((Ext.alloc _ _).trans (Ext.alloc _ _)).trans (Ext.more _ _)).trans (Ext.alloc _ _)).trans (Ext.more _ _)⟩
    · obtain rfl : k = n := by omega
      have HT2 := kp (show takenF (a, l) ns = ((a', l'), true) by
        rw [HT.out.2, List.drop_of_length_le (by rw [HN.out]; exact Nat.le_refl _)]; rfl)
      have HZ := kp (zeroC_size a' l' HT.out.1)
      have HO1 := kp (all_cellsC a' l')
      go_wp2_with (first | ((with_reducible show wpList _ _ _ (Oper.mk _ (Op.load 29 _) _ _ _ _ :: _) _ _); (with_reducible refine wpList_load_row rfl 29 _ rfl (w.heap.size) rfl 29 ((cellsC a' l').toArray) (0, 0) _ (hp_more (hp_alloc (hp_new _ _))) Try.underlying29 rfl (HS.out) ?_); simp only [Act.put, List.setIfInBounds_toArray, List.set_cons_zero, List.set_cons_succ]) | ((with_reducible show wpList _ _ _ (Oper.mk none (Op.store 29 _ _) _ _ _ _ :: _) _ _); with_reducible refine wpList_st_row rfl rfl 29 _ _ rfl (w.heap.size + 1) ((cellsC a' l').toArray) rfl rfl 29 (_) (hp_more (hp_at _ _ _ (by simp))) (HS.out) (HZ.out) (HO1.out) (by rewrite [setRow_more _ _ _ _ (by first | assumption | (simp <;> omega)), setRow_at _ _ _ _ _ _ (by simp <;> omega)]; rfl) ?_))
      exact ret_row2 Try.results21 (w.heap.size + 1) 29 _ (0, 0) _ rfl (.bool true) rfl (hp_more (hp_at _ _ _ (by simp))) Try.underlying29 rfl HS.out rfl ⟨by rw [HT2.out], ((Ext.alloc _ _).trans (Ext.alloc _ _)).trans (Ext.more _ _)⟩

theorem ints_of_block {w : World} {b E : Nat} {ns : List Int} {fr : Nat × Nat} (h : w.heap[b]? = some (.cells (ns.map fun n => Value.int .i64 n).toArray E fr)) : ∀ (j : Nat) (n : Int), ns[j]? = some n → w.cell? ⟨b, 0 + j, none⟩ = some (.int .i64 n) := by
  intro j n hj
  rw [cell_of_row w b (0 + j) _ E fr h]
  simp [hj]
def lA : List Win := [(5, 3#64), w0, w0, w0, w0, w0, w0, w0, w0]
def lD : List Win := [(70, 0#64), w0, w0, w0, w0, w0, w0, w0, w0]
def lE : List Win := [(5, 11#64), w0, w0, w0, w0, w0, w0, w0, w0]
theorem takenA : takenF (0, zeroWs) [5, 3, 4] = ((0, lA), true) := by decide +kernel
theorem takenD : takenF (0, lA) [70] = ((0, lD), true) := by decide +kernel
theorem takenE : takenF (0, lA) [1] = ((0, lE), true) := by decide +kernel
theorem rejA5 : decide ((acceptF 0 lA 0 5).2 = 32) = true := by decide +kernel
theorem rejA3 : decide ((acceptF 0 lA 0 3).2 = 32) = true := by decide +kernel
theorem rejD5 : decide ((acceptF 0 lD 0 5).2 = 32) = true := by decide +kernel
theorem rejD4 : decide ((acceptF 0 lD 0 4).2 = 32) = true := by decide +kernel
set_option maxHeartbeats 3200000 in
theorem alive_any (w : World) : Calls Try.prog 10 #[] w fun e w' => e = .returned (.bool true) ∧ Ext w w' := by
  have HSA := kp (sizeC 0 lA rfl)
  have HOA := kp (all_cellsC 0 lA)
  have HSD := kp (sizeC 0 lD rfl)
  have HOD := kp (all_cellsC 0 lD)
  have HSE := kp (sizeC 0 lE rfl)
  have HOE := kp (all_cellsC 0 lE)
  have HZA := kp (zeroC_size 0 lA rfl)
  have HZD := kp (zeroC_size 0 lD rfl)
  have HZE := kp (zeroC_size 0 lE rfl)
  have H5 := kp (fun w => rejects_any 0 lA 5 rfl w)
  rw [rejA5] at H5
  have H3 := kp (fun w => rejects_any 0 lA 3 rfl w)
  rw [rejA3] at H3
  have H7 := kp (fun w => rejects_any 0 lD 5 rfl w)
  rw [rejD5] at H7
  have H4 := kp (fun w => rejects_any 0 lD 4 rfl w)
  rw [rejD4] at H4
  have hA : ∃ A, A = (cellsC 0 lA).toArray := ⟨_, rfl⟩
  have hD : ∃ D, D = (cellsC 0 lD).toArray := ⟨_, rfl⟩
  go_enter Try.func10, Try.ntmps10
  go_wp2_with fail
  refine (taken_any 0 zeroWs rfl [5, 3, 4] (by decide) w.heap.size 0 3 _ (by simp) (ints_of_block (hp_new _ _))).mono ?_
  rw [takenA]
  rintro e w' ⟨rfl, x, rfl⟩
  go_wp2_with (first | ((with_reducible show wpList _ _ _ (Oper.mk none (Op.store 29 _ _) _ _ _ _ :: _) _ _); with_reducible refine wpList_st_row rfl rfl 29 _ _ rfl (_) ((cellsC 0 lA).toArray) rfl rfl 29 (_) (hp_at _ _ _ (by simp)) (HSA.out) (HZA.out) (HOA.out) (by rewrite [setRow_at _ _ _ _ _ _ (by simp <;> omega)]; rfl) ?_) | ((with_reducible show wpList _ _ _ (Oper.mk _ (Op.load 29 _) _ _ _ _ :: _) _ _); (with_reducible refine wpList_load_row rfl 29 _ rfl (_) rfl 29 ((cellsC 0 lA).toArray) (0, 0) _ (hp_at _ _ _ (by simp)) Try.underlying29 rfl (HSA.out) ?_); simp only [Act.put, List.setIfInBounds_toArray, List.set_cons_zero, List.set_cons_succ]))
  refine (taken_any 0 lA rfl [70] (by decide) _ 0 1 _ (by simp) (ints_of_block (hp_at _ _ _ (by simp)))).mono ?_
  rw [takenD]
  rintro e w' ⟨rfl, x2, rfl⟩
  go_wp2_with (first | ((with_reducible show wpList _ _ _ (Oper.mk none (Op.store 29 _ _) _ _ _ _ :: _) _ _); with_reducible refine wpList_st_row rfl rfl 29 _ _ rfl (_) ((cellsC 0 lD).toArray) rfl rfl 29 (_) (hp_at _ _ _ (by simp)) (HSD.out) (HZD.out) (HOD.out) (by rewrite [setRow_at _ _ _ _ _ _ (by simp <;> omega)]; rfl) ?_) | ((with_reducible show wpList _ _ _ (Oper.mk _ (Op.load 29 _) _ _ _ _ :: _) _ _); (with_reducible refine wpList_load_row rfl 29 _ rfl (w.heap.size + 1 + x.blocks.size) rfl 29 ((cellsC 0 lA).toArray) (0, 0) _ (hp_alloc (hp_more (hp_alloc (hp_at _ _ _ (by simp))))) Try.underlying29 rfl (HSA.out) ?_); simp only [Act.put, List.setIfInBounds_toArray, List.set_cons_zero, List.set_cons_succ]))
  refine (taken_any 0 lA rfl [1] (by decide) _ 0 1 _ (by simp) (ints_of_block (hp_at _ _ _ (by simp)))).mono ?_
  rw [takenE]
  rintro e w' ⟨rfl, x3, rfl⟩
  have hcA1 : (cellsC 0 lA)[1]? = some (.int .i64 5) := rfl
  have hcA2 : (cellsC 0 lA)[2]? = some (.int .u64 3) := rfl
  have hcD1 : (cellsC 0 lD)[1]? = some (.int .i64 70) := rfl
  go_wp2_with (first | ((with_reducible show wpList _ _ _ (Oper.mk none (Op.store 29 _ _) _ _ _ _ :: _) _ _); with_reducible refine wpList_st_row rfl rfl 29 _ _ rfl (_) ((cellsC 0 lE).toArray) rfl rfl 29 (_) (hp_at _ _ _ (by simp)) (HSE.out) (HZE.out) (HOE.out) (by rewrite [setRow_at _ _ _ _ _ _ (by simp <;> omega)]; rfl) ?_) | ((with_reducible show wpList _ _ _ (Oper.mk _ (Op.load 29 _) _ _ _ _ :: _) _ _); (with_reducible refine wpList_load_rowG (by kernel_rfl) 29 _ rfl (w.heap.size + 1 + x.blocks.size) rfl 29 ((cellsC 0 lA).toArray) (0, 0) _ (hp_alloc (hp_more (hp_alloc (hp_alloc (hp_more (hp_alloc (hp_at _ _ _ (by simp)))))))) Try.underlying29 rfl (HSA.out) ?_); simp only [Act.put, List.setIfInBounds_toArray, List.set_cons_zero, List.set_cons_succ]))
  refine (H5.out _).mono ?_
  rintro e w' ⟨rfl, x4, rfl⟩
  go_wp2_with (first | ((with_reducible show wpList _ _ _ (Oper.mk _ (Op.load 29 _) _ _ _ _ :: _) _ _); (with_reducible refine wpList_load_rowG (by kernel_rfl) 29 _ rfl (w.heap.size + 1 + x.blocks.size) rfl 29 ((cellsC 0 lA).toArray) (0, 0) _ (hp_more (hp_alloc (hp_more (hp_alloc (hp_alloc (hp_more (hp_alloc (hp_at _ _ _ (by simp))))))))) Try.underlying29 rfl (HSA.out) ?_); simp only [Act.put, List.setIfInBounds_toArray, List.set_cons_zero, List.set_cons_succ]))
  refine (H3.out _).mono ?_
  rintro e w' ⟨rfl, x5, rfl⟩
  rw [more_more]
  go_wp2_with (first | ((with_reducible show wpList _ _ _ (Oper.mk _ (Op.load 29 _) _ _ _ _ :: _) _ _); (with_reducible refine wpList_load_rowG (by kernel_rfl) 29 _ rfl (w.heap.size + 1 + x.blocks.size + 1 + 1 + x2.blocks.size) rfl 29 ((cellsC 0 lD).toArray) (0, 0) _ (hp_more (hp_alloc (hp_more (hp_alloc (hp_at _ _ _ (by simp)))))) Try.underlying29 rfl (HSD.out) ?_); simp only [Act.put, List.setIfInBounds_toArray, List.set_cons_zero, List.set_cons_succ]))
  refine (H7.out _).mono ?_
  rintro e w' ⟨rfl, x6, rfl⟩
  rw [more_more]
  go_wp2_with (first | ((with_reducible show wpList _ _ _ (Oper.mk _ (Op.load 29 _) _ _ _ _ :: _) _ _); (with_reducible refine wpList_load_rowG (by kernel_rfl) 29 _ rfl (w.heap.size + 1 + x.blocks.size + 1 + 1 + x2.blocks.size) rfl 29 ((cellsC 0 lD).toArray) (0, 0) _ (hp_more (hp_alloc (hp_more (hp_alloc (hp_at _ _ _ (by simp)))))) Try.underlying29 rfl (HSD.out) ?_); simp only [Act.put, List.setIfInBounds_toArray, List.set_cons_zero, List.set_cons_succ]))
  refine (H4.out _).mono ?_
  rintro e w' ⟨rfl, x7, rfl⟩
  rw [more_more]
  go_wp2_with fail
  go_ret
  exact ⟨rfl, ((((((((((Ext.alloc _ _).trans (Ext.more _ _)).trans (Ext.alloc _ _)).trans (Ext.alloc _ _)).trans (Ext.more _ _)).trans (Ext.alloc _ _)).trans (Ext.alloc _ _)).trans (Ext.more _ _)).trans (Ext.alloc _ _)).trans (Ext.more _ _))⟩
end Go.Proofs.Ytjnaegpjhbobaaa
