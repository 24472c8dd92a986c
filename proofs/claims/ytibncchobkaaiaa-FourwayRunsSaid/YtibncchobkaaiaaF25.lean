/- Texts of this proof, put together: RefQ, RefC. -/
import Derived.Test.YtibncchobkaaiaaF24
import Derived.Test.YtibncchobkaaiaaF14
import Derived.Test.YtibncchobkaaiaaF15
import Derived.Test.YtibncchobkaaiaaF1
namespace Go.Proofs.Ytibncchobkaaiaa
open Go.RowKit
set_option maxHeartbeats 1600000 in
theorem rkeys_any (s : Fw) (n : Vc 16) (w : World) :
  Calls Try.prog 55 #[.agg (cat (partsF s)).toArray, .agg (n.1.map V8).toArray] w fun e w' => e = .returned (.agg (cat (partsK (keysF s n))).toArray) ∧ Ext w w' := by
 have H := kp (Loc.start w)
 have HP := kp (rpair_any s.master s.own s.peer s.mine n)
 have HK := kp (show keysF s n = pairF s.master s.own s.peer s.mine n from rfl)
 go_enter Try.func55, Try.ntmps55
 go_wp2_with (first | ((with_reducible refine isBx 2 32 ?_); (refine L_box H rfl 32 _ rfl (cat (partsF s)) rfl ?_); clear H; intro g2 w2 HGg2 HEg2 H; simp only [pA]) | ((with_reducible refine isBx 3 26 ?_); (refine L_box H rfl 26 _ rfl (cat ([Lf.v n])) rfl ?_); clear H; intro g3 w3 HGg3 HEg3 H; simp only [pA]) | ((with_reducible refine isAl 4 28 ?_); (refine L_alloc H rfl 28 rfl (cat (partsK ks0)) (fun _ _ => by kernel_rfl) ?_); clear H; intro g4 w4 HGg4 HEg4 H; simp only [pA]) | ((with_reducible refine isLd 25 ?_); (refine L_fv H rfl 25 _ rfl 2 rfl _ rfl _ rfl rfl Try.underlying25 rfl (by kernel_rfl) ?_); simp only [pA]) | ((with_reducible refine isLd 23 ?_); (refine L_fv H rfl 23 _ rfl 2 rfl _ rfl _ rfl rfl Try.underlying23 rfl (by kernel_rfl) ?_); simp only [pA]) | ((with_reducible refine isLd 26 ?_); (first | (refine L_fv H rfl 26 _ rfl 1 rfl _ rfl _ rfl rfl Try.underlying26 rfl (by kernel_rfl) ?_) | (refine L_fv H rfl 26 _ rfl 2 rfl _ rfl _ rfl rfl Try.underlying26 rfl (by kernel_rfl) ?_)); simp only [pA]) | (go_at_call 70; refine (HP.out _).mono ?_; rintro e wa ⟨rfl, hx⟩; replace H := kp (H.out.ext hx); have HXC := kp hx; clear hx) | ((with_reducible refine isAl 5 28 ?_); (refine L_alloc H rfl 28 rfl (cat (partsK ks0)) (fun _ _ => by kernel_rfl) ?_); clear H; intro g5 w5 HGg5 HEg5 H; simp only [pA]) | ((with_reducible refine isSt 28 ?_); (first | (refine L_sa H rfl rfl 28 _ _ rfl 0 rfl rfl (partsK _) rfl rfl (by kernel_rfl) ?_; clear H; intro w6 HWw6 H; simp only [szA] at H) | (refine L_sa H rfl rfl 28 _ _ rfl 1 rfl rfl (partsK _) rfl rfl (by kernel_rfl) ?_; clear H; intro w6 HWw6 H; simp only [ssA, szA] at H))) | ((with_reducible refine isLd 28 ?_); (refine L_fa H rfl 28 _ rfl 0 rfl rfl Try.underlying28 rfl (by kernel_rfl) ?_); simp only [pA]))
 (exact ret_f1 H Try.results55 1 rfl rfl Try.underlying28 rfl (by kernel_rfl) rfl (⟨by rw [HK.out], H.out.1⟩))
def AuC (t : Tmp) (b : Bool) (s : Fw) (w : World) (g1 : Nat) (vs : Tmp → Value) (W : World) : Prop := vs t = .bool b ∧ Kp (Loc w W [(g1, 32, cat (partsF s))])
theorem rauth_0 {s : Fw} (h : ¬ (s.gid < 2 ∨ 3 < s.gid)) (e : (s.stage == 0) = true) : rauthF s = (s.replay == 0 && stillB s && freshS s) := by unfold rauthF; rw [if_neg h, if_pos (by simpa using e)]
theorem rauth_1 {s : Fw} (h : ¬ (s.gid < 2 ∨ 3 < s.gid)) (e : (s.stage == 1) = true) : rauthF s = (countB s && movingB s && freshS s) := by
 have e : s.stage = 1 := by simpa using e
 unfold rauthF
 rw [if_neg h]
 simp [e]
theorem rauth_3 {s : Fw} (h : ¬ (s.gid < 2 ∨ 3 < s.gid)) (e : (s.stage == 3) = true) : rauthF s = (countB s && movingB s && pairB s) := by
 have e : s.stage = 3 := by simpa using e
 unfold rauthF
 rw [if_neg h]
 simp [e]
theorem rauth_4 {s : Fw} (h : ¬ (s.gid < 2 ∨ 3 < s.gid)) (e : (s.stage == 4) = true) : rauthF s = (countB s && stillB s && pairB s) := by
 have e : s.stage = 4 := by simpa using e
 unfold rauthF
 rw [if_neg h]
 simp [e]
theorem rauth_5 {s : Fw} (h : ¬ (s.gid < 2 ∨ 3 < s.gid)) (e : (s.stage == 5) = true) : rauthF s = (countB s && stillB s && freshS s) := by
 have e : s.stage = 5 := by simpa using e
 unfold rauthF
 rw [if_neg h]
 simp [e]
theorem rauth_n {s : Fw} (h0 : (s.stage == 0) = false) (h1 : (s.stage == 1) = false) (h3 : (s.stage == 3) = false) (h4 : (s.stage == 4) = false) (h5 : (s.stage == 5) = false) : rauthF s = false := by
 simp only [beq_eq_false_iff_ne] at h0 h1 h3 h4 h5
 unfold rauthF; simp [h0, h1, h3, h4, h5]
set_option maxRecDepth 4000 in
set_option maxHeartbeats 3200000 in
theorem rauth_any (s : Fw) (w : World) : Calls Try.prog 42 #[.agg (cat (partsF s)).toArray] w fun e w' => e = .returned (.bool (rauthF s)) ∧ Ext w w' := by
 have H := kp (Loc.start w)
 have HNO := kp (rnone_any s)
 have HKY := kp (rkeys_any s s.other)
 go_enter Try.func42, Try.ntmps42
 generalize h3 : (Code.region 3 _ _ : Code) = R3
 generalize h4 : (Code.region 4 _ _ : Code) = R4
 generalize h5 : (Code.region 5 _ _ : Code) = R5
 generalize h6 : (Code.region 6 _ _ : Code) = R6
 generalize h12 : (Code.region 12 _ _ : Code) = R12
 generalize h14 : (Code.region 14 _ _ : Code) = R14
 by_cases hg : s.gid < 2 ∨ 3 < s.gid
 ·have HF := kp (show rauthF s = false from by unfold rauthF; rw [if_pos hg])
  go_wp2_with (first | ((with_reducible refine isBx 1 32 ?_); (refine L_box H rfl 32 _ rfl (cat (partsF s)) rfl ?_); clear H; intro g1 w1 HGg1 HEg1 H; simp only [pA]) | ((with_reducible refine isLd 3 ?_); (refine L_f1 H rfl 3 _ rfl 0 rfl _ rfl _ rfl _ rfl Try.underlying3 rfl ?_); simp only [pA]))
  all_goals try (exfalso; omega)
  all_goals go_ret
  all_goals exact ⟨congrArg (fun z => Ending.returned (.bool z)) HF.out.symm, H.out.1⟩
 ·have A0 := kp (fun h => rauth_0 hg h)
  have A1 := kp (fun h => rauth_1 hg h)
  have A3 := kp (fun h => rauth_3 hg h)
  have A4 := kp (fun h => rauth_4 hg h)
  have A5 := kp (fun h => rauth_5 hg h)
  go_wp2_with (first | ((with_reducible refine isBx 1 32 ?_); (refine L_box H rfl 32 _ rfl (cat (partsF s)) rfl ?_); clear H; intro g1 w1 HGg1 HEg1 H; simp only [pA]) | ((with_reducible refine isLd 3 ?_); (refine L_f1 H rfl 3 _ rfl 0 rfl _ rfl _ rfl _ rfl Try.underlying3 rfl ?_); simp only [pA]))
  all_goals try (exfalso; omega)
  clear hg
  refine wp_cut (3 :: 16 :: 17 :: 18 :: 19 :: 20 :: 21 :: 22 :: 23 :: []) (AuC 3 (stillB s) s w g1) ?_ ?_
  ·subst h3
   go_wp2_with ((with_reducible refine isLd 3 ?_); (refine L_f1 H rfl 3 _ rfl 0 rfl _ rfl _ rfl _ rfl Try.underlying3 rfl ?_); simp only [pA])
   all_goals exact CutP.of rfl (by kernel_rfl) ⟨congrArg Value.bool (by unfold stillB; simp [*] <;> omega), H⟩
  clear H
  rintro vs3 w3 ⟨q3, H⟩
  simp only [putMany, List.setIfInBounds_toArray, List.set_cons_zero, List.set_cons_succ]
  rw [q3]
  clear q3
  go_wp2_with fail
  refine wp_cut (4 :: 24 :: 25 :: 26 :: 27 :: 28 :: 29 :: 30 :: 31 :: 32 :: 33 :: 34 :: 35 :: 36 :: 37 :: 38 :: 39 :: 40 :: 41 :: []) (AuC 4 (movingB s) s w g1) ?_ ?_
  ·subst h4
   go_wp2_with ((with_reducible refine isLd 3 ?_); (refine L_f1 H rfl 3 _ rfl 0 rfl _ rfl _ rfl _ rfl Try.underlying3 rfl ?_); simp only [pA])
   all_goals exact CutP.of rfl (by kernel_rfl) ⟨congrArg Value.bool (by unfold movingB; simp [*] <;> omega), H⟩
  clear H
  rintro vs4 w4 ⟨q4, H⟩
  simp only [putMany, List.setIfInBounds_toArray, List.set_cons_zero, List.set_cons_succ]
  rw [q4]
  clear q4
  go_wp2_with fail
  refine wp_cut (5 :: 42 :: 43 :: 44 :: 45 :: 46 :: 47 :: 48 :: 49 :: []) (AuC 5 (countB s) s w g1) ?_ ?_
  ·subst h5
   go_wp2_with ((with_reducible refine isLd 3 ?_); (refine L_f1 H rfl 3 _ rfl 0 rfl _ rfl _ rfl _ rfl Try.underlying3 rfl ?_); simp only [pA])
   all_goals exact CutP.of rfl (by kernel_rfl) ⟨congrArg Value.bool (by unfold countB; simp [*] <;> omega), H⟩
  clear H
  rintro vs5 w5 ⟨q5, H⟩
  simp only [putMany, List.setIfInBounds_toArray, List.set_cons_zero, List.set_cons_succ]
  rw [q5]
  clear q5
  go_wp2_with fail
  subst h6
  go_wp2_with (first | ((with_reducible refine isLd 3 ?_); (refine L_f1 H rfl 3 _ rfl 0 rfl _ rfl _ rfl _ rfl Try.underlying3 rfl ?_); simp only [pA]) | ((with_reducible refine isLd 5 ?_); (refine L_f1 H rfl 5 _ rfl 0 rfl _ rfl _ rfl _ rfl Try.underlying5 rfl ?_); simp only [pA]) | ((with_reducible refine isLd 32 ?_); (refine L_fa H rfl 32 _ rfl 0 rfl rfl Try.underlying32 rfl (by kernel_rfl) ?_); simp only [pA]) | (go_at_call 60; refine (HNO.out _).mono ?_; rintro e wa ⟨rfl, hx⟩; replace H := kp (H.out.ext hx); have HXC := kp hx; clear hx))
  all_goals try (go_ret; refine ⟨congrArg (fun z => Ending.returned (.bool z)) ?_, H.out.1⟩; first | (rw [A0.out (by assumption)]; simp [*]; done) | (rw [A1.out (by assumption)]; simp [*]; done) | (rw [A5.out (by assumption)]; simp [*]; done) | exact (rauth_n (by assumption) (by assumption) (by assumption) (by assumption) (by assumption)).symm)
  ·have HF := kp (A3.out (by assumption))
   clear A0 A1 A3 A4 A5 HNO
   cases hc : countB s
   ·rw [hc] at HF
    subst h12
    refine region_z H 14 (by kernel_rfl) (by kernel_rfl) (by kernel_rfl) (by kernel_rfl) (by decide) (Nat.le_of_ble_eq_true (by kernel_rfl)) ?_
    apply Exists.intro
    refine ⟨fun xz2 => ?_, fun wz2 HXZ H => ?_⟩
    ·simp only [List.take_succ_cons, List.take_zero]
     unfold Cx
     repeat (go_big_quiet_step ((go_at_call 55; exact Calls.cx_of (HKY.out _))))
     exact wpQuiet_nil rfl
    simp only [List.drop_succ_cons, List.drop_zero]
    go_wp2_with fail
    go_ret
    exact ⟨congrArg (fun z => Ending.returned (.bool z)) (by rw [HF.out]; first | rfl | simp [pairB]), H.out.1⟩
   ·cases hm : movingB s
    ·rw [hc, hm] at HF
     subst h12
     refine region_z H 14 (by kernel_rfl) (by kernel_rfl) (by kernel_rfl) (by kernel_rfl) (by decide) (Nat.le_of_ble_eq_true (by kernel_rfl)) ?_
     apply Exists.intro
     refine ⟨fun xz3 => ?_, fun wz3 HXZ H => ?_⟩
     ·simp only [List.take_succ_cons, List.take_zero]
      unfold Cx
      repeat (go_big_quiet_step ((go_at_call 55; exact Calls.cx_of (HKY.out _))))
      exact wpQuiet_nil rfl
     simp only [List.drop_succ_cons, List.drop_zero]
     go_wp2_with fail
     go_ret
     exact ⟨congrArg (fun z => Ending.returned (.bool z)) (by rw [HF.out]; first | rfl | simp [pairB]), H.out.1⟩
    ·rw [hc, hm] at HF
     subst h12
     refine region_z H 14 (by kernel_rfl) (by kernel_rfl) (by kernel_rfl) (by kernel_rfl) (by decide) (Nat.le_of_ble_eq_true (by kernel_rfl)) ?_
     apply Exists.intro
     refine ⟨fun xz4 => ?_, fun wz4 HXZ H => ?_⟩
     ·simp only [List.take_succ_cons, List.take_zero]
      unfold Cx
      repeat (first | ((with_reducible show wpQuiet _ _ _ _ (Oper.mk _ (Op.load 32 _) _ _ _ _ :: _) _); go_big_quiet_want; (refine qz_a H 32 _ rfl 0 rfl rfl Try.underlying32 rfl (by kernel_rfl) ?_); simp only [pA]; go_big_quiet_on) | ((with_reducible show wpQuiet _ _ _ _ (Oper.mk _ (Op.load 26 _) _ _ _ _ :: _) _); go_big_quiet_want; (refine qz_v H 26 _ rfl 0 rfl _ rfl _ rfl rfl Try.underlying26 rfl (by kernel_rfl) ?_); simp only [pA]; go_big_quiet_on) | ((with_reducible show wpQuiet _ _ _ _ (Oper.mk _ (Op.load 28 _) _ _ _ _ :: _) _); go_big_quiet_want; (refine qz_g H 28 _ rfl 0 rfl _ rfl _ rfl (partsK s.pair) rfl Try.underlying28 rfl (by kernel_rfl) ?_); simp only [pA]; go_big_quiet_on) | ((with_reducible show wpQuiet _ _ _ _ (Oper.mk _ (Op.binOp _ 28 _ _ _) _ _ _ _ :: _) _); go_big_quiet_want; (refine qz_eq 28 _ _ _ rfl _ _ _ rfl rfl Try.eqGuardType28 (fun _ => eqK_in _ _ _ 9997) ?_); simp only [pA]; go_big_quiet_on) | go_big_quiet_step ((go_at_call 55; exact Calls.cx_of (HKY.out _))))
      exact wpQuiet_nil rfl
     simp only [List.drop_succ_cons, List.drop_zero]
     go_wp2_with fail
     go_ret
     exact ⟨congrArg (fun z => Ending.returned (.bool z)) (by rw [HF.out]; first | rfl | simp [pairB]), H.out.1⟩
  ·have HF := kp (A4.out (by assumption))
   clear A0 A1 A3 A4 A5 HNO
   cases hc : countB s
   ·rw [hc] at HF
    subst h14
    refine region_z H 14 (by kernel_rfl) (by kernel_rfl) (by kernel_rfl) (by kernel_rfl) (by decide) (Nat.le_of_ble_eq_true (by kernel_rfl)) ?_
    apply Exists.intro
    refine ⟨fun xz5 => ?_, fun wz5 HXZ H => ?_⟩
    ·simp only [List.take_succ_cons, List.take_zero]
     unfold Cx
     repeat (go_big_quiet_step ((go_at_call 55; exact Calls.cx_of (HKY.out _))))
     exact wpQuiet_nil rfl
    simp only [List.drop_succ_cons, List.drop_zero]
    go_wp2_with fail
    go_ret
    exact ⟨congrArg (fun z => Ending.returned (.bool z)) (by rw [HF.out]; first | rfl | simp [pairB]), H.out.1⟩
   ·cases hm : stillB s
    ·rw [hc, hm] at HF
     subst h14
     refine region_z H 14 (by kernel_rfl) (by kernel_rfl) (by kernel_rfl) (by kernel_rfl) (by decide) (Nat.le_of_ble_eq_true (by kernel_rfl)) ?_
     apply Exists.intro
     refine ⟨fun xz6 => ?_, fun wz6 HXZ H => ?_⟩
     ·simp only [List.take_succ_cons, List.take_zero]
      unfold Cx
      repeat (go_big_quiet_step ((go_at_call 55; exact Calls.cx_of (HKY.out _))))
      exact wpQuiet_nil rfl
     simp only [List.drop_succ_cons, List.drop_zero]
     go_wp2_with fail
     go_ret
     exact ⟨congrArg (fun z => Ending.returned (.bool z)) (by rw [HF.out]; first | rfl | simp [pairB]), H.out.1⟩
    ·rw [hc, hm] at HF
     subst h14
     refine region_z H 14 (by kernel_rfl) (by kernel_rfl) (by kernel_rfl) (by kernel_rfl) (by decide) (Nat.le_of_ble_eq_true (by kernel_rfl)) ?_
     apply Exists.intro
     refine ⟨fun xz7 => ?_, fun wz7 HXZ H => ?_⟩
     ·simp only [List.take_succ_cons, List.take_zero]
      unfold Cx
      repeat (first | ((with_reducible show wpQuiet _ _ _ _ (Oper.mk _ (Op.load 32 _) _ _ _ _ :: _) _); go_big_quiet_want; (refine qz_a H 32 _ rfl 0 rfl rfl Try.underlying32 rfl (by kernel_rfl) ?_); simp only [pA]; go_big_quiet_on) | ((with_reducible show wpQuiet _ _ _ _ (Oper.mk _ (Op.load 26 _) _ _ _ _ :: _) _); go_big_quiet_want; (refine qz_v H 26 _ rfl 0 rfl _ rfl _ rfl rfl Try.underlying26 rfl (by kernel_rfl) ?_); simp only [pA]; go_big_quiet_on) | ((with_reducible show wpQuiet _ _ _ _ (Oper.mk _ (Op.load 28 _) _ _ _ _ :: _) _); go_big_quiet_want; (refine qz_g H 28 _ rfl 0 rfl _ rfl _ rfl (partsK s.pair) rfl Try.underlying28 rfl (by kernel_rfl) ?_); simp only [pA]; go_big_quiet_on) | ((with_reducible show wpQuiet _ _ _ _ (Oper.mk _ (Op.binOp _ 28 _ _ _) _ _ _ _ :: _) _); go_big_quiet_want; (refine qz_eq 28 _ _ _ rfl _ _ _ rfl rfl Try.eqGuardType28 (fun _ => eqK_in _ _ _ 9997) ?_); simp only [pA]; go_big_quiet_on) | go_big_quiet_step ((go_at_call 55; exact Calls.cx_of (HKY.out _))))
      exact wpQuiet_nil rfl
     simp only [List.drop_succ_cons, List.drop_zero]
     go_wp2_with fail
     go_ret
     exact ⟨congrArg (fun z => Ending.returned (.bool z)) (by rw [HF.out]; first | rfl | simp [pairB]), H.out.1⟩
theorem rsup_0 {s : Fw} (h : ¬ (s.tries ≠ 0 ∨ s.due ≠ 0 ∨ s.replay < 0 ∨ 4611686018427387904 ≤ s.replay)) (e : (s.stage == 0) = true) : rsupF s = (emptyB s && freshS s) := by unfold rsupF; rw [if_neg h, if_pos (by simpa using e)]
theorem rsup_2 {s : Fw} (h : ¬ (s.tries ≠ 0 ∨ s.due ≠ 0 ∨ s.replay < 0 ∨ 4611686018427387904 ≤ s.replay)) (e : (s.stage == 2) = true) : rsupF s = (emptyB s && pairB s) := by
 have e : s.stage = 2 := by simpa using e
 unfold rsupF
 rw [if_neg h]
 simp [e]
theorem rsup_4 {s : Fw} (h : ¬ (s.tries ≠ 0 ∨ s.due ≠ 0 ∨ s.replay < 0 ∨ 4611686018427387904 ≤ s.replay)) (e : (s.stage == 4) = true) : rsupF s = (decide (2 ≤ s.gid) && decide (s.gid ≤ 3) && pairB s) := by
 have e : s.stage = 4 := by simpa using e
 unfold rsupF
 rw [if_neg h]
 simp [e]
theorem rsup_n {s : Fw} (h0 : (s.stage == 0) = false) (h1 : (s.stage == 2) = false) (h3 : (s.stage == 4) = false) : rsupF s = false := by
 simp only [beq_eq_false_iff_ne] at h0 h1 h3
 unfold rsupF
 simp [h0, h1, h3]
set_option maxRecDepth 4000 in
set_option maxHeartbeats 3200000 in
theorem rsup_any (s : Fw) (w : World) : Calls Try.prog 43 #[.agg (cat (partsF s)).toArray] w fun e w' => e = .returned (.bool (rsupF s)) ∧ Ext w w' := by
 have H := kp (Loc.start w)
 have HNO := kp (rnone_any s)
 have HKY := kp (rkeys_any s s.other)
 go_enter Try.func43, Try.ntmps43
 generalize h3 : (Code.region 3 _ _ : Code) = R3
 generalize h4 : (Code.region 4 _ _ : Code) = R4
 generalize h8 : (Code.region 8 _ _ : Code) = R8
 generalize h10 : (Code.region 10 _ _ : Code) = R10
 by_cases hg : s.tries ≠ 0 ∨ s.due ≠ 0 ∨ s.replay < 0 ∨ 4611686018427387904 ≤ s.replay
 ·have HF := kp (show rsupF s = false from by unfold rsupF; rw [if_pos hg])
  go_wp2_with (first | ((with_reducible refine isBx 1 32 ?_); (refine L_box H rfl 32 _ rfl (cat (partsF s)) rfl ?_); clear H; intro g1 w1 HGg1 HEg1 H; simp only [pA]) | ((with_reducible refine isLd 3 ?_); (refine L_f1 H rfl 3 _ rfl 0 rfl _ rfl _ rfl _ rfl Try.underlying3 rfl ?_); simp only [pA]))
  all_goals try (exfalso; first | omega | (simp_all; done) | (simp_all; omega))
  all_goals go_ret
  all_goals exact ⟨congrArg (fun z => Ending.returned (.bool z)) HF.out.symm, H.out.1⟩
 ·have A0 := kp (fun h => rsup_0 hg h)
  have A2 := kp (fun h => rsup_2 hg h)
  have A4 := kp (fun h => rsup_4 hg h)
  go_wp2_with (first | ((with_reducible refine isBx 1 32 ?_); (refine L_box H rfl 32 _ rfl (cat (partsF s)) rfl ?_); clear H; intro g1 w1 HGg1 HEg1 H; simp only [pA]) | ((with_reducible refine isLd 3 ?_); (refine L_f1 H rfl 3 _ rfl 0 rfl _ rfl _ rfl _ rfl Try.underlying3 rfl ?_); simp only [pA]))
  all_goals try (exfalso; first | omega | (simp_all; done) | (simp_all; omega))
  clear hg
  refine wp_cut (3 :: 22 :: 23 :: 24 :: 25 :: 26 :: 27 :: 28 :: 29 :: 30 :: []) (AuC 3 (emptyB s) s w g1) ?_ ?_
  ·subst h3
   go_wp2_with (first | ((with_reducible refine isLd 3 ?_); (refine L_f1 H rfl 3 _ rfl 0 rfl _ rfl _ rfl _ rfl Try.underlying3 rfl ?_); simp only [pA]) | ((with_reducible refine isLd 30 ?_); (refine L_fg H rfl 30 _ rfl 0 rfl _ rfl _ rfl (partsG s.gid s.gkey) rfl Try.underlying30 rfl (by kernel_rfl) ?_); simp only [pA]) | ((with_reducible show wpList _ _ _ (Oper.mk _ (Op.build 30 _) _ _ _ _ :: _) _ _); (refine L_bd rfl 30 _ rfl #[] (by kernel_rfl) (cat (partsG 0 (zv 16))) (fun _ => by kernel_rfl) ?_); simp only [pA]) | ((with_reducible show wpList _ _ _ (Oper.mk _ (Op.binOp _ 30 _ _ _) _ _ _ _ :: _) _ _); (refine wpList_eq2 rfl 30 _ _ _ rfl _ _ _ rfl rfl Try.eqGuardType30 (eqG_in _ _ _ _ _ 9997) ?_); simp only [pA]))
   all_goals exact CutP.of rfl (by kernel_rfl) ⟨congrArg Value.bool (by unfold emptyB; first | (simp [*] <;> omega) | (simp [*]; rename_i h; exact fun a b => absurd b (h.resolve_left fun q => q a))), H⟩
  clear H
  rintro vs3 w3 ⟨q3, H⟩
  simp only [putMany, List.setIfInBounds_toArray, List.set_cons_zero, List.set_cons_succ]
  rw [q3]
  clear q3
  go_wp2_with fail
  subst h4
  go_wp2_with (first | ((with_reducible refine isLd 5 ?_); (refine L_f1 H rfl 5 _ rfl 0 rfl _ rfl _ rfl _ rfl Try.underlying5 rfl ?_); simp only [pA]) | ((with_reducible refine isLd 32 ?_); (refine L_fa H rfl 32 _ rfl 0 rfl rfl Try.underlying32 rfl (by kernel_rfl) ?_); simp only [pA]) | (go_at_call 60; refine (HNO.out _).mono ?_; rintro e wa ⟨rfl, hx⟩; replace H := kp (H.out.ext hx); have HXC := kp hx; clear hx))
  all_goals try (go_ret; refine ⟨congrArg (fun z => Ending.returned (.bool z)) ?_, H.out.1⟩; first | (rw [A0.out (by assumption)]; simp [*]; done) | exact (rsup_n (by assumption) (by assumption) (by assumption)).symm)
  ·have HF := kp (A2.out (by assumption))
   clear A0 A2 A4 HNO
   cases hc : emptyB s
   ·rw [hc] at HF
    subst h8
    refine region_z H 11 (by kernel_rfl) (by kernel_rfl) (by kernel_rfl) (by kernel_rfl) (by decide) (Nat.le_of_ble_eq_true (by kernel_rfl)) ?_
    apply Exists.intro
    refine ⟨fun xz2 => ?_, fun wz2 HXZ H => ?_⟩
    ·simp only [List.take_succ_cons, List.take_zero]
     unfold Cx
     repeat (go_big_quiet_step ((go_at_call 55; exact Calls.cx_of (HKY.out _))))
     exact wpQuiet_nil rfl
    simp only [List.drop_succ_cons, List.drop_zero]
    go_wp2_with fail
    go_ret
    exact ⟨congrArg (fun z => Ending.returned (.bool z)) (by rw [HF.out]; first | rfl | simp [pairB]), H.out.1⟩
   ·rw [hc] at HF
    subst h8
    refine region_z H 11 (by kernel_rfl) (by kernel_rfl) (by kernel_rfl) (by kernel_rfl) (by decide) (Nat.le_of_ble_eq_true (by kernel_rfl)) ?_
    apply Exists.intro
    refine ⟨fun xz3 => ?_, fun wz3 HXZ H => ?_⟩
    ·simp only [List.take_succ_cons, List.take_zero]
     unfold Cx
     repeat (first | ((with_reducible show wpQuiet _ _ _ _ (Oper.mk _ (Op.load 32 _) _ _ _ _ :: _) _); go_big_quiet_want; (refine qz_a H 32 _ rfl 0 rfl rfl Try.underlying32 rfl (by kernel_rfl) ?_); simp only [pA]; go_big_quiet_on) | ((with_reducible show wpQuiet _ _ _ _ (Oper.mk _ (Op.load 26 _) _ _ _ _ :: _) _); go_big_quiet_want; (refine qz_v H 26 _ rfl 0 rfl _ rfl _ rfl rfl Try.underlying26 rfl (by kernel_rfl) ?_); simp only [pA]; go_big_quiet_on) | ((with_reducible show wpQuiet _ _ _ _ (Oper.mk _ (Op.load 28 _) _ _ _ _ :: _) _); go_big_quiet_want; (refine qz_g H 28 _ rfl 0 rfl _ rfl _ rfl (partsK s.pair) rfl Try.underlying28 rfl (by kernel_rfl) ?_); simp only [pA]; go_big_quiet_on) | ((with_reducible show wpQuiet _ _ _ _ (Oper.mk _ (Op.binOp _ 28 _ _ _) _ _ _ _ :: _) _); go_big_quiet_want; (refine qz_eq 28 _ _ _ rfl _ _ _ rfl rfl Try.eqGuardType28 (fun _ => eqK_in _ _ _ 9997) ?_); simp only [pA]; go_big_quiet_on) | go_big_quiet_step ((go_at_call 55; exact Calls.cx_of (HKY.out _))))
     exact wpQuiet_nil rfl
    simp only [List.drop_succ_cons, List.drop_zero]
    go_wp2_with fail
    go_ret
    exact ⟨congrArg (fun z => Ending.returned (.bool z)) (by rw [HF.out]; first | rfl | simp [pairB]), H.out.1⟩
  ·have HF := kp (A4.out (by assumption))
   clear A0 A2 A4 HNO
   cases hc : decide (2 ≤ s.gid)
   ·rw [hc] at HF
    have hc2 : ¬ 2 ≤ s.gid := of_decide_eq_false hc
    clear hc
    subst h10
    refine region_z H 20 (by kernel_rfl) (by kernel_rfl) (by kernel_rfl) (by kernel_rfl) (by decide) (Nat.le_of_ble_eq_true (by kernel_rfl)) ?_
    apply Exists.intro
    refine ⟨fun xz4 => ?_, fun wz4 HXZ H => ?_⟩
    ·simp only [List.take_succ_cons, List.take_zero]
     unfold Cx
     repeat (first | ((with_reducible show wpQuiet _ _ _ _ (Oper.mk _ (Op.load 3 _) _ _ _ _ :: _) _); go_big_quiet_want; (refine qz_1 H 3 _ rfl 0 rfl _ rfl _ rfl _ rfl Try.underlying3 rfl ?_); simp only [pA]; go_big_quiet_on) | go_big_quiet_step ((go_at_call 55; exact Calls.cx_of (HKY.out _))))
     exact wpQuiet_nil rfl
    simp only [List.drop_succ_cons, List.drop_zero]
    go_wp2_with fail
    go_ret
    exact ⟨congrArg (fun z => Ending.returned (.bool z)) (by rw [HF.out]; first | rfl | simp [pairB]), H.out.1⟩
   ·have hc2 : 2 ≤ s.gid := of_decide_eq_true hc
    cases hm : decide (s.gid ≤ 3)
    ·rw [hc, hm] at HF
     have hm2 : ¬ s.gid ≤ 3 := of_decide_eq_false hm
     clear hc hm
     subst h10
     refine region_z H 20 (by kernel_rfl) (by kernel_rfl) (by kernel_rfl) (by kernel_rfl) (by decide) (Nat.le_of_ble_eq_true (by kernel_rfl)) ?_
     apply Exists.intro
     refine ⟨fun xz5 => ?_, fun wz5 HXZ H => ?_⟩
     ·simp only [List.take_succ_cons, List.take_zero]
      unfold Cx
      repeat (first | ((with_reducible show wpQuiet _ _ _ _ (Oper.mk _ (Op.load 3 _) _ _ _ _ :: _) _); go_big_quiet_want; (refine qz_1 H 3 _ rfl 0 rfl _ rfl _ rfl _ rfl Try.underlying3 rfl ?_); simp only [pA]; go_big_quiet_on) | go_big_quiet_step ((go_at_call 55; exact Calls.cx_of (HKY.out _))))
      exact wpQuiet_nil rfl
     simp only [List.drop_succ_cons, List.drop_zero]
     go_wp2_with fail
     go_ret
     exact ⟨congrArg (fun z => Ending.returned (.bool z)) (by rw [HF.out]; first | rfl | simp [pairB]), H.out.1⟩
    ·rw [hc, hm] at HF
     have hm2 : s.gid ≤ 3 := of_decide_eq_true hm
     clear hc hm
     subst h10
     refine region_z H 20 (by kernel_rfl) (by kernel_rfl) (by kernel_rfl) (by kernel_rfl) (by decide) (Nat.le_of_ble_eq_true (by kernel_rfl)) ?_
     apply Exists.intro
     refine ⟨fun xz6 => ?_, fun wz6 HXZ H => ?_⟩
     ·simp only [List.take_succ_cons, List.take_zero]
      unfold Cx
      repeat (first | ((with_reducible show wpQuiet _ _ _ _ (Oper.mk _ (Op.load 3 _) _ _ _ _ :: _) _); go_big_quiet_want; (refine qz_1 H 3 _ rfl 0 rfl _ rfl _ rfl _ rfl Try.underlying3 rfl ?_); simp only [pA]; go_big_quiet_on) | ((with_reducible show wpQuiet _ _ _ _ (Oper.mk _ (Op.load 32 _) _ _ _ _ :: _) _); go_big_quiet_want; (refine qz_a H 32 _ rfl 0 rfl rfl Try.underlying32 rfl (by kernel_rfl) ?_); simp only [pA]; go_big_quiet_on) | ((with_reducible show wpQuiet _ _ _ _ (Oper.mk _ (Op.load 26 _) _ _ _ _ :: _) _); go_big_quiet_want; (refine qz_v H 26 _ rfl 0 rfl _ rfl _ rfl rfl Try.underlying26 rfl (by kernel_rfl) ?_); simp only [pA]; go_big_quiet_on) | ((with_reducible show wpQuiet _ _ _ _ (Oper.mk _ (Op.load 28 _) _ _ _ _ :: _) _); go_big_quiet_want; (refine qz_g H 28 _ rfl 0 rfl _ rfl _ rfl (partsK s.pair) rfl Try.underlying28 rfl (by kernel_rfl) ?_); simp only [pA]; go_big_quiet_on) | ((with_reducible show wpQuiet _ _ _ _ (Oper.mk _ (Op.binOp _ 28 _ _ _) _ _ _ _ :: _) _); go_big_quiet_want; (refine qz_eq 28 _ _ _ rfl _ _ _ rfl rfl Try.eqGuardType28 (fun _ => eqK_in _ _ _ 9997) ?_); simp only [pA]; go_big_quiet_on) | go_big_quiet_step ((go_at_call 55; exact Calls.cx_of (HKY.out _))))
      exact wpQuiet_nil rfl
     simp only [List.drop_succ_cons, List.drop_zero]
     go_wp2_with fail
     go_ret
     exact ⟨congrArg (fun z => Ending.returned (.bool z)) (by rw [HF.out]; first | rfl | simp [pairB]), H.out.1⟩
set_option maxRecDepth 4000 in
set_option maxHeartbeats 3200000 in
theorem rcheck_any (s : Fw) (h0 : 0 ≤ s.stage) (w : World) : Calls Try.prog 18 #[.agg (cat (partsF s)).toArray] w fun e w' => e = .returned (.int .i64 (checkE s)) ∧ Ext w w' := by
 have H := kp (Loc.start w)
 have HA := kp (rauth_any s)
 have HS := kp (rsup_any s)
 have HC := kp (rcheck_eq s h0)
 go_enter Try.func18, Try.ntmps18
 go_wp2_with (first | ((with_reducible refine isBx 1 32 ?_); (refine L_box H rfl 32 _ rfl (cat (partsF s)) rfl ?_); clear H; intro g1 w1 HGg1 HEg1 H; simp only [pA]) | ((with_reducible refine isLd 5 ?_); (refine L_f1 H rfl 5 _ rfl 0 rfl _ rfl _ rfl _ rfl Try.underlying5 rfl ?_); simp only [pA]) | ((with_reducible refine isLd 3 ?_); (refine L_f1 H rfl 3 _ rfl 0 rfl _ rfl _ rfl _ rfl Try.underlying3 rfl ?_); simp only [pA]) | ((with_reducible refine isLd 23 ?_); (refine L_fv H rfl 23 _ rfl 0 rfl _ rfl _ rfl rfl Try.underlying23 rfl (by kernel_rfl) ?_); simp only [pA]) | ((with_reducible show wpList _ _ _ (Oper.mk _ (Op.binOp _ 23 _ _ _) _ _ _ _ :: _) _ _); (refine wpList_eq2 rfl 23 _ _ _ rfl _ _ _ rfl rfl Try.eqGuardType23 (eqV_in _ Try.underlying23 _ _ 9998) ?_); simp only [pA]) | ((with_reducible refine isLd 32 ?_); (refine L_fa H rfl 32 _ rfl 0 rfl rfl Try.underlying32 rfl (by kernel_rfl) ?_); simp only [pA]) | (go_at_call 42; refine (HA.out _).mono ?_; rintro e wa ⟨rfl, hx⟩; replace H := kp (H.out.ext hx); have HXC := kp hx; clear hx) | (go_at_call 43; refine (HS.out _).mono ?_; rintro e wa ⟨rfl, hx⟩; replace H := kp (H.out.ext hx); have HXC := kp hx; clear hx))
 all_goals go_ret
 all_goals refine ⟨congrArg (fun z => Ending.returned (.int .i64 z)) ?_, H.out.1⟩
 all_goals rw [HC.out]
 all_goals first | (rw [if_pos (by simp [rcheckB, oneI, *])]; done) | rw [if_neg (by simp [rcheckB, oneI, *])]
set_option maxHeartbeats 1600000 in
theorem rbefore_any (s : Fw) (h0 : 0 ≤ s.stage) (now : Int) (w : World) : Calls Try.prog 31 #[.agg (cat (partsF s)).toArray, .int .i64 now] w fun e w' => e = .returned (.int .i64 (checkedF s now)) ∧ Ext w w' := by
 have H := kp (Loc.start w)
 have HC := kp (rcheck_any s h0)
 have HE := kp (checked_eq s now)
 generalize checkE s = E at *
 go_enter Try.func31, Try.ntmps31
 go_wp2_with (first | ((with_reducible refine isBx 2 32 ?_); (refine L_box H rfl 32 _ rfl (cat (partsF s)) rfl ?_); clear H; intro g2 w2 HGg2 HEg2 H; simp only [pA]) | ((with_reducible refine isLd 32 ?_); (refine L_fa H rfl 32 _ rfl 0 rfl rfl Try.underlying32 rfl (by kernel_rfl) ?_); simp only [pA]) | (go_at_call 18; refine (HC.out _).mono ?_; rintro e wa ⟨rfl, hx⟩; replace H := kp (H.out.ext hx); have HXC := kp hx; clear hx))
 all_goals go_ret
 all_goals refine ⟨congrArg (fun z => Ending.returned (.int .i64 z)) ?_, H.out.1⟩
 all_goals rw [HE.out]
 all_goals first | (rw [if_pos (by simp_all)]; done) | (rw [if_neg (by simp_all), if_pos (by omega)]; done) | rw [if_neg (by simp_all), if_neg (by omega)]
end Go.Proofs.Ytibncchobkaaiaa
