/- The reference's comparison of addresses. -/
import Derived.Test.YtfecopfofkdnpaaCmp
namespace Go.Proofs.Ytfecopfofkdnpaa
open Go.RowKit
theorem num_take (l : List (BitVec 8)) (j : Nat) (x : BitVec 8) (h : l[j]? = some x) : numF (l.take (j + 1)) = numF (l.take j) * 256 + x.toNat := by
  rw [List.take_add_one, h, Option.toList_some, num_snoc]
theorem wrap_u64' (n : Int) : IntKind.u64.wrap n = n % 18446744073709551616 := rfl
theorem number_any (l : List (BitVec 8)) (hl : l.length = 6) (w : World) :
    Calls Try.prog 82 #[.agg (l.map V8).toArray] w fun e w' => e = .returned (.int .u64 (numF l)) ∧ Ext w w' := by
  have H := kp (Loc.start w)
  have HL := kp hl
  clear hl
  go_enter Try.func82, Try.ntmps82
  go_wp2_with (first | ((with_reducible show wpList _ _ _ (Oper.mk (some 1) (Op.box 23 _) _ _ _ _ :: _) _ _); (with_reducible refine L_box H rfl 23 _ rfl (l.map V8) rfl ?_); clear H; intro g1 w1 HGg1 HEg1 H; simp only [Act.put, List.setIfInBounds_toArray, List.set_cons_zero, List.set_cons_succ]))
  go_loopw [4, 3] (fun i n wr => ∃ j : Nat, j ≤ 6 ∧ i = .int .i64 j ∧ n = .int .u64 (numF (l.take j)) ∧ Kp (Loc w wr [(g1, 23, l.map V8)])) (fun i _ _ => 6 - (intOf i).toNat)
  case atStart => exact ⟨0, by omega, rfl, rfl, H⟩
  case round =>
    obtain ⟨j, hj, rfl, rfl, H⟩ := hrel
    by_cases hlt : j < 6
    · obtain ⟨x, hx⟩ : ∃ x, l[j]? = some x := ⟨l[j]'(by rw [HL.out]; omega), by simp⟩
      have hc := run_load_cell H.out 0 rfl j (V8 x) (by simp [hx])
      have HX := kp hx
      have HB := kp (num_lt_pow (l.take j))
      clear hx
      have HS := kp (num_take l j x HX.out)
      generalize hq : numF (l.take j) = q at *
      generalize hq2 : numF (l.take (j + 1)) = q2 at *
      have HQ : Kp ((q : Int) * 256 % 18446744073709551616 = q * 256 ∧ ((q : Int) * 256 + wI x) % 18446744073709551616 = q2) := kp (by
        have h1 := HB.out
        have h2 := HS.out
        have h3 : (l.take j).length = j := by rw [List.length_take, HL.out]; omega
        rw [h3] at h1
        have h4 : (256:Nat) ^ j ≤ 256 ^ 5 := Nat.pow_le_pow_right (by decide) (by omega)
        have h5 := x.isLt
        rw [h2]
        unfold wI
        omega)
      have HW : Kp (IntKind.u64.wrap (wI x) = wI x) := kp (by rw [wrap_u64']; have h5 := x.isLt; unfold wI; omega)
      go_wp2_with fail
      go_roundw
      case rel => exact ⟨j + 1, by omega, by go_num, by rw [hq2, HW.out, wrap_u64' ((q : Int) * 256), HQ.out.1, wrap_u64', HQ.out.2], H⟩
      case measure => simp [intOf]; omega
    · obtain rfl : j = 6 := by omega
      go_wp2_with fail
      go_ret
      exact ⟨congrArg (fun z => Ending.returned (.int .u64 (numF z))) (List.take_of_length_le (by rw [HL.out]; exact Nat.le_refl _)), H.out.1⟩
theorem compare2_any (l m : List (BitVec 8)) (hl : l.length = 6) (hm : m.length = 6) (w : World) :
    Calls Try.prog 47 #[.agg (l.map V8).toArray, .agg (m.map V8).toArray] w fun e w' => e = .returned (.int .i64 (cmpF l m)) ∧ Ext w w' := by
  have H := kp (Loc.start w)
  have HNL := kp (number_any l hl)
  have HNM := kp (number_any m hm)
  have HZL := kp (sizeA8a hl)
  have HZM := kp (sizeA8a hm)
  clear hl hm
  go_enter Try.func47, Try.ntmps47
  go_wp2_with (first | ((with_reducible show wpList _ _ _ (Oper.mk (some 2) (Op.box 23 _) _ _ _ _ :: _) _ _); (with_reducible refine L_box H rfl 23 _ rfl (l.map V8) rfl ?_); clear H; intro g2 w2 HGg2 HEg2 H; simp only [Act.put, List.setIfInBounds_toArray, List.set_cons_zero, List.set_cons_succ]) | ((with_reducible show wpList _ _ _ (Oper.mk (some 3) (Op.box 23 _) _ _ _ _ :: _) _ _); (with_reducible refine L_box H rfl 23 _ rfl (m.map V8) rfl ?_); clear H; intro g3 w3 HGg3 HEg3 H; simp only [Act.put, List.setIfInBounds_toArray, List.set_cons_zero, List.set_cons_succ]))
  refine region_free H (tabS [(5, fun zv _ => zv = .agg (l.map V8).toArray), (6, fun zv _ => zv = .int .u64 (numF l)), (7, fun zv _ => zv = .agg (m.map V8).toArray), (8, fun zv _ => zv = .int .u64 (numF m)), (9, fun zv _ => zv = .bool (decide (numF l < numF m)))]) [] (tabS_out _ _ (by simp only [List.forall_mem_cons]; exact ⟨mono_eqO _ _, mono_eqO _ _, mono_eqO _ _, mono_eqO _ _, mono_eqO _ _, by simp⟩)) 5 (by kernel_rfl) (by kernel_rfl) (by kernel_rfl) (by kernel_rfl) [] [] rfl rfl (by decide) (by decide) (by decide) trivial ?_
  simp only [List.take_succ_cons, List.take_zero]
  refine ⟨fun wv5 hov5 hSv5 => ?_, fun v5 => ?_⟩
  · clear hSv5
    have H := kp (H.out.keep [0, 1] (St := []) trivial hov5 (by decide) (by kernel_rfl))
    have HOX := kp hov5
    clear hov5
    go_wp2_with ((with_reducible show wpList _ _ _ (Oper.mk _ (Op.load 23 _) _ _ _ _ :: _) _ _); (first | (refine L_load H rfl 23 _ rfl 0 rfl rfl Try.underlying23 rfl (HZL.out) ?_) | (refine L_load H rfl 23 _ rfl 1 rfl rfl Try.underlying23 rfl (HZL.out) ?_) | (refine L_load H rfl 23 _ rfl 2 rfl rfl Try.underlying23 rfl (HZL.out) ?_) | (refine L_load H rfl 23 _ rfl 3 rfl rfl Try.underlying23 rfl (HZL.out) ?_) | (refine L_load H rfl 23 _ rfl 4 rfl rfl Try.underlying23 rfl (HZL.out) ?_) | (refine L_load H rfl 23 _ rfl 5 rfl rfl Try.underlying23 rfl (HZL.out) ?_)); simp only [Act.put, List.setIfInBounds_toArray, List.set_cons_zero, List.set_cons_succ])
    exact ⟨rfl, _, rfl, fun d hd => by cases hd; exact rfl, Ext.refl _⟩
  simp only [Act.put, List.setIfInBounds_toArray, List.set_cons_zero, List.set_cons_succ]
  refine ⟨fun wv6 hov6 hSv6 => ?_, fun v6 => ?_⟩
  · obtain rfl : v5 = .agg (l.map V8).toArray := hSv6 5 (by decide) (by decide)
    clear hSv6
    have H := kp (H.out.keep [0, 1] (St := []) trivial hov6 (by decide) (by kernel_rfl))
    have HOX := kp hov6
    clear hov6
    go_wp2_with fail
    refine (HNL.out _).mono ?_
    rintro e w2 ⟨rfl, hx⟩
    have HXW := kp hx
    clear hx
    go_wp2_with fail
    exact ⟨rfl, _, rfl, fun d hd => by cases hd; exact rfl, HXW.out⟩
  simp only [Act.put, List.setIfInBounds_toArray, List.set_cons_zero, List.set_cons_succ]
  refine ⟨fun wv7 hov7 hSv7 => ?_, fun v7 => ?_⟩
  · clear hSv7
    have H := kp (H.out.keep [0, 1] (St := []) trivial hov7 (by decide) (by kernel_rfl))
    have HOX := kp hov7
    clear hov7
    go_wp2_with ((with_reducible show wpList _ _ _ (Oper.mk _ (Op.load 23 _) _ _ _ _ :: _) _ _); (first | (refine L_load H rfl 23 _ rfl 0 rfl rfl Try.underlying23 rfl (HZM.out) ?_) | (refine L_load H rfl 23 _ rfl 1 rfl rfl Try.underlying23 rfl (HZM.out) ?_) | (refine L_load H rfl 23 _ rfl 2 rfl rfl Try.underlying23 rfl (HZM.out) ?_) | (refine L_load H rfl 23 _ rfl 3 rfl rfl Try.underlying23 rfl (HZM.out) ?_) | (refine L_load H rfl 23 _ rfl 4 rfl rfl Try.underlying23 rfl (HZM.out) ?_) | (refine L_load H rfl 23 _ rfl 5 rfl rfl Try.underlying23 rfl (HZM.out) ?_)); simp only [Act.put, List.setIfInBounds_toArray, List.set_cons_zero, List.set_cons_succ])
    exact ⟨rfl, _, rfl, fun d hd => by cases hd; exact rfl, Ext.refl _⟩
  simp only [Act.put, List.setIfInBounds_toArray, List.set_cons_zero, List.set_cons_succ]
  refine ⟨fun wv8 hov8 hSv8 => ?_, fun v8 => ?_⟩
  · obtain rfl : v7 = .agg (m.map V8).toArray := hSv8 7 (by decide) (by decide)
    clear hSv8
    have H := kp (H.out.keep [0, 1] (St := []) trivial hov8 (by decide) (by kernel_rfl))
    have HOX := kp hov8
    clear hov8
    go_wp2_with fail
    refine (HNM.out _).mono ?_
    rintro e w2 ⟨rfl, hx⟩
    have HXW := kp hx
    clear hx
    go_wp2_with fail
    exact ⟨rfl, _, rfl, fun d hd => by cases hd; exact rfl, HXW.out⟩
  simp only [Act.put, List.setIfInBounds_toArray, List.set_cons_zero, List.set_cons_succ]
  refine ⟨fun wv9 hov9 hSv9 => ?_, fun v9 => ?_⟩
  · obtain rfl : v6 = .int .u64 (numF l) := hSv9 6 (by decide) (by decide)
    obtain rfl : v8 = .int .u64 (numF m) := hSv9 8 (by decide) (by decide)
    clear hSv9
    clear hov9
    go_wp2_with fail
    exact ⟨rfl, _, rfl, fun d hd => by cases hd; exact rfl, Ext.refl _⟩
  simp only [Act.put, List.setIfInBounds_toArray, List.set_cons_zero, List.set_cons_succ]
  clear H
  intro w4 HOX H hfin
  obtain rfl : v5 = .agg (l.map V8).toArray := hfin 5 (by decide)
  obtain rfl : v6 = .int .u64 (numF l) := hfin 6 (by decide)
  obtain rfl : v7 = .agg (m.map V8).toArray := hfin 7 (by decide)
  obtain rfl : v8 = .int .u64 (numF m) := hfin 8 (by decide)
  obtain rfl : v9 = .bool (decide (numF l < numF m)) := hfin 9 (by decide)
  clear hfin
  simp only [List.drop_succ_cons, List.drop_zero]
  simp only [applyS] at H
  have HXN := kp (HOX.out.ext (Ext.refl w3) (fun g hg => by cases hg))
  by_cases c1 : numF l < numF m
  · simp only [c1, decide_true]
    go_wp2_with fail
    go_ret
    exact ⟨by simp [cmpF, c1], H.out.1⟩
  have c1' : decide (numF l < numF m) = false := decide_eq_false c1
  simp only [c1']
  go_wp2_with fail
  refine region_free H (tabS [(10, fun zv _ => zv = .agg (l.map V8).toArray), (11, fun zv _ => zv = .int .u64 (numF l)), (12, fun zv _ => zv = .agg (m.map V8).toArray), (13, fun zv _ => zv = .int .u64 (numF m)), (14, fun zv _ => zv = .bool (decide (numF m < numF l)))]) [] (tabS_out _ _ (by simp only [List.forall_mem_cons]; exact ⟨mono_eqO _ _, mono_eqO _ _, mono_eqO _ _, mono_eqO _ _, mono_eqO _ _, by simp⟩)) 5 (by kernel_rfl) (by kernel_rfl) (by kernel_rfl) (by kernel_rfl) [] [] rfl rfl (by decide) (by decide) (by decide) trivial ?_
  simp only [List.take_succ_cons, List.take_zero]
  refine ⟨fun wv10 hov10 hSv10 => ?_, fun v10 => ?_⟩
  · clear hSv10
    have H := kp (H.out.keep [0, 1] (St := []) trivial hov10 (by decide) (by kernel_rfl))
    have HOX := kp hov10
    clear hov10
    go_wp2_with ((with_reducible show wpList _ _ _ (Oper.mk _ (Op.load 23 _) _ _ _ _ :: _) _ _); (first | (refine L_load H rfl 23 _ rfl 0 rfl rfl Try.underlying23 rfl (HZL.out) ?_) | (refine L_load H rfl 23 _ rfl 1 rfl rfl Try.underlying23 rfl (HZL.out) ?_) | (refine L_load H rfl 23 _ rfl 2 rfl rfl Try.underlying23 rfl (HZL.out) ?_) | (refine L_load H rfl 23 _ rfl 3 rfl rfl Try.underlying23 rfl (HZL.out) ?_) | (refine L_load H rfl 23 _ rfl 4 rfl rfl Try.underlying23 rfl (HZL.out) ?_) | (refine L_load H rfl 23 _ rfl 5 rfl rfl Try.underlying23 rfl (HZL.out) ?_)); simp only [Act.put, List.setIfInBounds_toArray, List.set_cons_zero, List.set_cons_succ])
    exact ⟨rfl, _, rfl, fun d hd => by cases hd; exact rfl, Ext.refl _⟩
  simp only [Act.put, List.setIfInBounds_toArray, List.set_cons_zero, List.set_cons_succ]
  refine ⟨fun wv11 hov11 hSv11 => ?_, fun v11 => ?_⟩
  · obtain rfl : v10 = .agg (l.map V8).toArray := hSv11 10 (by decide) (by decide)
    clear hSv11
    have H := kp (H.out.keep [0, 1] (St := []) trivial hov11 (by decide) (by kernel_rfl))
    have HOX := kp hov11
    clear hov11
    go_wp2_with fail
    refine (HNL.out _).mono ?_
    rintro e w2 ⟨rfl, hx⟩
    have HXW := kp hx
    clear hx
    go_wp2_with fail
    exact ⟨rfl, _, rfl, fun d hd => by cases hd; exact rfl, HXW.out⟩
  simp only [Act.put, List.setIfInBounds_toArray, List.set_cons_zero, List.set_cons_succ]
  refine ⟨fun wv12 hov12 hSv12 => ?_, fun v12 => ?_⟩
  · clear hSv12
    have H := kp (H.out.keep [0, 1] (St := []) trivial hov12 (by decide) (by kernel_rfl))
    have HOX := kp hov12
    clear hov12
    go_wp2_with ((with_reducible show wpList _ _ _ (Oper.mk _ (Op.load 23 _) _ _ _ _ :: _) _ _); (first | (refine L_load H rfl 23 _ rfl 0 rfl rfl Try.underlying23 rfl (HZM.out) ?_) | (refine L_load H rfl 23 _ rfl 1 rfl rfl Try.underlying23 rfl (HZM.out) ?_) | (refine L_load H rfl 23 _ rfl 2 rfl rfl Try.underlying23 rfl (HZM.out) ?_) | (refine L_load H rfl 23 _ rfl 3 rfl rfl Try.underlying23 rfl (HZM.out) ?_) | (refine L_load H rfl 23 _ rfl 4 rfl rfl Try.underlying23 rfl (HZM.out) ?_) | (refine L_load H rfl 23 _ rfl 5 rfl rfl Try.underlying23 rfl (HZM.out) ?_)); simp only [Act.put, List.setIfInBounds_toArray, List.set_cons_zero, List.set_cons_succ])
    exact ⟨rfl, _, rfl, fun d hd => by cases hd; exact rfl, Ext.refl _⟩
  simp only [Act.put, List.setIfInBounds_toArray, List.set_cons_zero, List.set_cons_succ]
  refine ⟨fun wv13 hov13 hSv13 => ?_, fun v13 => ?_⟩
  · obtain rfl : v12 = .agg (m.map V8).toArray := hSv13 12 (by decide) (by decide)
    clear hSv13
    have H := kp (H.out.keep [0, 1] (St := []) trivial hov13 (by decide) (by kernel_rfl))
    have HOX := kp hov13
    clear hov13
    go_wp2_with fail
    refine (HNM.out _).mono ?_
    rintro e w2 ⟨rfl, hx⟩
    have HXW := kp hx
    clear hx
    go_wp2_with fail
    exact ⟨rfl, _, rfl, fun d hd => by cases hd; exact rfl, HXW.out⟩
  simp only [Act.put, List.setIfInBounds_toArray, List.set_cons_zero, List.set_cons_succ]
  refine ⟨fun wv14 hov14 hSv14 => ?_, fun v14 => ?_⟩
  · obtain rfl : v11 = .int .u64 (numF l) := hSv14 11 (by decide) (by decide)
    obtain rfl : v13 = .int .u64 (numF m) := hSv14 13 (by decide) (by decide)
    clear hSv14
    clear hov14
    go_wp2_with fail
    exact ⟨rfl, _, rfl, fun d hd => by cases hd; exact rfl, Ext.refl _⟩
  simp only [Act.put, List.setIfInBounds_toArray, List.set_cons_zero, List.set_cons_succ]
  clear H
  intro w5 HOX H hfin
  obtain rfl : v10 = .agg (l.map V8).toArray := hfin 10 (by decide)
  obtain rfl : v11 = .int .u64 (numF l) := hfin 11 (by decide)
  obtain rfl : v12 = .agg (m.map V8).toArray := hfin 12 (by decide)
  obtain rfl : v13 = .int .u64 (numF m) := hfin 13 (by decide)
  obtain rfl : v14 = .bool (decide (numF m < numF l)) := hfin 14 (by decide)
  clear hfin
  simp only [List.drop_succ_cons, List.drop_zero]
  simp only [applyS] at H
  have HXN := kp (HOX.out.ext (Ext.refl w4) (fun g hg => by cases hg))
  by_cases c2 : numF m < numF l
  · simp only [c2, decide_true]
    go_wp2_with fail
    go_ret
    exact ⟨by simp [cmpF, c1, c2], H.out.1⟩
  have c2' : decide (numF m < numF l) = false := decide_eq_false c2
  simp only [c2']
  go_wp2_with fail
  go_ret
  exact ⟨by simp [cmpF, c1, c2], H.out.1⟩
end Go.Proofs.Ytfecopfofkdnpaa
