/- hotspotref05.Valid answers valid5F. -/
import Derived.Test.YtfecopfofkdnpaaUsed5
namespace Go.Proofs.Ytfecopfofkdnpaa
open Go.RowKit
set_option maxHeartbeats 6400000 in
theorem valid5_any (h : Hd) (ok : h.Ok) (w : World) :
    Calls Try.prog 49 #[.agg (cellsH h).toArray] w fun e w' => e = .returned (.bool (valid5F h)) ∧ Ext w w' := by
  have H := kp (Loc.start w)
  have OK := kp ok
  have HKN := kp (known5_any h.kind h.sub ok.k0)
  have HUS := kp (used5_any h ok)
  have HNU := kp (null5_any h)
  have HG1 := kp (group2_any h.a1 ok.l1)
  have HG2 := kp (group2_any h.a2 ok.l2)
  have HZh := kp (sizeH ok)
  have HGT := kp Try.eqGuardType28
  have HNE := kp (fun w => neHd w h (usedF h) ok (usedF_ok ok))
  have HP1 := kp (pH1 ok)
  have HP2 := kp (pH2 ok)
  have HA1 := kp (sizeA8 ok.l1)
  have HA2 := kp (sizeA8 ok.l2)
  clear ok
  go_enter Try.func49, Try.ntmps49
  generalize h3 : (Code.region 3 _ _ : Code) = R3
  generalize h5 : (Code.region 5 _ _ : Code) = R5
  generalize h7 : (Code.region 7 _ _ : Code) = R7
  go_wp2_with (first | ((with_reducible show wpList _ _ _ (Oper.mk (some 1) (Op.box 28 _) _ _ _ _ :: _) _ _); (with_reducible refine L_box H rfl 28 _ rfl (cellsH h) rfl ?_); clear H; intro g1 w1 HGg1 HEg1 H; simp only [Act.put, List.setIfInBounds_toArray, List.set_cons_zero, List.set_cons_succ]))
  cases hk : known5F h.kind h.sub with
  | false =>
    have HK := kp (show valid5F h = false by simp [valid5F, hk])
    rw [hk] at HKN
    clear hk
    refine region_free H (tabS [(3, fun zv _ => zv = .pointer (some ⟨g1, 0, none⟩)), (4, fun zv _ => zv = .int .u8 h.kind), (5, fun zv _ => zv = .pointer (some ⟨g1, 1, none⟩)), (6, fun zv _ => zv = .int .u8 h.sub), (7, fun zv _ => zv = .bool false), (8, fun zv _ => zv = .bool true), (9, fun zv _ => zv = .bool true), (10, fun zv _ => zv = undef), (11, fun zv _ => zv = undef), (12, fun zv _ => zv = undef), (13, fun zv _ => zv = undef), (14, fun zv _ => zv = .bool true)]) [] (tabS_out _ _ (by simp only [List.forall_mem_cons]; exact ⟨mono_eqO _ _, mono_eqO _ _, mono_eqO _ _, mono_eqO _ _, mono_eqO _ _, mono_eqO _ _, mono_eqO _ _, mono_eqO _ _, mono_eqO _ _, mono_eqO _ _, mono_eqO _ _, mono_eqO _ _, by simp⟩)) 12 (by kernel_rfl) (by kernel_rfl) (by kernel_rfl) (by kernel_rfl) [] [] rfl rfl (by decide) (by decide) (by decide) trivial ?_
    simp only [List.take_succ_cons, List.take_zero]
    refine ⟨fun wv3 hov3 hSv3 => ?_, fun v3 => ?_⟩
    · clear hSv3
      clear hov3
      go_wp2_with fail
      exact ⟨rfl, _, rfl, fun d hd => by cases hd; exact rfl, Ext.refl _⟩
    simp only [Act.put, List.setIfInBounds_toArray, List.set_cons_zero, List.set_cons_succ]
    refine ⟨fun wv4 hov4 hSv4 => ?_, fun v4 => ?_⟩
    · obtain rfl : v3 = .pointer (some ⟨g1, 0, none⟩) := hSv4 3 (by decide) (by decide)
      clear hSv4
      have H := kp (H.out.keep [0] (St := []) trivial hov4 (by decide) (by kernel_rfl))
      have HOX := kp hov4
      clear hov4
      have hc := run_load_cell H.out 0 rfl 0 _ rfl
      go_wp2_with fail
      exact ⟨rfl, _, rfl, fun d hd => by cases hd; exact rfl, Ext.refl _⟩
    simp only [Act.put, List.setIfInBounds_toArray, List.set_cons_zero, List.set_cons_succ]
    refine ⟨fun wv5 hov5 hSv5 => ?_, fun v5 => ?_⟩
    · clear hSv5
      clear hov5
      go_wp2_with fail
      exact ⟨rfl, _, rfl, fun d hd => by cases hd; exact rfl, Ext.refl _⟩
    simp only [Act.put, List.setIfInBounds_toArray, List.set_cons_zero, List.set_cons_succ]
    refine ⟨fun wv6 hov6 hSv6 => ?_, fun v6 => ?_⟩
    · obtain rfl : v5 = .pointer (some ⟨g1, 1, none⟩) := hSv6 5 (by decide) (by decide)
      clear hSv6
      have H := kp (H.out.keep [0] (St := []) trivial hov6 (by decide) (by kernel_rfl))
      have HOX := kp hov6
      clear hov6
      have hc := run_load_cell H.out 0 rfl 1 _ rfl
      go_wp2_with fail
      exact ⟨rfl, _, rfl, fun d hd => by cases hd; exact rfl, Ext.refl _⟩
    simp only [Act.put, List.setIfInBounds_toArray, List.set_cons_zero, List.set_cons_succ]
    refine ⟨fun wv7 hov7 hSv7 => ?_, fun v7 => ?_⟩
    · obtain rfl : v4 = .int .u8 h.kind := hSv7 4 (by decide) (by decide)
      obtain rfl : v6 = .int .u8 h.sub := hSv7 6 (by decide) (by decide)
      clear hSv7
      have H := kp (H.out.keep [0] (St := []) trivial hov7 (by decide) (by kernel_rfl))
      have HOX := kp hov7
      clear hov7
      go_wp2_with fail
      refine (HKN.out _).mono ?_
      rintro e w2 ⟨rfl, hx⟩
      have HXW := kp hx
      clear hx
      go_wp2_with fail
      exact ⟨rfl, _, rfl, fun d hd => by cases hd; exact rfl, HXW.out⟩
    simp only [Act.put, List.setIfInBounds_toArray, List.set_cons_zero, List.set_cons_succ]
    refine ⟨fun wv8 hov8 hSv8 => ?_, fun v8 => ?_⟩
    · obtain rfl : v7 = .bool false := hSv8 7 (by decide) (by decide)
      clear hSv8
      clear hov8
      go_wp2_with fail
      exact ⟨rfl, _, rfl, fun d hd => by cases hd; exact rfl, Ext.refl _⟩
    simp only [Act.put, List.setIfInBounds_toArray, List.set_cons_zero, List.set_cons_succ]
    refine ⟨fun wv9 hov9 hSv9 => ?_, fun v9 => ?_⟩
    · obtain rfl : v8 = .bool true := hSv9 8 (by decide) (by decide)
      clear hSv9
      clear hov9
      go_wp2_with fail
      exact ⟨rfl, _, rfl, fun d hd => by cases hd; exact rfl, Ext.refl _⟩
    simp only [Act.put, List.setIfInBounds_toArray, List.set_cons_zero, List.set_cons_succ]
    refine ⟨fun wv10 hov10 hSv10 => ?_, fun v10 => ?_⟩
    · obtain rfl : v9 = .bool true := hSv10 9 (by decide) (by decide)
      clear hSv10
      clear hov10
      go_wp2_with fail
      exact ⟨rfl, _, rfl, fun d hd => by cases hd; exact rfl, Ext.refl _⟩
    simp only [Act.put, List.setIfInBounds_toArray, List.set_cons_zero, List.set_cons_succ]
    refine ⟨fun wv11 hov11 hSv11 => ?_, fun v11 => ?_⟩
    · obtain rfl : v9 = .bool true := hSv11 9 (by decide) (by decide)
      clear hSv11
      clear hov11
      go_wp2_with fail
      exact ⟨rfl, _, rfl, fun d hd => by cases hd; exact rfl, Ext.refl _⟩
    simp only [Act.put, List.setIfInBounds_toArray, List.set_cons_zero, List.set_cons_succ]
    refine ⟨fun wv12 hov12 hSv12 => ?_, fun v12 => ?_⟩
    · obtain rfl : v9 = .bool true := hSv12 9 (by decide) (by decide)
      clear hSv12
      clear hov12
      go_wp2_with fail
      exact ⟨rfl, _, rfl, fun d hd => by cases hd; exact rfl, Ext.refl _⟩
    simp only [Act.put, List.setIfInBounds_toArray, List.set_cons_zero, List.set_cons_succ]
    refine ⟨fun wv13 hov13 hSv13 => ?_, fun v13 => ?_⟩
    · obtain rfl : v9 = .bool true := hSv13 9 (by decide) (by decide)
      clear hSv13
      clear hov13
      go_wp2_with fail
      exact ⟨rfl, _, rfl, fun d hd => by cases hd; exact rfl, Ext.refl _⟩
    simp only [Act.put, List.setIfInBounds_toArray, List.set_cons_zero, List.set_cons_succ]
    refine ⟨fun wv14 hov14 hSv14 => ?_, fun v14 => ?_⟩
    · obtain rfl : v9 = .bool true := hSv14 9 (by decide) (by decide)
      obtain rfl : v13 = undef := hSv14 13 (by decide) (by decide)
      clear hSv14
      clear hov14
      go_wp2_with fail
      exact ⟨rfl, _, rfl, fun d hd => by cases hd; exact rfl, Ext.refl _⟩
    simp only [Act.put, List.setIfInBounds_toArray, List.set_cons_zero, List.set_cons_succ]
    clear H
    intro w2 HOX H hfin
    obtain rfl : v3 = .pointer (some ⟨g1, 0, none⟩) := hfin 3 (by decide)
    obtain rfl : v4 = .int .u8 h.kind := hfin 4 (by decide)
    obtain rfl : v5 = .pointer (some ⟨g1, 1, none⟩) := hfin 5 (by decide)
    obtain rfl : v6 = .int .u8 h.sub := hfin 6 (by decide)
    obtain rfl : v7 = .bool false := hfin 7 (by decide)
    obtain rfl : v8 = .bool true := hfin 8 (by decide)
    obtain rfl : v9 = .bool true := hfin 9 (by decide)
    obtain rfl : v10 = undef := hfin 10 (by decide)
    obtain rfl : v11 = undef := hfin 11 (by decide)
    obtain rfl : v12 = undef := hfin 12 (by decide)
    obtain rfl : v13 = undef := hfin 13 (by decide)
    obtain rfl : v14 = .bool true := hfin 14 (by decide)
    clear hfin
    simp only [List.drop_succ_cons, List.drop_zero]
    simp only [applyS] at H
    have HXN := kp (HOX.out.ext (Ext.refl w1) (fun g hg => by cases hg))
    go_wp2_with fail
    go_ret
    exact ⟨congrArg (fun z => Ending.returned (.bool z)) HK.out.symm, H.out.1⟩
  | true =>
    rw [hk] at HKN
    have HKK := kp hk
    clear hk
    generalize hu : decide (h = usedF h) = uF at *
    refine region_free H (tabS [(3, fun zv _ => zv = .pointer (some ⟨g1, 0, none⟩)), (4, fun zv _ => zv = .int .u8 h.kind), (5, fun zv _ => zv = .pointer (some ⟨g1, 1, none⟩)), (6, fun zv _ => zv = .int .u8 h.sub), (7, fun zv _ => zv = .bool true), (8, fun zv _ => zv = .bool false), (9, fun zv _ => zv = .bool false), (10, fun zv _ => zv = .agg (cellsH h).toArray), (11, fun zv _ => zv = .agg (cellsH h).toArray), (12, fun zv _ => zv = .agg (cellsH (usedF h)).toArray), (13, fun zv _ => zv = .bool (!uF)), (14, fun zv _ => zv = .bool (!uF))]) [] (tabS_out _ _ (by simp only [List.forall_mem_cons]; exact ⟨mono_eqO _ _, mono_eqO _ _, mono_eqO _ _, mono_eqO _ _, mono_eqO _ _, mono_eqO _ _, mono_eqO _ _, mono_eqO _ _, mono_eqO _ _, mono_eqO _ _, mono_eqO _ _, mono_eqO _ _, by simp⟩)) 12 (by kernel_rfl) (by kernel_rfl) (by kernel_rfl) (by kernel_rfl) [] [] rfl rfl (by decide) (by decide) (by decide) trivial ?_
    simp only [List.take_succ_cons, List.take_zero]
    refine ⟨fun wv3 hov3 hSv3 => ?_, fun v3 => ?_⟩
    · clear hSv3
      clear hov3
      go_wp2_with fail
      exact ⟨rfl, _, rfl, fun d hd => by cases hd; exact rfl, Ext.refl _⟩
    simp only [Act.put, List.setIfInBounds_toArray, List.set_cons_zero, List.set_cons_succ]
    refine ⟨fun wv4 hov4 hSv4 => ?_, fun v4 => ?_⟩
    · obtain rfl : v3 = .pointer (some ⟨g1, 0, none⟩) := hSv4 3 (by decide) (by decide)
      clear hSv4
      have H := kp (H.out.keep [0] (St := []) trivial hov4 (by decide) (by kernel_rfl))
      have HOX := kp hov4
      clear hov4
      have hc := run_load_cell H.out 0 rfl 0 _ rfl
      go_wp2_with fail
      exact ⟨rfl, _, rfl, fun d hd => by cases hd; exact rfl, Ext.refl _⟩
    simp only [Act.put, List.setIfInBounds_toArray, List.set_cons_zero, List.set_cons_succ]
    refine ⟨fun wv5 hov5 hSv5 => ?_, fun v5 => ?_⟩
    · clear hSv5
      clear hov5
      go_wp2_with fail
      exact ⟨rfl, _, rfl, fun d hd => by cases hd; exact rfl, Ext.refl _⟩
    simp only [Act.put, List.setIfInBounds_toArray, List.set_cons_zero, List.set_cons_succ]
    refine ⟨fun wv6 hov6 hSv6 => ?_, fun v6 => ?_⟩
    · obtain rfl : v5 = .pointer (some ⟨g1, 1, none⟩) := hSv6 5 (by decide) (by decide)
      clear hSv6
      have H := kp (H.out.keep [0] (St := []) trivial hov6 (by decide) (by kernel_rfl))
      have HOX := kp hov6
      clear hov6
      have hc := run_load_cell H.out 0 rfl 1 _ rfl
      go_wp2_with fail
      exact ⟨rfl, _, rfl, fun d hd => by cases hd; exact rfl, Ext.refl _⟩
    simp only [Act.put, List.setIfInBounds_toArray, List.set_cons_zero, List.set_cons_succ]
    refine ⟨fun wv7 hov7 hSv7 => ?_, fun v7 => ?_⟩
    · obtain rfl : v4 = .int .u8 h.kind := hSv7 4 (by decide) (by decide)
      obtain rfl : v6 = .int .u8 h.sub := hSv7 6 (by decide) (by decide)
      clear hSv7
      have H := kp (H.out.keep [0] (St := []) trivial hov7 (by decide) (by kernel_rfl))
      have HOX := kp hov7
      clear hov7
      go_wp2_with fail
      refine (HKN.out _).mono ?_
      rintro e w2 ⟨rfl, hx⟩
      have HXW := kp hx
      clear hx
      go_wp2_with fail
      exact ⟨rfl, _, rfl, fun d hd => by cases hd; exact rfl, HXW.out⟩
    simp only [Act.put, List.setIfInBounds_toArray, List.set_cons_zero, List.set_cons_succ]
    refine ⟨fun wv8 hov8 hSv8 => ?_, fun v8 => ?_⟩
    · obtain rfl : v7 = .bool true := hSv8 7 (by decide) (by decide)
      clear hSv8
      clear hov8
      go_wp2_with fail
      exact ⟨rfl, _, rfl, fun d hd => by cases hd; exact rfl, Ext.refl _⟩
    simp only [Act.put, List.setIfInBounds_toArray, List.set_cons_zero, List.set_cons_succ]
    refine ⟨fun wv9 hov9 hSv9 => ?_, fun v9 => ?_⟩
    · obtain rfl : v8 = .bool false := hSv9 8 (by decide) (by decide)
      clear hSv9
      clear hov9
      go_wp2_with fail
      exact ⟨rfl, _, rfl, fun d hd => by cases hd; exact rfl, Ext.refl _⟩
    simp only [Act.put, List.setIfInBounds_toArray, List.set_cons_zero, List.set_cons_succ]
    refine ⟨fun wv10 hov10 hSv10 => ?_, fun v10 => ?_⟩
    · obtain rfl : v9 = .bool false := hSv10 9 (by decide) (by decide)
      clear hSv10
      have H := kp (H.out.keep [0] (St := []) trivial hov10 (by decide) (by kernel_rfl))
      have HOX := kp hov10
      clear hov10
      go_wp2_with ((with_reducible show wpList _ _ _ (Oper.mk _ (Op.load 28 _) _ _ _ _ :: _) _ _); (first | (refine L_loadG H (by kernel_rfl) 28 _ rfl 0 rfl rfl Try.underlying28 rfl (HZh.out) ?_) | (refine L_loadG H (by kernel_rfl) 28 _ rfl 1 rfl rfl Try.underlying28 rfl (HZh.out) ?_) | (refine L_loadG H (by kernel_rfl) 28 _ rfl 2 rfl rfl Try.underlying28 rfl (HZh.out) ?_) | (refine L_loadG H (by kernel_rfl) 28 _ rfl 3 rfl rfl Try.underlying28 rfl (HZh.out) ?_) | (refine L_loadG H (by kernel_rfl) 28 _ rfl 4 rfl rfl Try.underlying28 rfl (HZh.out) ?_) | (refine L_loadG H (by kernel_rfl) 28 _ rfl 5 rfl rfl Try.underlying28 rfl (HZh.out) ?_)); simp only [Act.put, List.setIfInBounds_toArray, List.set_cons_zero, List.set_cons_succ])
      exact ⟨rfl, _, rfl, fun d hd => by cases hd; exact rfl, Ext.refl _⟩
    simp only [Act.put, List.setIfInBounds_toArray, List.set_cons_zero, List.set_cons_succ]
    refine ⟨fun wv11 hov11 hSv11 => ?_, fun v11 => ?_⟩
    · obtain rfl : v9 = .bool false := hSv11 9 (by decide) (by decide)
      clear hSv11
      have H := kp (H.out.keep [0] (St := []) trivial hov11 (by decide) (by kernel_rfl))
      have HOX := kp hov11
      clear hov11
      go_wp2_with ((with_reducible show wpList _ _ _ (Oper.mk _ (Op.load 28 _) _ _ _ _ :: _) _ _); (first | (refine L_loadG H (by kernel_rfl) 28 _ rfl 0 rfl rfl Try.underlying28 rfl (HZh.out) ?_) | (refine L_loadG H (by kernel_rfl) 28 _ rfl 1 rfl rfl Try.underlying28 rfl (HZh.out) ?_) | (refine L_loadG H (by kernel_rfl) 28 _ rfl 2 rfl rfl Try.underlying28 rfl (HZh.out) ?_) | (refine L_loadG H (by kernel_rfl) 28 _ rfl 3 rfl rfl Try.underlying28 rfl (HZh.out) ?_) | (refine L_loadG H (by kernel_rfl) 28 _ rfl 4 rfl rfl Try.underlying28 rfl (HZh.out) ?_) | (refine L_loadG H (by kernel_rfl) 28 _ rfl 5 rfl rfl Try.underlying28 rfl (HZh.out) ?_)); simp only [Act.put, List.setIfInBounds_toArray, List.set_cons_zero, List.set_cons_succ])
      exact ⟨rfl, _, rfl, fun d hd => by cases hd; exact rfl, Ext.refl _⟩
    simp only [Act.put, List.setIfInBounds_toArray, List.set_cons_zero, List.set_cons_succ]
    refine ⟨fun wv12 hov12 hSv12 => ?_, fun v12 => ?_⟩
    · obtain rfl : v9 = .bool false := hSv12 9 (by decide) (by decide)
      obtain rfl : v11 = .agg (cellsH h).toArray := hSv12 11 (by decide) (by decide)
      clear hSv12
      have H := kp (H.out.keep [0] (St := []) trivial hov12 (by decide) (by kernel_rfl))
      have HOX := kp hov12
      clear hov12
      go_wp2_with fail
      refine (HUS.out _).mono ?_
      rintro e w2 ⟨rfl, hx⟩
      have HXW := kp hx
      clear hx
      go_wp2_with fail
      exact ⟨rfl, _, rfl, fun d hd => by cases hd; exact rfl, HXW.out⟩
    simp only [Act.put, List.setIfInBounds_toArray, List.set_cons_zero, List.set_cons_succ]
    refine ⟨fun wv13 hov13 hSv13 => ?_, fun v13 => ?_⟩
    · obtain rfl : v9 = .bool false := hSv13 9 (by decide) (by decide)
      obtain rfl : v10 = .agg (cellsH h).toArray := hSv13 10 (by decide) (by decide)
      obtain rfl : v12 = .agg (cellsH (usedF h)).toArray := hSv13 12 (by decide) (by decide)
      clear hSv13
      have H := kp (H.out.keep [0] (St := []) trivial hov13 (by decide) (by kernel_rfl))
      have HOX := kp hov13
      clear hov13
      refine wpList_bin (by kernel_rfl) .neq 28 28 (.tmp 10) (.tmp 12) rfl (.agg (cellsH h).toArray) (.agg (cellsH (usedF h)).toArray) (.bool (!uF)) rfl rfl (run_eqGuard_agg _ _ _ _ _ _ _ HGT.out) (HNE.out _) ?_
      go_wp2_with fail
      exact ⟨rfl, _, rfl, fun d hd => by cases hd; exact rfl, Ext.refl _⟩
    simp only [Act.put, List.setIfInBounds_toArray, List.set_cons_zero, List.set_cons_succ]
    refine ⟨fun wv14 hov14 hSv14 => ?_, fun v14 => ?_⟩
    · obtain rfl : v9 = .bool false := hSv14 9 (by decide) (by decide)
      obtain rfl : v13 = .bool (!uF) := hSv14 13 (by decide) (by decide)
      clear hSv14
      clear hov14
      go_wp2_with fail
      exact ⟨rfl, _, rfl, fun d hd => by cases hd; exact rfl, Ext.refl _⟩
    simp only [Act.put, List.setIfInBounds_toArray, List.set_cons_zero, List.set_cons_succ]
    clear H
    intro w2 HOX H hfin
    obtain rfl : v3 = .pointer (some ⟨g1, 0, none⟩) := hfin 3 (by decide)
    obtain rfl : v4 = .int .u8 h.kind := hfin 4 (by decide)
    obtain rfl : v5 = .pointer (some ⟨g1, 1, none⟩) := hfin 5 (by decide)
    obtain rfl : v6 = .int .u8 h.sub := hfin 6 (by decide)
    obtain rfl : v7 = .bool true := hfin 7 (by decide)
    obtain rfl : v8 = .bool false := hfin 8 (by decide)
    obtain rfl : v9 = .bool false := hfin 9 (by decide)
    obtain rfl : v10 = .agg (cellsH h).toArray := hfin 10 (by decide)
    obtain rfl : v11 = .agg (cellsH h).toArray := hfin 11 (by decide)
    obtain rfl : v12 = .agg (cellsH (usedF h)).toArray := hfin 12 (by decide)
    obtain rfl : v13 = .bool (!uF) := hfin 13 (by decide)
    obtain rfl : v14 = .bool (!uF) := hfin 14 (by decide)
    clear hfin
    simp only [List.drop_succ_cons, List.drop_zero]
    simp only [applyS] at H
    have HXN := kp (HOX.out.ext (Ext.refl w1) (fun g hg => by cases hg))
    cases uF with
    | false =>
      have HK := kp (show valid5F h = false by simp [valid5F, hu])
      clear hu
      go_wp2_with fail
      go_ret
      exact ⟨congrArg (fun z => Ending.returned (.bool z)) HK.out.symm, H.out.1⟩
    | true =>
      have HU := kp hu
      clear hu
      go_wp2_with fail
      subst h3
      refine wp_cut [15, 16, 17, 18, 19, 20, 21, 22, 23, 24, 25, 26, 27, 28, 29, 30, 31, 32, 33, 34, 35, 36, 37, 38, 39, 40, 41, 42, 43, 44, 45, 46, 47, 48, 49, 50, 51, 52, 53, 54, 55, 56, 57] (fun vs w' => Kp (Loc w w' [(g1, 28, cellsH h)]) ∧ vs 57 = .bool (!rangesF h)) ?_ ?_
      · have hc4 := run_load_cell H.out 0 rfl 4 _ rfl; have hc8 := run_load_cell H.out 0 rfl 8 _ rfl; have hc9 := run_load_cell H.out 0 rfl 9 _ rfl; have hc34 := run_load_cell H.out 0 rfl _ _ (cH34 OK.out); have hc35 := run_load_cell H.out 0 rfl _ _ (cH35 OK.out); have hc36 := run_load_cell H.out 0 rfl _ _ (cH36 OK.out); have hc37 := run_load_cell H.out 0 rfl _ _ (cH37 OK.out); have hc38 := run_load_cell H.out 0 rfl _ _ (cH38 OK.out)
        go_wp2_with fail
        all_goals exact CutP.of rfl (by kernel_rfl) ⟨H, congrArg Value.bool (Bool.eq_iff_iff.2 (by simp [rangesF, inF]; omega))⟩
      rintro vs w3 ⟨H, e57⟩
      simp only [putMany, List.setIfInBounds_toArray, List.set_cons_zero, List.set_cons_succ]
      rw [e57]
      cases hr : rangesF h with
      | false =>
        have HK := kp (show valid5F h = false by simp [valid5F, hr])
        clear hr
        go_wp2_with fail
        go_ret
        exact ⟨congrArg (fun z => Ending.returned (.bool z)) HK.out.symm, H.out.1⟩
      | true =>
        have HR := kp hr
        clear hr e57
        go_wp2_with fail
        subst h5
        refine wp_cut [58, 59, 60, 61, 62, 63, 64, 65, 66, 67, 68, 69, 70, 71, 72, 73, 74] (fun vs w' => Kp (Loc w w' [(g1, 28, cellsH h)]) ∧ vs 74 = .bool (!groups5 h)) ?_ ?_
        · have hc4 := run_load_cell H.out 0 rfl 4 _ rfl; have hc8 := run_load_cell H.out 0 rfl 8 _ rfl; have hc9 := run_load_cell H.out 0 rfl 9 _ rfl; have hc34 := run_load_cell H.out 0 rfl _ _ (cH34 OK.out); have hc35 := run_load_cell H.out 0 rfl _ _ (cH35 OK.out); have hc36 := run_load_cell H.out 0 rfl _ _ (cH36 OK.out); have hc37 := run_load_cell H.out 0 rfl _ _ (cH37 OK.out); have hc38 := run_load_cell H.out 0 rfl _ _ (cH38 OK.out)
          have HGr := kp (show groups5 h = !(groupF h.a2 || (groupF h.a1 && (h.more || decide (0 < h.frag)))) from rfl)
          generalize groups5 h = gr at *
          generalize groupF h.a1 = b1 at *
          generalize groupF h.a2 = b2 at *
          cases b2 with
          | true =>
            go_wp2_with (first | ((with_reducible show wpList _ _ _ (Oper.mk _ (Op.load 23 _) _ _ _ _ :: _) _ _); (first | (refine L_subG H (by kernel_rfl) 23 _ rfl 0 rfl (16) rfl (h.a2.map V8) (HP2.out) Try.underlying23 rfl (HA2.out) ?_) | (refine L_subG H (by kernel_rfl) 23 _ rfl 1 rfl (16) rfl (h.a2.map V8) (HP2.out) Try.underlying23 rfl (HA2.out) ?_) | (refine L_subG H (by kernel_rfl) 23 _ rfl 2 rfl (16) rfl (h.a2.map V8) (HP2.out) Try.underlying23 rfl (HA2.out) ?_) | (refine L_subG H (by kernel_rfl) 23 _ rfl 3 rfl (16) rfl (h.a2.map V8) (HP2.out) Try.underlying23 rfl (HA2.out) ?_) | (refine L_subG H (by kernel_rfl) 23 _ rfl 4 rfl (16) rfl (h.a2.map V8) (HP2.out) Try.underlying23 rfl (HA2.out) ?_) | (refine L_subG H (by kernel_rfl) 23 _ rfl 5 rfl (16) rfl (h.a2.map V8) (HP2.out) Try.underlying23 rfl (HA2.out) ?_)); simp only [Act.put, List.setIfInBounds_toArray, List.set_cons_zero, List.set_cons_succ]) | (go_at_call 44; refine (HG2.out _).mono ?_; rintro e wa ⟨rfl, hx⟩; have H2 := kp (H.out.ext hx); have HXC := kp hx; clear H hx; have H := H2; clear H2; have hc4 := run_load_cell H.out 0 rfl 4 _ rfl; have hc8 := run_load_cell H.out 0 rfl 8 _ rfl; have hc9 := run_load_cell H.out 0 rfl 9 _ rfl; have hc34 := run_load_cell H.out 0 rfl _ _ (cH34 OK.out); have hc35 := run_load_cell H.out 0 rfl _ _ (cH35 OK.out); have hc36 := run_load_cell H.out 0 rfl _ _ (cH36 OK.out); have hc37 := run_load_cell H.out 0 rfl _ _ (cH37 OK.out); have hc38 := run_load_cell H.out 0 rfl _ _ (cH38 OK.out)))
            exact CutP.of rfl (by kernel_rfl) ⟨H, by rw [HGr.out]; rfl⟩
          | false =>
            cases b1 with
            | false =>
              go_wp2_with (first | ((with_reducible show wpList _ _ _ (Oper.mk _ (Op.load 23 _) _ _ _ _ :: _) _ _); (first | (refine L_subG H (by kernel_rfl) 23 _ rfl 0 rfl (16) rfl (h.a2.map V8) (HP2.out) Try.underlying23 rfl (HA2.out) ?_) | (refine L_subG H (by kernel_rfl) 23 _ rfl 1 rfl (16) rfl (h.a2.map V8) (HP2.out) Try.underlying23 rfl (HA2.out) ?_) | (refine L_subG H (by kernel_rfl) 23 _ rfl 2 rfl (16) rfl (h.a2.map V8) (HP2.out) Try.underlying23 rfl (HA2.out) ?_) | (refine L_subG H (by kernel_rfl) 23 _ rfl 3 rfl (16) rfl (h.a2.map V8) (HP2.out) Try.underlying23 rfl (HA2.out) ?_) | (refine L_subG H (by kernel_rfl) 23 _ rfl 4 rfl (16) rfl (h.a2.map V8) (HP2.out) Try.underlying23 rfl (HA2.out) ?_) | (refine L_subG H (by kernel_rfl) 23 _ rfl 5 rfl (16) rfl (h.a2.map V8) (HP2.out) Try.underlying23 rfl (HA2.out) ?_)); simp only [Act.put, List.setIfInBounds_toArray, List.set_cons_zero, List.set_cons_succ]) | ((with_reducible show wpList _ _ _ (Oper.mk _ (Op.load 23 _) _ _ _ _ :: _) _ _); (first | (refine L_subG H (by kernel_rfl) 23 _ rfl 0 rfl (10) rfl (h.a1.map V8) (HP1.out) Try.underlying23 rfl (HA1.out) ?_) | (refine L_subG H (by kernel_rfl) 23 _ rfl 1 rfl (10) rfl (h.a1.map V8) (HP1.out) Try.underlying23 rfl (HA1.out) ?_) | (refine L_subG H (by kernel_rfl) 23 _ rfl 2 rfl (10) rfl (h.a1.map V8) (HP1.out) Try.underlying23 rfl (HA1.out) ?_) | (refine L_subG H (by kernel_rfl) 23 _ rfl 3 rfl (10) rfl (h.a1.map V8) (HP1.out) Try.underlying23 rfl (HA1.out) ?_) | (refine L_subG H (by kernel_rfl) 23 _ rfl 4 rfl (10) rfl (h.a1.map V8) (HP1.out) Try.underlying23 rfl (HA1.out) ?_) | (refine L_subG H (by kernel_rfl) 23 _ rfl 5 rfl (10) rfl (h.a1.map V8) (HP1.out) Try.underlying23 rfl (HA1.out) ?_)); simp only [Act.put, List.setIfInBounds_toArray, List.set_cons_zero, List.set_cons_succ]) | (go_at_call 44; (first | with_reducible refine (HG2.out _).mono ?_ | with_reducible refine (HG1.out _).mono ?_); rintro e wa ⟨rfl, hx⟩; have H2 := kp (H.out.ext hx); have HXC := kp hx; clear H hx; have H := H2; clear H2; have hc4 := run_load_cell H.out 0 rfl 4 _ rfl; have hc8 := run_load_cell H.out 0 rfl 8 _ rfl; have hc9 := run_load_cell H.out 0 rfl 9 _ rfl; have hc34 := run_load_cell H.out 0 rfl _ _ (cH34 OK.out); have hc35 := run_load_cell H.out 0 rfl _ _ (cH35 OK.out); have hc36 := run_load_cell H.out 0 rfl _ _ (cH36 OK.out); have hc37 := run_load_cell H.out 0 rfl _ _ (cH37 OK.out); have hc38 := run_load_cell H.out 0 rfl _ _ (cH38 OK.out)))
              exact CutP.of rfl (by kernel_rfl) ⟨H, by rw [HGr.out]; rfl⟩
            | true =>
              go_wp2_with (first | ((with_reducible show wpList _ _ _ (Oper.mk _ (Op.load 23 _) _ _ _ _ :: _) _ _); (first | (refine L_subG H (by kernel_rfl) 23 _ rfl 0 rfl (16) rfl (h.a2.map V8) (HP2.out) Try.underlying23 rfl (HA2.out) ?_) | (refine L_subG H (by kernel_rfl) 23 _ rfl 1 rfl (16) rfl (h.a2.map V8) (HP2.out) Try.underlying23 rfl (HA2.out) ?_) | (refine L_subG H (by kernel_rfl) 23 _ rfl 2 rfl (16) rfl (h.a2.map V8) (HP2.out) Try.underlying23 rfl (HA2.out) ?_) | (refine L_subG H (by kernel_rfl) 23 _ rfl 3 rfl (16) rfl (h.a2.map V8) (HP2.out) Try.underlying23 rfl (HA2.out) ?_) | (refine L_subG H (by kernel_rfl) 23 _ rfl 4 rfl (16) rfl (h.a2.map V8) (HP2.out) Try.underlying23 rfl (HA2.out) ?_) | (refine L_subG H (by kernel_rfl) 23 _ rfl 5 rfl (16) rfl (h.a2.map V8) (HP2.out) Try.underlying23 rfl (HA2.out) ?_)); simp only [Act.put, List.setIfInBounds_toArray, List.set_cons_zero, List.set_cons_succ]) | ((with_reducible show wpList _ _ _ (Oper.mk _ (Op.load 23 _) _ _ _ _ :: _) _ _); (first | (refine L_subG H (by kernel_rfl) 23 _ rfl 0 rfl (10) rfl (h.a1.map V8) (HP1.out) Try.underlying23 rfl (HA1.out) ?_) | (refine L_subG H (by kernel_rfl) 23 _ rfl 1 rfl (10) rfl (h.a1.map V8) (HP1.out) Try.underlying23 rfl (HA1.out) ?_) | (refine L_subG H (by kernel_rfl) 23 _ rfl 2 rfl (10) rfl (h.a1.map V8) (HP1.out) Try.underlying23 rfl (HA1.out) ?_) | (refine L_subG H (by kernel_rfl) 23 _ rfl 3 rfl (10) rfl (h.a1.map V8) (HP1.out) Try.underlying23 rfl (HA1.out) ?_) | (refine L_subG H (by kernel_rfl) 23 _ rfl 4 rfl (10) rfl (h.a1.map V8) (HP1.out) Try.underlying23 rfl (HA1.out) ?_) | (refine L_subG H (by kernel_rfl) 23 _ rfl 5 rfl (10) rfl (h.a1.map V8) (HP1.out) Try.underlying23 rfl (HA1.out) ?_)); simp only [Act.put, List.setIfInBounds_toArray, List.set_cons_zero, List.set_cons_succ]) | (go_at_call 44; (first | with_reducible refine (HG2.out _).mono ?_ | with_reducible refine (HG1.out _).mono ?_); rintro e wa ⟨rfl, hx⟩; have H2 := kp (H.out.ext hx); have HXC := kp hx; clear H hx; have H := H2; clear H2; have hc4 := run_load_cell H.out 0 rfl 4 _ rfl; have hc8 := run_load_cell H.out 0 rfl 8 _ rfl; have hc9 := run_load_cell H.out 0 rfl 9 _ rfl; have hc34 := run_load_cell H.out 0 rfl _ _ (cH34 OK.out); have hc35 := run_load_cell H.out 0 rfl _ _ (cH35 OK.out); have hc36 := run_load_cell H.out 0 rfl _ _ (cH36 OK.out); have hc37 := run_load_cell H.out 0 rfl _ _ (cH37 OK.out); have hc38 := run_load_cell H.out 0 rfl _ _ (cH38 OK.out)))
              all_goals exact CutP.of rfl (by kernel_rfl) ⟨H, by rw [HGr.out]; simp [*]⟩
        rintro vs w4 ⟨H, e74⟩
        simp only [putMany, List.setIfInBounds_toArray, List.set_cons_zero, List.set_cons_succ]
        rw [e74]
        cases hg : groups5 h with
        | false =>
          have HK := kp (show valid5F h = false by simp [valid5F, hg])
          clear hg
          go_wp2_with fail
          go_ret
          exact ⟨congrArg (fun z => Ending.returned (.bool z)) HK.out.symm, H.out.1⟩
        | true =>
          have HK := kp (show valid5F h = odd5 h by simp [valid5F, hg, HR.out, HU.out, HKK.out])
          clear hg e74
          subst h7
          have hc4 := run_load_cell H.out 0 rfl 4 _ rfl; have hc8 := run_load_cell H.out 0 rfl 8 _ rfl; have hc9 := run_load_cell H.out 0 rfl 9 _ rfl; have hc34 := run_load_cell H.out 0 rfl _ _ (cH34 OK.out); have hc35 := run_load_cell H.out 0 rfl _ _ (cH35 OK.out); have hc36 := run_load_cell H.out 0 rfl _ _ (cH36 OK.out); have hc37 := run_load_cell H.out 0 rfl _ _ (cH37 OK.out); have hc38 := run_load_cell H.out 0 rfl _ _ (cH38 OK.out)
          have HOD := kp (show odd5 h = (!null5F h || (!h.more && !h.prot && !h.amsdu && h.frag == 0)) from rfl)
          generalize odd5 h = od at *
          generalize null5F h = nu at *
          go_wp2_with (first | ((with_reducible show wpList _ _ _ (Oper.mk _ (Op.load 28 _) _ _ _ _ :: _) _ _); (refine wpList_load_rowG (by kernel_rfl) 28 _ rfl (g1) rfl 28 (cellsH h).toArray (0, 0) _ (H.out.at 0 rfl) Try.underlying28 rfl (HZh.out) ?_); simp only [Act.put, List.setIfInBounds_toArray, List.set_cons_zero, List.set_cons_succ]) | (go_at_call 85; refine (HNU.out _).mono ?_; rintro e wa ⟨rfl, hx⟩; have H2 := kp (H.out.ext hx); have HXC := kp hx; clear H hx; have H := H2; clear H2; have hc4 := run_load_cell H.out 0 rfl 4 _ rfl; have hc8 := run_load_cell H.out 0 rfl 8 _ rfl; have hc9 := run_load_cell H.out 0 rfl 9 _ rfl; have hc34 := run_load_cell H.out 0 rfl _ _ (cH34 OK.out); have hc35 := run_load_cell H.out 0 rfl _ _ (cH35 OK.out); have hc36 := run_load_cell H.out 0 rfl _ _ (cH36 OK.out); have hc37 := run_load_cell H.out 0 rfl _ _ (cH37 OK.out); have hc38 := run_load_cell H.out 0 rfl _ _ (cH38 OK.out)))
          all_goals (go_ret; exact ⟨congrArg (fun z => Ending.returned (.bool z)) (by rw [HK.out, HOD.out]; simp [*]), H.out.1⟩)
end Go.Proofs.Ytfecopfofkdnpaa
