/- Texts of this proof, put together: ChA. -/
import Derived.Test.YtibncchobkaaiaaC13
import Derived.BigGuardPart
import Derived.Test.YtibncchobkaaiaaC1
namespace Go.Proofs.Ytibncchobkaaiaa
open Go.RowKit
theorem one_any (b : Bool) (w : World) : Calls Try.prog 40 #[.bool b] w fun e w' => e = .returned (.int .i64 (oneI b)) ∧ w' = w := by
 cases b
 all_goals
  go_enter Try.func40, Try.ntmps40
  go_wp2_with fail
  go_ret
  exact ⟨rfl, rfl⟩
set_option maxRecDepth 10000 in
set_option maxHeartbeats 3200000 in
theorem validAuth_any (s : Fw) (w : World) :
  Calls Try.prog 38 #[.agg (cat (partsF s)).toArray] w fun e w' => e = .returned (.bool (validAuthF s)) ∧ Ext w w' := by
 have H := kp (Loc.start w)
 have HON := kp one_any
 have HW8 := kp (show ∀ b : Bool, wrap64 (8 * oneI b) = 8 * oneI b from fun b => by cases b <;> first | kernel_rfl | decide | (simp [wrap64, oneI]; done))
 go_enter Try.func38, Try.ntmps38
 generalize h1 : (Code.region 1 _ _ : Code) = R1
 generalize h2 : (Code.region 2 _ _ : Code) = R2
 generalize h4 : (Code.region 4 _ _ : Code) = R4
 generalize h6 : (Code.region 6 _ _ : Code) = R6
 go_wp2_with ((with_reducible show wpList _ _ _ (Oper.mk (some 1) (Op.box 32 _) _ _ _ _ :: _) _ _); (refine L_box H rfl 32 _ rfl (cat (partsF s)) rfl ?_); clear H; intro g1 w1 HGg1 HEg1 H; simp only [Act.put, sbA, szA, ssA])
 subst h1
 refine wp_cut [3, 6, 7, 8, 9, 10, 11, 12, 13] (fun vs w' => Kp (Loc w w' [(g1, 32, cat (partsF s))]) ∧ vs 3 = .bool (waitsB s)) ?_ ?_
 ·go_wp2_with ((with_reducible refine isLd 5 ?_); (refine L_f1 H rfl 5 _ rfl 0 rfl _ rfl _ rfl _ rfl Try.underlying5 rfl ?_); simp only [Act.put, sbA, szA, ssA])
  all_goals exact CutP.of rfl (by kernel_rfl) ⟨H, by simp [waitsB, *]⟩
 rintro vs w2 ⟨H, e3⟩
 simp only [putMany, List.setIfInBounds_toArray, List.set_cons_zero, List.set_cons_succ]
 rw [e3]
 clear e3
 go_wp2_with fail
 subst h2
 refine wp_cut [4, 14, 15, 16, 17, 18, 19, 20, 21] (fun vs w' => Kp (Loc w w' [(g1, 32, cat (partsF s))]) ∧ vs 4 = .bool (keyedB s)) ?_ ?_
 ·go_wp2_with ((with_reducible refine isLd 5 ?_); (refine L_f1 H rfl 5 _ rfl 0 rfl _ rfl _ rfl _ rfl Try.underlying5 rfl ?_); simp only [Act.put, sbA, szA, ssA])
  all_goals exact CutP.of rfl (by kernel_rfl) ⟨H, by simp [keyedB, *]⟩
 rintro vs w3 ⟨H, e4⟩
 simp only [putMany, List.setIfInBounds_toArray, List.set_cons_zero, List.set_cons_succ]
 rw [e4]
 clear e4
 go_wp2_with ((with_reducible refine isLd 5 ?_); (refine L_f1 H rfl 5 _ rfl 0 rfl _ rfl _ rfl _ rfl Try.underlying5 rfl ?_); simp only [Act.put, sbA, szA, ssA])
 rw [show (s.stage == 0) = idleB s from rfl]
 subst h4
 refine wp_cut (25 :: 26 :: 27 :: 28 :: 29 :: 30 :: 31 :: 32 :: 33 :: 34 :: 35 :: 36 :: 37 :: 38 :: 39 :: 40 :: 41 :: 42 :: 43 :: 44 :: 45 :: 46 :: 47 :: 48 :: 49 :: 50 :: 51 :: 52 :: 53 :: 54 :: 55 :: 56 :: 57 :: 58 :: 59 :: 60 :: 61 :: []) (fun vs w' => Kp (Loc w w' [(g1, 32, cat (partsF s))]) ∧ vs 61 = .bool (badA1 s)) ?_ ?_
 ·skip
  cases hx1 : (decide (5 < s.stage)) with
  | true =>
   have HX1 := kp hx1
   clear hx1
   refine region_free H (tabS [(25, fun vQ _ => vQ = .pointer (some ⟨g1, 1, none⟩)), (26, fun vQ _ => vQ = .int .u8 s.stage), (27, fun vQ _ => vQ = .bool true), (28, fun vQ _ => vQ = .bool true), (29, fun vQ _ => vQ = undef), (30, fun vQ _ => vQ = undef), (31, fun vQ _ => vQ = undef), (32, fun vQ _ => vQ = .bool true), (33, fun vQ _ => vQ = .bool true), (34, fun vQ _ => vQ = undef), (35, fun vQ _ => vQ = undef), (36, fun vQ _ => vQ = undef), (37, fun vQ _ => vQ = undef), (38, fun vQ _ => vQ = undef), (39, fun vQ _ => vQ = undef), (40, fun vQ _ => vQ = undef), (41, fun vQ _ => vQ = undef), (42, fun vQ _ => vQ = undef), (43, fun vQ _ => vQ = undef), (44, fun vQ _ => vQ = .bool true), (45, fun vQ _ => vQ = .bool true), (46, fun vQ _ => vQ = undef), (47, fun vQ _ => vQ = undef), (48, fun vQ _ => vQ = undef), (49, fun vQ _ => vQ = undef), (50, fun vQ _ => vQ = undef), (51, fun vQ _ => vQ = undef), (52, fun vQ _ => vQ = .bool true), (53, fun vQ _ => vQ = .bool true), (54, fun vQ _ => vQ = undef), (55, fun vQ _ => vQ = undef), (56, fun vQ _ => vQ = undef), (57, fun vQ _ => vQ = undef), (58, fun vQ _ => vQ = undef), (59, fun vQ _ => vQ = undef), (60, fun vQ _ => vQ = undef), (61, fun vQ _ => vQ = .bool true)]) [] (tabS_out _ _ (by simp only [List.forall_mem_cons]; exact ⟨mono_eqO _ _, mono_eqO _ _, mono_eqO _ _, mono_eqO _ _, mono_eqO _ _, mono_eqO _ _, mono_eqO _ _, mono_eqO _ _, mono_eqO _ _, mono_eqO _ _, mono_eqO _ _, mono_eqO _ _, mono_eqO _ _, mono_eqO _ _, mono_eqO _ _, mono_eqO _ _, mono_eqO _ _, mono_eqO _ _, mono_eqO _ _, mono_eqO _ _, mono_eqO _ _, mono_eqO _ _, mono_eqO _ _, mono_eqO _ _, mono_eqO _ _, mono_eqO _ _, mono_eqO _ _, mono_eqO _ _, mono_eqO _ _, mono_eqO _ _, mono_eqO _ _, mono_eqO _ _, mono_eqO _ _, mono_eqO _ _, mono_eqO _ _, mono_eqO _ _, mono_eqO _ _, by simp⟩)) 37 (by kernel_rfl) (by kernel_rfl) (by kernel_rfl) (by kernel_rfl) [] [] rfl rfl (by decide) (by decide) (by decide) trivial ?_
   simp only [List.take_succ_cons, List.take_zero]
   refine ⟨fun w_ o_ S_ => ?_, fun v25 => ?_⟩
   ·clear S_
    clear o_
    go_wp2_with fail
    exact kso rfl rfl rfl
   simp only [Act.put, sbA, szA, ssA]
   refine ⟨fun w_ o_ S_ => ?_, fun v26 => ?_⟩
   ·obtain rfl : v25 = .pointer (some ⟨g1, 1, none⟩) := hsR S_ 25 rfl
    clear S_
    have H := kp (H.out.keep [0] (St := []) trivial o_ (by decide) (by kernel_rfl))
    have HOX := kp o_
    clear o_
    go_wp2_with ((with_reducible refine isLd 5 ?_); (refine L_f1 H rfl 5 _ rfl 0 rfl _ rfl _ rfl _ rfl Try.underlying5 rfl ?_); simp only [Act.put, sbA, szA, ssA])
    exact kso rfl rfl rfl
   simp only [Act.put, sbA, szA, ssA]
   refine ⟨fun w_ o_ S_ => ?_, fun v27 => ?_⟩
   ·obtain rfl : v26 = .int .u8 s.stage := hsR S_ 26 rfl
    clear S_
    have H := kp (H.out.keep [0] (St := []) trivial o_ (by decide) (by kernel_rfl))
    have HOX := kp o_
    clear o_
    go_wp2_with fail
    exact ⟨rfl, _, rfl, fun d hd => by cases hd; exact (congrArg Value.bool HX1.out), Ext.refl _⟩
   simp only [Act.put, sbA, szA, ssA]
   refine ⟨fun w_ o_ S_ => ?_, fun v28 => ?_⟩
   ·obtain rfl : v27 = .bool true := hsR S_ 27 rfl
    clear S_ o_
    go_wp2_with fail
    exact kso rfl rfl rfl
   simp only [Act.put, sbA, szA, ssA]
   refine ⟨fun w_ o_ S_ => ?_, fun v29 => ?_⟩
   ·obtain rfl : v28 = .bool true := hsR S_ 28 rfl
    clear S_ o_
    go_wp2_with fail
    exact kso rfl rfl rfl
   simp only [Act.put, sbA, szA, ssA]
   refine ⟨fun w_ o_ S_ => ?_, fun v30 => ?_⟩
   ·obtain rfl : v28 = .bool true := hsR S_ 28 rfl
    clear S_ o_
    go_wp2_with fail
    exact kso rfl rfl rfl
   simp only [Act.put, sbA, szA, ssA]
   refine ⟨fun w_ o_ S_ => ?_, fun v31 => ?_⟩
   ·obtain rfl : v28 = .bool true := hsR S_ 28 rfl
    clear S_ o_
    go_wp2_with fail
    exact kso rfl rfl rfl
   simp only [Act.put, sbA, szA, ssA]
   refine ⟨fun w_ o_ S_ => ?_, fun v32 => ?_⟩
   ·obtain rfl : v28 = .bool true := hsR S_ 28 rfl
    obtain rfl : v31 = undef := hsR S_ 31 rfl
    clear S_ o_
    go_wp2_with fail
    exact kso rfl rfl rfl
   simp only [Act.put, sbA, szA, ssA]
   refine ⟨fun w_ o_ S_ => ?_, fun v33 => ?_⟩
   ·obtain rfl : v32 = .bool true := hsR S_ 32 rfl
    clear S_ o_
    go_wp2_with fail
    exact kso rfl rfl rfl
   simp only [Act.put, sbA, szA, ssA]
   refine ⟨fun w_ o_ S_ => ?_, fun v34 => ?_⟩
   ·obtain rfl : v33 = .bool true := hsR S_ 33 rfl
    clear S_ o_
    go_wp2_with fail
    exact kso rfl rfl rfl
   simp only [Act.put, sbA, szA, ssA]
   refine ⟨fun w_ o_ S_ => ?_, fun v35 => ?_⟩
   ·obtain rfl : v33 = .bool true := hsR S_ 33 rfl
    clear S_ o_
    go_wp2_with fail
    exact kso rfl rfl rfl
   simp only [Act.put, sbA, szA, ssA]
   refine ⟨fun w_ o_ S_ => ?_, fun v36 => ?_⟩
   ·obtain rfl : v33 = .bool true := hsR S_ 33 rfl
    clear S_ o_
    go_wp2_with fail
    exact kso rfl rfl rfl
   simp only [Act.put, sbA, szA, ssA]
   refine ⟨fun w_ o_ S_ => ?_, fun v37 => ?_⟩
   ·obtain rfl : v33 = .bool true := hsR S_ 33 rfl
    clear S_ o_
    go_wp2_with fail
    exact kso rfl rfl rfl
   simp only [Act.put, sbA, szA, ssA]
   refine ⟨fun w_ o_ S_ => ?_, fun v38 => ?_⟩
   ·obtain rfl : v33 = .bool true := hsR S_ 33 rfl
    clear S_ o_
    go_wp2_with fail
    exact kso rfl rfl rfl
   simp only [Act.put, sbA, szA, ssA]
   refine ⟨fun w_ o_ S_ => ?_, fun v39 => ?_⟩
   ·obtain rfl : v38 = undef := hsR S_ 38 rfl
    clear S_ o_
    go_wp2_with fail
    exact kso rfl rfl rfl
   simp only [Act.put, sbA, szA, ssA]
   refine ⟨fun w_ o_ S_ => ?_, fun v40 => ?_⟩
   ·obtain rfl : v38 = undef := hsR S_ 38 rfl
    clear S_ o_
    go_wp2_with fail
    exact kso rfl rfl rfl
   simp only [Act.put, sbA, szA, ssA]
   refine ⟨fun w_ o_ S_ => ?_, fun v41 => ?_⟩
   ·obtain rfl : v38 = undef := hsR S_ 38 rfl
    clear S_ o_
    go_wp2_with fail
    exact kso rfl rfl rfl
   simp only [Act.put, sbA, szA, ssA]
   refine ⟨fun w_ o_ S_ => ?_, fun v42 => ?_⟩
   ·obtain rfl : v38 = undef := hsR S_ 38 rfl
    clear S_ o_
    go_wp2_with fail
    exact kso rfl rfl rfl
   simp only [Act.put, sbA, szA, ssA]
   refine ⟨fun w_ o_ S_ => ?_, fun v43 => ?_⟩
   ·obtain rfl : v33 = .bool true := hsR S_ 33 rfl
    clear S_ o_
    go_wp2_with fail
    exact kso rfl rfl rfl
   simp only [Act.put, sbA, szA, ssA]
   refine ⟨fun w_ o_ S_ => ?_, fun v44 => ?_⟩
   ·obtain rfl : v33 = .bool true := hsR S_ 33 rfl
    obtain rfl : v43 = undef := hsR S_ 43 rfl
    clear S_ o_
    go_wp2_with fail
    exact kso rfl rfl rfl
   simp only [Act.put, sbA, szA, ssA]
   refine ⟨fun w_ o_ S_ => ?_, fun v45 => ?_⟩
   ·obtain rfl : v44 = .bool true := hsR S_ 44 rfl
    clear S_ o_
    go_wp2_with fail
    exact kso rfl rfl rfl
   simp only [Act.put, sbA, szA, ssA]
   refine ⟨fun w_ o_ S_ => ?_, fun v46 => ?_⟩
   ·obtain rfl : v45 = .bool true := hsR S_ 45 rfl
    clear S_ o_
    go_wp2_with fail
    exact kso rfl rfl rfl
   simp only [Act.put, sbA, szA, ssA]
   refine ⟨fun w_ o_ S_ => ?_, fun v47 => ?_⟩
   ·obtain rfl : v45 = .bool true := hsR S_ 45 rfl
    clear S_ o_
    go_wp2_with fail
    exact kso rfl rfl rfl
   simp only [Act.put, sbA, szA, ssA]
   refine ⟨fun w_ o_ S_ => ?_, fun v48 => ?_⟩
   ·obtain rfl : v45 = .bool true := hsR S_ 45 rfl
    clear S_ o_
    go_wp2_with fail
    exact kso rfl rfl rfl
   simp only [Act.put, sbA, szA, ssA]
   refine ⟨fun w_ o_ S_ => ?_, fun v49 => ?_⟩
   ·obtain rfl : v45 = .bool true := hsR S_ 45 rfl
    clear S_ o_
    go_wp2_with fail
    exact kso rfl rfl rfl
   simp only [Act.put, sbA, szA, ssA]
   refine ⟨fun w_ o_ S_ => ?_, fun v50 => ?_⟩
   ·obtain rfl : v45 = .bool true := hsR S_ 45 rfl
    clear S_ o_
    go_wp2_with fail
    exact kso rfl rfl rfl
   simp only [Act.put, sbA, szA, ssA]
   refine ⟨fun w_ o_ S_ => ?_, fun v51 => ?_⟩
   ·obtain rfl : v45 = .bool true := hsR S_ 45 rfl
    clear S_ o_
    go_wp2_with fail
    exact kso rfl rfl rfl
   simp only [Act.put, sbA, szA, ssA]
   refine ⟨fun w_ o_ S_ => ?_, fun v52 => ?_⟩
   ·obtain rfl : v45 = .bool true := hsR S_ 45 rfl
    obtain rfl : v51 = undef := hsR S_ 51 rfl
    clear S_ o_
    go_wp2_with fail
    exact kso rfl rfl rfl
   simp only [Act.put, sbA, szA, ssA]
   refine ⟨fun w_ o_ S_ => ?_, fun v53 => ?_⟩
   ·obtain rfl : v52 = .bool true := hsR S_ 52 rfl
    clear S_ o_
    go_wp2_with fail
    exact kso rfl rfl rfl
   simp only [Act.put, sbA, szA, ssA]
   refine ⟨fun w_ o_ S_ => ?_, fun v54 => ?_⟩
   ·obtain rfl : v53 = .bool true := hsR S_ 53 rfl
    clear S_ o_
    go_wp2_with fail
    exact kso rfl rfl rfl
   simp only [Act.put, sbA, szA, ssA]
   refine ⟨fun w_ o_ S_ => ?_, fun v55 => ?_⟩
   ·obtain rfl : v53 = .bool true := hsR S_ 53 rfl
    clear S_ o_
    go_wp2_with fail
    exact kso rfl rfl rfl
   simp only [Act.put, sbA, szA, ssA]
   refine ⟨fun w_ o_ S_ => ?_, fun v56 => ?_⟩
   ·obtain rfl : v53 = .bool true := hsR S_ 53 rfl
    clear S_ o_
    go_wp2_with fail
    exact kso rfl rfl rfl
   simp only [Act.put, sbA, szA, ssA]
   refine ⟨fun w_ o_ S_ => ?_, fun v57 => ?_⟩
   ·obtain rfl : v53 = .bool true := hsR S_ 53 rfl
    clear S_ o_
    go_wp2_with fail
    exact kso rfl rfl rfl
   simp only [Act.put, sbA, szA, ssA]
   refine ⟨fun w_ o_ S_ => ?_, fun v58 => ?_⟩
   ·obtain rfl : v53 = .bool true := hsR S_ 53 rfl
    clear S_ o_
    go_wp2_with fail
    exact kso rfl rfl rfl
   simp only [Act.put, sbA, szA, ssA]
   refine ⟨fun w_ o_ S_ => ?_, fun v59 => ?_⟩
   ·obtain rfl : v53 = .bool true := hsR S_ 53 rfl
    clear S_ o_
    go_wp2_with fail
    exact kso rfl rfl rfl
   simp only [Act.put, sbA, szA, ssA]
   refine ⟨fun w_ o_ S_ => ?_, fun v60 => ?_⟩
   ·obtain rfl : v53 = .bool true := hsR S_ 53 rfl
    clear S_ o_
    go_wp2_with fail
    exact kso rfl rfl rfl
   simp only [Act.put, sbA, szA, ssA]
   refine ⟨fun w_ o_ S_ => ?_, fun v61 => ?_⟩
   ·obtain rfl : v53 = .bool true := hsR S_ 53 rfl
    obtain rfl : v60 = undef := hsR S_ 60 rfl
    clear S_ o_
    go_wp2_with fail
    exact kso rfl rfl rfl
   simp only [Act.put, sbA, szA, ssA]
   clear H
   intro w4 HOX H hfin
   obtain rfl : v25 = .pointer (some ⟨g1, 1, none⟩) := hfin 25 (by decide)
   obtain rfl : v26 = .int .u8 s.stage := hfin 26 (by decide)
   obtain rfl : v27 = .bool true := hfin 27 (by decide)
   obtain rfl : v28 = .bool true := hfin 28 (by decide)
   obtain rfl : v29 = undef := hfin 29 (by decide)
   obtain rfl : v30 = undef := hfin 30 (by decide)
   obtain rfl : v31 = undef := hfin 31 (by decide)
   obtain rfl : v32 = .bool true := hfin 32 (by decide)
   obtain rfl : v33 = .bool true := hfin 33 (by decide)
   obtain rfl : v34 = undef := hfin 34 (by decide)
   obtain rfl : v35 = undef := hfin 35 (by decide)
   obtain rfl : v36 = undef := hfin 36 (by decide)
   obtain rfl : v37 = undef := hfin 37 (by decide)
   obtain rfl : v38 = undef := hfin 38 (by decide)
   obtain rfl : v39 = undef := hfin 39 (by decide)
   obtain rfl : v40 = undef := hfin 40 (by decide)
   obtain rfl : v41 = undef := hfin 41 (by decide)
   obtain rfl : v42 = undef := hfin 42 (by decide)
   obtain rfl : v43 = undef := hfin 43 (by decide)
   obtain rfl : v44 = .bool true := hfin 44 (by decide)
   obtain rfl : v45 = .bool true := hfin 45 (by decide)
   obtain rfl : v46 = undef := hfin 46 (by decide)
   obtain rfl : v47 = undef := hfin 47 (by decide)
   obtain rfl : v48 = undef := hfin 48 (by decide)
   obtain rfl : v49 = undef := hfin 49 (by decide)
   obtain rfl : v50 = undef := hfin 50 (by decide)
   obtain rfl : v51 = undef := hfin 51 (by decide)
   obtain rfl : v52 = .bool true := hfin 52 (by decide)
   obtain rfl : v53 = .bool true := hfin 53 (by decide)
   obtain rfl : v54 = undef := hfin 54 (by decide)
   obtain rfl : v55 = undef := hfin 55 (by decide)
   obtain rfl : v56 = undef := hfin 56 (by decide)
   obtain rfl : v57 = undef := hfin 57 (by decide)
   obtain rfl : v58 = undef := hfin 58 (by decide)
   obtain rfl : v59 = undef := hfin 59 (by decide)
   obtain rfl : v60 = undef := hfin 60 (by decide)
   obtain rfl : v61 = .bool true := hfin 61 (by decide)
   clear hfin
   simp only [List.drop_succ_cons, List.drop_zero]
   simp only [applyS] at H
   have HXN := kp (HOX.out.ext (Ext.refl w3) (fun g hg => by cases hg))
   go_wp2_with fail
   exact CutP.of rfl (by kernel_rfl) ⟨H, by show Value.bool _ = Value.bool _; simp [badA1, gidB, HX1.out]⟩
  | false =>
   have HX1 := kp hx1
   clear hx1
   cases hx2 : (s.stage == 2) with
   | true =>
    have HX2 := kp hx2
    clear hx2
    refine region_free H (tabS [(25, fun vQ _ => vQ = .pointer (some ⟨g1, 1, none⟩)), (26, fun vQ _ => vQ = .int .u8 s.stage), (27, fun vQ _ => vQ = .bool false), (28, fun vQ _ => vQ = .bool false), (29, fun vQ _ => vQ = .pointer (some ⟨g1, 1, none⟩)), (30, fun vQ _ => vQ = .int .u8 s.stage), (31, fun vQ _ => vQ = .bool true), (32, fun vQ _ => vQ = .bool true), (33, fun vQ _ => vQ = .bool true), (34, fun vQ _ => vQ = undef), (35, fun vQ _ => vQ = undef), (36, fun vQ _ => vQ = undef), (37, fun vQ _ => vQ = undef), (38, fun vQ _ => vQ = undef), (39, fun vQ _ => vQ = undef), (40, fun vQ _ => vQ = undef), (41, fun vQ _ => vQ = undef), (42, fun vQ _ => vQ = undef), (43, fun vQ _ => vQ = undef), (44, fun vQ _ => vQ = .bool true), (45, fun vQ _ => vQ = .bool true), (46, fun vQ _ => vQ = undef), (47, fun vQ _ => vQ = undef), (48, fun vQ _ => vQ = undef), (49, fun vQ _ => vQ = undef), (50, fun vQ _ => vQ = undef), (51, fun vQ _ => vQ = undef), (52, fun vQ _ => vQ = .bool true), (53, fun vQ _ => vQ = .bool true), (54, fun vQ _ => vQ = undef), (55, fun vQ _ => vQ = undef), (56, fun vQ _ => vQ = undef), (57, fun vQ _ => vQ = undef), (58, fun vQ _ => vQ = undef), (59, fun vQ _ => vQ = undef), (60, fun vQ _ => vQ = undef), (61, fun vQ _ => vQ = .bool true)]) [] (tabS_out _ _ (by simp only [List.forall_mem_cons]; exact ⟨mono_eqO _ _, mono_eqO _ _, mono_eqO _ _, mono_eqO _ _, mono_eqO _ _, mono_eqO _ _, mono_eqO _ _, mono_eqO _ _, mono_eqO _ _, mono_eqO _ _, mono_eqO _ _, mono_eqO _ _, mono_eqO _ _, mono_eqO _ _, mono_eqO _ _, mono_eqO _ _, mono_eqO _ _, mono_eqO _ _, mono_eqO _ _, mono_eqO _ _, mono_eqO _ _, mono_eqO _ _, mono_eqO _ _, mono_eqO _ _, mono_eqO _ _, mono_eqO _ _, mono_eqO _ _, mono_eqO _ _, mono_eqO _ _, mono_eqO _ _, mono_eqO _ _, mono_eqO _ _, mono_eqO _ _, mono_eqO _ _, mono_eqO _ _, mono_eqO _ _, mono_eqO _ _, by simp⟩)) 37 (by kernel_rfl) (by kernel_rfl) (by kernel_rfl) (by kernel_rfl) [] [] rfl rfl (by decide) (by decide) (by decide) trivial ?_
    simp only [List.take_succ_cons, List.take_zero]
    refine ⟨fun w_ o_ S_ => ?_, fun v25 => ?_⟩
    ·clear S_
     clear o_
     go_wp2_with fail
     exact kso rfl rfl rfl
    simp only [Act.put, sbA, szA, ssA]
    refine ⟨fun w_ o_ S_ => ?_, fun v26 => ?_⟩
    ·obtain rfl : v25 = .pointer (some ⟨g1, 1, none⟩) := hsR S_ 25 rfl
     clear S_
     have H := kp (H.out.keep [0] (St := []) trivial o_ (by decide) (by kernel_rfl))
     have HOX := kp o_
     clear o_
     go_wp2_with ((with_reducible refine isLd 5 ?_); (refine L_f1 H rfl 5 _ rfl 0 rfl _ rfl _ rfl _ rfl Try.underlying5 rfl ?_); simp only [Act.put, sbA, szA, ssA])
     exact kso rfl rfl rfl
    simp only [Act.put, sbA, szA, ssA]
    refine ⟨fun w_ o_ S_ => ?_, fun v27 => ?_⟩
    ·obtain rfl : v26 = .int .u8 s.stage := hsR S_ 26 rfl
     clear S_
     have H := kp (H.out.keep [0] (St := []) trivial o_ (by decide) (by kernel_rfl))
     have HOX := kp o_
     clear o_
     go_wp2_with fail
     exact ⟨rfl, _, rfl, fun d hd => by cases hd; exact (congrArg Value.bool HX1.out), Ext.refl _⟩
    simp only [Act.put, sbA, szA, ssA]
    refine ⟨fun w_ o_ S_ => ?_, fun v28 => ?_⟩
    ·obtain rfl : v27 = .bool false := hsR S_ 27 rfl
     clear S_ o_
     go_wp2_with fail
     exact kso rfl rfl rfl
    simp only [Act.put, sbA, szA, ssA]
    refine ⟨fun w_ o_ S_ => ?_, fun v29 => ?_⟩
    ·obtain rfl : v28 = .bool false := hsR S_ 28 rfl
     clear S_ o_
     go_wp2_with fail
     exact kso rfl rfl rfl
    simp only [Act.put, sbA, szA, ssA]
    refine ⟨fun w_ o_ S_ => ?_, fun v30 => ?_⟩
    ·obtain rfl : v28 = .bool false := hsR S_ 28 rfl
     obtain rfl : v29 = .pointer (some ⟨g1, 1, none⟩) := hsR S_ 29 rfl
     clear S_
     have H := kp (H.out.keep [0] (St := []) trivial o_ (by decide) (by kernel_rfl))
     have HOX := kp o_
     clear o_
     go_wp2_with ((with_reducible refine isLd 5 ?_); (refine L_f1 H rfl 5 _ rfl 0 rfl _ rfl _ rfl _ rfl Try.underlying5 rfl ?_); simp only [Act.put, sbA, szA, ssA])
     exact kso rfl rfl rfl
    simp only [Act.put, sbA, szA, ssA]
    refine ⟨fun w_ o_ S_ => ?_, fun v31 => ?_⟩
    ·obtain rfl : v28 = .bool false := hsR S_ 28 rfl
     obtain rfl : v30 = .int .u8 s.stage := hsR S_ 30 rfl
     clear S_
     have H := kp (H.out.keep [0] (St := []) trivial o_ (by decide) (by kernel_rfl))
     have HOX := kp o_
     clear o_
     go_wp2_with fail
     exact ⟨rfl, _, rfl, fun d hd => by cases hd; exact (congrArg Value.bool HX2.out), Ext.refl _⟩
    simp only [Act.put, sbA, szA, ssA]
    refine ⟨fun w_ o_ S_ => ?_, fun v32 => ?_⟩
    ·obtain rfl : v28 = .bool false := hsR S_ 28 rfl
     obtain rfl : v31 = .bool true := hsR S_ 31 rfl
     clear S_ o_
     go_wp2_with fail
     exact kso rfl rfl rfl
    simp only [Act.put, sbA, szA, ssA]
    refine ⟨fun w_ o_ S_ => ?_, fun v33 => ?_⟩
    ·obtain rfl : v32 = .bool true := hsR S_ 32 rfl
     clear S_ o_
     go_wp2_with fail
     exact kso rfl rfl rfl
    simp only [Act.put, sbA, szA, ssA]
    refine ⟨fun w_ o_ S_ => ?_, fun v34 => ?_⟩
    ·obtain rfl : v33 = .bool true := hsR S_ 33 rfl
     clear S_ o_
     go_wp2_with fail
     exact kso rfl rfl rfl
    simp only [Act.put, sbA, szA, ssA]
    refine ⟨fun w_ o_ S_ => ?_, fun v35 => ?_⟩
    ·obtain rfl : v33 = .bool true := hsR S_ 33 rfl
     clear S_ o_
     go_wp2_with fail
     exact kso rfl rfl rfl
    simp only [Act.put, sbA, szA, ssA]
    refine ⟨fun w_ o_ S_ => ?_, fun v36 => ?_⟩
    ·obtain rfl : v33 = .bool true := hsR S_ 33 rfl
     clear S_ o_
     go_wp2_with fail
     exact kso rfl rfl rfl
    simp only [Act.put, sbA, szA, ssA]
    refine ⟨fun w_ o_ S_ => ?_, fun v37 => ?_⟩
    ·obtain rfl : v33 = .bool true := hsR S_ 33 rfl
     clear S_ o_
     go_wp2_with fail
     exact kso rfl rfl rfl
    simp only [Act.put, sbA, szA, ssA]
    refine ⟨fun w_ o_ S_ => ?_, fun v38 => ?_⟩
    ·obtain rfl : v33 = .bool true := hsR S_ 33 rfl
     clear S_ o_
     go_wp2_with fail
     exact kso rfl rfl rfl
    simp only [Act.put, sbA, szA, ssA]
    refine ⟨fun w_ o_ S_ => ?_, fun v39 => ?_⟩
    ·obtain rfl : v38 = undef := hsR S_ 38 rfl
     clear S_ o_
     go_wp2_with fail
     exact kso rfl rfl rfl
    simp only [Act.put, sbA, szA, ssA]
    refine ⟨fun w_ o_ S_ => ?_, fun v40 => ?_⟩
    ·obtain rfl : v38 = undef := hsR S_ 38 rfl
     clear S_ o_
     go_wp2_with fail
     exact kso rfl rfl rfl
    simp only [Act.put, sbA, szA, ssA]
    refine ⟨fun w_ o_ S_ => ?_, fun v41 => ?_⟩
    ·obtain rfl : v38 = undef := hsR S_ 38 rfl
     clear S_ o_
     go_wp2_with fail
     exact kso rfl rfl rfl
    simp only [Act.put, sbA, szA, ssA]
    refine ⟨fun w_ o_ S_ => ?_, fun v42 => ?_⟩
    ·obtain rfl : v38 = undef := hsR S_ 38 rfl
     clear S_ o_
     go_wp2_with fail
     exact kso rfl rfl rfl
    simp only [Act.put, sbA, szA, ssA]
    refine ⟨fun w_ o_ S_ => ?_, fun v43 => ?_⟩
    ·obtain rfl : v33 = .bool true := hsR S_ 33 rfl
     clear S_ o_
     go_wp2_with fail
     exact kso rfl rfl rfl
    simp only [Act.put, sbA, szA, ssA]
    refine ⟨fun w_ o_ S_ => ?_, fun v44 => ?_⟩
    ·obtain rfl : v33 = .bool true := hsR S_ 33 rfl
     obtain rfl : v43 = undef := hsR S_ 43 rfl
     clear S_ o_
     go_wp2_with fail
     exact kso rfl rfl rfl
    simp only [Act.put, sbA, szA, ssA]
    refine ⟨fun w_ o_ S_ => ?_, fun v45 => ?_⟩
    ·obtain rfl : v44 = .bool true := hsR S_ 44 rfl
     clear S_ o_
     go_wp2_with fail
     exact kso rfl rfl rfl
    simp only [Act.put, sbA, szA, ssA]
    refine ⟨fun w_ o_ S_ => ?_, fun v46 => ?_⟩
    ·obtain rfl : v45 = .bool true := hsR S_ 45 rfl
     clear S_ o_
     go_wp2_with fail
     exact kso rfl rfl rfl
    simp only [Act.put, sbA, szA, ssA]
    refine ⟨fun w_ o_ S_ => ?_, fun v47 => ?_⟩
    ·obtain rfl : v45 = .bool true := hsR S_ 45 rfl
     clear S_ o_
     go_wp2_with fail
     exact kso rfl rfl rfl
    simp only [Act.put, sbA, szA, ssA]
    refine ⟨fun w_ o_ S_ => ?_, fun v48 => ?_⟩
    ·obtain rfl : v45 = .bool true := hsR S_ 45 rfl
     clear S_ o_
     go_wp2_with fail
     exact kso rfl rfl rfl
    simp only [Act.put, sbA, szA, ssA]
    refine ⟨fun w_ o_ S_ => ?_, fun v49 => ?_⟩
    ·obtain rfl : v45 = .bool true := hsR S_ 45 rfl
     clear S_ o_
     go_wp2_with fail
     exact kso rfl rfl rfl
    simp only [Act.put, sbA, szA, ssA]
    refine ⟨fun w_ o_ S_ => ?_, fun v50 => ?_⟩
    ·obtain rfl : v45 = .bool true := hsR S_ 45 rfl
     clear S_ o_
     go_wp2_with fail
     exact kso rfl rfl rfl
    simp only [Act.put, sbA, szA, ssA]
    refine ⟨fun w_ o_ S_ => ?_, fun v51 => ?_⟩
    ·obtain rfl : v45 = .bool true := hsR S_ 45 rfl
     clear S_ o_
     go_wp2_with fail
     exact kso rfl rfl rfl
    simp only [Act.put, sbA, szA, ssA]
    refine ⟨fun w_ o_ S_ => ?_, fun v52 => ?_⟩
    ·obtain rfl : v45 = .bool true := hsR S_ 45 rfl
     obtain rfl : v51 = undef := hsR S_ 51 rfl
     clear S_ o_
     go_wp2_with fail
     exact kso rfl rfl rfl
    simp only [Act.put, sbA, szA, ssA]
    refine ⟨fun w_ o_ S_ => ?_, fun v53 => ?_⟩
    ·obtain rfl : v52 = .bool true := hsR S_ 52 rfl
     clear S_ o_
     go_wp2_with fail
     exact kso rfl rfl rfl
    simp only [Act.put, sbA, szA, ssA]
    refine ⟨fun w_ o_ S_ => ?_, fun v54 => ?_⟩
    ·obtain rfl : v53 = .bool true := hsR S_ 53 rfl
     clear S_ o_
     go_wp2_with fail
     exact kso rfl rfl rfl
    simp only [Act.put, sbA, szA, ssA]
    refine ⟨fun w_ o_ S_ => ?_, fun v55 => ?_⟩
    ·obtain rfl : v53 = .bool true := hsR S_ 53 rfl
     clear S_ o_
     go_wp2_with fail
     exact kso rfl rfl rfl
    simp only [Act.put, sbA, szA, ssA]
    refine ⟨fun w_ o_ S_ => ?_, fun v56 => ?_⟩
    ·obtain rfl : v53 = .bool true := hsR S_ 53 rfl
     clear S_ o_
     go_wp2_with fail
     exact kso rfl rfl rfl
    simp only [Act.put, sbA, szA, ssA]
    refine ⟨fun w_ o_ S_ => ?_, fun v57 => ?_⟩
    ·obtain rfl : v53 = .bool true := hsR S_ 53 rfl
     clear S_ o_
     go_wp2_with fail
     exact kso rfl rfl rfl
    simp only [Act.put, sbA, szA, ssA]
    refine ⟨fun w_ o_ S_ => ?_, fun v58 => ?_⟩
    ·obtain rfl : v53 = .bool true := hsR S_ 53 rfl
     clear S_ o_
     go_wp2_with fail
     exact kso rfl rfl rfl
    simp only [Act.put, sbA, szA, ssA]
    refine ⟨fun w_ o_ S_ => ?_, fun v59 => ?_⟩
    ·obtain rfl : v53 = .bool true := hsR S_ 53 rfl
     clear S_ o_
     go_wp2_with fail
     exact kso rfl rfl rfl
    simp only [Act.put, sbA, szA, ssA]
    refine ⟨fun w_ o_ S_ => ?_, fun v60 => ?_⟩
    ·obtain rfl : v53 = .bool true := hsR S_ 53 rfl
     clear S_ o_
     go_wp2_with fail
     exact kso rfl rfl rfl
    simp only [Act.put, sbA, szA, ssA]
    refine ⟨fun w_ o_ S_ => ?_, fun v61 => ?_⟩
    ·obtain rfl : v53 = .bool true := hsR S_ 53 rfl
     obtain rfl : v60 = undef := hsR S_ 60 rfl
     clear S_ o_
     go_wp2_with fail
     exact kso rfl rfl rfl
    simp only [Act.put, sbA, szA, ssA]
    clear H
    intro w4 HOX H hfin
    obtain rfl : v25 = .pointer (some ⟨g1, 1, none⟩) := hfin 25 (by decide)
    obtain rfl : v26 = .int .u8 s.stage := hfin 26 (by decide)
    obtain rfl : v27 = .bool false := hfin 27 (by decide)
    obtain rfl : v28 = .bool false := hfin 28 (by decide)
    obtain rfl : v29 = .pointer (some ⟨g1, 1, none⟩) := hfin 29 (by decide)
    obtain rfl : v30 = .int .u8 s.stage := hfin 30 (by decide)
    obtain rfl : v31 = .bool true := hfin 31 (by decide)
    obtain rfl : v32 = .bool true := hfin 32 (by decide)
    obtain rfl : v33 = .bool true := hfin 33 (by decide)
    obtain rfl : v34 = undef := hfin 34 (by decide)
    obtain rfl : v35 = undef := hfin 35 (by decide)
    obtain rfl : v36 = undef := hfin 36 (by decide)
    obtain rfl : v37 = undef := hfin 37 (by decide)
    obtain rfl : v38 = undef := hfin 38 (by decide)
    obtain rfl : v39 = undef := hfin 39 (by decide)
    obtain rfl : v40 = undef := hfin 40 (by decide)
    obtain rfl : v41 = undef := hfin 41 (by decide)
    obtain rfl : v42 = undef := hfin 42 (by decide)
    obtain rfl : v43 = undef := hfin 43 (by decide)
    obtain rfl : v44 = .bool true := hfin 44 (by decide)
    obtain rfl : v45 = .bool true := hfin 45 (by decide)
    obtain rfl : v46 = undef := hfin 46 (by decide)
    obtain rfl : v47 = undef := hfin 47 (by decide)
    obtain rfl : v48 = undef := hfin 48 (by decide)
    obtain rfl : v49 = undef := hfin 49 (by decide)
    obtain rfl : v50 = undef := hfin 50 (by decide)
    obtain rfl : v51 = undef := hfin 51 (by decide)
    obtain rfl : v52 = .bool true := hfin 52 (by decide)
    obtain rfl : v53 = .bool true := hfin 53 (by decide)
    obtain rfl : v54 = undef := hfin 54 (by decide)
    obtain rfl : v55 = undef := hfin 55 (by decide)
    obtain rfl : v56 = undef := hfin 56 (by decide)
    obtain rfl : v57 = undef := hfin 57 (by decide)
    obtain rfl : v58 = undef := hfin 58 (by decide)
    obtain rfl : v59 = undef := hfin 59 (by decide)
    obtain rfl : v60 = undef := hfin 60 (by decide)
    obtain rfl : v61 = .bool true := hfin 61 (by decide)
    clear hfin
    simp only [List.drop_succ_cons, List.drop_zero]
    simp only [applyS] at H
    have HXN := kp (HOX.out.ext (Ext.refl w3) (fun g hg => by cases hg))
    go_wp2_with fail
    exact CutP.of rfl (by kernel_rfl) ⟨H, by show Value.bool _ = Value.bool _; simp [badA1, gidB, HX1.out, HX2.out]⟩
   | false =>
    have HX2 := kp hx2
    clear hx2
    cases hx3 : (s.gid == 2) with
    | true =>
     have HX3 := kp hx3
     clear hx3
     cases hx4 : (decide (s.replay < (oneI (!idleB s)))) with
     | true =>
      have HX4 := kp hx4
      clear hx4
      refine region_free H (tabS [(25, fun vQ _ => vQ = .pointer (some ⟨g1, 1, none⟩)), (26, fun vQ _ => vQ = .int .u8 s.stage), (27, fun vQ _ => vQ = .bool false), (28, fun vQ _ => vQ = .bool false), (29, fun vQ _ => vQ = .pointer (some ⟨g1, 1, none⟩)), (30, fun vQ _ => vQ = .int .u8 s.stage), (31, fun vQ _ => vQ = .bool false), (32, fun vQ _ => vQ = .bool false), (33, fun vQ _ => vQ = .bool false), (34, fun vQ _ => vQ = .pointer (some ⟨g1, 113, none⟩)), (35, fun vQ _ => vQ = .pointer (some ⟨g1, 113, none⟩)), (36, fun vQ _ => vQ = .int .i64 s.gid), (37, fun vQ _ => vQ = .bool false), (38, fun vQ _ => vQ = .bool false), (39, fun vQ _ => vQ = undef), (40, fun vQ _ => vQ = undef), (41, fun vQ _ => vQ = undef), (42, fun vQ _ => vQ = undef), (43, fun vQ _ => vQ = .bool false), (44, fun vQ _ => vQ = .bool false), (45, fun vQ _ => vQ = .bool false), (46, fun vQ _ => vQ = .pointer (some ⟨g1, 62, none⟩)), (47, fun vQ _ => vQ = .int .i64 s.replay), (48, fun vQ _ => vQ = .bool (idleB s)), (49, fun vQ _ => vQ = .bool (!idleB s)), (50, fun vQ _ => vQ = .int .i64 (oneI (!idleB s))), (51, fun vQ _ => vQ = .bool true), (52, fun vQ _ => vQ = .bool true), (53, fun vQ _ => vQ = .bool true), (54, fun vQ _ => vQ = undef), (55, fun vQ _ => vQ = undef), (56, fun vQ _ => vQ = undef), (57, fun vQ _ => vQ = undef), (58, fun vQ _ => vQ = undef), (59, fun vQ _ => vQ = undef), (60, fun vQ _ => vQ = undef), (61, fun vQ _ => vQ = .bool true)]) [] (tabS_out _ _ (by simp only [List.forall_mem_cons]; exact ⟨mono_eqO _ _, mono_eqO _ _, mono_eqO _ _, mono_eqO _ _, mono_eqO _ _, mono_eqO _ _, mono_eqO _ _, mono_eqO _ _, mono_eqO _ _, mono_eqO _ _, mono_eqO _ _, mono_eqO _ _, mono_eqO _ _, mono_eqO _ _, mono_eqO _ _, mono_eqO _ _, mono_eqO _ _, mono_eqO _ _, mono_eqO _ _, mono_eqO _ _, mono_eqO _ _, mono_eqO _ _, mono_eqO _ _, mono_eqO _ _, mono_eqO _ _, mono_eqO _ _, mono_eqO _ _, mono_eqO _ _, mono_eqO _ _, mono_eqO _ _, mono_eqO _ _, mono_eqO _ _, mono_eqO _ _, mono_eqO _ _, mono_eqO _ _, mono_eqO _ _, mono_eqO _ _, by simp⟩)) 37 (by kernel_rfl) (by kernel_rfl) (by kernel_rfl) (by kernel_rfl) [] [] rfl rfl (by decide) (by decide) (by decide) trivial ?_
      simp only [List.take_succ_cons, List.take_zero]
      refine ⟨fun w_ o_ S_ => ?_, fun v25 => ?_⟩
      ·clear S_
       clear o_
       go_wp2_with fail
       exact kso rfl rfl rfl
      simp only [Act.put, sbA, szA, ssA]
      refine ⟨fun w_ o_ S_ => ?_, fun v26 => ?_⟩
      ·obtain rfl : v25 = .pointer (some ⟨g1, 1, none⟩) := hsR S_ 25 rfl
       clear S_
       have H := kp (H.out.keep [0] (St := []) trivial o_ (by decide) (by kernel_rfl))
       have HOX := kp o_
       clear o_
       go_wp2_with ((with_reducible refine isLd 5 ?_); (refine L_f1 H rfl 5 _ rfl 0 rfl _ rfl _ rfl _ rfl Try.underlying5 rfl ?_); simp only [Act.put, sbA, szA, ssA])
       exact kso rfl rfl rfl
      simp only [Act.put, sbA, szA, ssA]
      refine ⟨fun w_ o_ S_ => ?_, fun v27 => ?_⟩
      ·obtain rfl : v26 = .int .u8 s.stage := hsR S_ 26 rfl
       clear S_
       have H := kp (H.out.keep [0] (St := []) trivial o_ (by decide) (by kernel_rfl))
       have HOX := kp o_
       clear o_
       go_wp2_with fail
       exact ⟨rfl, _, rfl, fun d hd => by cases hd; exact (congrArg Value.bool HX1.out), Ext.refl _⟩
      simp only [Act.put, sbA, szA, ssA]
      refine ⟨fun w_ o_ S_ => ?_, fun v28 => ?_⟩
      ·obtain rfl : v27 = .bool false := hsR S_ 27 rfl
       clear S_ o_
       go_wp2_with fail
       exact kso rfl rfl rfl
      simp only [Act.put, sbA, szA, ssA]
      refine ⟨fun w_ o_ S_ => ?_, fun v29 => ?_⟩
      ·obtain rfl : v28 = .bool false := hsR S_ 28 rfl
       clear S_ o_
       go_wp2_with fail
       exact kso rfl rfl rfl
      simp only [Act.put, sbA, szA, ssA]
      refine ⟨fun w_ o_ S_ => ?_, fun v30 => ?_⟩
      ·obtain rfl : v28 = .bool false := hsR S_ 28 rfl
       obtain rfl : v29 = .pointer (some ⟨g1, 1, none⟩) := hsR S_ 29 rfl
       clear S_
       have H := kp (H.out.keep [0] (St := []) trivial o_ (by decide) (by kernel_rfl))
       have HOX := kp o_
       clear o_
       go_wp2_with ((with_reducible refine isLd 5 ?_); (refine L_f1 H rfl 5 _ rfl 0 rfl _ rfl _ rfl _ rfl Try.underlying5 rfl ?_); simp only [Act.put, sbA, szA, ssA])
       exact kso rfl rfl rfl
      simp only [Act.put, sbA, szA, ssA]
      refine ⟨fun w_ o_ S_ => ?_, fun v31 => ?_⟩
      ·obtain rfl : v28 = .bool false := hsR S_ 28 rfl
       obtain rfl : v30 = .int .u8 s.stage := hsR S_ 30 rfl
       clear S_
       have H := kp (H.out.keep [0] (St := []) trivial o_ (by decide) (by kernel_rfl))
       have HOX := kp o_
       clear o_
       go_wp2_with fail
       exact ⟨rfl, _, rfl, fun d hd => by cases hd; exact (congrArg Value.bool HX2.out), Ext.refl _⟩
      simp only [Act.put, sbA, szA, ssA]
      refine ⟨fun w_ o_ S_ => ?_, fun v32 => ?_⟩
      ·obtain rfl : v28 = .bool false := hsR S_ 28 rfl
       obtain rfl : v31 = .bool false := hsR S_ 31 rfl
       clear S_ o_
       go_wp2_with fail
       exact kso rfl rfl rfl
      simp only [Act.put, sbA, szA, ssA]
      refine ⟨fun w_ o_ S_ => ?_, fun v33 => ?_⟩
      ·obtain rfl : v32 = .bool false := hsR S_ 32 rfl
       clear S_ o_
       go_wp2_with fail
       exact kso rfl rfl rfl
      simp only [Act.put, sbA, szA, ssA]
      refine ⟨fun w_ o_ S_ => ?_, fun v34 => ?_⟩
      ·obtain rfl : v33 = .bool false := hsR S_ 33 rfl
       clear S_ o_
       go_wp2_with fail
       exact kso rfl rfl rfl
      simp only [Act.put, sbA, szA, ssA]
      refine ⟨fun w_ o_ S_ => ?_, fun v35 => ?_⟩
      ·obtain rfl : v33 = .bool false := hsR S_ 33 rfl
       obtain rfl : v34 = .pointer (some ⟨g1, 113, none⟩) := hsR S_ 34 rfl
       clear S_ o_
       go_wp2_with fail
       exact kso rfl rfl rfl
      simp only [Act.put, sbA, szA, ssA]
      refine ⟨fun w_ o_ S_ => ?_, fun v36 => ?_⟩
      ·obtain rfl : v33 = .bool false := hsR S_ 33 rfl
       obtain rfl : v35 = .pointer (some ⟨g1, 113, none⟩) := hsR S_ 35 rfl
       clear S_
       have H := kp (H.out.keep [0] (St := []) trivial o_ (by decide) (by kernel_rfl))
       have HOX := kp o_
       clear o_
       go_wp2_with ((with_reducible refine isLd 3 ?_); (refine L_f1 H rfl 3 _ rfl 0 rfl _ rfl _ rfl _ rfl Try.underlying3 rfl ?_); simp only [Act.put, sbA, szA, ssA])
       exact kso rfl rfl rfl
      simp only [Act.put, sbA, szA, ssA]
      refine ⟨fun w_ o_ S_ => ?_, fun v37 => ?_⟩
      ·obtain rfl : v33 = .bool false := hsR S_ 33 rfl
       obtain rfl : v36 = .int .i64 s.gid := hsR S_ 36 rfl
       clear S_
       have H := kp (H.out.keep [0] (St := []) trivial o_ (by decide) (by kernel_rfl))
       have HOX := kp o_
       clear o_
       go_wp2_with fail
       exact ⟨rfl, _, rfl, fun d hd => by cases hd; exact (congrArg Value.bool (congrArg not HX3.out)), Ext.refl _⟩
      simp only [Act.put, sbA, szA, ssA]
      refine ⟨fun w_ o_ S_ => ?_, fun v38 => ?_⟩
      ·obtain rfl : v33 = .bool false := hsR S_ 33 rfl
       obtain rfl : v37 = .bool false := hsR S_ 37 rfl
       clear S_ o_
       go_wp2_with fail
       exact kso rfl rfl rfl
      simp only [Act.put, sbA, szA, ssA]
      refine ⟨fun w_ o_ S_ => ?_, fun v39 => ?_⟩
      ·obtain rfl : v38 = .bool false := hsR S_ 38 rfl
       clear S_ o_
       go_wp2_with fail
       exact kso rfl rfl rfl
      simp only [Act.put, sbA, szA, ssA]
      refine ⟨fun w_ o_ S_ => ?_, fun v40 => ?_⟩
      ·obtain rfl : v38 = .bool false := hsR S_ 38 rfl
       clear S_ o_
       go_wp2_with fail
       exact kso rfl rfl rfl
      simp only [Act.put, sbA, szA, ssA]
      refine ⟨fun w_ o_ S_ => ?_, fun v41 => ?_⟩
      ·obtain rfl : v38 = .bool false := hsR S_ 38 rfl
       clear S_ o_
       go_wp2_with fail
       exact kso rfl rfl rfl
      simp only [Act.put, sbA, szA, ssA]
      refine ⟨fun w_ o_ S_ => ?_, fun v42 => ?_⟩
      ·obtain rfl : v38 = .bool false := hsR S_ 38 rfl
       clear S_ o_
       go_wp2_with fail
       exact kso rfl rfl rfl
      simp only [Act.put, sbA, szA, ssA]
      refine ⟨fun w_ o_ S_ => ?_, fun v43 => ?_⟩
      ·obtain rfl : v33 = .bool false := hsR S_ 33 rfl
       obtain rfl : v38 = .bool false := hsR S_ 38 rfl
       obtain rfl : v42 = undef := hsR S_ 42 rfl
       clear S_ o_
       go_wp2_with fail
       exact kso rfl rfl rfl
      simp only [Act.put, sbA, szA, ssA]
      refine ⟨fun w_ o_ S_ => ?_, fun v44 => ?_⟩
      ·obtain rfl : v33 = .bool false := hsR S_ 33 rfl
       obtain rfl : v43 = .bool false := hsR S_ 43 rfl
       clear S_ o_
       go_wp2_with fail
       exact kso rfl rfl rfl
      simp only [Act.put, sbA, szA, ssA]
      refine ⟨fun w_ o_ S_ => ?_, fun v45 => ?_⟩
      ·obtain rfl : v44 = .bool false := hsR S_ 44 rfl
       clear S_ o_
       go_wp2_with fail
       exact kso rfl rfl rfl
      simp only [Act.put, sbA, szA, ssA]
      refine ⟨fun w_ o_ S_ => ?_, fun v46 => ?_⟩
      ·obtain rfl : v45 = .bool false := hsR S_ 45 rfl
       clear S_ o_
       go_wp2_with fail
       exact kso rfl rfl rfl
      simp only [Act.put, sbA, szA, ssA]
      refine ⟨fun w_ o_ S_ => ?_, fun v47 => ?_⟩
      ·obtain rfl : v45 = .bool false := hsR S_ 45 rfl
       obtain rfl : v46 = .pointer (some ⟨g1, 62, none⟩) := hsR S_ 46 rfl
       clear S_
       have H := kp (H.out.keep [0] (St := []) trivial o_ (by decide) (by kernel_rfl))
       have HOX := kp o_
       clear o_
       go_wp2_with ((with_reducible refine isLd 3 ?_); (refine L_f1 H rfl 3 _ rfl 0 rfl _ rfl _ rfl _ rfl Try.underlying3 rfl ?_); simp only [Act.put, sbA, szA, ssA])
       exact kso rfl rfl rfl
      simp only [Act.put, sbA, szA, ssA]
      refine ⟨fun w_ o_ S_ => ?_, fun v48 => ?_⟩
      ·obtain rfl : v45 = .bool false := hsR S_ 45 rfl
       clear S_ o_
       go_wp2_with fail
       exact kso rfl rfl rfl
      simp only [Act.put, sbA, szA, ssA]
      refine ⟨fun w_ o_ S_ => ?_, fun v49 => ?_⟩
      ·obtain rfl : v45 = .bool false := hsR S_ 45 rfl
       obtain rfl : v48 = .bool (idleB s) := hsR S_ 48 rfl
       clear S_ o_
       go_wp2_with fail
       exact kso rfl rfl rfl
      simp only [Act.put, sbA, szA, ssA]
      refine ⟨fun w_ o_ S_ => ?_, fun v50 => ?_⟩
      ·obtain rfl : v45 = .bool false := hsR S_ 45 rfl
       obtain rfl : v49 = .bool (!idleB s) := hsR S_ 49 rfl
       clear S_
       have H := kp (H.out.keep [0] (St := []) trivial o_ (by decide) (by kernel_rfl))
       have HOX := kp o_
       clear o_
       go_wp2_with fail
       refine (HON.out (!idleB s) _).mono ?_
       rintro e w2 ⟨rfl, rfl⟩
       go_wp2_with fail
       exact kso rfl rfl rfl
      simp only [Act.put, sbA, szA, ssA]
      refine ⟨fun w_ o_ S_ => ?_, fun v51 => ?_⟩
      ·obtain rfl : v45 = .bool false := hsR S_ 45 rfl
       obtain rfl : v47 = .int .i64 s.replay := hsR S_ 47 rfl
       obtain rfl : v50 = .int .i64 (oneI (!idleB s)) := hsR S_ 50 rfl
       clear S_
       have H := kp (H.out.keep [0] (St := []) trivial o_ (by decide) (by kernel_rfl))
       have HOX := kp o_
       clear o_
       go_wp2_with fail
       exact ⟨rfl, _, rfl, fun d hd => by cases hd; exact (congrArg Value.bool HX4.out), Ext.refl _⟩
      simp only [Act.put, sbA, szA, ssA]
      refine ⟨fun w_ o_ S_ => ?_, fun v52 => ?_⟩
      ·obtain rfl : v45 = .bool false := hsR S_ 45 rfl
       obtain rfl : v51 = .bool true := hsR S_ 51 rfl
       clear S_ o_
       go_wp2_with fail
       exact kso rfl rfl rfl
      simp only [Act.put, sbA, szA, ssA]
      refine ⟨fun w_ o_ S_ => ?_, fun v53 => ?_⟩
      ·obtain rfl : v52 = .bool true := hsR S_ 52 rfl
       clear S_ o_
       go_wp2_with fail
       exact kso rfl rfl rfl
      simp only [Act.put, sbA, szA, ssA]
      refine ⟨fun w_ o_ S_ => ?_, fun v54 => ?_⟩
      ·obtain rfl : v53 = .bool true := hsR S_ 53 rfl
       clear S_ o_
       go_wp2_with fail
       exact kso rfl rfl rfl
      simp only [Act.put, sbA, szA, ssA]
      refine ⟨fun w_ o_ S_ => ?_, fun v55 => ?_⟩
      ·obtain rfl : v53 = .bool true := hsR S_ 53 rfl
       clear S_ o_
       go_wp2_with fail
       exact kso rfl rfl rfl
      simp only [Act.put, sbA, szA, ssA]
      refine ⟨fun w_ o_ S_ => ?_, fun v56 => ?_⟩
      ·obtain rfl : v53 = .bool true := hsR S_ 53 rfl
       clear S_ o_
       go_wp2_with fail
       exact kso rfl rfl rfl
      simp only [Act.put, sbA, szA, ssA]
      refine ⟨fun w_ o_ S_ => ?_, fun v57 => ?_⟩
      ·obtain rfl : v53 = .bool true := hsR S_ 53 rfl
       clear S_ o_
       go_wp2_with fail
       exact kso rfl rfl rfl
      simp only [Act.put, sbA, szA, ssA]
      refine ⟨fun w_ o_ S_ => ?_, fun v58 => ?_⟩
      ·obtain rfl : v53 = .bool true := hsR S_ 53 rfl
       clear S_ o_
       go_wp2_with fail
       exact kso rfl rfl rfl
      simp only [Act.put, sbA, szA, ssA]
      refine ⟨fun w_ o_ S_ => ?_, fun v59 => ?_⟩
      ·obtain rfl : v53 = .bool true := hsR S_ 53 rfl
       clear S_ o_
       go_wp2_with fail
       exact kso rfl rfl rfl
      simp only [Act.put, sbA, szA, ssA]
      refine ⟨fun w_ o_ S_ => ?_, fun v60 => ?_⟩
      ·obtain rfl : v53 = .bool true := hsR S_ 53 rfl
       clear S_ o_
       go_wp2_with fail
       exact kso rfl rfl rfl
      simp only [Act.put, sbA, szA, ssA]
      refine ⟨fun w_ o_ S_ => ?_, fun v61 => ?_⟩
      ·obtain rfl : v53 = .bool true := hsR S_ 53 rfl
       obtain rfl : v60 = undef := hsR S_ 60 rfl
       clear S_ o_
       go_wp2_with fail
       exact kso rfl rfl rfl
      simp only [Act.put, sbA, szA, ssA]
      clear H
      intro w4 HOX H hfin
      obtain rfl : v25 = .pointer (some ⟨g1, 1, none⟩) := hfin 25 (by decide)
      obtain rfl : v26 = .int .u8 s.stage := hfin 26 (by decide)
      obtain rfl : v27 = .bool false := hfin 27 (by decide)
      obtain rfl : v28 = .bool false := hfin 28 (by decide)
      obtain rfl : v29 = .pointer (some ⟨g1, 1, none⟩) := hfin 29 (by decide)
      obtain rfl : v30 = .int .u8 s.stage := hfin 30 (by decide)
      obtain rfl : v31 = .bool false := hfin 31 (by decide)
      obtain rfl : v32 = .bool false := hfin 32 (by decide)
      obtain rfl : v33 = .bool false := hfin 33 (by decide)
      obtain rfl : v34 = .pointer (some ⟨g1, 113, none⟩) := hfin 34 (by decide)
      obtain rfl : v35 = .pointer (some ⟨g1, 113, none⟩) := hfin 35 (by decide)
      obtain rfl : v36 = .int .i64 s.gid := hfin 36 (by decide)
      obtain rfl : v37 = .bool false := hfin 37 (by decide)
      obtain rfl : v38 = .bool false := hfin 38 (by decide)
      obtain rfl : v39 = undef := hfin 39 (by decide)
      obtain rfl : v40 = undef := hfin 40 (by decide)
      obtain rfl : v41 = undef := hfin 41 (by decide)
      obtain rfl : v42 = undef := hfin 42 (by decide)
      obtain rfl : v43 = .bool false := hfin 43 (by decide)
      obtain rfl : v44 = .bool false := hfin 44 (by decide)
      obtain rfl : v45 = .bool false := hfin 45 (by decide)
      obtain rfl : v46 = .pointer (some ⟨g1, 62, none⟩) := hfin 46 (by decide)
      obtain rfl : v47 = .int .i64 s.replay := hfin 47 (by decide)
      obtain rfl : v48 = .bool (idleB s) := hfin 48 (by decide)
      obtain rfl : v49 = .bool (!idleB s) := hfin 49 (by decide)
      obtain rfl : v50 = .int .i64 (oneI (!idleB s)) := hfin 50 (by decide)
      obtain rfl : v51 = .bool true := hfin 51 (by decide)
      obtain rfl : v52 = .bool true := hfin 52 (by decide)
      obtain rfl : v53 = .bool true := hfin 53 (by decide)
      obtain rfl : v54 = undef := hfin 54 (by decide)
      obtain rfl : v55 = undef := hfin 55 (by decide)
      obtain rfl : v56 = undef := hfin 56 (by decide)
      obtain rfl : v57 = undef := hfin 57 (by decide)
      obtain rfl : v58 = undef := hfin 58 (by decide)
      obtain rfl : v59 = undef := hfin 59 (by decide)
      obtain rfl : v60 = undef := hfin 60 (by decide)
      obtain rfl : v61 = .bool true := hfin 61 (by decide)
      clear hfin
      simp only [List.drop_succ_cons, List.drop_zero]
      simp only [applyS] at H
      have HXN := kp (HOX.out.ext (Ext.refl w3) (fun g hg => by cases hg))
      go_wp2_with fail
      exact CutP.of rfl (by kernel_rfl) ⟨H, by show Value.bool _ = Value.bool _; simp [badA1, gidB, HX1.out, HX2.out, HX3.out, HX4.out]⟩
     | false =>
      have HX4 := kp hx4
      clear hx4
      refine region_free H (tabS [(25, fun vQ _ => vQ = .pointer (some ⟨g1, 1, none⟩)), (26, fun vQ _ => vQ = .int .u8 s.stage), (27, fun vQ _ => vQ = .bool false), (28, fun vQ _ => vQ = .bool false), (29, fun vQ _ => vQ = .pointer (some ⟨g1, 1, none⟩)), (30, fun vQ _ => vQ = .int .u8 s.stage), (31, fun vQ _ => vQ = .bool false), (32, fun vQ _ => vQ = .bool false), (33, fun vQ _ => vQ = .bool false), (34, fun vQ _ => vQ = .pointer (some ⟨g1, 113, none⟩)), (35, fun vQ _ => vQ = .pointer (some ⟨g1, 113, none⟩)), (36, fun vQ _ => vQ = .int .i64 s.gid), (37, fun vQ _ => vQ = .bool false), (38, fun vQ _ => vQ = .bool false), (39, fun vQ _ => vQ = undef), (40, fun vQ _ => vQ = undef), (41, fun vQ _ => vQ = undef), (42, fun vQ _ => vQ = undef), (43, fun vQ _ => vQ = .bool false), (44, fun vQ _ => vQ = .bool false), (45, fun vQ _ => vQ = .bool false), (46, fun vQ _ => vQ = .pointer (some ⟨g1, 62, none⟩)), (47, fun vQ _ => vQ = .int .i64 s.replay), (48, fun vQ _ => vQ = .bool (idleB s)), (49, fun vQ _ => vQ = .bool (!idleB s)), (50, fun vQ _ => vQ = .int .i64 (oneI (!idleB s))), (51, fun vQ _ => vQ = .bool false), (52, fun vQ _ => vQ = .bool false), (53, fun vQ _ => vQ = .bool false), (54, fun vQ _ => vQ = .pointer (some ⟨g1, 62, none⟩)), (55, fun vQ _ => vQ = .int .i64 s.replay), (56, fun vQ _ => vQ = .bool (idleB s)), (57, fun vQ _ => vQ = .bool (!idleB s)), (58, fun vQ _ => vQ = .int .i64 (oneI (!idleB s))), (59, fun vQ _ => vQ = .int .i64 (8 * oneI (!idleB s))), (60, fun vQ _ => vQ = .bool (decide (8 * oneI (!idleB s) < s.replay))), (61, fun vQ _ => vQ = .bool (decide (8 * oneI (!idleB s) < s.replay)))]) [] (tabS_out _ _ (by simp only [List.forall_mem_cons]; exact ⟨mono_eqO _ _, mono_eqO _ _, mono_eqO _ _, mono_eqO _ _, mono_eqO _ _, mono_eqO _ _, mono_eqO _ _, mono_eqO _ _, mono_eqO _ _, mono_eqO _ _, mono_eqO _ _, mono_eqO _ _, mono_eqO _ _, mono_eqO _ _, mono_eqO _ _, mono_eqO _ _, mono_eqO _ _, mono_eqO _ _, mono_eqO _ _, mono_eqO _ _, mono_eqO _ _, mono_eqO _ _, mono_eqO _ _, mono_eqO _ _, mono_eqO _ _, mono_eqO _ _, mono_eqO _ _, mono_eqO _ _, mono_eqO _ _, mono_eqO _ _, mono_eqO _ _, mono_eqO _ _, mono_eqO _ _, mono_eqO _ _, mono_eqO _ _, mono_eqO _ _, mono_eqO _ _, by simp⟩)) 37 (by kernel_rfl) (by kernel_rfl) (by kernel_rfl) (by kernel_rfl) [] [] rfl rfl (by decide) (by decide) (by decide) trivial ?_
      simp only [List.take_succ_cons, List.take_zero]
      refine ⟨fun w_ o_ S_ => ?_, fun v25 => ?_⟩
      ·clear S_
       clear o_
       go_wp2_with fail
       exact kso rfl rfl rfl
      simp only [Act.put, sbA, szA, ssA]
      refine ⟨fun w_ o_ S_ => ?_, fun v26 => ?_⟩
      ·obtain rfl : v25 = .pointer (some ⟨g1, 1, none⟩) := hsR S_ 25 rfl
       clear S_
       have H := kp (H.out.keep [0] (St := []) trivial o_ (by decide) (by kernel_rfl))
       have HOX := kp o_
       clear o_
       go_wp2_with ((with_reducible refine isLd 5 ?_); (refine L_f1 H rfl 5 _ rfl 0 rfl _ rfl _ rfl _ rfl Try.underlying5 rfl ?_); simp only [Act.put, sbA, szA, ssA])
       exact kso rfl rfl rfl
      simp only [Act.put, sbA, szA, ssA]
      refine ⟨fun w_ o_ S_ => ?_, fun v27 => ?_⟩
      ·obtain rfl : v26 = .int .u8 s.stage := hsR S_ 26 rfl
       clear S_
       have H := kp (H.out.keep [0] (St := []) trivial o_ (by decide) (by kernel_rfl))
       have HOX := kp o_
       clear o_
       go_wp2_with fail
       exact ⟨rfl, _, rfl, fun d hd => by cases hd; exact (congrArg Value.bool HX1.out), Ext.refl _⟩
      simp only [Act.put, sbA, szA, ssA]
      refine ⟨fun w_ o_ S_ => ?_, fun v28 => ?_⟩
      ·obtain rfl : v27 = .bool false := hsR S_ 27 rfl
       clear S_ o_
       go_wp2_with fail
       exact kso rfl rfl rfl
      simp only [Act.put, sbA, szA, ssA]
      refine ⟨fun w_ o_ S_ => ?_, fun v29 => ?_⟩
      ·obtain rfl : v28 = .bool false := hsR S_ 28 rfl
       clear S_ o_
       go_wp2_with fail
       exact kso rfl rfl rfl
      simp only [Act.put, sbA, szA, ssA]
      refine ⟨fun w_ o_ S_ => ?_, fun v30 => ?_⟩
      ·obtain rfl : v28 = .bool false := hsR S_ 28 rfl
       obtain rfl : v29 = .pointer (some ⟨g1, 1, none⟩) := hsR S_ 29 rfl
       clear S_
       have H := kp (H.out.keep [0] (St := []) trivial o_ (by decide) (by kernel_rfl))
       have HOX := kp o_
       clear o_
       go_wp2_with ((with_reducible refine isLd 5 ?_); (refine L_f1 H rfl 5 _ rfl 0 rfl _ rfl _ rfl _ rfl Try.underlying5 rfl ?_); simp only [Act.put, sbA, szA, ssA])
       exact kso rfl rfl rfl
      simp only [Act.put, sbA, szA, ssA]
      refine ⟨fun w_ o_ S_ => ?_, fun v31 => ?_⟩
      ·obtain rfl : v28 = .bool false := hsR S_ 28 rfl
       obtain rfl : v30 = .int .u8 s.stage := hsR S_ 30 rfl
       clear S_
       have H := kp (H.out.keep [0] (St := []) trivial o_ (by decide) (by kernel_rfl))
       have HOX := kp o_
       clear o_
       go_wp2_with fail
       exact ⟨rfl, _, rfl, fun d hd => by cases hd; exact (congrArg Value.bool HX2.out), Ext.refl _⟩
      simp only [Act.put, sbA, szA, ssA]
      refine ⟨fun w_ o_ S_ => ?_, fun v32 => ?_⟩
      ·obtain rfl : v28 = .bool false := hsR S_ 28 rfl
       obtain rfl : v31 = .bool false := hsR S_ 31 rfl
       clear S_ o_
       go_wp2_with fail
       exact kso rfl rfl rfl
      simp only [Act.put, sbA, szA, ssA]
      refine ⟨fun w_ o_ S_ => ?_, fun v33 => ?_⟩
      ·obtain rfl : v32 = .bool false := hsR S_ 32 rfl
       clear S_ o_
       go_wp2_with fail
       exact kso rfl rfl rfl
      simp only [Act.put, sbA, szA, ssA]
      refine ⟨fun w_ o_ S_ => ?_, fun v34 => ?_⟩
      ·obtain rfl : v33 = .bool false := hsR S_ 33 rfl
       clear S_ o_
       go_wp2_with fail
       exact kso rfl rfl rfl
      simp only [Act.put, sbA, szA, ssA]
      refine ⟨fun w_ o_ S_ => ?_, fun v35 => ?_⟩
      ·obtain rfl : v33 = .bool false := hsR S_ 33 rfl
       obtain rfl : v34 = .pointer (some ⟨g1, 113, none⟩) := hsR S_ 34 rfl
       clear S_ o_
       go_wp2_with fail
       exact kso rfl rfl rfl
      simp only [Act.put, sbA, szA, ssA]
      refine ⟨fun w_ o_ S_ => ?_, fun v36 => ?_⟩
      ·obtain rfl : v33 = .bool false := hsR S_ 33 rfl
       obtain rfl : v35 = .pointer (some ⟨g1, 113, none⟩) := hsR S_ 35 rfl
       clear S_
       have H := kp (H.out.keep [0] (St := []) trivial o_ (by decide) (by kernel_rfl))
       have HOX := kp o_
       clear o_
       go_wp2_with ((with_reducible refine isLd 3 ?_); (refine L_f1 H rfl 3 _ rfl 0 rfl _ rfl _ rfl _ rfl Try.underlying3 rfl ?_); simp only [Act.put, sbA, szA, ssA])
       exact kso rfl rfl rfl
      simp only [Act.put, sbA, szA, ssA]
      refine ⟨fun w_ o_ S_ => ?_, fun v37 => ?_⟩
      ·obtain rfl : v33 = .bool false := hsR S_ 33 rfl
       obtain rfl : v36 = .int .i64 s.gid := hsR S_ 36 rfl
       clear S_
       have H := kp (H.out.keep [0] (St := []) trivial o_ (by decide) (by kernel_rfl))
       have HOX := kp o_
       clear o_
       go_wp2_with fail
       exact ⟨rfl, _, rfl, fun d hd => by cases hd; exact (congrArg Value.bool (congrArg not HX3.out)), Ext.refl _⟩
      simp only [Act.put, sbA, szA, ssA]
      refine ⟨fun w_ o_ S_ => ?_, fun v38 => ?_⟩
      ·obtain rfl : v33 = .bool false := hsR S_ 33 rfl
       obtain rfl : v37 = .bool false := hsR S_ 37 rfl
       clear S_ o_
       go_wp2_with fail
       exact kso rfl rfl rfl
      simp only [Act.put, sbA, szA, ssA]
      refine ⟨fun w_ o_ S_ => ?_, fun v39 => ?_⟩
      ·obtain rfl : v38 = .bool false := hsR S_ 38 rfl
       clear S_ o_
       go_wp2_with fail
       exact kso rfl rfl rfl
      simp only [Act.put, sbA, szA, ssA]
      refine ⟨fun w_ o_ S_ => ?_, fun v40 => ?_⟩
      ·obtain rfl : v38 = .bool false := hsR S_ 38 rfl
       clear S_ o_
       go_wp2_with fail
       exact kso rfl rfl rfl
      simp only [Act.put, sbA, szA, ssA]
      refine ⟨fun w_ o_ S_ => ?_, fun v41 => ?_⟩
      ·obtain rfl : v38 = .bool false := hsR S_ 38 rfl
       clear S_ o_
       go_wp2_with fail
       exact kso rfl rfl rfl
      simp only [Act.put, sbA, szA, ssA]
      refine ⟨fun w_ o_ S_ => ?_, fun v42 => ?_⟩
      ·obtain rfl : v38 = .bool false := hsR S_ 38 rfl
       clear S_ o_
       go_wp2_with fail
       exact kso rfl rfl rfl
      simp only [Act.put, sbA, szA, ssA]
      refine ⟨fun w_ o_ S_ => ?_, fun v43 => ?_⟩
      ·obtain rfl : v33 = .bool false := hsR S_ 33 rfl
       obtain rfl : v38 = .bool false := hsR S_ 38 rfl
       obtain rfl : v42 = undef := hsR S_ 42 rfl
       clear S_ o_
       go_wp2_with fail
       exact kso rfl rfl rfl
      simp only [Act.put, sbA, szA, ssA]
      refine ⟨fun w_ o_ S_ => ?_, fun v44 => ?_⟩
      ·obtain rfl : v33 = .bool false := hsR S_ 33 rfl
       obtain rfl : v43 = .bool false := hsR S_ 43 rfl
       clear S_ o_
       go_wp2_with fail
       exact kso rfl rfl rfl
      simp only [Act.put, sbA, szA, ssA]
      refine ⟨fun w_ o_ S_ => ?_, fun v45 => ?_⟩
      ·obtain rfl : v44 = .bool false := hsR S_ 44 rfl
       clear S_ o_
       go_wp2_with fail
       exact kso rfl rfl rfl
      simp only [Act.put, sbA, szA, ssA]
      refine ⟨fun w_ o_ S_ => ?_, fun v46 => ?_⟩
      ·obtain rfl : v45 = .bool false := hsR S_ 45 rfl
       clear S_ o_
       go_wp2_with fail
       exact kso rfl rfl rfl
      simp only [Act.put, sbA, szA, ssA]
      refine ⟨fun w_ o_ S_ => ?_, fun v47 => ?_⟩
      ·obtain rfl : v45 = .bool false := hsR S_ 45 rfl
       obtain rfl : v46 = .pointer (some ⟨g1, 62, none⟩) := hsR S_ 46 rfl
       clear S_
       have H := kp (H.out.keep [0] (St := []) trivial o_ (by decide) (by kernel_rfl))
       have HOX := kp o_
       clear o_
       go_wp2_with ((with_reducible refine isLd 3 ?_); (refine L_f1 H rfl 3 _ rfl 0 rfl _ rfl _ rfl _ rfl Try.underlying3 rfl ?_); simp only [Act.put, sbA, szA, ssA])
       exact kso rfl rfl rfl
      simp only [Act.put, sbA, szA, ssA]
      refine ⟨fun w_ o_ S_ => ?_, fun v48 => ?_⟩
      ·obtain rfl : v45 = .bool false := hsR S_ 45 rfl
       clear S_ o_
       go_wp2_with fail
       exact kso rfl rfl rfl
      simp only [Act.put, sbA, szA, ssA]
      refine ⟨fun w_ o_ S_ => ?_, fun v49 => ?_⟩
      ·obtain rfl : v45 = .bool false := hsR S_ 45 rfl
       obtain rfl : v48 = .bool (idleB s) := hsR S_ 48 rfl
       clear S_ o_
       go_wp2_with fail
       exact kso rfl rfl rfl
      simp only [Act.put, sbA, szA, ssA]
      refine ⟨fun w_ o_ S_ => ?_, fun v50 => ?_⟩
      ·obtain rfl : v45 = .bool false := hsR S_ 45 rfl
       obtain rfl : v49 = .bool (!idleB s) := hsR S_ 49 rfl
       clear S_
       have H := kp (H.out.keep [0] (St := []) trivial o_ (by decide) (by kernel_rfl))
       have HOX := kp o_
       clear o_
       go_wp2_with fail
       refine (HON.out (!idleB s) _).mono ?_
       rintro e w2 ⟨rfl, rfl⟩
       go_wp2_with fail
       exact kso rfl rfl rfl
      simp only [Act.put, sbA, szA, ssA]
      refine ⟨fun w_ o_ S_ => ?_, fun v51 => ?_⟩
      ·obtain rfl : v45 = .bool false := hsR S_ 45 rfl
       obtain rfl : v47 = .int .i64 s.replay := hsR S_ 47 rfl
       obtain rfl : v50 = .int .i64 (oneI (!idleB s)) := hsR S_ 50 rfl
       clear S_
       have H := kp (H.out.keep [0] (St := []) trivial o_ (by decide) (by kernel_rfl))
       have HOX := kp o_
       clear o_
       go_wp2_with fail
       exact ⟨rfl, _, rfl, fun d hd => by cases hd; exact (congrArg Value.bool HX4.out), Ext.refl _⟩
      simp only [Act.put, sbA, szA, ssA]
      refine ⟨fun w_ o_ S_ => ?_, fun v52 => ?_⟩
      ·obtain rfl : v45 = .bool false := hsR S_ 45 rfl
       obtain rfl : v51 = .bool false := hsR S_ 51 rfl
       clear S_ o_
       go_wp2_with fail
       exact kso rfl rfl rfl
      simp only [Act.put, sbA, szA, ssA]
      refine ⟨fun w_ o_ S_ => ?_, fun v53 => ?_⟩
      ·obtain rfl : v52 = .bool false := hsR S_ 52 rfl
       clear S_ o_
       go_wp2_with fail
       exact kso rfl rfl rfl
      simp only [Act.put, sbA, szA, ssA]
      refine ⟨fun w_ o_ S_ => ?_, fun v54 => ?_⟩
      ·obtain rfl : v53 = .bool false := hsR S_ 53 rfl
       clear S_ o_
       go_wp2_with fail
       exact kso rfl rfl rfl
      simp only [Act.put, sbA, szA, ssA]
      refine ⟨fun w_ o_ S_ => ?_, fun v55 => ?_⟩
      ·obtain rfl : v53 = .bool false := hsR S_ 53 rfl
       obtain rfl : v54 = .pointer (some ⟨g1, 62, none⟩) := hsR S_ 54 rfl
       clear S_
       have H := kp (H.out.keep [0] (St := []) trivial o_ (by decide) (by kernel_rfl))
       have HOX := kp o_
       clear o_
       go_wp2_with ((with_reducible refine isLd 3 ?_); (refine L_f1 H rfl 3 _ rfl 0 rfl _ rfl _ rfl _ rfl Try.underlying3 rfl ?_); simp only [Act.put, sbA, szA, ssA])
       exact kso rfl rfl rfl
      simp only [Act.put, sbA, szA, ssA]
      refine ⟨fun w_ o_ S_ => ?_, fun v56 => ?_⟩
      ·obtain rfl : v53 = .bool false := hsR S_ 53 rfl
       clear S_ o_
       go_wp2_with fail
       exact kso rfl rfl rfl
      simp only [Act.put, sbA, szA, ssA]
      refine ⟨fun w_ o_ S_ => ?_, fun v57 => ?_⟩
      ·obtain rfl : v53 = .bool false := hsR S_ 53 rfl
       obtain rfl : v56 = .bool (idleB s) := hsR S_ 56 rfl
       clear S_ o_
       go_wp2_with fail
       exact kso rfl rfl rfl
      simp only [Act.put, sbA, szA, ssA]
      refine ⟨fun w_ o_ S_ => ?_, fun v58 => ?_⟩
      ·obtain rfl : v53 = .bool false := hsR S_ 53 rfl
       obtain rfl : v57 = .bool (!idleB s) := hsR S_ 57 rfl
       clear S_
       have H := kp (H.out.keep [0] (St := []) trivial o_ (by decide) (by kernel_rfl))
       have HOX := kp o_
       clear o_
       go_wp2_with fail
       refine (HON.out (!idleB s) _).mono ?_
       rintro e w2 ⟨rfl, rfl⟩
       go_wp2_with fail
       exact kso rfl rfl rfl
      simp only [Act.put, sbA, szA, ssA]
      refine ⟨fun w_ o_ S_ => ?_, fun v59 => ?_⟩
      ·obtain rfl : v53 = .bool false := hsR S_ 53 rfl
       obtain rfl : v58 = .int .i64 (oneI (!idleB s)) := hsR S_ 58 rfl
       clear S_ o_
       go_wp2_with fail
       exact ⟨rfl, _, rfl, fun d hd => by cases hd; exact (congrArg (Value.int .i64) (HW8.out (!idleB s))), Ext.refl _⟩
      simp only [Act.put, sbA, szA, ssA]
      refine ⟨fun w_ o_ S_ => ?_, fun v60 => ?_⟩
      ·obtain rfl : v53 = .bool false := hsR S_ 53 rfl
       obtain rfl : v55 = .int .i64 s.replay := hsR S_ 55 rfl
       obtain rfl : v59 = .int .i64 (8 * oneI (!idleB s)) := hsR S_ 59 rfl
       clear S_ o_
       go_wp2_with fail
       exact kso rfl rfl rfl
      simp only [Act.put, sbA, szA, ssA]
      refine ⟨fun w_ o_ S_ => ?_, fun v61 => ?_⟩
      ·obtain rfl : v53 = .bool false := hsR S_ 53 rfl
       obtain rfl : v60 = .bool (decide (8 * oneI (!idleB s) < s.replay)) := hsR S_ 60 rfl
       clear S_ o_
       go_wp2_with fail
       exact kso rfl rfl rfl
      simp only [Act.put, sbA, szA, ssA]
      clear H
      intro w4 HOX H hfin
      obtain rfl : v25 = .pointer (some ⟨g1, 1, none⟩) := hfin 25 (by decide)
      obtain rfl : v26 = .int .u8 s.stage := hfin 26 (by decide)
      obtain rfl : v27 = .bool false := hfin 27 (by decide)
      obtain rfl : v28 = .bool false := hfin 28 (by decide)
      obtain rfl : v29 = .pointer (some ⟨g1, 1, none⟩) := hfin 29 (by decide)
      obtain rfl : v30 = .int .u8 s.stage := hfin 30 (by decide)
      obtain rfl : v31 = .bool false := hfin 31 (by decide)
      obtain rfl : v32 = .bool false := hfin 32 (by decide)
      obtain rfl : v33 = .bool false := hfin 33 (by decide)
      obtain rfl : v34 = .pointer (some ⟨g1, 113, none⟩) := hfin 34 (by decide)
      obtain rfl : v35 = .pointer (some ⟨g1, 113, none⟩) := hfin 35 (by decide)
      obtain rfl : v36 = .int .i64 s.gid := hfin 36 (by decide)
      obtain rfl : v37 = .bool false := hfin 37 (by decide)
      obtain rfl : v38 = .bool false := hfin 38 (by decide)
      obtain rfl : v39 = undef := hfin 39 (by decide)
      obtain rfl : v40 = undef := hfin 40 (by decide)
      obtain rfl : v41 = undef := hfin 41 (by decide)
      obtain rfl : v42 = undef := hfin 42 (by decide)
      obtain rfl : v43 = .bool false := hfin 43 (by decide)
      obtain rfl : v44 = .bool false := hfin 44 (by decide)
      obtain rfl : v45 = .bool false := hfin 45 (by decide)
      obtain rfl : v46 = .pointer (some ⟨g1, 62, none⟩) := hfin 46 (by decide)
      obtain rfl : v47 = .int .i64 s.replay := hfin 47 (by decide)
      obtain rfl : v48 = .bool (idleB s) := hfin 48 (by decide)
      obtain rfl : v49 = .bool (!idleB s) := hfin 49 (by decide)
      obtain rfl : v50 = .int .i64 (oneI (!idleB s)) := hfin 50 (by decide)
      obtain rfl : v51 = .bool false := hfin 51 (by decide)
      obtain rfl : v52 = .bool false := hfin 52 (by decide)
      obtain rfl : v53 = .bool false := hfin 53 (by decide)
      obtain rfl : v54 = .pointer (some ⟨g1, 62, none⟩) := hfin 54 (by decide)
      obtain rfl : v55 = .int .i64 s.replay := hfin 55 (by decide)
      obtain rfl : v56 = .bool (idleB s) := hfin 56 (by decide)
      obtain rfl : v57 = .bool (!idleB s) := hfin 57 (by decide)
      obtain rfl : v58 = .int .i64 (oneI (!idleB s)) := hfin 58 (by decide)
      obtain rfl : v59 = .int .i64 (8 * oneI (!idleB s)) := hfin 59 (by decide)
      obtain rfl : v60 = .bool (decide (8 * oneI (!idleB s) < s.replay)) := hfin 60 (by decide)
      obtain rfl : v61 = .bool (decide (8 * oneI (!idleB s) < s.replay)) := hfin 61 (by decide)
      clear hfin
      simp only [List.drop_succ_cons, List.drop_zero]
      simp only [applyS] at H
      have HXN := kp (HOX.out.ext (Ext.refl w3) (fun g hg => by cases hg))
      go_wp2_with fail
      exact CutP.of rfl (by kernel_rfl) ⟨H, by show Value.bool _ = Value.bool _; simp [badA1, gidB, HX1.out, HX2.out, HX3.out, HX4.out]⟩
    | false =>
     have HX3 := kp hx3
     clear hx3
     cases hx5 : (s.gid == 3) with
     | true =>
      have HX5 := kp hx5
      clear hx5
      cases hx6 : (decide (s.replay < (oneI (!idleB s)))) with
      | true =>
       have HX6 := kp hx6
       clear hx6
       refine region_free H (tabS [(25, fun vQ _ => vQ = .pointer (some ⟨g1, 1, none⟩)), (26, fun vQ _ => vQ = .int .u8 s.stage), (27, fun vQ _ => vQ = .bool false), (28, fun vQ _ => vQ = .bool false), (29, fun vQ _ => vQ = .pointer (some ⟨g1, 1, none⟩)), (30, fun vQ _ => vQ = .int .u8 s.stage), (31, fun vQ _ => vQ = .bool false), (32, fun vQ _ => vQ = .bool false), (33, fun vQ _ => vQ = .bool false), (34, fun vQ _ => vQ = .pointer (some ⟨g1, 113, none⟩)), (35, fun vQ _ => vQ = .pointer (some ⟨g1, 113, none⟩)), (36, fun vQ _ => vQ = .int .i64 s.gid), (37, fun vQ _ => vQ = .bool true), (38, fun vQ _ => vQ = .bool true), (39, fun vQ _ => vQ = .pointer (some ⟨g1, 113, none⟩)), (40, fun vQ _ => vQ = .pointer (some ⟨g1, 113, none⟩)), (41, fun vQ _ => vQ = .int .i64 s.gid), (42, fun vQ _ => vQ = .bool false), (43, fun vQ _ => vQ = .bool false), (44, fun vQ _ => vQ = .bool false), (45, fun vQ _ => vQ = .bool false), (46, fun vQ _ => vQ = .pointer (some ⟨g1, 62, none⟩)), (47, fun vQ _ => vQ = .int .i64 s.replay), (48, fun vQ _ => vQ = .bool (idleB s)), (49, fun vQ _ => vQ = .bool (!idleB s)), (50, fun vQ _ => vQ = .int .i64 (oneI (!idleB s))), (51, fun vQ _ => vQ = .bool true), (52, fun vQ _ => vQ = .bool true), (53, fun vQ _ => vQ = .bool true), (54, fun vQ _ => vQ = undef), (55, fun vQ _ => vQ = undef), (56, fun vQ _ => vQ = undef), (57, fun vQ _ => vQ = undef), (58, fun vQ _ => vQ = undef), (59, fun vQ _ => vQ = undef), (60, fun vQ _ => vQ = undef), (61, fun vQ _ => vQ = .bool true)]) [] (tabS_out _ _ (by simp only [List.forall_mem_cons]; exact ⟨mono_eqO _ _, mono_eqO _ _, mono_eqO _ _, mono_eqO _ _, mono_eqO _ _, mono_eqO _ _, mono_eqO _ _, mono_eqO _ _, mono_eqO _ _, mono_eqO _ _, mono_eqO _ _, mono_eqO _ _, mono_eqO _ _, mono_eqO _ _, mono_eqO _ _, mono_eqO _ _, mono_eqO _ _, mono_eqO _ _, mono_eqO _ _, mono_eqO _ _, mono_eqO _ _, mono_eqO _ _, mono_eqO _ _, mono_eqO _ _, mono_eqO _ _, mono_eqO _ _, mono_eqO _ _, mono_eqO _ _, mono_eqO _ _, mono_eqO _ _, mono_eqO _ _, mono_eqO _ _, mono_eqO _ _, mono_eqO _ _, mono_eqO _ _, mono_eqO _ _, mono_eqO _ _, by simp⟩)) 37 (by kernel_rfl) (by kernel_rfl) (by kernel_rfl) (by kernel_rfl) [] [] rfl rfl (by decide) (by decide) (by decide) trivial ?_
       simp only [List.take_succ_cons, List.take_zero]
       refine ⟨fun w_ o_ S_ => ?_, fun v25 => ?_⟩
       ·clear S_
        clear o_
        go_wp2_with fail
        exact kso rfl rfl rfl
       simp only [Act.put, sbA, szA, ssA]
       refine ⟨fun w_ o_ S_ => ?_, fun v26 => ?_⟩
       ·obtain rfl : v25 = .pointer (some ⟨g1, 1, none⟩) := hsR S_ 25 rfl
        clear S_
        have H := kp (H.out.keep [0] (St := []) trivial o_ (by decide) (by kernel_rfl))
        have HOX := kp o_
        clear o_
        go_wp2_with ((with_reducible refine isLd 5 ?_); (refine L_f1 H rfl 5 _ rfl 0 rfl _ rfl _ rfl _ rfl Try.underlying5 rfl ?_); simp only [Act.put, sbA, szA, ssA])
        exact kso rfl rfl rfl
       simp only [Act.put, sbA, szA, ssA]
       refine ⟨fun w_ o_ S_ => ?_, fun v27 => ?_⟩
       ·obtain rfl : v26 = .int .u8 s.stage := hsR S_ 26 rfl
        clear S_
        have H := kp (H.out.keep [0] (St := []) trivial o_ (by decide) (by kernel_rfl))
        have HOX := kp o_
        clear o_
        go_wp2_with fail
        exact ⟨rfl, _, rfl, fun d hd => by cases hd; exact (congrArg Value.bool HX1.out), Ext.refl _⟩
       simp only [Act.put, sbA, szA, ssA]
       refine ⟨fun w_ o_ S_ => ?_, fun v28 => ?_⟩
       ·obtain rfl : v27 = .bool false := hsR S_ 27 rfl
        clear S_ o_
        go_wp2_with fail
        exact kso rfl rfl rfl
       simp only [Act.put, sbA, szA, ssA]
       refine ⟨fun w_ o_ S_ => ?_, fun v29 => ?_⟩
       ·obtain rfl : v28 = .bool false := hsR S_ 28 rfl
        clear S_ o_
        go_wp2_with fail
        exact kso rfl rfl rfl
       simp only [Act.put, sbA, szA, ssA]
       refine ⟨fun w_ o_ S_ => ?_, fun v30 => ?_⟩
       ·obtain rfl : v28 = .bool false := hsR S_ 28 rfl
        obtain rfl : v29 = .pointer (some ⟨g1, 1, none⟩) := hsR S_ 29 rfl
        clear S_
        have H := kp (H.out.keep [0] (St := []) trivial o_ (by decide) (by kernel_rfl))
        have HOX := kp o_
        clear o_
        go_wp2_with ((with_reducible refine isLd 5 ?_); (refine L_f1 H rfl 5 _ rfl 0 rfl _ rfl _ rfl _ rfl Try.underlying5 rfl ?_); simp only [Act.put, sbA, szA, ssA])
        exact kso rfl rfl rfl
       simp only [Act.put, sbA, szA, ssA]
       refine ⟨fun w_ o_ S_ => ?_, fun v31 => ?_⟩
       ·obtain rfl : v28 = .bool false := hsR S_ 28 rfl
        obtain rfl : v30 = .int .u8 s.stage := hsR S_ 30 rfl
        clear S_
        have H := kp (H.out.keep [0] (St := []) trivial o_ (by decide) (by kernel_rfl))
        have HOX := kp o_
        clear o_
        go_wp2_with fail
        exact ⟨rfl, _, rfl, fun d hd => by cases hd; exact (congrArg Value.bool HX2.out), Ext.refl _⟩
       simp only [Act.put, sbA, szA, ssA]
       refine ⟨fun w_ o_ S_ => ?_, fun v32 => ?_⟩
       ·obtain rfl : v28 = .bool false := hsR S_ 28 rfl
        obtain rfl : v31 = .bool false := hsR S_ 31 rfl
        clear S_ o_
        go_wp2_with fail
        exact kso rfl rfl rfl
       simp only [Act.put, sbA, szA, ssA]
       refine ⟨fun w_ o_ S_ => ?_, fun v33 => ?_⟩
       ·obtain rfl : v32 = .bool false := hsR S_ 32 rfl
        clear S_ o_
        go_wp2_with fail
        exact kso rfl rfl rfl
       simp only [Act.put, sbA, szA, ssA]
       refine ⟨fun w_ o_ S_ => ?_, fun v34 => ?_⟩
       ·obtain rfl : v33 = .bool false := hsR S_ 33 rfl
        clear S_ o_
        go_wp2_with fail
        exact kso rfl rfl rfl
       simp only [Act.put, sbA, szA, ssA]
       refine ⟨fun w_ o_ S_ => ?_, fun v35 => ?_⟩
       ·obtain rfl : v33 = .bool false := hsR S_ 33 rfl
        obtain rfl : v34 = .pointer (some ⟨g1, 113, none⟩) := hsR S_ 34 rfl
        clear S_ o_
        go_wp2_with fail
        exact kso rfl rfl rfl
       simp only [Act.put, sbA, szA, ssA]
       refine ⟨fun w_ o_ S_ => ?_, fun v36 => ?_⟩
       ·obtain rfl : v33 = .bool false := hsR S_ 33 rfl
        obtain rfl : v35 = .pointer (some ⟨g1, 113, none⟩) := hsR S_ 35 rfl
        clear S_
        have H := kp (H.out.keep [0] (St := []) trivial o_ (by decide) (by kernel_rfl))
        have HOX := kp o_
        clear o_
        go_wp2_with ((with_reducible refine isLd 3 ?_); (refine L_f1 H rfl 3 _ rfl 0 rfl _ rfl _ rfl _ rfl Try.underlying3 rfl ?_); simp only [Act.put, sbA, szA, ssA])
        exact kso rfl rfl rfl
       simp only [Act.put, sbA, szA, ssA]
       refine ⟨fun w_ o_ S_ => ?_, fun v37 => ?_⟩
       ·obtain rfl : v33 = .bool false := hsR S_ 33 rfl
        obtain rfl : v36 = .int .i64 s.gid := hsR S_ 36 rfl
        clear S_
        have H := kp (H.out.keep [0] (St := []) trivial o_ (by decide) (by kernel_rfl))
        have HOX := kp o_
        clear o_
        go_wp2_with fail
        exact ⟨rfl, _, rfl, fun d hd => by cases hd; exact (congrArg Value.bool (congrArg not HX3.out)), Ext.refl _⟩
       simp only [Act.put, sbA, szA, ssA]
       refine ⟨fun w_ o_ S_ => ?_, fun v38 => ?_⟩
       ·obtain rfl : v33 = .bool false := hsR S_ 33 rfl
        obtain rfl : v37 = .bool true := hsR S_ 37 rfl
        clear S_ o_
        go_wp2_with fail
        exact kso rfl rfl rfl
       simp only [Act.put, sbA, szA, ssA]
       refine ⟨fun w_ o_ S_ => ?_, fun v39 => ?_⟩
       ·obtain rfl : v38 = .bool true := hsR S_ 38 rfl
        clear S_ o_
        go_wp2_with fail
        exact kso rfl rfl rfl
       simp only [Act.put, sbA, szA, ssA]
       refine ⟨fun w_ o_ S_ => ?_, fun v40 => ?_⟩
       ·obtain rfl : v38 = .bool true := hsR S_ 38 rfl
        obtain rfl : v39 = .pointer (some ⟨g1, 113, none⟩) := hsR S_ 39 rfl
        clear S_ o_
        go_wp2_with fail
        exact kso rfl rfl rfl
       simp only [Act.put, sbA, szA, ssA]
       refine ⟨fun w_ o_ S_ => ?_, fun v41 => ?_⟩
       ·obtain rfl : v38 = .bool true := hsR S_ 38 rfl
        obtain rfl : v40 = .pointer (some ⟨g1, 113, none⟩) := hsR S_ 40 rfl
        clear S_
        have H := kp (H.out.keep [0] (St := []) trivial o_ (by decide) (by kernel_rfl))
        have HOX := kp o_
        clear o_
        go_wp2_with ((with_reducible refine isLd 3 ?_); (refine L_f1 H rfl 3 _ rfl 0 rfl _ rfl _ rfl _ rfl Try.underlying3 rfl ?_); simp only [Act.put, sbA, szA, ssA])
        exact kso rfl rfl rfl
       simp only [Act.put, sbA, szA, ssA]
       refine ⟨fun w_ o_ S_ => ?_, fun v42 => ?_⟩
       ·obtain rfl : v38 = .bool true := hsR S_ 38 rfl
        obtain rfl : v41 = .int .i64 s.gid := hsR S_ 41 rfl
        clear S_
        have H := kp (H.out.keep [0] (St := []) trivial o_ (by decide) (by kernel_rfl))
        have HOX := kp o_
        clear o_
        go_wp2_with fail
        exact ⟨rfl, _, rfl, fun d hd => by cases hd; exact (congrArg Value.bool (congrArg not HX5.out)), Ext.refl _⟩
       simp only [Act.put, sbA, szA, ssA]
       refine ⟨fun w_ o_ S_ => ?_, fun v43 => ?_⟩
       ·obtain rfl : v33 = .bool false := hsR S_ 33 rfl
        obtain rfl : v38 = .bool true := hsR S_ 38 rfl
        obtain rfl : v42 = .bool false := hsR S_ 42 rfl
        clear S_ o_
        go_wp2_with fail
        exact kso rfl rfl rfl
       simp only [Act.put, sbA, szA, ssA]
       refine ⟨fun w_ o_ S_ => ?_, fun v44 => ?_⟩
       ·obtain rfl : v33 = .bool false := hsR S_ 33 rfl
        obtain rfl : v43 = .bool false := hsR S_ 43 rfl
        clear S_ o_
        go_wp2_with fail
        exact kso rfl rfl rfl
       simp only [Act.put, sbA, szA, ssA]
       refine ⟨fun w_ o_ S_ => ?_, fun v45 => ?_⟩
       ·obtain rfl : v44 = .bool false := hsR S_ 44 rfl
        clear S_ o_
        go_wp2_with fail
        exact kso rfl rfl rfl
       simp only [Act.put, sbA, szA, ssA]
       refine ⟨fun w_ o_ S_ => ?_, fun v46 => ?_⟩
       ·obtain rfl : v45 = .bool false := hsR S_ 45 rfl
        clear S_ o_
        go_wp2_with fail
        exact kso rfl rfl rfl
       simp only [Act.put, sbA, szA, ssA]
       refine ⟨fun w_ o_ S_ => ?_, fun v47 => ?_⟩
       ·obtain rfl : v45 = .bool false := hsR S_ 45 rfl
        obtain rfl : v46 = .pointer (some ⟨g1, 62, none⟩) := hsR S_ 46 rfl
        clear S_
        have H := kp (H.out.keep [0] (St := []) trivial o_ (by decide) (by kernel_rfl))
        have HOX := kp o_
        clear o_
        go_wp2_with ((with_reducible refine isLd 3 ?_); (refine L_f1 H rfl 3 _ rfl 0 rfl _ rfl _ rfl _ rfl Try.underlying3 rfl ?_); simp only [Act.put, sbA, szA, ssA])
        exact kso rfl rfl rfl
       simp only [Act.put, sbA, szA, ssA]
       refine ⟨fun w_ o_ S_ => ?_, fun v48 => ?_⟩
       ·obtain rfl : v45 = .bool false := hsR S_ 45 rfl
        clear S_ o_
        go_wp2_with fail
        exact kso rfl rfl rfl
       simp only [Act.put, sbA, szA, ssA]
       refine ⟨fun w_ o_ S_ => ?_, fun v49 => ?_⟩
       ·obtain rfl : v45 = .bool false := hsR S_ 45 rfl
        obtain rfl : v48 = .bool (idleB s) := hsR S_ 48 rfl
        clear S_ o_
        go_wp2_with fail
        exact kso rfl rfl rfl
       simp only [Act.put, sbA, szA, ssA]
       refine ⟨fun w_ o_ S_ => ?_, fun v50 => ?_⟩
       ·obtain rfl : v45 = .bool false := hsR S_ 45 rfl
        obtain rfl : v49 = .bool (!idleB s) := hsR S_ 49 rfl
        clear S_
        have H := kp (H.out.keep [0] (St := []) trivial o_ (by decide) (by kernel_rfl))
        have HOX := kp o_
        clear o_
        go_wp2_with fail
        refine (HON.out (!idleB s) _).mono ?_
        rintro e w2 ⟨rfl, rfl⟩
        go_wp2_with fail
        exact kso rfl rfl rfl
       simp only [Act.put, sbA, szA, ssA]
       refine ⟨fun w_ o_ S_ => ?_, fun v51 => ?_⟩
       ·obtain rfl : v45 = .bool false := hsR S_ 45 rfl
        obtain rfl : v47 = .int .i64 s.replay := hsR S_ 47 rfl
        obtain rfl : v50 = .int .i64 (oneI (!idleB s)) := hsR S_ 50 rfl
        clear S_
        have H := kp (H.out.keep [0] (St := []) trivial o_ (by decide) (by kernel_rfl))
        have HOX := kp o_
        clear o_
        go_wp2_with fail
        exact ⟨rfl, _, rfl, fun d hd => by cases hd; exact (congrArg Value.bool HX6.out), Ext.refl _⟩
       simp only [Act.put, sbA, szA, ssA]
       refine ⟨fun w_ o_ S_ => ?_, fun v52 => ?_⟩
       ·obtain rfl : v45 = .bool false := hsR S_ 45 rfl
        obtain rfl : v51 = .bool true := hsR S_ 51 rfl
        clear S_ o_
        go_wp2_with fail
        exact kso rfl rfl rfl
       simp only [Act.put, sbA, szA, ssA]
       refine ⟨fun w_ o_ S_ => ?_, fun v53 => ?_⟩
       ·obtain rfl : v52 = .bool true := hsR S_ 52 rfl
        clear S_ o_
        go_wp2_with fail
        exact kso rfl rfl rfl
       simp only [Act.put, sbA, szA, ssA]
       refine ⟨fun w_ o_ S_ => ?_, fun v54 => ?_⟩
       ·obtain rfl : v53 = .bool true := hsR S_ 53 rfl
        clear S_ o_
        go_wp2_with fail
        exact kso rfl rfl rfl
       simp only [Act.put, sbA, szA, ssA]
       refine ⟨fun w_ o_ S_ => ?_, fun v55 => ?_⟩
       ·obtain rfl : v53 = .bool true := hsR S_ 53 rfl
        clear S_ o_
        go_wp2_with fail
        exact kso rfl rfl rfl
       simp only [Act.put, sbA, szA, ssA]
       refine ⟨fun w_ o_ S_ => ?_, fun v56 => ?_⟩
       ·obtain rfl : v53 = .bool true := hsR S_ 53 rfl
        clear S_ o_
        go_wp2_with fail
        exact kso rfl rfl rfl
       simp only [Act.put, sbA, szA, ssA]
       refine ⟨fun w_ o_ S_ => ?_, fun v57 => ?_⟩
       ·obtain rfl : v53 = .bool true := hsR S_ 53 rfl
        clear S_ o_
        go_wp2_with fail
        exact kso rfl rfl rfl
       simp only [Act.put, sbA, szA, ssA]
       refine ⟨fun w_ o_ S_ => ?_, fun v58 => ?_⟩
       ·obtain rfl : v53 = .bool true := hsR S_ 53 rfl
        clear S_ o_
        go_wp2_with fail
        exact kso rfl rfl rfl
       simp only [Act.put, sbA, szA, ssA]
       refine ⟨fun w_ o_ S_ => ?_, fun v59 => ?_⟩
       ·obtain rfl : v53 = .bool true := hsR S_ 53 rfl
        clear S_ o_
        go_wp2_with fail
        exact kso rfl rfl rfl
       simp only [Act.put, sbA, szA, ssA]
       refine ⟨fun w_ o_ S_ => ?_, fun v60 => ?_⟩
       ·obtain rfl : v53 = .bool true := hsR S_ 53 rfl
        clear S_ o_
        go_wp2_with fail
        exact kso rfl rfl rfl
       simp only [Act.put, sbA, szA, ssA]
       refine ⟨fun w_ o_ S_ => ?_, fun v61 => ?_⟩
       ·obtain rfl : v53 = .bool true := hsR S_ 53 rfl
        obtain rfl : v60 = undef := hsR S_ 60 rfl
        clear S_ o_
        go_wp2_with fail
        exact kso rfl rfl rfl
       simp only [Act.put, sbA, szA, ssA]
       clear H
       intro w4 HOX H hfin
       obtain rfl : v25 = .pointer (some ⟨g1, 1, none⟩) := hfin 25 (by decide)
       obtain rfl : v26 = .int .u8 s.stage := hfin 26 (by decide)
       obtain rfl : v27 = .bool false := hfin 27 (by decide)
       obtain rfl : v28 = .bool false := hfin 28 (by decide)
       obtain rfl : v29 = .pointer (some ⟨g1, 1, none⟩) := hfin 29 (by decide)
       obtain rfl : v30 = .int .u8 s.stage := hfin 30 (by decide)
       obtain rfl : v31 = .bool false := hfin 31 (by decide)
       obtain rfl : v32 = .bool false := hfin 32 (by decide)
       obtain rfl : v33 = .bool false := hfin 33 (by decide)
       obtain rfl : v34 = .pointer (some ⟨g1, 113, none⟩) := hfin 34 (by decide)
       obtain rfl : v35 = .pointer (some ⟨g1, 113, none⟩) := hfin 35 (by decide)
       obtain rfl : v36 = .int .i64 s.gid := hfin 36 (by decide)
       obtain rfl : v37 = .bool true := hfin 37 (by decide)
       obtain rfl : v38 = .bool true := hfin 38 (by decide)
       obtain rfl : v39 = .pointer (some ⟨g1, 113, none⟩) := hfin 39 (by decide)
       obtain rfl : v40 = .pointer (some ⟨g1, 113, none⟩) := hfin 40 (by decide)
       obtain rfl : v41 = .int .i64 s.gid := hfin 41 (by decide)
       obtain rfl : v42 = .bool false := hfin 42 (by decide)
       obtain rfl : v43 = .bool false := hfin 43 (by decide)
       obtain rfl : v44 = .bool false := hfin 44 (by decide)
       obtain rfl : v45 = .bool false := hfin 45 (by decide)
       obtain rfl : v46 = .pointer (some ⟨g1, 62, none⟩) := hfin 46 (by decide)
       obtain rfl : v47 = .int .i64 s.replay := hfin 47 (by decide)
       obtain rfl : v48 = .bool (idleB s) := hfin 48 (by decide)
       obtain rfl : v49 = .bool (!idleB s) := hfin 49 (by decide)
       obtain rfl : v50 = .int .i64 (oneI (!idleB s)) := hfin 50 (by decide)
       obtain rfl : v51 = .bool true := hfin 51 (by decide)
       obtain rfl : v52 = .bool true := hfin 52 (by decide)
       obtain rfl : v53 = .bool true := hfin 53 (by decide)
       obtain rfl : v54 = undef := hfin 54 (by decide)
       obtain rfl : v55 = undef := hfin 55 (by decide)
       obtain rfl : v56 = undef := hfin 56 (by decide)
       obtain rfl : v57 = undef := hfin 57 (by decide)
       obtain rfl : v58 = undef := hfin 58 (by decide)
       obtain rfl : v59 = undef := hfin 59 (by decide)
       obtain rfl : v60 = undef := hfin 60 (by decide)
       obtain rfl : v61 = .bool true := hfin 61 (by decide)
       clear hfin
       simp only [List.drop_succ_cons, List.drop_zero]
       simp only [applyS] at H
       have HXN := kp (HOX.out.ext (Ext.refl w3) (fun g hg => by cases hg))
       go_wp2_with fail
       exact CutP.of rfl (by kernel_rfl) ⟨H, by show Value.bool _ = Value.bool _; simp [badA1, gidB, HX1.out, HX2.out, HX3.out, HX5.out, HX6.out]⟩
      | false =>
       have HX6 := kp hx6
       clear hx6
       refine region_free H (tabS [(25, fun vQ _ => vQ = .pointer (some ⟨g1, 1, none⟩)), (26, fun vQ _ => vQ = .int .u8 s.stage), (27, fun vQ _ => vQ = .bool false), (28, fun vQ _ => vQ = .bool false), (29, fun vQ _ => vQ = .pointer (some ⟨g1, 1, none⟩)), (30, fun vQ _ => vQ = .int .u8 s.stage), (31, fun vQ _ => vQ = .bool false), (32, fun vQ _ => vQ = .bool false), (33, fun vQ _ => vQ = .bool false), (34, fun vQ _ => vQ = .pointer (some ⟨g1, 113, none⟩)), (35, fun vQ _ => vQ = .pointer (some ⟨g1, 113, none⟩)), (36, fun vQ _ => vQ = .int .i64 s.gid), (37, fun vQ _ => vQ = .bool true), (38, fun vQ _ => vQ = .bool true), (39, fun vQ _ => vQ = .pointer (some ⟨g1, 113, none⟩)), (40, fun vQ _ => vQ = .pointer (some ⟨g1, 113, none⟩)), (41, fun vQ _ => vQ = .int .i64 s.gid), (42, fun vQ _ => vQ = .bool false), (43, fun vQ _ => vQ = .bool false), (44, fun vQ _ => vQ = .bool false), (45, fun vQ _ => vQ = .bool false), (46, fun vQ _ => vQ = .pointer (some ⟨g1, 62, none⟩)), (47, fun vQ _ => vQ = .int .i64 s.replay), (48, fun vQ _ => vQ = .bool (idleB s)), (49, fun vQ _ => vQ = .bool (!idleB s)), (50, fun vQ _ => vQ = .int .i64 (oneI (!idleB s))), (51, fun vQ _ => vQ = .bool false), (52, fun vQ _ => vQ = .bool false), (53, fun vQ _ => vQ = .bool false), (54, fun vQ _ => vQ = .pointer (some ⟨g1, 62, none⟩)), (55, fun vQ _ => vQ = .int .i64 s.replay), (56, fun vQ _ => vQ = .bool (idleB s)), (57, fun vQ _ => vQ = .bool (!idleB s)), (58, fun vQ _ => vQ = .int .i64 (oneI (!idleB s))), (59, fun vQ _ => vQ = .int .i64 (8 * oneI (!idleB s))), (60, fun vQ _ => vQ = .bool (decide (8 * oneI (!idleB s) < s.replay))), (61, fun vQ _ => vQ = .bool (decide (8 * oneI (!idleB s) < s.replay)))]) [] (tabS_out _ _ (by simp only [List.forall_mem_cons]; exact ⟨mono_eqO _ _, mono_eqO _ _, mono_eqO _ _, mono_eqO _ _, mono_eqO _ _, mono_eqO _ _, mono_eqO _ _, mono_eqO _ _, mono_eqO _ _, mono_eqO _ _, mono_eqO _ _, mono_eqO _ _, mono_eqO _ _, mono_eqO _ _, mono_eqO _ _, mono_eqO _ _, mono_eqO _ _, mono_eqO _ _, mono_eqO _ _, mono_eqO _ _, mono_eqO _ _, mono_eqO _ _, mono_eqO _ _, mono_eqO _ _, mono_eqO _ _, mono_eqO _ _, mono_eqO _ _, mono_eqO _ _, mono_eqO _ _, mono_eqO _ _, mono_eqO _ _, mono_eqO _ _, mono_eqO _ _, mono_eqO _ _, mono_eqO _ _, mono_eqO _ _, mono_eqO _ _, by simp⟩)) 37 (by kernel_rfl) (by kernel_rfl) (by kernel_rfl) (by kernel_rfl) [] [] rfl rfl (by decide) (by decide) (by decide) trivial ?_
       simp only [List.take_succ_cons, List.take_zero]
       refine ⟨fun w_ o_ S_ => ?_, fun v25 => ?_⟩
       ·clear S_
        clear o_
        go_wp2_with fail
        exact kso rfl rfl rfl
       simp only [Act.put, sbA, szA, ssA]
       refine ⟨fun w_ o_ S_ => ?_, fun v26 => ?_⟩
       ·obtain rfl : v25 = .pointer (some ⟨g1, 1, none⟩) := hsR S_ 25 rfl
        clear S_
        have H := kp (H.out.keep [0] (St := []) trivial o_ (by decide) (by kernel_rfl))
        have HOX := kp o_
        clear o_
        go_wp2_with ((with_reducible refine isLd 5 ?_); (refine L_f1 H rfl 5 _ rfl 0 rfl _ rfl _ rfl _ rfl Try.underlying5 rfl ?_); simp only [Act.put, sbA, szA, ssA])
        exact kso rfl rfl rfl
       simp only [Act.put, sbA, szA, ssA]
       refine ⟨fun w_ o_ S_ => ?_, fun v27 => ?_⟩
       ·obtain rfl : v26 = .int .u8 s.stage := hsR S_ 26 rfl
        clear S_
        have H := kp (H.out.keep [0] (St := []) trivial o_ (by decide) (by kernel_rfl))
        have HOX := kp o_
        clear o_
        go_wp2_with fail
        exact ⟨rfl, _, rfl, fun d hd => by cases hd; exact (congrArg Value.bool HX1.out), Ext.refl _⟩
       simp only [Act.put, sbA, szA, ssA]
       refine ⟨fun w_ o_ S_ => ?_, fun v28 => ?_⟩
       ·obtain rfl : v27 = .bool false := hsR S_ 27 rfl
        clear S_ o_
        go_wp2_with fail
        exact kso rfl rfl rfl
       simp only [Act.put, sbA, szA, ssA]
       refine ⟨fun w_ o_ S_ => ?_, fun v29 => ?_⟩
       ·obtain rfl : v28 = .bool false := hsR S_ 28 rfl
        clear S_ o_
        go_wp2_with fail
        exact kso rfl rfl rfl
       simp only [Act.put, sbA, szA, ssA]
       refine ⟨fun w_ o_ S_ => ?_, fun v30 => ?_⟩
       ·obtain rfl : v28 = .bool false := hsR S_ 28 rfl
        obtain rfl : v29 = .pointer (some ⟨g1, 1, none⟩) := hsR S_ 29 rfl
        clear S_
        have H := kp (H.out.keep [0] (St := []) trivial o_ (by decide) (by kernel_rfl))
        have HOX := kp o_
        clear o_
        go_wp2_with ((with_reducible refine isLd 5 ?_); (refine L_f1 H rfl 5 _ rfl 0 rfl _ rfl _ rfl _ rfl Try.underlying5 rfl ?_); simp only [Act.put, sbA, szA, ssA])
        exact kso rfl rfl rfl
       simp only [Act.put, sbA, szA, ssA]
       refine ⟨fun w_ o_ S_ => ?_, fun v31 => ?_⟩
       ·obtain rfl : v28 = .bool false := hsR S_ 28 rfl
        obtain rfl : v30 = .int .u8 s.stage := hsR S_ 30 rfl
        clear S_
        have H := kp (H.out.keep [0] (St := []) trivial o_ (by decide) (by kernel_rfl))
        have HOX := kp o_
        clear o_
        go_wp2_with fail
        exact ⟨rfl, _, rfl, fun d hd => by cases hd; exact (congrArg Value.bool HX2.out), Ext.refl _⟩
       simp only [Act.put, sbA, szA, ssA]
       refine ⟨fun w_ o_ S_ => ?_, fun v32 => ?_⟩
       ·obtain rfl : v28 = .bool false := hsR S_ 28 rfl
        obtain rfl : v31 = .bool false := hsR S_ 31 rfl
        clear S_ o_
        go_wp2_with fail
        exact kso rfl rfl rfl
       simp only [Act.put, sbA, szA, ssA]
       refine ⟨fun w_ o_ S_ => ?_, fun v33 => ?_⟩
       ·obtain rfl : v32 = .bool false := hsR S_ 32 rfl
        clear S_ o_
        go_wp2_with fail
        exact kso rfl rfl rfl
       simp only [Act.put, sbA, szA, ssA]
       refine ⟨fun w_ o_ S_ => ?_, fun v34 => ?_⟩
       ·obtain rfl : v33 = .bool false := hsR S_ 33 rfl
        clear S_ o_
        go_wp2_with fail
        exact kso rfl rfl rfl
       simp only [Act.put, sbA, szA, ssA]
       refine ⟨fun w_ o_ S_ => ?_, fun v35 => ?_⟩
       ·obtain rfl : v33 = .bool false := hsR S_ 33 rfl
        obtain rfl : v34 = .pointer (some ⟨g1, 113, none⟩) := hsR S_ 34 rfl
        clear S_ o_
        go_wp2_with fail
        exact kso rfl rfl rfl
       simp only [Act.put, sbA, szA, ssA]
       refine ⟨fun w_ o_ S_ => ?_, fun v36 => ?_⟩
       ·obtain rfl : v33 = .bool false := hsR S_ 33 rfl
        obtain rfl : v35 = .pointer (some ⟨g1, 113, none⟩) := hsR S_ 35 rfl
        clear S_
        have H := kp (H.out.keep [0] (St := []) trivial o_ (by decide) (by kernel_rfl))
        have HOX := kp o_
        clear o_
        go_wp2_with ((with_reducible refine isLd 3 ?_); (refine L_f1 H rfl 3 _ rfl 0 rfl _ rfl _ rfl _ rfl Try.underlying3 rfl ?_); simp only [Act.put, sbA, szA, ssA])
        exact kso rfl rfl rfl
       simp only [Act.put, sbA, szA, ssA]
       refine ⟨fun w_ o_ S_ => ?_, fun v37 => ?_⟩
       ·obtain rfl : v33 = .bool false := hsR S_ 33 rfl
        obtain rfl : v36 = .int .i64 s.gid := hsR S_ 36 rfl
        clear S_
        have H := kp (H.out.keep [0] (St := []) trivial o_ (by decide) (by kernel_rfl))
        have HOX := kp o_
        clear o_
        go_wp2_with fail
        exact ⟨rfl, _, rfl, fun d hd => by cases hd; exact (congrArg Value.bool (congrArg not HX3.out)), Ext.refl _⟩
       simp only [Act.put, sbA, szA, ssA]
       refine ⟨fun w_ o_ S_ => ?_, fun v38 => ?_⟩
       ·obtain rfl : v33 = .bool false := hsR S_ 33 rfl
        obtain rfl : v37 = .bool true := hsR S_ 37 rfl
        clear S_ o_
        go_wp2_with fail
        exact kso rfl rfl rfl
       simp only [Act.put, sbA, szA, ssA]
       refine ⟨fun w_ o_ S_ => ?_, fun v39 => ?_⟩
       ·obtain rfl : v38 = .bool true := hsR S_ 38 rfl
        clear S_ o_
        go_wp2_with fail
        exact kso rfl rfl rfl
       simp only [Act.put, sbA, szA, ssA]
       refine ⟨fun w_ o_ S_ => ?_, fun v40 => ?_⟩
       ·obtain rfl : v38 = .bool true := hsR S_ 38 rfl
        obtain rfl : v39 = .pointer (some ⟨g1, 113, none⟩) := hsR S_ 39 rfl
        clear S_ o_
        go_wp2_with fail
        exact kso rfl rfl rfl
       simp only [Act.put, sbA, szA, ssA]
       refine ⟨fun w_ o_ S_ => ?_, fun v41 => ?_⟩
       ·obtain rfl : v38 = .bool true := hsR S_ 38 rfl
        obtain rfl : v40 = .pointer (some ⟨g1, 113, none⟩) := hsR S_ 40 rfl
        clear S_
        have H := kp (H.out.keep [0] (St := []) trivial o_ (by decide) (by kernel_rfl))
        have HOX := kp o_
        clear o_
        go_wp2_with ((with_reducible refine isLd 3 ?_); (refine L_f1 H rfl 3 _ rfl 0 rfl _ rfl _ rfl _ rfl Try.underlying3 rfl ?_); simp only [Act.put, sbA, szA, ssA])
        exact kso rfl rfl rfl
       simp only [Act.put, sbA, szA, ssA]
       refine ⟨fun w_ o_ S_ => ?_, fun v42 => ?_⟩
       ·obtain rfl : v38 = .bool true := hsR S_ 38 rfl
        obtain rfl : v41 = .int .i64 s.gid := hsR S_ 41 rfl
        clear S_
        have H := kp (H.out.keep [0] (St := []) trivial o_ (by decide) (by kernel_rfl))
        have HOX := kp o_
        clear o_
        go_wp2_with fail
        exact ⟨rfl, _, rfl, fun d hd => by cases hd; exact (congrArg Value.bool (congrArg not HX5.out)), Ext.refl _⟩
       simp only [Act.put, sbA, szA, ssA]
       refine ⟨fun w_ o_ S_ => ?_, fun v43 => ?_⟩
       ·obtain rfl : v33 = .bool false := hsR S_ 33 rfl
        obtain rfl : v38 = .bool true := hsR S_ 38 rfl
        obtain rfl : v42 = .bool false := hsR S_ 42 rfl
        clear S_ o_
        go_wp2_with fail
        exact kso rfl rfl rfl
       simp only [Act.put, sbA, szA, ssA]
       refine ⟨fun w_ o_ S_ => ?_, fun v44 => ?_⟩
       ·obtain rfl : v33 = .bool false := hsR S_ 33 rfl
        obtain rfl : v43 = .bool false := hsR S_ 43 rfl
        clear S_ o_
        go_wp2_with fail
        exact kso rfl rfl rfl
       simp only [Act.put, sbA, szA, ssA]
       refine ⟨fun w_ o_ S_ => ?_, fun v45 => ?_⟩
       ·obtain rfl : v44 = .bool false := hsR S_ 44 rfl
        clear S_ o_
        go_wp2_with fail
        exact kso rfl rfl rfl
       simp only [Act.put, sbA, szA, ssA]
       refine ⟨fun w_ o_ S_ => ?_, fun v46 => ?_⟩
       ·obtain rfl : v45 = .bool false := hsR S_ 45 rfl
        clear S_ o_
        go_wp2_with fail
        exact kso rfl rfl rfl
       simp only [Act.put, sbA, szA, ssA]
       refine ⟨fun w_ o_ S_ => ?_, fun v47 => ?_⟩
       ·obtain rfl : v45 = .bool false := hsR S_ 45 rfl
        obtain rfl : v46 = .pointer (some ⟨g1, 62, none⟩) := hsR S_ 46 rfl
        clear S_
        have H := kp (H.out.keep [0] (St := []) trivial o_ (by decide) (by kernel_rfl))
        have HOX := kp o_
        clear o_
        go_wp2_with ((with_reducible refine isLd 3 ?_); (refine L_f1 H rfl 3 _ rfl 0 rfl _ rfl _ rfl _ rfl Try.underlying3 rfl ?_); simp only [Act.put, sbA, szA, ssA])
        exact kso rfl rfl rfl
       simp only [Act.put, sbA, szA, ssA]
       refine ⟨fun w_ o_ S_ => ?_, fun v48 => ?_⟩
       ·obtain rfl : v45 = .bool false := hsR S_ 45 rfl
        clear S_ o_
        go_wp2_with fail
        exact kso rfl rfl rfl
       simp only [Act.put, sbA, szA, ssA]
       refine ⟨fun w_ o_ S_ => ?_, fun v49 => ?_⟩
       ·obtain rfl : v45 = .bool false := hsR S_ 45 rfl
        obtain rfl : v48 = .bool (idleB s) := hsR S_ 48 rfl
        clear S_ o_
        go_wp2_with fail
        exact kso rfl rfl rfl
       simp only [Act.put, sbA, szA, ssA]
       refine ⟨fun w_ o_ S_ => ?_, fun v50 => ?_⟩
       ·obtain rfl : v45 = .bool false := hsR S_ 45 rfl
        obtain rfl : v49 = .bool (!idleB s) := hsR S_ 49 rfl
        clear S_
        have H := kp (H.out.keep [0] (St := []) trivial o_ (by decide) (by kernel_rfl))
        have HOX := kp o_
        clear o_
        go_wp2_with fail
        refine (HON.out (!idleB s) _).mono ?_
        rintro e w2 ⟨rfl, rfl⟩
        go_wp2_with fail
        exact kso rfl rfl rfl
       simp only [Act.put, sbA, szA, ssA]
       refine ⟨fun w_ o_ S_ => ?_, fun v51 => ?_⟩
       ·obtain rfl : v45 = .bool false := hsR S_ 45 rfl
        obtain rfl : v47 = .int .i64 s.replay := hsR S_ 47 rfl
        obtain rfl : v50 = .int .i64 (oneI (!idleB s)) := hsR S_ 50 rfl
        clear S_
        have H := kp (H.out.keep [0] (St := []) trivial o_ (by decide) (by kernel_rfl))
        have HOX := kp o_
        clear o_
        go_wp2_with fail
        exact ⟨rfl, _, rfl, fun d hd => by cases hd; exact (congrArg Value.bool HX6.out), Ext.refl _⟩
       simp only [Act.put, sbA, szA, ssA]
       refine ⟨fun w_ o_ S_ => ?_, fun v52 => ?_⟩
       ·obtain rfl : v45 = .bool false := hsR S_ 45 rfl
        obtain rfl : v51 = .bool false := hsR S_ 51 rfl
        clear S_ o_
        go_wp2_with fail
        exact kso rfl rfl rfl
       simp only [Act.put, sbA, szA, ssA]
       refine ⟨fun w_ o_ S_ => ?_, fun v53 => ?_⟩
       ·obtain rfl : v52 = .bool false := hsR S_ 52 rfl
        clear S_ o_
        go_wp2_with fail
        exact kso rfl rfl rfl
       simp only [Act.put, sbA, szA, ssA]
       refine ⟨fun w_ o_ S_ => ?_, fun v54 => ?_⟩
       ·obtain rfl : v53 = .bool false := hsR S_ 53 rfl
        clear S_ o_
        go_wp2_with fail
        exact kso rfl rfl rfl
       simp only [Act.put, sbA, szA, ssA]
       refine ⟨fun w_ o_ S_ => ?_, fun v55 => ?_⟩
       ·obtain rfl : v53 = .bool false := hsR S_ 53 rfl
        obtain rfl : v54 = .pointer (some ⟨g1, 62, none⟩) := hsR S_ 54 rfl
        clear S_
        have H := kp (H.out.keep [0] (St := []) trivial o_ (by decide) (by kernel_rfl))
        have HOX := kp o_
        clear o_
        go_wp2_with ((with_reducible refine isLd 3 ?_); (refine L_f1 H rfl 3 _ rfl 0 rfl _ rfl _ rfl _ rfl Try.underlying3 rfl ?_); simp only [Act.put, sbA, szA, ssA])
        exact kso rfl rfl rfl
       simp only [Act.put, sbA, szA, ssA]
       refine ⟨fun w_ o_ S_ => ?_, fun v56 => ?_⟩
       ·obtain rfl : v53 = .bool false := hsR S_ 53 rfl
        clear S_ o_
        go_wp2_with fail
        exact kso rfl rfl rfl
       simp only [Act.put, sbA, szA, ssA]
       refine ⟨fun w_ o_ S_ => ?_, fun v57 => ?_⟩
       ·obtain rfl : v53 = .bool false := hsR S_ 53 rfl
        obtain rfl : v56 = .bool (idleB s) := hsR S_ 56 rfl
        clear S_ o_
        go_wp2_with fail
        exact kso rfl rfl rfl
       simp only [Act.put, sbA, szA, ssA]
       refine ⟨fun w_ o_ S_ => ?_, fun v58 => ?_⟩
       ·obtain rfl : v53 = .bool false := hsR S_ 53 rfl
        obtain rfl : v57 = .bool (!idleB s) := hsR S_ 57 rfl
        clear S_
        have H := kp (H.out.keep [0] (St := []) trivial o_ (by decide) (by kernel_rfl))
        have HOX := kp o_
        clear o_
        go_wp2_with fail
        refine (HON.out (!idleB s) _).mono ?_
        rintro e w2 ⟨rfl, rfl⟩
        go_wp2_with fail
        exact kso rfl rfl rfl
       simp only [Act.put, sbA, szA, ssA]
       refine ⟨fun w_ o_ S_ => ?_, fun v59 => ?_⟩
       ·obtain rfl : v53 = .bool false := hsR S_ 53 rfl
        obtain rfl : v58 = .int .i64 (oneI (!idleB s)) := hsR S_ 58 rfl
        clear S_ o_
        go_wp2_with fail
        exact ⟨rfl, _, rfl, fun d hd => by cases hd; exact (congrArg (Value.int .i64) (HW8.out (!idleB s))), Ext.refl _⟩
       simp only [Act.put, sbA, szA, ssA]
       refine ⟨fun w_ o_ S_ => ?_, fun v60 => ?_⟩
       ·obtain rfl : v53 = .bool false := hsR S_ 53 rfl
        obtain rfl : v55 = .int .i64 s.replay := hsR S_ 55 rfl
        obtain rfl : v59 = .int .i64 (8 * oneI (!idleB s)) := hsR S_ 59 rfl
        clear S_ o_
        go_wp2_with fail
        exact kso rfl rfl rfl
       simp only [Act.put, sbA, szA, ssA]
       refine ⟨fun w_ o_ S_ => ?_, fun v61 => ?_⟩
       ·obtain rfl : v53 = .bool false := hsR S_ 53 rfl
        obtain rfl : v60 = .bool (decide (8 * oneI (!idleB s) < s.replay)) := hsR S_ 60 rfl
        clear S_ o_
        go_wp2_with fail
        exact kso rfl rfl rfl
       simp only [Act.put, sbA, szA, ssA]
       clear H
       intro w4 HOX H hfin
       obtain rfl : v25 = .pointer (some ⟨g1, 1, none⟩) := hfin 25 (by decide)
       obtain rfl : v26 = .int .u8 s.stage := hfin 26 (by decide)
       obtain rfl : v27 = .bool false := hfin 27 (by decide)
       obtain rfl : v28 = .bool false := hfin 28 (by decide)
       obtain rfl : v29 = .pointer (some ⟨g1, 1, none⟩) := hfin 29 (by decide)
       obtain rfl : v30 = .int .u8 s.stage := hfin 30 (by decide)
       obtain rfl : v31 = .bool false := hfin 31 (by decide)
       obtain rfl : v32 = .bool false := hfin 32 (by decide)
       obtain rfl : v33 = .bool false := hfin 33 (by decide)
       obtain rfl : v34 = .pointer (some ⟨g1, 113, none⟩) := hfin 34 (by decide)
       obtain rfl : v35 = .pointer (some ⟨g1, 113, none⟩) := hfin 35 (by decide)
       obtain rfl : v36 = .int .i64 s.gid := hfin 36 (by decide)
       obtain rfl : v37 = .bool true := hfin 37 (by decide)
       obtain rfl : v38 = .bool true := hfin 38 (by decide)
       obtain rfl : v39 = .pointer (some ⟨g1, 113, none⟩) := hfin 39 (by decide)
       obtain rfl : v40 = .pointer (some ⟨g1, 113, none⟩) := hfin 40 (by decide)
       obtain rfl : v41 = .int .i64 s.gid := hfin 41 (by decide)
       obtain rfl : v42 = .bool false := hfin 42 (by decide)
       obtain rfl : v43 = .bool false := hfin 43 (by decide)
       obtain rfl : v44 = .bool false := hfin 44 (by decide)
       obtain rfl : v45 = .bool false := hfin 45 (by decide)
       obtain rfl : v46 = .pointer (some ⟨g1, 62, none⟩) := hfin 46 (by decide)
       obtain rfl : v47 = .int .i64 s.replay := hfin 47 (by decide)
       obtain rfl : v48 = .bool (idleB s) := hfin 48 (by decide)
       obtain rfl : v49 = .bool (!idleB s) := hfin 49 (by decide)
       obtain rfl : v50 = .int .i64 (oneI (!idleB s)) := hfin 50 (by decide)
       obtain rfl : v51 = .bool false := hfin 51 (by decide)
       obtain rfl : v52 = .bool false := hfin 52 (by decide)
       obtain rfl : v53 = .bool false := hfin 53 (by decide)
       obtain rfl : v54 = .pointer (some ⟨g1, 62, none⟩) := hfin 54 (by decide)
       obtain rfl : v55 = .int .i64 s.replay := hfin 55 (by decide)
       obtain rfl : v56 = .bool (idleB s) := hfin 56 (by decide)
       obtain rfl : v57 = .bool (!idleB s) := hfin 57 (by decide)
       obtain rfl : v58 = .int .i64 (oneI (!idleB s)) := hfin 58 (by decide)
       obtain rfl : v59 = .int .i64 (8 * oneI (!idleB s)) := hfin 59 (by decide)
       obtain rfl : v60 = .bool (decide (8 * oneI (!idleB s) < s.replay)) := hfin 60 (by decide)
       obtain rfl : v61 = .bool (decide (8 * oneI (!idleB s) < s.replay)) := hfin 61 (by decide)
       clear hfin
       simp only [List.drop_succ_cons, List.drop_zero]
       simp only [applyS] at H
       have HXN := kp (HOX.out.ext (Ext.refl w3) (fun g hg => by cases hg))
       go_wp2_with fail
       exact CutP.of rfl (by kernel_rfl) ⟨H, by show Value.bool _ = Value.bool _; simp [badA1, gidB, HX1.out, HX2.out, HX3.out, HX5.out, HX6.out]⟩
     | false =>
      have HX5 := kp hx5
      clear hx5
      refine region_free H (tabS [(25, fun vQ _ => vQ = .pointer (some ⟨g1, 1, none⟩)), (26, fun vQ _ => vQ = .int .u8 s.stage), (27, fun vQ _ => vQ = .bool false), (28, fun vQ _ => vQ = .bool false), (29, fun vQ _ => vQ = .pointer (some ⟨g1, 1, none⟩)), (30, fun vQ _ => vQ = .int .u8 s.stage), (31, fun vQ _ => vQ = .bool false), (32, fun vQ _ => vQ = .bool false), (33, fun vQ _ => vQ = .bool false), (34, fun vQ _ => vQ = .pointer (some ⟨g1, 113, none⟩)), (35, fun vQ _ => vQ = .pointer (some ⟨g1, 113, none⟩)), (36, fun vQ _ => vQ = .int .i64 s.gid), (37, fun vQ _ => vQ = .bool true), (38, fun vQ _ => vQ = .bool true), (39, fun vQ _ => vQ = .pointer (some ⟨g1, 113, none⟩)), (40, fun vQ _ => vQ = .pointer (some ⟨g1, 113, none⟩)), (41, fun vQ _ => vQ = .int .i64 s.gid), (42, fun vQ _ => vQ = .bool true), (43, fun vQ _ => vQ = .bool true), (44, fun vQ _ => vQ = .bool true), (45, fun vQ _ => vQ = .bool true), (46, fun vQ _ => vQ = undef), (47, fun vQ _ => vQ = undef), (48, fun vQ _ => vQ = undef), (49, fun vQ _ => vQ = undef), (50, fun vQ _ => vQ = undef), (51, fun vQ _ => vQ = undef), (52, fun vQ _ => vQ = .bool true), (53, fun vQ _ => vQ = .bool true), (54, fun vQ _ => vQ = undef), (55, fun vQ _ => vQ = undef), (56, fun vQ _ => vQ = undef), (57, fun vQ _ => vQ = undef), (58, fun vQ _ => vQ = undef), (59, fun vQ _ => vQ = undef), (60, fun vQ _ => vQ = undef), (61, fun vQ _ => vQ = .bool true)]) [] (tabS_out _ _ (by simp only [List.forall_mem_cons]; exact ⟨mono_eqO _ _, mono_eqO _ _, mono_eqO _ _, mono_eqO _ _, mono_eqO _ _, mono_eqO _ _, mono_eqO _ _, mono_eqO _ _, mono_eqO _ _, mono_eqO _ _, mono_eqO _ _, mono_eqO _ _, mono_eqO _ _, mono_eqO _ _, mono_eqO _ _, mono_eqO _ _, mono_eqO _ _, mono_eqO _ _, mono_eqO _ _, mono_eqO _ _, mono_eqO _ _, mono_eqO _ _, mono_eqO _ _, mono_eqO _ _, mono_eqO _ _, mono_eqO _ _, mono_eqO _ _, mono_eqO _ _, mono_eqO _ _, mono_eqO _ _, mono_eqO _ _, mono_eqO _ _, mono_eqO _ _, mono_eqO _ _, mono_eqO _ _, mono_eqO _ _, mono_eqO _ _, by simp⟩)) 37 (by kernel_rfl) (by kernel_rfl) (by kernel_rfl) (by kernel_rfl) [] [] rfl rfl (by decide) (by decide) (by decide) trivial ?_
      simp only [List.take_succ_cons, List.take_zero]
      refine ⟨fun w_ o_ S_ => ?_, fun v25 => ?_⟩
      ·clear S_
       clear o_
       go_wp2_with fail
       exact kso rfl rfl rfl
      simp only [Act.put, sbA, szA, ssA]
      refine ⟨fun w_ o_ S_ => ?_, fun v26 => ?_⟩
      ·obtain rfl : v25 = .pointer (some ⟨g1, 1, none⟩) := hsR S_ 25 rfl
       clear S_
       have H := kp (H.out.keep [0] (St := []) trivial o_ (by decide) (by kernel_rfl))
       have HOX := kp o_
       clear o_
       go_wp2_with ((with_reducible refine isLd 5 ?_); (refine L_f1 H rfl 5 _ rfl 0 rfl _ rfl _ rfl _ rfl Try.underlying5 rfl ?_); simp only [Act.put, sbA, szA, ssA])
       exact kso rfl rfl rfl
      simp only [Act.put, sbA, szA, ssA]
      refine ⟨fun w_ o_ S_ => ?_, fun v27 => ?_⟩
      ·obtain rfl : v26 = .int .u8 s.stage := hsR S_ 26 rfl
       clear S_
       have H := kp (H.out.keep [0] (St := []) trivial o_ (by decide) (by kernel_rfl))
       have HOX := kp o_
       clear o_
       go_wp2_with fail
       exact ⟨rfl, _, rfl, fun d hd => by cases hd; exact (congrArg Value.bool HX1.out), Ext.refl _⟩
      simp only [Act.put, sbA, szA, ssA]
      refine ⟨fun w_ o_ S_ => ?_, fun v28 => ?_⟩
      ·obtain rfl : v27 = .bool false := hsR S_ 27 rfl
       clear S_ o_
       go_wp2_with fail
       exact kso rfl rfl rfl
      simp only [Act.put, sbA, szA, ssA]
      refine ⟨fun w_ o_ S_ => ?_, fun v29 => ?_⟩
      ·obtain rfl : v28 = .bool false := hsR S_ 28 rfl
       clear S_ o_
       go_wp2_with fail
       exact kso rfl rfl rfl
      simp only [Act.put, sbA, szA, ssA]
      refine ⟨fun w_ o_ S_ => ?_, fun v30 => ?_⟩
      ·obtain rfl : v28 = .bool false := hsR S_ 28 rfl
       obtain rfl : v29 = .pointer (some ⟨g1, 1, none⟩) := hsR S_ 29 rfl
       clear S_
       have H := kp (H.out.keep [0] (St := []) trivial o_ (by decide) (by kernel_rfl))
       have HOX := kp o_
       clear o_
       go_wp2_with ((with_reducible refine isLd 5 ?_); (refine L_f1 H rfl 5 _ rfl 0 rfl _ rfl _ rfl _ rfl Try.underlying5 rfl ?_); simp only [Act.put, sbA, szA, ssA])
       exact kso rfl rfl rfl
      simp only [Act.put, sbA, szA, ssA]
      refine ⟨fun w_ o_ S_ => ?_, fun v31 => ?_⟩
      ·obtain rfl : v28 = .bool false := hsR S_ 28 rfl
       obtain rfl : v30 = .int .u8 s.stage := hsR S_ 30 rfl
       clear S_
       have H := kp (H.out.keep [0] (St := []) trivial o_ (by decide) (by kernel_rfl))
       have HOX := kp o_
       clear o_
       go_wp2_with fail
       exact ⟨rfl, _, rfl, fun d hd => by cases hd; exact (congrArg Value.bool HX2.out), Ext.refl _⟩
      simp only [Act.put, sbA, szA, ssA]
      refine ⟨fun w_ o_ S_ => ?_, fun v32 => ?_⟩
      ·obtain rfl : v28 = .bool false := hsR S_ 28 rfl
       obtain rfl : v31 = .bool false := hsR S_ 31 rfl
       clear S_ o_
       go_wp2_with fail
       exact kso rfl rfl rfl
      simp only [Act.put, sbA, szA, ssA]
      refine ⟨fun w_ o_ S_ => ?_, fun v33 => ?_⟩
      ·obtain rfl : v32 = .bool false := hsR S_ 32 rfl
       clear S_ o_
       go_wp2_with fail
       exact kso rfl rfl rfl
      simp only [Act.put, sbA, szA, ssA]
      refine ⟨fun w_ o_ S_ => ?_, fun v34 => ?_⟩
      ·obtain rfl : v33 = .bool false := hsR S_ 33 rfl
       clear S_ o_
       go_wp2_with fail
       exact kso rfl rfl rfl
      simp only [Act.put, sbA, szA, ssA]
      refine ⟨fun w_ o_ S_ => ?_, fun v35 => ?_⟩
      ·obtain rfl : v33 = .bool false := hsR S_ 33 rfl
       obtain rfl : v34 = .pointer (some ⟨g1, 113, none⟩) := hsR S_ 34 rfl
       clear S_ o_
       go_wp2_with fail
       exact kso rfl rfl rfl
      simp only [Act.put, sbA, szA, ssA]
      refine ⟨fun w_ o_ S_ => ?_, fun v36 => ?_⟩
      ·obtain rfl : v33 = .bool false := hsR S_ 33 rfl
       obtain rfl : v35 = .pointer (some ⟨g1, 113, none⟩) := hsR S_ 35 rfl
       clear S_
       have H := kp (H.out.keep [0] (St := []) trivial o_ (by decide) (by kernel_rfl))
       have HOX := kp o_
       clear o_
       go_wp2_with ((with_reducible refine isLd 3 ?_); (refine L_f1 H rfl 3 _ rfl 0 rfl _ rfl _ rfl _ rfl Try.underlying3 rfl ?_); simp only [Act.put, sbA, szA, ssA])
       exact kso rfl rfl rfl
      simp only [Act.put, sbA, szA, ssA]
      refine ⟨fun w_ o_ S_ => ?_, fun v37 => ?_⟩
      ·obtain rfl : v33 = .bool false := hsR S_ 33 rfl
       obtain rfl : v36 = .int .i64 s.gid := hsR S_ 36 rfl
       clear S_
       have H := kp (H.out.keep [0] (St := []) trivial o_ (by decide) (by kernel_rfl))
       have HOX := kp o_
       clear o_
       go_wp2_with fail
       exact ⟨rfl, _, rfl, fun d hd => by cases hd; exact (congrArg Value.bool (congrArg not HX3.out)), Ext.refl _⟩
      simp only [Act.put, sbA, szA, ssA]
      refine ⟨fun w_ o_ S_ => ?_, fun v38 => ?_⟩
      ·obtain rfl : v33 = .bool false := hsR S_ 33 rfl
       obtain rfl : v37 = .bool true := hsR S_ 37 rfl
       clear S_ o_
       go_wp2_with fail
       exact kso rfl rfl rfl
      simp only [Act.put, sbA, szA, ssA]
      refine ⟨fun w_ o_ S_ => ?_, fun v39 => ?_⟩
      ·obtain rfl : v38 = .bool true := hsR S_ 38 rfl
       clear S_ o_
       go_wp2_with fail
       exact kso rfl rfl rfl
      simp only [Act.put, sbA, szA, ssA]
      refine ⟨fun w_ o_ S_ => ?_, fun v40 => ?_⟩
      ·obtain rfl : v38 = .bool true := hsR S_ 38 rfl
       obtain rfl : v39 = .pointer (some ⟨g1, 113, none⟩) := hsR S_ 39 rfl
       clear S_ o_
       go_wp2_with fail
       exact kso rfl rfl rfl
      simp only [Act.put, sbA, szA, ssA]
      refine ⟨fun w_ o_ S_ => ?_, fun v41 => ?_⟩
      ·obtain rfl : v38 = .bool true := hsR S_ 38 rfl
       obtain rfl : v40 = .pointer (some ⟨g1, 113, none⟩) := hsR S_ 40 rfl
       clear S_
       have H := kp (H.out.keep [0] (St := []) trivial o_ (by decide) (by kernel_rfl))
       have HOX := kp o_
       clear o_
       go_wp2_with ((with_reducible refine isLd 3 ?_); (refine L_f1 H rfl 3 _ rfl 0 rfl _ rfl _ rfl _ rfl Try.underlying3 rfl ?_); simp only [Act.put, sbA, szA, ssA])
       exact kso rfl rfl rfl
      simp only [Act.put, sbA, szA, ssA]
      refine ⟨fun w_ o_ S_ => ?_, fun v42 => ?_⟩
      ·obtain rfl : v38 = .bool true := hsR S_ 38 rfl
       obtain rfl : v41 = .int .i64 s.gid := hsR S_ 41 rfl
       clear S_
       have H := kp (H.out.keep [0] (St := []) trivial o_ (by decide) (by kernel_rfl))
       have HOX := kp o_
       clear o_
       go_wp2_with fail
       exact ⟨rfl, _, rfl, fun d hd => by cases hd; exact (congrArg Value.bool (congrArg not HX5.out)), Ext.refl _⟩
      simp only [Act.put, sbA, szA, ssA]
      refine ⟨fun w_ o_ S_ => ?_, fun v43 => ?_⟩
      ·obtain rfl : v33 = .bool false := hsR S_ 33 rfl
       obtain rfl : v38 = .bool true := hsR S_ 38 rfl
       obtain rfl : v42 = .bool true := hsR S_ 42 rfl
       clear S_ o_
       go_wp2_with fail
       exact kso rfl rfl rfl
      simp only [Act.put, sbA, szA, ssA]
      refine ⟨fun w_ o_ S_ => ?_, fun v44 => ?_⟩
      ·obtain rfl : v33 = .bool false := hsR S_ 33 rfl
       obtain rfl : v43 = .bool true := hsR S_ 43 rfl
       clear S_ o_
       go_wp2_with fail
       exact kso rfl rfl rfl
      simp only [Act.put, sbA, szA, ssA]
      refine ⟨fun w_ o_ S_ => ?_, fun v45 => ?_⟩
      ·obtain rfl : v44 = .bool true := hsR S_ 44 rfl
       clear S_ o_
       go_wp2_with fail
       exact kso rfl rfl rfl
      simp only [Act.put, sbA, szA, ssA]
      refine ⟨fun w_ o_ S_ => ?_, fun v46 => ?_⟩
      ·obtain rfl : v45 = .bool true := hsR S_ 45 rfl
       clear S_ o_
       go_wp2_with fail
       exact kso rfl rfl rfl
      simp only [Act.put, sbA, szA, ssA]
      refine ⟨fun w_ o_ S_ => ?_, fun v47 => ?_⟩
      ·obtain rfl : v45 = .bool true := hsR S_ 45 rfl
       clear S_ o_
       go_wp2_with fail
       exact kso rfl rfl rfl
      simp only [Act.put, sbA, szA, ssA]
      refine ⟨fun w_ o_ S_ => ?_, fun v48 => ?_⟩
      ·obtain rfl : v45 = .bool true := hsR S_ 45 rfl
       clear S_ o_
       go_wp2_with fail
       exact kso rfl rfl rfl
      simp only [Act.put, sbA, szA, ssA]
      refine ⟨fun w_ o_ S_ => ?_, fun v49 => ?_⟩
      ·obtain rfl : v45 = .bool true := hsR S_ 45 rfl
       clear S_ o_
       go_wp2_with fail
       exact kso rfl rfl rfl
      simp only [Act.put, sbA, szA, ssA]
      refine ⟨fun w_ o_ S_ => ?_, fun v50 => ?_⟩
      ·obtain rfl : v45 = .bool true := hsR S_ 45 rfl
       clear S_ o_
       go_wp2_with fail
       exact kso rfl rfl rfl
      simp only [Act.put, sbA, szA, ssA]
      refine ⟨fun w_ o_ S_ => ?_, fun v51 => ?_⟩
      ·obtain rfl : v45 = .bool true := hsR S_ 45 rfl
       clear S_ o_
       go_wp2_with fail
       exact kso rfl rfl rfl
      simp only [Act.put, sbA, szA, ssA]
      refine ⟨fun w_ o_ S_ => ?_, fun v52 => ?_⟩
      ·obtain rfl : v45 = .bool true := hsR S_ 45 rfl
       obtain rfl : v51 = undef := hsR S_ 51 rfl
       clear S_ o_
       go_wp2_with fail
       exact kso rfl rfl rfl
      simp only [Act.put, sbA, szA, ssA]
      refine ⟨fun w_ o_ S_ => ?_, fun v53 => ?_⟩
      ·obtain rfl : v52 = .bool true := hsR S_ 52 rfl
       clear S_ o_
       go_wp2_with fail
       exact kso rfl rfl rfl
      simp only [Act.put, sbA, szA, ssA]
      refine ⟨fun w_ o_ S_ => ?_, fun v54 => ?_⟩
      ·obtain rfl : v53 = .bool true := hsR S_ 53 rfl
       clear S_ o_
       go_wp2_with fail
       exact kso rfl rfl rfl
      simp only [Act.put, sbA, szA, ssA]
      refine ⟨fun w_ o_ S_ => ?_, fun v55 => ?_⟩
      ·obtain rfl : v53 = .bool true := hsR S_ 53 rfl
       clear S_ o_
       go_wp2_with fail
       exact kso rfl rfl rfl
      simp only [Act.put, sbA, szA, ssA]
      refine ⟨fun w_ o_ S_ => ?_, fun v56 => ?_⟩
      ·obtain rfl : v53 = .bool true := hsR S_ 53 rfl
       clear S_ o_
       go_wp2_with fail
       exact kso rfl rfl rfl
      simp only [Act.put, sbA, szA, ssA]
      refine ⟨fun w_ o_ S_ => ?_, fun v57 => ?_⟩
      ·obtain rfl : v53 = .bool true := hsR S_ 53 rfl
       clear S_ o_
       go_wp2_with fail
       exact kso rfl rfl rfl
      simp only [Act.put, sbA, szA, ssA]
      refine ⟨fun w_ o_ S_ => ?_, fun v58 => ?_⟩
      ·obtain rfl : v53 = .bool true := hsR S_ 53 rfl
       clear S_ o_
       go_wp2_with fail
       exact kso rfl rfl rfl
      simp only [Act.put, sbA, szA, ssA]
      refine ⟨fun w_ o_ S_ => ?_, fun v59 => ?_⟩
      ·obtain rfl : v53 = .bool true := hsR S_ 53 rfl
       clear S_ o_
       go_wp2_with fail
       exact kso rfl rfl rfl
      simp only [Act.put, sbA, szA, ssA]
      refine ⟨fun w_ o_ S_ => ?_, fun v60 => ?_⟩
      ·obtain rfl : v53 = .bool true := hsR S_ 53 rfl
       clear S_ o_
       go_wp2_with fail
       exact kso rfl rfl rfl
      simp only [Act.put, sbA, szA, ssA]
      refine ⟨fun w_ o_ S_ => ?_, fun v61 => ?_⟩
      ·obtain rfl : v53 = .bool true := hsR S_ 53 rfl
       obtain rfl : v60 = undef := hsR S_ 60 rfl
       clear S_ o_
       go_wp2_with fail
       exact kso rfl rfl rfl
      simp only [Act.put, sbA, szA, ssA]
      clear H
      intro w4 HOX H hfin
      obtain rfl : v25 = .pointer (some ⟨g1, 1, none⟩) := hfin 25 (by decide)
      obtain rfl : v26 = .int .u8 s.stage := hfin 26 (by decide)
      obtain rfl : v27 = .bool false := hfin 27 (by decide)
      obtain rfl : v28 = .bool false := hfin 28 (by decide)
      obtain rfl : v29 = .pointer (some ⟨g1, 1, none⟩) := hfin 29 (by decide)
      obtain rfl : v30 = .int .u8 s.stage := hfin 30 (by decide)
      obtain rfl : v31 = .bool false := hfin 31 (by decide)
      obtain rfl : v32 = .bool false := hfin 32 (by decide)
      obtain rfl : v33 = .bool false := hfin 33 (by decide)
      obtain rfl : v34 = .pointer (some ⟨g1, 113, none⟩) := hfin 34 (by decide)
      obtain rfl : v35 = .pointer (some ⟨g1, 113, none⟩) := hfin 35 (by decide)
      obtain rfl : v36 = .int .i64 s.gid := hfin 36 (by decide)
      obtain rfl : v37 = .bool true := hfin 37 (by decide)
      obtain rfl : v38 = .bool true := hfin 38 (by decide)
      obtain rfl : v39 = .pointer (some ⟨g1, 113, none⟩) := hfin 39 (by decide)
      obtain rfl : v40 = .pointer (some ⟨g1, 113, none⟩) := hfin 40 (by decide)
      obtain rfl : v41 = .int .i64 s.gid := hfin 41 (by decide)
      obtain rfl : v42 = .bool true := hfin 42 (by decide)
      obtain rfl : v43 = .bool true := hfin 43 (by decide)
      obtain rfl : v44 = .bool true := hfin 44 (by decide)
      obtain rfl : v45 = .bool true := hfin 45 (by decide)
      obtain rfl : v46 = undef := hfin 46 (by decide)
      obtain rfl : v47 = undef := hfin 47 (by decide)
      obtain rfl : v48 = undef := hfin 48 (by decide)
      obtain rfl : v49 = undef := hfin 49 (by decide)
      obtain rfl : v50 = undef := hfin 50 (by decide)
      obtain rfl : v51 = undef := hfin 51 (by decide)
      obtain rfl : v52 = .bool true := hfin 52 (by decide)
      obtain rfl : v53 = .bool true := hfin 53 (by decide)
      obtain rfl : v54 = undef := hfin 54 (by decide)
      obtain rfl : v55 = undef := hfin 55 (by decide)
      obtain rfl : v56 = undef := hfin 56 (by decide)
      obtain rfl : v57 = undef := hfin 57 (by decide)
      obtain rfl : v58 = undef := hfin 58 (by decide)
      obtain rfl : v59 = undef := hfin 59 (by decide)
      obtain rfl : v60 = undef := hfin 60 (by decide)
      obtain rfl : v61 = .bool true := hfin 61 (by decide)
      clear hfin
      simp only [List.drop_succ_cons, List.drop_zero]
      simp only [applyS] at H
      have HXN := kp (HOX.out.ext (Ext.refl w3) (fun g hg => by cases hg))
      go_wp2_with fail
      exact CutP.of rfl (by kernel_rfl) ⟨H, by show Value.bool _ = Value.bool _; simp [badA1, gidB, HX1.out, HX2.out, HX3.out, HX5.out]⟩
 rintro vs w5 ⟨H, e61⟩
 simp only [putMany, List.setIfInBounds_toArray, List.set_cons_zero, List.set_cons_succ]
 rw [e61]
 clear e61
 have HV := kp (show validAuthF s = if badA1 s then false else if badA2 s then false else (keyedB s || freshS s) from rfl)
 cases hb : badA1 s with
 | true =>
  rw [hb] at HV
  clear hb
  go_wp2_with fail
  go_ret
  exact ⟨by rw [HV.out]; rfl, H.out.1⟩
 | false =>
  rw [hb] at HV
  clear hb
  go_wp2_with fail
  subst h6
  refine wp_cut (3 :: 62 :: 63 :: 64 :: 65 :: 66 :: 67 :: 68 :: 69 :: 70 :: 71 :: 72 :: 73 :: 74 :: 75 :: 76 :: 77 :: 78 :: 79 :: 80 :: 81 :: 82 :: 83 :: 84 :: 85 :: 86 :: 87 :: 88 :: 89 :: 90 :: 91 :: 92 :: 93 :: 94 :: 95 :: 96 :: []) (fun vs w' => Kp (Loc w w' [(g1, 32, cat (partsF s))]) ∧ vs 96 = .bool (badA2 s)) ?_ ?_
  ·go_wp2_with ((with_reducible refine isLd 3 ?_); (refine L_f1 H rfl 3 _ rfl 0 rfl _ rfl _ rfl _ rfl Try.underlying3 rfl ?_); simp only [Act.put, sbA, szA, ssA])
   all_goals exact CutP.of rfl (by kernel_rfl) ⟨H, by show Value.bool _ = Value.bool _; simp [badA2, *]⟩
  rintro vs w6 ⟨H, e96⟩
  simp only [putMany, List.setIfInBounds_toArray, List.set_cons_zero, List.set_cons_succ]
  rw [e96]
  clear e96
  cases hb : badA2 s with
  | true =>
   rw [hb] at HV
   clear hb
   go_wp2_with fail
   go_ret
   exact ⟨by rw [HV.out]; rfl, H.out.1⟩
  | false =>
   rw [hb] at HV
   clear hb
   go_wp2_with (first | ((with_reducible refine isLd 26 ?_); (refine L_fv H rfl 26 _ rfl 0 rfl _ rfl _ rfl rfl Try.underlying26 rfl (by kernel_rfl) ?_); simp only [Act.put, sbA, szA, ssA]) | ((with_reducible show wpList _ _ _ (Oper.mk _ (Op.build 26 _) _ _ _ _ :: _) _ _); (refine L_bd rfl 26 _ rfl #[] (by kernel_rfl) ((zv 16).1.map V8) (fun _ => by kernel_rfl) ?_); simp only [Act.put, sbA, szA, ssA]) | ((with_reducible show wpList _ _ _ (Oper.mk _ (Op.binOp _ 26 _ _ _) _ _ _ _ :: _) _ _); (refine wpList_eq2 rfl 26 _ _ _ rfl _ _ _ rfl rfl Try.eqGuardType26 (eqV_in _ Try.underlying26 _ _ 9998) ?_); simp only [Act.put, sbA, szA, ssA]) | ((with_reducible refine isLd 28 ?_); (refine L_fg H rfl 28 _ rfl 0 rfl _ rfl _ rfl (partsK s.pair) rfl Try.underlying28 rfl (by kernel_rfl) ?_); simp only [Act.put, sbA, szA, ssA]) | ((with_reducible show wpList _ _ _ (Oper.mk _ (Op.build 28 _) _ _ _ _ :: _) _ _); (refine L_bd rfl 28 _ rfl #[] (by kernel_rfl) (cat (partsK ks0)) (fun _ => by kernel_rfl) ?_); simp only [Act.put, sbA, szA, ssA]) | ((with_reducible show wpList _ _ _ (Oper.mk _ (Op.binOp _ 28 _ _ _) _ _ _ _ :: _) _ _); (refine wpList_eq2 rfl 28 _ _ _ rfl _ _ _ rfl rfl Try.eqGuardType28 (eqK_in _ _ _ 9997) ?_); simp only [Act.put, sbA, szA, ssA]))
   all_goals go_ret
   all_goals exact ⟨by rw [HV.out]; simp [freshS, *], H.out.1⟩
end Go.Proofs.Ytibncchobkaaiaa
