/- Texts of this proof, put together: Nm. -/
import Derived.Test.YtfecopfofkdnpaaM5
import Derived.Test.YtfecopfofkdnpaaM4
import Derived.Test.YtfecopfofkdnpaaS1
import Derived.Test.YtfecopfofkdnpaaS2
import Derived.Test.YtfecopfofkdnpaaS3
import Derived.Test.YtfecopfofkdnpaaS4
import Derived.Test.YtfecopfofkdnpaaS5
import Derived.Test.YtfecopfofkdnpaaS6
import Derived.Test.YtfecopfofkdnpaaS7
import Derived.Test.YtfecopfofkdnpaaS8
import Derived.Test.YtfecopfofkdnpaaS9
import Derived.Test.YtfecopfofkdnpaaS10
import Derived.Test.YtfecopfofkdnpaaS11
import Derived.Test.YtfecopfofkdnpaaS12
import Derived.Test.YtfecopfofkdnpaaS13
import Derived.Test.YtfecopfofkdnpaaS14
import Derived.Test.YtfecopfofkdnpaaS15
import Derived.Test.YtfecopfofkdnpaaS16
import Derived.Test.YtfecopfofkdnpaaS17
import Derived.Test.YtfecopfofkdnpaaS18
import Derived.Test.YtfecopfofkdnpaaS19
import Derived.Test.YtfecopfofkdnpaaS20
import Derived.Test.YtfecopfofkdnpaaS21
import Derived.Test.YtfecopfofkdnpaaS22
import Derived.Test.YtfecopfofkdnpaaS23
import Derived.Test.YtfecopfofkdnpaaS24
import Derived.Test.YtfecopfofkdnpaaS25
import Derived.Test.YtfecopfofkdnpaaS26
import Derived.Test.YtfecopfofkdnpaaS27
import Derived.Test.YtfecopfofkdnpaaS28
import Derived.Test.YtfecopfofkdnpaaS29
import Derived.Test.YtfecopfofkdnpaaS30
import Derived.Test.YtfecopfofkdnpaaM1
namespace Go.Proofs.Ytfecopfofkdnpaa
open Go.RowKit
set_option maxRecDepth 10000 in
set_option maxHeartbeats 12800000 in
theorem assocNames_walk (w : World) : Calls Try.prog 7 #[] w fun e w' => e = .returned (.bool true) ∧ Ext w w' := by
 have H := kp (Loc.start w)
 have HN1 := kp (fun w => show Calls Try.prog 10 #[.agg (ptB.map V8).toArray, .int .i64 1, .int .i64 2, .int .i64 100] w fun e w' => e = .returned (.tuple #[.agg (cat (partsA aN haN none 0 0)).toArray, .int .i64 0]) ∧ Ext w w' from new_any aN haN w)
 have HN2 := kp (fun w => show Calls Try.prog 10 #[.agg (cat [Lf.v ⟨gpB, rfl⟩]).toArray, .int .i64 0, .int .i64 1, .int .i64 1] w fun e w' => e = .returned (.tuple #[.agg (cat (partsA as0 rfl none 0 0)).toArray, .int .i64 2]) ∧ Ext w w' from new_any ⟨gpB, 0, 1, 1⟩ rfl w)
 have HN3 := kp (fun w => show Calls Try.prog 10 #[.agg (ptB.map V8).toArray, .int .i64 0, .int .i64 0, .int .i64 1] w fun e w' => e = .returned (.tuple #[.agg (cat (partsA as0 rfl none 0 0)).toArray, .int .i64 2]) ∧ Ext w w' from new_any ⟨ptB, 0, 0, 1⟩ rfl w)
 have HN4 := kp (fun w => show Calls Try.prog 10 #[.agg (ptB.map V8).toArray, .int .i64 65536, .int .i64 1, .int .i64 1] w fun e w' => e = .returned (.tuple #[.agg (cat (partsA as0 rfl none 0 0)).toArray, .int .i64 2]) ∧ Ext w w' from new_any ⟨ptB, 65536, 1, 1⟩ rfl w)
 go_enter Try.func7, Try.ntmps7
 generalize hr1 : (Code.region 1 _ _ : Code) = R1
 generalize hr2 : (Code.region 2 _ _ : Code) = R2
 generalize hr3 : (Code.region 3 _ _ : Code) = R3
 generalize hr4 : (Code.region 4 _ _ : Code) = R4
 generalize hr5 : (Code.region 5 _ _ : Code) = R5
 generalize hr6 : (Code.region 6 _ _ : Code) = R6
 generalize hr7 : (Code.region 7 _ _ : Code) = R7
 generalize hr8 : (Code.region 8 _ _ : Code) = R8
 generalize hr9 : (Code.region 9 _ _ : Code) = R9
 generalize hr10 : (Code.region 10 _ _ : Code) = R10
 generalize hr11 : (Code.region 11 _ _ : Code) = R11
 generalize hr12 : (Code.region 12 _ _ : Code) = R12
 generalize hr13 : (Code.region 13 _ _ : Code) = R13
 generalize hr14 : (Code.region 14 _ _ : Code) = R14
 generalize hr15 : (Code.region 15 _ _ : Code) = R15
 generalize hr16 : (Code.region 16 _ _ : Code) = R16
 generalize hr17 : (Code.region 17 _ _ : Code) = R17
 generalize hr18 : (Code.region 18 _ _ : Code) = R18
 generalize hr19 : (Code.region 19 _ _ : Code) = R19
 generalize hr20 : (Code.region 20 _ _ : Code) = R20
 generalize hr21 : (Code.region 21 _ _ : Code) = R21
 generalize hr22 : (Code.region 22 _ _ : Code) = R22
 generalize hr23 : (Code.region 23 _ _ : Code) = R23
 generalize hr24 : (Code.region 24 _ _ : Code) = R24
 generalize hr25 : (Code.region 25 _ _ : Code) = R25
 generalize hr26 : (Code.region 26 _ _ : Code) = R26
 generalize hr27 : (Code.region 27 _ _ : Code) = R27
 generalize hr28 : (Code.region 28 _ _ : Code) = R28
 generalize hr29 : (Code.region 29 _ _ : Code) = R29
 generalize hr30 : (Code.region 30 _ _ : Code) = R30
 generalize hr31 : (Code.region 31 _ _ : Code) = R31
 generalize hr32 : (Code.region 32 _ _ : Code) = R32
 generalize hr33 : (Code.region 33 _ _ : Code) = R33
 generalize hr34 : (Code.region 34 _ _ : Code) = R34
 generalize hr35 : (Code.region 35 _ _ : Code) = R35
 generalize hr36 : (Code.region 36 _ _ : Code) = R36
 generalize hr37 : (Code.region 37 _ _ : Code) = R37
 generalize hr38 : (Code.region 38 _ _ : Code) = R38
 generalize hr39 : (Code.region 39 _ _ : Code) = R39
 generalize hr40 : (Code.region 40 _ _ : Code) = R40
 go_wp2_with fail
 subst hr1
 go_wp2_with (first | (go_at_call 30; refine (point_any _).mono ?_; rintro e wp ⟨rfl, hx⟩; replace H := kp (H.out.ext hx); have HXC := kp hx; clear hx) | (go_at_call 10; refine (HN1.out _).mono ?_; rintro e wn ⟨rfl, hx⟩; replace H := kp (H.out.ext hx); have HXC := kp hx; clear hx) | ((with_reducible refine isAl 1 26 ?_); (refine L_alloc H rfl 26 rfl (cat (partsA as0 rfl none 0 0)) (fun _ _ => by kernel_rfl) ?_); clear H; intro g1 w1 HGg1 HEg1 H; refine unput (d := some _) ?_) | ((with_reducible show wpList _ _ _ (Oper.mk none (Op.store 26 (.tmp 1) _) _ _ _ _ :: _) _ _); ((with_reducible refine isSt 26 ?_); refine L_sa H rfl rfl 26 _ _ rfl 0 rfl rfl (partsA aN haN none 0 0) rfl rfl (by kernel_rfl) ?_; clear H; intro w1b HWw1b H; simp only [szA] at H)))
 clear HXC HEg1 HWw1b
 subst hr2
 go_wp2_with (first | (go_at_call 30; refine (point_any _).mono ?_; rintro e wp ⟨rfl, hx⟩; replace H := kp (H.out.ext hx); have HXC := kp hx; clear hx) | ((with_reducible show wpList _ _ _ (Oper.mk (some 74) (Op.build 23 _) _ _ _ _ :: _) _ _); (refine L_bd (by kernel_rfl) 23 _ rfl (#[(0, .int .u8 1)]) (by kernel_rfl) (cat [Lf.v ⟨gpB, rfl⟩]) (fun w => by kernel_rfl) ?_); refine unput (d := some _) ?_) | (go_at_call 10; refine (HN2.out _).mono ?_; rintro e wn ⟨rfl, hx⟩; replace H := kp (H.out.ext hx); have HXC := kp hx; clear hx) | ((with_reducible refine isAl 3 26 ?_); (refine L_alloc H rfl 26 rfl (cat (partsA as0 rfl none 0 0)) (fun _ _ => by kernel_rfl) ?_); clear H; intro g3 w3 HGg3 HEg3 H; refine unput (d := some _) ?_) | ((with_reducible show wpList _ _ _ (Oper.mk none (Op.store 26 (.tmp 3) _) _ _ _ _ :: _) _ _); ((with_reducible refine isSt 26 ?_); refine L_sa H rfl rfl 26 _ _ rfl 0 rfl rfl (partsA as0 rfl none 0 0) rfl rfl (by kernel_rfl) ?_; clear H; intro w3b HWw3b H; simp only [szA] at H)))
 have H2 := kp H.out.tail; clear H; have H := H2; clear H2
 clear HXC HEg3 HGg3 HWw3b
 subst hr3
 go_wp2_with (first | (go_at_call 30; refine (point_any _).mono ?_; rintro e wp ⟨rfl, hx⟩; replace H := kp (H.out.ext hx); have HXC := kp hx; clear hx) | ((with_reducible show wpList _ _ _ (Oper.mk (some 74) (Op.build 23 _) _ _ _ _ :: _) _ _); (refine L_bd (by kernel_rfl) 23 _ rfl (#[(0, .int .u8 1)]) (by kernel_rfl) (cat [Lf.v ⟨gpB, rfl⟩]) (fun w => by kernel_rfl) ?_); refine unput (d := some _) ?_) | (go_at_call 10; refine (HN3.out _).mono ?_; rintro e wn ⟨rfl, hx⟩; replace H := kp (H.out.ext hx); have HXC := kp hx; clear hx) | ((with_reducible refine isAl 5 26 ?_); (refine L_alloc H rfl 26 rfl (cat (partsA as0 rfl none 0 0)) (fun _ _ => by kernel_rfl) ?_); clear H; intro g5 w5 HGg5 HEg5 H; refine unput (d := some _) ?_) | ((with_reducible show wpList _ _ _ (Oper.mk none (Op.store 26 (.tmp 5) _) _ _ _ _ :: _) _ _); ((with_reducible refine isSt 26 ?_); refine L_sa H rfl rfl 26 _ _ rfl 0 rfl rfl (partsA as0 rfl none 0 0) rfl rfl (by kernel_rfl) ?_; clear H; intro w5b HWw5b H; simp only [szA] at H)))
 have H2 := kp H.out.tail; clear H; have H := H2; clear H2
 clear HXC HEg5 HGg5 HWw5b
 subst hr4
 go_wp2_with (first | (go_at_call 30; refine (point_any _).mono ?_; rintro e wp ⟨rfl, hx⟩; replace H := kp (H.out.ext hx); have HXC := kp hx; clear hx) | ((with_reducible show wpList _ _ _ (Oper.mk (some 74) (Op.build 23 _) _ _ _ _ :: _) _ _); (refine L_bd (by kernel_rfl) 23 _ rfl (#[(0, .int .u8 1)]) (by kernel_rfl) (cat [Lf.v ⟨gpB, rfl⟩]) (fun w => by kernel_rfl) ?_); refine unput (d := some _) ?_) | (go_at_call 10; refine (HN4.out _).mono ?_; rintro e wn ⟨rfl, hx⟩; replace H := kp (H.out.ext hx); have HXC := kp hx; clear hx) | ((with_reducible refine isAl 7 26 ?_); (refine L_alloc H rfl 26 rfl (cat (partsA as0 rfl none 0 0)) (fun _ _ => by kernel_rfl) ?_); clear H; intro g7 w7 HGg7 HEg7 H; refine unput (d := some _) ?_) | ((with_reducible show wpList _ _ _ (Oper.mk none (Op.store 26 (.tmp 7) _) _ _ _ _ :: _) _ _); ((with_reducible refine isSt 26 ?_); refine L_sa H rfl rfl 26 _ _ rfl 0 rfl rfl (partsA as0 rfl none 0 0) rfl rfl (by kernel_rfl) ?_; clear H; intro w7b HWw7b H; simp only [szA] at H)))
 have H2 := kp H.out.tail; clear H; have H := H2; clear H2
 clear HXC HEg7 HGg7 HWw7b
 clear HN1 HN2 HN3 HN4
 have HAD1 := kp (fun w => show Calls Try.prog 31 #[.agg (cat (partsA aN haN none 0 0)).toArray, .agg (ptB.map V8).toArray, .int .i64 0] w (AdmR aN ([], [], 2) w) from nm1 ▸ admit_any aN haN (.slice none 0 0) [] (fun x hx => by cases hx) (by decide) ptB rfl 0 w ((OwE.nil 0 w).slt (fun x hx => by cases hx)))
 have HAD2 := kp (fun w => show Calls Try.prog 31 #[.agg (cat (partsA aN haN none 0 0)).toArray, .agg (cat [Lf.v ⟨gpB, rfl⟩]).toArray, .int .i64 0] w (AdmR aN ([], [], 2) w) from nm2 ▸ admit_any aN haN (.slice none 0 0) [] (fun x hx => by cases hx) (by decide) gpB rfl 0 w ((OwE.nil 0 w).slt (fun x hx => by cases hx)))
 have HAD3 := kp (fun w => show Calls Try.prog 31 #[.agg (cat (partsA aN haN none 0 0)).toArray, .agg ((stB 1).map V8).toArray, .int .i64 10] w (AdmR aN (N1, [], 0) w) from nm3 ▸ admit_any aN haN (.slice none 0 0) [] (fun x hx => by cases hx) (by decide) (stB 1) rfl 10 w ((OwE.nil 0 w).slt (fun x hx => by cases hx)))
 subst hr5
 refine region_freeE H (tabS [(89, fun vQ _ => vQ = .agg (cat (partsA aN haN none 0 0)).toArray), (90, fun vQ _ => vQ = .agg (ptB.map V8).toArray), (91, fun vQ _ => ErT 2 vQ), (88, fun vQ _ => ErT 2 vQ), (92, fun vQ _ => ErA vQ), (93, fun vQ _ => vQ = .int .i64 2), (10, fun vQ _ => vQ = .int .i64 2)]) 6 7 9 92 26 (cat (partsA as0 rfl none 0 0)) 9 (tabS_trE _ _ _ (by simp only [List.forall_mem_cons]; exact ⟨monoE_eq _ _ _, monoE_eq _ _ _, (fun _ _ _ h _ => h), (fun _ _ _ h _ => h), (fun _ _ _ h _ => h), monoE_eq _ _ _, monoE_eq _ _ _, by simp⟩)) (fun _ _ => trivial) ((fun _ _ h => erA_one h)) (by kernel_rfl) (by kernel_rfl) (by kernel_rfl) (by kernel_rfl) _ _ rfl rfl (by decide) (by decide) (by decide) rfl rfl rfl (fun _ => by kernel_rfl) rfl rfl rfl (by kernel_rfl) (by kernel_rfl) (by kernel_rfl) ((by kernel_rfl)) (by kernel_rfl) ?_
 simp only [List.take_succ_cons, List.take_zero]
 refine ⟨fun _ w_ o_ S_ => ?_, fun v89 => ?_⟩
 ·clear S_
  have H := kp (H.out.ext o_)
  have HOX := kp o_
  clear o_
  go_wp2_with ((with_reducible refine isLd 26 ?_); (first | (refine L_fa H rfl 26 _ rfl 0 rfl rfl Try.underlying26 rfl (by kernel_rfl) ?_) | (refine L_fa H rfl 26 _ rfl 1 rfl rfl Try.underlying26 rfl (by kernel_rfl) ?_) | (refine L_fa H rfl 26 _ rfl 2 rfl rfl Try.underlying26 rfl (by kernel_rfl) ?_) | (refine L_fa H rfl 26 _ rfl 3 rfl rfl Try.underlying26 rfl (by kernel_rfl) ?_) | (refine L_fa H rfl 26 _ rfl 4 rfl rfl Try.underlying26 rfl (by kernel_rfl) ?_) | (refine L_fa H rfl 26 _ rfl 5 rfl rfl Try.underlying26 rfl (by kernel_rfl) ?_)); refine unput (d := some _) ?_)
  exact kso
 simp only [pA]
 refine ⟨fun _ w_ o_ S_ => ?_, fun v90 => ?_⟩
 ·clear S_
  have H := kp (H.out.ext o_)
  have HOX := kp o_
  clear o_
  go_wp2_with fail
  refine (point_any _).mono ?_
  rintro e w2 ⟨rfl, hx⟩
  have HXC := kp hx
  clear hx
  go_wp2_with fail
  exact ⟨rfl, _, rfl, fun d hd => by cases hd; exact rfl, HXC.out⟩
 simp only [pA]
 refine ⟨fun _ w_ o_ S_ => ?_, fun v91 => ?_⟩
 ·obtain rfl : v89 = .agg (cat (partsA aN haN none 0 0)).toArray := hsR S_ 89 rfl
  obtain rfl : v90 = .agg (ptB.map V8).toArray := hsR S_ 90 rfl
  clear S_
  have H := kp (H.out.ext o_)
  have HOX := kp o_
  clear o_
  go_wp2_with fail
  refine (HAD1.out _).mono ?_
  intro e w2 hrr
  obtain ⟨ad, n, c, rfl, hx⟩ := admE (by decide) hrr
  have HXC := kp hx
  clear hx hrr
  go_wp2_with fail
  exact ⟨rfl, _, rfl, fun d hd => by cases hd; exact ⟨ad, n, c, rfl⟩, HXC.out⟩
 simp only [pA]
 refine ⟨fun _ w_ o_ S_ => ?_, fun v88 => ?_⟩
 ·have h91 := kp (show ErT 2 v91 from hsR S_ 91 rfl)
  clear S_ o_
  go_wp2_with fail
  exact ⟨rfl, _, rfl, fun d hd => by cases hd; exact h91.out, Ext.refl _⟩
 simp only [pA]
 refine ⟨fun _ w_ o_ S_ => ?_, fun v92 => ?_⟩
 ·have h88 := kp (show ErT 2 v88 from hsR S_ 88 rfl)
  clear S_
  have H := kp (H.out.ext o_)
  have HOX := kp o_
  clear o_
  obtain ⟨ad, n, c, rfl⟩ := h88.out
  go_wp2_with fail
  exact ⟨rfl, _, rfl, fun d hd => by cases hd; exact ⟨ad, n, c, rfl⟩, Ext.refl _⟩
 simp only [pA]
 refine ⟨fun _ w_ o_ S_ => ?_, fun v93 => ?_⟩
 ·have h88 := kp (show ErT 2 v88 from hsR S_ 88 rfl)
  clear S_
  have H := kp (H.out.ext o_)
  have HOX := kp o_
  clear o_
  obtain ⟨ad, n, c, rfl⟩ := h88.out
  go_wp2_with fail
  exact kso
 simp only [pA]
 refine ⟨(fun h => by cases h), fun v9 => ?_⟩
 simp only [pA]
 refine ⟨(fun h => by cases h), fun _ => ?_⟩
 refine ⟨fun _ w_ o_ S_ => ?_, fun v10 => ?_⟩
 ·obtain rfl : v93 = .int .i64 2 := hsR S_ 93 rfl
  clear S_ o_
  go_wp2_with fail
  exact kso
 simp only [pA]
 clear H
 intro wn5 HOX hfin hvar
 obtain ⟨g9, csg9, hvg, hvb, hvv, H⟩ := hvar
 have HBg9 := kp hvb
 have HVg9 := kp (show v92 = .agg csg9.toArray from hvv)
 clear hvb hvv
 obtain rfl : v9 = .pointer (some ⟨g9, 0, none⟩) := hvg
 obtain rfl : v89 = .agg (cat (partsA aN haN none 0 0)).toArray := hfin 89 (by decide)
 obtain rfl : v90 = .agg (ptB.map V8).toArray := hfin 90 (by decide)
 have F91 := kp (show ErT 2 v91 from hfin 91 (by decide))
 have F88 := kp (show ErT 2 v88 from hfin 88 (by decide))
 have F92 := kp (show ErA v92 from hfin 92 (by decide))
 obtain rfl : v93 = .int .i64 2 := hfin 93 (by decide)
 obtain rfl : v10 = .int .i64 2 := hfin 10 (by decide)
 clear hfin
 simp only [List.drop_succ_cons, List.drop_zero]
 try simp only [applyS] at H
 have HXN := HOX
 have H2 := kp H.out.tail; clear H; have H := H2; clear H2
 clear F88 F91 F92 HBg9 HVg9 HOX
 subst hr6
 go_wp2_with (first | ((with_reducible refine isLd 26 ?_); (first | (refine L_fa H rfl 26 _ rfl 0 rfl rfl Try.underlying26 rfl (by kernel_rfl) ?_) | (refine L_fa H rfl 26 _ rfl 1 rfl rfl Try.underlying26 rfl (by kernel_rfl) ?_) | (refine L_fa H rfl 26 _ rfl 2 rfl rfl Try.underlying26 rfl (by kernel_rfl) ?_) | (refine L_fa H rfl 26 _ rfl 3 rfl rfl Try.underlying26 rfl (by kernel_rfl) ?_) | (refine L_fa H rfl 26 _ rfl 4 rfl rfl Try.underlying26 rfl (by kernel_rfl) ?_) | (refine L_fa H rfl 26 _ rfl 5 rfl rfl Try.underlying26 rfl (by kernel_rfl) ?_)); refine unput (d := some _) ?_) | ((with_reducible show wpList _ _ _ (Oper.mk (some 96) (Op.build 23 _) _ _ _ _ :: _) _ _); (refine L_bd (by kernel_rfl) 23 _ rfl (#[(0, .int .u8 1)]) (by kernel_rfl) (cat [Lf.v ⟨gpB, rfl⟩]) (fun w => by kernel_rfl) ?_); refine unput (d := some _) ?_) | (go_at_call 31; refine (HAD2.out _).mono ?_; intro e w2 hrr; obtain ⟨ad, n, c, rfl, hx⟩ := admE (by decide) hrr; clear hrr; replace H := kp (H.out.ext hx); have HXC := kp hx; clear hx) | ((with_reducible refine isAl 11 26 ?_); (refine L_alloc H rfl 26 rfl (cat (partsA as0 rfl none 0 0)) (fun _ _ => by kernel_rfl) ?_); clear H; intro g11 w11 HGg11 HEg11 H; refine unput (d := some _) ?_) | ((with_reducible show wpList _ _ _ (Oper.mk none (Op.store 26 (.tmp 11) _) _ _ _ _ :: _) _ _); ((with_reducible refine isSt 26 ?_); refine L_sa H rfl rfl 26 _ _ rfl 0 rfl rfl (partsA as0 rfl ad n c) rfl rfl (by kernel_rfl) ?_; clear H; intro w11b HWw11b H; simp only [szA] at H)))
 have H2 := kp H.out.tail; clear H; have H := H2; clear H2
 clear HXC HEg11 HGg11 HWw11b HAD1 HAD2
 have HG1 := kp (H.out.lt 0 rfl)
 have HS1 := kp (fun w => show Calls Try.prog 32 #[.int .u8 1] w fun e w' => e = .returned (.agg ((stB 1).map V8).toArray) ∧ Ext w w' from sta_any 1 w)
 have HS2 := kp (fun w => show Calls Try.prog 32 #[.int .u8 2] w fun e w' => e = .returned (.agg ((stB 2).map V8).toArray) ∧ Ext w w' from sta_any 2 w)
 have HS9 := kp (fun w => show Calls Try.prog 32 #[.int .u8 9] w fun e w' => e = .returned (.agg ((stB 9).map V8).toArray) ∧ Ext w w' from sta_any 9 w)
 subst hr7
 refine wp_region_any (by kernel_rfl) ?_
 change wpAny _ _ _ _ _ _ _ (World.drew _)
 have HXD := kp (Ext.drew w11b)
 have H2 := kp (H.out.ext HXD.out)
 clear H
 have H := H2
 clear H2
 refine any_join 6 #[true, true, false, false, false, false, false, false] [(101, .agg (cat (partsA aN haN none 0 0)).toArray), (102, .agg ((stB 1).map V8).toArray)] (fun W' => Kp (Loc w W' [(g1, 26, cat (partsA aN haN none 0 0))]) ∧ Kp (Ext w11b W')) (fun hJ => ?paths) ?main
 case paths =>
  refine any_two (i := 0) (j := 1) (by kernel_rfl) rfl rfl (fun K hK => ?_) (fun K hK => ?_)
  ·change wpList _ _ _ [Oper.mk _ _ _ _ _ _] _ _
   go_wp2_with (first | ((with_reducible refine isLd 26 ?_); (first | (refine L_fa H rfl 26 _ rfl 0 rfl rfl Try.underlying26 rfl (by kernel_rfl) ?_) | (refine L_fa H rfl 26 _ rfl 1 rfl rfl Try.underlying26 rfl (by kernel_rfl) ?_) | (refine L_fa H rfl 26 _ rfl 2 rfl rfl Try.underlying26 rfl (by kernel_rfl) ?_) | (refine L_fa H rfl 26 _ rfl 3 rfl rfl Try.underlying26 rfl (by kernel_rfl) ?_) | (refine L_fa H rfl 26 _ rfl 4 rfl rfl Try.underlying26 rfl (by kernel_rfl) ?_) | (refine L_fa H rfl 26 _ rfl 5 rfl rfl Try.underlying26 rfl (by kernel_rfl) ?_)); refine unput (d := some _) ?_))
   (refine hK _ _ ?_; clear hK K)
   (refine any_one (i := 1) (by kernel_rfl) rfl (fun K hK => ?_); change wpList _ _ _ [Oper.mk _ _ _ _ _ _] _ _)
   go_wp2_with (first | (go_at_call 32; refine (HS1.out _).mono ?_; rintro e ws ⟨rfl, hx⟩; replace H := kp (H.out.ext hx); have HXC := kp hx; clear hx))
   (refine hK _ _ ?_; clear hK K)
   exact hJ _ _ _ (by kernel_rfl) (by kernel_rfl) ⟨H, kp (HXD.out.trans HXC.out)⟩
  ·change wpList _ _ _ [Oper.mk _ _ _ _ _ _] _ _
   go_wp2_with (first | (go_at_call 32; refine (HS1.out _).mono ?_; rintro e ws ⟨rfl, hx⟩; replace H := kp (H.out.ext hx); have HXC := kp hx; clear hx))
   (refine hK _ _ ?_; clear hK K)
   (refine any_one (i := 0) (by kernel_rfl) rfl (fun K hK => ?_); change wpList _ _ _ [Oper.mk _ _ _ _ _ _] _ _)
   go_wp2_with (first | ((with_reducible refine isLd 26 ?_); (first | (refine L_fa H rfl 26 _ rfl 0 rfl rfl Try.underlying26 rfl (by kernel_rfl) ?_) | (refine L_fa H rfl 26 _ rfl 1 rfl rfl Try.underlying26 rfl (by kernel_rfl) ?_) | (refine L_fa H rfl 26 _ rfl 2 rfl rfl Try.underlying26 rfl (by kernel_rfl) ?_) | (refine L_fa H rfl 26 _ rfl 3 rfl rfl Try.underlying26 rfl (by kernel_rfl) ?_) | (refine L_fa H rfl 26 _ rfl 4 rfl rfl Try.underlying26 rfl (by kernel_rfl) ?_) | (refine L_fa H rfl 26 _ rfl 5 rfl rfl Try.underlying26 rfl (by kernel_rfl) ?_)); refine unput (d := some _) ?_))
   (refine hK _ _ ?_; clear hK K)
   exact hJ _ _ _ (by kernel_rfl) (by kernel_rfl) ⟨H, kp (HXD.out.trans HXC.out)⟩
 case main =>
 clear H HXD
 rintro wj ⟨H, HXD⟩
 simp only [putL, Act.put, List.setIfInBounds_toArray, List.set_cons_zero, List.set_cons_succ]
 (refine any_one (i := 2) (by kernel_rfl) rfl (fun K hK => ?_); change wpList _ _ _ [Oper.mk _ _ _ _ _ _] _ _)
 go_wp2_with (first | (go_at_call 31; have HSZ := kp H.out.1.size; refine (HAD3.out _).mono ?_; intro e w2 hrr; obtain ⟨ad, n, c, rfl, ho, hx⟩ := adm0 hrr; have HO := kp (owns_weak ho HSZ.out); clear hrr ho HSZ; replace H := kp (H.out.ext hx); have HXC := kp hx; clear hx))
 (refine hK _ _ ?_; clear hK K)
 (refine any_one (i := 3) (by kernel_rfl) rfl (fun K hK => ?_); change wpList _ _ _ [Oper.mk _ _ _ _ _ _] _ _)
 go_wp2_with fail
 (refine hK _ _ ?_; clear hK K)
 (refine any_take (i := 4) (v := ?_) rfl rfl (by kernel_rfl) (by kernel_rfl) (by kernel_rfl) (fun _ _ _ h => h) (Or.inl ⟨by rfl, ?_⟩) ?_; rotate_left; focus (intro w; go_simp; first | done | (with_reducible rfl))); simp only [List.setIfInBounds_toArray, Act.put, List.set_cons_zero, List.set_cons_succ]
 (refine any_take (i := 5) (v := ?_) rfl rfl (by kernel_rfl) (by kernel_rfl) (by kernel_rfl) (fun _ _ _ h => h) (Or.inl ⟨by rfl, ?_⟩) ?_; rotate_left; focus (intro w; go_simp; first | done | (with_reducible rfl))); simp only [List.setIfInBounds_toArray, Act.put, List.set_cons_zero, List.set_cons_succ]
 (refine any_one (i := 6) (by kernel_rfl) rfl (fun K hK => ?_); change wpList _ _ _ [Oper.mk _ _ _ _ _ _] _ _)
 have HG1 := kp (H.out.at 0 rfl)
 go_wp2_with (first | ((with_reducible refine isSt 26 ?_); refine L_sa H rfl rfl 26 _ _ rfl 0 rfl rfl (partsA aN haN ad n c) rfl rfl (by kernel_rfl) ?_; clear H; intro w7c HWw7c H; simp only [szA] at H))
 (refine hK _ _ ?_; clear hK K)
 (refine any_one (i := 7) (by kernel_rfl) rfl (fun K hK => ?_); change wpList _ _ _ [Oper.mk _ _ _ _ _ _] _ _)
 go_wp2_with fail
 (refine hK _ _ ?_; clear hK K)
 refine wpAny_done (by kernel_rfl) ?_ _
 have HQ := kp (show OwE w.heap.size w7c (.slice ad n c) N1 from owns_wroteT HO.out HWw7c.out HG1.out (show 39 ≠ 26 from by decide))
 clear HO HG1 HXD HXC HAD3 HWw7c
 have HO := HQ
 clear HQ
 go_wp2_with fail
 subst hr8
 go_wp2_with (first | (go_at_call 32; refine (HS1.out _).mono ?_; rintro e ws ⟨rfl, hx⟩; replace H := kp (H.out.ext hx); have HXC := kp hx; clear hx) | (go_at_call 33; have HXK := HXC; clear HXC; refine (asks_any (stB 1#8) (hs6 1#8) _).mono ?_; rintro e wk ⟨p1, i1, j1, q1, m1, o1, r1, s1, u1, rfl, hb0, hb1, hb2, hx⟩; have HSZ := kp H.out.1.size; have HB := kp (And.intro (owns_weak hb0 HSZ.out) (owns_weak hb1 HSZ.out)); clear hb0 hb1 hb2 HSZ; replace H := kp (H.out.ext hx); have HXC := kp hx; clear hx; have HXA := HXC; clear HXC) | ((with_reducible refine isAl 14 82 ?_); (refine L_alloc H rfl 82 rfl (cat (askZ)) (fun _ _ => by kernel_rfl) ?_); clear H; intro g14 w14 HGg14 HEg14 H; refine unput (d := some _) ?_) | ((with_reducible show wpList _ _ _ (Oper.mk none (Op.store 82 (.tmp 14) _) _ _ _ _ :: _) _ _); ((with_reducible refine isSt 82 ?_); refine L_sa H rfl rfl 82 _ _ rfl 0 rfl rfl (askP (stB 1#8) (hs6 1#8) p1 i1 j1 q1 m1 o1 r1 s1 u1) rfl rfl (by kernel_rfl) ?_; clear H; intro w14b HWw14b H; simp only [szA] at H)))
 have HE14 := kp (HXA.out.trans (ext_wrote HEg14.out HWw14b.out (Nat.le_of_eq HGg14.out.symm)))
 have HQ := kp (ownsT_ext HO.out (HXK.out.trans HE14.out))
 have HBD := kp (show NB w.heap.size w14b [(.slice p1 i1 j1, bAu), (.slice q1 m1 o1, bRq)] from NB.cons (owns_ext HB.out.1 (ext_wrote HEg14.out HWw14b.out (Nat.le_of_eq HGg14.out.symm))) (NB.cons (owns_ext HB.out.2 (ext_wrote HEg14.out HWw14b.out (Nat.le_of_eq HGg14.out.symm))) (fun p hp => by cases hp)))
 clear HO HB HE14 HXA HXK HEg14 HGg14 HWw14b
 have HO := HQ
 clear HQ
 subst hr9
 go_wp2_with (first | ((with_reducible show wpList _ _ _ (Oper.mk (some 109) (Op.build 87 _) _ _ _ _ :: _) _ _); (refine L_bd (by kernel_rfl) 87 _ rfl (#[(0, .int .u16 2)]) (by kernel_rfl) (cat (partsRq 2 0 zv6 none 0 0)) (fun w => by kernel_rfl) ?_); refine unput (d := some _) ?_) | (go_at_call 34; refine (encReq_any 2 0 (by decide) (by decide) _).mono ?_; rintro e we ⟨v, rfl, ho, hx⟩; obtain ⟨a15, n15, c15, rfl⟩ := owns_form2 ho; have HB := kp (show OwB w.heap.size we (.slice a15 n15 c15) bWk from owns_weak ho H.out.1.size); clear ho; (replace H := kp (H.out.ext hx); have HXC := kp hx; clear hx; have HQ := kp (ownsT_ext HO.out HXC.out); clear HO; have HO := HQ; clear HQ; have HQ := kp (NB.cons (p := (Value.slice a15 n15 c15, bWk)) HB.out (HBD.out.ext HXC.out)); clear HBD HB HXC; have HBD := HQ; clear HQ)))
 subst hr10
 go_wp2_with (first | ((with_reducible show wpList _ _ _ (Oper.mk (some 114) (Op.build 74 _) _ _ _ _ :: _) _ _); (refine L_bd (by kernel_rfl) 74 _ rfl (#[(0, .int .u16 3), (1, .int .u16 65535)]) (by kernel_rfl) (cat (partsAu 3 65535 0)) (fun w => by kernel_rfl) ?_); refine unput (d := some _) ?_) | (go_at_call 35; refine (encAuth_any 3 65535 0 (by decide) (by decide) (by decide) _).mono ?_; rintro e we ⟨v, rfl, ho, hx⟩; obtain ⟨a17, n17, c17, rfl⟩ := owns_form2 ho; have HB := kp (show OwB w.heap.size we (.slice a17 n17 c17) bOt from owns_weak ho H.out.1.size); clear ho; (replace H := kp (H.out.ext hx); have HXC := kp hx; clear hx; have HQ := kp (ownsT_ext HO.out HXC.out); clear HO; have HO := HQ; clear HQ; have HQ := kp (NB.cons (p := (Value.slice a17 n17 c17, bOt)) HB.out (HBD.out.ext HXC.out)); clear HBD HB HXC; have HBD := HQ; clear HQ)))
 subst hr11
 go_wp2_with (first | ((with_reducible show wpList _ _ _ (Oper.mk (some 119) (Op.build 74 _) _ _ _ _ :: _) _ _); (refine L_bd (by kernel_rfl) 74 _ rfl (#[(1, .int .u16 3)]) (by kernel_rfl) (cat (partsAu 0 3 0)) (fun w => by kernel_rfl) ?_); refine unput (d := some _) ?_) | (go_at_call 35; refine (encAuth_any 0 3 0 (by decide) (by decide) (by decide) _).mono ?_; rintro e we ⟨v, rfl, ho, hx⟩; obtain ⟨a19, n19, c19, rfl⟩ := owns_form2 ho; have HB := kp (show OwB w.heap.size we (.slice a19 n19 c19) bSt from owns_weak ho H.out.1.size); clear ho; (replace H := kp (H.out.ext hx); have HXC := kp hx; clear hx; have HQ := kp (ownsT_ext HO.out HXC.out); clear HO; have HO := HQ; clear HQ; have HQ := kp (NB.cons (p := (Value.slice a19 n19 c19, bSt)) HB.out (HBD.out.ext HXC.out)); clear HBD HB HXC; have HBD := HQ; clear HQ)))
 subst hr12
 go_wp2_with (first | (go_at_call 32; refine (HS9.out _).mono ?_; rintro e ws ⟨rfl, hx⟩; replace H := kp (H.out.ext hx); have HXC := kp hx; clear hx; have HQ := kp (ownsT_ext HO.out HXC.out); clear HO; have HO := HQ; clear HQ; have HQ := kp (HBD.out.ext HXC.out); clear HBD HXC; have HBD := HQ; clear HQ) | ((with_reducible show wpList _ _ _ (Oper.mk (some 125) (Op.build 87 _) _ _ _ _ :: _) _ _); (refine L_bd (by kernel_rfl) 87 _ rfl (#[(0, .int .u16 7), (1, .int .u16 9), (2, .agg ((stB 9).map V8).toArray)]) (by kernel_rfl) (cat (partsRq 7 9 ⟨stB 9, hs6 9⟩ none 0 0)) (fun w => by kernel_rfl) ?_); refine unput (d := some _) ?_) | (go_at_call 34; refine (encReq_yes 7 9 (by decide) (by decide) (stB 9) (hs6 9) _).mono ?_; rintro e we ⟨v, rfl, ho, hx⟩; obtain ⟨a21, n21, c21, rfl⟩ := owns_form2 ho; have HB := kp (show OwB w.heap.size we (.slice a21 n21 c21) bAg from owns_weak ho H.out.1.size); clear ho; (replace H := kp (H.out.ext hx); have HXC := kp hx; clear hx; have HQ := kp (ownsT_ext HO.out HXC.out); clear HO; have HO := HQ; clear HQ; have HQ := kp (NB.cons (p := (Value.slice a21 n21 c21, bAg)) HB.out (HBD.out.ext HXC.out)); clear HBD HB HXC; have HBD := HQ; clear HQ)))
 clear HS9
 subst hr13
 go_wp2_with (first | ((with_reducible refine isLd 26 ?_); (first | (refine L_fa H rfl 26 _ rfl 0 rfl rfl Try.underlying26 rfl (by kernel_rfl) ?_) | (refine L_fa H rfl 26 _ rfl 1 rfl rfl Try.underlying26 rfl (by kernel_rfl) ?_) | (refine L_fa H rfl 26 _ rfl 2 rfl rfl Try.underlying26 rfl (by kernel_rfl) ?_) | (refine L_fa H rfl 26 _ rfl 3 rfl rfl Try.underlying26 rfl (by kernel_rfl) ?_) | (refine L_fa H rfl 26 _ rfl 4 rfl rfl Try.underlying26 rfl (by kernel_rfl) ?_) | (refine L_fa H rfl 26 _ rfl 5 rfl rfl Try.underlying26 rfl (by kernel_rfl) ?_)); refine unput (d := some _) ?_) | ((with_reducible refine isLd 31 ?_); refine L_fg H rfl 31 _ rfl 0 rfl _ rfl _ rfl (partsFr (dtH (stB 1)) (dt_ok (hs6 1)) none 0 0) rfl Try.underlying31 rfl (by kernel_rfl) ?_; refine unput (d := some _) ?_) | (go_at_call 36; have HSZ := kp H.out.1.size; refine (nA1_any ad n c none 0 0 _ w.heap.size w.heap.size HO.out (ownsT_nil _ _ _ _)).mono ?_; rintro e wa ⟨ad, n, c, rfl, ho, hx⟩; clear HO; have HO := kp (owns_weak ho HSZ.out); clear ho HSZ; replace H := kp (H.out.ext hx); have HXC := kp hx; clear hx; have HQ := kp (HBD.out.ext HXC.out); clear HBD HXC; have HBD := HQ; clear HQ; have HG1 := kp (H.out.at 1 rfl)) | ((with_reducible show wpList _ _ _ (Oper.mk none (Op.store 26 (.tmp 1) _) _ _ _ _ :: _) _ _); ((with_reducible refine isSt 26 ?_); refine L_sa H rfl rfl 26 _ _ rfl 1 rfl rfl (partsA aN haN ad n c) rfl rfl (by kernel_rfl) ?_; clear H; intro w13c HWw13c H; simp only [ssA, szA] at H)))
 have HQ := kp (show OwE w.heap.size w13c (.slice ad n c) N2 from owns_wroteT HO.out HWw13c.out HG1.out (show 39 ≠ 26 from by decide))
 clear HO
 have HO := HQ
 clear HQ
 have HQ := kp (HBD.out.wrote HWw13c.out HG1.out (show 5 ≠ 26 from by decide))
 clear HBD HG1 HWw13c
 have HBD := HQ
 clear HQ
 subst hr14
 refine wp_region_any (by kernel_rfl) ?_
 change wpAny _ _ _ _ _ _ _ (World.drew _)
 have H2 := kp (H.out.ext (Ext.drew _))
 have HO2 := kp (ownsT_ext HO.out (Ext.drew _))
 have HB2 := kp (HBD.out.ext (Ext.drew _))
 clear H HO HBD
 have H := H2
 have HO := HO2
 have HBD := HB2
 clear H2 HO2 HB2
 (refine any_take (i := 2) (v := ?_) rfl rfl (by kernel_rfl) (by kernel_rfl) (by kernel_rfl) (fun _ _ _ h => h) (Or.inl ⟨by rfl, ?_⟩) ?_; rotate_left; focus (intro w; go_simp; first | done | (with_reducible rfl))); simp only [List.setIfInBounds_toArray, Act.put, List.set_cons_zero, List.set_cons_succ]
 refine any_join 6 #[true, true, true, true, false, false, false, false, false, false] [(137, .agg (cat (partsA aN haN ad n c)).toArray), (138, .agg ((stB 1).map V8).toArray), (140, .agg (cat (partsFr (reqH (stB 1) 0) (req_ok (hs6 1) k0.1 k0.2) a15 n15 c15)).toArray)] (fun W' => Kp (Loc w W' [(g14, 82, cat (askP (stB 1#8) (hs6 1#8) p1 i1 j1 q1 m1 o1 r1 s1 u1)), (g1, 26, cat (partsA aN haN ad n c))]) ∧ Kp (OwE w.heap.size W' (.slice ad n c) N2) ∧ Kp (NB w.heap.size W' [(Value.slice a21 n21 c21, bAg), (Value.slice a19 n19 c19, bSt), (Value.slice a17 n17 c17, bOt), (Value.slice a15 n15 c15, bWk), (Value.slice p1 i1 j1, bAu), (Value.slice q1 m1 o1, bRq)])) (fun hJ => ?paths) ?main
 case paths =>
  refine any_two (i := 0) (j := 1) (by kernel_rfl) rfl rfl (fun K hK => ?_) (fun K hK => ?_)
  ·change wpList _ _ _ [Oper.mk _ _ _ _ _ _] _ _
   go_wp2_with (first | ((with_reducible refine isLd 26 ?_); (first | (refine L_fa H rfl 26 _ rfl 0 rfl rfl Try.underlying26 rfl (by kernel_rfl) ?_) | (refine L_fa H rfl 26 _ rfl 1 rfl rfl Try.underlying26 rfl (by kernel_rfl) ?_) | (refine L_fa H rfl 26 _ rfl 2 rfl rfl Try.underlying26 rfl (by kernel_rfl) ?_) | (refine L_fa H rfl 26 _ rfl 3 rfl rfl Try.underlying26 rfl (by kernel_rfl) ?_) | (refine L_fa H rfl 26 _ rfl 4 rfl rfl Try.underlying26 rfl (by kernel_rfl) ?_) | (refine L_fa H rfl 26 _ rfl 5 rfl rfl Try.underlying26 rfl (by kernel_rfl) ?_)); refine unput (d := some _) ?_))
   (refine hK _ _ ?_; clear hK K)
   (refine any_one (i := 1) (by kernel_rfl) rfl (fun K hK => ?_); change wpList _ _ _ [Oper.mk _ _ _ _ _ _] _ _)
   go_wp2_with (first | (go_at_call 32; refine (HS1.out _).mono ?_; rintro e ws ⟨rfl, hx⟩; replace H := kp (H.out.ext hx); have HXC := kp hx; clear hx; have HQ := kp (ownsT_ext HO.out HXC.out); clear HO; have HO := HQ; clear HQ; have HQ := kp (HBD.out.ext HXC.out); clear HBD HXC; have HBD := HQ; clear HQ))
   (refine hK _ _ ?_; clear hK K)
   (refine any_one (i := 3) (by kernel_rfl) rfl (fun K hK => ?_); change wpList _ _ _ [Oper.mk _ _ _ _ _ _] _ _)
   go_wp2_with (first | (go_at_call 37; refine (frame_any (stB 1) (hs6 1) 0 k0.1 k0.2 a15 n15 c15 _).mono ?_; rintro e wf ⟨rfl, hx⟩; replace H := kp (H.out.ext hx); have HXC := kp hx; clear hx; have HQ := kp (ownsT_ext HO.out HXC.out); clear HO; have HO := HQ; clear HQ; have HQ := kp (HBD.out.ext HXC.out); clear HBD HXC; have HBD := HQ; clear HQ))
   (refine hK _ _ ?_; clear hK K)
   exact hJ _ _ _ (by kernel_rfl) (by kernel_rfl) ⟨H, HO, HBD⟩
  ·change wpList _ _ _ [Oper.mk _ _ _ _ _ _] _ _
   go_wp2_with (first | (go_at_call 32; refine (HS1.out _).mono ?_; rintro e ws ⟨rfl, hx⟩; replace H := kp (H.out.ext hx); have HXC := kp hx; clear hx; have HQ := kp (ownsT_ext HO.out HXC.out); clear HO; have HO := HQ; clear HQ; have HQ := kp (HBD.out.ext HXC.out); clear HBD HXC; have HBD := HQ; clear HQ))
   (refine hK _ _ ?_; clear hK K)
   refine any_two (i := 0) (j := 3) (by kernel_rfl) rfl rfl (fun K hK => ?_) (fun K hK => ?_)
   ·change wpList _ _ _ [Oper.mk _ _ _ _ _ _] _ _
    go_wp2_with (first | ((with_reducible refine isLd 26 ?_); (first | (refine L_fa H rfl 26 _ rfl 0 rfl rfl Try.underlying26 rfl (by kernel_rfl) ?_) | (refine L_fa H rfl 26 _ rfl 1 rfl rfl Try.underlying26 rfl (by kernel_rfl) ?_) | (refine L_fa H rfl 26 _ rfl 2 rfl rfl Try.underlying26 rfl (by kernel_rfl) ?_) | (refine L_fa H rfl 26 _ rfl 3 rfl rfl Try.underlying26 rfl (by kernel_rfl) ?_) | (refine L_fa H rfl 26 _ rfl 4 rfl rfl Try.underlying26 rfl (by kernel_rfl) ?_) | (refine L_fa H rfl 26 _ rfl 5 rfl rfl Try.underlying26 rfl (by kernel_rfl) ?_)); refine unput (d := some _) ?_))
    (refine hK _ _ ?_; clear hK K)
    (refine any_one (i := 3) (by kernel_rfl) rfl (fun K hK => ?_); change wpList _ _ _ [Oper.mk _ _ _ _ _ _] _ _)
    go_wp2_with (first | (go_at_call 37; refine (frame_any (stB 1) (hs6 1) 0 k0.1 k0.2 a15 n15 c15 _).mono ?_; rintro e wf ⟨rfl, hx⟩; replace H := kp (H.out.ext hx); have HXC := kp hx; clear hx; have HQ := kp (ownsT_ext HO.out HXC.out); clear HO; have HO := HQ; clear HQ; have HQ := kp (HBD.out.ext HXC.out); clear HBD HXC; have HBD := HQ; clear HQ))
    (refine hK _ _ ?_; clear hK K)
    exact hJ _ _ _ (by kernel_rfl) (by kernel_rfl) ⟨H, HO, HBD⟩
   ·change wpList _ _ _ [Oper.mk _ _ _ _ _ _] _ _
    go_wp2_with (first | (go_at_call 37; refine (frame_any (stB 1) (hs6 1) 0 k0.1 k0.2 a15 n15 c15 _).mono ?_; rintro e wf ⟨rfl, hx⟩; replace H := kp (H.out.ext hx); have HXC := kp hx; clear hx; have HQ := kp (ownsT_ext HO.out HXC.out); clear HO; have HO := HQ; clear HQ; have HQ := kp (HBD.out.ext HXC.out); clear HBD HXC; have HBD := HQ; clear HQ))
    (refine hK _ _ ?_; clear hK K)
    (refine any_one (i := 0) (by kernel_rfl) rfl (fun K hK => ?_); change wpList _ _ _ [Oper.mk _ _ _ _ _ _] _ _)
    go_wp2_with (first | ((with_reducible refine isLd 26 ?_); (first | (refine L_fa H rfl 26 _ rfl 0 rfl rfl Try.underlying26 rfl (by kernel_rfl) ?_) | (refine L_fa H rfl 26 _ rfl 1 rfl rfl Try.underlying26 rfl (by kernel_rfl) ?_) | (refine L_fa H rfl 26 _ rfl 2 rfl rfl Try.underlying26 rfl (by kernel_rfl) ?_) | (refine L_fa H rfl 26 _ rfl 3 rfl rfl Try.underlying26 rfl (by kernel_rfl) ?_) | (refine L_fa H rfl 26 _ rfl 4 rfl rfl Try.underlying26 rfl (by kernel_rfl) ?_) | (refine L_fa H rfl 26 _ rfl 5 rfl rfl Try.underlying26 rfl (by kernel_rfl) ?_)); refine unput (d := some _) ?_))
    (refine hK _ _ ?_; clear hK K)
    exact hJ _ _ _ (by kernel_rfl) (by kernel_rfl) ⟨H, HO, HBD⟩
 case main =>
 clear H HO HBD
 rintro wj ⟨H, HO, HBD⟩
 simp only [putL, Act.put, List.setIfInBounds_toArray, List.set_cons_zero, List.set_cons_succ]
 (refine any_one (i := 4) (by kernel_rfl) rfl (fun K hK => ?_); change wpList _ _ _ [Oper.mk _ _ _ _ _ _] _ _)
 go_wp2_with (first | (go_at_call 36; have HSZ := kp H.out.1.size; refine (nA2_any ad n c a15 n15 c15 _ w.heap.size w.heap.size HO.out (HBD.out (.slice a15 n15 c15, bWk) (by simp))).mono ?_; rintro e wa ⟨ad, n, c, rfl, ho, hx⟩; clear HO; have HO := kp (owns_weak ho HSZ.out); clear ho HSZ; replace H := kp (H.out.ext hx); have HXC := kp hx; clear hx; have HQ := kp (HBD.out.ext HXC.out); clear HBD HXC; have HBD := HQ; clear HQ; have HG1 := kp (H.out.at 1 rfl)))
 (refine hK _ _ ?_; clear hK K)
 (refine any_one (i := 5) (by kernel_rfl) rfl (fun K hK => ?_); change wpList _ _ _ [Oper.mk _ _ _ _ _ _] _ _)
 go_wp2_with fail
 (refine hK _ _ ?_; clear hK K)
 (refine any_take (i := 6) (v := ?_) rfl rfl (by kernel_rfl) (by kernel_rfl) (by kernel_rfl) (fun _ _ _ h => h) (Or.inl ⟨by rfl, ?_⟩) ?_; rotate_left; focus (intro w; go_simp; first | done | (with_reducible rfl))); simp only [List.setIfInBounds_toArray, Act.put, List.set_cons_zero, List.set_cons_succ]
 (refine any_take (i := 7) (v := ?_) rfl rfl (by kernel_rfl) (by kernel_rfl) (by kernel_rfl) (fun _ _ _ h => h) (Or.inl ⟨by rfl, ?_⟩) ?_; rotate_left; focus (intro w; go_simp; first | done | (with_reducible rfl))); simp only [List.setIfInBounds_toArray, Act.put, List.set_cons_zero, List.set_cons_succ]
 (refine any_one (i := 8) (by kernel_rfl) rfl (fun K hK => ?_); change wpList _ _ _ [Oper.mk _ _ _ _ _ _] _ _)
 go_wp2_with (first | ((with_reducible show wpList _ _ _ (Oper.mk none (Op.store 26 (.tmp 1) _) _ _ _ _ :: _) _ _); ((with_reducible refine isSt 26 ?_); refine L_sa H rfl rfl 26 _ _ rfl 1 rfl rfl (partsA aN haN ad n c) rfl rfl (by kernel_rfl) ?_; clear H; intro w14c HWw14c H; simp only [ssA, szA] at H)))
 (refine hK _ _ ?_; clear hK K)
 (refine any_one (i := 9) (by kernel_rfl) rfl (fun K hK => ?_); change wpList _ _ _ [Oper.mk _ _ _ _ _ _] _ _)
 go_wp2_with fail
 (refine hK _ _ ?_; clear hK K)
 refine wpAny_done (by kernel_rfl) ?_ _
 have HQ := kp (show OwE w.heap.size w14c (.slice ad n c) N3 from owns_wroteT HO.out HWw14c.out HG1.out (show 39 ≠ 26 from by decide))
 clear HO
 have HO := HQ
 clear HQ
 have HQ := kp (HBD.out.wrote HWw14c.out HG1.out (show 5 ≠ 26 from by decide))
 clear HBD HG1 HWw14c
 have HBD := HQ
 clear HQ
 go_wp2_with fail
 subst hr15
 refine wp_region_any (by kernel_rfl) ?_
 change wpAny _ _ _ _ _ _ _ (World.drew _)
 have H2 := kp (H.out.ext (Ext.drew _))
 have HO2 := kp (ownsT_ext HO.out (Ext.drew _))
 have HB2 := kp (HBD.out.ext (Ext.drew _))
 clear H HO HBD
 have H := H2
 have HO := HO2
 have HBD := HB2
 clear H2 HO2 HB2
 (refine any_take (i := 2) (v := ?_) rfl rfl (by kernel_rfl) (by kernel_rfl) (by kernel_rfl) (fun _ _ _ h => h) (Or.inl ⟨by rfl, ?_⟩) ?_; rotate_left; focus (intro w; go_simp; first | done | (with_reducible rfl))); simp only [List.setIfInBounds_toArray, Act.put, List.set_cons_zero, List.set_cons_succ]
 refine any_join 6 #[true, true, true, true, false, false, false, false, false, false] [(145, .agg (cat (partsA aN haN ad n c)).toArray), (146, .agg ((stB 2).map V8).toArray), (148, .agg (cat (partsFr (reqH (stB 2) 11) (req_ok (hs6 2) k11.1 k11.2) a17 n17 c17)).toArray)] (fun W' => Kp (Loc w W' [(g14, 82, cat (askP (stB 1#8) (hs6 1#8) p1 i1 j1 q1 m1 o1 r1 s1 u1)), (g1, 26, cat (partsA aN haN ad n c))]) ∧ Kp (OwE w.heap.size W' (.slice ad n c) N3) ∧ Kp (NB w.heap.size W' [(Value.slice a21 n21 c21, bAg), (Value.slice a19 n19 c19, bSt), (Value.slice a17 n17 c17, bOt), (Value.slice a15 n15 c15, bWk), (Value.slice p1 i1 j1, bAu), (Value.slice q1 m1 o1, bRq)])) (fun hJ => ?paths) ?main
 case paths =>
  refine any_two (i := 0) (j := 1) (by kernel_rfl) rfl rfl (fun K hK => ?_) (fun K hK => ?_)
  ·change wpList _ _ _ [Oper.mk _ _ _ _ _ _] _ _
   go_wp2_with (first | ((with_reducible refine isLd 26 ?_); (first | (refine L_fa H rfl 26 _ rfl 0 rfl rfl Try.underlying26 rfl (by kernel_rfl) ?_) | (refine L_fa H rfl 26 _ rfl 1 rfl rfl Try.underlying26 rfl (by kernel_rfl) ?_) | (refine L_fa H rfl 26 _ rfl 2 rfl rfl Try.underlying26 rfl (by kernel_rfl) ?_) | (refine L_fa H rfl 26 _ rfl 3 rfl rfl Try.underlying26 rfl (by kernel_rfl) ?_) | (refine L_fa H rfl 26 _ rfl 4 rfl rfl Try.underlying26 rfl (by kernel_rfl) ?_) | (refine L_fa H rfl 26 _ rfl 5 rfl rfl Try.underlying26 rfl (by kernel_rfl) ?_)); refine unput (d := some _) ?_))
   (refine hK _ _ ?_; clear hK K)
   (refine any_one (i := 1) (by kernel_rfl) rfl (fun K hK => ?_); change wpList _ _ _ [Oper.mk _ _ _ _ _ _] _ _)
   go_wp2_with (first | (go_at_call 32; refine (HS2.out _).mono ?_; rintro e ws ⟨rfl, hx⟩; replace H := kp (H.out.ext hx); have HXC := kp hx; clear hx; have HQ := kp (ownsT_ext HO.out HXC.out); clear HO; have HO := HQ; clear HQ; have HQ := kp (HBD.out.ext HXC.out); clear HBD HXC; have HBD := HQ; clear HQ))
   (refine hK _ _ ?_; clear hK K)
   (refine any_one (i := 3) (by kernel_rfl) rfl (fun K hK => ?_); change wpList _ _ _ [Oper.mk _ _ _ _ _ _] _ _)
   go_wp2_with (first | (go_at_call 37; refine (frame_any (stB 2) (hs6 2) 11 k11.1 k11.2 a17 n17 c17 _).mono ?_; rintro e wf ⟨rfl, hx⟩; replace H := kp (H.out.ext hx); have HXC := kp hx; clear hx; have HQ := kp (ownsT_ext HO.out HXC.out); clear HO; have HO := HQ; clear HQ; have HQ := kp (HBD.out.ext HXC.out); clear HBD HXC; have HBD := HQ; clear HQ))
   (refine hK _ _ ?_; clear hK K)
   exact hJ _ _ _ (by kernel_rfl) (by kernel_rfl) ⟨H, HO, HBD⟩
  ·change wpList _ _ _ [Oper.mk _ _ _ _ _ _] _ _
   go_wp2_with (first | (go_at_call 32; refine (HS2.out _).mono ?_; rintro e ws ⟨rfl, hx⟩; replace H := kp (H.out.ext hx); have HXC := kp hx; clear hx; have HQ := kp (ownsT_ext HO.out HXC.out); clear HO; have HO := HQ; clear HQ; have HQ := kp (HBD.out.ext HXC.out); clear HBD HXC; have HBD := HQ; clear HQ))
   (refine hK _ _ ?_; clear hK K)
   refine any_two (i := 0) (j := 3) (by kernel_rfl) rfl rfl (fun K hK => ?_) (fun K hK => ?_)
   ·change wpList _ _ _ [Oper.mk _ _ _ _ _ _] _ _
    go_wp2_with (first | ((with_reducible refine isLd 26 ?_); (first | (refine L_fa H rfl 26 _ rfl 0 rfl rfl Try.underlying26 rfl (by kernel_rfl) ?_) | (refine L_fa H rfl 26 _ rfl 1 rfl rfl Try.underlying26 rfl (by kernel_rfl) ?_) | (refine L_fa H rfl 26 _ rfl 2 rfl rfl Try.underlying26 rfl (by kernel_rfl) ?_) | (refine L_fa H rfl 26 _ rfl 3 rfl rfl Try.underlying26 rfl (by kernel_rfl) ?_) | (refine L_fa H rfl 26 _ rfl 4 rfl rfl Try.underlying26 rfl (by kernel_rfl) ?_) | (refine L_fa H rfl 26 _ rfl 5 rfl rfl Try.underlying26 rfl (by kernel_rfl) ?_)); refine unput (d := some _) ?_))
    (refine hK _ _ ?_; clear hK K)
    (refine any_one (i := 3) (by kernel_rfl) rfl (fun K hK => ?_); change wpList _ _ _ [Oper.mk _ _ _ _ _ _] _ _)
    go_wp2_with (first | (go_at_call 37; refine (frame_any (stB 2) (hs6 2) 11 k11.1 k11.2 a17 n17 c17 _).mono ?_; rintro e wf ⟨rfl, hx⟩; replace H := kp (H.out.ext hx); have HXC := kp hx; clear hx; have HQ := kp (ownsT_ext HO.out HXC.out); clear HO; have HO := HQ; clear HQ; have HQ := kp (HBD.out.ext HXC.out); clear HBD HXC; have HBD := HQ; clear HQ))
    (refine hK _ _ ?_; clear hK K)
    exact hJ _ _ _ (by kernel_rfl) (by kernel_rfl) ⟨H, HO, HBD⟩
   ·change wpList _ _ _ [Oper.mk _ _ _ _ _ _] _ _
    go_wp2_with (first | (go_at_call 37; refine (frame_any (stB 2) (hs6 2) 11 k11.1 k11.2 a17 n17 c17 _).mono ?_; rintro e wf ⟨rfl, hx⟩; replace H := kp (H.out.ext hx); have HXC := kp hx; clear hx; have HQ := kp (ownsT_ext HO.out HXC.out); clear HO; have HO := HQ; clear HQ; have HQ := kp (HBD.out.ext HXC.out); clear HBD HXC; have HBD := HQ; clear HQ))
    (refine hK _ _ ?_; clear hK K)
    (refine any_one (i := 0) (by kernel_rfl) rfl (fun K hK => ?_); change wpList _ _ _ [Oper.mk _ _ _ _ _ _] _ _)
    go_wp2_with (first | ((with_reducible refine isLd 26 ?_); (first | (refine L_fa H rfl 26 _ rfl 0 rfl rfl Try.underlying26 rfl (by kernel_rfl) ?_) | (refine L_fa H rfl 26 _ rfl 1 rfl rfl Try.underlying26 rfl (by kernel_rfl) ?_) | (refine L_fa H rfl 26 _ rfl 2 rfl rfl Try.underlying26 rfl (by kernel_rfl) ?_) | (refine L_fa H rfl 26 _ rfl 3 rfl rfl Try.underlying26 rfl (by kernel_rfl) ?_) | (refine L_fa H rfl 26 _ rfl 4 rfl rfl Try.underlying26 rfl (by kernel_rfl) ?_) | (refine L_fa H rfl 26 _ rfl 5 rfl rfl Try.underlying26 rfl (by kernel_rfl) ?_)); refine unput (d := some _) ?_))
    (refine hK _ _ ?_; clear hK K)
    exact hJ _ _ _ (by kernel_rfl) (by kernel_rfl) ⟨H, HO, HBD⟩
 case main =>
 clear H HO HBD
 rintro wj ⟨H, HO, HBD⟩
 simp only [putL, Act.put, List.setIfInBounds_toArray, List.set_cons_zero, List.set_cons_succ]
 (refine any_one (i := 4) (by kernel_rfl) rfl (fun K hK => ?_); change wpList _ _ _ [Oper.mk _ _ _ _ _ _] _ _)
 go_wp2_with (first | (go_at_call 36; have HSZ := kp H.out.1.size; refine (nA3_any ad n c a17 n17 c17 _ w.heap.size w.heap.size HO.out (HBD.out (.slice a17 n17 c17, bOt) (by simp))).mono ?_; rintro e wa ⟨ad, n, c, rfl, ho, hx⟩; clear HO; have HO := kp (owns_weak ho HSZ.out); clear ho HSZ; replace H := kp (H.out.ext hx); have HXC := kp hx; clear hx; have HQ := kp (HBD.out.ext HXC.out); clear HBD HXC; have HBD := HQ; clear HQ; have HG1 := kp (H.out.at 1 rfl)))
 (refine hK _ _ ?_; clear hK K)
 (refine any_one (i := 5) (by kernel_rfl) rfl (fun K hK => ?_); change wpList _ _ _ [Oper.mk _ _ _ _ _ _] _ _)
 go_wp2_with fail
 (refine hK _ _ ?_; clear hK K)
 (refine any_take (i := 6) (v := ?_) rfl rfl (by kernel_rfl) (by kernel_rfl) (by kernel_rfl) (fun _ _ _ h => h) (Or.inl ⟨by rfl, ?_⟩) ?_; rotate_left; focus (intro w; go_simp; first | done | (with_reducible rfl))); simp only [List.setIfInBounds_toArray, Act.put, List.set_cons_zero, List.set_cons_succ]
 (refine any_take (i := 7) (v := ?_) rfl rfl (by kernel_rfl) (by kernel_rfl) (by kernel_rfl) (fun _ _ _ h => h) (Or.inl ⟨by rfl, ?_⟩) ?_; rotate_left; focus (intro w; go_simp; first | done | (with_reducible rfl))); simp only [List.setIfInBounds_toArray, Act.put, List.set_cons_zero, List.set_cons_succ]
 (refine any_one (i := 8) (by kernel_rfl) rfl (fun K hK => ?_); change wpList _ _ _ [Oper.mk _ _ _ _ _ _] _ _)
 go_wp2_with (first | ((with_reducible show wpList _ _ _ (Oper.mk none (Op.store 26 (.tmp 1) _) _ _ _ _ :: _) _ _); ((with_reducible refine isSt 26 ?_); refine L_sa H rfl rfl 26 _ _ rfl 1 rfl rfl (partsA aN haN ad n c) rfl rfl (by kernel_rfl) ?_; clear H; intro w15c HWw15c H; simp only [ssA, szA] at H)))
 (refine hK _ _ ?_; clear hK K)
 (refine any_one (i := 9) (by kernel_rfl) rfl (fun K hK => ?_); change wpList _ _ _ [Oper.mk _ _ _ _ _ _] _ _)
 go_wp2_with fail
 (refine hK _ _ ?_; clear hK K)
 refine wpAny_done (by kernel_rfl) ?_ _
 have HQ := kp (show OwE w.heap.size w15c (.slice ad n c) N3 from owns_wroteT HO.out HWw15c.out HG1.out (show 39 ≠ 26 from by decide))
 clear HO
 have HO := HQ
 clear HQ
 have HQ := kp (HBD.out.wrote HWw15c.out HG1.out (show 5 ≠ 26 from by decide))
 clear HBD HG1 HWw15c
 have HBD := HQ
 clear HQ
 go_wp2_with fail
 subst hr16
 refine wp_region_any (by kernel_rfl) ?_
 change wpAny _ _ _ _ _ _ _ (World.drew _)
 have H2 := kp (H.out.ext (Ext.drew _))
 have HO2 := kp (ownsT_ext HO.out (Ext.drew _))
 have HB2 := kp (HBD.out.ext (Ext.drew _))
 clear H HO HBD
 have H := H2
 have HO := HO2
 have HBD := HB2
 clear H2 HO2 HB2
 (refine any_take (i := 2) (v := ?_) rfl rfl (by kernel_rfl) (by kernel_rfl) (by kernel_rfl) (fun _ _ _ h => h) (Or.inl ⟨by rfl, ?_⟩) ?_; rotate_left; focus (intro w; go_simp; first | done | (with_reducible rfl))); simp only [List.setIfInBounds_toArray, Act.put, List.set_cons_zero, List.set_cons_succ]
 refine any_join 6 #[true, true, true, true, false, false, false, false, false, false] [(153, .agg (cat (partsA aN haN ad n c)).toArray), (154, .agg ((stB 2).map V8).toArray), (156, .agg (cat (partsFr (reqH (stB 2) 11) (req_ok (hs6 2) k11.1 k11.2) a19 n19 c19)).toArray)] (fun W' => Kp (Loc w W' [(g14, 82, cat (askP (stB 1#8) (hs6 1#8) p1 i1 j1 q1 m1 o1 r1 s1 u1)), (g1, 26, cat (partsA aN haN ad n c))]) ∧ Kp (OwE w.heap.size W' (.slice ad n c) N3) ∧ Kp (NB w.heap.size W' [(Value.slice a21 n21 c21, bAg), (Value.slice a19 n19 c19, bSt), (Value.slice a17 n17 c17, bOt), (Value.slice a15 n15 c15, bWk), (Value.slice p1 i1 j1, bAu), (Value.slice q1 m1 o1, bRq)])) (fun hJ => ?paths) ?main
 case paths =>
  refine any_two (i := 0) (j := 1) (by kernel_rfl) rfl rfl (fun K hK => ?_) (fun K hK => ?_)
  ·change wpList _ _ _ [Oper.mk _ _ _ _ _ _] _ _
   go_wp2_with (first | ((with_reducible refine isLd 26 ?_); (first | (refine L_fa H rfl 26 _ rfl 0 rfl rfl Try.underlying26 rfl (by kernel_rfl) ?_) | (refine L_fa H rfl 26 _ rfl 1 rfl rfl Try.underlying26 rfl (by kernel_rfl) ?_) | (refine L_fa H rfl 26 _ rfl 2 rfl rfl Try.underlying26 rfl (by kernel_rfl) ?_) | (refine L_fa H rfl 26 _ rfl 3 rfl rfl Try.underlying26 rfl (by kernel_rfl) ?_) | (refine L_fa H rfl 26 _ rfl 4 rfl rfl Try.underlying26 rfl (by kernel_rfl) ?_) | (refine L_fa H rfl 26 _ rfl 5 rfl rfl Try.underlying26 rfl (by kernel_rfl) ?_)); refine unput (d := some _) ?_))
   (refine hK _ _ ?_; clear hK K)
   (refine any_one (i := 1) (by kernel_rfl) rfl (fun K hK => ?_); change wpList _ _ _ [Oper.mk _ _ _ _ _ _] _ _)
   go_wp2_with (first | (go_at_call 32; refine (HS2.out _).mono ?_; rintro e ws ⟨rfl, hx⟩; replace H := kp (H.out.ext hx); have HXC := kp hx; clear hx; have HQ := kp (ownsT_ext HO.out HXC.out); clear HO; have HO := HQ; clear HQ; have HQ := kp (HBD.out.ext HXC.out); clear HBD HXC; have HBD := HQ; clear HQ))
   (refine hK _ _ ?_; clear hK K)
   (refine any_one (i := 3) (by kernel_rfl) rfl (fun K hK => ?_); change wpList _ _ _ [Oper.mk _ _ _ _ _ _] _ _)
   go_wp2_with (first | (go_at_call 37; refine (frame_any (stB 2) (hs6 2) 11 k11.1 k11.2 a19 n19 c19 _).mono ?_; rintro e wf ⟨rfl, hx⟩; replace H := kp (H.out.ext hx); have HXC := kp hx; clear hx; have HQ := kp (ownsT_ext HO.out HXC.out); clear HO; have HO := HQ; clear HQ; have HQ := kp (HBD.out.ext HXC.out); clear HBD HXC; have HBD := HQ; clear HQ))
   (refine hK _ _ ?_; clear hK K)
   exact hJ _ _ _ (by kernel_rfl) (by kernel_rfl) ⟨H, HO, HBD⟩
  ·change wpList _ _ _ [Oper.mk _ _ _ _ _ _] _ _
   go_wp2_with (first | (go_at_call 32; refine (HS2.out _).mono ?_; rintro e ws ⟨rfl, hx⟩; replace H := kp (H.out.ext hx); have HXC := kp hx; clear hx; have HQ := kp (ownsT_ext HO.out HXC.out); clear HO; have HO := HQ; clear HQ; have HQ := kp (HBD.out.ext HXC.out); clear HBD HXC; have HBD := HQ; clear HQ))
   (refine hK _ _ ?_; clear hK K)
   refine any_two (i := 0) (j := 3) (by kernel_rfl) rfl rfl (fun K hK => ?_) (fun K hK => ?_)
   ·change wpList _ _ _ [Oper.mk _ _ _ _ _ _] _ _
    go_wp2_with (first | ((with_reducible refine isLd 26 ?_); (first | (refine L_fa H rfl 26 _ rfl 0 rfl rfl Try.underlying26 rfl (by kernel_rfl) ?_) | (refine L_fa H rfl 26 _ rfl 1 rfl rfl Try.underlying26 rfl (by kernel_rfl) ?_) | (refine L_fa H rfl 26 _ rfl 2 rfl rfl Try.underlying26 rfl (by kernel_rfl) ?_) | (refine L_fa H rfl 26 _ rfl 3 rfl rfl Try.underlying26 rfl (by kernel_rfl) ?_) | (refine L_fa H rfl 26 _ rfl 4 rfl rfl Try.underlying26 rfl (by kernel_rfl) ?_) | (refine L_fa H rfl 26 _ rfl 5 rfl rfl Try.underlying26 rfl (by kernel_rfl) ?_)); refine unput (d := some _) ?_))
    (refine hK _ _ ?_; clear hK K)
    (refine any_one (i := 3) (by kernel_rfl) rfl (fun K hK => ?_); change wpList _ _ _ [Oper.mk _ _ _ _ _ _] _ _)
    go_wp2_with (first | (go_at_call 37; refine (frame_any (stB 2) (hs6 2) 11 k11.1 k11.2 a19 n19 c19 _).mono ?_; rintro e wf ⟨rfl, hx⟩; replace H := kp (H.out.ext hx); have HXC := kp hx; clear hx; have HQ := kp (ownsT_ext HO.out HXC.out); clear HO; have HO := HQ; clear HQ; have HQ := kp (HBD.out.ext HXC.out); clear HBD HXC; have HBD := HQ; clear HQ))
    (refine hK _ _ ?_; clear hK K)
    exact hJ _ _ _ (by kernel_rfl) (by kernel_rfl) ⟨H, HO, HBD⟩
   ·change wpList _ _ _ [Oper.mk _ _ _ _ _ _] _ _
    go_wp2_with (first | (go_at_call 37; refine (frame_any (stB 2) (hs6 2) 11 k11.1 k11.2 a19 n19 c19 _).mono ?_; rintro e wf ⟨rfl, hx⟩; replace H := kp (H.out.ext hx); have HXC := kp hx; clear hx; have HQ := kp (ownsT_ext HO.out HXC.out); clear HO; have HO := HQ; clear HQ; have HQ := kp (HBD.out.ext HXC.out); clear HBD HXC; have HBD := HQ; clear HQ))
    (refine hK _ _ ?_; clear hK K)
    (refine any_one (i := 0) (by kernel_rfl) rfl (fun K hK => ?_); change wpList _ _ _ [Oper.mk _ _ _ _ _ _] _ _)
    go_wp2_with (first | ((with_reducible refine isLd 26 ?_); (first | (refine L_fa H rfl 26 _ rfl 0 rfl rfl Try.underlying26 rfl (by kernel_rfl) ?_) | (refine L_fa H rfl 26 _ rfl 1 rfl rfl Try.underlying26 rfl (by kernel_rfl) ?_) | (refine L_fa H rfl 26 _ rfl 2 rfl rfl Try.underlying26 rfl (by kernel_rfl) ?_) | (refine L_fa H rfl 26 _ rfl 3 rfl rfl Try.underlying26 rfl (by kernel_rfl) ?_) | (refine L_fa H rfl 26 _ rfl 4 rfl rfl Try.underlying26 rfl (by kernel_rfl) ?_) | (refine L_fa H rfl 26 _ rfl 5 rfl rfl Try.underlying26 rfl (by kernel_rfl) ?_)); refine unput (d := some _) ?_))
    (refine hK _ _ ?_; clear hK K)
    exact hJ _ _ _ (by kernel_rfl) (by kernel_rfl) ⟨H, HO, HBD⟩
 case main =>
 clear H HO HBD
 rintro wj ⟨H, HO, HBD⟩
 simp only [putL, Act.put, List.setIfInBounds_toArray, List.set_cons_zero, List.set_cons_succ]
 (refine any_one (i := 4) (by kernel_rfl) rfl (fun K hK => ?_); change wpList _ _ _ [Oper.mk _ _ _ _ _ _] _ _)
 go_wp2_with (first | (go_at_call 36; have HSZ := kp H.out.1.size; refine (nA4_any ad n c a19 n19 c19 _ w.heap.size w.heap.size HO.out (HBD.out (.slice a19 n19 c19, bSt) (by simp))).mono ?_; rintro e wa ⟨ad, n, c, rfl, ho, hx⟩; clear HO; have HO := kp (owns_weak ho HSZ.out); clear ho HSZ; replace H := kp (H.out.ext hx); have HXC := kp hx; clear hx; have HQ := kp (HBD.out.ext HXC.out); clear HBD HXC; have HBD := HQ; clear HQ; have HG1 := kp (H.out.at 1 rfl)))
 (refine hK _ _ ?_; clear hK K)
 (refine any_one (i := 5) (by kernel_rfl) rfl (fun K hK => ?_); change wpList _ _ _ [Oper.mk _ _ _ _ _ _] _ _)
 go_wp2_with fail
 (refine hK _ _ ?_; clear hK K)
 (refine any_take (i := 6) (v := ?_) rfl rfl (by kernel_rfl) (by kernel_rfl) (by kernel_rfl) (fun _ _ _ h => h) (Or.inl ⟨by rfl, ?_⟩) ?_; rotate_left; focus (intro w; go_simp; first | done | (with_reducible rfl))); simp only [List.setIfInBounds_toArray, Act.put, List.set_cons_zero, List.set_cons_succ]
 (refine any_take (i := 7) (v := ?_) rfl rfl (by kernel_rfl) (by kernel_rfl) (by kernel_rfl) (fun _ _ _ h => h) (Or.inl ⟨by rfl, ?_⟩) ?_; rotate_left; focus (intro w; go_simp; first | done | (with_reducible rfl))); simp only [List.setIfInBounds_toArray, Act.put, List.set_cons_zero, List.set_cons_succ]
 (refine any_one (i := 8) (by kernel_rfl) rfl (fun K hK => ?_); change wpList _ _ _ [Oper.mk _ _ _ _ _ _] _ _)
 go_wp2_with (first | ((with_reducible show wpList _ _ _ (Oper.mk none (Op.store 26 (.tmp 1) _) _ _ _ _ :: _) _ _); ((with_reducible refine isSt 26 ?_); refine L_sa H rfl rfl 26 _ _ rfl 1 rfl rfl (partsA aN haN ad n c) rfl rfl (by kernel_rfl) ?_; clear H; intro w16c HWw16c H; simp only [ssA, szA] at H)))
 (refine hK _ _ ?_; clear hK K)
 (refine any_one (i := 9) (by kernel_rfl) rfl (fun K hK => ?_); change wpList _ _ _ [Oper.mk _ _ _ _ _ _] _ _)
 go_wp2_with fail
 (refine hK _ _ ?_; clear hK K)
 refine wpAny_done (by kernel_rfl) ?_ _
 have HQ := kp (show OwE w.heap.size w16c (.slice ad n c) N3 from owns_wroteT HO.out HWw16c.out HG1.out (show 39 ≠ 26 from by decide))
 clear HO
 have HO := HQ
 clear HQ
 have HQ := kp (HBD.out.wrote HWw16c.out HG1.out (show 5 ≠ 26 from by decide))
 clear HBD HG1 HWw16c
 have HBD := HQ
 clear HQ
 go_wp2_with fail
 subst hr17
 refine wp_region_any (by kernel_rfl) ?_
 change wpAny _ _ _ _ _ _ _ (World.drew _)
 have H2 := kp (H.out.ext (Ext.drew _))
 have HO2 := kp (ownsT_ext HO.out (Ext.drew _))
 have HB2 := kp (HBD.out.ext (Ext.drew _))
 clear H HO HBD
 have H := H2
 have HO := HO2
 have HBD := HB2
 clear H2 HO2 HB2
 (refine any_take (i := 2) (v := ?_) rfl rfl (by kernel_rfl) (by kernel_rfl) (by kernel_rfl) (fun _ _ _ h => h) (Or.inl ⟨by rfl, ?_⟩) ?_; rotate_left; focus (intro w; go_simp; first | done | (with_reducible rfl))); simp only [List.setIfInBounds_toArray, Act.put, List.set_cons_zero, List.set_cons_succ]
 refine any_join 6 #[true, true, true, true, false, false, false, false, false, false] [(161, .agg (cat (partsA aN haN ad n c)).toArray), (162, .agg ((stB 1).map V8).toArray), (164, .agg (cat (partsFr (reqH (stB 1) 2) (req_ok (hs6 1) k2.1 k2.2) a21 n21 c21)).toArray)] (fun W' => Kp (Loc w W' [(g14, 82, cat (askP (stB 1#8) (hs6 1#8) p1 i1 j1 q1 m1 o1 r1 s1 u1)), (g1, 26, cat (partsA aN haN ad n c))]) ∧ Kp (OwE w.heap.size W' (.slice ad n c) N3) ∧ Kp (NB w.heap.size W' [(Value.slice a21 n21 c21, bAg), (Value.slice a19 n19 c19, bSt), (Value.slice a17 n17 c17, bOt), (Value.slice a15 n15 c15, bWk), (Value.slice p1 i1 j1, bAu), (Value.slice q1 m1 o1, bRq)])) (fun hJ => ?paths) ?main
 case paths =>
  refine any_two (i := 0) (j := 1) (by kernel_rfl) rfl rfl (fun K hK => ?_) (fun K hK => ?_)
  ·change wpList _ _ _ [Oper.mk _ _ _ _ _ _] _ _
   go_wp2_with (first | ((with_reducible refine isLd 26 ?_); (first | (refine L_fa H rfl 26 _ rfl 0 rfl rfl Try.underlying26 rfl (by kernel_rfl) ?_) | (refine L_fa H rfl 26 _ rfl 1 rfl rfl Try.underlying26 rfl (by kernel_rfl) ?_) | (refine L_fa H rfl 26 _ rfl 2 rfl rfl Try.underlying26 rfl (by kernel_rfl) ?_) | (refine L_fa H rfl 26 _ rfl 3 rfl rfl Try.underlying26 rfl (by kernel_rfl) ?_) | (refine L_fa H rfl 26 _ rfl 4 rfl rfl Try.underlying26 rfl (by kernel_rfl) ?_) | (refine L_fa H rfl 26 _ rfl 5 rfl rfl Try.underlying26 rfl (by kernel_rfl) ?_)); refine unput (d := some _) ?_))
   (refine hK _ _ ?_; clear hK K)
   (refine any_one (i := 1) (by kernel_rfl) rfl (fun K hK => ?_); change wpList _ _ _ [Oper.mk _ _ _ _ _ _] _ _)
   go_wp2_with (first | (go_at_call 32; refine (HS1.out _).mono ?_; rintro e ws ⟨rfl, hx⟩; replace H := kp (H.out.ext hx); have HXC := kp hx; clear hx; have HQ := kp (ownsT_ext HO.out HXC.out); clear HO; have HO := HQ; clear HQ; have HQ := kp (HBD.out.ext HXC.out); clear HBD HXC; have HBD := HQ; clear HQ))
   (refine hK _ _ ?_; clear hK K)
   (refine any_one (i := 3) (by kernel_rfl) rfl (fun K hK => ?_); change wpList _ _ _ [Oper.mk _ _ _ _ _ _] _ _)
   go_wp2_with (first | (go_at_call 37; refine (frame_any (stB 1) (hs6 1) 2 k2.1 k2.2 a21 n21 c21 _).mono ?_; rintro e wf ⟨rfl, hx⟩; replace H := kp (H.out.ext hx); have HXC := kp hx; clear hx; have HQ := kp (ownsT_ext HO.out HXC.out); clear HO; have HO := HQ; clear HQ; have HQ := kp (HBD.out.ext HXC.out); clear HBD HXC; have HBD := HQ; clear HQ))
   (refine hK _ _ ?_; clear hK K)
   exact hJ _ _ _ (by kernel_rfl) (by kernel_rfl) ⟨H, HO, HBD⟩
  ·change wpList _ _ _ [Oper.mk _ _ _ _ _ _] _ _
   go_wp2_with (first | (go_at_call 32; refine (HS1.out _).mono ?_; rintro e ws ⟨rfl, hx⟩; replace H := kp (H.out.ext hx); have HXC := kp hx; clear hx; have HQ := kp (ownsT_ext HO.out HXC.out); clear HO; have HO := HQ; clear HQ; have HQ := kp (HBD.out.ext HXC.out); clear HBD HXC; have HBD := HQ; clear HQ))
   (refine hK _ _ ?_; clear hK K)
   refine any_two (i := 0) (j := 3) (by kernel_rfl) rfl rfl (fun K hK => ?_) (fun K hK => ?_)
   ·change wpList _ _ _ [Oper.mk _ _ _ _ _ _] _ _
    go_wp2_with (first | ((with_reducible refine isLd 26 ?_); (first | (refine L_fa H rfl 26 _ rfl 0 rfl rfl Try.underlying26 rfl (by kernel_rfl) ?_) | (refine L_fa H rfl 26 _ rfl 1 rfl rfl Try.underlying26 rfl (by kernel_rfl) ?_) | (refine L_fa H rfl 26 _ rfl 2 rfl rfl Try.underlying26 rfl (by kernel_rfl) ?_) | (refine L_fa H rfl 26 _ rfl 3 rfl rfl Try.underlying26 rfl (by kernel_rfl) ?_) | (refine L_fa H rfl 26 _ rfl 4 rfl rfl Try.underlying26 rfl (by kernel_rfl) ?_) | (refine L_fa H rfl 26 _ rfl 5 rfl rfl Try.underlying26 rfl (by kernel_rfl) ?_)); refine unput (d := some _) ?_))
    (refine hK _ _ ?_; clear hK K)
    (refine any_one (i := 3) (by kernel_rfl) rfl (fun K hK => ?_); change wpList _ _ _ [Oper.mk _ _ _ _ _ _] _ _)
    go_wp2_with (first | (go_at_call 37; refine (frame_any (stB 1) (hs6 1) 2 k2.1 k2.2 a21 n21 c21 _).mono ?_; rintro e wf ⟨rfl, hx⟩; replace H := kp (H.out.ext hx); have HXC := kp hx; clear hx; have HQ := kp (ownsT_ext HO.out HXC.out); clear HO; have HO := HQ; clear HQ; have HQ := kp (HBD.out.ext HXC.out); clear HBD HXC; have HBD := HQ; clear HQ))
    (refine hK _ _ ?_; clear hK K)
    exact hJ _ _ _ (by kernel_rfl) (by kernel_rfl) ⟨H, HO, HBD⟩
   ·change wpList _ _ _ [Oper.mk _ _ _ _ _ _] _ _
    go_wp2_with (first | (go_at_call 37; refine (frame_any (stB 1) (hs6 1) 2 k2.1 k2.2 a21 n21 c21 _).mono ?_; rintro e wf ⟨rfl, hx⟩; replace H := kp (H.out.ext hx); have HXC := kp hx; clear hx; have HQ := kp (ownsT_ext HO.out HXC.out); clear HO; have HO := HQ; clear HQ; have HQ := kp (HBD.out.ext HXC.out); clear HBD HXC; have HBD := HQ; clear HQ))
    (refine hK _ _ ?_; clear hK K)
    (refine any_one (i := 0) (by kernel_rfl) rfl (fun K hK => ?_); change wpList _ _ _ [Oper.mk _ _ _ _ _ _] _ _)
    go_wp2_with (first | ((with_reducible refine isLd 26 ?_); (first | (refine L_fa H rfl 26 _ rfl 0 rfl rfl Try.underlying26 rfl (by kernel_rfl) ?_) | (refine L_fa H rfl 26 _ rfl 1 rfl rfl Try.underlying26 rfl (by kernel_rfl) ?_) | (refine L_fa H rfl 26 _ rfl 2 rfl rfl Try.underlying26 rfl (by kernel_rfl) ?_) | (refine L_fa H rfl 26 _ rfl 3 rfl rfl Try.underlying26 rfl (by kernel_rfl) ?_) | (refine L_fa H rfl 26 _ rfl 4 rfl rfl Try.underlying26 rfl (by kernel_rfl) ?_) | (refine L_fa H rfl 26 _ rfl 5 rfl rfl Try.underlying26 rfl (by kernel_rfl) ?_)); refine unput (d := some _) ?_))
    (refine hK _ _ ?_; clear hK K)
    exact hJ _ _ _ (by kernel_rfl) (by kernel_rfl) ⟨H, HO, HBD⟩
 case main =>
 clear H HO HBD
 rintro wj ⟨H, HO, HBD⟩
 simp only [putL, Act.put, List.setIfInBounds_toArray, List.set_cons_zero, List.set_cons_succ]
 (refine any_one (i := 4) (by kernel_rfl) rfl (fun K hK => ?_); change wpList _ _ _ [Oper.mk _ _ _ _ _ _] _ _)
 go_wp2_with (first | (go_at_call 36; have HSZ := kp H.out.1.size; refine (nA5_any ad n c a21 n21 c21 _ w.heap.size w.heap.size HO.out (HBD.out (.slice a21 n21 c21, bAg) (by simp))).mono ?_; rintro e wa ⟨ad, n, c, rfl, ho, hx⟩; clear HO; have HO := kp (owns_weak ho HSZ.out); clear ho HSZ; replace H := kp (H.out.ext hx); have HXC := kp hx; clear hx; have HQ := kp (HBD.out.ext HXC.out); clear HBD HXC; have HBD := HQ; clear HQ; have HG1 := kp (H.out.at 1 rfl)))
 (refine hK _ _ ?_; clear hK K)
 (refine any_one (i := 5) (by kernel_rfl) rfl (fun K hK => ?_); change wpList _ _ _ [Oper.mk _ _ _ _ _ _] _ _)
 go_wp2_with fail
 (refine hK _ _ ?_; clear hK K)
 (refine any_take (i := 6) (v := ?_) rfl rfl (by kernel_rfl) (by kernel_rfl) (by kernel_rfl) (fun _ _ _ h => h) (Or.inl ⟨by rfl, ?_⟩) ?_; rotate_left; focus (intro w; go_simp; first | done | (with_reducible rfl))); simp only [List.setIfInBounds_toArray, Act.put, List.set_cons_zero, List.set_cons_succ]
 (refine any_take (i := 7) (v := ?_) rfl rfl (by kernel_rfl) (by kernel_rfl) (by kernel_rfl) (fun _ _ _ h => h) (Or.inl ⟨by rfl, ?_⟩) ?_; rotate_left; focus (intro w; go_simp; first | done | (with_reducible rfl))); simp only [List.setIfInBounds_toArray, Act.put, List.set_cons_zero, List.set_cons_succ]
 (refine any_one (i := 8) (by kernel_rfl) rfl (fun K hK => ?_); change wpList _ _ _ [Oper.mk _ _ _ _ _ _] _ _)
 go_wp2_with (first | ((with_reducible show wpList _ _ _ (Oper.mk none (Op.store 26 (.tmp 1) _) _ _ _ _ :: _) _ _); ((with_reducible refine isSt 26 ?_); refine L_sa H rfl rfl 26 _ _ rfl 1 rfl rfl (partsA aN haN ad n c) rfl rfl (by kernel_rfl) ?_; clear H; intro w17c HWw17c H; simp only [ssA, szA] at H)))
 (refine hK _ _ ?_; clear hK K)
 (refine any_one (i := 9) (by kernel_rfl) rfl (fun K hK => ?_); change wpList _ _ _ [Oper.mk _ _ _ _ _ _] _ _)
 go_wp2_with fail
 (refine hK _ _ ?_; clear hK K)
 refine wpAny_done (by kernel_rfl) ?_ _
 have HQ := kp (show OwE w.heap.size w17c (.slice ad n c) N6 from owns_wroteT HO.out HWw17c.out HG1.out (show 39 ≠ 26 from by decide))
 clear HO
 have HO := HQ
 clear HQ
 have HQ := kp (HBD.out.wrote HWw17c.out HG1.out (show 5 ≠ 26 from by decide))
 clear HBD HG1 HWw17c
 have HBD := HQ
 clear HQ
 go_wp2_with fail
 subst hr18
 go_wp2_with (first | ((with_reducible refine isLd 26 ?_); (first | (refine L_fa H rfl 26 _ rfl 0 rfl rfl Try.underlying26 rfl (by kernel_rfl) ?_) | (refine L_fa H rfl 26 _ rfl 1 rfl rfl Try.underlying26 rfl (by kernel_rfl) ?_) | (refine L_fa H rfl 26 _ rfl 2 rfl rfl Try.underlying26 rfl (by kernel_rfl) ?_) | (refine L_fa H rfl 26 _ rfl 3 rfl rfl Try.underlying26 rfl (by kernel_rfl) ?_) | (refine L_fa H rfl 26 _ rfl 4 rfl rfl Try.underlying26 rfl (by kernel_rfl) ?_) | (refine L_fa H rfl 26 _ rfl 5 rfl rfl Try.underlying26 rfl (by kernel_rfl) ?_)); refine unput (d := some _) ?_) | ((with_reducible refine isLd 31 ?_); refine L_fg H rfl 31 _ rfl 0 rfl _ rfl _ rfl (partsFr (dtH (stB 1)) (dt_ok (hs6 1)) none 0 0) rfl Try.underlying31 rfl (by kernel_rfl) ?_; refine unput (d := some _) ?_) | (go_at_call 38; have HSZ := kp H.out.1.size; refine (nS6_any ad n c _ w.heap.size HO.out).mono ?_; rintro e wa ⟨ad, n, c, rfl, ho, hx⟩; clear HO; have HO := kp (owns_weak ho HSZ.out); clear ho HSZ; replace H := kp (H.out.ext hx); have HXC := kp hx; clear hx; have HQ := kp (HBD.out.ext HXC.out); clear HBD HXC; have HBD := HQ; clear HQ; have HG1 := kp (H.out.at 1 rfl)) | ((with_reducible show wpList _ _ _ (Oper.mk none (Op.store 26 (.tmp 1) _) _ _ _ _ :: _) _ _); ((with_reducible refine isSt 26 ?_); refine L_sa H rfl rfl 26 _ _ rfl 1 rfl rfl (partsA aN haN ad n c) rfl rfl (by kernel_rfl) ?_; clear H; intro w18c HWw18c H; simp only [ssA, szA] at H)))
 have HQ := kp (show OwE w.heap.size w18c (.slice ad n c) N7 from owns_wroteT HO.out HWw18c.out HG1.out (show 39 ≠ 26 from by decide))
 clear HO
 have HO := HQ
 clear HQ
 have HQ := kp (HBD.out.wrote HWw18c.out HG1.out (show 5 ≠ 26 from by decide))
 clear HBD HG1 HWw18c
 have HBD := HQ
 clear HQ
 have HBA := kp (HBD.out (.slice p1 i1 j1, bAu) (by simp))
 clear HBD
 have HF1 := kp (fun W (hW : Ext w18c W) => nF_any ad n c W w.heap.size (ownsT_ext HO.out hW))
 subst hr19
 refine region_freeN H (tabS [(176, fun vQ _ => vQ = .agg (cat (partsA aN haN ad n c)).toArray), (177, fun vQ _ => vQ = .agg ((stB 1).map V8).toArray), (178, fun vQ _ => vQ = .tuple #[.agg (cat (partsE e7 h67)).toArray, .bool true]), (175, fun vQ _ => vQ = .tuple #[.agg (cat (partsE e7 h67)).toArray, .bool true]), (179, fun vQ _ => vQ = .agg (cat (partsE e7 h67)).toArray), (180, fun vQ _ => vQ = .bool true), (30, fun vQ _ => vQ = .bool true)]) 6 7 29 179 39 (cat (partsE en0 rfl)) (cat (partsE e7 h67)) 9 (tabS_trn _ _ _ (by simp only [List.forall_mem_cons]; exact ⟨monoN_eq _ _ _, monoN_eq _ _ _, monoN_eq _ _ _, monoN_eq _ _ _, monoN_eq _ _ _, monoN_eq _ _ _, monoN_eq _ _ _, by simp⟩)) (fun _ _ => trivial) (fun _ _ h => h) (by kernel_rfl) (by kernel_rfl) (by kernel_rfl) (by kernel_rfl) _ _ rfl rfl (by decide) (by decide) (by decide) rfl rfl rfl (fun _ => by kernel_rfl) rfl rfl rfl (by kernel_rfl) (by kernel_rfl) (by kernel_rfl) ((by rw [List.size_toArray, cat_len]; kernel_rfl)) ((by rw [cat_len, cat_len]; rfl)) (by simpa using cat_one (partsE e7 h67)) (by kernel_rfl) ?_
 simp only [List.take_succ_cons, List.take_zero]
 refine ⟨fun _ w_ o_ S_ => ?_, fun v176 => ?_⟩
 ·clear S_
  have H := kp (H.out.ext o_)
  have HOX := kp o_
  clear o_
  go_wp2_with ((with_reducible refine isLd 26 ?_); (first | (refine L_fa H rfl 26 _ rfl 0 rfl rfl Try.underlying26 rfl (by kernel_rfl) ?_) | (refine L_fa H rfl 26 _ rfl 1 rfl rfl Try.underlying26 rfl (by kernel_rfl) ?_) | (refine L_fa H rfl 26 _ rfl 2 rfl rfl Try.underlying26 rfl (by kernel_rfl) ?_) | (refine L_fa H rfl 26 _ rfl 3 rfl rfl Try.underlying26 rfl (by kernel_rfl) ?_) | (refine L_fa H rfl 26 _ rfl 4 rfl rfl Try.underlying26 rfl (by kernel_rfl) ?_) | (refine L_fa H rfl 26 _ rfl 5 rfl rfl Try.underlying26 rfl (by kernel_rfl) ?_)); refine unput (d := some _) ?_)
  exact kso
 simp only [pA]
 refine ⟨fun _ w_ o_ S_ => ?_, fun v177 => ?_⟩
 ·clear S_
  have H := kp (H.out.ext o_)
  have HOX := kp o_
  clear o_
  go_wp2_with fail
  refine (HS1.out _).mono ?_
  rintro e w2 ⟨rfl, hx⟩
  have HXC := kp hx
  clear hx
  go_wp2_with fail
  exact ⟨rfl, _, rfl, fun d hd => by cases hd; exact rfl, HXC.out⟩
 simp only [pA]
 refine ⟨fun _ w_ o_ S_ => ?_, fun v178 => ?_⟩
 ·obtain rfl : v176 = .agg (cat (partsA aN haN ad n c)).toArray := hsR S_ 176 rfl
  obtain rfl : v177 = .agg ((stB 1).map V8).toArray := hsR S_ 177 rfl
  clear S_
  have H := kp (H.out.ext o_)
  have HOX := kp o_
  clear o_
  go_wp2_with fail
  refine (HF1.out _ HOX.out).mono ?_
  rintro e w2 ⟨rfl, hx⟩
  have HXC := kp hx
  clear hx
  go_wp2_with fail
  exact ⟨rfl, _, rfl, fun d hd => by cases hd; exact rfl, HXC.out⟩
 simp only [pA]
 refine ⟨fun _ w_ o_ S_ => ?_, fun v175 => ?_⟩
 ·obtain rfl : v178 = .tuple #[.agg (cat (partsE e7 h67)).toArray, .bool true] := hsR S_ 178 rfl
  clear S_ o_
  go_wp2_with fail
  exact kso
 simp only [pA]
 refine ⟨fun _ w_ o_ S_ => ?_, fun v179 => ?_⟩
 ·obtain rfl : v175 = .tuple #[.agg (cat (partsE e7 h67)).toArray, .bool true] := hsR S_ 175 rfl
  clear S_ o_
  go_wp2_with fail
  exact kso
 simp only [pA]
 refine ⟨fun _ w_ o_ S_ => ?_, fun v180 => ?_⟩
 ·obtain rfl : v175 = .tuple #[.agg (cat (partsE e7 h67)).toArray, .bool true] := hsR S_ 175 rfl
  clear S_ o_
  go_wp2_with fail
  exact kso
 simp only [pA]
 refine ⟨(fun h => by cases h), fun v29 => ?_⟩
 simp only [pA]
 refine ⟨(fun h => by cases h), fun _ => ?_⟩
 refine ⟨fun _ w_ o_ S_ => ?_, fun v30 => ?_⟩
 ·obtain rfl : v180 = .bool true := hsR S_ 180 rfl
  clear S_ o_
  go_wp2_with fail
  exact kso
 simp only [pA]
 clear H
 intro wn19 HOX hfin hvar
 obtain ⟨g29, hvg, hvb, hvl, H⟩ := hvar
 have HBg29 := kp hvb
 clear hvb hvl
 obtain rfl : v29 = .pointer (some ⟨g29, 0, none⟩) := hvg
 obtain rfl : v176 = .agg (cat (partsA aN haN ad n c)).toArray := hfin 176 (by decide)
 obtain rfl : v177 = .agg ((stB 1).map V8).toArray := hfin 177 (by decide)
 obtain rfl : v178 = .tuple #[.agg (cat (partsE e7 h67)).toArray, .bool true] := hfin 178 (by decide)
 obtain rfl : v175 = .tuple #[.agg (cat (partsE e7 h67)).toArray, .bool true] := hfin 175 (by decide)
 obtain rfl : v179 = .agg (cat (partsE e7 h67)).toArray := hfin 179 (by decide)
 obtain rfl : v180 = .bool true := hfin 180 (by decide)
 obtain rfl : v30 = .bool true := hfin 30 (by decide)
 clear hfin
 simp only [List.drop_succ_cons, List.drop_zero]
 try simp only [applyS] at H
 have HXN := HOX
 have HQ := kp (show OwE w.heap.size _ (.slice ad n c) N7 from ownsT_ext HO.out HOX.out)
 clear HO
 have HO := HQ
 clear HQ
 have HQ := kp (show OwB w.heap.size _ (.slice p1 i1 j1) bAu from owns_ext HBA.out HOX.out)
 clear HBA HOX
 have HBA := HQ
 clear HQ
 clear HF1 HBg29
 go_wp2_with fail
 subst hr20
 go_wp2_with (first | ((with_reducible refine isLd 26 ?_); (first | (refine L_fa H rfl 26 _ rfl 0 rfl rfl Try.underlying26 rfl (by kernel_rfl) ?_) | (refine L_fa H rfl 26 _ rfl 1 rfl rfl Try.underlying26 rfl (by kernel_rfl) ?_) | (refine L_fa H rfl 26 _ rfl 2 rfl rfl Try.underlying26 rfl (by kernel_rfl) ?_) | (refine L_fa H rfl 26 _ rfl 3 rfl rfl Try.underlying26 rfl (by kernel_rfl) ?_) | (refine L_fa H rfl 26 _ rfl 4 rfl rfl Try.underlying26 rfl (by kernel_rfl) ?_) | (refine L_fa H rfl 26 _ rfl 5 rfl rfl Try.underlying26 rfl (by kernel_rfl) ?_)); refine unput (d := some _) ?_) | (go_at_call 13; refine (nB_any 1 (e7) true (h67) nb1 ad n c _ w.heap.size HO.out).mono ?_; rintro e wy ⟨rfl, hx⟩; replace H := kp (H.out.ext hx); have HXC := kp hx; clear hx) | ((with_reducible refine isAl 31 39 ?_); (refine L_alloc H rfl 39 rfl (cat (partsE en0 rfl)) (fun _ _ => by kernel_rfl) ?_); clear H; intro g31 w31 HGg31 HEg31 H; refine unput (d := some _) ?_) | ((with_reducible refine isSt 39 ?_); ((with_reducible refine isSt 39 ?_); refine L_sa H rfl rfl 39 _ _ rfl 0 rfl rfl (partsE e7 h67) rfl rfl (by kernel_rfl) ?_; clear H; intro w31b HWw31b H; simp only [szA] at H)))
 have HQX := kp (HXC.out.trans (ext_wrote HEg31.out HWw31b.out (Nat.le_of_eq HGg31.out.symm)))
 have HQ := kp (show OwE w.heap.size _ (.slice ad n c) N7 from ownsT_ext HO.out HQX.out)
 clear HO
 have HO := HQ
 clear HQ
 have HQ := kp (show OwB w.heap.size _ (.slice p1 i1 j1) bAu from owns_ext HBA.out HQX.out)
 clear HBA HQX
 have HBA := HQ
 clear HQ
 clear HXC HEg31 HWw31b HGg31
 subst hr21
 go_wp2_with (first | ((with_reducible refine isLd 26 ?_); (first | (refine L_fa H rfl 26 _ rfl 0 rfl rfl Try.underlying26 rfl (by kernel_rfl) ?_) | (refine L_fa H rfl 26 _ rfl 1 rfl rfl Try.underlying26 rfl (by kernel_rfl) ?_) | (refine L_fa H rfl 26 _ rfl 2 rfl rfl Try.underlying26 rfl (by kernel_rfl) ?_) | (refine L_fa H rfl 26 _ rfl 3 rfl rfl Try.underlying26 rfl (by kernel_rfl) ?_) | (refine L_fa H rfl 26 _ rfl 4 rfl rfl Try.underlying26 rfl (by kernel_rfl) ?_) | (refine L_fa H rfl 26 _ rfl 5 rfl rfl Try.underlying26 rfl (by kernel_rfl) ?_)); refine unput (d := some _) ?_) | (go_at_call 13; refine (nB_any 0 (en0) false (rfl) nb0 ad n c _ w.heap.size HO.out).mono ?_; rintro e wy ⟨rfl, hx⟩; replace H := kp (H.out.ext hx); have HXC := kp hx; clear hx) | ((with_reducible refine isAl 33 39 ?_); (refine L_alloc H rfl 39 rfl (cat (partsE en0 rfl)) (fun _ _ => by kernel_rfl) ?_); clear H; intro g33 w33 HGg33 HEg33 H; refine unput (d := some _) ?_) | ((with_reducible refine isSt 39 ?_); ((with_reducible refine isSt 39 ?_); refine L_sa H rfl rfl 39 _ _ rfl 0 rfl rfl (partsE en0 rfl) rfl rfl (by kernel_rfl) ?_; clear H; intro w33b HWw33b H; simp only [szA] at H)))
 have HQX := kp (HXC.out.trans (ext_wrote HEg33.out HWw33b.out (Nat.le_of_eq HGg33.out.symm)))
 have H2 := kp H.out.tail; clear H; have H := H2; clear H2
 have HQ := kp (show OwE w.heap.size _ (.slice ad n c) N7 from ownsT_ext HO.out HQX.out)
 clear HO
 have HO := HQ
 clear HQ
 have HQ := kp (show OwB w.heap.size _ (.slice p1 i1 j1) bAu from owns_ext HBA.out HQX.out)
 clear HBA HQX
 have HBA := HQ
 clear HQ
 clear HXC HEg33 HWw33b HGg33
 have HH1 := kp (fun W (hW : Ext w33b W) => nH_any ad n c (reqH (stB 1) 11) (req_ok (hs6 1) k11.1 k11.2) none 0 0 [] 26 _ nh7 W w.heap.size 0 (ownsT_ext HO.out hW) (by decide) (ownsT_nil _ _ _ _))
 subst hr22
 refine region_freeE H (tabS [(192, fun vQ _ => vQ = .agg (cat (partsA aN haN ad n c)).toArray), (193, fun vQ _ => vQ = .agg ((stB 1).map V8).toArray), (194, fun vQ _ => vQ = .agg (cat (partsFr (reqH (stB 1) 11) (req_ok (hs6 1) k11.1 k11.2) none 0 0)).toArray), (195, fun vQ _ => ErH 12 vQ), (191, fun vQ _ => ErH 12 vQ), (196, fun vQ _ => ErA vQ), (197, fun vQ _ => ErS vQ), (198, fun vQ _ => vQ = .int .i64 12), (36, fun vQ _ => ErS vQ), (37, fun vQ _ => vQ = .int .i64 12)]) 8 9 35 196 26 (cat (partsA as0 rfl none 0 0)) 12 (tabS_trE _ _ _ (by simp only [List.forall_mem_cons]; exact ⟨monoE_eq _ _ _, monoE_eq _ _ _, monoE_eq _ _ _, (fun _ _ _ h _ => h), (fun _ _ _ h _ => h), (fun _ _ _ h _ => h), (fun _ _ _ h _ => h), monoE_eq _ _ _, (fun _ _ _ h _ => h), monoE_eq _ _ _, by simp⟩)) (fun _ _ => trivial) ((fun _ _ h => erA_one h)) (by kernel_rfl) (by kernel_rfl) (by kernel_rfl) (by kernel_rfl) _ _ rfl rfl (by decide) (by decide) (by decide) rfl rfl rfl (fun _ => by kernel_rfl) rfl rfl rfl (by kernel_rfl) (by kernel_rfl) (by kernel_rfl) ((by kernel_rfl)) (by kernel_rfl) ?_
 simp only [List.take_succ_cons, List.take_zero]
 refine ⟨fun _ w_ o_ S_ => ?_, fun v192 => ?_⟩
 ·clear S_
  have H := kp (H.out.ext o_)
  have HOX := kp o_
  clear o_
  go_wp2_with ((with_reducible refine isLd 26 ?_); (first | (refine L_fa H rfl 26 _ rfl 0 rfl rfl Try.underlying26 rfl (by kernel_rfl) ?_) | (refine L_fa H rfl 26 _ rfl 1 rfl rfl Try.underlying26 rfl (by kernel_rfl) ?_) | (refine L_fa H rfl 26 _ rfl 2 rfl rfl Try.underlying26 rfl (by kernel_rfl) ?_) | (refine L_fa H rfl 26 _ rfl 3 rfl rfl Try.underlying26 rfl (by kernel_rfl) ?_) | (refine L_fa H rfl 26 _ rfl 4 rfl rfl Try.underlying26 rfl (by kernel_rfl) ?_) | (refine L_fa H rfl 26 _ rfl 5 rfl rfl Try.underlying26 rfl (by kernel_rfl) ?_)); refine unput (d := some _) ?_)
  exact kso
 simp only [pA]
 refine ⟨fun _ w_ o_ S_ => ?_, fun v193 => ?_⟩
 ·clear S_
  have H := kp (H.out.ext o_)
  have HOX := kp o_
  clear o_
  go_wp2_with fail
  refine (HS1.out _).mono ?_
  rintro e w2 ⟨rfl, hx⟩
  have HXC := kp hx
  clear hx
  go_wp2_with fail
  exact ⟨rfl, _, rfl, fun d hd => by cases hd; exact rfl, HXC.out⟩
 simp only [pA]
 refine ⟨fun _ w_ o_ S_ => ?_, fun v194 => ?_⟩
 ·obtain rfl : v193 = .agg ((stB 1).map V8).toArray := hsR S_ 193 rfl
  clear S_
  have H := kp (H.out.ext o_)
  have HOX := kp o_
  clear o_
  go_wp2_with fail
  refine (frame_any (stB 1) (hs6 1) 11 k11.1 k11.2 none 0 0 _).mono ?_
  rintro e w2 ⟨rfl, hx⟩
  have HXC := kp hx
  clear hx
  go_wp2_with fail
  exact ⟨rfl, _, rfl, fun d hd => by cases hd; exact rfl, HXC.out⟩
 simp only [pA]
 refine ⟨fun _ w_ o_ S_ => ?_, fun v195 => ?_⟩
 ·obtain rfl : v192 = .agg (cat (partsA aN haN ad n c)).toArray := hsR S_ 192 rfl
  obtain rfl : v194 = .agg (cat (partsFr (reqH (stB 1) 11) (req_ok (hs6 1) k11.1 k11.2) none 0 0)).toArray := hsR S_ 194 rfl
  clear S_
  have H := kp (H.out.ext o_)
  have HOX := kp o_
  clear o_
  go_wp2_with fail
  refine (HH1.out _ HOX.out).mono ?_
  intro e w2 hrr
  obtain ⟨ad9, n9, c9, va, vc, rfl, -, hx⟩ := hanE (by decide) hrr
  have HXC := kp hx
  clear hx hrr
  go_wp2_with fail
  exact ⟨rfl, _, rfl, fun d hd => by cases hd; exact ⟨ad9, n9, c9, va, vc, rfl⟩, HXC.out⟩
 simp only [pA]
 refine ⟨fun _ w_ o_ S_ => ?_, fun v191 => ?_⟩
 ·have h195 := kp (show ErH 12 v195 from hsR S_ 195 rfl)
  clear S_ o_
  go_wp2_with fail
  exact ⟨rfl, _, rfl, fun d hd => by cases hd; exact h195.out, Ext.refl _⟩
 simp only [pA]
 refine ⟨fun _ w_ o_ S_ => ?_, fun v196 => ?_⟩
 ·have h191 := kp (show ErH 12 v191 from hsR S_ 191 rfl)
  clear S_
  have H := kp (H.out.ext o_)
  have HOX := kp o_
  clear o_
  obtain ⟨ad9, n9, c9, va, vc, rfl⟩ := h191.out
  go_wp2_with fail
  exact ⟨rfl, _, rfl, fun d hd => by cases hd; exact ⟨ad9, n9, c9, rfl⟩, Ext.refl _⟩
 simp only [pA]
 refine ⟨fun _ w_ o_ S_ => ?_, fun v197 => ?_⟩
 ·have h191 := kp (show ErH 12 v191 from hsR S_ 191 rfl)
  clear S_
  have H := kp (H.out.ext o_)
  have HOX := kp o_
  clear o_
  obtain ⟨ad9, n9, c9, va, vc, rfl⟩ := h191.out
  go_wp2_with fail
  exact ⟨rfl, _, rfl, fun d hd => by cases hd; exact ⟨va, vc, rfl⟩, Ext.refl _⟩
 simp only [pA]
 refine ⟨fun _ w_ o_ S_ => ?_, fun v198 => ?_⟩
 ·have h191 := kp (show ErH 12 v191 from hsR S_ 191 rfl)
  clear S_
  have H := kp (H.out.ext o_)
  have HOX := kp o_
  clear o_
  obtain ⟨ad9, n9, c9, va, vc, rfl⟩ := h191.out
  go_wp2_with fail
  exact kso
 simp only [pA]
 refine ⟨(fun h => by cases h), fun v35 => ?_⟩
 simp only [pA]
 refine ⟨(fun h => by cases h), fun _ => ?_⟩
 refine ⟨fun _ w_ o_ S_ => ?_, fun v36 => ?_⟩
 ·have h197 := kp (show ErS v197 from hsR S_ 197 rfl)
  clear S_ o_
  go_wp2_with fail
  exact ⟨rfl, _, rfl, fun d hd => by cases hd; exact h197.out, Ext.refl _⟩
 simp only [pA]
 refine ⟨fun _ w_ o_ S_ => ?_, fun v37 => ?_⟩
 ·obtain rfl : v198 = .int .i64 12 := hsR S_ 198 rfl
  clear S_ o_
  go_wp2_with fail
  exact kso
 simp only [pA]
 clear H
 intro wn22 HOX hfin hvar
 obtain ⟨g35, csg35, hvg, hvb, hvv, H⟩ := hvar
 have HBg35 := kp hvb
 have HVg35 := kp (show v196 = .agg csg35.toArray from hvv)
 clear hvb hvv
 obtain rfl : v35 = .pointer (some ⟨g35, 0, none⟩) := hvg
 obtain rfl : v192 = .agg (cat (partsA aN haN ad n c)).toArray := hfin 192 (by decide)
 obtain rfl : v193 = .agg ((stB 1).map V8).toArray := hfin 193 (by decide)
 obtain rfl : v194 = .agg (cat (partsFr (reqH (stB 1) 11) (req_ok (hs6 1) k11.1 k11.2) none 0 0)).toArray := hfin 194 (by decide)
 have F195 := kp (show ErH 12 v195 from hfin 195 (by decide))
 have F191 := kp (show ErH 12 v191 from hfin 191 (by decide))
 have F196 := kp (show ErA v196 from hfin 196 (by decide))
 have F197 := kp (show ErS v197 from hfin 197 (by decide))
 obtain rfl : v198 = .int .i64 12 := hfin 198 (by decide)
 have F36 := kp (show ErS v36 from hfin 36 (by decide))
 obtain rfl : v37 = .int .i64 12 := hfin 37 (by decide)
 clear hfin
 simp only [List.drop_succ_cons, List.drop_zero]
 try simp only [applyS] at H
 have HXN := HOX
 have H2 := kp H.out.tail; clear H; have H := H2; clear H2
 have HQ := kp (show OwE w.heap.size _ (.slice ad n c) N7 from ownsT_ext HO.out HOX.out)
 clear HO
 have HO := HQ
 clear HQ
 have HQ := kp (show OwB w.heap.size _ (.slice p1 i1 j1) bAu from owns_ext HBA.out HOX.out)
 clear HBA HOX
 have HBA := HQ
 clear HQ
 clear HH1 HBg35 HVg35
 go_wp2_with fail
 subst hr23
 go_wp2_with (first | ((with_reducible refine isLd 26 ?_); (first | (refine L_fa H rfl 26 _ rfl 0 rfl rfl Try.underlying26 rfl (by kernel_rfl) ?_) | (refine L_fa H rfl 26 _ rfl 1 rfl rfl Try.underlying26 rfl (by kernel_rfl) ?_) | (refine L_fa H rfl 26 _ rfl 2 rfl rfl Try.underlying26 rfl (by kernel_rfl) ?_) | (refine L_fa H rfl 26 _ rfl 3 rfl rfl Try.underlying26 rfl (by kernel_rfl) ?_) | (refine L_fa H rfl 26 _ rfl 4 rfl rfl Try.underlying26 rfl (by kernel_rfl) ?_) | (refine L_fa H rfl 26 _ rfl 5 rfl rfl Try.underlying26 rfl (by kernel_rfl) ?_)); refine unput (d := some _) ?_) | ((with_reducible show wpList _ _ _ (Oper.mk (some 201) (Op.build 28 _) _ _ _ _ :: _) _ _); (refine L_bd (by kernel_rfl) 28 _ rfl (#[(0, .int .u8 7)]) (by kernel_rfl) (cat (partsH k7H k7_ok)) (fun w => by kernel_rfl) ?_); refine unput (d := some _) ?_) | ((with_reducible show wpList _ _ _ (Oper.mk (some 202) (Op.build 31 _) _ _ _ _ :: _) _ _); (refine L_bd (by kernel_rfl) 31 _ rfl (#[(0, .agg (cat (partsH k7H k7_ok)).toArray)]) (by kernel_rfl) (cat (partsFr k7H k7_ok none 0 0)) (fun w => by kernel_rfl) ?_); refine unput (d := some _) ?_) | (go_at_call 29; refine (nH_any ad n c k7H k7_ok none 0 0 [] 26 _ nh8 _ w.heap.size 0 HO.out (by decide) (ownsT_nil _ _ _ _)).mono ?_; intro e wh hrr; obtain ⟨ad9, n9, c9, va9, vc9, rfl, -, hx⟩ := hanE (by decide) hrr; clear hrr; replace H := kp (H.out.ext hx); have HXC := kp hx; clear hx) | ((with_reducible refine isAl 38 26 ?_); (refine L_alloc H rfl 26 rfl (cat (partsA as0 rfl none 0 0)) (fun _ _ => by kernel_rfl) ?_); clear H; intro g38 w38 HGg38 HEg38 H; refine unput (d := some _) ?_) | ((with_reducible show wpList _ _ _ (Oper.mk none (Op.store 26 (.tmp 38) _) _ _ _ _ :: _) _ _); ((with_reducible refine isSt 26 ?_); refine L_sa H rfl rfl 26 _ _ rfl 0 rfl rfl (partsA as0 rfl ad9 n9 c9) rfl rfl (by kernel_rfl) ?_; clear H; intro w38b HWw38b H; simp only [szA] at H)))
 have HQX := kp (HXC.out.trans (ext_wrote HEg38.out HWw38b.out (Nat.le_of_eq HGg38.out.symm)))
 have H2 := kp H.out.tail; clear H; have H := H2; clear H2
 have HQ := kp (show OwE w.heap.size _ (.slice ad n c) N7 from ownsT_ext HO.out HQX.out)
 clear HO
 have HO := HQ
 clear HQ
 have HQ := kp (show OwB w.heap.size _ (.slice p1 i1 j1) bAu from owns_ext HBA.out HQX.out)
 clear HBA HQX
 have HBA := HQ
 clear HQ
 clear HXC HEg38 HWw38b HGg38
 subst hr24
 go_wp2_with (first | ((with_reducible refine isLd 26 ?_); (first | (refine L_fa H rfl 26 _ rfl 0 rfl rfl Try.underlying26 rfl (by kernel_rfl) ?_) | (refine L_fa H rfl 26 _ rfl 1 rfl rfl Try.underlying26 rfl (by kernel_rfl) ?_) | (refine L_fa H rfl 26 _ rfl 2 rfl rfl Try.underlying26 rfl (by kernel_rfl) ?_) | (refine L_fa H rfl 26 _ rfl 3 rfl rfl Try.underlying26 rfl (by kernel_rfl) ?_) | (refine L_fa H rfl 26 _ rfl 4 rfl rfl Try.underlying26 rfl (by kernel_rfl) ?_) | (refine L_fa H rfl 26 _ rfl 5 rfl rfl Try.underlying26 rfl (by kernel_rfl) ?_)); refine unput (d := some _) ?_) | ((with_reducible refine isLd 31 ?_); refine L_fg H rfl 31 _ rfl 2 rfl _ rfl _ rfl (partsFr (reqH (stB 1) 11) (req_ok (hs6 1) k11.1 k11.2) p1 i1 j1) rfl Try.underlying31 rfl (by kernel_rfl) ?_; refine unput (d := some _) ?_) | (go_at_call 29; refine (nH_any ad n c (reqH (stB 1) 11) (req_ok (hs6 1) k11.1 k11.2) p1 i1 j1 bAu (-1) _ nh9 _ w.heap.size w.heap.size HO.out (by decide) HBA.out).mono ?_; intro e wh hrr; obtain ⟨ad9, n9, c9, va9, vc9, rfl, -, hx⟩ := hanE (by decide) hrr; clear hrr; replace H := kp (H.out.ext hx); have HXC := kp hx; clear hx) | ((with_reducible refine isAl 41 26 ?_); (refine L_alloc H rfl 26 rfl (cat (partsA as0 rfl none 0 0)) (fun _ _ => by kernel_rfl) ?_); clear H; intro g41 w41 HGg41 HEg41 H; refine unput (d := some _) ?_) | ((with_reducible show wpList _ _ _ (Oper.mk none (Op.store 26 (.tmp 41) _) _ _ _ _ :: _) _ _); ((with_reducible refine isSt 26 ?_); refine L_sa H rfl rfl 26 _ _ rfl 0 rfl rfl (partsA as0 rfl ad9 n9 c9) rfl rfl (by kernel_rfl) ?_; clear H; intro w41b HWw41b H; simp only [szA] at H)))
 have HQX := kp (HXC.out.trans (ext_wrote HEg41.out HWw41b.out (Nat.le_of_eq HGg41.out.symm)))
 have H2 := kp H.out.tail; clear H; have H := H2; clear H2
 have HQ := kp (show OwE w.heap.size _ (.slice ad n c) N7 from ownsT_ext HO.out HQX.out)
 clear HO
 have HO := HQ
 clear HQ
 have HQ := kp (show OwB w.heap.size _ (.slice p1 i1 j1) bAu from owns_ext HBA.out HQX.out)
 clear HBA HQX
 have HBA := HQ
 clear HQ
 clear HXC HEg41 HWw41b HGg41
 subst hr25
 go_wp2_with (first | ((with_reducible refine isLd 31 ?_); refine L_fg H rfl 31 _ rfl 2 rfl _ rfl _ rfl (partsFr (dtH (stB 1)) (dt_ok (hs6 1)) none 0 0) rfl Try.underlying31 rfl (by kernel_rfl) ?_; refine unput (d := some _) ?_) | ((with_reducible refine isAl 44 31 ?_); (refine L_alloc H rfl 31 rfl (cat (partsFr hd0 hd0_ok none 0 0)) (fun _ _ => by kernel_rfl) ?_); clear H; intro g44 w44 HGg44 HEg44 H; refine unput (d := some _) ?_) | ((with_reducible refine isSt 31 ?_); refine L_sa H rfl rfl 31 _ _ rfl 0 rfl rfl (partsFr (dtH (stB 1)) (dt_ok (hs6 1)) none 0 0) rfl rfl (by kernel_rfl) ?_; clear H; intro w44b HWw44b H; simp only [szA] at H))
 subst hr26
 go_wp2_with (first | ((with_reducible show wpList _ _ _ (Oper.mk (some 217) (Op.build 23 _) _ _ _ _ :: _) _ _); (refine L_bd (by kernel_rfl) 23 _ rfl (#[(0, .int .u8 1)]) (by kernel_rfl) (cat [Lf.v ⟨gpB, rfl⟩]) (fun w => by kernel_rfl) ?_); refine unput (d := some _) ?_) | ((with_reducible refine isSt 23 ?_); (first | (refine L_sv H rfl rfl 23 _ _ rfl 0 rfl _ rfl _ rfl (Lf.v ⟨gpB, rfl⟩) rfl rfl rfl (by kernel_rfl) (partsFr grH gr_ok none 0 0) rfl ?_; clear H; intro w44c HWw44c H; simp only [szA] at H) | (refine L_sv H rfl rfl 23 _ _ rfl 1 rfl _ rfl _ rfl (Lf.v ⟨gpB, rfl⟩) rfl rfl rfl (by kernel_rfl) (partsFr grH gr_ok none 0 0) rfl ?_; clear H; intro w44c HWw44c H; simp only [ssA, szA] at H) | (refine L_sv H rfl rfl 23 _ _ rfl 2 rfl _ rfl _ rfl (Lf.v ⟨gpB, rfl⟩) rfl rfl rfl (by kernel_rfl) (partsFr grH gr_ok none 0 0) rfl ?_; clear H; intro w44c HWw44c H; simp only [ssA, szA] at H) | (refine L_sv H rfl rfl 23 _ _ rfl 3 rfl _ rfl _ rfl (Lf.v ⟨gpB, rfl⟩) rfl rfl rfl (by kernel_rfl) (partsFr grH gr_ok none 0 0) rfl ?_; clear H; intro w44c HWw44c H; simp only [ssA, szA] at H) | (refine L_sv H rfl rfl 23 _ _ rfl 4 rfl _ rfl _ rfl (Lf.v ⟨gpB, rfl⟩) rfl rfl rfl (by kernel_rfl) (partsFr grH gr_ok none 0 0) rfl ?_; clear H; intro w44c HWw44c H; simp only [ssA, szA] at H) | (refine L_sv H rfl rfl 23 _ _ rfl 5 rfl _ rfl _ rfl (Lf.v ⟨gpB, rfl⟩) rfl rfl rfl (by kernel_rfl) (partsFr grH gr_ok none 0 0) rfl ?_; clear H; intro w44c HWw44c H; simp only [ssA, szA] at H))))
 have HQX := kp (ext_wrote (ext_wrote HEg44.out HWw44b.out (Nat.le_of_eq HGg44.out.symm)) HWw44c.out (Nat.le_of_eq HGg44.out.symm))
 have HQ := kp (show OwE w.heap.size _ (.slice ad n c) N7 from ownsT_ext HO.out HQX.out)
 clear HO
 have HO := HQ
 clear HQ
 have HQ := kp (show OwB w.heap.size _ (.slice p1 i1 j1) bAu from owns_ext HBA.out HQX.out)
 clear HBA HQX
 have HBA := HQ
 clear HQ
 clear HEg44 HWw44b HWw44c HGg44
 subst hr27
 go_wp2_with (first | ((with_reducible refine isLd 26 ?_); (first | (refine L_fa H rfl 26 _ rfl 0 rfl rfl Try.underlying26 rfl (by kernel_rfl) ?_) | (refine L_fa H rfl 26 _ rfl 1 rfl rfl Try.underlying26 rfl (by kernel_rfl) ?_) | (refine L_fa H rfl 26 _ rfl 2 rfl rfl Try.underlying26 rfl (by kernel_rfl) ?_) | (refine L_fa H rfl 26 _ rfl 3 rfl rfl Try.underlying26 rfl (by kernel_rfl) ?_) | (refine L_fa H rfl 26 _ rfl 4 rfl rfl Try.underlying26 rfl (by kernel_rfl) ?_) | (refine L_fa H rfl 26 _ rfl 5 rfl rfl Try.underlying26 rfl (by kernel_rfl) ?_)); refine unput (d := some _) ?_) | ((with_reducible refine isLd 31 ?_); (first | (refine L_fa H rfl 31 _ rfl 0 rfl rfl Try.underlying31 rfl (by kernel_rfl) ?_) | (refine L_fa H rfl 31 _ rfl 1 rfl rfl Try.underlying31 rfl (by kernel_rfl) ?_) | (refine L_fa H rfl 31 _ rfl 2 rfl rfl Try.underlying31 rfl (by kernel_rfl) ?_) | (refine L_fa H rfl 31 _ rfl 3 rfl rfl Try.underlying31 rfl (by kernel_rfl) ?_) | (refine L_fa H rfl 31 _ rfl 4 rfl rfl Try.underlying31 rfl (by kernel_rfl) ?_) | (refine L_fa H rfl 31 _ rfl 5 rfl rfl Try.underlying31 rfl (by kernel_rfl) ?_)); refine unput (d := some _) ?_) | (go_at_call 38; have HSZ := kp H.out.1.size; refine (nS10_any ad n c _ w.heap.size HO.out).mono ?_; rintro e wa ⟨ad45, n45, c45, rfl, ho, hx⟩; have HO2 := kp (owns_weak ho HSZ.out); clear ho HSZ; replace H := kp (H.out.ext hx); have HXC := kp hx; clear hx) | ((with_reducible refine isAl 45 26 ?_); (refine L_alloc H rfl 26 rfl (cat (partsA as0 rfl none 0 0)) (fun _ _ => by kernel_rfl) ?_); clear H; intro g45 w45 HGg45 HEg45 H; refine unput (d := some _) ?_) | ((with_reducible show wpList _ _ _ (Oper.mk none (Op.store 26 (.tmp 45) _) _ _ _ _ :: _) _ _); ((with_reducible refine isSt 26 ?_); refine L_sa H rfl rfl 26 _ _ rfl 0 rfl rfl (partsA aN haN ad45 n45 c45) rfl rfl (by kernel_rfl) ?_; clear H; intro w45b HWw45b H; simp only [szA] at H)))
 have HQX := kp (ext_wrote HEg45.out HWw45b.out (Nat.le_of_eq HGg45.out.symm))
 have HO45 := kp (show OwE w.heap.size w45b (.slice ad45 n45 c45) N7 from ownsT_ext HO2.out HQX.out)
 have HQY := kp (HXC.out.trans HQX.out)
 have HQ := kp (show OwE w.heap.size _ (.slice ad n c) N7 from ownsT_ext HO.out HQY.out)
 clear HO
 have HO := HQ
 clear HQ
 have HQ := kp (show OwB w.heap.size _ (.slice p1 i1 j1) bAu from owns_ext HBA.out HQY.out)
 clear HBA HQY
 have HBA := HQ
 clear HQ
 clear HO2 HQX HXC HEg45 HWw45b HGg45
 subst hr28
 go_wp2_with (first | ((with_reducible refine isLd 26 ?_); (first | (refine L_fa H rfl 26 _ rfl 0 rfl rfl Try.underlying26 rfl (by kernel_rfl) ?_) | (refine L_fa H rfl 26 _ rfl 1 rfl rfl Try.underlying26 rfl (by kernel_rfl) ?_) | (refine L_fa H rfl 26 _ rfl 2 rfl rfl Try.underlying26 rfl (by kernel_rfl) ?_) | (refine L_fa H rfl 26 _ rfl 3 rfl rfl Try.underlying26 rfl (by kernel_rfl) ?_) | (refine L_fa H rfl 26 _ rfl 4 rfl rfl Try.underlying26 rfl (by kernel_rfl) ?_) | (refine L_fa H rfl 26 _ rfl 5 rfl rfl Try.underlying26 rfl (by kernel_rfl) ?_)); refine unput (d := some _) ?_) | (go_at_call 22; have HSZ := kp H.out.1.size; refine (nT_any ad n c 124 _ nt1 _ w.heap.size HO.out).mono ?_; intro e wt hrr; obtain ⟨ad47, n47, c47, v48, rfl, ho, hf, hx⟩ := han1 (ha := haN) hrr; clear hrr; have HO2 := kp (owns_weak ho HSZ.out); have HF := kp (hf.weak HSZ.out); clear ho hf HSZ; replace H := kp (H.out.ext hx); have HXC := kp hx; clear hx) | ((with_reducible refine isAl 47 26 ?_); (refine L_alloc H rfl 26 rfl (cat (partsA as0 rfl none 0 0)) (fun _ _ => by kernel_rfl) ?_); clear H; intro g47 w47 HGg47 HEg47 H; refine unput (d := some _) ?_) | ((with_reducible show wpList _ _ _ (Oper.mk none (Op.store 26 (.tmp 47) _) _ _ _ _ :: _) _ _); ((with_reducible refine isSt 26 ?_); refine L_sa H rfl rfl 26 _ _ rfl 0 rfl rfl (partsA aN haN ad47 n47 c47) rfl rfl (by kernel_rfl) ?_; clear H; intro w47b HWw47b H; simp only [szA] at H)))
 obtain ⟨va48, vc48, rfl⟩ := frs_nil HF.out
 obtain rfl : n47 = 1 := (owe_len HO2.out).2
 have HQX := kp (HXC.out.trans (ext_wrote HEg47.out HWw47b.out (Nat.le_of_eq HGg47.out.symm)))
 have HQ := kp (show OwE w.heap.size _ (.slice ad n c) N7 from ownsT_ext HO.out HQX.out)
 clear HO
 have HO := HQ
 clear HQ
 have HQ := kp (show OwE w.heap.size _ (.slice ad45 n45 c45) N7 from ownsT_ext HO45.out HQX.out)
 clear HO45
 have HO45 := HQ
 clear HQ
 have HQ := kp (show OwB w.heap.size _ (.slice p1 i1 j1) bAu from owns_ext HBA.out HQX.out)
 clear HBA
 have HBA := HQ
 clear HQ
 clear HXC HEg47 HWw47b HGg47 HQX HF HO2
 subst hr29
 go_wp2_with (first | ((with_reducible refine isLd 26 ?_); refine L_fa H rfl 26 _ rfl 6 rfl rfl Try.underlying26 rfl (by kernel_rfl) ?_; refine unput (d := some _) ?_) | (go_at_call 22; have HSZ := kp H.out.1.size; refine (nT_any ad n c 125 _ nt2 _ w.heap.size HO.out).mono ?_; intro e wt hrr; obtain ⟨ad50, n50, c50, v51, rfl, ho, hf, hx⟩ := han1 (ha := haN) hrr; clear hrr; have HO2 := kp (owns_weak ho HSZ.out); have HF := kp (hf.weak HSZ.out); clear ho hf HSZ; replace H := kp (H.out.ext hx); have HXC := kp hx; clear hx) | ((with_reducible refine isAl 50 26 ?_); (refine L_alloc H rfl 26 rfl (cat (partsA as0 rfl none 0 0)) (fun _ _ => by kernel_rfl) ?_); clear H; intro g50 w50 HGg50 HEg50 H; refine unput (d := some _) ?_) | ((with_reducible show wpList _ _ _ (Oper.mk none (Op.store 26 (.tmp 50) _) _ _ _ _ :: _) _ _); ((with_reducible refine isSt 26 ?_); refine L_sa H rfl rfl 26 _ _ rfl 0 rfl rfl (partsA aN haN ad50 n50 c50) rfl rfl (by kernel_rfl) ?_; clear H; intro w50b HWw50b H; simp only [szA] at H)))
 have HM4 := kp (msg_ok (a := aN) (t := stB 1) (sub := 12) haN rfl (by decide) (by decide))
 obtain ⟨gf51, cf51, cs51, bd51, bn51, bc51, rfl, -, hlc, -, -, hc10, -⟩ := frs_known HM4.out HF.out
 obtain rfl : n50 = 0 := (owe_len HO2.out).2
 have HQX := kp (HXC.out.trans (ext_wrote HEg50.out HWw50b.out (Nat.le_of_eq HGg50.out.symm)))
 have HL51 := kp (hlc.ext (ext_wrote HEg50.out HWw50b.out (Nat.le_of_eq HGg50.out.symm)))
 have HC51 := kp (show (cs51.drop 10).take ((stB 1).map V8).length = (stB 1).map V8 from hc10)
 have HQ := kp (show OwE w.heap.size _ (.slice ad n c) N7 from ownsT_ext HO.out HQX.out)
 clear HO
 have HO := HQ
 clear HQ
 have HQ := kp (show OwE w.heap.size _ (.slice ad45 n45 c45) N7 from ownsT_ext HO45.out HQX.out)
 clear HO45
 have HO45 := HQ
 clear HQ
 have HQ := kp (show OwB w.heap.size _ (.slice p1 i1 j1) bAu from owns_ext HBA.out HQX.out)
 clear HBA
 have HBA := HQ
 clear HQ
 clear HXC HEg50 HWw50b HGg50 HQX HF HO2 hlc hc10
 have HHR := kp (fun W (hW : Ext w50b W) => nR_any ad n c (stB 1) rfl _ nr1 W w.heap.size (ownsT_ext HO.out hW))
 obtain ⟨rr, hrr⟩ : ∃ rr : Rs, rr = ([], [byeF aN (stB 1) 12 8], 0) := ⟨_, rfl⟩
 have HRR := kp hrr
 rw [← hrr] at HHR
 clear hrr
 subst hr30
 refine region_freeE H (tabS [(239, fun vQ _ => vQ = .agg (cat (partsA aN haN ad n c)).toArray), (240, fun vQ _ => vQ = .agg ((stB 1).map V8).toArray), (241, fun vQ wQ => DoV w.heap.size aN rr vQ wQ), (238, fun vQ wQ => DoV w.heap.size aN rr vQ wQ), (242, fun vQ wQ => AsV w.heap.size aN rr vQ wQ), (243, fun vQ wQ => FrS w.heap.size rr.2.1 vQ wQ), (244, fun vQ _ => vQ = .int .i64 rr.2.2), (54, fun vQ wQ => FrS w.heap.size rr.2.1 vQ wQ), (55, fun vQ _ => vQ = .int .i64 rr.2.2)]) 7 8 53 242 26 (cat (partsA as0 rfl none 0 0)) 11 (tabS_trE _ _ _ (by simp only [List.forall_mem_cons]; exact ⟨monoE_eq _ _ _, monoE_eq _ _ _, (monoE_DoV _ _ _ _), (monoE_DoV _ _ _ _), (monoE_AsV _ _ _ _), (monoE_FrS _ _ _), monoE_eq _ _ _, (monoE_FrS _ _ _), monoE_eq _ _ _, by simp⟩)) (fun _ _ => trivial) ((fun _ _ h => asV_one h)) (by kernel_rfl) (by kernel_rfl) (by kernel_rfl) (by kernel_rfl) _ _ rfl rfl (by decide) (by decide) (by decide) rfl rfl rfl (fun _ => by kernel_rfl) rfl rfl rfl (by kernel_rfl) (by kernel_rfl) (by kernel_rfl) ((by kernel_rfl)) (by kernel_rfl) ?_
 simp only [List.take_succ_cons, List.take_zero]
 refine ⟨fun _ w_ o_ S_ => ?_, fun v239 => ?_⟩
 ·clear S_
  have H := kp (H.out.ext o_)
  have HOX := kp o_
  clear o_
  go_wp2_with ((with_reducible refine isLd 26 ?_); refine L_fa H rfl 26 _ rfl 7 rfl rfl Try.underlying26 rfl (by kernel_rfl) ?_; refine unput (d := some _) ?_)
  exact kso
 simp only [pA]
 refine ⟨fun _ w_ o_ S_ => ?_, fun v240 => ?_⟩
 ·clear S_
  have H := kp (H.out.ext o_)
  have HOX := kp o_
  clear o_
  go_wp2_with fail
  refine (HS1.out _).mono ?_
  rintro e w2 ⟨rfl, hx⟩
  have HXC := kp hx
  clear hx
  go_wp2_with fail
  exact ⟨rfl, _, rfl, fun d hd => by cases hd; exact rfl, HXC.out⟩
 simp only [pA]
 refine ⟨fun _ w_ o_ S_ => ?_, fun v241 => ?_⟩
 ·obtain rfl : v239 = .agg (cat (partsA aN haN ad n c)).toArray := hsR S_ 239 rfl
  obtain rfl : v240 = .agg ((stB 1).map V8).toArray := hsR S_ 240 rfl
  clear S_
  have H := kp (H.out.ext o_)
  have HOX := kp o_
  clear o_
  go_wp2_with fail
  refine (HHR.out _ HOX.out).mono ?_
  intro e w2 hrr
  obtain ⟨v2, rfl, hd, hx⟩ := doV_of haN hrr H.out.1.size
  have HDV := kp hd
  have HXC := kp hx
  clear hrr hd hx
  go_wp2_with fail
  exact ⟨rfl, _, rfl, fun d hd => by cases hd; exact HDV.out, HXC.out⟩
 simp only [pA]
 refine ⟨fun _ w_ o_ S_ => ?_, fun v238 => ?_⟩
 ·have h241 := kp (show DoV w.heap.size aN rr v241 w_ from hsR S_ 241 rfl)
  clear S_ o_
  go_wp2_with fail
  exact ⟨rfl, _, rfl, fun d hd => by cases hd; exact h241.out, Ext.refl _⟩
 simp only [pA]
 refine ⟨fun _ w_ o_ S_ => ?_, fun v242 => ?_⟩
 ·have h238 := kp (show DoV w.heap.size aN rr v238 w_ from hsR S_ 238 rfl)
  clear S_
  have H := kp (H.out.ext o_)
  have HOX := kp o_
  clear o_
  obtain ⟨u, vo, rfl, hs, hf⟩ := h238.out
  have HAV := kp hs
  clear hs hf
  go_wp2_with fail
  exact ⟨rfl, _, rfl, fun d hd => by cases hd; exact HAV.out, Ext.refl _⟩
 simp only [pA]
 refine ⟨fun _ w_ o_ S_ => ?_, fun v243 => ?_⟩
 ·have h238 := kp (show DoV w.heap.size aN rr v238 w_ from hsR S_ 238 rfl)
  clear S_
  have H := kp (H.out.ext o_)
  have HOX := kp o_
  clear o_
  obtain ⟨u, vo, rfl, hs, hf⟩ := h238.out
  have HFV := kp hf
  clear hs hf
  go_wp2_with fail
  exact ⟨rfl, _, rfl, fun d hd => by cases hd; exact HFV.out, Ext.refl _⟩
 simp only [pA]
 refine ⟨fun _ w_ o_ S_ => ?_, fun v244 => ?_⟩
 ·have h238 := kp (show DoV w.heap.size aN rr v238 w_ from hsR S_ 238 rfl)
  clear S_
  have H := kp (H.out.ext o_)
  have HOX := kp o_
  clear o_
  obtain ⟨u, vo, rfl, hs, hf⟩ := h238.out
  clear hs hf
  go_wp2_with fail
  exact kso
 simp only [pA]
 refine ⟨(fun h => by cases h), fun v53 => ?_⟩
 simp only [pA]
 refine ⟨(fun h => by cases h), fun _ => ?_⟩
 refine ⟨fun _ w_ o_ S_ => ?_, fun v54 => ?_⟩
 ·have h243 := kp (show FrS w.heap.size rr.2.1 v243 w_ from hsR S_ 243 rfl)
  clear S_ o_
  go_wp2_with fail
  exact ⟨rfl, _, rfl, fun d hd => by cases hd; exact h243.out, Ext.refl _⟩
 simp only [pA]
 refine ⟨fun _ w_ o_ S_ => ?_, fun v55 => ?_⟩
 ·obtain rfl : v244 = .int .i64 rr.2.2 := hsR S_ 244 rfl
  clear S_ o_
  go_wp2_with fail
  exact kso
 simp only [pA]
 clear H
 intro wn30 HOX hfin hvar
 obtain ⟨g53, csg53, hvg, hvb, hvv, H⟩ := hvar
 have HBg53 := kp hvb
 have HVg53 := kp (show v242 = .agg csg53.toArray from hvv)
 clear hvb hvv
 obtain rfl : v53 = .pointer (some ⟨g53, 0, none⟩) := hvg
 obtain rfl : v239 = .agg (cat (partsA aN haN ad n c)).toArray := hfin 239 (by decide)
 obtain rfl : v240 = .agg ((stB 1).map V8).toArray := hfin 240 (by decide)
 have F241 := kp (show DoV w.heap.size aN rr v241 wn30 from hfin 241 (by decide))
 have F238 := kp (show DoV w.heap.size aN rr v238 wn30 from hfin 238 (by decide))
 have F242 := kp (show AsV w.heap.size aN rr v242 wn30 from hfin 242 (by decide))
 have F243 := kp (show FrS w.heap.size rr.2.1 v243 wn30 from hfin 243 (by decide))
 obtain rfl : v244 = .int .i64 rr.2.2 := hfin 244 (by decide)
 have F54 := kp (show FrS w.heap.size rr.2.1 v54 wn30 from hfin 54 (by decide))
 obtain rfl : v55 = .int .i64 rr.2.2 := hfin 55 (by decide)
 clear hfin
 simp only [List.drop_succ_cons, List.drop_zero]
 try simp only [applyS] at H
 have HXN := HOX
 obtain ⟨aN2, hN2, ad53, n53, c53, haQ, e59, hO⟩ := F242.out
 have hcs := HVg53.out.symm.trans e59
 injection hcs with hcs
 have hcs : csg53 = cat (partsA aN2 hN2 ad53 n53 c53) := congrArg Array.toList hcs
 subst hcs e59
 have HF54 := kp F54.out
 have hrr := HRR.out
 rw [hrr] at haQ hO HF54
 have haN2 : aN2 = aN := haQ
 clear haQ
 subst haN2
 have HO53 := kp (show OwE w.heap.size wn30 (.slice ad53 n53 c53) [] from hO)
 obtain rfl : n53 = 0 := (owe_len hO).2
 have h22 : rr.2.2 = 0 := by rw [hrr]
 rw [h22]
 have HM8 := kp (msg_ok (a := aN) (t := stB 1) (sub := 12) haN rfl (by decide) (by decide))
 obtain ⟨gf54, cf54, cs54, bd54, bn54, bc54, rfl, -, hlc, -, hc1, -, -⟩ := frs_known HM8.out HF54.out
 have HL54 := kp hlc
 have HC54 := kp (show cs54[1]? = some (.int .u8 12) from hc1)
 have HQZ := kp (HL51.out.ext HOX.out)
 clear HL51
 have HL51 := HQZ
 clear HQZ
 have HQ := kp (show OwE w.heap.size _ (.slice ad n c) N7 from ownsT_ext HO.out HOX.out)
 clear HO
 have HO := HQ
 clear HQ
 have HQ := kp (show OwE w.heap.size _ (.slice ad45 n45 c45) N7 from ownsT_ext HO45.out HOX.out)
 clear HO45
 have HO45 := HQ
 clear HQ
 have HQ := kp (show OwB w.heap.size _ (.slice p1 i1 j1) bAu from owns_ext HBA.out HOX.out)
 clear HBA
 have HBA := HQ
 clear HQ
 clear F242 F241 F238 F243 HF54 hcs hO hlc hc1 hrr h22 HHR HRR HOX HVg53 HBg53
 go_wp2_with fail
 have HHR := kp (fun W (hW : Ext wn30 W) => nR_any ad n c (stB 2) rfl _ nr2 W w.heap.size (ownsT_ext HO.out hW))
 subst hr31
 refine region_freeE H (tabS [(246, fun vQ _ => vQ = .agg (cat (partsA aN haN ad n c)).toArray), (247, fun vQ _ => vQ = .agg ((stB 2).map V8).toArray), (248, fun vQ _ => ErH 6 vQ), (245, fun vQ _ => ErH 6 vQ), (249, fun vQ _ => ErA vQ), (250, fun vQ _ => ErS vQ), (251, fun vQ _ => vQ = .int .i64 6), (57, fun vQ _ => ErS vQ), (58, fun vQ _ => vQ = .int .i64 6)]) 7 8 56 249 26 (cat (partsA as0 rfl none 0 0)) 11 (tabS_trE _ _ _ (by simp only [List.forall_mem_cons]; exact ⟨monoE_eq _ _ _, monoE_eq _ _ _, (fun _ _ _ h _ => h), (fun _ _ _ h _ => h), (fun _ _ _ h _ => h), (fun _ _ _ h _ => h), monoE_eq _ _ _, (fun _ _ _ h _ => h), monoE_eq _ _ _, by simp⟩)) (fun _ _ => trivial) ((fun _ _ h => erA_one h)) (by kernel_rfl) (by kernel_rfl) (by kernel_rfl) (by kernel_rfl) _ _ rfl rfl (by decide) (by decide) (by decide) rfl rfl rfl (fun _ => by kernel_rfl) rfl rfl rfl (by kernel_rfl) (by kernel_rfl) (by kernel_rfl) ((by kernel_rfl)) (by kernel_rfl) ?_
 simp only [List.take_succ_cons, List.take_zero]
 refine ⟨fun _ w_ o_ S_ => ?_, fun v246 => ?_⟩
 ·clear S_
  have H := kp (H.out.ext o_)
  have HOX := kp o_
  clear o_
  go_wp2_with ((with_reducible refine isLd 26 ?_); refine L_fa H rfl 26 _ rfl 8 rfl rfl Try.underlying26 rfl (by kernel_rfl) ?_; refine unput (d := some _) ?_)
  exact kso
 simp only [pA]
 refine ⟨fun _ w_ o_ S_ => ?_, fun v247 => ?_⟩
 ·clear S_
  have H := kp (H.out.ext o_)
  have HOX := kp o_
  clear o_
  go_wp2_with fail
  refine (HS2.out _).mono ?_
  rintro e w2 ⟨rfl, hx⟩
  have HXC := kp hx
  clear hx
  go_wp2_with fail
  exact ⟨rfl, _, rfl, fun d hd => by cases hd; exact rfl, HXC.out⟩
 simp only [pA]
 refine ⟨fun _ w_ o_ S_ => ?_, fun v248 => ?_⟩
 ·obtain rfl : v246 = .agg (cat (partsA aN haN ad n c)).toArray := hsR S_ 246 rfl
  obtain rfl : v247 = .agg ((stB 2).map V8).toArray := hsR S_ 247 rfl
  clear S_
  have H := kp (H.out.ext o_)
  have HOX := kp o_
  clear o_
  go_wp2_with fail
  refine (HHR.out _ HOX.out).mono ?_
  intro e w2 hrr
  obtain ⟨ad9, n9, c9, va, vc, rfl, -, hx⟩ := hanE (by decide) hrr
  have HXC := kp hx
  clear hx hrr
  go_wp2_with fail
  exact ⟨rfl, _, rfl, fun d hd => by cases hd; exact ⟨ad9, n9, c9, va, vc, rfl⟩, HXC.out⟩
 simp only [pA]
 refine ⟨fun _ w_ o_ S_ => ?_, fun v245 => ?_⟩
 ·have h248 := kp (show ErH 6 v248 from hsR S_ 248 rfl)
  clear S_ o_
  go_wp2_with fail
  exact ⟨rfl, _, rfl, fun d hd => by cases hd; exact h248.out, Ext.refl _⟩
 simp only [pA]
 refine ⟨fun _ w_ o_ S_ => ?_, fun v249 => ?_⟩
 ·have h245 := kp (show ErH 6 v245 from hsR S_ 245 rfl)
  clear S_
  have H := kp (H.out.ext o_)
  have HOX := kp o_
  clear o_
  obtain ⟨ad9, n9, c9, va, vc, rfl⟩ := h245.out
  go_wp2_with fail
  exact ⟨rfl, _, rfl, fun d hd => by cases hd; exact ⟨ad9, n9, c9, rfl⟩, Ext.refl _⟩
 simp only [pA]
 refine ⟨fun _ w_ o_ S_ => ?_, fun v250 => ?_⟩
 ·have h245 := kp (show ErH 6 v245 from hsR S_ 245 rfl)
  clear S_
  have H := kp (H.out.ext o_)
  have HOX := kp o_
  clear o_
  obtain ⟨ad9, n9, c9, va, vc, rfl⟩ := h245.out
  go_wp2_with fail
  exact ⟨rfl, _, rfl, fun d hd => by cases hd; exact ⟨va, vc, rfl⟩, Ext.refl _⟩
 simp only [pA]
 refine ⟨fun _ w_ o_ S_ => ?_, fun v251 => ?_⟩
 ·have h245 := kp (show ErH 6 v245 from hsR S_ 245 rfl)
  clear S_
  have H := kp (H.out.ext o_)
  have HOX := kp o_
  clear o_
  obtain ⟨ad9, n9, c9, va, vc, rfl⟩ := h245.out
  go_wp2_with fail
  exact kso
 simp only [pA]
 refine ⟨(fun h => by cases h), fun v56 => ?_⟩
 simp only [pA]
 refine ⟨(fun h => by cases h), fun _ => ?_⟩
 refine ⟨fun _ w_ o_ S_ => ?_, fun v57 => ?_⟩
 ·have h250 := kp (show ErS v250 from hsR S_ 250 rfl)
  clear S_ o_
  go_wp2_with fail
  exact ⟨rfl, _, rfl, fun d hd => by cases hd; exact h250.out, Ext.refl _⟩
 simp only [pA]
 refine ⟨fun _ w_ o_ S_ => ?_, fun v58 => ?_⟩
 ·obtain rfl : v251 = .int .i64 6 := hsR S_ 251 rfl
  clear S_ o_
  go_wp2_with fail
  exact kso
 simp only [pA]
 clear H
 intro wn31 HOX hfin hvar
 obtain ⟨g56, csg56, hvg, hvb, hvv, H⟩ := hvar
 have HBg56 := kp hvb
 have HVg56 := kp (show v249 = .agg csg56.toArray from hvv)
 clear hvb hvv
 obtain rfl : v56 = .pointer (some ⟨g56, 0, none⟩) := hvg
 obtain rfl : v246 = .agg (cat (partsA aN haN ad n c)).toArray := hfin 246 (by decide)
 obtain rfl : v247 = .agg ((stB 2).map V8).toArray := hfin 247 (by decide)
 have F248 := kp (show ErH 6 v248 from hfin 248 (by decide))
 have F245 := kp (show ErH 6 v245 from hfin 245 (by decide))
 have F249 := kp (show ErA v249 from hfin 249 (by decide))
 have F250 := kp (show ErS v250 from hfin 250 (by decide))
 obtain rfl : v251 = .int .i64 6 := hfin 251 (by decide)
 have F57 := kp (show ErS v57 from hfin 57 (by decide))
 obtain rfl : v58 = .int .i64 6 := hfin 58 (by decide)
 clear hfin
 simp only [List.drop_succ_cons, List.drop_zero]
 try simp only [applyS] at H
 have HXN := HOX
 have H2 := kp H.out.tail; clear H; have H := H2; clear H2
 have HQ := kp (HL51.out.ext HOX.out)
 clear HL51
 have HL51 := HQ
 clear HQ
 have HQ := kp (HL54.out.ext HOX.out)
 clear HL54
 have HL54 := HQ
 clear HQ
 have HQ := kp (show OwE w.heap.size _ (.slice ad53 0 c53) [] from ownsT_ext HO53.out HOX.out)
 clear HO53
 have HO53 := HQ
 clear HQ
 have HQ := kp (show OwE w.heap.size _ (.slice ad n c) N7 from ownsT_ext HO.out HOX.out)
 clear HO
 have HO := HQ
 clear HQ
 have HQ := kp (show OwE w.heap.size _ (.slice ad45 n45 c45) N7 from ownsT_ext HO45.out HOX.out)
 clear HO45
 have HO45 := HQ
 clear HQ
 have HQ := kp (show OwB w.heap.size _ (.slice p1 i1 j1) bAu from owns_ext HBA.out HOX.out)
 clear HBA
 have HBA := HQ
 clear HQ
 clear HHR HOX HBg56 HVg56
 go_wp2_with fail
 subst hr32
 go_wp2_with (first | ((with_reducible refine isLd 26 ?_); refine L_fa H rfl 26 _ rfl 8 rfl rfl Try.underlying26 rfl (by kernel_rfl) ?_; refine unput (d := some _) ?_) | ((with_reducible refine isLd 31 ?_); refine L_fg H rfl 31 _ rfl 7 rfl _ rfl _ rfl (partsFr (reqH (stB 1) 11) (req_ok (hs6 1) k11.1 k11.2) p1 i1 j1) rfl Try.underlying31 rfl (by kernel_rfl) ?_; refine unput (d := some _) ?_) | (go_at_call 36; have HSZ := kp H.out.1.size; refine (nA11_any ad n c p1 i1 j1 _ w.heap.size w.heap.size HO.out HBA.out).mono ?_; rintro e wa ⟨ad59, n59, c59, rfl, ho, hx⟩; have HO2 := kp (owns_weak ho HSZ.out); clear ho HSZ; replace H := kp (H.out.ext hx); have HXC := kp hx; clear hx) | ((with_reducible refine isAl 59 26 ?_); (refine L_alloc H rfl 26 rfl (cat (partsA as0 rfl none 0 0)) (fun _ _ => by kernel_rfl) ?_); clear H; intro g59 w59 HGg59 HEg59 H; refine unput (d := some _) ?_) | ((with_reducible show wpList _ _ _ (Oper.mk none (Op.store 26 (.tmp 59) _) _ _ _ _ :: _) _ _); ((with_reducible refine isSt 26 ?_); refine L_sa H rfl rfl 26 _ _ rfl 0 rfl rfl (partsA aN haN ad59 n59 c59) rfl rfl (by kernel_rfl) ?_; clear H; intro w59b HWw59b H; simp only [szA] at H)))
 obtain rfl : n59 = 1 := (owe_len HO2.out).2
 have HQX := kp (HXC.out.trans (ext_wrote HEg59.out HWw59b.out (Nat.le_of_eq HGg59.out.symm)))
 have HO59 := kp (show OwE w.heap.size w59b (.slice ad59 1 c59) NR from ownsT_ext HO2.out (ext_wrote HEg59.out HWw59b.out (Nat.le_of_eq HGg59.out.symm)))
 have HQ := kp (HL51.out.ext HQX.out)
 clear HL51
 have HL51 := HQ
 clear HQ
 have HQ := kp (HL54.out.ext HQX.out)
 clear HL54
 have HL54 := HQ
 clear HQ
 have HQ := kp (show OwE w.heap.size _ (.slice ad53 0 c53) [] from ownsT_ext HO53.out HQX.out)
 clear HO53
 have HO53 := HQ
 clear HQ
 have HQ := kp (show OwE w.heap.size _ (.slice ad n c) N7 from ownsT_ext HO.out HQX.out)
 clear HO
 have HO := HQ
 clear HQ
 have HQ := kp (show OwE w.heap.size _ (.slice ad45 n45 c45) N7 from ownsT_ext HO45.out HQX.out)
 clear HO45
 have HO45 := HQ
 clear HQ
 have HQ := kp (show OwB w.heap.size _ (.slice p1 i1 j1) bAu from owns_ext HBA.out HQX.out)
 clear HBA
 have HBA := HQ
 clear HQ
 clear HXC HEg59 HWw59b HGg59 HQX HO2
 subst hr33
 go_wp2_with (first | (go_at_call 32; refine (HS1.out _).mono ?_; rintro e ws ⟨rfl, hx⟩; replace H := kp (H.out.ext hx); have HXC := kp hx; clear hx) | (go_at_call 37; have HXD := HXC; clear HXC; refine (frame_any (stB 1) (hs6 1) 13 k13.1 k13.2 none 0 0 _).mono ?_; rintro e wf ⟨rfl, hx⟩; replace H := kp (H.out.ext hx); have HXC := kp hx; clear hx) | ((with_reducible refine isAl 61 31 ?_); (refine L_alloc H rfl 31 rfl (cat (partsFr hd0 hd0_ok none 0 0)) (fun _ _ => by kernel_rfl) ?_); clear H; intro g61 w61 HGg61 HEg61 H; refine unput (d := some _) ?_) | ((with_reducible refine isSt 31 ?_); refine L_sa H rfl rfl 31 _ _ rfl 0 rfl rfl (partsFr (reqH (stB 1) 13) (req_ok (hs6 1) k13.1 k13.2) none 0 0) rfl rfl (by kernel_rfl) ?_; clear H; intro w61b HWw61b H; simp only [szA] at H))
 have HQX := kp ((HXD.out.trans HXC.out).trans (ext_wrote HEg61.out HWw61b.out (Nat.le_of_eq HGg61.out.symm)))
 have HQ := kp (ownsT_ext HO59.out HQX.out)
 clear HO59
 have HO59 := HQ
 clear HQ
 have HQ := kp (HL51.out.ext HQX.out)
 clear HL51
 have HL51 := HQ
 clear HQ
 have HQ := kp (HL54.out.ext HQX.out)
 clear HL54
 have HL54 := HQ
 clear HQ
 have HQ := kp (show OwE w.heap.size _ (.slice ad53 0 c53) [] from ownsT_ext HO53.out HQX.out)
 clear HO53
 have HO53 := HQ
 clear HQ
 have HQ := kp (show OwE w.heap.size _ (.slice ad n c) N7 from ownsT_ext HO.out HQX.out)
 clear HO
 have HO := HQ
 clear HQ
 have HQ := kp (show OwE w.heap.size _ (.slice ad45 n45 c45) N7 from ownsT_ext HO45.out HQX.out)
 clear HO45
 have HO45 := HQ
 clear HQ
 have HQ := kp (show OwB w.heap.size _ (.slice p1 i1 j1) bAu from owns_ext HBA.out HQX.out)
 clear HBA
 have HBA := HQ
 clear HQ
 clear HXC HXD HEg61 HWw61b HGg61 HQX
 have HXB := kp (Ext.refl w61b)
 subst hr34
 go_wp2_with (first | ((with_reducible refine isLd 26 ?_); refine L_fa H rfl 26 _ rfl 10 rfl rfl Try.underlying26 rfl (by kernel_rfl) ?_; refine unput (d := some _) ?_) | ((with_reducible refine isLd 26 ?_); refine L_fa H rfl 26 _ rfl 2 rfl rfl Try.underlying26 rfl (by kernel_rfl) ?_; refine unput (d := some _) ?_) | ((with_reducible show wpList _ _ _ (Oper.mk (some 263) _ _ _ _ _ :: _) _ _); ((with_reducible refine isLd 31 ?_); refine L_fg H rfl 31 _ rfl 9 rfl _ rfl _ rfl (partsFr (dtH (stB 1)) (dt_ok (hs6 1)) none 0 0) rfl Try.underlying31 rfl (by kernel_rfl) ?_; refine unput (d := some _) ?_)) | ((with_reducible show wpList _ _ _ (Oper.mk (some 279) _ _ _ _ _ :: _) _ _); ((with_reducible refine isLd 31 ?_); refine L_fg H rfl 31 _ rfl 9 rfl _ rfl _ rfl (partsFr (dtH (stB 1)) (dt_ok (hs6 1)) none 0 0) rfl Try.underlying31 rfl (by kernel_rfl) ?_; refine unput (d := some _) ?_)) | ((with_reducible show wpList _ _ _ (Oper.mk (some 286) _ _ _ _ _ :: _) _ _); ((with_reducible refine isLd 31 ?_); refine L_fg H rfl 31 _ rfl 9 rfl _ rfl _ rfl (partsFr (reqH (stB 1) 11) (req_ok (hs6 1) k11.1 k11.2) p1 i1 j1) rfl Try.underlying31 rfl (by kernel_rfl) ?_; refine unput (d := some _) ?_)) | ((with_reducible show wpList _ _ _ (Oper.mk (some 292) _ _ _ _ _ :: _) _ _); ((with_reducible refine isLd 31 ?_); refine L_fg H rfl 31 _ rfl 9 rfl _ rfl _ rfl (partsFr (reqH (stB 1) 0) (req_ok (hs6 1) k0.1 k0.2) q1 m1 o1) rfl Try.underlying31 rfl (by kernel_rfl) ?_; refine unput (d := some _) ?_)) | ((with_reducible refine isLd 31 ?_); refine L_fa H rfl 31 _ rfl 0 rfl rfl Try.underlying31 rfl (by kernel_rfl) ?_; refine unput (d := some _) ?_) | ((with_reducible refine isLd 31 ?_); refine L_fa H rfl 31 _ rfl 6 rfl rfl Try.underlying31 rfl (by kernel_rfl) ?_; refine unput (d := some _) ?_) | (go_at_call 18; (with_reducible show Calls _ _ #[Value.agg (cat (partsA aN _ ad n c)).toArray, Value.agg (cat (partsFr (dtH _) _ none 0 0)).toArray] _ _); refine (nW_any (N7) (l6_N7) (by decide) ad n c (dtH (stB 1)) (dt_ok (hs6 1)) none 0 0 _ (na1) _ w.heap.size (ownsT_ext HO.out HXB.out)).mono ?_; rintro e wx ⟨rfl, hx⟩; replace H := kp (H.out.ext hx); have HXC := kp hx; clear hx; have HQ := kp (HXB.out.trans HXC.out); clear HXB HXC; have HXB := HQ; clear HQ) | (go_at_call 18; (with_reducible show Calls _ _ #[Value.agg (cat (partsA aN _ ad n c)).toArray, Value.agg (cat (partsFr (reqH _ 13) _ none 0 0)).toArray] _ _); refine (nW_any (N7) (l6_N7) (by decide) ad n c (reqH (stB 1) 13) (req_ok (hs6 1) k13.1 k13.2) none 0 0 _ (na2) _ w.heap.size (ownsT_ext HO.out HXB.out)).mono ?_; rintro e wx ⟨rfl, hx⟩; replace H := kp (H.out.ext hx); have HXC := kp hx; clear hx; have HQ := kp (HXB.out.trans HXC.out); clear HXB HXC; have HXB := HQ; clear HQ) | (go_at_call 18; (with_reducible show Calls _ _ #[Value.agg (cat (partsA aN _ ad53 0 c53)).toArray, Value.agg (cat (partsFr (reqH _ 13) _ none 0 0)).toArray] _ _); refine (nW_any ([]) (l6_0) (by decide) ad53 0 c53 (reqH (stB 1) 13) (req_ok (hs6 1) k13.1 k13.2) none 0 0 _ (na3) _ w.heap.size (ownsT_ext HO53.out HXB.out)).mono ?_; rintro e wx ⟨rfl, hx⟩; replace H := kp (H.out.ext hx); have HXC := kp hx; clear hx; have HQ := kp (HXB.out.trans HXC.out); clear HXB HXC; have HXB := HQ; clear HQ) | (go_at_call 18; (with_reducible show Calls _ _ #[Value.agg (cat (partsA aN _ ad53 0 c53)).toArray, Value.agg (cat (partsFr (dtH _) _ none 0 0)).toArray] _ _); refine (nW_any ([]) (l6_0) (by decide) ad53 0 c53 (dtH (stB 1)) (dt_ok (hs6 1)) none 0 0 _ (na4) _ w.heap.size (ownsT_ext HO53.out HXB.out)).mono ?_; rintro e wx ⟨rfl, hx⟩; replace H := kp (H.out.ext hx); have HXC := kp hx; clear hx; have HQ := kp (HXB.out.trans HXC.out); clear HXB HXC; have HXB := HQ; clear HQ) | (go_at_call 18; (with_reducible show Calls _ _ #[Value.agg (cat (partsA aN _ ad53 0 c53)).toArray, Value.agg (cat (partsFr (reqH _ 11) _ p1 i1 j1)).toArray] _ _); refine (nW_any ([]) (l6_0) (by decide) ad53 0 c53 (reqH (stB 1) 11) (req_ok (hs6 1) k11.1 k11.2) p1 i1 j1 _ (na5) _ w.heap.size (ownsT_ext HO53.out HXB.out)).mono ?_; rintro e wx ⟨rfl, hx⟩; replace H := kp (H.out.ext hx); have HXC := kp hx; clear hx; have HQ := kp (HXB.out.trans HXC.out); clear HXB HXC; have HXB := HQ; clear HQ) | (go_at_call 18; (with_reducible show Calls _ _ #[Value.agg (cat (partsA aN _ ad53 0 c53)).toArray, Value.agg (cat (partsFr (reqH _ 0) _ q1 m1 o1)).toArray] _ _); refine (nW_any ([]) (l6_0) (by decide) ad53 0 c53 (reqH (stB 1) 0) (req_ok (hs6 1) k0.1 k0.2) q1 m1 o1 _ (na6) _ w.heap.size (ownsT_ext HO53.out HXB.out)).mono ?_; rintro e wx ⟨rfl, hx⟩; replace H := kp (H.out.ext hx); have HXC := kp hx; clear hx; have HQ := kp (HXB.out.trans HXC.out); clear HXB HXC; have HXB := HQ; clear HQ) | (go_at_call 18; (with_reducible show Calls _ _ #[Value.agg (cat (partsA aN _ ad n c)).toArray, Value.agg (cat (partsFr (grH) _ none 0 0)).toArray] _ _); refine (nW_any (N7) (l6_N7) (by decide) ad n c (grH) (gr_ok) none 0 0 _ (na7) _ w.heap.size (ownsT_ext HO.out HXB.out)).mono ?_; rintro e wx ⟨rfl, hx⟩; replace H := kp (H.out.ext hx); have HXC := kp hx; clear hx; have HQ := kp (HXB.out.trans HXC.out); clear HXB HXC; have HXB := HQ; clear HQ))
 subst hr35
 go_wp2_with fail
 obtain rfl : n = 1 := (owe_len HO.out).2
 have HF := kp H.out
 have H36 := kp (H.out.sub (show List.Sublist [(g31, 39, cat (partsE e7 h67)), (g29, 39, cat (partsE e7 h67)), (g1, 26, cat (partsA aN haN ad 1 c))] _ from (.cons _ (.cons _ (.cons _ (.cons _ (.cons _ (.cons _ (.cons _ (.cons_cons _ (.cons_cons _ (.cons _ (.cons_cons _ .slnil)))))))))))))
 clear H
 have H := H36
 clear H36
 subst hr36
 refine region_z H 44 (by kernel_rfl) (by kernel_rfl) (by kernel_rfl) (by kernel_rfl) (by decide) (Nat.le_of_ble_eq_true (by kernel_rfl)) ?_
 apply Exists.intro
 refine ⟨fun xz2 => ?_, fun wz2 HXZ H => ?_⟩
 ·simp only [List.take_succ_cons, List.take_zero]
  unfold Cx
  repeat (first | ((with_reducible show wpQuiet _ _ _ _ (Oper.mk _ (Op.load 39 _) _ _ _ _ :: _) _); go_big_quiet_want; (first | (refine qz_a H 39 _ rfl 0 rfl rfl Try.underlying39 rfl (by kernel_rfl) ?_) | (refine qz_a H 39 _ rfl 1 rfl rfl Try.underlying39 rfl (by kernel_rfl) ?_) | (refine qz_a H 39 _ rfl 2 rfl rfl Try.underlying39 rfl (by kernel_rfl) ?_) | (refine qz_a H 39 _ rfl 3 rfl rfl Try.underlying39 rfl (by kernel_rfl) ?_) | (refine qz_a H 39 _ rfl 4 rfl rfl Try.underlying39 rfl (by kernel_rfl) ?_) | (refine qz_a H 39 _ rfl 5 rfl rfl Try.underlying39 rfl (by kernel_rfl) ?_)); simp only [pA]; go_big_quiet_on) | ((with_reducible show wpQuiet _ _ _ _ (Oper.mk _ (Op.build 39 _) _ _ _ _ :: _) _); go_big_quiet_want; refine qz_bd 39 _ rfl (#[(0, .agg ((stB 1).map V8).toArray), (1, .int .u8 2), (2, .int .i64 1), (3, .int .i64 7), (4, .int .i64 9), (5, .int .i64 25)]) (by kernel_rfl) (cat (partsE e7 h67)) (fun w => by kernel_rfl) ?_; simp only [pA]; go_big_quiet_on) | ((with_reducible show wpQuiet _ _ _ _ (Oper.mk _ (Op.binOp _ 39 _ _ _) _ _ _ _ :: _) _); go_big_quiet_want; (first | refine qz_eq 39 _ _ _ rfl _ _ _ rfl rfl Try.eqGuardType39 (fun _ => eqE7 _) ?_ | refine qz_ne 39 _ _ _ rfl _ _ _ rfl rfl Try.eqGuardType39 (fun _ => eqE7 _) ?_); simp only [pA]; go_big_quiet_on) | ((with_reducible show wpQuiet _ _ _ _ (Oper.mk _ (Op.load 24 _) _ _ _ _ :: _) _); go_big_quiet_want; (first | (refine qz_1 H 24 _ rfl 0 rfl _ rfl _ rfl _ rfl Try.underlying24 rfl ?_) | (refine qz_1 H 24 _ rfl 1 rfl _ rfl _ rfl _ rfl Try.underlying24 rfl ?_) | (refine qz_1 H 24 _ rfl 2 rfl _ rfl _ rfl _ rfl Try.underlying24 rfl ?_) | (refine qz_1 H 24 _ rfl 3 rfl _ rfl _ rfl _ rfl Try.underlying24 rfl ?_) | (refine qz_1 H 24 _ rfl 4 rfl _ rfl _ rfl _ rfl Try.underlying24 rfl ?_) | (refine qz_1 H 24 _ rfl 5 rfl _ rfl _ rfl _ rfl Try.underlying24 rfl ?_)); simp only [pA]; go_big_quiet_on) | go_big_quiet_step (exact Calls.cx_of (HS1.out _)))
  exact wpQuiet_nil rfl
 simp only [List.drop_succ_cons, List.drop_zero]
 go_wp2_with fail
 have H2 := kp (HF.out.ext HXZ.out)
 clear H HF
 have H := H2
 clear H2
 have HQ := kp (HXB.out.trans HXZ.out)
 clear HXB HXZ
 have HXB := HQ
 clear HQ
 subst hr37
 go_wp2_with (first | ((with_reducible refine isLd 26 ?_); refine L_fa H rfl 26 _ rfl 10 rfl rfl Try.underlying26 rfl (by kernel_rfl) ?_; refine unput (d := some _) ?_) | ((with_reducible refine isLd 26 ?_); refine L_fa H rfl 26 _ rfl 5 rfl rfl Try.underlying26 rfl (by kernel_rfl) ?_; refine unput (d := some _) ?_) | (go_at_call 17; refine (nSm_any ad 1 c ad45 n45 c45 _ w.heap.size w.heap.size (ownsT_ext HO.out HXB.out) (ownsT_ext HO45.out HXB.out)).mono ?_; rintro e wx ⟨rfl, hx⟩; replace H := kp (H.out.ext hx); have HXC := kp hx; clear hx; have HQ := kp (HXB.out.trans HXC.out); clear HXB HXC; have HXB := HQ; clear HQ))
 have HF := kp H.out
 have H38 := kp (H.out.sub (show List.Sublist [(g53, 26, cat (partsA aN haN ad53 0 c53)), (g50, 26, cat (partsA aN haN ad50 0 c50)), (g47, 26, cat (partsA aN haN ad47 1 c47))] _ from (.cons _ (.cons _ (.cons_cons _ (.cons_cons _ (.cons_cons _ (.cons _ (.cons _ (.cons _ (.cons _ (.cons _ (.cons _ .slnil)))))))))))))
 clear H
 have H := H38
 clear H38
 subst hr38
 refine region_z H 61 (by kernel_rfl) (by kernel_rfl) (by kernel_rfl) (by kernel_rfl) (by decide) (Nat.le_of_ble_eq_true (by kernel_rfl)) ?_
 apply Exists.intro
 refine ⟨fun xz3 => ?_, fun wz3 HXZ H => ?_⟩
 ·simp only [List.take_succ_cons, List.take_zero]
  unfold Cx
  repeat (first | ((with_reducible show wpQuiet _ _ _ _ (Oper.mk _ (Op.load 24 _) _ _ _ _ :: _) _); go_big_quiet_want; (first | (refine qz_1 H 24 _ rfl 0 rfl _ rfl _ rfl _ rfl Try.underlying24 rfl ?_) | (refine qz_1 H 24 _ rfl 1 rfl _ rfl _ rfl _ rfl Try.underlying24 rfl ?_) | (refine qz_1 H 24 _ rfl 2 rfl _ rfl _ rfl _ rfl Try.underlying24 rfl ?_) | (refine qz_1 H 24 _ rfl 3 rfl _ rfl _ rfl _ rfl Try.underlying24 rfl ?_) | (refine qz_1 H 24 _ rfl 4 rfl _ rfl _ rfl _ rfl Try.underlying24 rfl ?_) | (refine qz_1 H 24 _ rfl 5 rfl _ rfl _ rfl _ rfl Try.underlying24 rfl ?_)); simp only [pA]; go_big_quiet_on) | ((with_reducible show wpQuiet _ _ _ _ (Oper.mk _ (Op.load 23 _) _ _ _ _ :: _) _); go_big_quiet_want; refine qz_r 23 _ rfl gf51 10 rfl ((stB 1).map V8) (fun W hx => (HL51.out.ext (HXB.out.trans hx)).range HC51.out) Try.underlying23 rfl (by kernel_rfl) ?_; simp only [pA]; go_big_quiet_on) | ((with_reducible show wpQuiet _ _ _ _ (Oper.mk _ (Op.load 5 _) _ _ _ _ :: _) _); go_big_quiet_want; refine qz_c 5 _ rfl _ _ rfl (.int .u8 12) (fun W hx => (HL54.out.ext (HXB.out.trans hx)).cell HC54.out) Try.underlying5 rfl ?_; simp only [pA]; go_big_quiet_on) | ((with_reducible show wpQuiet _ _ _ _ (Oper.mk _ (Op.binOp _ 23 _ _ _) _ _ _ _ :: _) _); go_big_quiet_want; (first | refine qz_eq 23 _ _ _ rfl _ _ _ rfl rfl Try.eqGuardType23 (fun _ => eqAddrS (stB 1) rfl _) ?_ | refine qz_ne 23 _ _ _ rfl _ _ _ rfl rfl Try.eqGuardType23 (fun _ => eqAddrS (stB 1) rfl _) ?_); simp only [pA]; go_big_quiet_on) | go_big_quiet_step (exact Calls.cx_of (HS1.out _)))
  exact wpQuiet_nil rfl
 simp only [List.drop_succ_cons, List.drop_zero]
 go_wp2_with fail
 have H2 := kp (HF.out.ext HXZ.out)
 clear H HF
 have H := H2
 clear H2
 have HQ := kp (HXB.out.trans HXZ.out)
 clear HXB HXZ
 have HXB := HQ
 clear HQ
 subst hr39
 go_wp2_with (first | (go_at_call 32; refine (HS1.out _).mono ?_; rintro e ws ⟨rfl, hx⟩; replace H := kp (H.out.ext hx); have HXC := kp hx; clear hx; have HQ := kp (HXB.out.trans HXC.out); clear HXB; have HXB := HQ; clear HQ) | (go_at_call 32; refine (HS2.out _).mono ?_; rintro e ws ⟨rfl, hx⟩; replace H := kp (H.out.ext hx); have HXC := kp hx; clear hx; have HQ := kp (HXB.out.trans HXC.out); clear HXB; have HXB := HQ; clear HQ) | ((with_reducible show wpList _ _ _ (Oper.mk (some 454) (Op.build 39 _) _ _ _ _ :: _) _ _); (refine L_bd (by kernel_rfl) 39 _ rfl (#[(0, .agg ((stB 1).map V8).toArray)]) (by kernel_rfl) (cat (partsE ⟨stB 1, 0, 0, 0, 0, 0⟩ rfl)) (fun w => by kernel_rfl) ?_); refine unput (d := some _) ?_) | ((with_reducible show wpList _ _ _ (Oper.mk (some 461) (Op.build 39 _) _ _ _ _ :: _) _ _); (refine L_bd (by kernel_rfl) 39 _ rfl (#[(0, .agg ((stB 1).map V8).toArray), (1, .int .u8 2), (2, .int .i64 4)]) (by kernel_rfl) (cat (partsE ⟨stB 1, 2, 4, 0, 0, 0⟩ rfl)) (fun w => by kernel_rfl) ?_); refine unput (d := some _) ?_) | ((with_reducible show wpList _ _ _ (Oper.mk (some 463) (Op.build 39 _) _ _ _ _ :: _) _ _); (refine L_bd (by kernel_rfl) 39 _ rfl (#[(0, .agg ((stB 2).map V8).toArray), (1, .int .u8 2), (2, .int .i64 4)]) (by kernel_rfl) (cat (partsE ⟨stB 2, 2, 4, 0, 0, 0⟩ rfl)) (fun w => by kernel_rfl) ?_); refine unput (d := some _) ?_) | (((with_reducible show wpList _ _ _ (Oper.mk (some 455) (Op.buildSlice 24 _ _) _ _ _ _ :: _) _ _); (refine L_bs H (by kernel_rfl) 24 1 _ rfl (#[(0, .agg (cat (partsE ⟨stB 1, 0, 0, 0, 0, 0⟩ rfl)).toArray)]) (by kernel_rfl) 39 (zE1.flatMap cellsE) (fun _ => by kernel_rfl) ?_); clear H; intro g455 w455 HGg455 HEg455 H; refine unput (d := some _) ?_); have HQ := kp (HXB.out.trans HEg455.out); clear HXB; have HXB := HQ; clear HQ) | (((with_reducible show wpList _ _ _ (Oper.mk (some 464) (Op.buildSlice 24 _ _) _ _ _ _ :: _) _ _); (refine L_bs H (by kernel_rfl) 24 2 _ rfl (#[(0, .agg (cat (partsE ⟨stB 1, 2, 4, 0, 0, 0⟩ rfl)).toArray), (1, .agg (cat (partsE ⟨stB 2, 2, 4, 0, 0, 0⟩ rfl)).toArray)]) (by kernel_rfl) 39 (zE2.flatMap cellsE) (fun _ => by kernel_rfl) ?_); clear H; intro g464 w464 HGg464 HEg464 H; refine unput (d := some _) ?_); have HQ := kp (HXB.out.trans HEg464.out); clear HXB; have HXB := HQ; clear HQ) | ((with_reducible show wpList _ _ _ (Oper.mk (some 456) (Op.build 26 _) _ _ _ _ :: _) _ _); (refine L_bd (by kernel_rfl) 26 _ rfl (#[(2, .int .i64 1), (3, .int .i64 1), (4, .slice (some ⟨g455, 0, none⟩) 1 1)]) (by kernel_rfl) (cat (partsA ⟨zero6, 0, 1, 1⟩ rfl (some ⟨g455, 0, none⟩) 1 1)) (fun w => by kernel_rfl) ?_); refine unput (d := some _) ?_) | ((with_reducible show wpList _ _ _ (Oper.mk (some 465) (Op.build 26 _) _ _ _ _ :: _) _ _); (refine L_bd (by kernel_rfl) 26 _ rfl (#[(2, .int .i64 3), (3, .int .i64 1), (4, .slice (some ⟨g464, 0, none⟩) 2 2)]) (by kernel_rfl) (cat (partsA ⟨zero6, 0, 3, 1⟩ rfl (some ⟨g464, 0, none⟩) 2 2)) (fun w => by kernel_rfl) ?_); refine unput (d := some _) ?_) | (go_at_call 20; refine (nC_any ⟨zero6, 0, 3, 1⟩ rfl zE2 l6_z2 (by decide) 8 nc2 g464 _ (H.out.at 0 rfl)).mono ?_; rintro e wx ⟨rfl, hx⟩; replace H := kp (H.out.ext hx); have HXC := kp hx; clear hx; have HQ := kp (HXB.out.trans HXC.out); clear HXB; have HXB := HQ; clear HQ) | (go_at_call 20; refine (nC_any ⟨zero6, 0, 1, 1⟩ rfl zE1 l6_z1 (by decide) 8 nc1 g455 _ (H.out.at 0 rfl)).mono ?_; rintro e wx ⟨rfl, hx⟩; replace H := kp (H.out.ext hx); have HXC := kp hx; clear hx; have HQ := kp (HXB.out.trans HXC.out); clear HXB; have HXB := HQ; clear HQ))
 obtain ⟨b59, o59, rfl, hb59, hr59⟩ := own_at HO59.out
 have HR59 := kp (fun W (hW : Ext w61b W) => rangeAt_ext hr59 hb59 hW)
 clear hb59 hr59
 have HX9 := kp H.out.1
 have H40 := kp (H.out.sub (show List.Sublist [(g59, 26, cat (partsA aN haN (some ⟨b59, o59, none⟩) 1 c59))] _ from (.cons _ (.cons _ (.cons _ (.cons_cons _ (.cons _ (.cons _ (.cons _ (.cons _ (.cons _ (.cons _ (.cons _ (.cons _ (.cons _ .slnil)))))))))))))))
 clear H
 have H := H40
 clear H40
 subst hr40
 refine region_z H 40 (by kernel_rfl) (by kernel_rfl) (by kernel_rfl) (by kernel_rfl) (by decide) (Nat.le_of_ble_eq_true (by kernel_rfl)) ?_
 apply Exists.intro
 refine ⟨fun xz4 => ?_, fun wz4 HXZ H => ?_⟩
 ·simp only [List.take_succ_cons, List.take_zero]
  unfold Cx
  repeat (first | ((with_reducible show wpQuiet _ _ _ _ (Oper.mk _ (Op.load 24 _) _ _ _ _ :: _) _); go_big_quiet_want; (first | (refine qz_1 H 24 _ rfl 0 rfl _ rfl _ rfl _ rfl Try.underlying24 rfl ?_) | (refine qz_1 H 24 _ rfl 1 rfl _ rfl _ rfl _ rfl Try.underlying24 rfl ?_) | (refine qz_1 H 24 _ rfl 2 rfl _ rfl _ rfl _ rfl Try.underlying24 rfl ?_) | (refine qz_1 H 24 _ rfl 3 rfl _ rfl _ rfl _ rfl Try.underlying24 rfl ?_) | (refine qz_1 H 24 _ rfl 4 rfl _ rfl _ rfl _ rfl Try.underlying24 rfl ?_) | (refine qz_1 H 24 _ rfl 5 rfl _ rfl _ rfl _ rfl Try.underlying24 rfl ?_)); simp only [pA]; go_big_quiet_on) | ((with_reducible show wpQuiet _ _ _ _ (Oper.mk _ (Op.load 39 _) _ _ _ _ :: _) _); go_big_quiet_want; refine qz_r 39 _ rfl b59 _ rfl (cat (partsE eR hR6)) (fun W hx => HR59.out W (HXB.out.trans hx)) Try.underlying39 rfl (by rw [cat_len]; kernel_rfl) ?_; simp only [pA]; go_big_quiet_on) | ((with_reducible show wpQuiet _ _ _ _ (Oper.mk _ (Op.build 39 _) _ _ _ _ :: _) _); go_big_quiet_want; refine qz_bd 39 _ rfl (#[(0, .agg ((stB 1).map V8).toArray), (1, .int .u8 1), (5, .int .i64 3)]) (by kernel_rfl) (cat (partsE eR hR6)) (fun w => by kernel_rfl) ?_; simp only [pA]; go_big_quiet_on) | ((with_reducible show wpQuiet _ _ _ _ (Oper.mk _ (Op.binOp _ 39 _ _ _) _ _ _ _ :: _) _); go_big_quiet_want; (first | refine qz_eq 39 _ _ _ rfl _ _ _ rfl rfl Try.eqGuardType39 (fun _ => eqER _) ?_ | refine qz_ne 39 _ _ _ rfl _ _ _ rfl rfl Try.eqGuardType39 (fun _ => eqER _) ?_); simp only [pA]; go_big_quiet_on) | go_big_quiet_step (first | ((with_reducible show Calls _ _ #[] _ _); exact Calls.cx_of (alive_any _)) | exact Calls.cx_of (HS1.out _)))
  exact wpQuiet_nil rfl
 simp only [List.drop_succ_cons, List.drop_zero]
 go_wp2_with fail
 go_ret
 exact ⟨rfl, H.out.1⟩
end Go.Proofs.Ytfecopfofkdnpaa
