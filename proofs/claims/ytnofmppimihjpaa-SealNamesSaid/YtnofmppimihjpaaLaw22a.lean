/- The law's alive. -/
import Derived.Test.YtnofmppimihjpaaSame22
namespace Go.Proofs.Ytnofmppimihjpaa
open Go.RowKit

def kA : List (BitVec 8) := [1, 0, 0, 0, 0, 0, 0, 0, 0, 0, 0, 0, 0, 0, 0, 0]
def nA : List (BitVec 8) := [2, 0, 0, 0, 0, 0, 0, 0, 0, 0, 0, 0, 0]
theorem CapOk.mk {a : Option Addr} {n c : Nat} (h : n ≤ c) : CapOk (.slice a n c) := fun _ _ _ e => by cases e; exact h

set_option maxHeartbeats 3200000 in
set_option maxRecDepth 10000 in
theorem alive22_any (w : World) : Calls Try.prog 22 #[] w fun e w' => e = .returned (.bool true) ∧ Ext w w' := by
  have HK := kp (show (Try.prog.info? 23).map (·.size) = some (kA.map V8).toArray.size from sizeK kA rfl)
  have HN := kp (show (Try.prog.info? 24).map (·.size) = some (nA.map V8).toArray.size from sizeN nA rfl)
  have S1 := kp (fun w => seal_ok kA nA rfl rfl (.slice none 0 0) (.slice none 0 0) [] [] (by simp) (by simp) w (SlB.nil w) (SlB.nil w) (CapOk.mk (Nat.le_refl _)))
  have S2 := kp (fun va vb w h1 h2 h3 => seal_ok kA nA rfl rfl va vb [3] [4, 5] (by simp) (by simp) w h1 h2 h3)
  have S3 := kp (fun va vb w h1 h2 h3 => seal_ok kA nA rfl rfl va vb [3] [6, 5] (by simp) (by simp) w h1 h2 h3)
  have S4 := kp (fun va vb w h1 h2 h3 => open_any kA nA rfl rfl va vb [3] (sealF kA nA [3] [4, 5]) (by simp) (by rw [sealF_len]; simp) (by rw [sealF_len]; simp) w h1 h2 h3)
  rw [openOk_sealF, openB_sealF, if_pos rfl, if_pos rfl] at S4
  have L1 := kp (show (sealF kA nA [] []).length = 8 from sealF_len kA nA [] [])
  have L2 := kp (show (sealF kA nA [3] [4, 5]).length = 10 from sealF_len kA nA [3] [4, 5])
  have L3 := kp (show (sealF kA nA [3] [6, 5]).length = 10 from sealF_len kA nA [3] [6, 5])
  have P0 := kp (seal_reuse kA nA [3] [3] [4, 5] [6, 5] 0 (by simp) (by simp))
  have P1 := kp (seal_reuse kA nA [3] [3] [4, 5] [6, 5] 1 (by simp) (by simp))
  generalize sealF kA nA [] [] = f1 at *
  generalize sealF kA nA [3] [4, 5] = f2 at *
  generalize sealF kA nA [3] [6, 5] = f3 at *
  go_enter Try.func22, Try.ntmps22
  generalize h6 : (Code.region 6 _ _ : Code) = R6
  generalize h3 : (Code.region 3 _ _ : Code) = R3
  generalize h4 : (Code.region 4 _ _ : Code) = R4
  generalize h5 : (Code.region 5 _ _ : Code) = R5
  go_wp2_with (first | ((with_reducible show wpList _ _ _ (Oper.mk _ (Op.load 23 _) _ _ _ _ :: _) _ _); (with_reducible refine wpList_load_row rfl 23 _ rfl (w.heap.size) rfl 23 ((kA.map V8).toArray) (0, 0) _ (hp_alloc (hp_new _ _)) Try.underlying23 rfl (HK.out) ?_); simp only [Act.put, List.setIfInBounds_toArray, List.set_cons_zero, List.set_cons_succ]) | ((with_reducible show wpList _ _ _ (Oper.mk _ (Op.load 24 _) _ _ _ _ :: _) _ _); (with_reducible refine wpList_load_row rfl 24 _ rfl (w.heap.size + 1) rfl 24 ((nA.map V8).toArray) (0, 0) _ (hp_at _ _ _ (by simp)) Try.underlying24 rfl (HN.out) ?_); simp only [Act.put, List.setIfInBounds_toArray, List.set_cons_zero, List.set_cons_succ]))
  refine (S1.out _).mono ?_
  rintro e w1 ⟨v1, rfl, ho1, hx1⟩
  have HK1 := kp (show w1.heap[w.heap.size]? = some (.cells (kA.map V8).toArray 23 (0, 0)) from ext_heap hx1 (hp_alloc (hp_new _ _)))
  have HN1 := kp (show w1.heap[w.heap.size + 1]? = some (.cells (nA.map V8).toArray 24 (0, 0)) from ext_heap hx1 (hp_at _ _ _ (by simp)))
  have HX1 := kp (((Ext.alloc _ _).trans (Ext.alloc _ _)).trans hx1)
  obtain ⟨a1, c1, hv1⟩ := (SlB.of_owns ho1).form
  rw [L1.out] at hv1
  subst hv1
  clear ho1 hx1
  go_wp2_with fail
  subst h3
  go_wp2_with (first | ((with_reducible show wpList _ _ _ (Oper.mk _ (Op.load 23 _) _ _ _ _ :: _) _ _); (with_reducible refine wpList_load_row rfl 23 _ rfl (w.heap.size) rfl 23 ((kA.map V8).toArray) (0, 0) _ (HK1.out) Try.underlying23 rfl (HK.out) ?_); simp only [Act.put, List.setIfInBounds_toArray, List.set_cons_zero, List.set_cons_succ]) | ((with_reducible show wpList _ _ _ (Oper.mk _ (Op.load 24 _) _ _ _ _ :: _) _ _); (with_reducible refine wpList_load_row rfl 24 _ rfl (w.heap.size + 1) rfl 24 ((nA.map V8).toArray) (0, 0) _ (HN1.out) Try.underlying24 rfl (HN.out) ?_); simp only [Act.put, List.setIfInBounds_toArray, List.set_cons_zero, List.set_cons_succ]))
  refine (S2.out _ _ _ (SlB.of_block (l := [3]) (hp_alloc (hp_new _ _))) (SlB.of_block (l := [4, 5]) (hp_at _ _ _ (by simp))) (CapOk.mk (by decide))).mono ?_
  rintro e w2 ⟨v2, rfl, ho2, hx2⟩
  have HK2 := kp (ext_heap hx2 (hp_alloc (hp_alloc HK1.out)))
  have HN2 := kp (ext_heap hx2 (hp_alloc (hp_alloc HN1.out)))
  have HX2 := kp ((HX1.out.trans ((Ext.alloc _ _).trans (Ext.alloc _ _))).trans hx2)
  have HS2 := kp (SlB.of_owns ho2)
  have HO2 := kp ho2
  have HC2 := kp (CapOk.of_owns ho2)
  obtain ⟨a2, c2, hv2⟩ := (SlB.of_owns ho2).form
  rw [L2.out] at hv2
  subst hv2
  clear ho2 hx2
  go_wp2_with fail
  subst h4
  go_wp2_with (first | ((with_reducible show wpList _ _ _ (Oper.mk _ (Op.load 23 _) _ _ _ _ :: _) _ _); (with_reducible refine wpList_load_row rfl 23 _ rfl (w.heap.size) rfl 23 ((kA.map V8).toArray) (0, 0) _ (HK2.out) Try.underlying23 rfl (HK.out) ?_); simp only [Act.put, List.setIfInBounds_toArray, List.set_cons_zero, List.set_cons_succ]) | ((with_reducible show wpList _ _ _ (Oper.mk _ (Op.load 24 _) _ _ _ _ :: _) _ _); (with_reducible refine wpList_load_row rfl 24 _ rfl (w.heap.size + 1) rfl 24 ((nA.map V8).toArray) (0, 0) _ (HN2.out) Try.underlying24 rfl (HN.out) ?_); simp only [Act.put, List.setIfInBounds_toArray, List.set_cons_zero, List.set_cons_succ]))
  refine (S3.out _ _ _ (SlB.of_block (l := [3]) (hp_alloc (hp_new _ _))) (SlB.of_block (l := [6, 5]) (hp_at _ _ _ (by simp))) (CapOk.mk (by decide))).mono ?_
  rintro e w3 ⟨v3, rfl, ho3, hx3⟩
  have HK3 := kp (ext_heap hx3 (hp_alloc (hp_alloc HK2.out)))
  have HN3 := kp (ext_heap hx3 (hp_alloc (hp_alloc HN2.out)))
  have HX3 := kp (((Ext.alloc _ _).trans (Ext.alloc _ _)).trans hx3)
  have HS3 := kp (SlB.of_owns ho3)
  obtain ⟨a3, c3, hv3⟩ := (SlB.of_owns ho3).form
  rw [L3.out] at hv3
  subst hv3
  clear ho3 hx3
  go_wp2_with fail
  subst h5
  go_wp2_with (first | ((with_reducible show wpList _ _ _ (Oper.mk _ (Op.load 23 _) _ _ _ _ :: _) _ _); (with_reducible refine wpList_load_row rfl 23 _ rfl (w.heap.size) rfl 23 ((kA.map V8).toArray) (0, 0) _ (HK3.out) Try.underlying23 rfl (HK.out) ?_); simp only [Act.put, List.setIfInBounds_toArray, List.set_cons_zero, List.set_cons_succ]) | ((with_reducible show wpList _ _ _ (Oper.mk _ (Op.load 24 _) _ _ _ _ :: _) _ _); (with_reducible refine wpList_load_row rfl 24 _ rfl (w.heap.size + 1) rfl 24 ((nA.map V8).toArray) (0, 0) _ (HN3.out) Try.underlying24 rfl (HN.out) ?_); simp only [Act.put, List.setIfInBounds_toArray, List.set_cons_zero, List.set_cons_succ]))
  refine (S4.out _ _ _ (SlB.of_block (l := [3]) (hp_new _ _)) (HS2.out.ext (HX3.out.trans (Ext.alloc _ _))) HC2.out).mono ?_
  rintro e w4 ⟨v4, rfl, ho4, hx4⟩
  have HX4 := kp ((Ext.alloc _ _).trans hx4)
  have HS4 := kp (show SlB w4 v4 [4#8, 5#8] from SlB.of_owns ho4)
  obtain ⟨a4, c4, rfl⟩ := (SlB.of_owns ho4).form
  clear ho4 hx4
  obtain ⟨x20, h20⟩ : ∃ x, f2[0]? = some x := ⟨f2[0]'(by rw [L2.out]; simp), by simp⟩
  obtain ⟨x21, h21⟩ : ∃ x, f2[1]? = some x := ⟨f2[1]'(by rw [L2.out]; simp), by simp⟩
  obtain ⟨x30, h30⟩ : ∃ x, f3[0]? = some x := ⟨f3[0]'(by rw [L3.out]; simp), by simp⟩
  obtain ⟨x31, h31⟩ : ∃ x, f3[1]? = some x := ⟨f3[1]'(by rw [L3.out]; simp), by simp⟩
  have p0 := P0.out
  have p1 := P1.out
  simp only [List.getD, h20, h30, h21, h31, Option.getD_some] at p0 p1
  have hx0 : wI (x20 ^^^ x30) = 2 := by rw [p0]; decide
  obtain rfl : x21 = x31 := by
    have h : x21 ^^^ x31 = 0 := by rw [p1]; decide
    have h2 := congrArg (fun z => x21 ^^^ z) h
    exact (by simpa [← BitVec.xor_assoc] using h2 : x31 = x21).symm
  obtain ⟨g2, o2, e2, hg2, c20⟩ := HS2.out.at 0 x20 h20
  subst e2
  obtain ⟨g2', o2', e2, _, c21⟩ := HS2.out.at 1 x21 h21
  cases e2
  obtain ⟨g3, o3, e3, hg3, c30⟩ := HS3.out.at 0 x30 h30
  subst e3
  obtain ⟨g3', o3', e3, _, c31⟩ := HS3.out.at 1 x21 h31
  cases e3
  have d20 : w4.cell? ⟨g2, o2, none⟩ = some (V8 x20) := ((HX3.out.trans HX4.out).cell hg2).trans c20
  have d21 : w4.cell? ⟨g2, o2 + 1, none⟩ = some (V8 x21) := ((HX3.out.trans HX4.out).cell hg2).trans c21
  have d30 : w4.cell? ⟨g3, o3, none⟩ = some (V8 x30) := (HX4.out.cell hg3).trans c30
  have d31 : w4.cell? ⟨g3, o3 + 1, none⟩ = some (V8 x21) := (HX4.out.cell hg3).trans c31
  have e2 : g2 < w4.heap.size := by have h1 := HX3.out.size; have h2 := HX4.out.size; omega
  have e3 : g3 < w4.heap.size := by have h2 := HX4.out.size; omega
  have HXX := kp ((HX2.out.trans HX3.out).trans HX4.out)
  clear h20 h21 h30 h31 p0 p1 c20 c21 c30 c31 hg2 hg3 S1 S2 S3 S4 HK1 HK2 HK3 HN1 HN2 HN3 HX1 HX2 HX3 HX4 HS2 HS3 HC2 HO2 P0 P1
  go_wp2_with fail
  subst h6
  refine region_spine0 (tabS [(43, fun v _ => v = .int .i64 0), (44, fun v _ => v = .bool true), (45, fun v _ => v = .bool true), (46, fun v _ => v = .slice a1 8 c1), (47, fun v _ => v = .int .i64 8), (48, fun v _ => v = .bool true), (49, fun v _ => v = .bool true), (50, fun v _ => v = .bool true), (51, fun v _ => v = .int .i64 0), (52, fun v _ => v = .bool true), (53, fun v _ => v = .bool true), (54, fun v _ => v = .bool true), (55, fun v _ => v = .slice (some ⟨g2, o2, none⟩) 10 c2), (56, fun v _ => v = .int .i64 10), (57, fun v _ => v = .bool true), (58, fun v _ => v = .bool true), (59, fun v _ => v = .bool true), (60, fun v _ => v = .int .i64 0), (61, fun v _ => v = .bool true), (62, fun v _ => v = .bool true), (63, fun v _ => v = .bool true), (64, fun v _ => v = .slice (some ⟨g3, o3, none⟩) 10 c3), (65, fun v _ => v = .int .i64 10), (66, fun v _ => v = .bool true), (67, fun v _ => v = .bool true), (68, fun v _ => v = .bool true), (69, fun v _ => v = .slice (some ⟨g2, o2, none⟩) 10 c2), (70, fun v _ => v = .pointer (some ⟨g2, o2, none⟩)), (71, fun v _ => v = V8 x20), (72, fun v _ => v = .slice (some ⟨g3, o3, none⟩) 10 c3), (73, fun v _ => v = .pointer (some ⟨g3, o3, none⟩)), (74, fun v _ => v = V8 x30), (75, fun v _ => v = .int .u8 2), (76, fun v _ => v = .bool true), (77, fun v _ => v = .bool true), (78, fun v _ => v = .bool true), (79, fun v _ => v = .slice (some ⟨g2, o2, none⟩) 10 c2), (80, fun v _ => v = .pointer (some ⟨g2, o2 + 1, none⟩)), (81, fun v _ => v = V8 x21), (82, fun v _ => v = .slice (some ⟨g3, o3, none⟩) 10 c3), (83, fun v _ => v = .pointer (some ⟨g3, o3 + 1, none⟩)), (84, fun v _ => v = V8 x21), (85, fun v _ => v = .bool true), (86, fun v _ => v = .bool true), (87, fun v _ => v = .bool true), (88, fun v _ => v = .int .i64 0), (89, fun v _ => v = .bool true), (90, fun v _ => v = .bool true), (91, fun v _ => v = .bool true), (92, fun v _ => v = .slice a4 2 c4), (93, fun v w => SlB w v [4#8, 5#8]), (94, fun v _ => v = .bool true), (95, fun v _ => v = .bool true), (0, fun v _ => v = .bool true)]) (tabS_mono _ (by simp only [List.forall_mem_cons]; exact ⟨mono_eq _, mono_eq _, mono_eq _, mono_eq _, mono_eq _, mono_eq _, mono_eq _, mono_eq _, mono_eq _, mono_eq _, mono_eq _, mono_eq _, mono_eq _, mono_eq _, mono_eq _, mono_eq _, mono_eq _, mono_eq _, mono_eq _, mono_eq _, mono_eq _, mono_eq _, mono_eq _, mono_eq _, mono_eq _, mono_eq _, mono_eq _, mono_eq _, mono_eq _, mono_eq _, mono_eq _, mono_eq _, mono_eq _, mono_eq _, mono_eq _, mono_eq _, mono_eq _, mono_eq _, mono_eq _, mono_eq _, mono_eq _, mono_eq _, mono_eq _, mono_eq _, mono_eq _, mono_eq _, mono_eq _, mono_eq _, mono_eq _, mono_eq _, mono_SlB _, mono_eq _, mono_eq _, mono_eq _, by simp⟩)) 54 (by kernel_rfl) (by kernel_rfl) (by kernel_rfl) (by kernel_rfl) (by decide) (Nat.le_of_ble_eq_true (by kernel_rfl)) (by kernel_rfl) (w4) (.inl rfl) ?_
  simp only [List.take_succ_cons, List.take_zero]
  refine ⟨fun wv43 hwv43 hSv43 => ?_, fun v43 => ?_⟩
  · obtain ⟨xv43, rfl⟩ := hwv43
    clear hSv43
    go_wp2_with fail
    exact ⟨rfl, _, rfl, fun d hd => by cases hd; exact rfl, Ext.refl _⟩
  simp only [Act.put, List.setIfInBounds_toArray, List.set_cons_zero, List.set_cons_succ]
  refine ⟨fun wv44 hwv44 hSv44 => ?_, fun v44 => ?_⟩
  · obtain ⟨xv44, rfl⟩ := hwv44
    obtain rfl : v43 = .int .i64 0 := hSv44 43 (by decide) (by decide)
    clear hSv44
    go_wp2_with fail
    exact ⟨rfl, _, rfl, fun d hd => by cases hd; exact rfl, Ext.refl _⟩
  simp only [Act.put, List.setIfInBounds_toArray, List.set_cons_zero, List.set_cons_succ]
  refine ⟨fun wv45 hwv45 hSv45 => ?_, fun v45 => ?_⟩
  · obtain ⟨xv45, rfl⟩ := hwv45
    obtain rfl : v44 = .bool true := hSv45 44 (by decide) (by decide)
    clear hSv45
    go_wp2_with fail
    exact ⟨rfl, _, rfl, fun d hd => by cases hd; exact rfl, Ext.refl _⟩
  simp only [Act.put, List.setIfInBounds_toArray, List.set_cons_zero, List.set_cons_succ]
  refine ⟨fun wv46 hwv46 hSv46 => ?_, fun v46 => ?_⟩
  · obtain ⟨xv46, rfl⟩ := hwv46
    obtain rfl : v45 = .bool true := hSv46 45 (by decide) (by decide)
    clear hSv46
    go_wp2_with fail
    exact ⟨rfl, _, rfl, fun d hd => by cases hd; exact rfl, Ext.refl _⟩
  simp only [Act.put, List.setIfInBounds_toArray, List.set_cons_zero, List.set_cons_succ]
  refine ⟨fun wv47 hwv47 hSv47 => ?_, fun v47 => ?_⟩
  · obtain ⟨xv47, rfl⟩ := hwv47
    obtain rfl : v45 = .bool true := hSv47 45 (by decide) (by decide)
    obtain rfl : v46 = .slice a1 8 c1 := hSv47 46 (by decide) (by decide)
    clear hSv47
    go_wp2_with fail
    exact ⟨rfl, _, rfl, fun d hd => by cases hd; exact rfl, Ext.refl _⟩
  simp only [Act.put, List.setIfInBounds_toArray, List.set_cons_zero, List.set_cons_succ]
  refine ⟨fun wv48 hwv48 hSv48 => ?_, fun v48 => ?_⟩
  · obtain ⟨xv48, rfl⟩ := hwv48
    obtain rfl : v45 = .bool true := hSv48 45 (by decide) (by decide)
    obtain rfl : v47 = .int .i64 8 := hSv48 47 (by decide) (by decide)
    clear hSv48
    go_wp2_with fail
    exact ⟨rfl, _, rfl, fun d hd => by cases hd; exact rfl, Ext.refl _⟩
  simp only [Act.put, List.setIfInBounds_toArray, List.set_cons_zero, List.set_cons_succ]
  refine ⟨fun wv49 hwv49 hSv49 => ?_, fun v49 => ?_⟩
  · obtain ⟨xv49, rfl⟩ := hwv49
    obtain rfl : v45 = .bool true := hSv49 45 (by decide) (by decide)
    obtain rfl : v48 = .bool true := hSv49 48 (by decide) (by decide)
    clear hSv49
    go_wp2_with fail
    exact ⟨rfl, _, rfl, fun d hd => by cases hd; exact rfl, Ext.refl _⟩
  simp only [Act.put, List.setIfInBounds_toArray, List.set_cons_zero, List.set_cons_succ]
  refine ⟨fun wv50 hwv50 hSv50 => ?_, fun v50 => ?_⟩
  · obtain ⟨xv50, rfl⟩ := hwv50
    obtain rfl : v49 = .bool true := hSv50 49 (by decide) (by decide)
    clear hSv50
    go_wp2_with fail
    exact ⟨rfl, _, rfl, fun d hd => by cases hd; exact rfl, Ext.refl _⟩
  simp only [Act.put, List.setIfInBounds_toArray, List.set_cons_zero, List.set_cons_succ]
  refine ⟨fun wv51 hwv51 hSv51 => ?_, fun v51 => ?_⟩
  · obtain ⟨xv51, rfl⟩ := hwv51
    obtain rfl : v50 = .bool true := hSv51 50 (by decide) (by decide)
    clear hSv51
    go_wp2_with fail
    exact ⟨rfl, _, rfl, fun d hd => by cases hd; exact rfl, Ext.refl _⟩
  simp only [Act.put, List.setIfInBounds_toArray, List.set_cons_zero, List.set_cons_succ]
  refine ⟨fun wv52 hwv52 hSv52 => ?_, fun v52 => ?_⟩
  · obtain ⟨xv52, rfl⟩ := hwv52
    obtain rfl : v50 = .bool true := hSv52 50 (by decide) (by decide)
    obtain rfl : v51 = .int .i64 0 := hSv52 51 (by decide) (by decide)
    clear hSv52
    go_wp2_with fail
    exact ⟨rfl, _, rfl, fun d hd => by cases hd; exact rfl, Ext.refl _⟩
  simp only [Act.put, List.setIfInBounds_toArray, List.set_cons_zero, List.set_cons_succ]
  refine ⟨fun wv53 hwv53 hSv53 => ?_, fun v53 => ?_⟩
  · obtain ⟨xv53, rfl⟩ := hwv53
    obtain rfl : v50 = .bool true := hSv53 50 (by decide) (by decide)
    obtain rfl : v52 = .bool true := hSv53 52 (by decide) (by decide)
    clear hSv53
    go_wp2_with fail
    exact ⟨rfl, _, rfl, fun d hd => by cases hd; exact rfl, Ext.refl _⟩
  simp only [Act.put, List.setIfInBounds_toArray, List.set_cons_zero, List.set_cons_succ]
  refine ⟨fun wv54 hwv54 hSv54 => ?_, fun v54 => ?_⟩
  · obtain ⟨xv54, rfl⟩ := hwv54
    obtain rfl : v53 = .bool true := hSv54 53 (by decide) (by decide)
    clear hSv54
    go_wp2_with fail
    exact ⟨rfl, _, rfl, fun d hd => by cases hd; exact rfl, Ext.refl _⟩
  simp only [Act.put, List.setIfInBounds_toArray, List.set_cons_zero, List.set_cons_succ]
  refine ⟨fun wv55 hwv55 hSv55 => ?_, fun v55 => ?_⟩
  · obtain ⟨xv55, rfl⟩ := hwv55
    obtain rfl : v54 = .bool true := hSv55 54 (by decide) (by decide)
    clear hSv55
    go_wp2_with fail
    exact ⟨rfl, _, rfl, fun d hd => by cases hd; exact rfl, Ext.refl _⟩
  simp only [Act.put, List.setIfInBounds_toArray, List.set_cons_zero, List.set_cons_succ]
  refine ⟨fun wv56 hwv56 hSv56 => ?_, fun v56 => ?_⟩
  · obtain ⟨xv56, rfl⟩ := hwv56
    obtain rfl : v54 = .bool true := hSv56 54 (by decide) (by decide)
    obtain rfl : v55 = .slice (some ⟨g2, o2, none⟩) 10 c2 := hSv56 55 (by decide) (by decide)
    clear hSv56
    go_wp2_with fail
    exact ⟨rfl, _, rfl, fun d hd => by cases hd; exact rfl, Ext.refl _⟩
  simp only [Act.put, List.setIfInBounds_toArray, List.set_cons_zero, List.set_cons_succ]
  refine ⟨fun wv57 hwv57 hSv57 => ?_, fun v57 => ?_⟩
  · obtain ⟨xv57, rfl⟩ := hwv57
    obtain rfl : v54 = .bool true := hSv57 54 (by decide) (by decide)
    obtain rfl : v56 = .int .i64 10 := hSv57 56 (by decide) (by decide)
    clear hSv57
    go_wp2_with fail
    exact ⟨rfl, _, rfl, fun d hd => by cases hd; exact rfl, Ext.refl _⟩
  simp only [Act.put, List.setIfInBounds_toArray, List.set_cons_zero, List.set_cons_succ]
  refine ⟨fun wv58 hwv58 hSv58 => ?_, fun v58 => ?_⟩
  · obtain ⟨xv58, rfl⟩ := hwv58
    obtain rfl : v54 = .bool true := hSv58 54 (by decide) (by decide)
    obtain rfl : v57 = .bool true := hSv58 57 (by decide) (by decide)
    clear hSv58
    go_wp2_with fail
    exact ⟨rfl, _, rfl, fun d hd => by cases hd; exact rfl, Ext.refl _⟩
  simp only [Act.put, List.setIfInBounds_toArray, List.set_cons_zero, List.set_cons_succ]
  refine ⟨fun wv59 hwv59 hSv59 => ?_, fun v59 => ?_⟩
  · obtain ⟨xv59, rfl⟩ := hwv59
    obtain rfl : v58 = .bool true := hSv59 58 (by decide) (by decide)
    clear hSv59
    go_wp2_with fail
    exact ⟨rfl, _, rfl, fun d hd => by cases hd; exact rfl, Ext.refl _⟩
  simp only [Act.put, List.setIfInBounds_toArray, List.set_cons_zero, List.set_cons_succ]
  refine ⟨fun wv60 hwv60 hSv60 => ?_, fun v60 => ?_⟩
  · obtain ⟨xv60, rfl⟩ := hwv60
    obtain rfl : v59 = .bool true := hSv60 59 (by decide) (by decide)
    clear hSv60
    go_wp2_with fail
    exact ⟨rfl, _, rfl, fun d hd => by cases hd; exact rfl, Ext.refl _⟩
  simp only [Act.put, List.setIfInBounds_toArray, List.set_cons_zero, List.set_cons_succ]
  refine ⟨fun wv61 hwv61 hSv61 => ?_, fun v61 => ?_⟩
  · obtain ⟨xv61, rfl⟩ := hwv61
    obtain rfl : v59 = .bool true := hSv61 59 (by decide) (by decide)
    obtain rfl : v60 = .int .i64 0 := hSv61 60 (by decide) (by decide)
    clear hSv61
    go_wp2_with fail
    exact ⟨rfl, _, rfl, fun d hd => by cases hd; exact rfl, Ext.refl _⟩
  simp only [Act.put, List.setIfInBounds_toArray, List.set_cons_zero, List.set_cons_succ]
  refine ⟨fun wv62 hwv62 hSv62 => ?_, fun v62 => ?_⟩
  · obtain ⟨xv62, rfl⟩ := hwv62
    obtain rfl : v59 = .bool true := hSv62 59 (by decide) (by decide)
    obtain rfl : v61 = .bool true := hSv62 61 (by decide) (by decide)
    clear hSv62
    go_wp2_with fail
    exact ⟨rfl, _, rfl, fun d hd => by cases hd; exact rfl, Ext.refl _⟩
  simp only [Act.put, List.setIfInBounds_toArray, List.set_cons_zero, List.set_cons_succ]
  refine ⟨fun wv63 hwv63 hSv63 => ?_, fun v63 => ?_⟩
  · obtain ⟨xv63, rfl⟩ := hwv63
    obtain rfl : v62 = .bool true := hSv63 62 (by decide) (by decide)
    clear hSv63
    go_wp2_with fail
    exact ⟨rfl, _, rfl, fun d hd => by cases hd; exact rfl, Ext.refl _⟩
  simp only [Act.put, List.setIfInBounds_toArray, List.set_cons_zero, List.set_cons_succ]
  refine ⟨fun wv64 hwv64 hSv64 => ?_, fun v64 => ?_⟩
  · obtain ⟨xv64, rfl⟩ := hwv64
    obtain rfl : v63 = .bool true := hSv64 63 (by decide) (by decide)
    clear hSv64
    go_wp2_with fail
    exact ⟨rfl, _, rfl, fun d hd => by cases hd; exact rfl, Ext.refl _⟩
  simp only [Act.put, List.setIfInBounds_toArray, List.set_cons_zero, List.set_cons_succ]
  refine ⟨fun wv65 hwv65 hSv65 => ?_, fun v65 => ?_⟩
  · obtain ⟨xv65, rfl⟩ := hwv65
    obtain rfl : v63 = .bool true := hSv65 63 (by decide) (by decide)
    obtain rfl : v64 = .slice (some ⟨g3, o3, none⟩) 10 c3 := hSv65 64 (by decide) (by decide)
    clear hSv65
    go_wp2_with fail
    exact ⟨rfl, _, rfl, fun d hd => by cases hd; exact rfl, Ext.refl _⟩
  simp only [Act.put, List.setIfInBounds_toArray, List.set_cons_zero, List.set_cons_succ]
  refine ⟨fun wv66 hwv66 hSv66 => ?_, fun v66 => ?_⟩
  · obtain ⟨xv66, rfl⟩ := hwv66
    obtain rfl : v63 = .bool true := hSv66 63 (by decide) (by decide)
    obtain rfl : v65 = .int .i64 10 := hSv66 65 (by decide) (by decide)
    clear hSv66
    go_wp2_with fail
    exact ⟨rfl, _, rfl, fun d hd => by cases hd; exact rfl, Ext.refl _⟩
  simp only [Act.put, List.setIfInBounds_toArray, List.set_cons_zero, List.set_cons_succ]
  refine ⟨fun wv67 hwv67 hSv67 => ?_, fun v67 => ?_⟩
  · obtain ⟨xv67, rfl⟩ := hwv67
    obtain rfl : v63 = .bool true := hSv67 63 (by decide) (by decide)
    obtain rfl : v66 = .bool true := hSv67 66 (by decide) (by decide)
    clear hSv67
    go_wp2_with fail
    exact ⟨rfl, _, rfl, fun d hd => by cases hd; exact rfl, Ext.refl _⟩
  simp only [Act.put, List.setIfInBounds_toArray, List.set_cons_zero, List.set_cons_succ]
  refine ⟨fun wv68 hwv68 hSv68 => ?_, fun v68 => ?_⟩
  · obtain ⟨xv68, rfl⟩ := hwv68
    obtain rfl : v67 = .bool true := hSv68 67 (by decide) (by decide)
    clear hSv68
    go_wp2_with fail
    exact ⟨rfl, _, rfl, fun d hd => by cases hd; exact rfl, Ext.refl _⟩
  simp only [Act.put, List.setIfInBounds_toArray, List.set_cons_zero, List.set_cons_succ]
  refine ⟨fun wv69 hwv69 hSv69 => ?_, fun v69 => ?_⟩
  · obtain ⟨xv69, rfl⟩ := hwv69
    obtain rfl : v68 = .bool true := hSv69 68 (by decide) (by decide)
    clear hSv69
    go_wp2_with fail
    exact ⟨rfl, _, rfl, fun d hd => by cases hd; exact rfl, Ext.refl _⟩
  simp only [Act.put, List.setIfInBounds_toArray, List.set_cons_zero, List.set_cons_succ]
  refine ⟨fun wv70 hwv70 hSv70 => ?_, fun v70 => ?_⟩
  · obtain ⟨xv70, rfl⟩ := hwv70
    obtain rfl : v68 = .bool true := hSv70 68 (by decide) (by decide)
    obtain rfl : v69 = .slice (some ⟨g2, o2, none⟩) 10 c2 := hSv70 69 (by decide) (by decide)
    clear hSv70
    go_wp2_with fail
    exact ⟨rfl, _, rfl, fun d hd => by cases hd; exact rfl, Ext.refl _⟩
  simp only [Act.put, List.setIfInBounds_toArray, List.set_cons_zero, List.set_cons_succ]
  refine ⟨fun wv71 hwv71 hSv71 => ?_, fun v71 => ?_⟩
  · obtain ⟨xv71, rfl⟩ := hwv71
    obtain rfl : v68 = .bool true := hSv71 68 (by decide) (by decide)
    obtain rfl : v70 = .pointer (some ⟨g2, o2, none⟩) := hSv71 70 (by decide) (by decide)
    clear hSv71
    go_wp2_with fail
    exact ⟨rfl, _, rfl, fun d hd => by cases hd; exact rfl, Ext.refl _⟩
  simp only [Act.put, List.setIfInBounds_toArray, List.set_cons_zero, List.set_cons_succ]
  refine ⟨fun wv72 hwv72 hSv72 => ?_, fun v72 => ?_⟩
  · obtain ⟨xv72, rfl⟩ := hwv72
    obtain rfl : v68 = .bool true := hSv72 68 (by decide) (by decide)
    clear hSv72
    go_wp2_with fail
    exact ⟨rfl, _, rfl, fun d hd => by cases hd; exact rfl, Ext.refl _⟩
  simp only [Act.put, List.setIfInBounds_toArray, List.set_cons_zero, List.set_cons_succ]
  refine ⟨fun wv73 hwv73 hSv73 => ?_, fun v73 => ?_⟩
  · obtain ⟨xv73, rfl⟩ := hwv73
    obtain rfl : v68 = .bool true := hSv73 68 (by decide) (by decide)
    obtain rfl : v72 = .slice (some ⟨g3, o3, none⟩) 10 c3 := hSv73 72 (by decide) (by decide)
    clear hSv73
    go_wp2_with fail
    exact ⟨rfl, _, rfl, fun d hd => by cases hd; exact rfl, Ext.refl _⟩
  simp only [Act.put, List.setIfInBounds_toArray, List.set_cons_zero, List.set_cons_succ]
  refine ⟨fun wv74 hwv74 hSv74 => ?_, fun v74 => ?_⟩
  · obtain ⟨xv74, rfl⟩ := hwv74
    obtain rfl : v68 = .bool true := hSv74 68 (by decide) (by decide)
    obtain rfl : v73 = .pointer (some ⟨g3, o3, none⟩) := hSv74 73 (by decide) (by decide)
    clear hSv74
    go_wp2_with fail
    exact ⟨rfl, _, rfl, fun d hd => by cases hd; exact rfl, Ext.refl _⟩
  simp only [Act.put, List.setIfInBounds_toArray, List.set_cons_zero, List.set_cons_succ]
  refine ⟨fun wv75 hwv75 hSv75 => ?_, fun v75 => ?_⟩
  · obtain ⟨xv75, rfl⟩ := hwv75
    obtain rfl : v68 = .bool true := hSv75 68 (by decide) (by decide)
    obtain rfl : v71 = V8 x20 := hSv75 71 (by decide) (by decide)
    obtain rfl : v74 = V8 x30 := hSv75 74 (by decide) (by decide)
    clear hSv75
    go_wp2_with fail
    exact ⟨rfl, _, rfl, fun d hd => by cases hd; exact rfl, Ext.refl _⟩
  simp only [Act.put, List.setIfInBounds_toArray, List.set_cons_zero, List.set_cons_succ]
  refine ⟨fun wv76 hwv76 hSv76 => ?_, fun v76 => ?_⟩
  · obtain ⟨xv76, rfl⟩ := hwv76
    obtain rfl : v68 = .bool true := hSv76 68 (by decide) (by decide)
    obtain rfl : v75 = .int .u8 2 := hSv76 75 (by decide) (by decide)
    clear hSv76
    go_wp2_with fail
    exact ⟨rfl, _, rfl, fun d hd => by cases hd; exact rfl, Ext.refl _⟩
  simp only [Act.put, List.setIfInBounds_toArray, List.set_cons_zero, List.set_cons_succ]
  refine ⟨fun wv77 hwv77 hSv77 => ?_, fun v77 => ?_⟩
  · obtain ⟨xv77, rfl⟩ := hwv77
    obtain rfl : v68 = .bool true := hSv77 68 (by decide) (by decide)
    obtain rfl : v76 = .bool true := hSv77 76 (by decide) (by decide)
    clear hSv77
    go_wp2_with fail
    exact ⟨rfl, _, rfl, fun d hd => by cases hd; exact rfl, Ext.refl _⟩
  simp only [Act.put, List.setIfInBounds_toArray, List.set_cons_zero, List.set_cons_succ]
  refine ⟨fun wv78 hwv78 hSv78 => ?_, fun v78 => ?_⟩
  · obtain ⟨xv78, rfl⟩ := hwv78
    obtain rfl : v77 = .bool true := hSv78 77 (by decide) (by decide)
    clear hSv78
    go_wp2_with fail
    exact ⟨rfl, _, rfl, fun d hd => by cases hd; exact rfl, Ext.refl _⟩
  simp only [Act.put, List.setIfInBounds_toArray, List.set_cons_zero, List.set_cons_succ]
  refine ⟨fun wv79 hwv79 hSv79 => ?_, fun v79 => ?_⟩
  · obtain ⟨xv79, rfl⟩ := hwv79
    obtain rfl : v78 = .bool true := hSv79 78 (by decide) (by decide)
    clear hSv79
    go_wp2_with fail
    exact ⟨rfl, _, rfl, fun d hd => by cases hd; exact rfl, Ext.refl _⟩
  simp only [Act.put, List.setIfInBounds_toArray, List.set_cons_zero, List.set_cons_succ]
  refine ⟨fun wv80 hwv80 hSv80 => ?_, fun v80 => ?_⟩
  · obtain ⟨xv80, rfl⟩ := hwv80
    obtain rfl : v78 = .bool true := hSv80 78 (by decide) (by decide)
    obtain rfl : v79 = .slice (some ⟨g2, o2, none⟩) 10 c2 := hSv80 79 (by decide) (by decide)
    clear hSv80
    go_wp2_with fail
    exact ⟨rfl, _, rfl, fun d hd => by cases hd; exact rfl, Ext.refl _⟩
  simp only [Act.put, List.setIfInBounds_toArray, List.set_cons_zero, List.set_cons_succ]
  refine ⟨fun wv81 hwv81 hSv81 => ?_, fun v81 => ?_⟩
  · obtain ⟨xv81, rfl⟩ := hwv81
    obtain rfl : v78 = .bool true := hSv81 78 (by decide) (by decide)
    obtain rfl : v80 = .pointer (some ⟨g2, o2 + 1, none⟩) := hSv81 80 (by decide) (by decide)
    clear hSv81
    go_wp2_with fail
    exact ⟨rfl, _, rfl, fun d hd => by cases hd; exact rfl, Ext.refl _⟩
  simp only [Act.put, List.setIfInBounds_toArray, List.set_cons_zero, List.set_cons_succ]
  refine ⟨fun wv82 hwv82 hSv82 => ?_, fun v82 => ?_⟩
  · obtain ⟨xv82, rfl⟩ := hwv82
    obtain rfl : v78 = .bool true := hSv82 78 (by decide) (by decide)
    clear hSv82
    go_wp2_with fail
    exact ⟨rfl, _, rfl, fun d hd => by cases hd; exact rfl, Ext.refl _⟩
  simp only [Act.put, List.setIfInBounds_toArray, List.set_cons_zero, List.set_cons_succ]
  refine ⟨fun wv83 hwv83 hSv83 => ?_, fun v83 => ?_⟩
  · obtain ⟨xv83, rfl⟩ := hwv83
    obtain rfl : v78 = .bool true := hSv83 78 (by decide) (by decide)
    obtain rfl : v82 = .slice (some ⟨g3, o3, none⟩) 10 c3 := hSv83 82 (by decide) (by decide)
    clear hSv83
    go_wp2_with fail
    exact ⟨rfl, _, rfl, fun d hd => by cases hd; exact rfl, Ext.refl _⟩
  simp only [Act.put, List.setIfInBounds_toArray, List.set_cons_zero, List.set_cons_succ]
  refine ⟨fun wv84 hwv84 hSv84 => ?_, fun v84 => ?_⟩
  · obtain ⟨xv84, rfl⟩ := hwv84
    obtain rfl : v78 = .bool true := hSv84 78 (by decide) (by decide)
    obtain rfl : v83 = .pointer (some ⟨g3, o3 + 1, none⟩) := hSv84 83 (by decide) (by decide)
    clear hSv84
    go_wp2_with fail
    exact ⟨rfl, _, rfl, fun d hd => by cases hd; exact rfl, Ext.refl _⟩
  simp only [Act.put, List.setIfInBounds_toArray, List.set_cons_zero, List.set_cons_succ]
  refine ⟨fun wv85 hwv85 hSv85 => ?_, fun v85 => ?_⟩
  · obtain ⟨xv85, rfl⟩ := hwv85
    obtain rfl : v78 = .bool true := hSv85 78 (by decide) (by decide)
    obtain rfl : v81 = V8 x21 := hSv85 81 (by decide) (by decide)
    obtain rfl : v84 = V8 x21 := hSv85 84 (by decide) (by decide)
    clear hSv85
    go_wp2_with fail
    exact ⟨rfl, _, rfl, fun d hd => by cases hd; exact rfl, Ext.refl _⟩
  simp only [Act.put, List.setIfInBounds_toArray, List.set_cons_zero, List.set_cons_succ]
  refine ⟨fun wv86 hwv86 hSv86 => ?_, fun v86 => ?_⟩
  · obtain ⟨xv86, rfl⟩ := hwv86
    obtain rfl : v78 = .bool true := hSv86 78 (by decide) (by decide)
    obtain rfl : v85 = .bool true := hSv86 85 (by decide) (by decide)
    clear hSv86
    go_wp2_with fail
    exact ⟨rfl, _, rfl, fun d hd => by cases hd; exact rfl, Ext.refl _⟩
  simp only [Act.put, List.setIfInBounds_toArray, List.set_cons_zero, List.set_cons_succ]
  refine ⟨fun wv87 hwv87 hSv87 => ?_, fun v87 => ?_⟩
  · obtain ⟨xv87, rfl⟩ := hwv87
    obtain rfl : v86 = .bool true := hSv87 86 (by decide) (by decide)
    clear hSv87
    go_wp2_with fail
    exact ⟨rfl, _, rfl, fun d hd => by cases hd; exact rfl, Ext.refl _⟩
  simp only [Act.put, List.setIfInBounds_toArray, List.set_cons_zero, List.set_cons_succ]
  refine ⟨fun wv88 hwv88 hSv88 => ?_, fun v88 => ?_⟩
  · obtain ⟨xv88, rfl⟩ := hwv88
    obtain rfl : v87 = .bool true := hSv88 87 (by decide) (by decide)
    clear hSv88
    go_wp2_with fail
    exact ⟨rfl, _, rfl, fun d hd => by cases hd; exact rfl, Ext.refl _⟩
  simp only [Act.put, List.setIfInBounds_toArray, List.set_cons_zero, List.set_cons_succ]
  refine ⟨fun wv89 hwv89 hSv89 => ?_, fun v89 => ?_⟩
  · obtain ⟨xv89, rfl⟩ := hwv89
    obtain rfl : v87 = .bool true := hSv89 87 (by decide) (by decide)
    obtain rfl : v88 = .int .i64 0 := hSv89 88 (by decide) (by decide)
    clear hSv89
    go_wp2_with fail
    exact ⟨rfl, _, rfl, fun d hd => by cases hd; exact rfl, Ext.refl _⟩
  simp only [Act.put, List.setIfInBounds_toArray, List.set_cons_zero, List.set_cons_succ]
  refine ⟨fun wv90 hwv90 hSv90 => ?_, fun v90 => ?_⟩
  · obtain ⟨xv90, rfl⟩ := hwv90
    obtain rfl : v87 = .bool true := hSv90 87 (by decide) (by decide)
    obtain rfl : v89 = .bool true := hSv90 89 (by decide) (by decide)
    clear hSv90
    go_wp2_with fail
    exact ⟨rfl, _, rfl, fun d hd => by cases hd; exact rfl, Ext.refl _⟩
  simp only [Act.put, List.setIfInBounds_toArray, List.set_cons_zero, List.set_cons_succ]
  refine ⟨fun wv91 hwv91 hSv91 => ?_, fun v91 => ?_⟩
  · obtain ⟨xv91, rfl⟩ := hwv91
    obtain rfl : v90 = .bool true := hSv91 90 (by decide) (by decide)
    clear hSv91
    go_wp2_with fail
    exact ⟨rfl, _, rfl, fun d hd => by cases hd; exact rfl, Ext.refl _⟩
  simp only [Act.put, List.setIfInBounds_toArray, List.set_cons_zero, List.set_cons_succ]
  refine ⟨fun wv92 hwv92 hSv92 => ?_, fun v92 => ?_⟩
  · obtain ⟨xv92, rfl⟩ := hwv92
    obtain rfl : v91 = .bool true := hSv92 91 (by decide) (by decide)
    clear hSv92
    go_wp2_with fail
    exact ⟨rfl, _, rfl, fun d hd => by cases hd; exact rfl, Ext.refl _⟩
  simp only [Act.put, List.setIfInBounds_toArray, List.set_cons_zero, List.set_cons_succ]
  refine ⟨fun wv93 hwv93 hSv93 => ?_, fun v93 => ?_⟩
  · obtain ⟨xv93, rfl⟩ := hwv93
    obtain rfl : v91 = .bool true := hSv93 91 (by decide) (by decide)
    clear hSv93
    go_wp2_with fail
    exact ⟨rfl, _, rfl, fun d hd => by cases hd; exact SlB.of_block (l := [4#8, 5#8]) (hp_at _ _ _ (by simp)), Ext.alloc _ _⟩
  simp only [Act.put, List.setIfInBounds_toArray, List.set_cons_zero, List.set_cons_succ]
  refine ⟨fun wv94 hwv94 hSv94 => ?_, fun v94 => ?_⟩
  · obtain ⟨xv94, rfl⟩ := hwv94
    obtain rfl : v91 = .bool true := hSv94 91 (by decide) (by decide)
    obtain rfl : v92 = .slice a4 2 c4 := hSv94 92 (by decide) (by decide)
    have h93 := kp (show SlB _ v93 [4#8, 5#8] from hSv94 93 (by decide) (by decide))
    clear hSv94
    obtain ⟨a7, c7, rfl⟩ := h93.out.form
    go_wp2_with fail
    refine (same22_any (HS4.out.ext (Ext.more _ _)) h93.out (by simp)).mono ?_
    rw [show (([4#8, 5#8] : List (BitVec 8)) == [4#8, 5#8]) = true by decide]
    rintro e w' ⟨rfl, hx⟩
    have HXL := kp hx
    clear hx
    go_wp2_with fail
    exact ⟨rfl, _, rfl, fun d hd => by cases hd; exact rfl, HXL.out⟩
  simp only [Act.put, List.setIfInBounds_toArray, List.set_cons_zero, List.set_cons_succ]
  refine ⟨fun wv95 hwv95 hSv95 => ?_, fun v95 => ?_⟩
  · obtain ⟨xv95, rfl⟩ := hwv95
    obtain rfl : v91 = .bool true := hSv95 91 (by decide) (by decide)
    obtain rfl : v94 = .bool true := hSv95 94 (by decide) (by decide)
    clear hSv95
    go_wp2_with fail
    exact ⟨rfl, _, rfl, fun d hd => by cases hd; exact rfl, Ext.refl _⟩
  simp only [Act.put, List.setIfInBounds_toArray, List.set_cons_zero, List.set_cons_succ]
  refine ⟨fun wv0 hwv0 hSv0 => ?_, fun v0 => ?_⟩
  · obtain ⟨xv0, rfl⟩ := hwv0
    obtain rfl : v95 = .bool true := hSv0 95 (by decide) (by decide)
    clear hSv0
    go_wp2_with fail
    exact ⟨rfl, _, rfl, fun d hd => by cases hd; exact rfl, Ext.refl _⟩
  simp only [Act.put, List.setIfInBounds_toArray, List.set_cons_zero]
  intro x9 hfin
  obtain rfl : v0 = .bool true := hfin 0 (by decide)
  clear hfin
  simp only [List.drop_succ_cons, List.drop_zero]
  go_wp2_with fail
  go_ret
  exact ⟨rfl, HXX.out.trans (Ext.more _ _)⟩
end Go.Proofs.Ytnofmppimihjpaa
