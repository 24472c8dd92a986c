/- Texts of this proof, put together: RefA, Own23, OutT, RefDer, RefKey. -/
import Derived.Test.YtibncchobkaaiaaE23
import Derived.Test.YtibncchobkaaiaaE20
import Derived.Test.YtibncchobkaaiaaE10
import Derived.Test.YtibncchobkaaiaaE1
namespace Go.Proofs.Ytibncchobkaaiaa
open Go.RowKit
set_option maxHeartbeats 1600000 in
theorem rnone_any (s : Fw) (w : World) : Calls Try.prog 60 #[.agg (cat (partsF s)).toArray] w fun e w' => e = .returned (.bool (freshS s)) ∧ Ext w w' := by
 have H := kp (Loc.start w)
 go_enter Try.func60, Try.ntmps60
 cases h1 : decide (s.other = zv 16) with
 | false =>
  have HF := kp (show freshS s = false by unfold freshS; rw [h1]; rfl)
  go_wp2_with (first | ((with_reducible show wpList _ _ _ (Oper.mk (some 1) (Op.box 32 _) _ _ _ _ :: _) _ _); (refine L_box H rfl 32 _ rfl (cat (partsF s)) rfl ?_); clear H; intro g1 w1 HGg1 HEg1 H; simp only [pA]) | ((with_reducible refine isLd 26 ?_); (refine L_fv H rfl 26 _ rfl 0 rfl _ rfl _ rfl rfl Try.underlying26 rfl (by kernel_rfl) ?_); simp only [pA]) | ((with_reducible show wpList _ _ _ (Oper.mk _ (Op.build 26 _) _ _ _ _ :: _) _ _); (refine L_bd rfl 26 _ rfl #[] (by kernel_rfl) ((zv 16).1.map V8) (fun _ => by kernel_rfl) ?_); simp only [pA]) | (((with_reducible show wpList _ _ _ (Oper.mk _ (Op.binOp _ 26 _ _ _) _ _ _ _ :: _) _ _); (refine wpList_eq2 rfl 26 _ _ _ rfl _ _ _ rfl rfl Try.eqGuardType26 (eqV_in _ Try.underlying26 _ _ 9998) ?_); simp only [pA]); rw [h1]))
  go_ret
  exact ⟨congrArg (fun z => Ending.returned (.bool z)) HF.out.symm, H.out.1⟩
 | true =>
  have HF := kp (show freshS s = decide (s.pair = ks0) by unfold freshS; rw [h1]; rfl)
  go_wp2_with (first | ((with_reducible show wpList _ _ _ (Oper.mk (some 1) (Op.box 32 _) _ _ _ _ :: _) _ _); (refine L_box H rfl 32 _ rfl (cat (partsF s)) rfl ?_); clear H; intro g1 w1 HGg1 HEg1 H; simp only [pA]) | ((with_reducible refine isLd 26 ?_); (refine L_fv H rfl 26 _ rfl 0 rfl _ rfl _ rfl rfl Try.underlying26 rfl (by kernel_rfl) ?_); simp only [pA]) | ((with_reducible show wpList _ _ _ (Oper.mk _ (Op.build 26 _) _ _ _ _ :: _) _ _); (refine L_bd rfl 26 _ rfl #[] (by kernel_rfl) ((zv 16).1.map V8) (fun _ => by kernel_rfl) ?_); simp only [pA]) | (((with_reducible show wpList _ _ _ (Oper.mk _ (Op.binOp _ 26 _ _ _) _ _ _ _ :: _) _ _); (refine wpList_eq2 rfl 26 _ _ _ rfl _ _ _ rfl rfl Try.eqGuardType26 (eqV_in _ Try.underlying26 _ _ 9998) ?_); simp only [pA]); rw [h1]) | ((with_reducible refine isLd 28 ?_); (refine L_fg H rfl 28 _ rfl 0 rfl _ rfl _ rfl (partsK s.pair) rfl Try.underlying28 rfl (by kernel_rfl) ?_); simp only [pA]) | ((with_reducible show wpList _ _ _ (Oper.mk _ (Op.build 28 _) _ _ _ _ :: _) _ _); (refine L_bd rfl 28 _ rfl #[] (by kernel_rfl) (cat (partsK ks0)) (fun _ => by kernel_rfl) ?_); simp only [pA]) | ((with_reducible show wpList _ _ _ (Oper.mk _ (Op.binOp _ 28 _ _ _) _ _ _ _ :: _) _ _); (refine wpList_eq2 rfl 28 _ _ _ rfl _ _ _ rfl rfl Try.eqGuardType28 (eqK_in _ _ _ 9997) ?_); simp only [pA]))
  all_goals go_ret
  all_goals exact ⟨congrArg (fun z => Ending.returned (.bool z)) HF.out.symm, H.out.1⟩
theorem num_lt_iff {l m : By} (h : l.length = m.length) (k : Nat) (he : l.take k = m.take k) {x y : BitVec 8} (hx : l[k]? = some x) (hy : m[k]? = some y) (hne : x ≠ y) : decide (wI x < wI y) = decide (numF l < numF m) := by
 have hn : x.toNat ≠ y.toNat := fun e => hne (BitVec.eq_of_toNat_eq e)
 rcases Nat.lt_or_ge x.toNat y.toNat with q | q
 ·have := num_lt h k he hx hy q
  rw [decide_eq_true (show wI x < wI y by unfold wI; omega), decide_eq_true this]
 ·have := num_lt h.symm k he.symm hy hx (by omega)
  rw [decide_eq_false (show ¬ wI x < wI y by unfold wI; omega), decide_eq_false (by omega)]
set_option maxHeartbeats 1600000 in
theorem rsmaller_any (a b : Vc 6) (w : World) : Calls Try.prog 84 #[.agg (a.1.map V8).toArray, .agg (b.1.map V8).toArray] w fun e w' => e = .returned (.bool (decide (numF a.1 < numF b.1))) ∧ Ext w w' := by
 have H := kp (Loc.start w)
 go_enter Try.func84, Try.ntmps84
 go_wp2_with (first | ((with_reducible show wpList _ _ _ (Oper.mk (some 2) (Op.box 23 _) _ _ _ _ :: _) _ _); (refine L_box H rfl 23 _ rfl (cat ([Lf.v a])) rfl ?_); clear H; intro g2 w2 HGg2 HEg2 H; simp only [pA]) | ((with_reducible show wpList _ _ _ (Oper.mk (some 3) (Op.box 23 _) _ _ _ _ :: _) _ _); (refine L_box H rfl 23 _ rfl (cat ([Lf.v b])) rfl ?_); clear H; intro g3 w3 HGg3 HEg3 H; simp only [pA]))
 go_loopw [5] (fun i wr => ∃ k : Nat, k ≤ 6 ∧ i = .int .i64 k ∧ Kp (a.1.take k = b.1.take k) ∧ Kp (Loc w wr [(g3, 23, cat [Lf.v b]), (g2, 23, cat [Lf.v a])])) (fun i _ => 6 - (intOf i).toNat)
 case atStart => exact ⟨0, by omega, rfl, kp rfl, H⟩
 case round =>
  obtain ⟨k, hk, rfl, HT, H⟩ := hrel
  have ha := a.2
  have hb := b.2
  by_cases hlt : k < 6
  ·obtain ⟨x, hx⟩ : ∃ x, a.1[k]? = some x := ⟨_, List.getElem?_eq_getElem (by omega)⟩
   obtain ⟨y, hy⟩ : ∃ y, b.1[k]? = some y := ⟨_, List.getElem?_eq_getElem (by omega)⟩
   have HXK := kp (show (cat [Lf.v a])[k]? = some (.int .u8 (wI x)) from by rw [cat1]; show (a.1.map V8)[k]? = _; rw [List.getElem?_map, hx]; rfl)
   have HYK := kp (show (cat [Lf.v b])[k]? = some (.int .u8 (wI y)) from by rw [cat1]; show (b.1.map V8)[k]? = _; rw [List.getElem?_map, hy]; rfl)
   generalize h4 : (Code.region 4 _ _ : Code) = R4
   generalize h5 : (Code.region 5 _ _ : Code) = R5
   go_wp2_with fail
   all_goals try (exfalso; omega)
   by_cases hxy : x = y
   ·have HT2 := kp (show a.1.take (k + 1) = b.1.take (k + 1) from by rw [List.take_add_one, List.take_add_one, hx, hy, hxy, HT.out])
    subst hxy
    clear hx hy
    subst h4
    refine region_free H (tabS [(10, fun vQ _ => vQ = .int .i64 k), (11, fun vQ _ => vQ = .pointer (some ⟨g2, k, none⟩)), (12, fun vQ _ => vQ = .int .u8 (wI x)), (13, fun vQ _ => vQ = .int .i64 k), (14, fun vQ _ => vQ = .pointer (some ⟨g3, k, none⟩)), (15, fun vQ _ => vQ = .int .u8 (wI x)), (16, fun vQ _ => vQ = .bool false)]) [] (tabS_out _ _ (by simp only [List.forall_mem_cons, mono_eqO, true_and]; simp)) 7 (by kernel_rfl) (by kernel_rfl) (by kernel_rfl) (by kernel_rfl) [] [] rfl rfl (by decide) (by decide) (by decide) trivial ?_
    simp only [List.take_succ_cons, List.take_zero]
    refine ⟨fun w_ o_ S_ => ?_, fun v10 => ?_⟩
    ·clear S_
     clear o_
     go_wp2_with fail
     exact kso
    simp only [pA]
    refine ⟨fun w_ o_ S_ => ?_, fun v11 => ?_⟩
    ·obtain rfl : v10 = .int .i64 k := hsR S_ 10 rfl
     clear S_ o_
     go_wp2_with fail
     exact kso
    simp only [pA]
    refine ⟨fun w_ o_ S_ => ?_, fun v12 => ?_⟩
    ·obtain rfl : v11 = .pointer (some ⟨g2, k, none⟩) := hsR S_ 11 rfl
     clear S_
     have H := kp (kK [0, 1] H o_)
     have HOX := kp o_
     clear o_
     have hc := run_load_cell H.out 1 rfl _ _ HXK.out
     go_wp2_with fail
     exact kso
    simp only [pA]
    refine ⟨fun w_ o_ S_ => ?_, fun v13 => ?_⟩
    ·clear S_
     clear o_
     go_wp2_with fail
     exact kso
    simp only [pA]
    refine ⟨fun w_ o_ S_ => ?_, fun v14 => ?_⟩
    ·obtain rfl : v13 = .int .i64 k := hsR S_ 13 rfl
     clear S_ o_
     go_wp2_with fail
     exact kso
    simp only [pA]
    refine ⟨fun w_ o_ S_ => ?_, fun v15 => ?_⟩
    ·obtain rfl : v14 = .pointer (some ⟨g3, k, none⟩) := hsR S_ 14 rfl
     clear S_
     have H := kp (kK [0, 1] H o_)
     have HOX := kp o_
     clear o_
     have hc := run_load_cell H.out 0 rfl _ _ HYK.out
     go_wp2_with fail
     exact kso
    simp only [pA]
    refine ⟨fun w_ o_ S_ => ?_, fun v16 => ?_⟩
    ·obtain rfl : v12 = .int .u8 (wI x) := hsR S_ 12 rfl
     obtain rfl : v15 = .int .u8 (wI x) := hsR S_ 15 rfl
     clear S_ o_
     go_wp2_with fail
     exact kso
    simp only [pA]
    clear H
    intro wn HOX H hfin
    obtain rfl : v10 = .int .i64 k := hfin 10 (by decide)
    obtain rfl : v11 = .pointer (some ⟨g2, k, none⟩) := hfin 11 (by decide)
    obtain rfl : v12 = .int .u8 (wI x) := hfin 12 (by decide)
    obtain rfl : v13 = .int .i64 k := hfin 13 (by decide)
    obtain rfl : v14 = .pointer (some ⟨g3, k, none⟩) := hfin 14 (by decide)
    obtain rfl : v15 = .int .u8 (wI x) := hfin 15 (by decide)
    obtain rfl : v16 = .bool false := hfin 16 (by decide)
    clear hfin
    simp only [List.drop_succ_cons, List.drop_zero]
    simp only [applyS] at H
    have HXN := kp (HOX.out.ext (Ext.refl wr) (fun g hg => by cases hg))
    go_wp2_with fail
    go_roundw
    case rel => exact ⟨k + 1, by omega, by go_num, HT2, H⟩
    case measure => simp [intOf]; omega
   ·have HF := kp (num_lt_iff (a.2.trans b.2.symm) k HT.out hx hy hxy)
    have hbb : (x != y) = true := by simpa using hxy
    clear hx hy hxy
    subst h4
    refine region_free H (tabS [(10, fun vQ _ => vQ = .int .i64 k), (11, fun vQ _ => vQ = .pointer (some ⟨g2, k, none⟩)), (12, fun vQ _ => vQ = .int .u8 (wI x)), (13, fun vQ _ => vQ = .int .i64 k), (14, fun vQ _ => vQ = .pointer (some ⟨g3, k, none⟩)), (15, fun vQ _ => vQ = .int .u8 (wI y)), (16, fun vQ _ => vQ = .bool true)]) [] (tabS_out _ _ (by simp only [List.forall_mem_cons, mono_eqO, true_and]; simp)) 7 (by kernel_rfl) (by kernel_rfl) (by kernel_rfl) (by kernel_rfl) [] [] rfl rfl (by decide) (by decide) (by decide) trivial ?_
    simp only [List.take_succ_cons, List.take_zero]
    refine ⟨fun w_ o_ S_ => ?_, fun v10 => ?_⟩
    ·clear S_
     clear o_
     go_wp2_with fail
     exact kso
    simp only [pA]
    refine ⟨fun w_ o_ S_ => ?_, fun v11 => ?_⟩
    ·obtain rfl : v10 = .int .i64 k := hsR S_ 10 rfl
     clear S_ o_
     go_wp2_with fail
     exact kso
    simp only [pA]
    refine ⟨fun w_ o_ S_ => ?_, fun v12 => ?_⟩
    ·obtain rfl : v11 = .pointer (some ⟨g2, k, none⟩) := hsR S_ 11 rfl
     clear S_
     have H := kp (kK [0, 1] H o_)
     have HOX := kp o_
     clear o_
     have hc := run_load_cell H.out 1 rfl _ _ HXK.out
     go_wp2_with fail
     exact kso
    simp only [pA]
    refine ⟨fun w_ o_ S_ => ?_, fun v13 => ?_⟩
    ·clear S_
     clear o_
     go_wp2_with fail
     exact kso
    simp only [pA]
    refine ⟨fun w_ o_ S_ => ?_, fun v14 => ?_⟩
    ·obtain rfl : v13 = .int .i64 k := hsR S_ 13 rfl
     clear S_ o_
     go_wp2_with fail
     exact kso
    simp only [pA]
    refine ⟨fun w_ o_ S_ => ?_, fun v15 => ?_⟩
    ·obtain rfl : v14 = .pointer (some ⟨g3, k, none⟩) := hsR S_ 14 rfl
     clear S_
     have H := kp (kK [0, 1] H o_)
     have HOX := kp o_
     clear o_
     have hc := run_load_cell H.out 0 rfl _ _ HYK.out
     go_wp2_with fail
     exact kso
    simp only [pA]
    refine ⟨fun w_ o_ S_ => ?_, fun v16 => ?_⟩
    ·obtain rfl : v12 = .int .u8 (wI x) := hsR S_ 12 rfl
     obtain rfl : v15 = .int .u8 (wI y) := hsR S_ 15 rfl
     clear S_ o_
     go_wp2_with fail
     exact kso
    simp only [pA]
    clear H
    intro wn HOX H hfin
    obtain rfl : v10 = .int .i64 k := hfin 10 (by decide)
    obtain rfl : v11 = .pointer (some ⟨g2, k, none⟩) := hfin 11 (by decide)
    obtain rfl : v12 = .int .u8 (wI x) := hfin 12 (by decide)
    obtain rfl : v13 = .int .i64 k := hfin 13 (by decide)
    obtain rfl : v14 = .pointer (some ⟨g3, k, none⟩) := hfin 14 (by decide)
    obtain rfl : v15 = .int .u8 (wI y) := hfin 15 (by decide)
    obtain rfl : v16 = .bool true := hfin 16 (by decide)
    clear hfin
    simp only [List.drop_succ_cons, List.drop_zero]
    simp only [applyS] at H
    have HXN := kp (HOX.out.ext (Ext.refl wr) (fun g hg => by cases hg))
    go_wp2_with fail
    subst h5
    refine region_free H (tabS [(17, fun vQ _ => vQ = .int .i64 k), (18, fun vQ _ => vQ = .pointer (some ⟨g2, k, none⟩)), (19, fun vQ _ => vQ = .int .u8 (wI x)), (20, fun vQ _ => vQ = .int .i64 k), (21, fun vQ _ => vQ = .pointer (some ⟨g3, k, none⟩)), (22, fun vQ _ => vQ = .int .u8 (wI y)), (23, fun vQ _ => vQ = .bool (decide (wI x < wI y))), (4, fun vQ _ => vQ = .bool (decide (wI x < wI y)))]) [] (tabS_out _ _ (by simp only [List.forall_mem_cons, mono_eqO, true_and]; simp)) 8 (by kernel_rfl) (by kernel_rfl) (by kernel_rfl) (by kernel_rfl) [] [] rfl rfl (by decide) (by decide) (by decide) trivial ?_
    simp only [List.take_succ_cons, List.take_zero]
    refine ⟨fun w_ o_ S_ => ?_, fun v17 => ?_⟩
    ·clear S_
     clear o_
     go_wp2_with fail
     exact kso
    simp only [pA]
    refine ⟨fun w_ o_ S_ => ?_, fun v18 => ?_⟩
    ·obtain rfl : v17 = .int .i64 k := hsR S_ 17 rfl
     clear S_ o_
     go_wp2_with fail
     exact kso
    simp only [pA]
    refine ⟨fun w_ o_ S_ => ?_, fun v19 => ?_⟩
    ·obtain rfl : v18 = .pointer (some ⟨g2, k, none⟩) := hsR S_ 18 rfl
     clear S_
     have H := kp (kK [0, 1] H o_)
     have HOX := kp o_
     clear o_
     have hc := run_load_cell H.out 1 rfl _ _ HXK.out
     go_wp2_with fail
     exact kso
    simp only [pA]
    refine ⟨fun w_ o_ S_ => ?_, fun v20 => ?_⟩
    ·clear S_
     clear o_
     go_wp2_with fail
     exact kso
    simp only [pA]
    refine ⟨fun w_ o_ S_ => ?_, fun v21 => ?_⟩
    ·obtain rfl : v20 = .int .i64 k := hsR S_ 20 rfl
     clear S_ o_
     go_wp2_with fail
     exact kso
    simp only [pA]
    refine ⟨fun w_ o_ S_ => ?_, fun v22 => ?_⟩
    ·obtain rfl : v21 = .pointer (some ⟨g3, k, none⟩) := hsR S_ 21 rfl
     clear S_
     have H := kp (kK [0, 1] H o_)
     have HOX := kp o_
     clear o_
     have hc := run_load_cell H.out 0 rfl _ _ HYK.out
     go_wp2_with fail
     exact kso
    simp only [pA]
    refine ⟨fun w_ o_ S_ => ?_, fun v23 => ?_⟩
    ·obtain rfl : v19 = .int .u8 (wI x) := hsR S_ 19 rfl
     obtain rfl : v22 = .int .u8 (wI y) := hsR S_ 22 rfl
     clear S_ o_
     go_wp2_with fail
     exact kso
    simp only [pA]
    refine ⟨fun w_ o_ S_ => ?_, fun v4 => ?_⟩
    ·obtain rfl : v23 = .bool (decide (wI x < wI y)) := hsR S_ 23 rfl
     clear S_ o_
     go_wp2_with fail
     exact kso
    simp only [pA]
    clear H
    intro wm HOX H hfin
    obtain rfl : v17 = .int .i64 k := hfin 17 (by decide)
    obtain rfl : v18 = .pointer (some ⟨g2, k, none⟩) := hfin 18 (by decide)
    obtain rfl : v19 = .int .u8 (wI x) := hfin 19 (by decide)
    obtain rfl : v20 = .int .i64 k := hfin 20 (by decide)
    obtain rfl : v21 = .pointer (some ⟨g3, k, none⟩) := hfin 21 (by decide)
    obtain rfl : v22 = .int .u8 (wI y) := hfin 22 (by decide)
    obtain rfl : v23 = .bool (decide (wI x < wI y)) := hfin 23 (by decide)
    obtain rfl : v4 = .bool (decide (wI x < wI y)) := hfin 4 (by decide)
    clear hfin
    simp only [List.drop_succ_cons, List.drop_zero]
    simp only [applyS] at H
    have HXN := kp (HOX.out.ext (Ext.refl wn) (fun g hg => by cases hg))
    go_wp2_with fail
    go_ret
    exact ⟨congrArg (fun z => Ending.returned (.bool z)) HF.out, H.out.1⟩
  ·obtain rfl : k = 6 := by omega
   have HF := kp (show decide (numF a.1 < numF b.1) = false from by
    have e : a.1 = b.1 := by have := HT.out; rwa [List.take_of_length_le (by omega), List.take_of_length_le (by omega)] at this
    rw [e]; simp)
   go_wp2_with fail
   all_goals try (exfalso; omega)
   go_ret
   exact ⟨congrArg (fun z => Ending.returned (.bool z)) HF.out.symm, H.out.1⟩
end Go.Proofs.Ytibncchobkaaiaa
namespace Go.Proofs.Ytibncchobkaaiaa
open Go.RowKit
end Go.Proofs.Ytibncchobkaaiaa
namespace Go.Proofs.Ytibncchobkaaiaa
open Go.RowKit
theorem outTo_at (ks : List (BitVec 8)) (s : ByteArray) (c : List (BitVec 8)) (i : Nat) : ∀ k, i < 16 * k → (outTo ks s c k)[i]? = (macF ks (inputF s c ((i / 16 : Nat) : Int)))[i % 16]?
 | 0, h => by omega
 | k + 1, h => by
  rw [outTo]
  by_cases hi : i < 16 * k
  ·rw [List.getElem?_append_left (by rw [outTo_len]; exact hi)]
   exact outTo_at ks s c i k hi
  ·rw [List.getElem?_append_right (by rw [outTo_len]; omega), outTo_len, show i / 16 = k by omega, show i - 16 * k = i % 16 by omega]
theorem expandF_at (ks : List (BitVec 8)) (s : ByteArray) (c : List (BitVec 8)) (n i : Nat) (h : i < n) : (expandF ks s c n)[i]? = (macF ks (inputF s c ((i / 16 : Nat) : Int)))[i % 16]? := by
 unfold expandF
 rw [List.getElem?_take, if_pos h]
 exact outTo_at ks s c i _ (by omega)
end Go.Proofs.Ytibncchobkaaiaa
namespace Go.Proofs.Ytibncchobkaaiaa
open Go.RowKit
set_option maxHeartbeats 3200000 in
theorem rderived_any (ks : List (BitVec 8)) (hk : ks.length = 16) (s : ByteArray) (hs : s.size ≤ 32) (vc : Value) (c : List (BitVec 8)) (hc : c.length ≤ 256) (n : Nat) (hn : n ≤ 1024) (w : World) (hv : SlB w vc c) :
  Calls Try.prog 85 #[.agg (ks.map V8).toArray, .string s, vc, .int .i64 n] w (RetO (expandF ks s c n) w) := by
 obtain ⟨iu, hiu, hu⟩ := info_iu
 have HIU := kp hiu
 have HU := kp hu
 obtain ⟨ac, cc, rfl⟩ := hv.form
 have HV := kp hv
 have HK := kp (sizeK ks hk)
 have HIN := kp (fun (i : Int) (w1 : World) (hx : SlB w1 (.slice ac c.length cc) c) => rinput_any s (by omega) _ c (by omega) i w1 hx)
 have HMAC := kp (fun (i : Int) (v : Value) (w1 : World) (hx : SlB w1 v (inputF s c i)) => rmac_any ks (inputF s c i) hk (by simp [inputF, twoF, strB_len]; omega) v w1 hx)
 have HEL := kp (expandF_len ks s c n)
 have HEA := kp (fun i (h : i < n) => expandF_at ks s c n i h)
 have HOE := kp (owns_empty (w.alloc (.cells (ks.map V8).toArray 25)) (w.heap.size + 1) (by simp))
 simp only [World.size_alloc] at HOE
 generalize expandF ks s c n = E at *
 clear hiu hu hv hk
 go_enter Try.func85, Try.ntmps85
 go_wp2_with fail
 go_loopw [9, 10] (fun v i wr => ∃ k : Nat, k ≤ n ∧ i = .int .i64 k ∧ Kp (wr.ownsRow (w.heap.size + 1) 5 1 v (E.take k).length ((E.take k).map V8)) ∧ Kp (Ext (w.alloc (.cells (ks.map V8).toArray 25)) wr)) (fun _ i _ => n - (intOf i).toNat)
 case atStart => exact ⟨0, by omega, rfl, kp (by simpa using HOE.out), kp (Ext.alloc _ _)⟩
 case round =>
  obtain ⟨k, hkn, rfl, HO, HX⟩ := hrel
  by_cases hlt : k < n
  ·have hlt2 : (k : Int) < n := by omega
   have HKR := kp (ext_heap HX.out (hp_new _ _))
   have HVX := kp (HV.out.ext ((Ext.alloc _ _).trans HX.out))
   have hsz : w.heap.size + 1 ≤ wr.heap.size := by have := HX.out.size; simpa using this
   have HB := kp (sizeB (macF ks (inputF s c ((k / 16 : Nat) : Int))) (macF_len _ _))
   have HZ := kp (z16_size (macF ks (inputF s c ((k / 16 : Nat) : Int))) (macF_len _ _))
   obtain ⟨y, hy⟩ : ∃ y, E[k]? = some y := ⟨E[k]'(by rw [HEL.out]; exact hlt), by simp⟩
   have hz0 := HEA.out k hlt
   rw [hy] at hz0
   have hz := hz0.symm
   have HTK := kp (take_snoc E k y hy)
   have hm16 : k % 16 < 16 := by omega
   have HLE := kp (show (E.take k).length + [y].length ≤ 1000000 by rw [List.length_take, HEL.out]; simp; omega)
   clear hy hz0
   go_wp2_with fail
   refine region_spine (tabS [(18, fun v _ => v = .agg (ks.map V8).toArray), (19, fun v _ => v = .string s), (20, fun v _ => v = .slice ac c.length cc), (21, fun v _ => v = .int .i64 k), (22, fun v _ => v = .int .i64 ((k / 16 : Nat) : Int)), (23, fun v w => SlB w v (inputF s c ((k / 16 : Nat) : Int))), (24, fun v _ => v = .agg ((macF ks (inputF s c ((k / 16 : Nat) : Int))).map V8).toArray)]) (tabS_mono _ (by simp only [List.forall_mem_cons]; exact ⟨mono_eq _, mono_eq _, mono_eq _, mono_eq _, mono_eq _, mono_SlB _, mono_eq _, by simp⟩)) 8 7 11 (.cells z16 115) (by kernel_rfl) (by kernel_rfl) (by kernel_rfl) (by kernel_rfl) (by kernel_rfl) (by intro o ho; cases ho; exact ⟨rfl, rfl, by simp, fun _ _ => by kernel_rfl⟩) (by decide) (wr) (.inl rfl) ?_
   simp only [List.take_succ_cons, List.take_zero, List.eraseIdx_cons_succ, List.eraseIdx_cons_zero]
   refine ⟨fun w_ hwv18 S_ => ?_, fun v18 => ?_⟩
   ·obtain ⟨xv18, rfl⟩ := hwv18
    clear S_
    go_wp2_with ((with_reducible refine isLd 25 ?_); (with_reducible refine wpList_load_row rfl 25 _ rfl (w.heap.size) rfl 25 ((ks.map V8).toArray) (0, 0) _ (hp_more HKR.out) Try.underlying25 rfl (HK.out) ?_); simp only [pA])
    exact kso
   simp only [pA]
   refine ⟨fun w_ hwv19 S_ => ?_, fun v19 => ?_⟩
   ·obtain ⟨xv19, rfl⟩ := hwv19
    clear S_
    go_wp2_with fail
    exact kso
   simp only [pA]
   refine ⟨fun w_ hwv20 S_ => ?_, fun v20 => ?_⟩
   ·obtain ⟨xv20, rfl⟩ := hwv20
    clear S_
    go_wp2_with fail
    exact kso
   simp only [pA]
   refine ⟨fun w_ hwv21 S_ => ?_, fun v21 => ?_⟩
   ·obtain ⟨xv21, rfl⟩ := hwv21
    clear S_
    go_wp2_with fail
    exact kso
   simp only [pA]
   refine ⟨fun w_ hwv22 S_ => ?_, fun v22 => ?_⟩
   ·obtain ⟨xv22, rfl⟩ := hwv22
    obtain rfl : v21 = .int .i64 k := hsR S_ 21 rfl
    clear S_
    go_wp2_with fail
    exact ⟨rfl, _, rfl, fun d hd => by cases hd; exact (by simp [tabS]), Ext.refl _⟩
   simp only [pA]
   refine ⟨fun w_ hwv23 S_ => ?_, fun v23 => ?_⟩
   ·obtain ⟨xv23, rfl⟩ := hwv23
    obtain rfl : v19 = .string s := hsR S_ 19 rfl
    obtain rfl : v20 = .slice ac c.length cc := hsR S_ 20 rfl
    obtain rfl : v22 = .int .i64 ((k / 16 : Nat) : Int) := hsR S_ 22 rfl
    clear S_
    go_wp2_with fail
    refine (HIN.out _ _ (HVX.out.ext (Ext.more _ _))).mono ?_
    rintro e w' ⟨v, rfl, ho, hx⟩
    have HSL := kp (SlB.of_owns ho)
    have HXL := kp hx
    clear ho hx
    go_wp2_with fail
    exact ⟨rfl, v, rfl, fun d hd => by cases hd; exact HSL.out, HXL.out⟩
   simp only [pA]
   refine ⟨fun w_ hwv24 S_ => ?_, fun v24 => ?_⟩
   ·obtain ⟨xv24, rfl⟩ := hwv24
    obtain rfl : v18 = .agg (ks.map V8).toArray := hsR S_ 18 rfl
    have h23 := kp (show SlB _ v23 (inputF s c ((k / 16 : Nat) : Int)) from hsR S_ 23 rfl)
    clear S_
    obtain ⟨a7, c7, rfl⟩ := h23.out.form
    go_wp2_with fail
    refine (HMAC.out _ _ _ h23.out).mono ?_
    rintro e w' ⟨rfl, hx⟩
    have HXL := kp hx
    clear hx
    go_wp2_with fail
    exact ⟨rfl, _, rfl, fun d hd => by cases hd; exact rfl, HXL.out⟩
   simp only [pA]
   intro xm xq hfin
   obtain rfl : v24 = .agg ((macF ks (inputF s c ((k / 16 : Nat) : Int))).map V8).toArray := hfin 24 (by decide)
   clear hfin
   simp only [List.setIfInBounds_toArray, List.set_cons_zero, List.set_cons_succ, List.drop_succ_cons, List.drop_zero]
   generalize macF ks (inputF s c ((k / 16 : Nat) : Int)) = mf at *
   have HO9 := kp (owns_ext HO.out ((((Ext.more wr xm).trans (Ext.alloc _ (.cells (mf.map V8).toArray 115))).trans (Ext.more _ xq)).trans (Ext.alloc _ (.cells #[V8 y] 5))))
   have HS9 := kp (SlB.of_block (cap := 1) (l := [y]) (hp_new (more ((more wr xm).alloc (.cells (mf.map V8).toArray 115)) xq) (.cells #[V8 y] 5)))
   simp only [more_size, World.size_alloc] at HS9
   go_wp2_with (first | ((with_reducible refine isSt 115 ?_); with_reducible refine wpList_st_row rfl rfl 115 _ _ rfl (wr.heap.size + xm.blocks.size) ((mf.map V8).toArray) rfl rfl 115 (_) (hp_more (hp_at _ _ _ (by simp))) (HB.out) (HZ.out) (all_V8 _) (by rewrite [setRow_more _ _ _ _ (by first | assumption | (simp <;> omega)), setRow_at _ _ _ _ _ _ (by simp <;> omega)]; rfl) ?_) | (at_builtin; refine wpList_append_SlB rfl _ _ 33 rfl (w.heap.size + 1) 5 iu Try.underlying33 HIU.out HU.out.1 HU.out.2.1 HU.out.2.2 _ _ rfl HO9.out _ [y] rfl HS9.out HLE.out (by simp <;> omega) ?_; intro v' w9 ho9 hg9))
   have HX9 := kp (((((HX.out.trans (Ext.more wr xm)).trans (Ext.alloc _ _)).trans (Ext.more _ xq)).trans (Ext.alloc _ _)).grown hg9 (fun q hq => by have := owns_block HO9.out q hq; simpa using this))
   go_roundw
   case rel => exact ⟨k + 1, by omega, by go_num, kp (by rw [HTK.out]; exact ho9), HX9⟩
   case measure => simp [intOf]; omega
  ·obtain rfl : k = n := by omega
   have hlt2 : ¬ (k : Int) < k := by omega
   have HT := kp (show E.take k = E from List.take_of_length_le (by rw [HEL.out]; exact Nat.le_refl _))
   go_wp2_with fail
   go_ret
   exact ⟨_, rfl, owns_base (by have h := HO.out; rw [HT.out] at h; exact h) (by omega), (Ext.alloc _ _).trans HX.out⟩
end Go.Proofs.Ytibncchobkaaiaa
namespace Go.Proofs.Ytibncchobkaaiaa
open Go.RowKit
def keyTo (l : List (BitVec 8)) (k : Nat) : List (BitVec 8) := l.take k ++ List.replicate (16 - k) 0
theorem keyTo_len (l : List (BitVec 8)) (hl : 16 ≤ l.length) (k : Nat) (hk : k ≤ 16) : (keyTo l k).length = 16 := by
 unfold keyTo; rw [List.length_append, List.length_take, List.length_replicate]; omega
theorem keyTo_step (l : List (BitVec 8)) (hl : 16 ≤ l.length) (k : Nat) (hk : k < 16) (y : BitVec 8) (hy : l[k]? = some y) : (keyTo l k).set k y = keyTo l (k + 1) := by
 unfold keyTo
 rw [List.set_append_right _ _ (by rw [List.length_take]; omega), List.length_take, Nat.min_eq_left (by omega), Nat.sub_self, show 16 - k = (16 - (k + 1)) + 1 by omega, List.replicate_succ, List.set_cons_zero, List.take_add_one, hy]
 simp
set_option maxHeartbeats 1600000 in
theorem rkey_any (l : List (BitVec 8)) (hl : 16 ≤ l.length) (hb : l.length ≤ 1000000000) (v : Value) (w : World) (hs : SlB w v l) :
  Calls Try.prog 86 #[v] w fun e w' => e = .returned (.agg ((l.take 16).map V8).toArray) ∧ Ext w w' := by
 obtain ⟨ad, cap, rfl⟩ := hs.form
 have HS0 := kp hs
 obtain ⟨n, hn⟩ : ∃ n, n = l.length := ⟨_, rfl⟩
 rw [← hn] at hl hb ⊢
 have HN := kp hn
 clear hs hn
 go_enter Try.func86, Try.ntmps86
 go_wp2_with fail
 go_loopw [4] (fun i wr => ∃ (k : Nat) (x : Xtra), k ≤ 16 ∧ i = .int .i64 k ∧ wr = more ((w.alloc (.cells z16 25)).alloc (.cells ((keyTo l k).map V8).toArray 25)) x) (fun i _ => 16 - (intOf i).toNat)
 case atStart => exact ⟨0, _, by omega, rfl, by rw [← more_self]; rfl⟩
 case round =>
  obtain ⟨k, x, hk, rfl, rfl⟩ := hrel
  by_cases hlt : k < 16
  ·obtain ⟨y, hy⟩ : ∃ y, l[k]? = some y := ⟨l[k]'(by rw [← HN.out]; omega), by simp⟩
   obtain ⟨b, off, rfl, hbb, hcell⟩ := HS0.out.at k y hy
   have hb1 : b < w.heap.size + 1 := by omega
   have hb2 : b < w.heap.size + 1 + 1 := by omega
   have hkn : k < n := by omega
   obtain ⟨z, hz⟩ : ∃ z, (keyTo l k)[k]? = some z := ⟨(keyTo l k)[k]'(by rw [keyTo_len l (by rw [← HN.out]; exact hl) k hk]; omega), by simp⟩
   have HK1 := kp (keyTo_step l (by rw [← HN.out]; exact hl) k hlt y hy)
   clear hy
   go_wp2_with fail
   go_roundw
   case rel => exact ⟨k + 1, _, by omega, by go_num, by rw [← HK1.out, List.map_set]⟩
   case measure => simp [intOf]; omega
  ·obtain rfl : k = 16 := by omega
   have HE := kp (show keyTo l 16 = l.take 16 by simp [keyTo])
   have HL := kp (show (l.take 16).length = 16 by rw [List.length_take, ← HN.out]; omega)
   rw [HE.out]
   have HB := kp (sizeK (l.take 16) HL.out)
   have HZ := kp (z16_size (l.take 16) HL.out)
   obtain ⟨m, hm⟩ : ∃ m, l.take 16 = m := ⟨_, rfl⟩
   have HMM := kp hm
   rw [hm] at HB HZ ⊢
   clear hm
   go_wp2_with (first | ((with_reducible refine isLd 25 ?_); (with_reducible refine wpList_load_row rfl 25 _ rfl (w.heap.size + 1) rfl 25 ((m.map V8).toArray) (0, 0) _ (hp_more (hp_at _ _ _ (by simp))) Try.underlying25 rfl (HB.out) ?_); simp only [pA]) | ((with_reducible refine isSt 25 ?_); with_reducible refine wpList_st_row rfl rfl 25 _ _ rfl (w.heap.size) ((m.map V8).toArray) rfl rfl 25 (_) (hp_more (hp_alloc (hp_new _ _))) (HB.out) (HZ.out) (all_V8 _) (by rewrite [setRow_more _ _ _ _ (by first | assumption | (simp <;> omega)), setRow_past _ _ _ _ (by simp <;> omega), setRow_at _ _ _ _ _ _ (by simp <;> omega)]; rfl) ?_))
   exact ret_row Try.results86 (w.heap.size) 25 ((m.map V8).toArray) (0, 0) _ rfl (hp_more (hp_alloc (hp_new _ _))) Try.underlying25 rfl (HB.out) rfl ⟨by rw [HMM.out], ((Ext.alloc _ _).trans (Ext.alloc _ _)).trans (Ext.more _ _)⟩
end Go.Proofs.Ytibncchobkaaiaa
