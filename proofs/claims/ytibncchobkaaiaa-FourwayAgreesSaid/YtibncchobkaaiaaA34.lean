/- Texts of this proof, put together: LawR. -/
import Derived.Test.YtibncchobkaaiaaA33
import Derived.Test.YtibncchobkaaiaaA1
namespace Go.Proofs.Ytibncchobkaaiaa
open Go.RowKit
theorem size2 (s : Fw × Fw) : (Try.prog.info? 55).map (·.size) = some (cells2 s).length := by rw [cells2_len]; kernel_rfl
theorem SlT.at2 {w : World} {v : Value} {l : List (Fw × Fw)} (h : SlT 262 cells2 w v l) {j : Nat} {x : Fw × Fw} (hj : l[j]? = some x) : ∃ b off c, v = .slice (some ⟨b, off, none⟩) l.length c ∧ b < w.heap.size ∧ w.rangeAt b (off + j * 262) (cells2 x) := by
 obtain ⟨ad, n, c, rfl, rfl, _, h4⟩ := h
 obtain ⟨b, off, rfl, hb, hr⟩ := h4 j x hj
 exact ⟨b, off, c, rfl, hb, hr⟩
theorem runF_len : ∀ (l : List Ev) (s : Fw × Fw) (sent : List By) (now : Int), (runF l s sent now).length ≤ l.length
 | [], _, _, _ => Nat.le_refl _
 | o :: l, s, sent, now => by
  unfold runF
  split
  ·exact Nat.zero_le _
  ·rw [List.length_cons, List.length_cons]; exact Nat.succ_le_succ (runF_len l _ _ _)
def AgrL (tot : List (Fw × Fw)) (W0 : World) (w : World) (vs : Tmp → Value) (wr : World) : Prop := ∃ j : Nat, j ≤ tot.length ∧ vs 10 = .int .i64 j ∧ Kp (Chg W0.heap.size W0 wr) ∧ Kp (Loc w wr [])
theorem Loc.none {w0 w : World} {bs : List Bk} (h : Loc w0 w bs) : Loc w0 w [] := ⟨h.1, List.nodup_nil, fun b hb => by cases hb⟩
set_option maxRecDepth 10000 in
set_option maxHeartbeats 6400000 in
theorem fourwayAgrees_walk (p0 : Pr) (v : Value) (l : List Ev) (hk : ∀ x ∈ l, x.Ok) (hlen : l.length ≤ 9223372036854775807) (w : World) (hv : SlT 23 cellsV w v l) : Calls Try.prog 6 #[.agg (cat (partsP p0)).toArray, v] w fun e w' => e = .returned (.bool true) ∧ Ext w w' := by
 have H := kp (Loc.start w)
 have HV := kp hv
 have HKO := kp hk
 obtain ⟨ad, c0, rfl⟩ := hv.form
 have C1 := kp alive_any
 have CG := kp (show ∀ W, Ext w W → Calls Try.prog 22 #[.slice ad l.length c0] W (fun e w' => e = .returned (.bool (greatF l)) ∧ Ext W w') from fun W hx => great_any _ l hlen W (hv.ext hx))
 clear hv hk hlen
 go_enter Try.func6, Try.ntmps6
 generalize h6 : (Code.region 6 _ _ : Code) = R6
 cases hb : sidesB (own1 p0) with
 | false =>
  have C2 := kp (show ∀ w, Calls Try.prog 25 #[.agg (cat (partsP (own1 p0))).toArray] w (fun e w' => e = .returned (.tuple #[.agg (cat (parts2 (sidesF (own1 p0)))).toArray, .bool false]) ∧ Ext w w') from fun w => by have := sides_any (own1 p0) w; unfold SidR at this; rwa [hb] at this)
  clear hb
  generalize sidesF (own1 p0) = ss at *
  go_wp2_with (first | ((with_reducible show wpList _ _ _ (Oper.mk (some 2) (Op.box 48 _) _ _ _ _ :: _) _ _); (refine L_box H rfl 48 _ rfl (cat (partsP p0)) rfl ?_); clear H; intro g2 w2 HGg2 HEg2 H; simp only [Act.put, sbA, szA, ssA]) | (go_at_call 26; refine (C1.out _).mono ?_; rintro e wa ⟨rfl, hx⟩; have H2 := kp (H.out.ext hx); have HXC := kp hx; clear H hx; have H := H2; clear H2) | ((with_reducible refine isLd 25 ?_); (refine L_fv H rfl 25 _ rfl 0 rfl _ rfl _ rfl rfl Try.underlying25 rfl (by kernel_rfl) ?_); simp only [Act.put, sbA, szA, ssA]) | ((with_reducible refine isSt 25 ?_); (refine L_sv H rfl rfl 25 _ _ rfl 0 rfl _ rfl _ rfl (Lf.v p0.master) rfl rfl rfl (by kernel_rfl) (partsP (own1 p0)) rfl ?_; clear H; intro w5 HWw5 H; simp only [szA] at H)) | ((with_reducible refine isLd 48 ?_); (refine L_fa H rfl 48 _ rfl 0 rfl rfl Try.underlying48 rfl (by kernel_rfl) ?_); simp only [Act.put, sbA, szA, ssA]) | ((with_reducible show wpList _ _ _ (Oper.mk (some 6) (Op.alloc 55) _ _ _ _ :: _) _ _); (refine L_alloc H rfl 55 rfl (cat (parts2 (fw0, fw0))) (fun _ _ => by kernel_rfl) ?_); clear H; intro g6 w6 HGg6 HEg6 H; simp only [Act.put, sbA, szA, ssA]) | ((with_reducible refine isSt 55 ?_); refine L_sa H rfl rfl 55 _ _ rfl 0 rfl rfl (parts2 ss) rfl rfl (by kernel_rfl) ?_; clear H; intro wb HWwb H; simp only [szA] at H) | (go_at_call 25; refine (C2.out _).mono ?_; rintro e wa ⟨rfl, hx⟩; have H2 := kp (H.out.ext hx); have HXC := kp hx; clear H hx; have H := H2; clear H2) | (go_at_call 22; refine (CG.out _ H.out.1).mono ?_; rintro e wa ⟨rfl, hx⟩; have H2 := kp (H.out.ext hx); have HXC := kp hx; clear H hx; have H := H2; clear H2))
  all_goals go_ret
  all_goals exact ⟨rfl, H.out.1⟩
 | true =>
  have HK := kp (sidesB_ok hb)
  have C2 := kp (sides_okC HK.out)
  clear hb
  have HM := kp (show SameK (own1 p0) from rfl)
  cases hgr : greatF l with
  | true =>
   rw [hgr] at CG
   go_wp2_with (first | ((with_reducible show wpList _ _ _ (Oper.mk (some 2) (Op.box 48 _) _ _ _ _ :: _) _ _); (refine L_box H rfl 48 _ rfl (cat (partsP p0)) rfl ?_); clear H; intro g2 w2 HGg2 HEg2 H; simp only [Act.put, sbA, szA, ssA]) | (go_at_call 26; refine (C1.out _).mono ?_; rintro e wa ⟨rfl, hx⟩; have H2 := kp (H.out.ext hx); have HXC := kp hx; clear H hx; have H := H2; clear H2) | ((with_reducible refine isLd 25 ?_); (refine L_fv H rfl 25 _ rfl 0 rfl _ rfl _ rfl rfl Try.underlying25 rfl (by kernel_rfl) ?_); simp only [Act.put, sbA, szA, ssA]) | ((with_reducible refine isSt 25 ?_); (refine L_sv H rfl rfl 25 _ _ rfl 0 rfl _ rfl _ rfl (Lf.v p0.master) rfl rfl rfl (by kernel_rfl) (partsP (own1 p0)) rfl ?_; clear H; intro w5 HWw5 H; simp only [szA] at H)) | ((with_reducible refine isLd 48 ?_); (refine L_fa H rfl 48 _ rfl 0 rfl rfl Try.underlying48 rfl (by kernel_rfl) ?_); simp only [Act.put, sbA, szA, ssA]) | ((with_reducible show wpList _ _ _ (Oper.mk (some 6) (Op.alloc 55) _ _ _ _ :: _) _ _); (refine L_alloc H rfl 55 rfl (cat (parts2 (fw0, fw0))) (fun _ _ => by kernel_rfl) ?_); clear H; intro g6 w6 HGg6 HEg6 H; simp only [Act.put, sbA, szA, ssA]) | ((with_reducible refine isSt 55 ?_); refine L_sa H rfl rfl 55 _ _ rfl 0 rfl rfl (parts2 (stA0 (own1 p0), stS0 (own1 p0))) rfl rfl (by kernel_rfl) ?_; clear H; intro wb HWwb H; simp only [szA] at H) | (go_at_call 25; refine (C2.out _).mono ?_; rintro e wa ⟨rfl, hx⟩; have H2 := kp (H.out.ext hx); have HXC := kp hx; clear H hx; have H := H2; clear H2) | (go_at_call 22; refine (CG.out _ H.out.1).mono ?_; rintro e wa ⟨rfl, hx⟩; have H2 := kp (H.out.ext hx); have HXC := kp hx; clear H hx; have H := H2; clear H2))
   all_goals go_ret
   all_goals exact ⟨rfl, H.out.1⟩
  | false =>
   rw [hgr] at CG
   go_wp2_with (first | ((with_reducible show wpList _ _ _ (Oper.mk (some 2) (Op.box 48 _) _ _ _ _ :: _) _ _); (refine L_box H rfl 48 _ rfl (cat (partsP p0)) rfl ?_); clear H; intro g2 w2 HGg2 HEg2 H; simp only [Act.put, sbA, szA, ssA]) | (go_at_call 26; refine (C1.out _).mono ?_; rintro e wa ⟨rfl, hx⟩; have H2 := kp (H.out.ext hx); have HXC := kp hx; clear H hx; have H := H2; clear H2) | ((with_reducible refine isLd 25 ?_); (refine L_fv H rfl 25 _ rfl 0 rfl _ rfl _ rfl rfl Try.underlying25 rfl (by kernel_rfl) ?_); simp only [Act.put, sbA, szA, ssA]) | ((with_reducible refine isSt 25 ?_); (refine L_sv H rfl rfl 25 _ _ rfl 0 rfl _ rfl _ rfl (Lf.v p0.master) rfl rfl rfl (by kernel_rfl) (partsP (own1 p0)) rfl ?_; clear H; intro w5 HWw5 H; simp only [szA] at H)) | ((with_reducible refine isLd 48 ?_); (refine L_fa H rfl 48 _ rfl 0 rfl rfl Try.underlying48 rfl (by kernel_rfl) ?_); simp only [Act.put, sbA, szA, ssA]) | ((with_reducible show wpList _ _ _ (Oper.mk (some 6) (Op.alloc 55) _ _ _ _ :: _) _ _); (refine L_alloc H rfl 55 rfl (cat (parts2 (fw0, fw0))) (fun _ _ => by kernel_rfl) ?_); clear H; intro g6 w6 HGg6 HEg6 H; simp only [Act.put, sbA, szA, ssA]) | ((with_reducible refine isSt 55 ?_); refine L_sa H rfl rfl 55 _ _ rfl 0 rfl rfl (parts2 (stA0 (own1 p0), stS0 (own1 p0))) rfl rfl (by kernel_rfl) ?_; clear H; intro wb HWwb H; simp only [szA] at H) | (go_at_call 25; refine (C2.out _).mono ?_; rintro e wa ⟨rfl, hx⟩; have H2 := kp (H.out.ext hx); have HXC := kp hx; clear H hx; have H := H2; clear H2) | (go_at_call 22; refine (CG.out _ H.out.1).mono ?_; rintro e wa ⟨rfl, hx⟩; have H2 := kp (H.out.ext hx); have HXC := kp hx; clear H hx; have H := H2; clear H2))
   generalize (own1 p0) = p at *
   have CR := kp (show ∀ W, Ext w W → Calls Try.prog 27 #[.agg (cat (partsP p)).toArray, .slice ad l.length c0] W (RunE (sidesF p :: runF l (sidesF p) [] 0) W) from fun W hx => run_any p l HKO.out hgr _ W (HV.out.ext hx))
   have HAG := kp (show ∀ x ∈ sidesF p :: runF l (sidesF p) [] 0, x.1.inst = 1 → x.2.inst = 1 ∧ x.1.pair = x.2.pair ∧ x.1.gid = x.2.gid ∧ x.1.gkey = x.2.gkey from by
    rw [sidesF_eq HK.out]
    exact run_agree HK.out.gid l _ [] 0 (invH_start HK.out HM.out))
   have htl : (sidesF p :: runF l (sidesF p) [] 0).length ≤ 100 := by have := runF_len l (sidesF p) [] 0; have := great_len hgr; rw [List.length_cons]; omega
   generalize sidesF p :: runF l (sidesF p) [] 0 = tot at *
   clear hgr CG
   subst h6
   go_wp2_with (first | ((with_reducible refine isLd 48 ?_); refine L_fa H rfl 48 _ rfl 1 rfl rfl Try.underlying48 rfl (by kernel_rfl) ?_; simp only [Act.put, sbA, szA, ssA]) | (go_at_call 27; refine (CR.out _ H.out.1).mono ?_; rintro e wq ⟨u, bb, rfl, hsl, hx⟩; have HAL := kp hsl; clear hsl; have H2 := kp (H.out.ext hx); have HXC := kp hx; clear H hx; have H := H2; clear H2))
   obtain ⟨ua, uc, rfl⟩ := HAL.out.form
   have H0 := kp (Loc.none H.out)
   clear H
   refine wp_loopC (10 :: 11 :: 38 :: 39 :: 40 :: 41 :: 42 :: 43 :: 44 :: 45 :: 46 :: 47 :: 48 :: 49 :: 50 :: 51 :: 52 :: 53 :: 54 :: 55 :: 56 :: 57 :: 58 :: 59 :: 60 :: 61 :: 62 :: 63 :: 64 :: 65 :: 66 :: 67 :: 68 :: 69 :: 70 :: 71 :: 72 :: 73 :: 74 :: 75 :: 76 :: 77 :: 78 :: 79 :: 80 :: 81 :: 82 :: 83 :: 84 :: 85 :: []) (AgrL tot wq w) (fun vs _ => tot.length - (intOf (vs 10)).toNat) (by kernel_rfl) ⟨0, by omega, rfl, kp (Chg.refl _), H0⟩ ?_
   clear H0
   rintro vs wr ⟨j, hj, q10, HC, H⟩
   simp only [putMany, List.setIfInBounds_toArray, List.set_cons_zero, List.set_cons_succ]
   rw [q10]
   by_cases hjl : j < tot.length
   ·obtain ⟨x, hx⟩ : ∃ x, tot[j]? = some x := ⟨_, List.getElem?_eq_getElem hjl⟩
    obtain ⟨b, off, c1, hv1, hbs, hr⟩ := (HAL.out.chg HC.out).at2 hx
    cases hv1
    have HRA := kp hr
    have HZ2 := kp (size2 x)
    have hag := HAG.out x (List.mem_of_getElem? hx)
    clear hx hr hbs
    obtain ⟨a, y⟩ := x
    by_cases hi : a.inst = 1
    ·obtain ⟨e1, e2, e3, e4⟩ := hag hi
     obtain ⟨r2, st2, o2, pe2, ma2, mi2, ot2, re2, tr2, du2, pa2, gi2, gk2, in2⟩ := y
     dsimp only at e1 e2 e3 e4
     subst e1 e2 e3 e4
     have hi1 : (a.inst == 1) = true := by simp [hi]
     clear hag hi
     go_wp2_with (first | ((with_reducible refine isLd 55 ?_); (refine wpList_load_midG (by kernel_rfl) 55 _ rfl (b) (off + j * 262) rfl (cells2 (a, (⟨r2, st2, o2, pe2, ma2, mi2, ot2, re2, tr2, du2, a.pair, a.gid, a.gkey, 1⟩ : Fw))) _ (HRA.out) Try.underlying55 rfl (HZ2.out) ?_); simp only [Act.put, sbA, szA, ssA]) | ((with_reducible show wpList _ _ _ (Oper.mk (some 11) (Op.alloc 55) _ _ _ _ :: _) _ _); (refine L_alloc H rfl 55 rfl (cat (parts2 (fw0, fw0))) (fun _ _ => by kernel_rfl) ?_); clear H; intro g11 w11 HGg11 HEg11 H; simp only [Act.put, sbA, szA, ssA]) | ((with_reducible refine isSt 55 ?_); refine L_sa H rfl rfl 55 _ _ rfl 0 rfl rfl (parts2 (a, (⟨r2, st2, o2, pe2, ma2, mi2, ot2, re2, tr2, du2, a.pair, a.gid, a.gkey, 1⟩ : Fw))) rfl rfl (by kernel_rfl) ?_; clear H; intro wz HWwz H; simp only [szA] at H) | ((with_reducible refine isLd 3 ?_); (refine L_f1 H rfl 3 _ rfl 0 rfl _ rfl _ rfl _ rfl Try.underlying3 rfl ?_); simp only [Act.put, sbA, szA, ssA]) | ((with_reducible refine isLd 28 ?_); refine L_fg H rfl 28 _ rfl 0 rfl _ rfl _ rfl (partsK a.pair) rfl Try.underlying28 rfl (by kernel_rfl) ?_; simp only [Act.put, sbA, szA, ssA]) | ((with_reducible refine isLd 30 ?_); refine L_fg H rfl 30 _ rfl 0 rfl _ rfl _ rfl (partsG a.gid a.gkey) rfl Try.underlying30 rfl (by kernel_rfl) ?_; simp only [Act.put, sbA, szA, ssA]) | (((with_reducible show wpList _ _ _ (Oper.mk _ (Op.binOp _ 28 _ _ _) _ _ _ _ :: _) _ _); (refine wpList_ne2 rfl 28 _ _ _ rfl _ _ _ rfl rfl Try.eqGuardType28 (eqK_in _ _ _ 9997) ?_); simp only [Act.put, sbA, szA, ssA]); simp only [decide_true]) | (((with_reducible show wpList _ _ _ (Oper.mk _ (Op.binOp _ 30 _ _ _) _ _ _ _ :: _) _ _); (refine wpList_ne2 rfl 30 _ _ _ rfl _ _ _ rfl rfl Try.eqGuardType30 (eqG_in _ _ _ _ _ 9997) ?_); simp only [Act.put, sbA, szA, ssA]); simp only [decide_true, beq_self_eq_true, Bool.and_self]))
     all_goals try (exfalso; omega)
     exact LoopP.of rfl (by kernel_rfl) ⟨j + 1, by omega, by show Value.int .i64 _ = Value.int .i64 _; go_num, kp (HC.out.past HEg11.out HWwz.out (Nat.le_trans HC.out.1 (Nat.le_of_eq HGg11.out.symm))), kp (Loc.none H.out)⟩ (by simp [intOf]; omega)
    ·have hi1 : (a.inst == 1) = false := by simp [hi]
     clear hag hi
     go_wp2_with (first | ((with_reducible refine isLd 55 ?_); (refine wpList_load_midG (by kernel_rfl) 55 _ rfl (b) (off + j * 262) rfl (cells2 (a, y)) _ (HRA.out) Try.underlying55 rfl (HZ2.out) ?_); simp only [Act.put, sbA, szA, ssA]) | ((with_reducible show wpList _ _ _ (Oper.mk (some 11) (Op.alloc 55) _ _ _ _ :: _) _ _); (refine L_alloc H rfl 55 rfl (cat (parts2 (fw0, fw0))) (fun _ _ => by kernel_rfl) ?_); clear H; intro g11 w11 HGg11 HEg11 H; simp only [Act.put, sbA, szA, ssA]) | ((with_reducible refine isSt 55 ?_); refine L_sa H rfl rfl 55 _ _ rfl 0 rfl rfl (parts2 (a, y)) rfl rfl (by kernel_rfl) ?_; clear H; intro wz HWwz H; simp only [szA] at H) | ((with_reducible refine isLd 3 ?_); (refine L_f1 H rfl 3 _ rfl 0 rfl _ rfl _ rfl _ rfl Try.underlying3 rfl ?_); simp only [Act.put, sbA, szA, ssA]))
     all_goals try (exfalso; omega)
     exact LoopP.of rfl (by kernel_rfl) ⟨j + 1, by omega, by show Value.int .i64 _ = Value.int .i64 _; go_num, kp (HC.out.past HEg11.out HWwz.out (Nat.le_trans HC.out.1 (Nat.le_of_eq HGg11.out.symm))), kp (Loc.none H.out)⟩ (by simp [intOf]; omega)
   ·obtain rfl : j = tot.length := by omega
    go_wp2_with fail
    all_goals try (exfalso; omega)
    go_ret
    exact ⟨rfl, H.out.1⟩
end Go.Proofs.Ytibncchobkaaiaa
