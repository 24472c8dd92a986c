/- Texts of this proof, put together: LawO. -/
import Derived.Test.YtibncchobkaaiaaC33
import Derived.Test.YtibncchobkaaiaaC34
import Derived.Test.YtibncchobkaaiaaC1
namespace Go.Proofs.Ytibncchobkaaiaa
open Go.RowKit
def OncL (tot : List (Fw × Fw)) (W0 : World) (w : World) (vs : Tmp → Value) (wr : World) : Prop := ∃ i : Nat, i + 1 ≤ tot.length ∧ vs 10 = .int .i64 (i + 1) ∧ Kp (Chg W0.heap.size W0 wr) ∧ Kp (Loc w wr [])
def OncK (W0 : World) (w : World) (vs : Tmp → Value) (wr : World) : Prop := ∃ k : Nat, k ≤ 2 ∧ vs 11 = .int .i64 k ∧ Kp (Chg W0.heap.size W0 wr) ∧ Kp (Loc w wr [])
def OncC (W0 : World) (w : World) (_ : Tmp → Value) (wr : World) : Prop := Kp (Chg W0.heap.size W0 wr) ∧ Kp (Loc w wr [])
theorem range_part {w : World} {b o k n : Nat} {cs ds : List Value} (h : w.rangeAt b o cs) (hd : (cs.drop k).take n = ds) : w.rangeAt b (o + k) ds := fun j v hv => by
 have hj : (cs.drop k)[j]? = some v := by
  rw [← hd, List.getElem?_take] at hv
  split at hv
  ·exact hv
  ·cases hv
 rw [List.getElem?_drop] at hj
 have := h (k + j) v hj
 rwa [show o + (k + j) = o + k + j by omega] at this
theorem parts_0 (s : Fw × Fw) : ((cells2 s).drop 0).take 131 = cat (partsF s.1) := by
 unfold cells2 parts2
 rw [List.drop_zero, cat_append, List.take_append_of_le_length (by rw [cat_len]; exact Nat.le_of_eq (by kernel_rfl)), List.take_of_length_le (by rw [cat_len]; exact Nat.le_of_eq (by kernel_rfl))]
theorem parts_1 (s : Fw × Fw) : ((cells2 s).drop 131).take 131 = cat (partsF s.2) := by
 have h1 : (cat (partsF s.1)).length = 131 := by rw [cat_len]; kernel_rfl
 have h2 : (cat (partsF s.2)).length = 131 := by rw [cat_len]; kernel_rfl
 unfold cells2 parts2
 rw [cat_append, List.drop_append_of_le_length (by omega), List.drop_of_length_le (by omega), List.nil_append, List.take_of_length_le (by omega)]
theorem sizeFc (s : Fw) : (Try.prog.info? 32).map (·.size) = some (cat (partsF s)).length := by rw [cat_len]; kernel_rfl
set_option maxRecDepth 10000 in
set_option maxHeartbeats 6400000 in
theorem fourwayOnce_walk (p : Pr) (v : Value) (l : List Ev) (hk : ∀ x ∈ l, x.Ok) (hlen : l.length ≤ 9223372036854775807) (w : World) (hv : SlT 23 cellsV w v l) : Calls Try.prog 7 #[.agg (cat (partsP p)).toArray, v] w fun e w' => e = .returned (.bool true) ∧ Ext w w' := by
 have H := kp (Loc.start w)
 have HV := kp hv
 have HKO := kp hk
 obtain ⟨ad, c0, rfl⟩ := hv.form
 have C1 := kp alive_any
 have CG := kp (show ∀ W, Ext w W → Calls Try.prog 22 #[.slice ad l.length c0] W (fun e w' => e = .returned (.bool (greatF l)) ∧ Ext W w') from fun W hx => great_any _ l hlen W (hv.ext hx))
 have CK := kp check_any
 clear hv hk hlen
 go_enter Try.func7, Try.ntmps7
 generalize h5 : (Code.region 5 _ _ : Code) = R5
 cases hb : sidesB p with
 | false =>
  have C2 := kp (show ∀ w, Calls Try.prog 25 #[.agg (cat (partsP p)).toArray] w (fun e w' => e = .returned (.tuple #[.agg (cat (parts2 (sidesF p))).toArray, .bool false]) ∧ Ext w w') from fun w => by have := sides_any p w; unfold SidR at this; rwa [hb] at this)
  clear hb
  generalize sidesF p = ss at *
  go_wp2_with (first | ((with_reducible show wpList _ _ _ (Oper.mk (some 2) (Op.box 48 _) _ _ _ _ :: _) _ _); (refine L_box H rfl 48 _ rfl (cat (partsP p)) rfl ?_); clear H; intro g2 w2 HGg2 HEg2 H; simp only [Act.put, sbA, szA, ssA]) | (go_at_call 26; refine (C1.out _).mono ?_; rintro e wa ⟨rfl, hx⟩; have H2 := kp (H.out.ext hx); have HXC := kp hx; clear H hx; have H := H2; clear H2) | ((with_reducible refine isLd 48 ?_); (refine L_fa H rfl 48 _ rfl 0 rfl rfl Try.underlying48 rfl (by kernel_rfl) ?_); simp only [Act.put, sbA, szA, ssA]) | ((with_reducible show wpList _ _ _ (Oper.mk (some 6) (Op.alloc 55) _ _ _ _ :: _) _ _); (refine L_alloc H rfl 55 rfl (cat (parts2 (fw0, fw0))) (fun _ _ => by kernel_rfl) ?_); clear H; intro g6 w6 HGg6 HEg6 H; simp only [Act.put, sbA, szA, ssA]) | ((with_reducible refine isSt 55 ?_); refine L_sa H rfl rfl 55 _ _ rfl 0 rfl rfl (parts2 ss) rfl rfl (by kernel_rfl) ?_; clear H; intro wb HWwb H; simp only [szA] at H) | (go_at_call 25; refine (C2.out _).mono ?_; rintro e wa ⟨rfl, hx⟩; have H2 := kp (H.out.ext hx); have HXC := kp hx; clear H hx; have H := H2; clear H2) | (go_at_call 22; refine (CG.out _ H.out.1).mono ?_; rintro e wa ⟨rfl, hx⟩; have H2 := kp (H.out.ext hx); have HXC := kp hx; clear H hx; have H := H2; clear H2))
  all_goals go_ret
  all_goals exact ⟨rfl, H.out.1⟩
 | true =>
  have HK := kp (sidesB_ok hb)
  have C2 := kp (sides_okC HK.out)
  clear hb
  cases hgr : greatF l with
  | true =>
   rw [hgr] at CG
   go_wp2_with (first | ((with_reducible show wpList _ _ _ (Oper.mk (some 2) (Op.box 48 _) _ _ _ _ :: _) _ _); (refine L_box H rfl 48 _ rfl (cat (partsP p)) rfl ?_); clear H; intro g2 w2 HGg2 HEg2 H; simp only [Act.put, sbA, szA, ssA]) | (go_at_call 26; refine (C1.out _).mono ?_; rintro e wa ⟨rfl, hx⟩; have H2 := kp (H.out.ext hx); have HXC := kp hx; clear H hx; have H := H2; clear H2) | ((with_reducible refine isLd 48 ?_); (refine L_fa H rfl 48 _ rfl 0 rfl rfl Try.underlying48 rfl (by kernel_rfl) ?_); simp only [Act.put, sbA, szA, ssA]) | ((with_reducible show wpList _ _ _ (Oper.mk (some 6) (Op.alloc 55) _ _ _ _ :: _) _ _); (refine L_alloc H rfl 55 rfl (cat (parts2 (fw0, fw0))) (fun _ _ => by kernel_rfl) ?_); clear H; intro g6 w6 HGg6 HEg6 H; simp only [Act.put, sbA, szA, ssA]) | ((with_reducible refine isSt 55 ?_); refine L_sa H rfl rfl 55 _ _ rfl 0 rfl rfl (parts2 (stA0 p, stS0 p)) rfl rfl (by kernel_rfl) ?_; clear H; intro wb HWwb H; simp only [szA] at H) | (go_at_call 25; refine (C2.out _).mono ?_; rintro e wa ⟨rfl, hx⟩; have H2 := kp (H.out.ext hx); have HXC := kp hx; clear H hx; have H := H2; clear H2) | (go_at_call 22; refine (CG.out _ H.out.1).mono ?_; rintro e wa ⟨rfl, hx⟩; have H2 := kp (H.out.ext hx); have HXC := kp hx; clear H hx; have H := H2; clear H2))
   all_goals go_ret
   all_goals exact ⟨rfl, H.out.1⟩
  | false =>
   rw [hgr] at CG
   go_wp2_with (first | ((with_reducible show wpList _ _ _ (Oper.mk (some 2) (Op.box 48 _) _ _ _ _ :: _) _ _); (refine L_box H rfl 48 _ rfl (cat (partsP p)) rfl ?_); clear H; intro g2 w2 HGg2 HEg2 H; simp only [Act.put, sbA, szA, ssA]) | (go_at_call 26; refine (C1.out _).mono ?_; rintro e wa ⟨rfl, hx⟩; have H2 := kp (H.out.ext hx); have HXC := kp hx; clear H hx; have H := H2; clear H2) | ((with_reducible refine isLd 48 ?_); (refine L_fa H rfl 48 _ rfl 0 rfl rfl Try.underlying48 rfl (by kernel_rfl) ?_); simp only [Act.put, sbA, szA, ssA]) | ((with_reducible show wpList _ _ _ (Oper.mk (some 6) (Op.alloc 55) _ _ _ _ :: _) _ _); (refine L_alloc H rfl 55 rfl (cat (parts2 (fw0, fw0))) (fun _ _ => by kernel_rfl) ?_); clear H; intro g6 w6 HGg6 HEg6 H; simp only [Act.put, sbA, szA, ssA]) | ((with_reducible refine isSt 55 ?_); refine L_sa H rfl rfl 55 _ _ rfl 0 rfl rfl (parts2 (stA0 p, stS0 p)) rfl rfl (by kernel_rfl) ?_; clear H; intro wb HWwb H; simp only [szA] at H) | (go_at_call 25; refine (C2.out _).mono ?_; rintro e wa ⟨rfl, hx⟩; have H2 := kp (H.out.ext hx); have HXC := kp hx; clear H hx; have H := H2; clear H2) | (go_at_call 22; refine (CG.out _ H.out.1).mono ?_; rintro e wa ⟨rfl, hx⟩; have H2 := kp (H.out.ext hx); have HXC := kp hx; clear H hx; have H := H2; clear H2))
   have CR := kp (show ∀ W, Ext w W → Calls Try.prog 27 #[.agg (cat (partsP p)).toArray, .slice ad l.length c0] W (RunE (sidesF p :: runF l (sidesF p) [] 0) W) from fun W hx => run_any p l HKO.out hgr _ W (HV.out.ext hx))
   have HAD := kp (show Adj (fun x y => OnceOk x.1 y.1 ∧ OnceOk x.2 y.2) (sidesF p :: runF l (sidesF p) [] 0) from by
    rw [sidesF_eq HK.out]
    exact run_once l _ [] 0 (goodA0 HK.out) (goodS0 HK.out))
   have htl : (sidesF p :: runF l (sidesF p) [] 0).length ≤ 100 ∧ 1 ≤ (sidesF p :: runF l (sidesF p) [] 0).length := by have := runF_len l (sidesF p) [] 0; have := great_len hgr; rw [List.length_cons]; omega
   generalize sidesF p :: runF l (sidesF p) [] 0 = tot at *
   obtain ⟨htl, htl1⟩ := htl
   clear hgr CG
   subst h5
   go_wp2_with (first | ((with_reducible refine isLd 48 ?_); refine L_fa H rfl 48 _ rfl 1 rfl rfl Try.underlying48 rfl (by kernel_rfl) ?_; simp only [Act.put, sbA, szA, ssA]) | (go_at_call 27; refine (CR.out _ H.out.1).mono ?_; rintro e wq ⟨u, bb, rfl, hsl, hx⟩; have HAL := kp hsl; clear hsl; have H2 := kp (H.out.ext hx); have HXC := kp hx; clear H hx; have H := H2; clear H2))
   obtain ⟨ua, uc, rfl⟩ := HAL.out.form
   have H0 := kp (Loc.none H.out)
   clear H
   refine wp_loopC (10 :: 11 :: 12 :: 13 :: 37 :: 38 :: 39 :: 40 :: 41 :: 42 :: 43 :: 44 :: 45 :: 46 :: 47 :: 48 :: 49 :: 50 :: 51 :: 52 :: 53 :: 54 :: 55 :: 56 :: 57 :: 58 :: 59 :: 60 :: 61 :: 62 :: 63 :: 64 :: 65 :: 66 :: 67 :: 68 :: 69 :: 70 :: 71 :: 72 :: 73 :: 74 :: 75 :: 76 :: 77 :: 78 :: 79 :: 80 :: 81 :: 82 :: 83 :: 84 :: 85 :: 86 :: 87 :: 88 :: 89 :: 90 :: 91 :: 92 :: 93 :: 94 :: 95 :: 96 :: 97 :: 98 :: 99 :: 100 :: 101 :: 102 :: 103 :: 104 :: 105 :: []) (OncL tot wq w) (fun vs _ => tot.length - (intOf (vs 10)).toNat) (by kernel_rfl) ⟨0, by omega, rfl, kp (Chg.refl _), H0⟩ ?_
   clear H0
   rintro vs wr ⟨i, hi, q10, HC, H⟩
   simp only [putMany, List.setIfInBounds_toArray, List.set_cons_zero, List.set_cons_succ]
   rw [q10]
   by_cases hjl : i + 1 < tot.length
   ·obtain ⟨⟨x1, x2⟩, hx⟩ : ∃ x, tot[i]? = some x := ⟨_, List.getElem?_eq_getElem (by omega)⟩
    obtain ⟨⟨y1, y2⟩, hy⟩ : ∃ x, tot[i + 1]? = some x := ⟨_, List.getElem?_eq_getElem hjl⟩
    have HXY := kp (HAD.out.at hx hy)
    have HX := kp hx
    have HY := kp hy
    clear hx hy
    generalize h9 : ((Code.region 9 _ _ : Code).seq _) = C9
    go_wp2_with fail
    all_goals try (exfalso; omega)
    subst h9
    refine wp_cut (11 :: 12 :: 13 :: 43 :: 44 :: 45 :: 46 :: 47 :: 48 :: 49 :: 50 :: 51 :: 52 :: 53 :: 54 :: 55 :: 56 :: 57 :: 58 :: 59 :: 60 :: 61 :: 62 :: 63 :: 64 :: 65 :: 66 :: 67 :: 68 :: 69 :: 70 :: 71 :: 72 :: 73 :: 74 :: 75 :: 76 :: 77 :: 78 :: 79 :: 80 :: 81 :: 82 :: 83 :: 84 :: 85 :: 86 :: 87 :: 88 :: 89 :: 90 :: 91 :: 92 :: 93 :: 94 :: 95 :: 96 :: 97 :: 98 :: 99 :: 100 :: 101 :: 102 :: 103 :: 104 :: 105 :: []) (OncC wq w) ?_ ?_
    ·go_wp2_with fail
     refine wp_loopC (11 :: 12 :: 13 :: 43 :: 44 :: 45 :: 46 :: 47 :: 48 :: 49 :: 50 :: 51 :: 52 :: 53 :: 54 :: 55 :: 56 :: 57 :: 58 :: 59 :: 60 :: 61 :: 62 :: 63 :: 64 :: 65 :: 66 :: 67 :: 68 :: 69 :: 70 :: 71 :: 72 :: 73 :: 74 :: 75 :: 76 :: 77 :: 78 :: 79 :: 80 :: 81 :: 82 :: 83 :: 84 :: 85 :: 86 :: 87 :: 88 :: 89 :: 90 :: 91 :: 92 :: 93 :: 94 :: 95 :: 96 :: 97 :: 98 :: 99 :: 100 :: 101 :: 102 :: 103 :: 104 :: 105 :: []) (OncK wq w) (fun vs _ => 2 - (intOf (vs 11)).toNat) (by kernel_rfl) ⟨0, by omega, rfl, HC, H⟩ ?_
     clear HC H
     rintro vs wr ⟨k, hk, q11, HC, H⟩
     simp only [putMany, List.setIfInBounds_toArray, List.set_cons_zero, List.set_cons_succ]
     rw [q11]
     obtain ⟨b, off, c1, hv1, hb, hr1⟩ := (HAL.out.chg HC.out).at2 HX.out
     cases hv1
     obtain ⟨b', off', c1', hv2, _, hr2⟩ := (HAL.out.chg HC.out).at2 HY.out
     cases hv2
     have hk3 : k = 0 ∨ k = 1 ∨ k = 2 := by omega
     rcases hk3 with rfl | rfl | rfl
     ·rw [show ((0 : Nat) : Int) = 0 from rfl]
      have HRX := kp (show ∀ W, Ext wr W → W.rangeAt b (off + i * 262) (cat (partsF x1)) from fun W hx => rangeAt_ext (range_part (k := 0) hr1 (parts_0 (x1, x2))) hb hx)
      have HRY := kp (show ∀ W, Ext wr W → W.rangeAt b (off + (i + 1) * 262) (cat (partsF y1)) from fun W hx => rangeAt_ext (range_part (k := 0) hr2 (parts_0 (y1, y2))) hb hx)
      have HZX := kp (sizeFc x1)
      have HZY := kp (sizeFc y1)
      have HLX := kp (show i < tot.length ∧ i + 1 < tot.length from ⟨by omega, hjl⟩)
      clear hr1 hr2 hb
      have hon := HXY.out.1
      have HCE := kp (show checkE y1 = 0 from by unfold checkE; rw [hon.check]; rfl)
      have hup : ¬ y1.inst < x1.inst := by have := hon.up; omega
      have hle : ¬ 1 < y1.inst := by have := hon.le; omega
      have HDN := kp hon.done
      clear hon
      generalize h12 : (Code.region 12 _ _ : Code) = R12
      generalize h15 : (Code.region 15 _ _ : Code) = R15
      go_wp2_with fail
      all_goals try (exfalso; omega)
      subst h12
      refine region_freeM H (tabS [(47, fun vQ _ => vQ = .slice (some ⟨b, off, none⟩) tot.length uc), (48, fun vQ _ => vQ = .int .i64 (i + 1)), (49, fun vQ _ => vQ = .int .i64 i), (50, fun vQ _ => vQ = .int .i64 0), (51, fun vQ _ => vQ = .pointer (some ⟨b, off + i * 262, none⟩)), (52, fun vQ _ => vQ = .pointer (some ⟨b, off + i * 262, none⟩)), (53, fun vQ _ => vQ = .agg (cat (partsF x1)).toArray), (54, fun vQ _ => vQ = .slice (some ⟨b, off, none⟩) tot.length uc), (55, fun vQ _ => vQ = .int .i64 (i + 1)), (56, fun vQ _ => vQ = .int .i64 0), (57, fun vQ _ => vQ = .pointer (some ⟨b, off + (i + 1) * 262, none⟩)), (58, fun vQ _ => vQ = .pointer (some ⟨b, off + (i + 1) * 262, none⟩)), (59, fun vQ _ => vQ = .agg (cat (partsF y1)).toArray)]) 13 15 14 12 13 53 32 (cat (partsF fw0)) (cat (partsF x1)) 16 (tabS_trn _ _ _ (by simp only [List.forall_mem_cons]; exact ⟨monoN_eq _ _ _, monoN_eq _ _ _, monoN_eq _ _ _, monoN_eq _ _ _, monoN_eq _ _ _, monoN_eq _ _ _, monoN_eq _ _ _, monoN_eq _ _ _, monoN_eq _ _ _, monoN_eq _ _ _, monoN_eq _ _ _, monoN_eq _ _ _, monoN_eq _ _ _, by simp⟩)) (fun _ _ => trivial) (fun _ _ => trivial) (fun _ _ h => h) (by kernel_rfl) (by kernel_rfl) (by kernel_rfl) (by kernel_rfl) _ _ _ rfl rfl rfl (by decide) (by decide) (by decide) (by decide) (by decide) (by decide) rfl rfl rfl rfl rfl rfl (fun _ => by kernel_rfl) rfl rfl rfl (by kernel_rfl) (by kernel_rfl) (by kernel_rfl) (sizeFw _) (len_F _ _) (by simpa using cat_one (partsF x1)) (by kernel_rfl) (by kernel_rfl) ?_
      simp only [List.take_succ_cons, List.take_zero]
      refine ⟨fun _ w_ o_ S_ => ?_, fun v47 => ?_⟩
      ·clear S_
       clear o_
       go_wp2_with fail
       exact kso rfl rfl rfl
      simp only [Act.put, sbA, szA, ssA]
      refine ⟨fun _ w_ o_ S_ => ?_, fun v48 => ?_⟩
      ·clear S_
       clear o_
       go_wp2_with fail
       exact kso rfl rfl rfl
      simp only [Act.put, sbA, szA, ssA]
      refine ⟨fun _ w_ o_ S_ => ?_, fun v49 => ?_⟩
      ·obtain rfl : v48 = .int .i64 (i + 1) := hsR S_ 48 rfl
       clear S_
       have H := kp (H.out.ext o_)
       have HOX := kp o_
       clear o_
       go_wp2_with fail
       exact ⟨rfl, _, rfl, fun d hd => by cases hd; exact (congrArg (Value.int .i64) (by omega)), Ext.refl _⟩
      simp only [Act.put, sbA, szA, ssA]
      refine ⟨fun _ w_ o_ S_ => ?_, fun v50 => ?_⟩
      ·clear S_
       clear o_
       go_wp2_with fail
       exact kso rfl rfl rfl
      simp only [Act.put, sbA, szA, ssA]
      refine ⟨fun _ w_ o_ S_ => ?_, fun v51 => ?_⟩
      ·obtain rfl : v47 = .slice (some ⟨b, off, none⟩) tot.length uc := hsR S_ 47 rfl
       obtain rfl : v49 = .int .i64 i := hsR S_ 49 rfl
       clear S_ o_
       go_wp2_with fail
       exact kso rfl rfl rfl
      simp only [Act.put, sbA, szA, ssA]
      refine ⟨fun _ w_ o_ S_ => ?_, fun v52 => ?_⟩
      ·obtain rfl : v51 = .pointer (some ⟨b, off + i * 262, none⟩) := hsR S_ 51 rfl
       obtain rfl : v50 = .int .i64 0 := hsR S_ 50 rfl
       clear S_ o_
       go_wp2_with fail
       exact kso rfl rfl rfl
      simp only [Act.put, sbA, szA, ssA]
      refine ⟨fun _ w_ o_ S_ => ?_, fun v53 => ?_⟩
      ·obtain rfl : v52 = .pointer (some ⟨b, off + i * 262, none⟩) := hsR S_ 52 rfl
       clear S_
       have H := kp (H.out.ext o_)
       have HOX := kp o_
       clear o_
       go_wp2_with ((with_reducible refine isLd 32 ?_); (refine wpList_load_midG (by kernel_rfl) 32 _ rfl (b) (off + i * 262) rfl (cat (partsF x1)) _ (HRX.out _ HOX.out) Try.underlying32 rfl (HZX.out) ?_); simp only [Act.put, sbA, szA, ssA])
       exact kso rfl rfl rfl
      simp only [Act.put, sbA, szA, ssA]
      refine ⟨fun _ w_ o_ S_ => ?_, fun v54 => ?_⟩
      ·clear S_
       clear o_
       go_wp2_with fail
       exact kso rfl rfl rfl
      simp only [Act.put, sbA, szA, ssA]
      refine ⟨fun _ w_ o_ S_ => ?_, fun v55 => ?_⟩
      ·clear S_
       clear o_
       go_wp2_with fail
       exact kso rfl rfl rfl
      simp only [Act.put, sbA, szA, ssA]
      refine ⟨fun _ w_ o_ S_ => ?_, fun v56 => ?_⟩
      ·clear S_
       clear o_
       go_wp2_with fail
       exact kso rfl rfl rfl
      simp only [Act.put, sbA, szA, ssA]
      refine ⟨fun _ w_ o_ S_ => ?_, fun v57 => ?_⟩
      ·obtain rfl : v54 = .slice (some ⟨b, off, none⟩) tot.length uc := hsR S_ 54 rfl
       obtain rfl : v55 = .int .i64 (i + 1) := hsR S_ 55 rfl
       clear S_ o_
       go_wp2_with fail
       exact kso rfl rfl rfl
      simp only [Act.put, sbA, szA, ssA]
      refine ⟨fun _ w_ o_ S_ => ?_, fun v58 => ?_⟩
      ·obtain rfl : v57 = .pointer (some ⟨b, off + (i + 1) * 262, none⟩) := hsR S_ 57 rfl
       obtain rfl : v56 = .int .i64 0 := hsR S_ 56 rfl
       clear S_ o_
       go_wp2_with fail
       exact kso rfl rfl rfl
      simp only [Act.put, sbA, szA, ssA]
      refine ⟨fun _ w_ o_ S_ => ?_, fun v59 => ?_⟩
      ·obtain rfl : v58 = .pointer (some ⟨b, off + (i + 1) * 262, none⟩) := hsR S_ 58 rfl
       clear S_
       have H := kp (H.out.ext o_)
       have HOX := kp o_
       clear o_
       go_wp2_with ((with_reducible refine isLd 32 ?_); (refine wpList_load_midG (by kernel_rfl) 32 _ rfl (b) (off + (i + 1) * 262) rfl (cat (partsF y1)) _ (HRY.out _ HOX.out) Try.underlying32 rfl (HZY.out) ?_); simp only [Act.put, sbA, szA, ssA])
       exact kso rfl rfl rfl
      simp only [Act.put, sbA, szA, ssA]
      refine ⟨(fun h => by cases h), fun v12 => ?_⟩
      simp only [Act.put, sbA, szA, ssA]
      refine ⟨(fun h => absurd h (by decide)), fun v13 => ?_⟩
      simp only [Act.put, sbA, szA, ssA]
      refine ⟨(fun h => by cases h), fun _ => ?_⟩
      clear H
      intro wn HOX hfin hvar
      obtain ⟨g12, hvg, hvb, hvl, g13, hvg2, hvb2, H⟩ := hvar
      have HBg12 := kp hvb
      clear hvb hvl
      obtain rfl : v12 = .pointer (some ⟨g12, 0, none⟩) := hvg
      obtain rfl : v13 = .pointer (some ⟨g13, 0, none⟩) := hvg2
      have HBg13 := kp hvb2
      clear hvb2
      obtain rfl : v47 = .slice (some ⟨b, off, none⟩) tot.length uc := hfin 47 (by decide)
      obtain rfl : v48 = .int .i64 (i + 1) := hfin 48 (by decide)
      obtain rfl : v49 = .int .i64 i := hfin 49 (by decide)
      obtain rfl : v50 = .int .i64 0 := hfin 50 (by decide)
      obtain rfl : v51 = .pointer (some ⟨b, off + i * 262, none⟩) := hfin 51 (by decide)
      obtain rfl : v52 = .pointer (some ⟨b, off + i * 262, none⟩) := hfin 52 (by decide)
      obtain rfl : v53 = .agg (cat (partsF x1)).toArray := hfin 53 (by decide)
      obtain rfl : v54 = .slice (some ⟨b, off, none⟩) tot.length uc := hfin 54 (by decide)
      obtain rfl : v55 = .int .i64 (i + 1) := hfin 55 (by decide)
      obtain rfl : v56 = .int .i64 0 := hfin 56 (by decide)
      obtain rfl : v57 = .pointer (some ⟨b, off + (i + 1) * 262, none⟩) := hfin 57 (by decide)
      obtain rfl : v58 = .pointer (some ⟨b, off + (i + 1) * 262, none⟩) := hfin 58 (by decide)
      obtain rfl : v59 = .agg (cat (partsF y1)).toArray := hfin 59 (by decide)
      clear hfin
      simp only [List.drop_succ_cons, List.drop_zero]
      try simp only [applyS] at H
      have HXN := HOX
      go_wp2_with (first | ((with_reducible refine isSt 32 ?_); refine L_sa H rfl rfl 32 _ _ rfl 1 rfl rfl (partsF y1) rfl rfl (by kernel_rfl) ?_; clear H; intro wz HWwz H; simp only [ssA, szA] at H) | ((with_reducible refine isLd 32 ?_); refine L_fa H rfl 32 _ rfl 1 rfl rfl Try.underlying32 rfl (by kernel_rfl) ?_; simp only [Act.put, sbA, szA, ssA]) | ((with_reducible refine isLd 3 ?_); (first | (refine L_f1 H rfl 3 _ rfl 0 rfl _ rfl _ rfl _ rfl Try.underlying3 rfl ?_) | (refine L_f1 H rfl 3 _ rfl 1 rfl _ rfl _ rfl _ rfl Try.underlying3 rfl ?_)); simp only [Act.put, sbA, szA, ssA]) | (go_at_call 17; refine (CK.out _ _).mono ?_; rintro e wa ⟨rfl, hx⟩; rw [HCE.out]; have HX1 := kp hx; have H2 := kp (H.out.ext hx); have HXC := kp hx; clear H hx; have H := H2; clear H2))
      all_goals try (exfalso; omega)
      have HCN := kp (((HC.out.ext HXN.out).wrote HWwz.out (Nat.le_trans HC.out.1 HBg13.out)).ext HX1.out)
      subst h15
      by_cases hi1 : x1.inst = 1
      ·obtain ⟨e1, e2, e3, e4, e5⟩ := HDN.out hi1
       obtain ⟨r2, st2, o2, pe2, ma2, mi2, ot2, re2, tr2, du2, pa2, gi2, gk2, in2⟩ := y1
       dsimp only at e1 e2 e3 e4 e5
       subst e1 e2 e3 e4
       have hie : (x1.inst == 1) = true := by simp [hi1]
       have hre : ¬ re2 < x1.replay := by omega
       clear HDN hi1
       go_wp2_with (first | ((with_reducible refine isLd 3 ?_); (first | (refine L_f1 H rfl 3 _ rfl 0 rfl _ rfl _ rfl _ rfl Try.underlying3 rfl ?_) | (refine L_f1 H rfl 3 _ rfl 1 rfl _ rfl _ rfl _ rfl Try.underlying3 rfl ?_)); simp only [Act.put, sbA, szA, ssA]) | ((with_reducible refine isLd 28 ?_); (first | (refine L_fg H rfl 28 _ rfl 0 rfl _ rfl _ rfl (partsK x1.pair) rfl Try.underlying28 rfl (by kernel_rfl) ?_) | (refine L_fg H rfl 28 _ rfl 1 rfl _ rfl _ rfl (partsK x1.pair) rfl Try.underlying28 rfl (by kernel_rfl) ?_)); simp only [Act.put, sbA, szA, ssA]) | ((with_reducible refine isLd 30 ?_); (first | (refine L_fg H rfl 30 _ rfl 0 rfl _ rfl _ rfl (partsG x1.gid x1.gkey) rfl Try.underlying30 rfl (by kernel_rfl) ?_) | (refine L_fg H rfl 30 _ rfl 1 rfl _ rfl _ rfl (partsG x1.gid x1.gkey) rfl Try.underlying30 rfl (by kernel_rfl) ?_)); simp only [Act.put, sbA, szA, ssA]) | ((with_reducible refine isLd 26 ?_); (first | (refine L_fv H rfl 26 _ rfl 0 rfl _ rfl _ rfl rfl Try.underlying26 rfl (by kernel_rfl) ?_) | (refine L_fv H rfl 26 _ rfl 1 rfl _ rfl _ rfl rfl Try.underlying26 rfl (by kernel_rfl) ?_)); simp only [Act.put, sbA, szA, ssA]) | (((with_reducible show wpList _ _ _ (Oper.mk _ (Op.binOp _ 26 _ _ _) _ _ _ _ :: _) _ _); (refine wpList_ne2 rfl 26 _ _ _ rfl _ _ _ rfl rfl Try.eqGuardType26 (eqV_in _ Try.underlying26 _ _ 9998) ?_); simp only [Act.put, sbA, szA, ssA]); simp only [decide_true]) | (((with_reducible show wpList _ _ _ (Oper.mk _ (Op.binOp _ 28 _ _ _) _ _ _ _ :: _) _ _); (refine wpList_ne2 rfl 28 _ _ _ rfl _ _ _ rfl rfl Try.eqGuardType28 (eqK_in _ _ _ 9997) ?_); simp only [Act.put, sbA, szA, ssA]); simp only [decide_true]) | (((with_reducible show wpList _ _ _ (Oper.mk _ (Op.binOp _ 30 _ _ _) _ _ _ _ :: _) _ _); (refine wpList_ne2 rfl 30 _ _ _ rfl _ _ _ rfl rfl Try.eqGuardType30 (eqG_in _ _ _ _ _ 9997) ?_); simp only [Act.put, sbA, szA, ssA]); simp only [decide_true, beq_self_eq_true, Bool.and_self]))
       all_goals try (exfalso; omega)
       exact LoopP.of rfl (by kernel_rfl) ⟨0 + 1, by omega, rfl, HCN, kp (Loc.none H.out)⟩ (by simp [intOf])
      ·have hie : (x1.inst == 1) = false := by simp [hi1]
       go_wp2_with ((with_reducible refine isLd 3 ?_); (refine L_f1 H rfl 3 _ rfl 0 rfl _ rfl _ rfl _ rfl Try.underlying3 rfl ?_); simp only [Act.put, sbA, szA, ssA])
       all_goals try (exfalso; omega)
       exact LoopP.of rfl (by kernel_rfl) ⟨0 + 1, by omega, rfl, HCN, kp (Loc.none H.out)⟩ (by simp [intOf])
     ·rw [show ((1 : Nat) : Int) = 1 from rfl]
      have HRX := kp (show ∀ W, Ext wr W → W.rangeAt b (off + i * 262+ 131) (cat (partsF x2)) from fun W hx => rangeAt_ext (range_part (k := 131) hr1 (parts_1 (x1, x2))) hb hx)
      have HRY := kp (show ∀ W, Ext wr W → W.rangeAt b (off + (i + 1) * 262+ 131) (cat (partsF y2)) from fun W hx => rangeAt_ext (range_part (k := 131) hr2 (parts_1 (y1, y2))) hb hx)
      have HZX := kp (sizeFc x2)
      have HZY := kp (sizeFc y2)
      have HLX := kp (show i < tot.length ∧ i + 1 < tot.length from ⟨by omega, hjl⟩)
      clear hr1 hr2 hb
      have hon := HXY.out.2
      have HCE := kp (show checkE y2 = 0 from by unfold checkE; rw [hon.check]; rfl)
      have hup : ¬ y2.inst < x2.inst := by have := hon.up; omega
      have hle : ¬ 1 < y2.inst := by have := hon.le; omega
      have HDN := kp hon.done
      clear hon
      generalize h12 : (Code.region 12 _ _ : Code) = R12
      generalize h15 : (Code.region 15 _ _ : Code) = R15
      go_wp2_with fail
      all_goals try (exfalso; omega)
      subst h12
      refine region_freeM H (tabS [(47, fun vQ _ => vQ = .slice (some ⟨b, off, none⟩) tot.length uc), (48, fun vQ _ => vQ = .int .i64 (i + 1)), (49, fun vQ _ => vQ = .int .i64 i), (50, fun vQ _ => vQ = .int .i64 1), (51, fun vQ _ => vQ = .pointer (some ⟨b, off + i * 262, none⟩)), (52, fun vQ _ => vQ = .pointer (some ⟨b, off + i * 262+ 131, none⟩)), (53, fun vQ _ => vQ = .agg (cat (partsF x2)).toArray), (54, fun vQ _ => vQ = .slice (some ⟨b, off, none⟩) tot.length uc), (55, fun vQ _ => vQ = .int .i64 (i + 1)), (56, fun vQ _ => vQ = .int .i64 1), (57, fun vQ _ => vQ = .pointer (some ⟨b, off + (i + 1) * 262, none⟩)), (58, fun vQ _ => vQ = .pointer (some ⟨b, off + (i + 1) * 262+ 131, none⟩)), (59, fun vQ _ => vQ = .agg (cat (partsF y2)).toArray)]) 13 15 14 12 13 53 32 (cat (partsF fw0)) (cat (partsF x2)) 16 (tabS_trn _ _ _ (by simp only [List.forall_mem_cons]; exact ⟨monoN_eq _ _ _, monoN_eq _ _ _, monoN_eq _ _ _, monoN_eq _ _ _, monoN_eq _ _ _, monoN_eq _ _ _, monoN_eq _ _ _, monoN_eq _ _ _, monoN_eq _ _ _, monoN_eq _ _ _, monoN_eq _ _ _, monoN_eq _ _ _, monoN_eq _ _ _, by simp⟩)) (fun _ _ => trivial) (fun _ _ => trivial) (fun _ _ h => h) (by kernel_rfl) (by kernel_rfl) (by kernel_rfl) (by kernel_rfl) _ _ _ rfl rfl rfl (by decide) (by decide) (by decide) (by decide) (by decide) (by decide) rfl rfl rfl rfl rfl rfl (fun _ => by kernel_rfl) rfl rfl rfl (by kernel_rfl) (by kernel_rfl) (by kernel_rfl) (sizeFw _) (len_F _ _) (by simpa using cat_one (partsF x2)) (by kernel_rfl) (by kernel_rfl) ?_
      simp only [List.take_succ_cons, List.take_zero]
      refine ⟨fun _ w_ o_ S_ => ?_, fun v47 => ?_⟩
      ·clear S_
       clear o_
       go_wp2_with fail
       exact kso rfl rfl rfl
      simp only [Act.put, sbA, szA, ssA]
      refine ⟨fun _ w_ o_ S_ => ?_, fun v48 => ?_⟩
      ·clear S_
       clear o_
       go_wp2_with fail
       exact kso rfl rfl rfl
      simp only [Act.put, sbA, szA, ssA]
      refine ⟨fun _ w_ o_ S_ => ?_, fun v49 => ?_⟩
      ·obtain rfl : v48 = .int .i64 (i + 1) := hsR S_ 48 rfl
       clear S_
       have H := kp (H.out.ext o_)
       have HOX := kp o_
       clear o_
       go_wp2_with fail
       exact ⟨rfl, _, rfl, fun d hd => by cases hd; exact (congrArg (Value.int .i64) (by omega)), Ext.refl _⟩
      simp only [Act.put, sbA, szA, ssA]
      refine ⟨fun _ w_ o_ S_ => ?_, fun v50 => ?_⟩
      ·clear S_
       clear o_
       go_wp2_with fail
       exact kso rfl rfl rfl
      simp only [Act.put, sbA, szA, ssA]
      refine ⟨fun _ w_ o_ S_ => ?_, fun v51 => ?_⟩
      ·obtain rfl : v47 = .slice (some ⟨b, off, none⟩) tot.length uc := hsR S_ 47 rfl
       obtain rfl : v49 = .int .i64 i := hsR S_ 49 rfl
       clear S_ o_
       go_wp2_with fail
       exact kso rfl rfl rfl
      simp only [Act.put, sbA, szA, ssA]
      refine ⟨fun _ w_ o_ S_ => ?_, fun v52 => ?_⟩
      ·obtain rfl : v51 = .pointer (some ⟨b, off + i * 262, none⟩) := hsR S_ 51 rfl
       obtain rfl : v50 = .int .i64 1 := hsR S_ 50 rfl
       clear S_ o_
       go_wp2_with fail
       exact kso rfl rfl rfl
      simp only [Act.put, sbA, szA, ssA]
      refine ⟨fun _ w_ o_ S_ => ?_, fun v53 => ?_⟩
      ·obtain rfl : v52 = .pointer (some ⟨b, off + i * 262+ 131, none⟩) := hsR S_ 52 rfl
       clear S_
       have H := kp (H.out.ext o_)
       have HOX := kp o_
       clear o_
       go_wp2_with ((with_reducible refine isLd 32 ?_); (refine wpList_load_midG (by kernel_rfl) 32 _ rfl (b) (off + i * 262+ 131) rfl (cat (partsF x2)) _ (HRX.out _ HOX.out) Try.underlying32 rfl (HZX.out) ?_); simp only [Act.put, sbA, szA, ssA])
       exact kso rfl rfl rfl
      simp only [Act.put, sbA, szA, ssA]
      refine ⟨fun _ w_ o_ S_ => ?_, fun v54 => ?_⟩
      ·clear S_
       clear o_
       go_wp2_with fail
       exact kso rfl rfl rfl
      simp only [Act.put, sbA, szA, ssA]
      refine ⟨fun _ w_ o_ S_ => ?_, fun v55 => ?_⟩
      ·clear S_
       clear o_
       go_wp2_with fail
       exact kso rfl rfl rfl
      simp only [Act.put, sbA, szA, ssA]
      refine ⟨fun _ w_ o_ S_ => ?_, fun v56 => ?_⟩
      ·clear S_
       clear o_
       go_wp2_with fail
       exact kso rfl rfl rfl
      simp only [Act.put, sbA, szA, ssA]
      refine ⟨fun _ w_ o_ S_ => ?_, fun v57 => ?_⟩
      ·obtain rfl : v54 = .slice (some ⟨b, off, none⟩) tot.length uc := hsR S_ 54 rfl
       obtain rfl : v55 = .int .i64 (i + 1) := hsR S_ 55 rfl
       clear S_ o_
       go_wp2_with fail
       exact kso rfl rfl rfl
      simp only [Act.put, sbA, szA, ssA]
      refine ⟨fun _ w_ o_ S_ => ?_, fun v58 => ?_⟩
      ·obtain rfl : v57 = .pointer (some ⟨b, off + (i + 1) * 262, none⟩) := hsR S_ 57 rfl
       obtain rfl : v56 = .int .i64 1 := hsR S_ 56 rfl
       clear S_ o_
       go_wp2_with fail
       exact kso rfl rfl rfl
      simp only [Act.put, sbA, szA, ssA]
      refine ⟨fun _ w_ o_ S_ => ?_, fun v59 => ?_⟩
      ·obtain rfl : v58 = .pointer (some ⟨b, off + (i + 1) * 262+ 131, none⟩) := hsR S_ 58 rfl
       clear S_
       have H := kp (H.out.ext o_)
       have HOX := kp o_
       clear o_
       go_wp2_with ((with_reducible refine isLd 32 ?_); (refine wpList_load_midG (by kernel_rfl) 32 _ rfl (b) (off + (i + 1) * 262+ 131) rfl (cat (partsF y2)) _ (HRY.out _ HOX.out) Try.underlying32 rfl (HZY.out) ?_); simp only [Act.put, sbA, szA, ssA])
       exact kso rfl rfl rfl
      simp only [Act.put, sbA, szA, ssA]
      refine ⟨(fun h => by cases h), fun v12 => ?_⟩
      simp only [Act.put, sbA, szA, ssA]
      refine ⟨(fun h => absurd h (by decide)), fun v13 => ?_⟩
      simp only [Act.put, sbA, szA, ssA]
      refine ⟨(fun h => by cases h), fun _ => ?_⟩
      clear H
      intro wn HOX hfin hvar
      obtain ⟨g12, hvg, hvb, hvl, g13, hvg2, hvb2, H⟩ := hvar
      have HBg12 := kp hvb
      clear hvb hvl
      obtain rfl : v12 = .pointer (some ⟨g12, 0, none⟩) := hvg
      obtain rfl : v13 = .pointer (some ⟨g13, 0, none⟩) := hvg2
      have HBg13 := kp hvb2
      clear hvb2
      obtain rfl : v47 = .slice (some ⟨b, off, none⟩) tot.length uc := hfin 47 (by decide)
      obtain rfl : v48 = .int .i64 (i + 1) := hfin 48 (by decide)
      obtain rfl : v49 = .int .i64 i := hfin 49 (by decide)
      obtain rfl : v50 = .int .i64 1 := hfin 50 (by decide)
      obtain rfl : v51 = .pointer (some ⟨b, off + i * 262, none⟩) := hfin 51 (by decide)
      obtain rfl : v52 = .pointer (some ⟨b, off + i * 262+ 131, none⟩) := hfin 52 (by decide)
      obtain rfl : v53 = .agg (cat (partsF x2)).toArray := hfin 53 (by decide)
      obtain rfl : v54 = .slice (some ⟨b, off, none⟩) tot.length uc := hfin 54 (by decide)
      obtain rfl : v55 = .int .i64 (i + 1) := hfin 55 (by decide)
      obtain rfl : v56 = .int .i64 1 := hfin 56 (by decide)
      obtain rfl : v57 = .pointer (some ⟨b, off + (i + 1) * 262, none⟩) := hfin 57 (by decide)
      obtain rfl : v58 = .pointer (some ⟨b, off + (i + 1) * 262+ 131, none⟩) := hfin 58 (by decide)
      obtain rfl : v59 = .agg (cat (partsF y2)).toArray := hfin 59 (by decide)
      clear hfin
      simp only [List.drop_succ_cons, List.drop_zero]
      try simp only [applyS] at H
      have HXN := HOX
      go_wp2_with (first | ((with_reducible refine isSt 32 ?_); refine L_sa H rfl rfl 32 _ _ rfl 1 rfl rfl (partsF y2) rfl rfl (by kernel_rfl) ?_; clear H; intro wz HWwz H; simp only [ssA, szA] at H) | ((with_reducible refine isLd 32 ?_); refine L_fa H rfl 32 _ rfl 1 rfl rfl Try.underlying32 rfl (by kernel_rfl) ?_; simp only [Act.put, sbA, szA, ssA]) | ((with_reducible refine isLd 3 ?_); (first | (refine L_f1 H rfl 3 _ rfl 0 rfl _ rfl _ rfl _ rfl Try.underlying3 rfl ?_) | (refine L_f1 H rfl 3 _ rfl 1 rfl _ rfl _ rfl _ rfl Try.underlying3 rfl ?_)); simp only [Act.put, sbA, szA, ssA]) | (go_at_call 17; refine (CK.out _ _).mono ?_; rintro e wa ⟨rfl, hx⟩; rw [HCE.out]; have HX1 := kp hx; have H2 := kp (H.out.ext hx); have HXC := kp hx; clear H hx; have H := H2; clear H2))
      all_goals try (exfalso; omega)
      have HCN := kp (((HC.out.ext HXN.out).wrote HWwz.out (Nat.le_trans HC.out.1 HBg13.out)).ext HX1.out)
      subst h15
      by_cases hi1 : x2.inst = 1
      ·obtain ⟨e1, e2, e3, e4, e5⟩ := HDN.out hi1
       obtain ⟨r2, st2, o2, pe2, ma2, mi2, ot2, re2, tr2, du2, pa2, gi2, gk2, in2⟩ := y2
       dsimp only at e1 e2 e3 e4 e5
       subst e1 e2 e3 e4
       have hie : (x2.inst == 1) = true := by simp [hi1]
       have hre : ¬ re2 < x2.replay := by omega
       clear HDN hi1
       go_wp2_with (first | ((with_reducible refine isLd 3 ?_); (first | (refine L_f1 H rfl 3 _ rfl 0 rfl _ rfl _ rfl _ rfl Try.underlying3 rfl ?_) | (refine L_f1 H rfl 3 _ rfl 1 rfl _ rfl _ rfl _ rfl Try.underlying3 rfl ?_)); simp only [Act.put, sbA, szA, ssA]) | ((with_reducible refine isLd 28 ?_); (first | (refine L_fg H rfl 28 _ rfl 0 rfl _ rfl _ rfl (partsK x2.pair) rfl Try.underlying28 rfl (by kernel_rfl) ?_) | (refine L_fg H rfl 28 _ rfl 1 rfl _ rfl _ rfl (partsK x2.pair) rfl Try.underlying28 rfl (by kernel_rfl) ?_)); simp only [Act.put, sbA, szA, ssA]) | ((with_reducible refine isLd 30 ?_); (first | (refine L_fg H rfl 30 _ rfl 0 rfl _ rfl _ rfl (partsG x2.gid x2.gkey) rfl Try.underlying30 rfl (by kernel_rfl) ?_) | (refine L_fg H rfl 30 _ rfl 1 rfl _ rfl _ rfl (partsG x2.gid x2.gkey) rfl Try.underlying30 rfl (by kernel_rfl) ?_)); simp only [Act.put, sbA, szA, ssA]) | ((with_reducible refine isLd 26 ?_); (first | (refine L_fv H rfl 26 _ rfl 0 rfl _ rfl _ rfl rfl Try.underlying26 rfl (by kernel_rfl) ?_) | (refine L_fv H rfl 26 _ rfl 1 rfl _ rfl _ rfl rfl Try.underlying26 rfl (by kernel_rfl) ?_)); simp only [Act.put, sbA, szA, ssA]) | (((with_reducible show wpList _ _ _ (Oper.mk _ (Op.binOp _ 26 _ _ _) _ _ _ _ :: _) _ _); (refine wpList_ne2 rfl 26 _ _ _ rfl _ _ _ rfl rfl Try.eqGuardType26 (eqV_in _ Try.underlying26 _ _ 9998) ?_); simp only [Act.put, sbA, szA, ssA]); simp only [decide_true]) | (((with_reducible show wpList _ _ _ (Oper.mk _ (Op.binOp _ 28 _ _ _) _ _ _ _ :: _) _ _); (refine wpList_ne2 rfl 28 _ _ _ rfl _ _ _ rfl rfl Try.eqGuardType28 (eqK_in _ _ _ 9997) ?_); simp only [Act.put, sbA, szA, ssA]); simp only [decide_true]) | (((with_reducible show wpList _ _ _ (Oper.mk _ (Op.binOp _ 30 _ _ _) _ _ _ _ :: _) _ _); (refine wpList_ne2 rfl 30 _ _ _ rfl _ _ _ rfl rfl Try.eqGuardType30 (eqG_in _ _ _ _ _ 9997) ?_); simp only [Act.put, sbA, szA, ssA]); simp only [decide_true, beq_self_eq_true, Bool.and_self]))
       all_goals try (exfalso; omega)
       exact LoopP.of rfl (by kernel_rfl) ⟨1 + 1, by omega, rfl, HCN, kp (Loc.none H.out)⟩ (by simp [intOf])
      ·have hie : (x2.inst == 1) = false := by simp [hi1]
       go_wp2_with ((with_reducible refine isLd 3 ?_); (refine L_f1 H rfl 3 _ rfl 0 rfl _ rfl _ rfl _ rfl Try.underlying3 rfl ?_); simp only [Act.put, sbA, szA, ssA])
       all_goals try (exfalso; omega)
       exact LoopP.of rfl (by kernel_rfl) ⟨1 + 1, by omega, rfl, HCN, kp (Loc.none H.out)⟩ (by simp [intOf])
     ·go_wp2_with fail
      exact CutP.of rfl (by kernel_rfl) ⟨HC, H⟩
    clear HC H
    rintro vs wr ⟨HC, H⟩
    simp only [putMany, List.setIfInBounds_toArray, List.set_cons_zero, List.set_cons_succ]
    go_wp2_with fail
    exact LoopP.of rfl (by kernel_rfl) ⟨i + 1, by omega, by show Value.int .i64 _ = Value.int .i64 _; exact congrArg _ (by omega), HC, H⟩ (by simp [intOf]; omega)
   ·obtain hie : i + 1 = tot.length := by omega
    go_wp2_with fail
    all_goals try (exfalso; omega)
    go_ret
    exact ⟨rfl, H.out.1⟩
end Go.Proofs.Ytibncchobkaaiaa
