/- Texts of this proof, put together: Han3. -/
import Derived.Test.YtibncchobkaaiaaF32
import Derived.Test.YtibncchobkaaiaaF1
namespace Go.Proofs.Ytibncchobkaaiaa
open Go.RowKit
set_option maxRecDepth 4000 in
set_option maxHeartbeats 3200000 in
theorem third_any (s : Fw) (b : By) (ad : Option Addr) (n c : Nat) (rb ro rn rc : Nat) (hd : (dataP b).length = 25) (now : Int) (w : World) (hs : SlB w (.slice ad n c) (dataP b)) (hcap : CapOk (.slice ad n c)) (hr : SlB w (.slice (some ⟨rb, ro, none⟩) rn rc) b) :
  Calls Try.prog 54 #[.agg (cat (partsF s)).toArray, .agg (cat (partsM (kindP b) (countP b) (nonceP b) ad n c)).toArray, .slice (some ⟨rb, ro, none⟩) rn rc, .int .i64 now] w (HanR (thirdF s b) w) := by
 have H := kp (Loc.start w)
 have HS := kp hs
 have HR := kp hr
 have HRG := kp (fun k w hs hr => right_any b k ad n c rb ro rn rc (by omega) w hs hr)
 have HKE := kp (keys_any s (nonceP b))
 have HOP := kp (fun k w hs => mopen_any k (kindP b) (countP b) (wI_range8 _).1 (wI_range8 _).2 (nonceP b) ad n c (dataP b) hd w hs hcap)
 clear hs hr hd hcap
 have HR1 := kp (show countP b ≤ s.replay → thirdF s b = errR 21 from fun h => by have e : thirdE s b = 21 := by { unfold thirdE; rw [if_pos h] }; unfold thirdF; rw [e]; rfl)
 have HR2 := kp (show s.replay < countP b → ((s.stage = 4 ∧ nonceP b ≠ s.other) ∨ rightF b (keysF s (nonceP b)).c.1 = false) → thirdF s b = errR 33 from fun h h2 => by have e : thirdE s b = 33 := by { unfold thirdE; rw [if_neg (by omega), if_pos h2] }; unfold thirdF; rw [e]; rfl)
 have HR3 := kp (show s.replay < countP b → (s.stage = 4 → nonceP b = s.other) → rightF b (keysF s (nonceP b)).c.1 = true → openG b (keysF s (nonceP b)).w.1 = none → thirdF s b = errR 31 from fun h h2 h3 h4 => by have e : thirdE s b = 31 := by { unfold thirdE; rw [if_neg (by omega), if_neg (by rintro (⟨q1, q2⟩ | q); exact q2 (h2 q1); rw [h3] at q; cases q), if_pos h4] }; unfold thirdF; rw [e]; rfl)
 have HR4 := kp (show ∀ g, s.replay < countP b → (s.stage = 4 → nonceP b = s.other) → rightF b (keysF s (nonceP b)).c.1 = true → openG b (keysF s (nonceP b)).w.1 = some g → thirdF s b = (s.third b g, [signedF (keysF s (nonceP b)).c.1 4 (countP b) (zv 16).1 []], 0) from fun g h h2 h3 h4 => by have e : thirdE s b = 0 := by { unfold thirdE; rw [if_neg (by omega), if_neg (by rintro (⟨q1, q2⟩ | q); exact q2 (h2 q1); rw [h3] at q; cases q), if_neg (by rw [h4]; exact fun q => by cases q)] }; unfold thirdF; rw [e, h4]; rfl)
 have HT1 := kp (show ∀ g, s.stage = 4 → s.third b g = { s with replay := countP b } from fun g h => by unfold Fw.third; rw [if_pos h])
 have HT2 := kp (show ∀ g : Int × Vc 16, ¬ s.stage = 4 → s.third b g = { s with stage := 4, other := nonceP b, pair := keysF s (nonceP b), gid := g.1, gkey := g.2, inst := 1, replay := countP b } from fun g h => by unfold Fw.third; rw [if_neg h])
 have HSG := kp (fun (k : Vc 16) w => signed_any k 4 (countP b) (by decide) (by decide) (zv 16) none 0 0 [] (by decide) w (SlB.nil w))
 have HBM := kp (build_M2 4 (countP b))
 generalize thirdF s b = r at *
 generalize keysF s (nonceP b) = ks at *
 generalize hF : rightF b ks.c.1 = F at *
 have HFF := kp hF
 clear hF
 have HOP := kp (show ∀ w, SlB w (.slice ad n c) (dataP b) → Calls Try.prog 69 #[.agg (cat (partsM (kindP b) (countP b) (nonceP b) ad n c)).toArray, .agg (ks.w.1.map V8).toArray] w (OpR (openG b ks.w.1) w) from fun w hs => HOP.out ks.w w hs)
 generalize openG b ks.w.1 = og at *
 go_enter Try.func54, Try.ntmps54
 generalize h5 : ((Code.region 5 _ _ : Code).seq _) = C5
 generalize h7 : (Code.region 7 _ _ : Code) = R7
 generalize h9 : (Code.region 9 _ _ : Code) = R9
 generalize h11 : (Code.region 11 _ _ : Code) = R11
 generalize h12 : (Code.region 12 _ _ : Code) = R12
 generalize h13 : (Code.region 13 _ _ : Code) = R13
 go_wp2_with (first | ((with_reducible refine isBx 4 32 ?_); (refine L_box H rfl 32 _ rfl (cat (partsF s)) rfl ?_); clear H; intro g4 w4 HGg4 HEg4 H; simp only [pA]) | ((with_reducible refine isBx 5 78 ?_); (refine L_box H rfl 78 _ rfl (cat (partsM (kindP b) (countP b) (nonceP b) ad n c)) rfl ?_); clear H; intro g5 w5 HGg5 HEg5 H; simp only [pA]) | ((with_reducible refine isAl 8 32 ?_); (refine L_alloc H rfl 32 rfl (cat (partsF fw0)) (fun _ _ => by kernel_rfl) ?_); clear H; intro g8 w8 HGg8 HEg8 H; simp only [pA]) | ((with_reducible refine isLd 32 ?_); (refine L_fa H rfl 32 _ rfl 2 rfl rfl Try.underlying32 rfl (by kernel_rfl) ?_); simp only [pA]) | ((with_reducible refine isLd 3 ?_); (first | (refine L_f1 H rfl 3 _ rfl 1 rfl _ rfl _ rfl _ rfl Try.underlying3 rfl ?_) | (refine L_f1 H rfl 3 _ rfl 2 rfl _ rfl _ rfl _ rfl Try.underlying3 rfl ?_)); simp only [pA]) | ((with_reducible refine isLd 5 ?_); (refine L_f1 H rfl 5 _ rfl 2 rfl _ rfl _ rfl _ rfl Try.underlying5 rfl ?_); simp only [pA]) | ((with_reducible refine isLd 26 ?_); (refine L_fv H rfl 26 _ rfl 1 rfl _ rfl _ rfl rfl Try.underlying26 rfl (by kernel_rfl) ?_); simp only [pA]) | ((with_reducible refine isSt 32 ?_); refine L_sa H rfl rfl 32 _ _ rfl 0 rfl rfl (partsF s) rfl rfl (by kernel_rfl) ?_; clear H; intro wz HWwz H; simp only [szA] at H) | (go_at_call 41; refine (HKE.out _).mono ?_; rintro e wa ⟨rfl, hx⟩; replace H := kp (H.out.ext hx); have HXC := kp hx; clear hx) | ((with_reducible refine isAl 12 28 ?_); (refine L_alloc H rfl 28 rfl (cat (partsK ks0)) (fun _ _ => by kernel_rfl) ?_); clear H; intro g12 w12 HGg12 HEg12 H; simp only [pA]) | ((with_reducible refine isSt 28 ?_); (refine L_sa H rfl rfl 28 _ _ rfl 0 rfl rfl (partsK ks) rfl rfl (by kernel_rfl) ?_; clear H; intro wp HWwp H; simp only [szA] at H)))
 ·rename countP b ≤ s.replay => h
  have HK := kp (HR1.out h)
  (exact ret_f3 H Try.results54 0 rfl rfl _ _ rfl rfl Try.underlying32 rfl (by kernel_rfl) rfl (hanR_err HK.out (by decide) H.out.1))
 rename s.replay < countP b => hlt
 have HLT := kp hlt
 clear hlt
 subst h5
 cases hd : (s.stage == 4) with
 | false =>
  have HD := kp (show ¬ s.stage = 4 by simpa using hd)
  have HDD := kp hd
  clear hd
  cases F with
  | false =>
   have HK := kp (HR2.out HLT.out (.inr rfl))
   go_wp2_with (first | ((with_reducible refine isLd 78 ?_); (refine L_fa H rfl 78 _ rfl 2 rfl rfl Try.underlying78 rfl (by kernel_rfl) ?_); simp only [pA]) | ((with_reducible refine isLd 25 ?_); (refine L_fv H rfl 25 _ rfl 0 rfl _ rfl _ rfl rfl Try.underlying25 rfl (by kernel_rfl) ?_); simp only [pA]) | (go_at_call 68; refine (HRG.out _ _ (HS.out.ext H.out.1) (HR.out.ext H.out.1)).mono ?_; rintro e wa ⟨rfl, hx⟩; rw [HFF.out]; replace H := kp (H.out.ext hx); have HXC := kp hx; clear hx) | ((with_reducible refine isLd 32 ?_); (refine L_fa H rfl 32 _ rfl 3 rfl rfl Try.underlying32 rfl (by kernel_rfl) ?_); simp only [pA]) | ((with_reducible refine isSt 32 ?_); refine L_sa H rfl rfl 32 _ _ rfl 1 rfl rfl (partsF s) rfl rfl (by kernel_rfl) ?_; clear H; intro wz HWwz H; simp only [ssA, szA] at H))
   (exact ret_f3 H Try.results54 1 rfl rfl _ _ rfl rfl Try.underlying32 rfl (by kernel_rfl) rfl (hanR_err HK.out (by decide) H.out.1))
  | true =>
   go_wp2_with (first | ((with_reducible refine isLd 78 ?_); (refine L_fa H rfl 78 _ rfl 2 rfl rfl Try.underlying78 rfl (by kernel_rfl) ?_); simp only [pA]) | ((with_reducible refine isLd 25 ?_); (refine L_fv H rfl 25 _ rfl 0 rfl _ rfl _ rfl rfl Try.underlying25 rfl (by kernel_rfl) ?_); simp only [pA]) | (go_at_call 68; refine (HRG.out _ _ (HS.out.ext H.out.1) (HR.out.ext H.out.1)).mono ?_; rintro e wa ⟨rfl, hx⟩; rw [HFF.out]; replace H := kp (H.out.ext hx); have HXC := kp hx; clear hx))
   cases og with
   | none =>
    have HK := kp (HR3.out HLT.out (fun h => absurd h HD.out) (by first | rfl | trivial) rfl)
    subst h7
    go_wp2_with (first | ((with_reducible refine isLd 78 ?_); (refine L_fa H rfl 78 _ rfl 2 rfl rfl Try.underlying78 rfl (by kernel_rfl) ?_); simp only [pA]) | ((with_reducible refine isLd 25 ?_); (refine L_fv H rfl 25 _ rfl 0 rfl _ rfl _ rfl rfl Try.underlying25 rfl (by kernel_rfl) ?_); simp only [pA]) | (go_at_call 69; refine (HOP.out _ (HS.out.ext H.out.1)).mono ?_; rintro e wa ⟨rfl, hx⟩; replace H := kp (H.out.ext hx); have HXC := kp hx; clear hx) | ((with_reducible refine isAl 13 30 ?_); (refine L_alloc H rfl 30 rfl (cat (partsG 0 (zv 16))) (fun _ _ => by kernel_rfl) ?_); clear H; intro g13 w13 HGg13 HEg13 H; simp only [pA]) | ((with_reducible refine isSt 30 ?_); refine L_sa H rfl rfl 30 _ _ rfl 0 rfl rfl (partsG 0 (zv 16)) rfl rfl (by kernel_rfl) ?_; clear H; intro wq HWwq H; simp only [szA] at H))
    subst h9
    go_wp2_with (first | ((with_reducible refine isLd 32 ?_); (refine L_fa H rfl 32 _ rfl 4 rfl rfl Try.underlying32 rfl (by kernel_rfl) ?_); simp only [pA]) | ((with_reducible refine isSt 32 ?_); refine L_sa H rfl rfl 32 _ _ rfl 2 rfl rfl (partsF s) rfl rfl (by kernel_rfl) ?_; clear H; intro wz HWwz H; simp only [ssA, szA] at H))
    (exact ret_f3 H Try.results54 2 rfl rfl _ _ rfl rfl Try.underlying32 rfl (by kernel_rfl) rfl (hanR_err HK.out (by decide) H.out.1))
   | some g =>
    obtain ⟨s', hs'⟩ : ∃ t, t = s.third b g := ⟨_, rfl⟩
    have HRS := kp (show r = (s', [signedF ks.c.1 4 (countP b) (zv 16).1 []], 0) by rw [hs']; exact HR4.out g HLT.out (fun h => absurd h HD.out) (by first | rfl | trivial) rfl)
    have HS' := kp (hs'.trans (HT2.out g HD.out))
    clear hs'
    subst h7
    go_wp2_with (first | ((with_reducible refine isLd 78 ?_); (refine L_fa H rfl 78 _ rfl 2 rfl rfl Try.underlying78 rfl (by kernel_rfl) ?_); simp only [pA]) | ((with_reducible refine isLd 25 ?_); (refine L_fv H rfl 25 _ rfl 0 rfl _ rfl _ rfl rfl Try.underlying25 rfl (by kernel_rfl) ?_); simp only [pA]) | (go_at_call 69; refine (HOP.out _ (HS.out.ext H.out.1)).mono ?_; rintro e wa ⟨rfl, hx⟩; replace H := kp (H.out.ext hx); have HXC := kp hx; clear hx) | ((with_reducible refine isAl 13 30 ?_); (refine L_alloc H rfl 30 rfl (cat (partsG 0 (zv 16))) (fun _ _ => by kernel_rfl) ?_); clear H; intro g13 w13 HGg13 HEg13 H; simp only [pA]) | ((with_reducible refine isSt 30 ?_); refine L_sa H rfl rfl 30 _ _ rfl 0 rfl rfl (partsG g.1 g.2) rfl rfl (by kernel_rfl) ?_; clear H; intro wq HWwq H; simp only [szA] at H))
    subst h11
    refine region_freeC H (tabS [(57, fun vQ _ => vQ = .pointer (some ⟨g5, 2, none⟩)), (58, fun vQ _ => vQ = .agg ((nonceP b).1.map V8).toArray), (59, fun vQ _ => vQ = .agg (cat (partsK ks)).toArray), (60, fun vQ _ => vQ = .agg (cat (partsG g.1 g.2)).toArray), (61, fun vQ _ => vQ = .pointer (some ⟨g4, 1, none⟩)), (62, fun vQ _ => vQ = .pointer (some ⟨g4, 46, none⟩)), (63, fun vQ _ => vQ = .pointer (some ⟨g4, 65, none⟩))]) [⟨5, 4, g4, 32, cat (partsF s), cat (partsF { s with stage := 4 })⟩, ⟨7, 4, g4, 32, cat (partsF { s with stage := 4 }), cat (partsF { s with stage := 4, other := nonceP b })⟩, ⟨9, 4, g4, 32, cat (partsF { s with stage := 4, other := nonceP b }), cat (partsF { s with stage := 4, other := nonceP b, pair := ks })⟩] 4 g4 32 (cat (partsF s)) (tabS_out _ _ (by simp only [List.forall_mem_cons, mono_eqO, true_and]; simp)) 10 (by kernel_rfl) (by kernel_rfl) (by kernel_rfl) (by kernel_rfl) [5, 7, 9] rfl (by decide) (by decide) (by kernel_rfl) rfl ⟨⟨rfl, rfl, rfl, rfl⟩, ⟨rfl, rfl, rfl, rfl⟩, ⟨rfl, rfl, rfl, rfl⟩, trivial⟩ [] (by kernel_rfl) ?_
    simp only [List.take_succ_cons, List.take_zero]
    refine ⟨fun w_ o_ S_ hAv57 => ?_, fun v57 => ?_⟩
    ·clear S_
     clear hAv57
     clear o_
     go_wp2_with fail
     exact kso
    simp only [pA]
    refine ⟨fun w_ o_ S_ hAv58 => ?_, fun v58 => ?_⟩
    ·obtain rfl : v57 = .pointer (some ⟨g5, 2, none⟩) := hsR S_ 57 rfl
     clear S_
     clear hAv58
     have H := kp (H.out.keepC [0, 1, 2, 3] (p := 4) (g := g4) rfl o_ (by decide) (by kernel_rfl))
     have HOX := kp o_
     clear o_
     go_wp2_with ((with_reducible refine isLd 26 ?_); (refine L_fv H rfl 26 _ rfl 3 rfl _ rfl _ rfl rfl Try.underlying26 rfl (by kernel_rfl) ?_); simp only [pA])
     exact kso
    simp only [pA]
    refine ⟨fun w_ o_ S_ hAv59 => ?_, fun v59 => ?_⟩
    ·clear S_
     clear hAv59
     have H := kp (H.out.keepC [0, 1, 2, 3] (p := 4) (g := g4) rfl o_ (by decide) (by kernel_rfl))
     have HOX := kp o_
     clear o_
     go_wp2_with ((with_reducible refine isLd 28 ?_); (refine L_fa H rfl 28 _ rfl 1 rfl rfl Try.underlying28 rfl (by kernel_rfl) ?_); simp only [pA])
     exact kso
    simp only [pA]
    refine ⟨fun w_ o_ S_ hAv60 => ?_, fun v60 => ?_⟩
    ·clear S_
     clear hAv60
     have H := kp (H.out.keepC [0, 1, 2, 3] (p := 4) (g := g4) rfl o_ (by decide) (by kernel_rfl))
     have HOX := kp o_
     clear o_
     go_wp2_with ((with_reducible refine isLd 30 ?_); (refine L_fa H rfl 30 _ rfl 0 rfl rfl Try.underlying30 rfl (by kernel_rfl) ?_); simp only [pA])
     exact kso
    simp only [pA]
    refine ⟨fun w_ o_ S_ hAv61 => ?_, fun v61 => ?_⟩
    ·clear S_
     clear hAv61
     clear o_
     go_wp2_with fail
     exact kso
    simp only [pA]
    refine ⟨⟨rfl, rfl, fun ws5 hos5 hSs5 hLs5 => ?_⟩, ?_⟩
    ·obtain rfl : v61 = .pointer (some ⟨g4, 1, none⟩) := hSs5 61 (by decide) (by decide)
     exact run_stp 5 _ _ rfl _ rfl _ rfl 1 ([Lf.i .u8 4]) _ rfl (by kernel_rfl) rfl (by kernel_rfl) hLs5 rfl
    refine ⟨fun w_ o_ S_ hAv62 => ?_, fun v62 => ?_⟩
    ·clear S_
     clear hAv62
     clear o_
     go_wp2_with fail
     exact kso
    simp only [pA]
    refine ⟨⟨rfl, rfl, fun ws7 hos7 hSs7 hLs7 => ?_⟩, ?_⟩
    ·obtain rfl : v62 = .pointer (some ⟨g4, 46, none⟩) := hSs7 62 (by decide) (by decide)
     obtain rfl : v58 = .agg ((nonceP b).1.map V8).toArray := hSs7 58 (by decide) (by decide)
     exact run_stp 26 _ _ rfl _ rfl _ rfl 1 ([Lf.v (nonceP b)]) _ rfl (by kernel_rfl) rfl (by kernel_rfl) hLs7 rfl
    refine ⟨fun w_ o_ S_ hAv63 => ?_, fun v63 => ?_⟩
    ·clear S_
     clear hAv63
     clear o_
     go_wp2_with fail
     exact kso
    simp only [pA]
    refine ⟨⟨rfl, rfl, fun ws9 hos9 hSs9 hLs9 => ?_⟩, ?_⟩
    ·obtain rfl : v63 = .pointer (some ⟨g4, 65, none⟩) := hSs9 63 (by decide) (by decide)
     obtain rfl : v59 = .agg (cat (partsK ks)).toArray := hSs9 59 (by decide) (by decide)
     exact run_stp 28 _ _ rfl _ rfl _ rfl 3 (partsK ks) _ rfl (by kernel_rfl) rfl (by kernel_rfl) hLs9 rfl
    clear H
    intro wb HOX H hfin
    obtain rfl : v57 = .pointer (some ⟨g5, 2, none⟩) := hfin 57 (by decide)
    obtain rfl : v58 = .agg ((nonceP b).1.map V8).toArray := hfin 58 (by decide)
    obtain rfl : v59 = .agg (cat (partsK ks)).toArray := hfin 59 (by decide)
    obtain rfl : v60 = .agg (cat (partsG g.1 g.2)).toArray := hfin 60 (by decide)
    obtain rfl : v61 = .pointer (some ⟨g4, 1, none⟩) := hfin 61 (by decide)
    obtain rfl : v62 = .pointer (some ⟨g4, 46, none⟩) := hfin 62 (by decide)
    obtain rfl : v63 = .pointer (some ⟨g4, 65, none⟩) := hfin 63 (by decide)
    clear hfin
    simp only [List.drop_succ_cons, List.drop_zero]
    simp only [curEnd] at H
    go_wp2_with (first | ((with_reducible refine isSt 30 ?_); (refine L_sg H rfl rfl 30 _ _ rfl 4 rfl _ rfl _ rfl 2 (partsG g.1 g.2) rfl rfl (by kernel_rfl) (_) rfl ?_; clear H; intro wc HWwc H; simp only [ssA, szA] at H)) | ((with_reducible refine isSt 3 ?_); (refine L_s1 H rfl rfl 3 _ _ rfl 4 rfl _ rfl _ rfl _ rfl rfl rfl rfl (by kernel_rfl) (_) rfl ?_; clear H; intro wd HWwd H; simp only [ssA, szA] at H)))
    subst h12
    go_wp2_with (first | ((with_reducible refine isLd 3 ?_); (refine L_f1 H rfl 3 _ rfl 3 rfl _ rfl _ rfl _ rfl Try.underlying3 rfl ?_); simp only [pA]) | ((with_reducible refine isSt 3 ?_); (refine L_s1 H rfl rfl 3 _ _ rfl 4 rfl _ rfl _ rfl _ rfl rfl rfl rfl (by kernel_rfl) (_) rfl ?_; clear H; intro we HWwe H; simp only [ssA, szA] at H)))
    have H2 := kp (show Loc w we [(g13, 30, cat (partsG g.1 g.2)), (g12, 28, cat (partsK ks)), (g8, 32, cat (partsF fw0)), (g5, 78, cat (partsM (kindP b) (countP b) (nonceP b) ad n c)), (g4, 32, cat (partsF s'))] from by rw [HS'.out]; exact H.out)
    clear H
    have H := H2
    clear H2
    have HLT8 := kp (H.out.lt 2 rfl)
    have HSZ := kp H.out.1.size
    subst h13
    refine region_free H (tabS [(69, fun vQ _ => vQ = .agg (cat (partsF s')).toArray), (70, fun vQ _ => vQ = .pointer (some ⟨g5, 1, none⟩)), (71, fun vQ _ => vQ = .int .i64 (countP b)), (72, fun vQ _ => vQ = .agg (cat (partsM 4 (countP b) (zv 16) none 0 0)).toArray), (73, fun vQ _ => vQ = .pointer (some ⟨g12, 0, none⟩)), (74, fun vQ _ => vQ = .agg (ks.c.1.map V8).toArray), (75, fun vQ wQ => OwnB we.heap.size (signedF ks.c.1 4 (countP b) (zv 16).1 []) vQ wQ), (76, fun vQ wQ => SlBB we.heap.size wQ vQ [signedF ks.c.1 4 (countP b) (zv 16).1 []]), (9, fun vQ wQ => SlBB we.heap.size wQ vQ [signedF ks.c.1 4 (countP b) (zv 16).1 []]), (10, fun vQ _ => vQ = .int .i64 0)]) [⟨8, 2, g8, 32, cat (partsF fw0), cat (partsF s')⟩] (tabS_out _ _ (by simp only [List.forall_mem_cons, mono_eqO, true_and]; exact ⟨(mono_OwnB _ HLT8), (mono_SlBB _ (lt1 HLT8.out)), (mono_SlBB _ (lt1 HLT8.out)), by simp⟩)) 11 (by kernel_rfl) (by kernel_rfl) (by kernel_rfl) (by kernel_rfl) [8] [2] rfl rfl (by decide) (by decide) (by decide) ⟨rfl, trivial⟩ ?_
    simp only [List.take_succ_cons, List.take_zero]
    refine ⟨fun w_ o_ S_ => ?_, fun v69 => ?_⟩
    ·clear S_
     have H := kp (H.out.keep [0, 1, 3, 4] (St := [⟨8, 2, g8, 32, cat (partsF fw0), cat (partsF s')⟩]) ⟨rfl, trivial⟩ o_ (by decide) (by kernel_rfl))
     have HOX := kp o_
     clear o_
     go_wp2_with ((with_reducible refine isLd 32 ?_); (refine L_fa H rfl 32 _ rfl 3 rfl rfl Try.underlying32 rfl (by kernel_rfl) ?_); simp only [pA])
     exact kso
    simp only [pA]
    refine ⟨fun w_ o_ S_ => ?_, fun v70 => ?_⟩
    ·clear S_
     clear o_
     go_wp2_with fail
     exact kso
    simp only [pA]
    refine ⟨fun w_ o_ S_ => ?_, fun v71 => ?_⟩
    ·obtain rfl : v70 = .pointer (some ⟨g5, 1, none⟩) := hsR S_ 70 rfl
     clear S_
     have H := kp (H.out.keep [0, 1, 3, 4] (St := [⟨8, 2, g8, 32, cat (partsF fw0), cat (partsF s')⟩]) ⟨rfl, trivial⟩ o_ (by decide) (by kernel_rfl))
     have HOX := kp o_
     clear o_
     go_wp2_with ((with_reducible refine isLd 3 ?_); (refine L_f1 H rfl 3 _ rfl 2 rfl _ rfl _ rfl _ rfl Try.underlying3 rfl ?_); simp only [pA])
     exact kso
    simp only [pA]
    refine ⟨fun w_ o_ S_ => ?_, fun v72 => ?_⟩
    ·obtain rfl : v71 = .int .i64 (countP b) := hsR S_ 71 rfl
     clear S_
     have H := kp (H.out.keep [0, 1, 3, 4] (St := [⟨8, 2, g8, 32, cat (partsF fw0), cat (partsF s')⟩]) ⟨rfl, trivial⟩ o_ (by decide) (by kernel_rfl))
     have HOX := kp o_
     clear o_
     go_wp2_with ((with_reducible show wpList _ _ _ (Oper.mk (some 72) (Op.build _ _) _ _ _ _ :: _) _ _); (refine L_bd rfl 78 _ rfl #[(0, .int .u8 4), (1, .int .i64 (countP b))] (by kernel_rfl) (cat (partsM 4 (countP b) (zv 16) none 0 0)) HBM.out ?_); simp only [pA])
     exact kso
    simp only [pA]
    refine ⟨fun w_ o_ S_ => ?_, fun v73 => ?_⟩
    ·clear S_
     clear o_
     go_wp2_with fail
     exact kso
    simp only [pA]
    refine ⟨fun w_ o_ S_ => ?_, fun v74 => ?_⟩
    ·obtain rfl : v73 = .pointer (some ⟨g12, 0, none⟩) := hsR S_ 73 rfl
     clear S_
     have H := kp (H.out.keep [0, 1, 3, 4] (St := [⟨8, 2, g8, 32, cat (partsF fw0), cat (partsF s')⟩]) ⟨rfl, trivial⟩ o_ (by decide) (by kernel_rfl))
     have HOX := kp o_
     clear o_
     go_wp2_with ((with_reducible refine isLd 25 ?_); (refine L_fv H rfl 25 _ rfl 1 rfl _ rfl _ rfl rfl Try.underlying25 rfl (by kernel_rfl) ?_); simp only [pA])
     exact kso
    simp only [pA]
    refine ⟨fun w_ o_ S_ => ?_, fun v75 => ?_⟩
    ·obtain rfl : v72 = .agg (cat (partsM 4 (countP b) (zv 16) none 0 0)).toArray := hsR S_ 72 rfl
     obtain rfl : v74 = .agg (ks.c.1.map V8).toArray := hsR S_ 74 rfl
     clear S_
     have H := kp (H.out.keep [0, 1, 3, 4] (St := [⟨8, 2, g8, 32, cat (partsF fw0), cat (partsF s')⟩]) ⟨rfl, trivial⟩ o_ (by decide) (by kernel_rfl))
     have HOX := kp o_
     clear o_
     go_wp2_with fail
     refine (HSG.out _ _).mono ?_
     rintro e w2 ⟨v, rfl, ho, hx⟩
     have HSL := kp (owns_weak ho HOX.out.size)
     have HXC := kp hx
     clear ho hx
     go_wp2_with fail
     exact ⟨rfl, _, rfl, fun d hd => by cases hd; exact HSL.out, HXC.out⟩
    simp only [pA]
    refine ⟨fun w_ o_ S_ => ?_, fun v76 => ?_⟩
    ·have h75 := kp (show OwnB we.heap.size (signedF ks.c.1 4 (countP b) (zv 16).1 []) v75 w_ from hsR S_ 75 rfl)
     clear S_
     have H := kp (H.out.keep [0, 1, 3, 4] (St := [⟨8, 2, g8, 32, cat (partsF fw0), cat (partsF s')⟩]) ⟨rfl, trivial⟩ o_ (by decide) (by kernel_rfl))
     have HOX := kp o_
     clear o_
     have HOB := h75
     obtain ⟨av, nv, cv, rfl⟩ := owns_form2 h75.out
     go_wp2_with ((with_reducible show wpList _ _ _ (Oper.mk (some 76) (Op.buildSlice 34 _ _) _ _ _ _ :: _) _ _); (refine L_bs H (by kernel_rfl) 34 1 _ rfl (#[(0, .slice av nv cv)]) (by kernel_rfl) 33 ([.slice av nv cv]) (fun _ => by kernel_rfl) ?_); clear H; intro g76 w76 HGg76 HEg76 H; simp only [pA])
     exact ⟨rfl, _, rfl, fun d hd => by cases hd; exact SlBB.one (H.out.at 0 rfl) (by have q1 := HOX.out.size; have q2 := HGg76.out; omega) (owns_ext HOB.out HEg76.out), HEg76.out⟩
    simp only [pA]
    refine ⟨⟨rfl, rfl, fun ws8 hos8 hSs8 hLs8 => ?_⟩, ?_⟩
    ·obtain rfl : v69 = .agg (cat (partsF s')).toArray := hSs8 69 (by decide) (by decide)
     exact run_sto 32 _ _ rfl rfl rfl hLs8 (sizeFw _) (len_F _ _) (by simpa using cat_one (partsF s'))
    refine ⟨fun w_ o_ S_ => ?_, fun v9 => ?_⟩
    ·have h76 := kp (show SlBB we.heap.size w_ v76 [signedF ks.c.1 4 (countP b) (zv 16).1 []] from hsR S_ 76 rfl)
     clear S_ o_
     go_wp2_with fail
     exact ⟨rfl, _, rfl, fun d hd => by cases hd; exact h76.out, Ext.refl _⟩
    simp only [pA]
    refine ⟨fun w_ o_ S_ => ?_, fun v10 => ?_⟩
    ·clear S_
     clear o_
     go_wp2_with fail
     exact kso
    simp only [pA]
    clear H
    intro wy HOX H hfin
    obtain rfl : v69 = .agg (cat (partsF s')).toArray := hfin 69 (by decide)
    obtain rfl : v70 = .pointer (some ⟨g5, 1, none⟩) := hfin 70 (by decide)
    obtain rfl : v71 = .int .i64 (countP b) := hfin 71 (by decide)
    obtain rfl : v72 = .agg (cat (partsM 4 (countP b) (zv 16) none 0 0)).toArray := hfin 72 (by decide)
    obtain rfl : v73 = .pointer (some ⟨g12, 0, none⟩) := hfin 73 (by decide)
    obtain rfl : v74 = .agg (ks.c.1.map V8).toArray := hfin 74 (by decide)
    have F75 := kp (show OwnB we.heap.size (signedF ks.c.1 4 (countP b) (zv 16).1 []) v75 wy from hfin 75 (by decide))
    have F76 := kp (show SlBB we.heap.size wy v76 [signedF ks.c.1 4 (countP b) (zv 16).1 []] from hfin 76 (by decide))
    have F9 := kp (show SlBB we.heap.size wy v9 [signedF ks.c.1 4 (countP b) (zv 16).1 []] from hfin 9 (by decide))
    obtain rfl : v10 = .int .i64 0 := hfin 10 (by decide)
    clear hfin
    simp only [List.drop_succ_cons, List.drop_zero]
    simp only [applyS] at H
    go_wp2_with fail
    (exact ret_f3 H Try.results54 2 rfl rfl _ _ rfl rfl Try.underlying32 rfl (by kernel_rfl) rfl (hanR_ok HRS.out F9.out HSZ.out H.out.1))
 | true =>
  have HD := kp (show s.stage = 4 by simpa using hd)
  have HDD := kp hd
  clear hd
  cases hq : decide (nonceP b = s.other) with
  | false =>
   have HQ := kp hq
   clear hq
   have HK := kp (HR2.out HLT.out (.inl ⟨HD.out, by simpa using HQ.out⟩))
   go_wp2_with (first | ((with_reducible refine isLd 26 ?_); (first | (refine L_fv H rfl 26 _ rfl 2 rfl _ rfl _ rfl rfl Try.underlying26 rfl (by kernel_rfl) ?_) | (refine L_fv H rfl 26 _ rfl 3 rfl _ rfl _ rfl rfl Try.underlying26 rfl (by kernel_rfl) ?_)); simp only [pA]) | (((with_reducible show wpList _ _ _ (Oper.mk _ (Op.binOp _ 26 _ _ _) _ _ _ _ :: _) _ _); (refine wpList_ne2 rfl 26 _ _ _ rfl _ _ _ rfl rfl Try.eqGuardType26 (eqV_in _ Try.underlying26 _ _ 9998) ?_); simp only [pA]); simp only [HQ.out]) | ((with_reducible refine isLd 32 ?_); (refine L_fa H rfl 32 _ rfl 3 rfl rfl Try.underlying32 rfl (by kernel_rfl) ?_); simp only [pA]) | ((with_reducible refine isSt 32 ?_); refine L_sa H rfl rfl 32 _ _ rfl 1 rfl rfl (partsF s) rfl rfl (by kernel_rfl) ?_; clear H; intro wz HWwz H; simp only [ssA, szA] at H))
   (exact ret_f3 H Try.results54 1 rfl rfl _ _ rfl rfl Try.underlying32 rfl (by kernel_rfl) rfl (hanR_err HK.out (by decide) H.out.1))
  | true =>
   have HQ := kp hq
   clear hq
   cases F with
   | false =>
    have HK := kp (HR2.out HLT.out (.inr rfl))
    go_wp2_with (first | ((with_reducible refine isLd 26 ?_); (first | (refine L_fv H rfl 26 _ rfl 2 rfl _ rfl _ rfl rfl Try.underlying26 rfl (by kernel_rfl) ?_) | (refine L_fv H rfl 26 _ rfl 3 rfl _ rfl _ rfl rfl Try.underlying26 rfl (by kernel_rfl) ?_)); simp only [pA]) | (((with_reducible show wpList _ _ _ (Oper.mk _ (Op.binOp _ 26 _ _ _) _ _ _ _ :: _) _ _); (refine wpList_ne2 rfl 26 _ _ _ rfl _ _ _ rfl rfl Try.eqGuardType26 (eqV_in _ Try.underlying26 _ _ 9998) ?_); simp only [pA]); simp only [HQ.out]) | ((with_reducible refine isLd 78 ?_); (refine L_fa H rfl 78 _ rfl 2 rfl rfl Try.underlying78 rfl (by kernel_rfl) ?_); simp only [pA]) | ((with_reducible refine isLd 25 ?_); (refine L_fv H rfl 25 _ rfl 0 rfl _ rfl _ rfl rfl Try.underlying25 rfl (by kernel_rfl) ?_); simp only [pA]) | (go_at_call 68; refine (HRG.out _ _ (HS.out.ext H.out.1) (HR.out.ext H.out.1)).mono ?_; rintro e wa ⟨rfl, hx⟩; rw [HFF.out]; replace H := kp (H.out.ext hx); have HXC := kp hx; clear hx) | ((with_reducible refine isLd 32 ?_); (refine L_fa H rfl 32 _ rfl 3 rfl rfl Try.underlying32 rfl (by kernel_rfl) ?_); simp only [pA]) | ((with_reducible refine isSt 32 ?_); refine L_sa H rfl rfl 32 _ _ rfl 1 rfl rfl (partsF s) rfl rfl (by kernel_rfl) ?_; clear H; intro wz HWwz H; simp only [ssA, szA] at H))
    (exact ret_f3 H Try.results54 1 rfl rfl _ _ rfl rfl Try.underlying32 rfl (by kernel_rfl) rfl (hanR_err HK.out (by decide) H.out.1))
   | true =>
    go_wp2_with (first | ((with_reducible refine isLd 26 ?_); (first | (refine L_fv H rfl 26 _ rfl 2 rfl _ rfl _ rfl rfl Try.underlying26 rfl (by kernel_rfl) ?_) | (refine L_fv H rfl 26 _ rfl 3 rfl _ rfl _ rfl rfl Try.underlying26 rfl (by kernel_rfl) ?_)); simp only [pA]) | (((with_reducible show wpList _ _ _ (Oper.mk _ (Op.binOp _ 26 _ _ _) _ _ _ _ :: _) _ _); (refine wpList_ne2 rfl 26 _ _ _ rfl _ _ _ rfl rfl Try.eqGuardType26 (eqV_in _ Try.underlying26 _ _ 9998) ?_); simp only [pA]); simp only [HQ.out]) | ((with_reducible refine isLd 78 ?_); (refine L_fa H rfl 78 _ rfl 2 rfl rfl Try.underlying78 rfl (by kernel_rfl) ?_); simp only [pA]) | ((with_reducible refine isLd 25 ?_); (refine L_fv H rfl 25 _ rfl 0 rfl _ rfl _ rfl rfl Try.underlying25 rfl (by kernel_rfl) ?_); simp only [pA]) | (go_at_call 68; refine (HRG.out _ _ (HS.out.ext H.out.1) (HR.out.ext H.out.1)).mono ?_; rintro e wa ⟨rfl, hx⟩; rw [HFF.out]; replace H := kp (H.out.ext hx); have HXC := kp hx; clear hx))
    cases og with
    | none =>
     have HK := kp (HR3.out HLT.out (fun _ => by simpa using HQ.out) (by first | rfl | trivial) rfl)
     subst h7
     go_wp2_with (first | ((with_reducible refine isLd 78 ?_); (refine L_fa H rfl 78 _ rfl 2 rfl rfl Try.underlying78 rfl (by kernel_rfl) ?_); simp only [pA]) | ((with_reducible refine isLd 25 ?_); (refine L_fv H rfl 25 _ rfl 0 rfl _ rfl _ rfl rfl Try.underlying25 rfl (by kernel_rfl) ?_); simp only [pA]) | (go_at_call 69; refine (HOP.out _ (HS.out.ext H.out.1)).mono ?_; rintro e wa ⟨rfl, hx⟩; replace H := kp (H.out.ext hx); have HXC := kp hx; clear hx) | ((with_reducible refine isAl 13 30 ?_); (refine L_alloc H rfl 30 rfl (cat (partsG 0 (zv 16))) (fun _ _ => by kernel_rfl) ?_); clear H; intro g13 w13 HGg13 HEg13 H; simp only [pA]) | ((with_reducible refine isSt 30 ?_); refine L_sa H rfl rfl 30 _ _ rfl 0 rfl rfl (partsG 0 (zv 16)) rfl rfl (by kernel_rfl) ?_; clear H; intro wq HWwq H; simp only [szA] at H))
     subst h9
     go_wp2_with (first | ((with_reducible refine isLd 32 ?_); (refine L_fa H rfl 32 _ rfl 4 rfl rfl Try.underlying32 rfl (by kernel_rfl) ?_); simp only [pA]) | ((with_reducible refine isSt 32 ?_); refine L_sa H rfl rfl 32 _ _ rfl 2 rfl rfl (partsF s) rfl rfl (by kernel_rfl) ?_; clear H; intro wz HWwz H; simp only [ssA, szA] at H))
     (exact ret_f3 H Try.results54 2 rfl rfl _ _ rfl rfl Try.underlying32 rfl (by kernel_rfl) rfl (hanR_err HK.out (by decide) H.out.1))
    | some g =>
     obtain ⟨s', hs'⟩ : ∃ t, t = s.third b g := ⟨_, rfl⟩
     have HRS := kp (show r = (s', [signedF ks.c.1 4 (countP b) (zv 16).1 []], 0) by rw [hs']; exact HR4.out g HLT.out (fun _ => by simpa using HQ.out) (by first | rfl | trivial) rfl)
     have HS' := kp (hs'.trans (HT1.out g HD.out))
     clear hs'
     subst h7
     go_wp2_with (first | ((with_reducible refine isLd 78 ?_); (refine L_fa H rfl 78 _ rfl 2 rfl rfl Try.underlying78 rfl (by kernel_rfl) ?_); simp only [pA]) | ((with_reducible refine isLd 25 ?_); (refine L_fv H rfl 25 _ rfl 0 rfl _ rfl _ rfl rfl Try.underlying25 rfl (by kernel_rfl) ?_); simp only [pA]) | (go_at_call 69; refine (HOP.out _ (HS.out.ext H.out.1)).mono ?_; rintro e wa ⟨rfl, hx⟩; replace H := kp (H.out.ext hx); have HXC := kp hx; clear hx) | ((with_reducible refine isAl 13 30 ?_); (refine L_alloc H rfl 30 rfl (cat (partsG 0 (zv 16))) (fun _ _ => by kernel_rfl) ?_); clear H; intro g13 w13 HGg13 HEg13 H; simp only [pA]) | ((with_reducible refine isSt 30 ?_); refine L_sa H rfl rfl 30 _ _ rfl 0 rfl rfl (partsG g.1 g.2) rfl rfl (by kernel_rfl) ?_; clear H; intro wq HWwq H; simp only [szA] at H))
     subst h12
     go_wp2_with (first | ((with_reducible refine isLd 3 ?_); (refine L_f1 H rfl 3 _ rfl 3 rfl _ rfl _ rfl _ rfl Try.underlying3 rfl ?_); simp only [pA]) | ((with_reducible refine isSt 3 ?_); (refine L_s1 H rfl rfl 3 _ _ rfl 4 rfl _ rfl _ rfl _ rfl rfl rfl rfl (by kernel_rfl) (_) rfl ?_; clear H; intro we HWwe H; simp only [ssA, szA] at H)))
     have H2 := kp (show Loc w we [(g13, 30, cat (partsG g.1 g.2)), (g12, 28, cat (partsK ks)), (g8, 32, cat (partsF fw0)), (g5, 78, cat (partsM (kindP b) (countP b) (nonceP b) ad n c)), (g4, 32, cat (partsF s'))] from by rw [HS'.out]; exact H.out)
     clear H
     have H := H2
     clear H2
     have HLT8 := kp (H.out.lt 2 rfl)
     have HSZ := kp H.out.1.size
     subst h13
     refine region_free H (tabS [(69, fun vQ _ => vQ = .agg (cat (partsF s')).toArray), (70, fun vQ _ => vQ = .pointer (some ⟨g5, 1, none⟩)), (71, fun vQ _ => vQ = .int .i64 (countP b)), (72, fun vQ _ => vQ = .agg (cat (partsM 4 (countP b) (zv 16) none 0 0)).toArray), (73, fun vQ _ => vQ = .pointer (some ⟨g12, 0, none⟩)), (74, fun vQ _ => vQ = .agg (ks.c.1.map V8).toArray), (75, fun vQ wQ => OwnB we.heap.size (signedF ks.c.1 4 (countP b) (zv 16).1 []) vQ wQ), (76, fun vQ wQ => SlBB we.heap.size wQ vQ [signedF ks.c.1 4 (countP b) (zv 16).1 []]), (9, fun vQ wQ => SlBB we.heap.size wQ vQ [signedF ks.c.1 4 (countP b) (zv 16).1 []]), (10, fun vQ _ => vQ = .int .i64 0)]) [⟨8, 2, g8, 32, cat (partsF fw0), cat (partsF s')⟩] (tabS_out _ _ (by simp only [List.forall_mem_cons, mono_eqO, true_and]; exact ⟨(mono_OwnB _ HLT8), (mono_SlBB _ (lt1 HLT8.out)), (mono_SlBB _ (lt1 HLT8.out)), by simp⟩)) 11 (by kernel_rfl) (by kernel_rfl) (by kernel_rfl) (by kernel_rfl) [8] [2] rfl rfl (by decide) (by decide) (by decide) ⟨rfl, trivial⟩ ?_
     simp only [List.take_succ_cons, List.take_zero]
     refine ⟨fun w_ o_ S_ => ?_, fun v69 => ?_⟩
     ·clear S_
      have H := kp (H.out.keep [0, 1, 3, 4] (St := [⟨8, 2, g8, 32, cat (partsF fw0), cat (partsF s')⟩]) ⟨rfl, trivial⟩ o_ (by decide) (by kernel_rfl))
      have HOX := kp o_
      clear o_
      go_wp2_with ((with_reducible refine isLd 32 ?_); (refine L_fa H rfl 32 _ rfl 3 rfl rfl Try.underlying32 rfl (by kernel_rfl) ?_); simp only [pA])
      exact kso
     simp only [pA]
     refine ⟨fun w_ o_ S_ => ?_, fun v70 => ?_⟩
     ·clear S_
      clear o_
      go_wp2_with fail
      exact kso
     simp only [pA]
     refine ⟨fun w_ o_ S_ => ?_, fun v71 => ?_⟩
     ·obtain rfl : v70 = .pointer (some ⟨g5, 1, none⟩) := hsR S_ 70 rfl
      clear S_
      have H := kp (H.out.keep [0, 1, 3, 4] (St := [⟨8, 2, g8, 32, cat (partsF fw0), cat (partsF s')⟩]) ⟨rfl, trivial⟩ o_ (by decide) (by kernel_rfl))
      have HOX := kp o_
      clear o_
      go_wp2_with ((with_reducible refine isLd 3 ?_); (refine L_f1 H rfl 3 _ rfl 2 rfl _ rfl _ rfl _ rfl Try.underlying3 rfl ?_); simp only [pA])
      exact kso
     simp only [pA]
     refine ⟨fun w_ o_ S_ => ?_, fun v72 => ?_⟩
     ·obtain rfl : v71 = .int .i64 (countP b) := hsR S_ 71 rfl
      clear S_
      have H := kp (H.out.keep [0, 1, 3, 4] (St := [⟨8, 2, g8, 32, cat (partsF fw0), cat (partsF s')⟩]) ⟨rfl, trivial⟩ o_ (by decide) (by kernel_rfl))
      have HOX := kp o_
      clear o_
      go_wp2_with ((with_reducible show wpList _ _ _ (Oper.mk (some 72) (Op.build _ _) _ _ _ _ :: _) _ _); (refine L_bd rfl 78 _ rfl #[(0, .int .u8 4), (1, .int .i64 (countP b))] (by kernel_rfl) (cat (partsM 4 (countP b) (zv 16) none 0 0)) HBM.out ?_); simp only [pA])
      exact kso
     simp only [pA]
     refine ⟨fun w_ o_ S_ => ?_, fun v73 => ?_⟩
     ·clear S_
      clear o_
      go_wp2_with fail
      exact kso
     simp only [pA]
     refine ⟨fun w_ o_ S_ => ?_, fun v74 => ?_⟩
     ·obtain rfl : v73 = .pointer (some ⟨g12, 0, none⟩) := hsR S_ 73 rfl
      clear S_
      have H := kp (H.out.keep [0, 1, 3, 4] (St := [⟨8, 2, g8, 32, cat (partsF fw0), cat (partsF s')⟩]) ⟨rfl, trivial⟩ o_ (by decide) (by kernel_rfl))
      have HOX := kp o_
      clear o_
      go_wp2_with ((with_reducible refine isLd 25 ?_); (refine L_fv H rfl 25 _ rfl 1 rfl _ rfl _ rfl rfl Try.underlying25 rfl (by kernel_rfl) ?_); simp only [pA])
      exact kso
     simp only [pA]
     refine ⟨fun w_ o_ S_ => ?_, fun v75 => ?_⟩
     ·obtain rfl : v72 = .agg (cat (partsM 4 (countP b) (zv 16) none 0 0)).toArray := hsR S_ 72 rfl
      obtain rfl : v74 = .agg (ks.c.1.map V8).toArray := hsR S_ 74 rfl
      clear S_
      have H := kp (H.out.keep [0, 1, 3, 4] (St := [⟨8, 2, g8, 32, cat (partsF fw0), cat (partsF s')⟩]) ⟨rfl, trivial⟩ o_ (by decide) (by kernel_rfl))
      have HOX := kp o_
      clear o_
      go_wp2_with fail
      refine (HSG.out _ _).mono ?_
      rintro e w2 ⟨v, rfl, ho, hx⟩
      have HSL := kp (owns_weak ho HOX.out.size)
      have HXC := kp hx
      clear ho hx
      go_wp2_with fail
      exact ⟨rfl, _, rfl, fun d hd => by cases hd; exact HSL.out, HXC.out⟩
     simp only [pA]
     refine ⟨fun w_ o_ S_ => ?_, fun v76 => ?_⟩
     ·have h75 := kp (show OwnB we.heap.size (signedF ks.c.1 4 (countP b) (zv 16).1 []) v75 w_ from hsR S_ 75 rfl)
      clear S_
      have H := kp (H.out.keep [0, 1, 3, 4] (St := [⟨8, 2, g8, 32, cat (partsF fw0), cat (partsF s')⟩]) ⟨rfl, trivial⟩ o_ (by decide) (by kernel_rfl))
      have HOX := kp o_
      clear o_
      have HOB := h75
      obtain ⟨av, nv, cv, rfl⟩ := owns_form2 h75.out
      go_wp2_with ((with_reducible show wpList _ _ _ (Oper.mk (some 76) (Op.buildSlice 34 _ _) _ _ _ _ :: _) _ _); (refine L_bs H (by kernel_rfl) 34 1 _ rfl (#[(0, .slice av nv cv)]) (by kernel_rfl) 33 ([.slice av nv cv]) (fun _ => by kernel_rfl) ?_); clear H; intro g76 w76 HGg76 HEg76 H; simp only [pA])
      exact ⟨rfl, _, rfl, fun d hd => by cases hd; exact SlBB.one (H.out.at 0 rfl) (by have q1 := HOX.out.size; have q2 := HGg76.out; omega) (owns_ext HOB.out HEg76.out), HEg76.out⟩
     simp only [pA]
     refine ⟨⟨rfl, rfl, fun ws8 hos8 hSs8 hLs8 => ?_⟩, ?_⟩
     ·obtain rfl : v69 = .agg (cat (partsF s')).toArray := hSs8 69 (by decide) (by decide)
      exact run_sto 32 _ _ rfl rfl rfl hLs8 (sizeFw _) (len_F _ _) (by simpa using cat_one (partsF s'))
     refine ⟨fun w_ o_ S_ => ?_, fun v9 => ?_⟩
     ·have h76 := kp (show SlBB we.heap.size w_ v76 [signedF ks.c.1 4 (countP b) (zv 16).1 []] from hsR S_ 76 rfl)
      clear S_ o_
      go_wp2_with fail
      exact ⟨rfl, _, rfl, fun d hd => by cases hd; exact h76.out, Ext.refl _⟩
     simp only [pA]
     refine ⟨fun w_ o_ S_ => ?_, fun v10 => ?_⟩
     ·clear S_
      clear o_
      go_wp2_with fail
      exact kso
     simp only [pA]
     clear H
     intro wy HOX H hfin
     obtain rfl : v69 = .agg (cat (partsF s')).toArray := hfin 69 (by decide)
     obtain rfl : v70 = .pointer (some ⟨g5, 1, none⟩) := hfin 70 (by decide)
     obtain rfl : v71 = .int .i64 (countP b) := hfin 71 (by decide)
     obtain rfl : v72 = .agg (cat (partsM 4 (countP b) (zv 16) none 0 0)).toArray := hfin 72 (by decide)
     obtain rfl : v73 = .pointer (some ⟨g12, 0, none⟩) := hfin 73 (by decide)
     obtain rfl : v74 = .agg (ks.c.1.map V8).toArray := hfin 74 (by decide)
     have F75 := kp (show OwnB we.heap.size (signedF ks.c.1 4 (countP b) (zv 16).1 []) v75 wy from hfin 75 (by decide))
     have F76 := kp (show SlBB we.heap.size wy v76 [signedF ks.c.1 4 (countP b) (zv 16).1 []] from hfin 76 (by decide))
     have F9 := kp (show SlBB we.heap.size wy v9 [signedF ks.c.1 4 (countP b) (zv 16).1 []] from hfin 9 (by decide))
     obtain rfl : v10 = .int .i64 0 := hfin 10 (by decide)
     clear hfin
     simp only [List.drop_succ_cons, List.drop_zero]
     simp only [applyS] at H
     go_wp2_with fail
     (exact ret_f3 H Try.results54 2 rfl rfl _ _ rfl rfl Try.underlying32 rfl (by kernel_rfl) rfl (hanR_ok HRS.out F9.out HSZ.out H.out.1))
end Go.Proofs.Ytibncchobkaaiaa
