/- Texts of this proof, put together: Han. -/
import Derived.Test.YtibncchobkaaiaaF17
import Derived.Test.YtibncchobkaaiaaF30
import Derived.Test.YtibncchobkaaiaaF31
import Derived.Test.YtibncchobkaaiaaF1
namespace Go.Proofs.Ytibncchobkaaiaa
open Go.RowKit
theorem rightF_eq (b : By) (k : By) : rightF b k = (signedF k (kindP b) (countP b) (nonceP b).1 (dataP b) == b) := rfl
theorem wI_range8 (x : BitVec 8) : 0 ≤ wI x ∧ wI x < 256 := wI_range x
set_option maxHeartbeats 1600000 in
theorem right_any (b : By) (k : Vc 16) (ad : Option Addr) (n c : Nat) (rb ro rn rc : Nat) (hd : (dataP b).length ≤ 100000) (w : World) (hs : SlB w (.slice ad n c) (dataP b)) (hr : SlB w (.slice (some ⟨rb, ro, none⟩) rn rc) b) :
  Calls Try.prog 68 #[.agg (cat (partsM (kindP b) (countP b) (nonceP b) ad n c)).toArray, .slice (some ⟨rb, ro, none⟩) rn rc, .agg (k.1.map V8).toArray] w fun e w' => e = .returned (.bool (rightF b k.1)) ∧ Ext w w' := by
 have H := kp (Loc.start w)
 have HS := kp hs
 have HR := kp hr
 have HSG := kp (fun w hs => signed_any k (kindP b) (countP b) (wI_range8 _).1 (wI_range8 _).2 (nonceP b) ad n c (dataP b) hd w hs)
 have HSL := kp (signedF_len k.1 (kindP b) (countP b) (nonceP b).1 (dataP b) (nonceP b).2)
 have HE := kp (rightF_eq b k.1)
 clear hs hr hd
 generalize rightF b k.1 = r at *
 generalize hE : signedF k.1 (kindP b) (countP b) (nonceP b).1 (dataP b) = E at *
 clear hE
 go_enter Try.func68, Try.ntmps68
 go_wp2_with (first | ((with_reducible refine isBx 3 78 ?_); (refine L_box H rfl 78 _ rfl (cat (partsM (kindP b) (countP b) (nonceP b) ad n c)) rfl ?_); clear H; intro g3 w3 HGg3 HEg3 H; simp only [pA]) | ((with_reducible refine isBx 5 25 ?_); (refine L_box H rfl 25 _ rfl (cat ([Lf.v k])) rfl ?_); clear H; intro g5 w5 HGg5 HEg5 H; simp only [pA]) | ((with_reducible refine isLd 78 ?_); (refine L_fa H rfl 78 _ rfl 1 rfl rfl Try.underlying78 rfl (by kernel_rfl) ?_); simp only [pA]) | ((with_reducible refine isLd 25 ?_); (refine L_fv H rfl 25 _ rfl 0 rfl _ rfl _ rfl rfl Try.underlying25 rfl (by kernel_rfl) ?_); simp only [pA]) | (go_at_call 47; refine (HSG.out _ (HS.out.ext H.out.1)).mono ?_; rintro e wa ⟨v, rfl, ho, hx⟩; obtain ⟨av, cv, rfl⟩ := owns_form ho; obtain ⟨vb, vo, rfl⟩ := (SlB.of_owns ho).ne (by intro e; have q1 := HSL.out; rw [e] at q1; have q2 : ([] : By).length = 0 := rfl; omega); have HO := kp ho; clear ho; replace H := kp (H.out.ext hx); have HXC := kp hx; clear hx) | (go_at_call 50; refine (equal_any _ _ _ _ _ _ _ _ _ _ _ (SlB.of_owns HO.out) (HR.out.ext H.out.1)).mono ?_; rintro e wa ⟨rfl, rfl⟩))
 go_ret
 exact ⟨congrArg (fun z => Ending.returned (.bool z)) HE.out.symm, H.out.1⟩
def HanR (r : Res) (w : World) (e : Ending) (w' : World) : Prop := ∃ t v, e = .returned (.tuple #[.agg (cat (partsF t)).toArray, v, .int .i64 r.2.2]) ∧ (r.2.2 = 0 → t = r.1 ∧ SlBB w.heap.size w' v r.2.1) ∧ Ext w w'
theorem hanR_err {r : Res} {E : Int} {s : Fw} {v : Value} {w w' : World} (h : r = errR E) (h0 : E ≠ 0) (hx : Ext w w') : HanR r w (.returned (.tuple #[.agg (cat (partsF s)).toArray, v, .int .i64 E])) w' := by
 subst h; exact ⟨_, _, rfl, fun h => absurd h h0, hx⟩
theorem hanR_ok {r : Res} {s : Fw} {l : List By} {v : Value} {w w' : World} {B : Nat} (h : r = (s, l, 0)) (hs : SlBB B w' v l) (hb : w.heap.size ≤ B) (hx : Ext w w') : HanR r w (.returned (.tuple #[.agg (cat (partsF s)).toArray, v, .int .i64 0])) w' := by
 subst h; exact ⟨_, _, rfl, fun _ => ⟨rfl, hs.weak hb⟩, hx⟩
set_option maxRecDepth 4000 in
set_option maxHeartbeats 3200000 in
theorem fourth_any (s : Fw) (b : By) (ad : Option Addr) (n c : Nat) (rb ro rn rc : Nat) (hd : (dataP b).length ≤ 100000) (now : Int) (w : World) (hs : SlB w (.slice ad n c) (dataP b)) (hr : SlB w (.slice (some ⟨rb, ro, none⟩) rn rc) b) :
  Calls Try.prog 52 #[.agg (cat (partsF s)).toArray, .agg (cat (partsM (kindP b) (countP b) (nonceP b) ad n c)).toArray, .slice (some ⟨rb, ro, none⟩) rn rc, .int .i64 now] w (HanR (fourthF s b) w) := by
 have H := kp (Loc.start w)
 have HS := kp hs
 have HR := kp hr
 have HRG := kp (fun k w hs hr => right_any b k ad n c rb ro rn rc hd w hs hr)
 clear hs hr hd
 have HR1 := kp (show countP b ≠ s.replay → fourthF s b = errR 21 from fun h => by have e : fourthE s b = 21 := by { unfold fourthE; rw [if_pos h] }; unfold fourthF; rw [e]; rfl)
 have HR2 := kp (show countP b = s.replay → rightF b s.pair.c.1 = false → fourthF s b = errR 33 from fun h h2 => by have e : fourthE s b = 33 := by { unfold fourthE; rw [if_neg (by omega), if_pos h2] }; unfold fourthF; rw [e]; rfl)
 have HR3 := kp (show countP b = s.replay → rightF b s.pair.c.1 = true → fourthF s b = ({ s with stage := 4, inst := 1, tries := 0, due := 0 }, [], 0) from fun h h2 => by have e : fourthE s b = 0 := by { unfold fourthE; rw [if_neg (by omega), if_neg (by rw [h2]; decide)] }; unfold fourthF; rw [e]; rfl)
 generalize fourthF s b = r at *
 generalize hF : rightF b s.pair.c.1 = F at *
 go_enter Try.func52, Try.ntmps52
 generalize h4 : (Code.region 4 _ _ : Code) = R4
 generalize h5 : (Code.region 5 _ _ : Code) = R5
 generalize h6 : (Code.region 6 _ _ : Code) = R6
 go_wp2_with (first | ((with_reducible refine isBx 4 32 ?_); (refine L_box H rfl 32 _ rfl (cat (partsF s)) rfl ?_); clear H; intro g4 w4 HGg4 HEg4 H; simp only [pA]) | ((with_reducible refine isBx 5 78 ?_); (refine L_box H rfl 78 _ rfl (cat (partsM (kindP b) (countP b) (nonceP b) ad n c)) rfl ?_); clear H; intro g5 w5 HGg5 HEg5 H; simp only [pA]) | ((with_reducible refine isAl 8 32 ?_); (refine L_alloc H rfl 32 rfl (cat (partsF fw0)) (fun _ _ => by kernel_rfl) ?_); clear H; intro g8 w8 HGg8 HEg8 H; simp only [pA]) | ((with_reducible refine isLd 32 ?_); (refine L_fa H rfl 32 _ rfl 2 rfl rfl Try.underlying32 rfl (by kernel_rfl) ?_); simp only [pA]) | ((with_reducible refine isLd 3 ?_); (first | (refine L_f1 H rfl 3 _ rfl 1 rfl _ rfl _ rfl _ rfl Try.underlying3 rfl ?_) | (refine L_f1 H rfl 3 _ rfl 2 rfl _ rfl _ rfl _ rfl Try.underlying3 rfl ?_)); simp only [pA]) | ((with_reducible refine isLd 78 ?_); (refine L_fa H rfl 78 _ rfl 1 rfl rfl Try.underlying78 rfl (by kernel_rfl) ?_); simp only [pA]) | ((with_reducible refine isLd 25 ?_); (refine L_fv H rfl 25 _ rfl 2 rfl _ rfl _ rfl rfl Try.underlying25 rfl (by kernel_rfl) ?_); simp only [pA]) | ((with_reducible refine isSt 32 ?_); refine L_sa H rfl rfl 32 _ _ rfl 0 rfl rfl (partsF s) rfl rfl (by kernel_rfl) ?_; clear H; intro wz HWwz H; simp only [szA] at H) | (go_at_call 68; refine (HRG.out _ _ (HS.out.ext H.out.1) (HR.out.ext H.out.1)).mono ?_; rintro e wa ⟨rfl, hx⟩; replace H := kp (H.out.ext hx); have HXC := kp hx; clear hx))
 ·rename (countP b != s.replay) = true => h
  have HK := kp (HR1.out (by simpa using h))
  (exact ret_f3 H Try.results52 0 rfl rfl _ _ rfl rfl Try.underlying32 rfl (by kernel_rfl) rfl (hanR_err HK.out (by decide) H.out.1))
 ·rename (countP b != s.replay) = false => h
  rename (!F) = true => h2
  have HK := kp (HR2.out (by simpa using h) (by simpa using h2))
  clear h h2
  subst h4
  go_wp2_with (first | ((with_reducible refine isLd 32 ?_); (refine L_fa H rfl 32 _ rfl 2 rfl rfl Try.underlying32 rfl (by kernel_rfl) ?_); simp only [pA]) | ((with_reducible refine isSt 32 ?_); refine L_sa H rfl rfl 32 _ _ rfl 0 rfl rfl (partsF s) rfl rfl (by kernel_rfl) ?_; clear H; intro wz HWwz H; simp only [szA] at H))
  (exact ret_f3 H Try.results52 0 rfl rfl _ _ rfl rfl Try.underlying32 rfl (by kernel_rfl) rfl (hanR_err HK.out (by decide) H.out.1))
 ·rename (countP b != s.replay) = false => h
  rename (!F) = false => h2
  have HK := kp (HR3.out (by simpa using h) (by simpa using h2))
  clear h h2
  obtain ⟨s', hs'⟩ : ∃ t, t = { s with stage := 4, inst := 1, tries := 0, due := 0 } := ⟨_, rfl⟩
  have HRS := kp (show r = (s', [], 0) by rw [hs']; exact HK.out)
  have HS' := kp hs'
  clear hs' HK
  subst h5
  go_wp2_with (first | ((with_reducible refine isSt 5 ?_); (refine L_s1 H rfl rfl 5 _ _ rfl 2 rfl _ rfl _ rfl _ rfl rfl rfl rfl (by kernel_rfl) (_) rfl ?_; clear H; intro wb HWwb H; simp only [ssA, szA] at H)) | ((with_reducible refine isSt 3 ?_); (refine L_s1 H rfl rfl 3 _ _ rfl 2 rfl _ rfl _ rfl _ rfl rfl rfl rfl (by kernel_rfl) (_) rfl ?_; clear H; intro wc HWwc H; simp only [ssA, szA] at H)))
  have H2 := kp (show Loc w wc [(g8, 32, cat (partsF fw0)), (g5, 78, cat (partsM (kindP b) (countP b) (nonceP b) ad n c)), (g4, 32, cat (partsF s'))] from by rw [HS'.out]; exact H.out)
  clear H
  have H := H2
  clear H2
  subst h6
  go_wp2_with (first | ((with_reducible refine isLd 32 ?_); (refine L_fa H rfl 32 _ rfl 2 rfl rfl Try.underlying32 rfl (by kernel_rfl) ?_); simp only [pA]) | ((with_reducible refine isSt 32 ?_); (refine L_sa H rfl rfl 32 _ _ rfl 0 rfl rfl (partsF s') rfl rfl (by kernel_rfl) ?_; clear H; intro wz HWwz H; simp only [szA] at H)))
  (exact ret_f3 H Try.results52 0 rfl rfl _ _ rfl rfl Try.underlying32 rfl (by kernel_rfl) rfl (hanR_ok HRS.out (SlBB.nil _ _) (Nat.le_refl _) H.out.1))
set_option maxRecDepth 4000 in
set_option maxHeartbeats 3200000 in
theorem second_any (s : Fw) (b : By) (ad : Option Addr) (n c : Nat) (rb ro rn rc : Nat) (hd : (dataP b).length ≤ 100000) (now : Int) (hn0 : 0 ≤ now) (hn1 : now ≤ 1099511627776) (hr0 : 0 ≤ s.replay) (hr1 : s.replay < 4611686018427387904) (w : World) (hs : SlB w (.slice ad n c) (dataP b)) (hr : SlB w (.slice (some ⟨rb, ro, none⟩) rn rc) b) :
  Calls Try.prog 51 #[.agg (cat (partsF s)).toArray, .agg (cat (partsM (kindP b) (countP b) (nonceP b) ad n c)).toArray, .slice (some ⟨rb, ro, none⟩) rn rc, .int .i64 now] w (HanR (secondF s b now) w) := by
 have H := kp (Loc.start w)
 have HS := kp hs
 have HR := kp hr
 have HRG := kp (fun k w hs hr => right_any b k ad n c rb ro rn rc hd w hs hr)
 have HKE := kp (keys_any s (nonceP b))
 clear hs hr hd
 have HR1 := kp (show countP b ≠ s.replay → secondF s b now = errR 21 from fun h => by have e : secondE s b = 21 := by { unfold secondE; rw [if_pos h] }; unfold secondF; rw [e]; rfl)
 have HR2 := kp (show countP b = s.replay → rightF b (keysF s (nonceP b)).c.1 = false → secondF s b now = errR 33 from fun h h2 => by have e : secondE s b = 33 := by { unfold secondE; rw [if_neg (by omega), if_pos h2] }; unfold secondF; rw [e]; rfl)
 have HR3 := kp (show countP b = s.replay → rightF b (keysF s (nonceP b)).c.1 = true → secondF s b now = ({ s with stage := 3, other := nonceP b, pair := keysF s (nonceP b), replay := s.replay + 1, tries := 1, due := now + 100000 }, [sendF { s with stage := 3, other := nonceP b, pair := keysF s (nonceP b), replay := s.replay + 1, tries := 1, due := now + 100000 }], 0) from fun h h2 => by have e : secondE s b = 0 := by { unfold secondE; rw [if_neg (by omega), if_neg (by rw [h2]; decide)] }; unfold secondF; rw [e]; rfl)
 generalize secondF s b now = r at *
 generalize keysF s (nonceP b) = ks at *
 generalize hF : rightF b ks.c.1 = F at *
 have HFF := kp hF
 clear hF
 go_enter Try.func51, Try.ntmps51
 generalize h5 : (Code.region 5 _ _ : Code) = R5
 generalize h6 : (Code.region 6 _ _ : Code) = R6
 generalize h7 : (Code.region 7 _ _ : Code) = R7
 generalize h8 : (Code.region 8 _ _ : Code) = R8
 go_wp2_with (first | ((with_reducible refine isBx 4 32 ?_); (refine L_box H rfl 32 _ rfl (cat (partsF s)) rfl ?_); clear H; intro g4 w4 HGg4 HEg4 H; simp only [pA]) | ((with_reducible refine isBx 5 78 ?_); (refine L_box H rfl 78 _ rfl (cat (partsM (kindP b) (countP b) (nonceP b) ad n c)) rfl ?_); clear H; intro g5 w5 HGg5 HEg5 H; simp only [pA]) | ((with_reducible refine isAl 8 32 ?_); (refine L_alloc H rfl 32 rfl (cat (partsF fw0)) (fun _ _ => by kernel_rfl) ?_); clear H; intro g8 w8 HGg8 HEg8 H; simp only [pA]) | ((with_reducible refine isLd 32 ?_); (refine L_fa H rfl 32 _ rfl 2 rfl rfl Try.underlying32 rfl (by kernel_rfl) ?_); simp only [pA]) | ((with_reducible refine isLd 3 ?_); (first | (refine L_f1 H rfl 3 _ rfl 1 rfl _ rfl _ rfl _ rfl Try.underlying3 rfl ?_) | (refine L_f1 H rfl 3 _ rfl 2 rfl _ rfl _ rfl _ rfl Try.underlying3 rfl ?_)); simp only [pA]) | ((with_reducible refine isLd 78 ?_); (refine L_fa H rfl 78 _ rfl 2 rfl rfl Try.underlying78 rfl (by kernel_rfl) ?_); simp only [pA]) | ((with_reducible refine isLd 25 ?_); (refine L_fv H rfl 25 _ rfl 0 rfl _ rfl _ rfl rfl Try.underlying25 rfl (by kernel_rfl) ?_); simp only [pA]) | ((with_reducible refine isLd 26 ?_); (refine L_fv H rfl 26 _ rfl 1 rfl _ rfl _ rfl rfl Try.underlying26 rfl (by kernel_rfl) ?_); simp only [pA]) | ((with_reducible refine isSt 32 ?_); refine L_sa H rfl rfl 32 _ _ rfl 0 rfl rfl (partsF s) rfl rfl (by kernel_rfl) ?_; clear H; intro wz HWwz H; simp only [szA] at H) | (go_at_call 41; refine (HKE.out _).mono ?_; rintro e wa ⟨rfl, hx⟩; replace H := kp (H.out.ext hx); have HXC := kp hx; clear hx) | ((with_reducible refine isAl 11 28 ?_); (refine L_alloc H rfl 28 rfl (cat (partsK ks0)) (fun _ _ => by kernel_rfl) ?_); clear H; intro g11 w11 HGg11 HEg11 H; simp only [pA]) | ((with_reducible refine isSt 28 ?_); (refine L_sa H rfl rfl 28 _ _ rfl 0 rfl rfl (partsK ks) rfl rfl (by kernel_rfl) ?_; clear H; intro wp HWwp H; simp only [szA] at H)) | (go_at_call 68; refine (HRG.out _ _ (HS.out.ext H.out.1) (HR.out.ext H.out.1)).mono ?_; rintro e wa ⟨rfl, hx⟩; rw [HFF.out]; replace H := kp (H.out.ext hx); have HXC := kp hx; clear hx))
 ·rename (countP b != s.replay) = true => h
  have HK := kp (HR1.out (by simpa using h))
  (exact ret_f3 H Try.results51 0 rfl rfl _ _ rfl rfl Try.underlying32 rfl (by kernel_rfl) rfl (hanR_err HK.out (by decide) H.out.1))
 ·rename (countP b != s.replay) = false => h
  rename (!F) = true => h2
  have HK := kp (HR2.out (by simpa using h) (by simpa using h2))
  clear h h2
  subst h5
  go_wp2_with (first | ((with_reducible refine isLd 32 ?_); (refine L_fa H rfl 32 _ rfl 3 rfl rfl Try.underlying32 rfl (by kernel_rfl) ?_); simp only [pA]) | ((with_reducible refine isSt 32 ?_); refine L_sa H rfl rfl 32 _ _ rfl 1 rfl rfl (partsF s) rfl rfl (by kernel_rfl) ?_; clear H; intro wz HWwz H; simp only [ssA, szA] at H))
  (exact ret_f3 H Try.results51 1 rfl rfl _ _ rfl rfl Try.underlying32 rfl (by kernel_rfl) rfl (hanR_err HK.out (by decide) H.out.1))
 ·rename (countP b != s.replay) = false => h
  rename (!F) = false => h2
  have HK := kp (HR3.out (by simpa using h) (by simpa using h2))
  clear h h2
  obtain ⟨s', hs'⟩ : ∃ t, t = { s with stage := 3, other := nonceP b, pair := ks, replay := s.replay + 1, tries := 1, due := now + 100000 } := ⟨_, rfl⟩
  have HRS := kp (show r = (s', [sendF s'], 0) by rw [hs']; exact HK.out)
  have HS' := kp hs'
  clear hs' HK
  subst h6
  refine region_freeC H (tabS [(29, fun vQ _ => vQ = .pointer (some ⟨g5, 2, none⟩)), (30, fun vQ _ => vQ = .agg ((nonceP b).1.map V8).toArray), (31, fun vQ _ => vQ = .agg (cat (partsK ks)).toArray), (32, fun vQ _ => vQ = .pointer (some ⟨g4, 1, none⟩)), (33, fun vQ _ => vQ = .pointer (some ⟨g4, 46, none⟩))]) [⟨4, 3, g4, 32, cat (partsF s), cat (partsF { s with stage := 3 })⟩, ⟨6, 3, g4, 32, cat (partsF { s with stage := 3 }), cat (partsF { s with stage := 3, other := nonceP b })⟩] 3 g4 32 (cat (partsF s)) (tabS_out _ _ (by simp only [List.forall_mem_cons, mono_eqO, true_and]; simp)) 7 (by kernel_rfl) (by kernel_rfl) (by kernel_rfl) (by kernel_rfl) [4, 6] rfl (by decide) (by decide) (by kernel_rfl) rfl ⟨⟨rfl, rfl, rfl, rfl⟩, ⟨rfl, rfl, rfl, rfl⟩, trivial⟩ [] (by kernel_rfl) ?_
  simp only [List.take_succ_cons, List.take_zero]
  refine ⟨fun w_ o_ S_ hAv29 => ?_, fun v29 => ?_⟩
  ·clear S_
   clear hAv29
   clear o_
   go_wp2_with fail
   exact kso
  simp only [pA]
  refine ⟨fun w_ o_ S_ hAv30 => ?_, fun v30 => ?_⟩
  ·obtain rfl : v29 = .pointer (some ⟨g5, 2, none⟩) := hsR S_ 29 rfl
   clear S_
   clear hAv30
   have H := kp (H.out.keepC [0, 1, 2] (p := 3) (g := g4) rfl o_ (by decide) (by kernel_rfl))
   have HOX := kp o_
   clear o_
   go_wp2_with ((with_reducible refine isLd 26 ?_); (refine L_fv H rfl 26 _ rfl 2 rfl _ rfl _ rfl rfl Try.underlying26 rfl (by kernel_rfl) ?_); simp only [pA])
   exact kso
  simp only [pA]
  refine ⟨fun w_ o_ S_ hAv31 => ?_, fun v31 => ?_⟩
  ·clear S_
   clear hAv31
   have H := kp (H.out.keepC [0, 1, 2] (p := 3) (g := g4) rfl o_ (by decide) (by kernel_rfl))
   have HOX := kp o_
   clear o_
   go_wp2_with ((with_reducible refine isLd 28 ?_); (refine L_fa H rfl 28 _ rfl 0 rfl rfl Try.underlying28 rfl (by kernel_rfl) ?_); simp only [pA])
   exact kso
  simp only [pA]
  refine ⟨fun w_ o_ S_ hAv32 => ?_, fun v32 => ?_⟩
  ·clear S_
   clear hAv32
   clear o_
   go_wp2_with fail
   exact kso
  simp only [pA]
  refine ⟨⟨rfl, rfl, fun ws4 hos4 hSs4 hLs4 => ?_⟩, ?_⟩
  ·obtain rfl : v32 = .pointer (some ⟨g4, 1, none⟩) := hSs4 32 (by decide) (by decide)
   exact run_stp 5 _ _ rfl _ rfl _ rfl 1 ([Lf.i .u8 3]) _ rfl (by kernel_rfl) rfl (by kernel_rfl) hLs4 rfl
  refine ⟨fun w_ o_ S_ hAv33 => ?_, fun v33 => ?_⟩
  ·clear S_
   clear hAv33
   clear o_
   go_wp2_with fail
   exact kso
  simp only [pA]
  refine ⟨⟨rfl, rfl, fun ws6 hos6 hSs6 hLs6 => ?_⟩, ?_⟩
  ·obtain rfl : v33 = .pointer (some ⟨g4, 46, none⟩) := hSs6 33 (by decide) (by decide)
   obtain rfl : v30 = .agg ((nonceP b).1.map V8).toArray := hSs6 30 (by decide) (by decide)
   exact run_stp 26 _ _ rfl _ rfl _ rfl 1 ([Lf.v (nonceP b)]) _ rfl (by kernel_rfl) rfl (by kernel_rfl) hLs6 rfl
  clear H
  intro wb HOX H hfin
  obtain rfl : v29 = .pointer (some ⟨g5, 2, none⟩) := hfin 29 (by decide)
  obtain rfl : v30 = .agg ((nonceP b).1.map V8).toArray := hfin 30 (by decide)
  obtain rfl : v31 = .agg (cat (partsK ks)).toArray := hfin 31 (by decide)
  obtain rfl : v32 = .pointer (some ⟨g4, 1, none⟩) := hfin 32 (by decide)
  obtain rfl : v33 = .pointer (some ⟨g4, 46, none⟩) := hfin 33 (by decide)
  clear hfin
  simp only [List.drop_succ_cons, List.drop_zero]
  simp only [curEnd] at H
  go_wp2_with ((with_reducible refine isSt 28 ?_); (refine L_sg H rfl rfl 28 _ _ rfl 3 rfl _ rfl _ rfl 3 (partsK ks) rfl rfl (by kernel_rfl) (_) rfl ?_; clear H; intro wc HWwc H; simp only [ssA, szA] at H))
  subst h7
  go_wp2_with (first | ((with_reducible refine isLd 3 ?_); (refine L_f1 H rfl 3 _ rfl 3 rfl _ rfl _ rfl _ rfl Try.underlying3 rfl ?_); simp only [pA]) | ((with_reducible refine isSt 3 ?_); (refine L_s1 H rfl rfl 3 _ _ rfl 3 rfl _ rfl _ rfl _ rfl rfl rfl rfl (by kernel_rfl) (_) rfl ?_; clear H; intro wd HWwd H; simp only [ssA, szA] at H)))
  have H2 := kp (show Loc w wd [(g11, 28, cat (partsK ks)), (g8, 32, cat (partsF fw0)), (g5, 78, cat (partsM (kindP b) (countP b) (nonceP b) ad n c)), (g4, 32, cat (partsF s'))] from by rw [HS'.out]; exact H.out)
  clear H
  have H := H2
  clear H2
  have HLT := kp (H.out.lt 1 rfl)
  have HSZ := kp H.out.1.size
  subst h8
  refine region_free H (tabS [(43, fun vQ _ => vQ = .agg (cat (partsF s')).toArray), (44, fun vQ _ => vQ = .agg (cat (partsF s')).toArray), (45, fun vQ wQ => SlBB wd.heap.size wQ vQ [sendF s']), (9, fun vQ wQ => SlBB wd.heap.size wQ vQ [sendF s']), (10, fun vQ _ => vQ = .int .i64 0)]) [⟨3, 1, g8, 32, cat (partsF fw0), cat (partsF s')⟩] (tabS_out _ _ (by simp only [List.forall_mem_cons, mono_eqO, true_and]; exact ⟨(mono_SlBB _ (lt1 HLT.out)), (mono_SlBB _ (lt1 HLT.out)), by simp⟩)) 6 (by kernel_rfl) (by kernel_rfl) (by kernel_rfl) (by kernel_rfl) [3] [1] rfl rfl (by decide) (by decide) (by decide) ⟨rfl, trivial⟩ ?_
  simp only [List.take_succ_cons, List.take_zero]
  refine ⟨fun w_ o_ S_ => ?_, fun v43 => ?_⟩
  ·clear S_
   have H := kp (H.out.keep [0, 2, 3] (St := [⟨3, 1, g8, 32, cat (partsF fw0), cat (partsF s')⟩]) ⟨rfl, trivial⟩ o_ (by decide) (by kernel_rfl))
   have HOX := kp o_
   clear o_
   go_wp2_with ((with_reducible refine isLd 32 ?_); (refine L_fa H rfl 32 _ rfl 2 rfl rfl Try.underlying32 rfl (by kernel_rfl) ?_); simp only [pA])
   exact kso
  simp only [pA]
  refine ⟨fun w_ o_ S_ => ?_, fun v44 => ?_⟩
  ·clear S_
   have H := kp (H.out.keep [0, 2, 3] (St := [⟨3, 1, g8, 32, cat (partsF fw0), cat (partsF s')⟩]) ⟨rfl, trivial⟩ o_ (by decide) (by kernel_rfl))
   have HOX := kp o_
   clear o_
   go_wp2_with ((with_reducible refine isLd 32 ?_); (refine L_fa H rfl 32 _ rfl 2 rfl rfl Try.underlying32 rfl (by kernel_rfl) ?_); simp only [pA])
   exact kso
  simp only [pA]
  refine ⟨fun w_ o_ S_ => ?_, fun v45 => ?_⟩
  ·obtain rfl : v44 = .agg (cat (partsF s')).toArray := hsR S_ 44 rfl
   clear S_
   have H := kp (H.out.keep [0, 2, 3] (St := [⟨3, 1, g8, 32, cat (partsF fw0), cat (partsF s')⟩]) ⟨rfl, trivial⟩ o_ (by decide) (by kernel_rfl))
   have HOX := kp o_
   clear o_
   go_wp2_with fail
   refine (send_any s' _).mono ?_
   rintro e w2 ⟨v, rfl, hs, hx⟩
   have HSL := kp (hs.weak HOX.out.size)
   have HXC := kp hx
   clear hs hx
   go_wp2_with fail
   exact ⟨rfl, _, rfl, fun d hd => by cases hd; exact HSL.out, HXC.out⟩
  simp only [pA]
  refine ⟨⟨rfl, rfl, fun ws3 hos3 hSs3 hLs3 => ?_⟩, ?_⟩
  ·obtain rfl : v43 = .agg (cat (partsF s')).toArray := hSs3 43 (by decide) (by decide)
   exact run_sto 32 _ _ rfl rfl rfl hLs3 (sizeFw _) (len_F _ _) (by simpa using cat_one (partsF s'))
  refine ⟨fun w_ o_ S_ => ?_, fun v9 => ?_⟩
  ·have h45 := kp (show SlBB wd.heap.size w_ v45 [sendF s'] from hsR S_ 45 rfl)
   clear S_ o_
   go_wp2_with fail
   exact ⟨rfl, _, rfl, fun d hd => by cases hd; exact h45.out, Ext.refl _⟩
  simp only [pA]
  refine ⟨fun w_ o_ S_ => ?_, fun v10 => ?_⟩
  ·clear S_
   clear o_
   go_wp2_with fail
   exact kso
  simp only [pA]
  clear H
  intro wy HOX H hfin
  obtain rfl : v43 = .agg (cat (partsF s')).toArray := hfin 43 (by decide)
  obtain rfl : v44 = .agg (cat (partsF s')).toArray := hfin 44 (by decide)
  have F45 := kp (show SlBB wd.heap.size wy v45 [sendF s'] from hfin 45 (by decide))
  have F9 := kp (show SlBB wd.heap.size wy v9 [sendF s'] from hfin 9 (by decide))
  obtain rfl : v10 = .int .i64 0 := hfin 10 (by decide)
  clear hfin
  simp only [List.drop_succ_cons, List.drop_zero]
  simp only [applyS] at H
  go_wp2_with fail
  (exact ret_f3 H Try.results51 1 rfl rfl _ _ rfl rfl Try.underlying32 rfl (by kernel_rfl) rfl (hanR_ok HRS.out F9.out HSZ.out H.out.1))
set_option maxRecDepth 4000 in
set_option maxHeartbeats 3200000 in
theorem first_any (s : Fw) (b : By) (ad : Option Addr) (n c : Nat) (rv : Value) (now : Int) (w : World) :
  Calls Try.prog 53 #[.agg (cat (partsF s)).toArray, .agg (cat (partsM (kindP b) (countP b) (nonceP b) ad n c)).toArray, rv, .int .i64 now] w (HanR (firstF s b) w) := by
 have H := kp (Loc.start w)
 have HKE := kp (keys_any s (nonceP b))
 obtain ⟨s', hs'⟩ : ∃ t, t = s.first b := ⟨_, rfl⟩
 have HS' := kp hs'
 have HRS := kp (show firstF s b = (s', [signedF s'.pair.c.1 2 (countP b) s'.mine.1 []], 0) by rw [hs']; rfl)
 have HBM := kp (build_M 2 (countP b) s.mine)
 have HSG := kp (fun w => signed_any s'.pair.c 2 (countP b) (by decide) (by decide) s'.mine none 0 0 [] (by decide) w (SlB.nil w))
 clear hs'
 generalize firstF s b = r at *
 go_enter Try.func53, Try.ntmps53
 generalize h3 : (Code.region 3 _ _ : Code) = R3
 go_wp2_with (first | ((with_reducible refine isBx 4 32 ?_); (refine L_box H rfl 32 _ rfl (cat (partsF s)) rfl ?_); clear H; intro g4 w4 HGg4 HEg4 H; simp only [pA]) | ((with_reducible refine isBx 5 78 ?_); (refine L_box H rfl 78 _ rfl (cat (partsM (kindP b) (countP b) (nonceP b) ad n c)) rfl ?_); clear H; intro g5 w5 HGg5 HEg5 H; simp only [pA]) | ((with_reducible refine isAl 8 32 ?_); (refine L_alloc H rfl 32 rfl (cat (partsF fw0)) (fun _ _ => by kernel_rfl) ?_); clear H; intro g8 w8 HGg8 HEg8 H; simp only [pA]))
 refine region_freeC H (tabS [(12, fun vQ _ => vQ = .pointer (some ⟨g5, 2, none⟩)), (13, fun vQ _ => vQ = .agg ((nonceP b).1.map V8).toArray), (14, fun vQ _ => vQ = .agg (cat (partsF s)).toArray), (15, fun vQ _ => vQ = .pointer (some ⟨g5, 2, none⟩)), (16, fun vQ _ => vQ = .agg ((nonceP b).1.map V8).toArray), (17, fun vQ _ => vQ = .agg (cat (partsK (keysF s (nonceP b)))).toArray), (18, fun vQ _ => vQ = .pointer (some ⟨g4, 1, none⟩))]) [⟨7, 2, g4, 32, cat (partsF s), cat (partsF { s with stage := 2 })⟩] 2 g4 32 (cat (partsF s)) (tabS_out _ _ (by simp only [List.forall_mem_cons, mono_eqO, true_and]; simp)) 8 (by kernel_rfl) (by kernel_rfl) (by kernel_rfl) (by kernel_rfl) [7] rfl (by decide) (by decide) (by kernel_rfl) rfl ⟨⟨rfl, rfl, rfl, rfl⟩, trivial⟩ [2] (by kernel_rfl) ?_
 simp only [List.take_succ_cons, List.take_zero]
 refine ⟨fun w_ o_ S_ hAv12 => ?_, fun v12 => ?_⟩
 ·clear S_
  clear hAv12
  clear o_
  go_wp2_with fail
  exact kso
 simp only [pA]
 refine ⟨fun w_ o_ S_ hAv13 => ?_, fun v13 => ?_⟩
 ·obtain rfl : v12 = .pointer (some ⟨g5, 2, none⟩) := hsR S_ 12 rfl
  clear S_
  clear hAv13
  have H := kp (H.out.keepC [0, 1] (p := 2) (g := g4) rfl o_ (by decide) (by kernel_rfl))
  have HOX := kp o_
  clear o_
  go_wp2_with ((with_reducible refine isLd 26 ?_); (refine L_fv H rfl 26 _ rfl 1 rfl _ rfl _ rfl rfl Try.underlying26 rfl (by kernel_rfl) ?_); simp only [pA])
  exact kso
 simp only [pA]
 refine ⟨fun w_ o_ S_ hAv14 => ?_, fun v14 => ?_⟩
 ·clear S_
  have H := kp (H.out.sameC (p := 2) (g := g4) rfl o_ (hAv14 rfl))
  clear hAv14
  have HOX := kp o_
  clear o_
  go_wp2_with ((with_reducible refine isLd 32 ?_); (refine L_fa H rfl 32 _ rfl 2 rfl rfl Try.underlying32 rfl (by kernel_rfl) ?_); simp only [pA])
  exact kso
 simp only [pA]
 refine ⟨fun w_ o_ S_ hAv15 => ?_, fun v15 => ?_⟩
 ·clear S_
  clear hAv15
  clear o_
  go_wp2_with fail
  exact kso
 simp only [pA]
 refine ⟨fun w_ o_ S_ hAv16 => ?_, fun v16 => ?_⟩
 ·obtain rfl : v15 = .pointer (some ⟨g5, 2, none⟩) := hsR S_ 15 rfl
  clear S_
  clear hAv16
  have H := kp (H.out.keepC [0, 1] (p := 2) (g := g4) rfl o_ (by decide) (by kernel_rfl))
  have HOX := kp o_
  clear o_
  go_wp2_with ((with_reducible refine isLd 26 ?_); (refine L_fv H rfl 26 _ rfl 1 rfl _ rfl _ rfl rfl Try.underlying26 rfl (by kernel_rfl) ?_); simp only [pA])
  exact kso
 simp only [pA]
 refine ⟨fun w_ o_ S_ hAv17 => ?_, fun v17 => ?_⟩
 ·obtain rfl : v14 = .agg (cat (partsF s)).toArray := hsR S_ 14 rfl
  obtain rfl : v16 = .agg ((nonceP b).1.map V8).toArray := hsR S_ 16 rfl
  clear S_
  clear hAv17
  have H := kp (H.out.keepC [0, 1] (p := 2) (g := g4) rfl o_ (by decide) (by kernel_rfl))
  have HOX := kp o_
  clear o_
  go_wp2_with fail
  refine (HKE.out _).mono ?_
  rintro e w2 ⟨rfl, hx⟩
  have HXC := kp hx
  clear hx
  go_wp2_with fail
  exact ⟨rfl, _, rfl, fun d hd => by cases hd; exact rfl, HXC.out⟩
 simp only [pA]
 refine ⟨fun w_ o_ S_ hAv18 => ?_, fun v18 => ?_⟩
 ·clear S_
  clear hAv18
  clear o_
  go_wp2_with fail
  exact kso
 simp only [pA]
 refine ⟨⟨rfl, rfl, fun ws7 hos7 hSs7 hLs7 => ?_⟩, ?_⟩
 ·obtain rfl : v18 = .pointer (some ⟨g4, 1, none⟩) := hSs7 18 (by decide) (by decide)
  exact run_stp 5 _ _ rfl _ rfl _ rfl 1 ([Lf.i .u8 2]) _ rfl (by kernel_rfl) rfl (by kernel_rfl) hLs7 rfl
 clear H
 intro wb HOX H hfin
 obtain rfl : v12 = .pointer (some ⟨g5, 2, none⟩) := hfin 12 (by decide)
 obtain rfl : v13 = .agg ((nonceP b).1.map V8).toArray := hfin 13 (by decide)
 obtain rfl : v14 = .agg (cat (partsF s)).toArray := hfin 14 (by decide)
 obtain rfl : v15 = .pointer (some ⟨g5, 2, none⟩) := hfin 15 (by decide)
 obtain rfl : v16 = .agg ((nonceP b).1.map V8).toArray := hfin 16 (by decide)
 obtain rfl : v17 = .agg (cat (partsK (keysF s (nonceP b)))).toArray := hfin 17 (by decide)
 obtain rfl : v18 = .pointer (some ⟨g4, 1, none⟩) := hfin 18 (by decide)
 clear hfin
 simp only [List.drop_succ_cons, List.drop_zero]
 simp only [curEnd] at H
 go_wp2_with (first | ((with_reducible refine isSt 26 ?_); (refine L_sv H rfl rfl 26 _ _ rfl 2 rfl _ rfl _ rfl (Lf.v (nonceP b)) rfl rfl rfl (by kernel_rfl) (_) rfl ?_; clear H; intro wc HWwc H; simp only [ssA, szA] at H)) | ((with_reducible refine isSt 28 ?_); (refine L_sg H rfl rfl 28 _ _ rfl 2 rfl _ rfl _ rfl 3 (partsK (keysF s (nonceP b))) rfl rfl (by kernel_rfl) (_) rfl ?_; clear H; intro wc HWwc H; simp only [ssA, szA] at H)) | ((with_reducible refine isLd 3 ?_); (refine L_f1 H rfl 3 _ rfl 1 rfl _ rfl _ rfl _ rfl Try.underlying3 rfl ?_); simp only [pA]) | ((with_reducible refine isLd 26 ?_); (refine L_fv H rfl 26 _ rfl 2 rfl _ rfl _ rfl rfl Try.underlying26 rfl (by kernel_rfl) ?_); simp only [pA]) | ((with_reducible show wpList _ _ _ (Oper.mk (some 25) (Op.build _ _) _ _ _ _ :: _) _ _); (refine L_bd rfl 78 _ rfl #[(0, .int .u8 2), (1, .int .i64 (countP b)), (2, .agg (s.mine.1.map V8).toArray)] (by kernel_rfl) (cat (partsM 2 (countP b) s.mine none 0 0)) HBM.out ?_); simp only [pA]) | ((with_reducible refine isAl 11 78 ?_); (refine L_alloc H rfl 78 rfl (cat (partsM 0 0 (zv 16) none 0 0)) (fun _ _ => by kernel_rfl) ?_); clear H; intro g11 w11 HGg11 HEg11 H; simp only [pA]) | ((with_reducible refine isSt 78 ?_); (refine L_sa H rfl rfl 78 _ _ rfl 0 rfl rfl (partsM 2 (countP b) s.mine none 0 0) rfl rfl (by kernel_rfl) ?_; clear H; intro wd HWwd H; simp only [szA] at H)))
 have hmine : s'.mine = s.mine := by rw [HS'.out]; rfl
 have H2 := kp (show Loc w wd [(g11, 78, cat (partsM 2 (countP b) s'.mine none 0 0)), (g8, 32, cat (partsF fw0)), (g5, 78, cat (partsM (kindP b) (countP b) (nonceP b) ad n c)), (g4, 32, cat (partsF s'))] from by rw [hmine, HS'.out]; exact H.out)
 clear H hmine
 have H := H2
 clear H2
 have HLT := kp (H.out.lt 1 rfl)
 have HSZ := kp H.out.1.size
 subst h3
 refine region_free H (tabS [(26, fun vQ _ => vQ = .agg (cat (partsF s')).toArray), (27, fun vQ _ => vQ = .agg (cat (partsM 2 (countP b) s'.mine none 0 0)).toArray), (28, fun vQ _ => vQ = .pointer (some ⟨g4, 65, none⟩)), (29, fun vQ _ => vQ = .pointer (some ⟨g4, 65, none⟩)), (30, fun vQ _ => vQ = .agg (s'.pair.c.1.map V8).toArray), (31, fun vQ wQ => OwnB wd.heap.size (signedF s'.pair.c.1 2 (countP b) s'.mine.1 []) vQ wQ), (32, fun vQ wQ => SlBB wd.heap.size wQ vQ [signedF s'.pair.c.1 2 (countP b) s'.mine.1 []]), (9, fun vQ wQ => SlBB wd.heap.size wQ vQ [signedF s'.pair.c.1 2 (countP b) s'.mine.1 []]), (10, fun vQ _ => vQ = .int .i64 0)]) [⟨7, 1, g8, 32, cat (partsF fw0), cat (partsF s')⟩] (tabS_out _ _ (by simp only [List.forall_mem_cons, mono_eqO, true_and]; exact ⟨(mono_OwnB _ HLT), (mono_SlBB _ (lt1 HLT.out)), (mono_SlBB _ (lt1 HLT.out)), by simp⟩)) 10 (by kernel_rfl) (by kernel_rfl) (by kernel_rfl) (by kernel_rfl) [7] [1] rfl rfl (by decide) (by decide) (by decide) ⟨rfl, trivial⟩ ?_
 simp only [List.take_succ_cons, List.take_zero]
 refine ⟨fun w_ o_ S_ => ?_, fun v26 => ?_⟩
 ·clear S_
  have H := kp (H.out.keep [0, 2, 3] (St := [⟨7, 1, g8, 32, cat (partsF fw0), cat (partsF s')⟩]) ⟨rfl, trivial⟩ o_ (by decide) (by kernel_rfl))
  have HOX := kp o_
  clear o_
  go_wp2_with ((with_reducible refine isLd 32 ?_); (refine L_fa H rfl 32 _ rfl 2 rfl rfl Try.underlying32 rfl (by kernel_rfl) ?_); simp only [pA])
  exact kso
 simp only [pA]
 refine ⟨fun w_ o_ S_ => ?_, fun v27 => ?_⟩
 ·clear S_
  have H := kp (H.out.keep [0, 2, 3] (St := [⟨7, 1, g8, 32, cat (partsF fw0), cat (partsF s')⟩]) ⟨rfl, trivial⟩ o_ (by decide) (by kernel_rfl))
  have HOX := kp o_
  clear o_
  go_wp2_with ((with_reducible refine isLd 78 ?_); (refine L_fa H rfl 78 _ rfl 0 rfl rfl Try.underlying78 rfl (by kernel_rfl) ?_); simp only [pA])
  exact kso
 simp only [pA]
 refine ⟨fun w_ o_ S_ => ?_, fun v28 => ?_⟩
 ·clear S_
  clear o_
  go_wp2_with fail
  exact kso
 simp only [pA]
 refine ⟨fun w_ o_ S_ => ?_, fun v29 => ?_⟩
 ·obtain rfl : v28 = .pointer (some ⟨g4, 65, none⟩) := hsR S_ 28 rfl
  clear S_ o_
  go_wp2_with fail
  exact kso
 simp only [pA]
 refine ⟨fun w_ o_ S_ => ?_, fun v30 => ?_⟩
 ·obtain rfl : v29 = .pointer (some ⟨g4, 65, none⟩) := hsR S_ 29 rfl
  clear S_
  have H := kp (H.out.keep [0, 2, 3] (St := [⟨7, 1, g8, 32, cat (partsF fw0), cat (partsF s')⟩]) ⟨rfl, trivial⟩ o_ (by decide) (by kernel_rfl))
  have HOX := kp o_
  clear o_
  go_wp2_with ((with_reducible refine isLd 25 ?_); (refine L_fv H rfl 25 _ rfl 2 rfl _ rfl _ rfl rfl Try.underlying25 rfl (by kernel_rfl) ?_); simp only [pA])
  exact kso
 simp only [pA]
 refine ⟨fun w_ o_ S_ => ?_, fun v31 => ?_⟩
 ·obtain rfl : v27 = .agg (cat (partsM 2 (countP b) s'.mine none 0 0)).toArray := hsR S_ 27 rfl
  obtain rfl : v30 = .agg (s'.pair.c.1.map V8).toArray := hsR S_ 30 rfl
  clear S_
  have H := kp (H.out.keep [0, 2, 3] (St := [⟨7, 1, g8, 32, cat (partsF fw0), cat (partsF s')⟩]) ⟨rfl, trivial⟩ o_ (by decide) (by kernel_rfl))
  have HOX := kp o_
  clear o_
  go_wp2_with fail
  refine (HSG.out _).mono ?_
  rintro e w2 ⟨v, rfl, ho, hx⟩
  have HSL := kp (owns_weak ho HOX.out.size)
  have HXC := kp hx
  clear ho hx
  go_wp2_with fail
  exact ⟨rfl, _, rfl, fun d hd => by cases hd; exact HSL.out, HXC.out⟩
 simp only [pA]
 refine ⟨fun w_ o_ S_ => ?_, fun v32 => ?_⟩
 ·have h31 := kp (show OwnB wd.heap.size (signedF s'.pair.c.1 2 (countP b) s'.mine.1 []) v31 w_ from hsR S_ 31 rfl)
  clear S_
  have H := kp (H.out.keep [0, 2, 3] (St := [⟨7, 1, g8, 32, cat (partsF fw0), cat (partsF s')⟩]) ⟨rfl, trivial⟩ o_ (by decide) (by kernel_rfl))
  have HOX := kp o_
  clear o_
  have HOB := h31
  obtain ⟨av, nv, cv, rfl⟩ := owns_form2 h31.out
  go_wp2_with ((with_reducible show wpList _ _ _ (Oper.mk (some 32) (Op.buildSlice 34 _ _) _ _ _ _ :: _) _ _); (refine L_bs H (by kernel_rfl) 34 1 _ rfl (#[(0, .slice av nv cv)]) (by kernel_rfl) 33 ([.slice av nv cv]) (fun _ => by kernel_rfl) ?_); clear H; intro g32 w32 HGg32 HEg32 H; simp only [pA])
  exact ⟨rfl, _, rfl, fun d hd => by cases hd; exact SlBB.one (H.out.at 0 rfl) (by have q1 := HOX.out.size; have q2 := HGg32.out; omega) (owns_ext HOB.out HEg32.out), HEg32.out⟩
 simp only [pA]
 refine ⟨⟨rfl, rfl, fun ws7 hos7 hSs7 hLs7 => ?_⟩, ?_⟩
 ·obtain rfl : v26 = .agg (cat (partsF s')).toArray := hSs7 26 (by decide) (by decide)
  exact run_sto 32 _ _ rfl rfl rfl hLs7 (sizeFw _) (len_F _ _) (by simpa using cat_one (partsF s'))
 refine ⟨fun w_ o_ S_ => ?_, fun v9 => ?_⟩
 ·have h32 := kp (show SlBB wd.heap.size w_ v32 [signedF s'.pair.c.1 2 (countP b) s'.mine.1 []] from hsR S_ 32 rfl)
  clear S_ o_
  go_wp2_with fail
  exact ⟨rfl, _, rfl, fun d hd => by cases hd; exact h32.out, Ext.refl _⟩
 simp only [pA]
 refine ⟨fun w_ o_ S_ => ?_, fun v10 => ?_⟩
 ·clear S_
  clear o_
  go_wp2_with fail
  exact kso
 simp only [pA]
 clear H
 intro wy HOX H hfin
 obtain rfl : v26 = .agg (cat (partsF s')).toArray := hfin 26 (by decide)
 obtain rfl : v27 = .agg (cat (partsM 2 (countP b) s'.mine none 0 0)).toArray := hfin 27 (by decide)
 obtain rfl : v28 = .pointer (some ⟨g4, 65, none⟩) := hfin 28 (by decide)
 obtain rfl : v29 = .pointer (some ⟨g4, 65, none⟩) := hfin 29 (by decide)
 obtain rfl : v30 = .agg (s'.pair.c.1.map V8).toArray := hfin 30 (by decide)
 have F31 := kp (show OwnB wd.heap.size (signedF s'.pair.c.1 2 (countP b) s'.mine.1 []) v31 wy from hfin 31 (by decide))
 have F32 := kp (show SlBB wd.heap.size wy v32 [signedF s'.pair.c.1 2 (countP b) s'.mine.1 []] from hfin 32 (by decide))
 have F9 := kp (show SlBB wd.heap.size wy v9 [signedF s'.pair.c.1 2 (countP b) s'.mine.1 []] from hfin 9 (by decide))
 obtain rfl : v10 = .int .i64 0 := hfin 10 (by decide)
 clear hfin
 simp only [List.drop_succ_cons, List.drop_zero]
 simp only [applyS] at H
 go_wp2_with fail
 (exact ret_f3 H Try.results53 1 rfl rfl _ _ rfl rfl Try.underlying32 rfl (by kernel_rfl) rfl (hanR_ok HRS.out F9.out HSZ.out H.out.1))
end Go.Proofs.Ytibncchobkaaiaa
