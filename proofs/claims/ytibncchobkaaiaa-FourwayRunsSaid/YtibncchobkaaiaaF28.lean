/- Texts of this proof, put together: RfH, RfI. -/
import Derived.Test.YtibncchobkaaiaaF26
import Derived.Test.YtibncchobkaaiaaF27
import Derived.Test.YtibncchobkaaiaaF1
namespace Go.Proofs.Ytibncchobkaaiaa
open Go.RowKit
def authF (s : Fw) (b : By) (now : Int) : Res := if s.stage = 1 ∧ kindP b = 2 then secondF s b now else if s.stage = 3 ∧ kindP b = 4 then fourthF s b else errR 20
theorem authF_n {s : Fw} {b : By} {now : Int} (h1 : ¬ (s.stage = 1 ∧ kindP b = 2)) (h2 : ¬ (s.stage = 3 ∧ kindP b = 4)) : authF s b now = errR 20 := by unfold authF; rw [if_neg h1, if_neg h2]
theorem authF_2 {s : Fw} {b : By} {now : Int} (h1 : s.stage = 1) (h2 : kindP b = 2) (hp : parseE b = 0) : (countP b ≠ s.replay → authF s b now = errR 21) ∧ (countP b = s.replay → codedF b (keysF s (nonceP b)).c.1 = false → authF s b now = errR 33) ∧ (countP b = s.replay → codedF b (keysF s (nonceP b)).c.1 = true → authF s b now = (s.second b now, [sendF (s.second b now)], 0)) := by
 have e := coded_eq hp (by omega) (keysF s (nonceP b)).c.1
 unfold authF secondF secondE
 rw [if_pos ⟨h1, h2⟩, e]
 exact ⟨fun h => by simp [h], fun h h3 => by simp [h, h3], fun h h3 => by simp [h, h3]⟩
theorem authF_4 {s : Fw} {b : By} {now : Int} (h1 : s.stage = 3) (h2 : kindP b = 4) (hp : parseE b = 0) : (countP b ≠ s.replay → authF s b now = errR 21) ∧ (countP b = s.replay → codedF b s.pair.c.1 = false → authF s b now = errR 33) ∧ (countP b = s.replay → codedF b s.pair.c.1 = true → authF s b now = ({ s with stage := 4, inst := 1, tries := 0, due := 0 }, [], 0)) := by
 have e := coded_eq hp (by omega) s.pair.c.1
 unfold authF fourthF fourthE
 rw [if_neg (by omega), if_pos ⟨h1, h2⟩, e]
 exact ⟨fun h => by simp [h], fun h h3 => by simp [h, h3], fun h h3 => by simp [h, h3]⟩
set_option maxRecDepth 4000 in
set_option maxHeartbeats 3200000 in
theorem rauth4_any (s : Fw) (gb ob n c : Nat) (b : By) (now : Int) (hck : checkedF s now = 0) (hp : parseE b = 0) (hb : b.length ≤ 100000) (ad : Option Addr) (m cp : Nat) (w : World) (hs : SlB w (.slice (some ⟨gb, ob, none⟩) n c) b) (hcap : CapOk (.slice (some ⟨gb, ob, none⟩) n c)) :
  Calls Try.prog 36 #[.agg (cat (partsF s)).toArray, .slice (some ⟨gb, ob, none⟩) n c, .agg (cat (partsM (kindP b) (countP b) (nonceP b) ad m cp)).toArray, .int .i64 now] w (ResR (authF s b now) w) := by
 have H := kp (Loc.start w)
 have hzz := checked_zero hck
 have h43 := (parse_yes hp).1
 have HCO := kp (fun (k : Vc 16) W (hx : Ext w W) => rcoded_any gb ob n c b h43 hb k W (hs.ext hx) hcap)
 have HN := kp (fun h1 h2 => authF_n (s := s) (b := b) (now := now) h1 h2)
 have H2T := kp (fun h1 h2 => authF_2 (s := s) (b := b) (now := now) h1 h2 hp)
 have H4T := kp (fun h1 h2 => authF_4 (s := s) (b := b) (now := now) h1 h2 hp)
 have HKY := kp (rkeys_any s (nonceP b))
 generalize authF s b now = r at *
 have hrp := (check_wait hzz.1).1
 have htm := hzz.2
 clear hck hp hb hs hcap hzz h43
 go_enter Try.func36, Try.ntmps36
 generalize h3 : (Code.region 3 _ _ : Code) = R3
 generalize h16 : (Code.region 16 _ _ : Code) = R16
 generalize h22 : (Code.region 22 _ _ : Code) = R22
 by_cases hA : s.stage = 1 ∧ kindP b = 2
 ·have HT := kp (H2T.out hA.1 hA.2)
  have e1 : (s.stage == 1) = true := by simp [hA.1]
  have e2 : (kindP b == 2) = true := by simp [hA.2]
  have e3 : (kindP b == 4) = false := by simp [hA.2]
  clear hA HN H2T H4T
  subst h3
  by_cases hc : countP b = s.replay
  ·have hcb : (countP b != s.replay) = false := by simp [hc]
   cases hq : codedF b (keysF s (nonceP b)).c.1 with
   | false =>
    have HCB := kp hq
    have HK := kp (HT.out.2.1 hc hq)
    clear hq hc HT
    go_wp2_with (first | ((with_reducible refine isBx 4 32 ?_); (refine L_box H rfl 32 _ rfl (cat (partsF s)) rfl ?_); clear H; intro g4 w4 HGg4 HEg4 H; simp only [pA]) | ((with_reducible refine isBx 6 89 ?_); (refine L_box H rfl 89 _ rfl (cat (partsM (kindP b) (countP b) (nonceP b) ad m cp)) rfl ?_); clear H; intro g6 w6 HGg6 HEg6 H; simp only [pA]) | ((with_reducible refine isAl 8 32 ?_); (refine L_alloc H rfl 32 rfl (cat (partsF fw0)) (fun _ _ => by kernel_rfl) ?_); clear H; intro g8 w8 HGg8 HEg8 H; simp only [pA]) | ((with_reducible refine isLd 5 ?_); (first | (refine L_f1 H rfl 5 _ rfl 1 rfl _ rfl _ rfl _ rfl Try.underlying5 rfl ?_) | (refine L_f1 H rfl 5 _ rfl 2 rfl _ rfl _ rfl _ rfl Try.underlying5 rfl ?_)); simp only [pA]) | ((with_reducible refine isLd 3 ?_); (first | (refine L_f1 H rfl 3 _ rfl 1 rfl _ rfl _ rfl _ rfl Try.underlying3 rfl ?_) | (refine L_f1 H rfl 3 _ rfl 2 rfl _ rfl _ rfl _ rfl Try.underlying3 rfl ?_)); simp only [pA]) | ((with_reducible refine isLd 28 ?_); (refine L_fg H rfl 28 _ rfl 2 rfl _ rfl _ rfl (partsK s.pair) rfl Try.underlying28 rfl (by kernel_rfl) ?_); simp only [pA]) | ((with_reducible refine isAl 11 28 ?_); (refine L_alloc H rfl 28 rfl (cat (partsK ks0)) (fun _ _ => by kernel_rfl) ?_); clear H; intro g11 w11 HGg11 HEg11 H; simp only [pA]) | ((with_reducible show wpList _ _ _ (Oper.mk none (Op.store 28 _ (.tmp 40)) _ _ _ _ :: _) _ _); ((with_reducible refine isSt 28 ?_); refine L_sa H rfl rfl 28 _ _ rfl 0 rfl rfl (partsK s.pair) rfl rfl (by kernel_rfl) ?_; clear H; intro wk HWwk H; simp only [szA] at H)) | ((with_reducible refine isLd 25 ?_); (refine L_fv H rfl 25 _ rfl 0 rfl _ rfl _ rfl rfl Try.underlying25 rfl (by kernel_rfl) ?_); simp only [pA]) | (go_at_call 56; refine (HCO.out _ _ H.out.1).mono ?_; rintro e wa ⟨rfl, hx⟩; rw [HCB.out]; replace H := kp (H.out.ext hx); have HXC := kp hx; clear hx) | ((with_reducible refine isLd 32 ?_); (refine L_fa H rfl 32 _ rfl 3 rfl rfl Try.underlying32 rfl (by kernel_rfl) ?_); simp only [pA]) | ((with_reducible refine isLd 26 ?_); (refine L_fv H rfl 26 _ rfl 2 rfl _ rfl _ rfl rfl Try.underlying26 rfl (by kernel_rfl) ?_); simp only [pA]) | (go_at_call 55; refine (HKY.out _).mono ?_; rintro e wa ⟨rfl, hx⟩; replace H := kp (H.out.ext hx); have HXC := kp hx; clear hx) | ((with_reducible refine isSt 28 ?_); refine L_sa H rfl rfl 28 _ _ rfl 0 rfl rfl (partsK (keysF s (nonceP b))) rfl rfl (by kernel_rfl) ?_; clear H; intro wq HWwq H; simp only [szA] at H) | ((with_reducible show wpList _ _ _ (Oper.mk _ (Op.build 32 _) _ _ _ _ :: _) _ _); (refine L_bd rfl 32 _ rfl #[] (by kernel_rfl) (cat (partsF fw0)) (fun _ => by kernel_rfl) ?_); simp only [pA]) | ((with_reducible refine isSt 32 ?_); refine L_sa H rfl rfl 32 _ _ rfl 1 rfl rfl (partsF fw0) rfl rfl (by kernel_rfl) ?_; clear H; intro wz HWwz H; simp only [ssA, szA] at H))
    (exact ret_f3 H Try.results36 1 rfl rfl _ _ rfl rfl Try.underlying32 rfl (by kernel_rfl) rfl (resR_err HK.out H.out.1))
   | true =>
    have HCB := kp hq
    have HK := kp (HT.out.2.2 hc hq)
    clear hq hc HT
    go_wp2_with (first | ((with_reducible refine isBx 4 32 ?_); (refine L_box H rfl 32 _ rfl (cat (partsF s)) rfl ?_); clear H; intro g4 w4 HGg4 HEg4 H; simp only [pA]) | ((with_reducible refine isBx 6 89 ?_); (refine L_box H rfl 89 _ rfl (cat (partsM (kindP b) (countP b) (nonceP b) ad m cp)) rfl ?_); clear H; intro g6 w6 HGg6 HEg6 H; simp only [pA]) | ((with_reducible refine isAl 8 32 ?_); (refine L_alloc H rfl 32 rfl (cat (partsF fw0)) (fun _ _ => by kernel_rfl) ?_); clear H; intro g8 w8 HGg8 HEg8 H; simp only [pA]) | ((with_reducible refine isLd 5 ?_); (first | (refine L_f1 H rfl 5 _ rfl 1 rfl _ rfl _ rfl _ rfl Try.underlying5 rfl ?_) | (refine L_f1 H rfl 5 _ rfl 2 rfl _ rfl _ rfl _ rfl Try.underlying5 rfl ?_)); simp only [pA]) | ((with_reducible refine isLd 3 ?_); (first | (refine L_f1 H rfl 3 _ rfl 1 rfl _ rfl _ rfl _ rfl Try.underlying3 rfl ?_) | (refine L_f1 H rfl 3 _ rfl 2 rfl _ rfl _ rfl _ rfl Try.underlying3 rfl ?_)); simp only [pA]) | ((with_reducible refine isLd 28 ?_); (refine L_fg H rfl 28 _ rfl 2 rfl _ rfl _ rfl (partsK s.pair) rfl Try.underlying28 rfl (by kernel_rfl) ?_); simp only [pA]) | ((with_reducible refine isAl 11 28 ?_); (refine L_alloc H rfl 28 rfl (cat (partsK ks0)) (fun _ _ => by kernel_rfl) ?_); clear H; intro g11 w11 HGg11 HEg11 H; simp only [pA]) | ((with_reducible show wpList _ _ _ (Oper.mk none (Op.store 28 _ (.tmp 40)) _ _ _ _ :: _) _ _); ((with_reducible refine isSt 28 ?_); refine L_sa H rfl rfl 28 _ _ rfl 0 rfl rfl (partsK s.pair) rfl rfl (by kernel_rfl) ?_; clear H; intro wk HWwk H; simp only [szA] at H)) | ((with_reducible refine isLd 25 ?_); (refine L_fv H rfl 25 _ rfl 0 rfl _ rfl _ rfl rfl Try.underlying25 rfl (by kernel_rfl) ?_); simp only [pA]) | (go_at_call 56; refine (HCO.out _ _ H.out.1).mono ?_; rintro e wa ⟨rfl, hx⟩; rw [HCB.out]; replace H := kp (H.out.ext hx); have HXC := kp hx; clear hx) | ((with_reducible refine isLd 32 ?_); (refine L_fa H rfl 32 _ rfl 3 rfl rfl Try.underlying32 rfl (by kernel_rfl) ?_); simp only [pA]) | ((with_reducible refine isLd 26 ?_); (refine L_fv H rfl 26 _ rfl 2 rfl _ rfl _ rfl rfl Try.underlying26 rfl (by kernel_rfl) ?_); simp only [pA]) | (go_at_call 55; refine (HKY.out _).mono ?_; rintro e wa ⟨rfl, hx⟩; replace H := kp (H.out.ext hx); have HXC := kp hx; clear hx) | ((with_reducible refine isSt 28 ?_); refine L_sa H rfl rfl 28 _ _ rfl 0 rfl rfl (partsK (keysF s (nonceP b))) rfl rfl (by kernel_rfl) ?_; clear H; intro wq HWwq H; simp only [szA] at H))
    obtain ⟨s', hs'⟩ : ∃ t, t = s.second b now := ⟨_, rfl⟩
    have HRS := kp (show r = (s', [sendF s'], 0) by rw [hs']; exact HK.out)
    have HSD := kp (rsent_any s' (by rw [hs']; show 0 ≤ s.replay + 1; omega) (by rw [hs']; show s.replay + 1 < _; omega) (by rw [hs']; exact .inr rfl))
    have HS' := kp hs'
    clear hs' HK HCB e1 e2 e3 hcb
    subst h16
    go_wp2_with (first | ((with_reducible refine isLd 3 ?_); (refine L_f1 H rfl 3 _ rfl 3 rfl _ rfl _ rfl _ rfl Try.underlying3 rfl ?_); simp only [pA]) | ((with_reducible refine isLd 26 ?_); (refine L_fv H rfl 26 _ rfl 2 rfl _ rfl _ rfl rfl Try.underlying26 rfl (by kernel_rfl) ?_); simp only [pA]) | ((with_reducible refine isLd 28 ?_); (refine L_fa H rfl 28 _ rfl 0 rfl rfl Try.underlying28 rfl (by kernel_rfl) ?_); simp only [pA]) | ((with_reducible refine isSt 5 ?_); (refine L_s1 H rfl rfl 5 _ _ rfl 3 rfl _ rfl _ rfl _ rfl rfl rfl rfl (by kernel_rfl) (_) rfl ?_; clear H; intro wb HWwb H; simp only [ssA, szA] at H)) | ((with_reducible refine isSt 3 ?_); (refine L_s1 H rfl rfl 3 _ _ rfl 3 rfl _ rfl _ rfl _ rfl rfl rfl rfl (by kernel_rfl) (_) rfl ?_; clear H; intro wc HWwc H; simp only [ssA, szA] at H)) | ((with_reducible refine isSt 26 ?_); (refine L_sv H rfl rfl 26 _ _ rfl 3 rfl _ rfl _ rfl (Lf.v (nonceP b)) rfl rfl rfl (by kernel_rfl) (_) rfl ?_; clear H; intro wd HWwd H; simp only [ssA, szA] at H)) | ((with_reducible refine isSt 28 ?_); (refine L_sg H rfl rfl 28 _ _ rfl 3 rfl _ rfl _ rfl 3 (partsK (keysF s (nonceP b))) rfl rfl (by kernel_rfl) (_) rfl ?_; clear H; intro we HWwe H; simp only [ssA, szA] at H)))
    have H2 := kp (show Loc w wc [(g11, 28, cat (partsK (keysF s (nonceP b)))), (g8, 32, cat (partsF fw0)), (g6, 89, cat (partsM (kindP b) (countP b) (nonceP b) ad m cp)), (g4, 32, cat (partsF s'))] from by rw [HS'.out]; exact H.out)
    clear H
    have H := H2
    clear H2
    have HLT := kp (show g8 < wc.heap.size from H.out.lt 1 rfl)
    have HSZ := kp H.out.1.size
    subst h22
    refine region_free H (tabS [(76, fun vQ _ => vQ = .agg (cat (partsF s')).toArray), (77, fun vQ _ => vQ = .agg (cat (partsF s')).toArray), (78, fun vQ wQ => SlBB wc.heap.size wQ vQ [sendF s']), (9, fun vQ wQ => SlBB wc.heap.size wQ vQ [sendF s']), (10, fun vQ _ => vQ = .int .i64 0)]) [⟨3, 1, g8, 32, cat (partsF fw0), cat (partsF s')⟩] (tabS_out _ _ (by simp only [List.forall_mem_cons, mono_eqO, true_and]; exact ⟨(mono_SlBB _ (lt1 HLT.out)), (mono_SlBB _ (lt1 HLT.out)), by simp⟩)) 6 (by kernel_rfl) (by kernel_rfl) (by kernel_rfl) (by kernel_rfl) [3] [1] rfl rfl (by decide) (by decide) (by decide) ⟨rfl, trivial⟩ ?_
    simp only [List.take_succ_cons, List.take_zero]
    refine ⟨fun w_ o_ S_ => ?_, fun v76 => ?_⟩
    ·clear S_
     have H := kp (H.out.keep [0, 2, 3] (St := [⟨3, 1, g8, 32, cat (partsF fw0), cat (partsF s')⟩]) ⟨rfl, trivial⟩ o_ (by decide) (by kernel_rfl))
     have HOX := kp o_
     clear o_
     go_wp2_with ((with_reducible refine isLd 32 ?_); (refine L_fa H rfl 32 _ rfl 2 rfl rfl Try.underlying32 rfl (by kernel_rfl) ?_); simp only [pA])
     exact kso
    simp only [pA]
    refine ⟨fun w_ o_ S_ => ?_, fun v77 => ?_⟩
    ·clear S_
     have H := kp (H.out.keep [0, 2, 3] (St := [⟨3, 1, g8, 32, cat (partsF fw0), cat (partsF s')⟩]) ⟨rfl, trivial⟩ o_ (by decide) (by kernel_rfl))
     have HOX := kp o_
     clear o_
     go_wp2_with ((with_reducible refine isLd 32 ?_); (refine L_fa H rfl 32 _ rfl 2 rfl rfl Try.underlying32 rfl (by kernel_rfl) ?_); simp only [pA])
     exact kso
    simp only [pA]
    refine ⟨fun w_ o_ S_ => ?_, fun v78 => ?_⟩
    ·obtain rfl : v77 = .agg (cat (partsF s')).toArray := hsR S_ 77 rfl
     clear S_
     have H := kp (H.out.keep [0, 2, 3] (St := [⟨3, 1, g8, 32, cat (partsF fw0), cat (partsF s')⟩]) ⟨rfl, trivial⟩ o_ (by decide) (by kernel_rfl))
     have HOX := kp o_
     clear o_
     go_wp2_with fail
     refine (HSD.out _).mono ?_
     rintro e w2 ⟨v, rfl, hs, hx⟩
     have HSL := kp (hs.weak HOX.out.size)
     have HXC := kp hx
     clear hs hx
     go_wp2_with fail
     exact ⟨rfl, _, rfl, fun d hd => by cases hd; exact HSL.out, HXC.out⟩
    simp only [pA]
    refine ⟨⟨rfl, rfl, fun ws3 hos3 hSs3 hLs3 => ?_⟩, ?_⟩
    ·obtain rfl : v76 = .agg (cat (partsF s')).toArray := hSs3 76 (by decide) (by decide)
     exact run_sto 32 _ _ rfl rfl rfl hLs3 (sizeFw _) (len_F _ _) (by simpa using cat_one (partsF s'))
    refine ⟨fun w_ o_ S_ => ?_, fun v9 => ?_⟩
    ·have h78 := kp (show SlBB wc.heap.size w_ v78 [sendF s'] from hsR S_ 78 rfl)
     clear S_ o_
     go_wp2_with fail
     exact ⟨rfl, _, rfl, fun d hd => by cases hd; exact h78.out, Ext.refl _⟩
    simp only [pA]
    refine ⟨fun w_ o_ S_ => ?_, fun v10 => ?_⟩
    ·clear S_
     clear o_
     go_wp2_with fail
     exact kso
    simp only [pA]
    clear H
    intro wy HOX H hfin
    obtain rfl : v76 = .agg (cat (partsF s')).toArray := hfin 76 (by decide)
    obtain rfl : v77 = .agg (cat (partsF s')).toArray := hfin 77 (by decide)
    have F78 := kp (show SlBB wc.heap.size wy v78 [sendF s'] from hfin 78 (by decide))
    have F9 := kp (show SlBB wc.heap.size wy v9 [sendF s'] from hfin 9 (by decide))
    obtain rfl : v10 = .int .i64 0 := hfin 10 (by decide)
    clear hfin
    simp only [List.drop_succ_cons, List.drop_zero]
    simp only [applyS] at H
    go_wp2_with fail
    (exact ret_f3 H Try.results36 1 rfl rfl _ _ rfl rfl Try.underlying32 rfl (by kernel_rfl) rfl (resR_ok HRS.out F9.out HSZ.out H.out.1))
  ·have hcb : (countP b != s.replay) = true := by simpa using hc
   have HK := kp (HT.out.1 hc)
   clear hc
   go_wp2_with (first | ((with_reducible refine isBx 4 32 ?_); (refine L_box H rfl 32 _ rfl (cat (partsF s)) rfl ?_); clear H; intro g4 w4 HGg4 HEg4 H; simp only [pA]) | ((with_reducible refine isBx 6 89 ?_); (refine L_box H rfl 89 _ rfl (cat (partsM (kindP b) (countP b) (nonceP b) ad m cp)) rfl ?_); clear H; intro g6 w6 HGg6 HEg6 H; simp only [pA]) | ((with_reducible refine isAl 8 32 ?_); (refine L_alloc H rfl 32 rfl (cat (partsF fw0)) (fun _ _ => by kernel_rfl) ?_); clear H; intro g8 w8 HGg8 HEg8 H; simp only [pA]) | ((with_reducible refine isLd 5 ?_); (first | (refine L_f1 H rfl 5 _ rfl 1 rfl _ rfl _ rfl _ rfl Try.underlying5 rfl ?_) | (refine L_f1 H rfl 5 _ rfl 2 rfl _ rfl _ rfl _ rfl Try.underlying5 rfl ?_)); simp only [pA]) | ((with_reducible refine isLd 3 ?_); (first | (refine L_f1 H rfl 3 _ rfl 1 rfl _ rfl _ rfl _ rfl Try.underlying3 rfl ?_) | (refine L_f1 H rfl 3 _ rfl 2 rfl _ rfl _ rfl _ rfl Try.underlying3 rfl ?_)); simp only [pA]) | ((with_reducible show wpList _ _ _ (Oper.mk _ (Op.build 32 _) _ _ _ _ :: _) _ _); (refine L_bd rfl 32 _ rfl #[] (by kernel_rfl) (cat (partsF fw0)) (fun _ => by kernel_rfl) ?_); simp only [pA]) | ((with_reducible refine isSt 32 ?_); refine L_sa H rfl rfl 32 _ _ rfl 0 rfl rfl (partsF fw0) rfl rfl (by kernel_rfl) ?_; clear H; intro wz HWwz H; simp only [szA] at H))
   (exact ret_f3 H Try.results36 0 rfl rfl _ _ rfl rfl Try.underlying32 rfl (by kernel_rfl) rfl (resR_err HK.out H.out.1))
 ·by_cases hB : s.stage = 3 ∧ kindP b = 4
  ·have HT := kp (H4T.out hB.1 hB.2)
   have e1 : (s.stage == 3) = true := by simp [hB.1]
   have e2 : (kindP b == 4) = true := by simp [hB.2]
   have e3 : (kindP b == 2) = false := by simp [hB.2]
   have e4 : (s.stage == 1) = false := by simp [hB.1]
   clear hA hB HN H2T H4T
   subst h3
   by_cases hc : countP b = s.replay
   ·have hcb : (countP b != s.replay) = false := by simp [hc]
    cases hq : codedF b s.pair.c.1 with
    | false =>
     have HCB := kp hq
     have HK := kp (HT.out.2.1 hc hq)
     clear hq hc HT
     go_wp2_with (first | ((with_reducible refine isBx 4 32 ?_); (refine L_box H rfl 32 _ rfl (cat (partsF s)) rfl ?_); clear H; intro g4 w4 HGg4 HEg4 H; simp only [pA]) | ((with_reducible refine isBx 6 89 ?_); (refine L_box H rfl 89 _ rfl (cat (partsM (kindP b) (countP b) (nonceP b) ad m cp)) rfl ?_); clear H; intro g6 w6 HGg6 HEg6 H; simp only [pA]) | ((with_reducible refine isAl 8 32 ?_); (refine L_alloc H rfl 32 rfl (cat (partsF fw0)) (fun _ _ => by kernel_rfl) ?_); clear H; intro g8 w8 HGg8 HEg8 H; simp only [pA]) | ((with_reducible refine isLd 5 ?_); (first | (refine L_f1 H rfl 5 _ rfl 1 rfl _ rfl _ rfl _ rfl Try.underlying5 rfl ?_) | (refine L_f1 H rfl 5 _ rfl 2 rfl _ rfl _ rfl _ rfl Try.underlying5 rfl ?_)); simp only [pA]) | ((with_reducible refine isLd 3 ?_); (first | (refine L_f1 H rfl 3 _ rfl 1 rfl _ rfl _ rfl _ rfl Try.underlying3 rfl ?_) | (refine L_f1 H rfl 3 _ rfl 2 rfl _ rfl _ rfl _ rfl Try.underlying3 rfl ?_)); simp only [pA]) | ((with_reducible refine isLd 28 ?_); (refine L_fg H rfl 28 _ rfl 2 rfl _ rfl _ rfl (partsK s.pair) rfl Try.underlying28 rfl (by kernel_rfl) ?_); simp only [pA]) | ((with_reducible refine isAl 11 28 ?_); (refine L_alloc H rfl 28 rfl (cat (partsK ks0)) (fun _ _ => by kernel_rfl) ?_); clear H; intro g11 w11 HGg11 HEg11 H; simp only [pA]) | ((with_reducible show wpList _ _ _ (Oper.mk none (Op.store 28 _ (.tmp 40)) _ _ _ _ :: _) _ _); ((with_reducible refine isSt 28 ?_); refine L_sa H rfl rfl 28 _ _ rfl 0 rfl rfl (partsK s.pair) rfl rfl (by kernel_rfl) ?_; clear H; intro wk HWwk H; simp only [szA] at H)) | ((with_reducible refine isLd 25 ?_); (refine L_fv H rfl 25 _ rfl 0 rfl _ rfl _ rfl rfl Try.underlying25 rfl (by kernel_rfl) ?_); simp only [pA]) | (go_at_call 56; refine (HCO.out _ _ H.out.1).mono ?_; rintro e wa ⟨rfl, hx⟩; rw [HCB.out]; replace H := kp (H.out.ext hx); have HXC := kp hx; clear hx) | ((with_reducible show wpList _ _ _ (Oper.mk _ (Op.build 32 _) _ _ _ _ :: _) _ _); (refine L_bd rfl 32 _ rfl #[] (by kernel_rfl) (cat (partsF fw0)) (fun _ => by kernel_rfl) ?_); simp only [pA]) | ((with_reducible refine isSt 32 ?_); refine L_sa H rfl rfl 32 _ _ rfl 1 rfl rfl (partsF fw0) rfl rfl (by kernel_rfl) ?_; clear H; intro wz HWwz H; simp only [ssA, szA] at H))
     (exact ret_f3 H Try.results36 1 rfl rfl _ _ rfl rfl Try.underlying32 rfl (by kernel_rfl) rfl (resR_err HK.out H.out.1))
    | true =>
     have HCB := kp hq
     have HK := kp (HT.out.2.2 hc hq)
     clear hq hc HT
     go_wp2_with (first | ((with_reducible refine isBx 4 32 ?_); (refine L_box H rfl 32 _ rfl (cat (partsF s)) rfl ?_); clear H; intro g4 w4 HGg4 HEg4 H; simp only [pA]) | ((with_reducible refine isBx 6 89 ?_); (refine L_box H rfl 89 _ rfl (cat (partsM (kindP b) (countP b) (nonceP b) ad m cp)) rfl ?_); clear H; intro g6 w6 HGg6 HEg6 H; simp only [pA]) | ((with_reducible refine isAl 8 32 ?_); (refine L_alloc H rfl 32 rfl (cat (partsF fw0)) (fun _ _ => by kernel_rfl) ?_); clear H; intro g8 w8 HGg8 HEg8 H; simp only [pA]) | ((with_reducible refine isLd 5 ?_); (first | (refine L_f1 H rfl 5 _ rfl 1 rfl _ rfl _ rfl _ rfl Try.underlying5 rfl ?_) | (refine L_f1 H rfl 5 _ rfl 2 rfl _ rfl _ rfl _ rfl Try.underlying5 rfl ?_)); simp only [pA]) | ((with_reducible refine isLd 3 ?_); (first | (refine L_f1 H rfl 3 _ rfl 1 rfl _ rfl _ rfl _ rfl Try.underlying3 rfl ?_) | (refine L_f1 H rfl 3 _ rfl 2 rfl _ rfl _ rfl _ rfl Try.underlying3 rfl ?_)); simp only [pA]) | ((with_reducible refine isLd 28 ?_); (refine L_fg H rfl 28 _ rfl 2 rfl _ rfl _ rfl (partsK s.pair) rfl Try.underlying28 rfl (by kernel_rfl) ?_); simp only [pA]) | ((with_reducible refine isAl 11 28 ?_); (refine L_alloc H rfl 28 rfl (cat (partsK ks0)) (fun _ _ => by kernel_rfl) ?_); clear H; intro g11 w11 HGg11 HEg11 H; simp only [pA]) | ((with_reducible show wpList _ _ _ (Oper.mk none (Op.store 28 _ (.tmp 40)) _ _ _ _ :: _) _ _); ((with_reducible refine isSt 28 ?_); refine L_sa H rfl rfl 28 _ _ rfl 0 rfl rfl (partsK s.pair) rfl rfl (by kernel_rfl) ?_; clear H; intro wk HWwk H; simp only [szA] at H)) | ((with_reducible refine isLd 25 ?_); (refine L_fv H rfl 25 _ rfl 0 rfl _ rfl _ rfl rfl Try.underlying25 rfl (by kernel_rfl) ?_); simp only [pA]) | (go_at_call 56; refine (HCO.out _ _ H.out.1).mono ?_; rintro e wa ⟨rfl, hx⟩; rw [HCB.out]; replace H := kp (H.out.ext hx); have HXC := kp hx; clear hx) | ((with_reducible refine isSt 5 ?_); (refine L_s1 H rfl rfl 5 _ _ rfl 3 rfl _ rfl _ rfl _ rfl rfl rfl rfl (by kernel_rfl) (_) rfl ?_; clear H; intro wb HWwb H; simp only [ssA, szA] at H)) | ((with_reducible refine isSt 3 ?_); (refine L_s1 H rfl rfl 3 _ _ rfl 3 rfl _ rfl _ rfl _ rfl rfl rfl rfl (by kernel_rfl) (_) rfl ?_; clear H; intro wc HWwc H; simp only [ssA, szA] at H)) | ((with_reducible refine isLd 32 ?_); (refine L_fa H rfl 32 _ rfl 3 rfl rfl Try.underlying32 rfl (by kernel_rfl) ?_); simp only [pA]) | ((with_reducible refine isSt 32 ?_); refine L_sa H rfl rfl 32 _ _ rfl 1 rfl rfl (partsF { s with stage := 4, inst := 1, tries := 0, due := 0 }) rfl rfl (by kernel_rfl) ?_; clear H; intro wz HWwz H; simp only [ssA, szA] at H))
     (exact ret_f3 H Try.results36 1 rfl rfl _ _ rfl rfl Try.underlying32 rfl (by kernel_rfl) rfl (resR_ok HK.out (SlBB.nil _ _) (Nat.le_refl _) H.out.1))
   ·have hcb : (countP b != s.replay) = true := by simpa using hc
    have HK := kp (HT.out.1 hc)
    clear hc
    go_wp2_with (first | ((with_reducible refine isBx 4 32 ?_); (refine L_box H rfl 32 _ rfl (cat (partsF s)) rfl ?_); clear H; intro g4 w4 HGg4 HEg4 H; simp only [pA]) | ((with_reducible refine isBx 6 89 ?_); (refine L_box H rfl 89 _ rfl (cat (partsM (kindP b) (countP b) (nonceP b) ad m cp)) rfl ?_); clear H; intro g6 w6 HGg6 HEg6 H; simp only [pA]) | ((with_reducible refine isAl 8 32 ?_); (refine L_alloc H rfl 32 rfl (cat (partsF fw0)) (fun _ _ => by kernel_rfl) ?_); clear H; intro g8 w8 HGg8 HEg8 H; simp only [pA]) | ((with_reducible refine isLd 5 ?_); (first | (refine L_f1 H rfl 5 _ rfl 1 rfl _ rfl _ rfl _ rfl Try.underlying5 rfl ?_) | (refine L_f1 H rfl 5 _ rfl 2 rfl _ rfl _ rfl _ rfl Try.underlying5 rfl ?_)); simp only [pA]) | ((with_reducible refine isLd 3 ?_); (first | (refine L_f1 H rfl 3 _ rfl 1 rfl _ rfl _ rfl _ rfl Try.underlying3 rfl ?_) | (refine L_f1 H rfl 3 _ rfl 2 rfl _ rfl _ rfl _ rfl Try.underlying3 rfl ?_)); simp only [pA]) | ((with_reducible show wpList _ _ _ (Oper.mk _ (Op.build 32 _) _ _ _ _ :: _) _ _); (refine L_bd rfl 32 _ rfl #[] (by kernel_rfl) (cat (partsF fw0)) (fun _ => by kernel_rfl) ?_); simp only [pA]) | ((with_reducible refine isSt 32 ?_); refine L_sa H rfl rfl 32 _ _ rfl 0 rfl rfl (partsF fw0) rfl rfl (by kernel_rfl) ?_; clear H; intro wz HWwz H; simp only [szA] at H))
    (exact ret_f3 H Try.results36 0 rfl rfl _ _ rfl rfl Try.underlying32 rfl (by kernel_rfl) rfl (resR_err HK.out H.out.1))
  ·have HK := kp (HN.out hA hB)
   have HA := kp hA
   have HB := kp hB
   clear hA hB
   go_wp2_with (first | ((with_reducible refine isBx 4 32 ?_); (refine L_box H rfl 32 _ rfl (cat (partsF s)) rfl ?_); clear H; intro g4 w4 HGg4 HEg4 H; simp only [pA]) | ((with_reducible refine isBx 6 89 ?_); (refine L_box H rfl 89 _ rfl (cat (partsM (kindP b) (countP b) (nonceP b) ad m cp)) rfl ?_); clear H; intro g6 w6 HGg6 HEg6 H; simp only [pA]) | ((with_reducible refine isAl 8 32 ?_); (refine L_alloc H rfl 32 rfl (cat (partsF fw0)) (fun _ _ => by kernel_rfl) ?_); clear H; intro g8 w8 HGg8 HEg8 H; simp only [pA]) | ((with_reducible refine isLd 5 ?_); (first | (refine L_f1 H rfl 5 _ rfl 1 rfl _ rfl _ rfl _ rfl Try.underlying5 rfl ?_) | (refine L_f1 H rfl 5 _ rfl 2 rfl _ rfl _ rfl _ rfl Try.underlying5 rfl ?_)); simp only [pA]) | ((with_reducible show wpList _ _ _ (Oper.mk _ (Op.build 32 _) _ _ _ _ :: _) _ _); (refine L_bd rfl 32 _ rfl #[] (by kernel_rfl) (cat (partsF fw0)) (fun _ => by kernel_rfl) ?_); simp only [pA]) | ((with_reducible refine isSt 32 ?_); refine L_sa H rfl rfl 32 _ _ rfl 0 rfl rfl (partsF fw0) rfl rfl (by kernel_rfl) ?_; clear H; intro wz HWwz H; simp only [szA] at H))
   all_goals first | ((exact ret_f3 H Try.results36 0 rfl rfl _ _ rfl rfl Try.underlying32 rfl (by kernel_rfl) rfl (resR_err HK.out H.out.1))) | (exfalso; first | exact HA.out ⟨by assumption, by assumption⟩ | exact HB.out ⟨by assumption, by assumption⟩ | exact HB.out ⟨by assumption, by simpa using (show (!kindP b == 4) = false by assumption)⟩ | (have hA := HA.out; have hB := HB.out; clear h3 h16 h22; simp_all; done))
def supF (s : Fw) (b : By) : Res := if kindP b = 1 ∧ s.stage ≠ 4 then firstF s b else if kindP b ≠ 3 ∨ s.stage = 0 then errR 20 else thirdF s b
theorem supF_1 {s : Fw} {b : By} (h1 : kindP b = 1) (h2 : s.stage ≠ 4) : supF s b = (s.first b, [signedF (keysF s (nonceP b)).c.1 2 (countP b) s.mine.1 []], 0) := by unfold supF firstF; rw [if_pos ⟨h1, h2⟩]
theorem supF_n {s : Fw} {b : By} (h1 : ¬ (kindP b = 1 ∧ s.stage ≠ 4)) (h2 : kindP b ≠ 3 ∨ s.stage = 0) : supF s b = errR 20 := by unfold supF; rw [if_neg h1, if_pos h2]
theorem count_rng {b : By} (h : parseE b = 0) : 0 ≤ countP b ∧ countP b < 4611686018427387904 := by
 obtain ⟨_, ho⟩ := parse_yes h
 obtain ⟨q, hq, _⟩ := count_nat b
 exact ⟨by omega, (odd_no ho).2.2.1⟩
set_option maxRecDepth 4000 in
set_option maxHeartbeats 3200000 in
theorem rsup1_any (s : Fw) (b : By) (v : Value) (hp : parseE b = 0) (ad : Option Addr) (m cp : Nat) (w : World) (hk : kindP b = 1) (hst : s.stage ≠ 4) :
  Calls Try.prog 37 #[.agg (cat (partsF s)).toArray, v, .agg (cat (partsM (kindP b) (countP b) (nonceP b) ad m cp)).toArray] w (ResR (supF s b) w) := by
 have H := kp (Loc.start w)
 have HK := kp (supF_1 hk hst)
 obtain ⟨hc0, hc1⟩ := count_rng hp
 have HKY := kp (fun W => rkeys_any { s with stage := 2, other := nonceP b } (nonceP b) W)
 have HKE := kp (show keysF { s with stage := 2, other := nonceP b } (nonceP b) = keysF s (nonceP b) from rfl)
 have HMS := kp (fun W => rmessage_any (keysF s (nonceP b)).c 2 (countP b) (by decide) (by decide) (by decide) hc0 (by omega) s.mine none 0 0 [] (by decide) W (SlB.nil W))
 have e1 : (kindP b == 1) = true := by simp [hk]
 have e2 : (s.stage != 4) = true := by simpa using hst
 generalize supF s b = r at *
 clear hk hst hp hc0 hc1
 go_enter Try.func37, Try.ntmps37
 generalize h5 : (Code.region 5 _ _ : Code) = R5
 go_wp2_with (first | ((with_reducible refine isBx 3 32 ?_); (refine L_box H rfl 32 _ rfl (cat (partsF s)) rfl ?_); clear H; intro g3 w3 HGg3 HEg3 H; simp only [pA]) | ((with_reducible refine isBx 5 89 ?_); (refine L_box H rfl 89 _ rfl (cat (partsM (kindP b) (countP b) (nonceP b) ad m cp)) rfl ?_); clear H; intro g5 w5 HGg5 HEg5 H; simp only [pA]) | ((with_reducible refine isAl 6 32 ?_); (refine L_alloc H rfl 32 rfl (cat (partsF fw0)) (fun _ _ => by kernel_rfl) ?_); clear H; intro g6 w6 HGg6 HEg6 H; simp only [pA]) | ((with_reducible refine isLd 5 ?_); (first | (refine L_f1 H rfl 5 _ rfl 1 rfl _ rfl _ rfl _ rfl Try.underlying5 rfl ?_) | (refine L_f1 H rfl 5 _ rfl 2 rfl _ rfl _ rfl _ rfl Try.underlying5 rfl ?_)); simp only [pA]) | ((with_reducible refine isLd 26 ?_); (refine L_fv H rfl 26 _ rfl 1 rfl _ rfl _ rfl rfl Try.underlying26 rfl (by kernel_rfl) ?_); simp only [pA]) | ((with_reducible refine isSt 5 ?_); (refine L_s1 H rfl rfl 5 _ _ rfl 2 rfl _ rfl _ rfl _ rfl rfl rfl rfl (by kernel_rfl) (_) rfl ?_; clear H; intro wb HWwb H; simp only [ssA, szA] at H)) | ((with_reducible refine isSt 26 ?_); (refine L_sv H rfl rfl 26 _ _ rfl 2 rfl _ rfl _ rfl (Lf.v (nonceP b)) rfl rfl rfl (by kernel_rfl) (_) rfl ?_; clear H; intro wd HWwd H; simp only [ssA, szA] at H)) | ((with_reducible refine isLd 32 ?_); (refine L_fa H rfl 32 _ rfl 2 rfl rfl Try.underlying32 rfl (by kernel_rfl) ?_); simp only [pA]) | (go_at_call 55; refine (HKY.out _).mono ?_; rintro e wa ⟨rfl, hx⟩; rw [HKE.out]; replace H := kp (H.out.ext hx); have HXC := kp hx; clear hx) | ((with_reducible refine isSt 28 ?_); (refine L_sg H rfl rfl 28 _ _ rfl 2 rfl _ rfl _ rfl 3 (partsK (keysF s (nonceP b))) rfl rfl (by kernel_rfl) (_) rfl ?_; clear H; intro we HWwe H; simp only [ssA, szA] at H)))
 obtain ⟨s', hs'⟩ : ∃ t, t = s.first b := ⟨_, rfl⟩
 have HRS := kp (show r = (s', [signedF (keysF s (nonceP b)).c.1 2 (countP b) s.mine.1 []], 0) by rw [hs']; exact HK.out)
 have HS' := kp hs'
 generalize signedF (keysF s (nonceP b)).c.1 2 (countP b) s.mine.1 [] = M at *
 have H2 := kp (show Loc w we [(g6, 32, cat (partsF fw0)), (g5, 89, cat (partsM (kindP b) (countP b) (nonceP b) ad m cp)), (g3, 32, cat (partsF s'))] from by rw [HS'.out]; exact H.out)
 have HF1 := kp (show s'.pair.c = (keysF s (nonceP b)).c ∧ s'.mine = s.mine from by rw [HS'.out]; exact ⟨rfl, rfl⟩)
 clear H hs' HK e1 e2
 have H := H2
 clear H2
 have HLT := kp (show g6 < we.heap.size from H.out.lt 0 rfl)
 have HSZ := kp H.out.1.size
 rw [← HF1.out.1, ← HF1.out.2] at HMS
 subst h5
 refine region_free H (tabS [(32, fun vQ _ => vQ = .agg (cat (partsF s')).toArray), (33, fun vQ _ => vQ = .pointer (some ⟨g3, 65, none⟩)), (34, fun vQ _ => vQ = .pointer (some ⟨g3, 65, none⟩)), (35, fun vQ _ => vQ = .agg (s'.pair.c.1.map V8).toArray), (36, fun vQ _ => vQ = .pointer (some ⟨g5, 1, none⟩)), (37, fun vQ _ => vQ = .int .i64 (countP b)), (38, fun vQ _ => vQ = .pointer (some ⟨g3, 30, none⟩)), (39, fun vQ _ => vQ = .agg (s'.mine.1.map V8).toArray), (40, fun vQ wQ => OwnB we.heap.size M vQ wQ), (41, fun vQ wQ => SlBB we.heap.size wQ vQ [M]), (7, fun vQ wQ => SlBB we.heap.size wQ vQ [M]), (8, fun vQ _ => vQ = .int .i64 0)]) [⟨10, 0, g6, 32, cat (partsF fw0), cat (partsF s')⟩] (tabS_out _ _ (by simp only [List.forall_mem_cons, mono_eqO, true_and]; exact ⟨(mono_OwnB M HLT), (mono_SlBB _ (lt1 HLT.out)), (mono_SlBB _ (lt1 HLT.out)), by simp⟩)) 13 (by kernel_rfl) (by kernel_rfl) (by kernel_rfl) (by kernel_rfl) [10] [0] rfl rfl (by decide) (by decide) (by decide) ⟨rfl, trivial⟩ ?_
 simp only [List.take_succ_cons, List.take_zero]
 refine ⟨fun w_ o_ S_ => ?_, fun v32 => ?_⟩
 ·clear S_
  have H := kp (H.out.keep [1, 2] (St := [⟨10, 0, g6, 32, cat (partsF fw0), cat (partsF s')⟩]) ⟨rfl, trivial⟩ o_ (by decide) (by kernel_rfl))
  have HOX := kp o_
  clear o_
  go_wp2_with ((with_reducible refine isLd 32 ?_); (refine L_fa H rfl 32 _ rfl 1 rfl rfl Try.underlying32 rfl (by kernel_rfl) ?_); simp only [pA])
  exact kso
 simp only [pA]
 refine ⟨fun w_ o_ S_ => ?_, fun v33 => ?_⟩
 ·clear S_
  clear o_
  go_wp2_with fail
  exact kso
 simp only [pA]
 refine ⟨fun w_ o_ S_ => ?_, fun v34 => ?_⟩
 ·obtain rfl : v33 = .pointer (some ⟨g3, 65, none⟩) := hsR S_ 33 rfl
  clear S_ o_
  go_wp2_with fail
  exact kso
 simp only [pA]
 refine ⟨fun w_ o_ S_ => ?_, fun v35 => ?_⟩
 ·obtain rfl : v34 = .pointer (some ⟨g3, 65, none⟩) := hsR S_ 34 rfl
  clear S_
  have H := kp (H.out.keep [1, 2] (St := [⟨10, 0, g6, 32, cat (partsF fw0), cat (partsF s')⟩]) ⟨rfl, trivial⟩ o_ (by decide) (by kernel_rfl))
  have HOX := kp o_
  clear o_
  go_wp2_with ((with_reducible refine isLd 25 ?_); (refine L_fv H rfl 25 _ rfl 1 rfl _ rfl _ rfl rfl Try.underlying25 rfl (by kernel_rfl) ?_); simp only [pA])
  exact kso
 simp only [pA]
 refine ⟨fun w_ o_ S_ => ?_, fun v36 => ?_⟩
 ·clear S_
  clear o_
  go_wp2_with fail
  exact kso
 simp only [pA]
 refine ⟨fun w_ o_ S_ => ?_, fun v37 => ?_⟩
 ·obtain rfl : v36 = .pointer (some ⟨g5, 1, none⟩) := hsR S_ 36 rfl
  clear S_
  have H := kp (H.out.keep [1, 2] (St := [⟨10, 0, g6, 32, cat (partsF fw0), cat (partsF s')⟩]) ⟨rfl, trivial⟩ o_ (by decide) (by kernel_rfl))
  have HOX := kp o_
  clear o_
  go_wp2_with ((with_reducible refine isLd 3 ?_); (refine L_f1 H rfl 3 _ rfl 0 rfl _ rfl _ rfl _ rfl Try.underlying3 rfl ?_); simp only [pA])
  exact kso
 simp only [pA]
 refine ⟨fun w_ o_ S_ => ?_, fun v38 => ?_⟩
 ·clear S_
  clear o_
  go_wp2_with fail
  exact kso
 simp only [pA]
 refine ⟨fun w_ o_ S_ => ?_, fun v39 => ?_⟩
 ·obtain rfl : v38 = .pointer (some ⟨g3, 30, none⟩) := hsR S_ 38 rfl
  clear S_
  have H := kp (H.out.keep [1, 2] (St := [⟨10, 0, g6, 32, cat (partsF fw0), cat (partsF s')⟩]) ⟨rfl, trivial⟩ o_ (by decide) (by kernel_rfl))
  have HOX := kp o_
  clear o_
  go_wp2_with ((with_reducible refine isLd 26 ?_); (refine L_fv H rfl 26 _ rfl 1 rfl _ rfl _ rfl rfl Try.underlying26 rfl (by kernel_rfl) ?_); simp only [pA])
  exact kso
 simp only [pA]
 refine ⟨fun w_ o_ S_ => ?_, fun v40 => ?_⟩
 ·obtain rfl : v35 = .agg (s'.pair.c.1.map V8).toArray := hsR S_ 35 rfl
  obtain rfl : v37 = .int .i64 (countP b) := hsR S_ 37 rfl
  obtain rfl : v39 = .agg (s'.mine.1.map V8).toArray := hsR S_ 39 rfl
  clear S_
  have H := kp (H.out.keep [1, 2] (St := [⟨10, 0, g6, 32, cat (partsF fw0), cat (partsF s')⟩]) ⟨rfl, trivial⟩ o_ (by decide) (by kernel_rfl))
  have HOX := kp o_
  clear o_
  go_wp2_with fail
  refine (HMS.out _).mono ?_
  rintro e w2 ⟨v, rfl, ho, hx⟩
  have HO2 := kp (owns_weak ho HOX.out.size)
  have HXC := kp hx
  clear ho hx
  go_wp2_with fail
  exact ⟨rfl, _, rfl, fun d hd => by cases hd; exact HO2.out, HXC.out⟩
 simp only [pA]
 refine ⟨fun w_ o_ S_ => ?_, fun v41 => ?_⟩
 ·have h40 := kp (show OwnB we.heap.size M v40 w_ from hsR S_ 40 rfl)
  clear S_
  have H := kp (H.out.keep [1, 2] (St := [⟨10, 0, g6, 32, cat (partsF fw0), cat (partsF s')⟩]) ⟨rfl, trivial⟩ o_ (by decide) (by kernel_rfl))
  have HOX := kp o_
  clear o_
  obtain ⟨av, nv, cv, hv4⟩ := owns_form2 h40.out
  subst hv4
  have HO4 := kp h40.out
  clear h40
  go_wp2_with ((with_reducible show wpList _ _ _ (Oper.mk (some 41) (Op.buildSlice 34 _ _) _ _ _ _ :: _) _ _); (refine L_bs H (by kernel_rfl) 34 1 _ rfl (#[(0, .slice av nv cv)]) (by kernel_rfl) 33 ([.slice av nv cv]) (fun _ => by kernel_rfl) ?_); clear H; intro g41 w41 HGg41 HEg41 H; simp only [pA])
  exact ⟨rfl, _, rfl, fun d hd => by cases hd; exact SlBB.one (H.out.at 0 rfl) (by have q1 := HGg41.out; have q2 := HOX.out.size; omega) (owns_ext HO4.out HEg41.out), HEg41.out⟩
 simp only [pA]
 refine ⟨⟨rfl, rfl, fun ws10 hos10 hSs10 hLs10 => ?_⟩, ?_⟩
 ·obtain rfl : v32 = .agg (cat (partsF s')).toArray := hSs10 32 (by decide) (by decide)
  exact run_sto 32 _ _ rfl rfl rfl hLs10 (sizeFw _) (len_F _ _) (by simpa using cat_one (partsF s'))
 refine ⟨fun w_ o_ S_ => ?_, fun v7 => ?_⟩
 ·have h41 := kp (show SlBB we.heap.size w_ v41 [M] from hsR S_ 41 rfl)
  clear S_ o_
  go_wp2_with fail
  exact ⟨rfl, _, rfl, fun d hd => by cases hd; exact h41.out, Ext.refl _⟩
 simp only [pA]
 refine ⟨fun w_ o_ S_ => ?_, fun v8 => ?_⟩
 ·clear S_
  clear o_
  go_wp2_with fail
  exact kso
 simp only [pA]
 clear H
 intro wy HOX H hfin
 obtain rfl : v32 = .agg (cat (partsF s')).toArray := hfin 32 (by decide)
 obtain rfl : v33 = .pointer (some ⟨g3, 65, none⟩) := hfin 33 (by decide)
 obtain rfl : v34 = .pointer (some ⟨g3, 65, none⟩) := hfin 34 (by decide)
 obtain rfl : v35 = .agg (s'.pair.c.1.map V8).toArray := hfin 35 (by decide)
 obtain rfl : v36 = .pointer (some ⟨g5, 1, none⟩) := hfin 36 (by decide)
 obtain rfl : v37 = .int .i64 (countP b) := hfin 37 (by decide)
 obtain rfl : v38 = .pointer (some ⟨g3, 30, none⟩) := hfin 38 (by decide)
 obtain rfl : v39 = .agg (s'.mine.1.map V8).toArray := hfin 39 (by decide)
 have F40 := kp (show OwnB we.heap.size M v40 wy from hfin 40 (by decide))
 have F41 := kp (show SlBB we.heap.size wy v41 [M] from hfin 41 (by decide))
 have F7 := kp (show SlBB we.heap.size wy v7 [M] from hfin 7 (by decide))
 obtain rfl : v8 = .int .i64 0 := hfin 8 (by decide)
 clear hfin
 simp only [List.drop_succ_cons, List.drop_zero]
 simp only [applyS] at H
 go_wp2_with fail
 (exact ret_f3 H Try.results37 0 rfl rfl _ _ rfl rfl Try.underlying32 rfl (by kernel_rfl) rfl (resR_ok HRS.out F7.out HSZ.out H.out.1))
set_option maxRecDepth 4000 in
set_option maxHeartbeats 3200000 in
theorem rsup20_any (s : Fw) (b : By) (v : Value) (ad : Option Addr) (m cp : Nat) (w : World) (h1 : ¬ (kindP b = 1 ∧ s.stage ≠ 4)) (h2 : kindP b ≠ 3 ∨ s.stage = 0) :
  Calls Try.prog 37 #[.agg (cat (partsF s)).toArray, v, .agg (cat (partsM (kindP b) (countP b) (nonceP b) ad m cp)).toArray] w (ResR (supF s b) w) := by
 have H := kp (Loc.start w)
 have HK := kp (supF_n h1 h2)
 have HA := kp h1
 have HB := kp h2
 generalize supF s b = r at *
 clear h1 h2
 go_enter Try.func37, Try.ntmps37
 generalize h2 : (Code.region 2 _ _ : Code) = R2
 generalize h8 : (Code.region 8 _ _ : Code) = R8
 go_wp2_with (first | ((with_reducible refine isBx 3 32 ?_); (refine L_box H rfl 32 _ rfl (cat (partsF s)) rfl ?_); clear H; intro g3 w3 HGg3 HEg3 H; simp only [pA]) | ((with_reducible refine isBx 5 89 ?_); (refine L_box H rfl 89 _ rfl (cat (partsM (kindP b) (countP b) (nonceP b) ad m cp)) rfl ?_); clear H; intro g5 w5 HGg5 HEg5 H; simp only [pA]) | ((with_reducible refine isAl 6 32 ?_); (refine L_alloc H rfl 32 rfl (cat (partsF fw0)) (fun _ _ => by kernel_rfl) ?_); clear H; intro g6 w6 HGg6 HEg6 H; simp only [pA]) | ((with_reducible refine isLd 5 ?_); (first | (refine L_f1 H rfl 5 _ rfl 1 rfl _ rfl _ rfl _ rfl Try.underlying5 rfl ?_) | (refine L_f1 H rfl 5 _ rfl 2 rfl _ rfl _ rfl _ rfl Try.underlying5 rfl ?_)); simp only [pA]) | ((with_reducible show wpList _ _ _ (Oper.mk _ (Op.build 32 _) _ _ _ _ :: _) _ _); (refine L_bd rfl 32 _ rfl #[] (by kernel_rfl) (cat (partsF fw0)) (fun _ => by kernel_rfl) ?_); simp only [pA]) | ((with_reducible refine isSt 32 ?_); refine L_sa H rfl rfl 32 _ _ rfl 0 rfl rfl (partsF fw0) rfl rfl (by kernel_rfl) ?_; clear H; intro wz HWwz H; simp only [szA] at H))
 all_goals first | ((exact ret_f3 H Try.results37 0 rfl rfl _ _ rfl rfl Try.underlying32 rfl (by kernel_rfl) rfl (resR_err HK.out H.out.1))) | (exfalso; have hA := HA.out; have hB := HB.out; clear h2 h8; simp_all; done)
end Go.Proofs.Ytibncchobkaaiaa
