/- Texts of this proof, put together: RfK, Opn, HsB, FreeN, Sid, Pas, HsC, Alv, Ms. -/
import Derived.Test.YtibncchobkaaiaaF28
import Derived.Test.YtibncchobkaaiaaF29
import Derived.Test.YtibncchobkaaiaaF35
import Derived.Test.YtibncchobkaaiaaF19
import Derived.Test.YtibncchobkaaiaaF4
import Derived.ChangeArms
import Derived.Deep.Slices
import Derived.Test.YtibncchobkaaiaaF16
import Derived.Test.YtibncchobkaaiaaF5
import Derived.Test.YtibncchobkaaiaaF23
import Derived.Test.YtibncchobkaaiaaF14
import Derived.Test.YtibncchobkaaiaaF10
import Derived.Test.YtibncchobkaaiaaF1
namespace Go.Proofs.Ytibncchobkaaiaa
open Go.RowKit
theorem sup_stage {s : Fw} (h : checkB s = true) (hr : s.role = 2) : s.stage = 0 ∨ s.stage = 2 ∨ s.stage = 4 := by
 unfold checkB validF at h
 simp only [Bool.and_eq_true] at h
 have hv := h.1.2
 rw [if_neg (by omega), if_pos hr] at hv
 unfold validSupF at hv
 split at hv
 ·cases hv
 ·rename_i b1
  have b1 : badS1 s = false := by simpa using b1
  unfold badS1 doneB idleB at b1
  simp only [Bool.or_eq_false_iff] at b1
  have := b1.1.1.1.1.1
  simp at this
  omega
theorem handle_e {s : Fw} {b : By} {now : Int} (h : checkedF s now ≠ 0) : handleF s b now = errR (checkedF s now) := by unfold handleF; rw [if_pos h]
theorem handle_p {s : Fw} {b : By} {now : Int} (h : checkedF s now = 0) (hp : parseE b ≠ 0) : handleF s b now = errR (parseE b) := by unfold handleF; rw [if_neg (by omega), if_pos hp]
theorem handle_1 {s : Fw} {b : By} {now : Int} (h : checkedF s now = 0) (hp : parseE b = 0) (hr : s.role = 1) : handleF s b now = authF s b now := by
 unfold handleF authF
 rw [if_neg (by omega), if_neg (by omega)]
 simp [hr]
theorem handle_2 {s : Fw} {b : By} {now : Int} (h : checkedF s now = 0) (hp : parseE b = 0) (hr : s.role = 2) (hst : s.stage = 0 ∨ s.stage = 2 ∨ s.stage = 4) : handleF s b now = supF s b := by
 unfold handleF supF
 rw [if_neg (by omega), if_neg (by omega)]
 by_cases k1 : kindP b = 1
 ·rcases hst with e | e | e <;> simp [hr, k1, e]
 ·by_cases k3 : kindP b = 3
  ·rcases hst with e | e | e <;> simp [hr, k3, e]
  ·simp [hr, k1, k3]
theorem rsupA_any (s : Fw) (gb ob n c : Nat) (b : By) (hst : s.stage = 0 ∨ s.stage = 2 ∨ s.stage = 4) (hp : parseE b = 0) (hb : b.length ≤ 100000) (ad : Option Addr) (m cp : Nat) (w : World) (hs : SlB w (.slice (some ⟨gb, ob, none⟩) n c) b) (hcap : CapOk (.slice (some ⟨gb, ob, none⟩) n c)) (hsd : SlB w (.slice ad m cp) (dataP b)) (hcd : CapOk (.slice ad m cp)) :
  Calls Try.prog 37 #[.agg (cat (partsF s)).toArray, .slice (some ⟨gb, ob, none⟩) n c, .agg (cat (partsM (kindP b) (countP b) (nonceP b) ad m cp)).toArray] w (ResR (supF s b) w) := by
 by_cases h1 : kindP b = 1 ∧ s.stage ≠ 4
 ·exact rsup1_any s b _ hp ad m cp w h1.1 h1.2
 ·by_cases h2 : kindP b ≠ 3 ∨ s.stage = 0
  ·exact rsup20_any s b _ ad m cp w h1 h2
  ·exact rsup3_any s gb ob n c b (by omega) (by omega) hp hb ad m cp w hs hcap hsd hcd
set_option maxRecDepth 4000 in
set_option maxHeartbeats 3200000 in
theorem rhandle_short (s : Fw) (h0 : 0 ≤ s.stage) (b : By) (ad : Option Addr) (n c : Nat) (hn : n = b.length) (h43 : b.length < 43) (now : Int) (w : World) : Calls Try.prog 16 #[.agg (cat (partsF s)).toArray, .slice ad n c, .int .i64 now] w (ResR (handleF s b now) w) := by
 have H := kp (Loc.start w)
 have HC := kp (rbefore_any s h0 now)
 have HE := kp (fun h => handle_e (s := s) (b := b) (now := now) h)
 have HPE := kp (show parseE b = 10 by unfold parseE; rw [if_pos h43])
 have HP := kp (fun h => handle_p (s := s) (b := b) (now := now) h (by rw [HPE.out]; decide))
 have HRP := kp (rparse_short ad n c b hn h43)
 rw [HPE.out] at HP
 generalize handleF s b now = r at *
 generalize checkedF s now = E at *
 clear h0 hn h43
 go_enter Try.func16, Try.ntmps16
 by_cases hE : E = 0
 ·subst hE
  have HK := kp (HP.out rfl)
  go_wp2_with (first | ((with_reducible refine isBx 3 32 ?_); (refine L_box H rfl 32 _ rfl (cat (partsF s)) rfl ?_); clear H; intro g3 w3 HGg3 HEg3 H; simp only [pA]) | ((with_reducible refine isAl 6 32 ?_); (refine L_alloc H rfl 32 rfl (cat (partsF fw0)) (fun _ _ => by kernel_rfl) ?_); clear H; intro g6 w6 HGg6 HEg6 H; simp only [pA]) | ((with_reducible refine isLd 32 ?_); (refine L_fa H rfl 32 _ rfl 1 rfl rfl Try.underlying32 rfl (by kernel_rfl) ?_); simp only [pA]) | (go_at_call 31; refine (HC.out _).mono ?_; rintro e wa ⟨rfl, hx⟩; replace H := kp (H.out.ext hx); have HXC := kp hx; clear hx) | (go_at_call 35; refine (HRP.out _).mono ?_; rintro e wb ⟨k0, c0, n0, a0, m0, p0, rfl, hx, -⟩; rw [HPE.out]; replace H := kp (H.out.ext hx); have HXC := kp hx; clear hx) | ((with_reducible refine isAl 10 89 ?_); (refine L_alloc H rfl 89 rfl (cat (partsM 0 0 (zv 16) none 0 0)) (fun _ _ => by kernel_rfl) ?_); clear H; intro g10 w10 HGg10 HEg10 H; simp only [pA]) | ((with_reducible refine isSt 89 ?_); ((with_reducible refine isSt 89 ?_); refine L_sa H rfl rfl 89 _ _ rfl 0 rfl rfl (partsM k0 c0 n0 a0 m0 p0) rfl rfl (by kernel_rfl) ?_; clear H; intro wp HWwp H; simp only [szA] at H)) | ((with_reducible show wpList _ _ _ (Oper.mk _ (Op.build 32 _) _ _ _ _ :: _) _ _); (refine L_bd rfl 32 _ rfl #[] (by kernel_rfl) (cat (partsF fw0)) (fun _ => by kernel_rfl) ?_); simp only [pA]) | ((with_reducible refine isSt 32 ?_); refine L_sa H rfl rfl 32 _ _ rfl 1 rfl rfl (partsF fw0) rfl rfl (by kernel_rfl) ?_; clear H; intro wz HWwz H; simp only [ssA, szA] at H))
  (exact ret_f3 H Try.results16 1 rfl rfl _ _ rfl rfl Try.underlying32 rfl (by kernel_rfl) rfl (resR_err HK.out H.out.1))
 ·have HK := kp (HE.out hE)
  have hb : (E != 0) = true := by simpa using hE
  clear hE
  go_wp2_with (first | ((with_reducible refine isBx 3 32 ?_); (refine L_box H rfl 32 _ rfl (cat (partsF s)) rfl ?_); clear H; intro g3 w3 HGg3 HEg3 H; simp only [pA]) | ((with_reducible refine isAl 6 32 ?_); (refine L_alloc H rfl 32 rfl (cat (partsF fw0)) (fun _ _ => by kernel_rfl) ?_); clear H; intro g6 w6 HGg6 HEg6 H; simp only [pA]) | ((with_reducible refine isLd 32 ?_); (refine L_fa H rfl 32 _ rfl 1 rfl rfl Try.underlying32 rfl (by kernel_rfl) ?_); simp only [pA]) | (go_at_call 31; refine (HC.out _).mono ?_; rintro e wa ⟨rfl, hx⟩; replace H := kp (H.out.ext hx); have HXC := kp hx; clear hx) | ((with_reducible show wpList _ _ _ (Oper.mk _ (Op.build 32 _) _ _ _ _ :: _) _ _); (refine L_bd rfl 32 _ rfl #[] (by kernel_rfl) (cat (partsF fw0)) (fun _ => by kernel_rfl) ?_); simp only [pA]) | ((with_reducible refine isSt 32 ?_); refine L_sa H rfl rfl 32 _ _ rfl 0 rfl rfl (partsF fw0) rfl rfl (by kernel_rfl) ?_; clear H; intro wz HWwz H; simp only [szA] at H))
  (exact ret_f3 H Try.results16 0 rfl rfl _ _ rfl rfl Try.underlying32 rfl (by kernel_rfl) rfl (resR_err HK.out H.out.1))
set_option maxRecDepth 4000 in
set_option maxHeartbeats 3200000 in
theorem rhandle_long (s : Fw) (h0 : 0 ≤ s.stage) (gb ob n c : Nat) (b : By) (h43 : 43 ≤ b.length) (hb : b.length ≤ 100000) (now : Int) (w : World) (hs : SlB w (.slice (some ⟨gb, ob, none⟩) n c) b) (hcap : CapOk (.slice (some ⟨gb, ob, none⟩) n c)) : Calls Try.prog 16 #[.agg (cat (partsF s)).toArray, .slice (some ⟨gb, ob, none⟩) n c, .int .i64 now] w (ResR (handleF s b now) w) := by
 have H := kp (Loc.start w)
 have HC := kp (rbefore_any s h0 now)
 have HE := kp (fun h => handle_e (s := s) (b := b) (now := now) h)
 have HP := kp (fun h hp => handle_p (s := s) (b := b) (now := now) h hp)
 have HRP := kp (fun W (hx : Ext w W) => rparse_long gb ob n c b h43 hb W (hs.ext hx) hcap)
 have HA := kp (fun ad m cp W (hc : checkedF s now = 0) (hp : parseE b = 0) (hx : Ext w W) => rauth4_any s gb ob n c b now hc hp hb ad m cp W (hs.ext hx) hcap)
 have HS := kp (fun ad m cp W (hst : s.stage = 0 ∨ s.stage = 2 ∨ s.stage = 4) (hp : parseE b = 0) (hx : Ext w W) (h1 : SlB W (.slice ad m cp) (dataP b)) (h2 : CapOk (.slice ad m cp)) => rsupA_any s gb ob n c b hst hp hb ad m cp W (hs.ext hx) hcap h1 h2)
 clear h0 hs hcap h43 hb
 go_enter Try.func16, Try.ntmps16
 by_cases hE : checkedF s now = 0
 ·have hcz := checked_zero hE
  have hrole := (check_wait hcz.1).2.2
  by_cases hP : parseE b = 0
  ·by_cases hr : s.role = 1
   ·have HK := kp (handle_1 hE hP hr)
    have hrb : (s.role == 1) = true := by simp [hr]
    have HEQ := kp hE
    have HPQ := kp hP
    clear hr hcz hrole hE hP
    have HH := kp (fun ad m cp W hx => HA.out ad m cp W HEQ.out HPQ.out hx)
    rw [HEQ.out] at HC
    clear HA HS HP HE
    rw [← HK.out] at HH
    generalize handleF s b now = r at *
    go_wp2_with (first | ((with_reducible refine isBx 3 32 ?_); (refine L_box H rfl 32 _ rfl (cat (partsF s)) rfl ?_); clear H; intro g3 w3 HGg3 HEg3 H; simp only [pA]) | ((with_reducible refine isAl 6 32 ?_); (refine L_alloc H rfl 32 rfl (cat (partsF fw0)) (fun _ _ => by kernel_rfl) ?_); clear H; intro g6 w6 HGg6 HEg6 H; simp only [pA]) | ((with_reducible refine isLd 32 ?_); (first | (refine L_fa H rfl 32 _ rfl 0 rfl rfl Try.underlying32 rfl (by kernel_rfl) ?_) | (refine L_fa H rfl 32 _ rfl 1 rfl rfl Try.underlying32 rfl (by kernel_rfl) ?_) | (refine L_fa H rfl 32 _ rfl 2 rfl rfl Try.underlying32 rfl (by kernel_rfl) ?_)); simp only [pA]) | ((with_reducible refine isLd 5 ?_); (refine L_f1 H rfl 5 _ rfl 2 rfl _ rfl _ rfl _ rfl Try.underlying5 rfl ?_); simp only [pA]) | (go_at_call 31; refine (HC.out _).mono ?_; rintro e wa ⟨rfl, hx⟩; replace H := kp (H.out.ext hx); have HXC := kp hx; clear hx) | (go_at_call 35; refine (HRP.out _ H.out.1).mono ?_; rintro e wb ⟨k0, c0, n0, a0, m0, p0, rfl, hx, hq⟩; rw [HPQ.out]; obtain ⟨rfl, rfl, rfl, hsd, hcd⟩ := hq HPQ.out; have HDT := kp hsd; have HCD := kp hcd; clear hq hsd hcd; replace H := kp (H.out.ext hx); have HXC := kp hx; clear hx) | ((with_reducible refine isAl 10 89 ?_); (refine L_alloc H rfl 89 rfl (cat (partsM 0 0 (zv 16) none 0 0)) (fun _ _ => by kernel_rfl) ?_); clear H; intro g10 w10 HGg10 HEg10 H; simp only [pA]) | ((with_reducible refine isSt 89 ?_); ((with_reducible refine isSt 89 ?_); refine L_sa H rfl rfl 89 _ _ rfl 0 rfl rfl (partsM (kindP b) (countP b) (nonceP b) a0 m0 p0) rfl rfl (by kernel_rfl) ?_; clear H; intro wp HWwp H; simp only [szA] at H); have HDY := kp (HDT.out.past HEg10.out HWwp.out (by have := HGg10.out; omega))) | ((with_reducible refine isLd 89 ?_); (refine L_fa H rfl 89 _ rfl 0 rfl rfl Try.underlying89 rfl (by kernel_rfl) ?_); simp only [pA]) | (go_at_call 36; refine (HH.out _ _ _ _ H.out.1).mono ?_; rintro e wb ⟨v, rfl, hs, hx⟩; have HSV := kp hs; have HSB := kp H.out.1.size; have HL6 := kp (H.out.lt 1 rfl); clear hs; replace H := kp (H.out.ext hx); have HXC := kp hx; clear hx) | ((with_reducible refine isAl 12 32 ?_); (refine L_alloc H rfl 32 rfl (cat (partsF fw0)) (fun _ _ => by kernel_rfl) ?_); clear H; intro g12 w12 HGg12 HEg12 H; simp only [pA]) | ((with_reducible show wpList _ _ _ (Oper.mk none (Op.store 32 _ (.tmp 43)) _ _ _ _ :: _) _ _); ((with_reducible refine isSt 32 ?_); refine L_sa H rfl rfl 32 _ _ rfl 0 rfl rfl (partsF r.1) rfl rfl (by kernel_rfl) ?_; clear H; intro wt HWwt H; simp only [szA] at H)) | ((with_reducible show wpList _ _ _ (Oper.mk none (Op.store 32 _ (.tmp 46)) _ _ _ _ :: _) _ _); ((with_reducible refine isSt 32 ?_); refine L_sa H rfl rfl 32 _ _ rfl 2 rfl rfl (partsF r.1) rfl rfl (by kernel_rfl) ?_; clear H; intro wz HWwz H; simp only [ssA, szA] at H)))
    have HSY := kp (HSV.out.past (Ext.trans (Ext.refl _) HEg12.out) HWwt.out (by have := HGg12.out; omega))
    have HSZ := kp (HSY.out.out HWwz.out.out (by intro z hz; rcases List.mem_singleton.1 hz with rfl; exact HL6.out))
    (exact ret_f3 H Try.results16 2 rfl rfl _ _ rfl rfl Try.underlying32 rfl (by kernel_rfl) rfl (⟨_, rfl, HSZ.out.weak HSB.out, H.out.1⟩))
   ·have hr2 : s.role = 2 := hrole.resolve_left hr
    have HK := kp (handle_2 hE hP hr2 (sup_stage hcz.1 hr2))
    have hrb : (s.role == 1) = false := by simpa using hr
    have HSG := kp (sup_stage hcz.1 hr2)
    have HPQ := kp hP
    have HH := kp (fun ad m cp W hx h1 h2 => HS.out ad m cp W HSG.out HPQ.out hx h1 h2)
    rw [hE] at HC
    clear hr hcz hrole hE hP hr2 HA HS HP HE
    rw [← HK.out] at HH
    generalize handleF s b now = r at *
    go_wp2_with (first | ((with_reducible refine isBx 3 32 ?_); (refine L_box H rfl 32 _ rfl (cat (partsF s)) rfl ?_); clear H; intro g3 w3 HGg3 HEg3 H; simp only [pA]) | ((with_reducible refine isAl 6 32 ?_); (refine L_alloc H rfl 32 rfl (cat (partsF fw0)) (fun _ _ => by kernel_rfl) ?_); clear H; intro g6 w6 HGg6 HEg6 H; simp only [pA]) | ((with_reducible refine isLd 32 ?_); (first | (refine L_fa H rfl 32 _ rfl 0 rfl rfl Try.underlying32 rfl (by kernel_rfl) ?_) | (refine L_fa H rfl 32 _ rfl 1 rfl rfl Try.underlying32 rfl (by kernel_rfl) ?_) | (refine L_fa H rfl 32 _ rfl 2 rfl rfl Try.underlying32 rfl (by kernel_rfl) ?_)); simp only [pA]) | ((with_reducible refine isLd 5 ?_); (refine L_f1 H rfl 5 _ rfl 2 rfl _ rfl _ rfl _ rfl Try.underlying5 rfl ?_); simp only [pA]) | (go_at_call 31; refine (HC.out _).mono ?_; rintro e wa ⟨rfl, hx⟩; replace H := kp (H.out.ext hx); have HXC := kp hx; clear hx) | (go_at_call 35; refine (HRP.out _ H.out.1).mono ?_; rintro e wb ⟨k0, c0, n0, a0, m0, p0, rfl, hx, hq⟩; rw [HPQ.out]; obtain ⟨rfl, rfl, rfl, hsd, hcd⟩ := hq HPQ.out; have HDT := kp hsd; have HCD := kp hcd; clear hq hsd hcd; replace H := kp (H.out.ext hx); have HXC := kp hx; clear hx) | ((with_reducible refine isAl 10 89 ?_); (refine L_alloc H rfl 89 rfl (cat (partsM 0 0 (zv 16) none 0 0)) (fun _ _ => by kernel_rfl) ?_); clear H; intro g10 w10 HGg10 HEg10 H; simp only [pA]) | ((with_reducible refine isSt 89 ?_); ((with_reducible refine isSt 89 ?_); refine L_sa H rfl rfl 89 _ _ rfl 0 rfl rfl (partsM (kindP b) (countP b) (nonceP b) a0 m0 p0) rfl rfl (by kernel_rfl) ?_; clear H; intro wp HWwp H; simp only [szA] at H); have HDY := kp (HDT.out.past HEg10.out HWwp.out (by have := HGg10.out; omega))) | ((with_reducible refine isLd 89 ?_); (refine L_fa H rfl 89 _ rfl 0 rfl rfl Try.underlying89 rfl (by kernel_rfl) ?_); simp only [pA]) | (go_at_call 37; refine (HH.out _ _ _ _ H.out.1 HDY.out HCD.out).mono ?_; rintro e wb ⟨v, rfl, hs, hx⟩; have HSV := kp hs; have HSB := kp H.out.1.size; have HL6 := kp (H.out.lt 1 rfl); clear hs; replace H := kp (H.out.ext hx); have HXC := kp hx; clear hx) | ((with_reducible refine isAl 15 32 ?_); (refine L_alloc H rfl 32 rfl (cat (partsF fw0)) (fun _ _ => by kernel_rfl) ?_); clear H; intro g15 w15 HGg15 HEg15 H; simp only [pA]) | ((with_reducible show wpList _ _ _ (Oper.mk none (Op.store 32 _ (.tmp 54)) _ _ _ _ :: _) _ _); ((with_reducible refine isSt 32 ?_); refine L_sa H rfl rfl 32 _ _ rfl 0 rfl rfl (partsF r.1) rfl rfl (by kernel_rfl) ?_; clear H; intro wt HWwt H; simp only [szA] at H)) | ((with_reducible show wpList _ _ _ (Oper.mk none (Op.store 32 _ (.tmp 57)) _ _ _ _ :: _) _ _); ((with_reducible refine isSt 32 ?_); refine L_sa H rfl rfl 32 _ _ rfl 2 rfl rfl (partsF r.1) rfl rfl (by kernel_rfl) ?_; clear H; intro wz HWwz H; simp only [ssA, szA] at H)))
    have HSY := kp (HSV.out.past (Ext.trans (Ext.refl _) HEg15.out) HWwt.out (by have := HGg15.out; omega))
    have HSZ := kp (HSY.out.out HWwz.out.out (by intro z hz; rcases List.mem_singleton.1 hz with rfl; exact HL6.out))
    (exact ret_f3 H Try.results16 2 rfl rfl _ _ rfl rfl Try.underlying32 rfl (by kernel_rfl) rfl (⟨_, rfl, HSZ.out.weak HSB.out, H.out.1⟩))
  ·have HK := kp (HP.out hE hP)
   have hb : (parseE b != 0) = true := by simpa using hP
   rw [hE] at HC
   clear hcz hrole hE HA HS HP HE
   generalize handleF s b now = r at *
   go_wp2_with (first | ((with_reducible refine isBx 3 32 ?_); (refine L_box H rfl 32 _ rfl (cat (partsF s)) rfl ?_); clear H; intro g3 w3 HGg3 HEg3 H; simp only [pA]) | ((with_reducible refine isAl 6 32 ?_); (refine L_alloc H rfl 32 rfl (cat (partsF fw0)) (fun _ _ => by kernel_rfl) ?_); clear H; intro g6 w6 HGg6 HEg6 H; simp only [pA]) | ((with_reducible refine isLd 32 ?_); (refine L_fa H rfl 32 _ rfl 1 rfl rfl Try.underlying32 rfl (by kernel_rfl) ?_); simp only [pA]) | (go_at_call 31; refine (HC.out _).mono ?_; rintro e wa ⟨rfl, hx⟩; replace H := kp (H.out.ext hx); have HXC := kp hx; clear hx) | (go_at_call 35; refine (HRP.out _ H.out.1).mono ?_; rintro e wb ⟨k0, c0, n0, a0, m0, p0, rfl, hx, -⟩; replace H := kp (H.out.ext hx); have HXC := kp hx; clear hx) | ((with_reducible refine isAl 10 89 ?_); (refine L_alloc H rfl 89 rfl (cat (partsM 0 0 (zv 16) none 0 0)) (fun _ _ => by kernel_rfl) ?_); clear H; intro g10 w10 HGg10 HEg10 H; simp only [pA]) | ((with_reducible refine isSt 89 ?_); ((with_reducible refine isSt 89 ?_); refine L_sa H rfl rfl 89 _ _ rfl 0 rfl rfl (partsM k0 c0 n0 a0 m0 p0) rfl rfl (by kernel_rfl) ?_; clear H; intro wp HWwp H; simp only [szA] at H)) | ((with_reducible show wpList _ _ _ (Oper.mk _ (Op.build 32 _) _ _ _ _ :: _) _ _); (refine L_bd rfl 32 _ rfl #[] (by kernel_rfl) (cat (partsF fw0)) (fun _ => by kernel_rfl) ?_); simp only [pA]) | ((with_reducible refine isSt 32 ?_); refine L_sa H rfl rfl 32 _ _ rfl 1 rfl rfl (partsF fw0) rfl rfl (by kernel_rfl) ?_; clear H; intro wz HWwz H; simp only [ssA, szA] at H))
   (exact ret_f3 H Try.results16 1 rfl rfl _ _ rfl rfl Try.underlying32 rfl (by kernel_rfl) rfl (resR_err HK.out H.out.1))
 ·have HK := kp (HE.out hE)
  have hb : (checkedF s now != 0) = true := by simpa using hE
  clear hE
  go_wp2_with (first | ((with_reducible refine isBx 3 32 ?_); (refine L_box H rfl 32 _ rfl (cat (partsF s)) rfl ?_); clear H; intro g3 w3 HGg3 HEg3 H; simp only [pA]) | ((with_reducible refine isAl 6 32 ?_); (refine L_alloc H rfl 32 rfl (cat (partsF fw0)) (fun _ _ => by kernel_rfl) ?_); clear H; intro g6 w6 HGg6 HEg6 H; simp only [pA]) | ((with_reducible refine isLd 32 ?_); (refine L_fa H rfl 32 _ rfl 1 rfl rfl Try.underlying32 rfl (by kernel_rfl) ?_); simp only [pA]) | (go_at_call 31; refine (HC.out _).mono ?_; rintro e wa ⟨rfl, hx⟩; replace H := kp (H.out.ext hx); have HXC := kp hx; clear hx) | ((with_reducible show wpList _ _ _ (Oper.mk _ (Op.build 32 _) _ _ _ _ :: _) _ _); (refine L_bd rfl 32 _ rfl #[] (by kernel_rfl) (cat (partsF fw0)) (fun _ => by kernel_rfl) ?_); simp only [pA]) | ((with_reducible refine isSt 32 ?_); refine L_sa H rfl rfl 32 _ _ rfl 0 rfl rfl (partsF fw0) rfl rfl (by kernel_rfl) ?_; clear H; intro wz HWwz H; simp only [szA] at H))
  (exact ret_f3 H Try.results16 0 rfl rfl _ _ rfl rfl Try.underlying32 rfl (by kernel_rfl) rfl (resR_err HK.out H.out.1))
def Tr {H : Type} (enc : TypeId × Value → H) (P : Program) (w : World) (base : Nat) (T : TypeId) (cs : List Value) : Prop := ∃ fuel x, DataW.trod enc P w base (fun _ => true) true fuel T cs = some x
theorem spot_none {w : World} {a : Addr} {v : Value} (h : w.cell? a = some v) : a.spot = none := by
 unfold World.cell? at h
 split at h
 ·split at h
  ·cases h
  ·rename_i h2; cases hs : a.spot with
   | none => rfl
   | some s => rw [hs] at h2; exact absurd rfl h2
 ·cases h
section
variable {H : Type} {enc : TypeId × Value → H} {P : Program} {w : World} {base : Nat} {T : TypeId} {cs : List Value}
theorem Tr.of {v : Value} {d : DataW H} {p : List MemPlace} (h : DataW.Trod enc P w base (fun _ => true) true T v d p) : Tr enc P w base T v.cells.toList := by
 obtain ⟨fuel, hf⟩ := h; exact ⟨fuel, _, hf⟩
theorem Tr.int {k : IntKind} (hT : P.underlying T = some (.int k)) (h : Tr enc P w base T cs) : ∃ n, cs = [.int k n] ∧ (Lit.int k n).wf = true := by
 obtain ⟨f, x, h⟩ := h
 obtain ⟨n, h1, _, h2⟩ := DataW.trod_int hT h
 exact ⟨n, h1, h2⟩
theorem Tr.bool (hT : P.underlying T = some .bool) (h : Tr enc P w base T cs) : ∃ b, cs = [.bool b] := by
 obtain ⟨f, x, h⟩ := h
 obtain ⟨b, h1, _⟩ := DataW.trod_bool hT h
 exact ⟨b, h1⟩
theorem Tr.string (hT : P.underlying T = some .string) (h : Tr enc P w base T cs) : ∃ s : ByteArray, cs = [.string s] ∧ s.size ≤ maxLen := by
 obtain ⟨f, x, h⟩ := h
 obtain ⟨s, h1, _, h2⟩ := DataW.trod_string hT h
 exact ⟨s, h1, h2⟩
theorem Tr.struct {fs : Array Field} (hT : P.underlying T = some (.struct fs)) (h : Tr enc P w base T cs) : cs.length = P.cellsOf T ∧ ∀ (i : Nat) (f : Field), fs[i]? = some f → Tr enc P w base f.type ((cs.drop f.offset).take (P.cellsOf f.type)) := by
 obtain ⟨f, x, h⟩ := h
 obtain ⟨xs, n, _, _, hl, hn, hf⟩ := DataW.trod_struct hT h
 refine ⟨hl, fun i f hi => ?_⟩
 have h1 := hf i f hi
 have hlt := (Array.getElem?_eq_some_iff.1 hi).1
 rw [List.getElem?_eq_getElem (by omega)] at h1
 exact ⟨n, _, h1⟩
theorem Tr.field {fs : Array Field} (hT : P.underlying T = some (.struct fs)) (h : Tr enc P w base T cs) (i t off n : Nat) (hf : (fs[i]?).map (fun f => (f.type, f.offset)) = some (t, off)) (hn : P.cellsOf t = n) : Tr enc P w base t ((cs.drop off).take n) := by
 cases hq : fs[i]? with
 | none => rw [hq] at hf; cases hf
 | some f =>
  rw [hq] at hf
  have h1 := (h.struct hT).2 i f hq
  cases hf
  rw [← hn]; exact h1
theorem Tr.len {fs : Array Field} (hT : P.underlying T = some (.struct fs)) (h : Tr enc P w base T cs) (n : Nat) (hn : P.cellsOf T = n) : cs.length = n := by rw [← hn]; exact (h.struct hT).1
theorem Tr.array {n : Nat} {e : TypeId} (hT : P.underlying T = some (.array n e)) (h : Tr enc P w base T cs) : cs.length = P.cellsOf T ∧ ∀ i : Nat, i < n → Tr enc P w base e ((cs.drop (i * P.cellsOf e)).take (P.cellsOf e)) := by
 obtain ⟨f, x, h⟩ := h
 obtain ⟨xs, m, _, _, hl, hn, hf⟩ := DataW.trod_array hT h
 refine ⟨hl, fun i hi => ?_⟩
 have h1 := hf i hi
 rw [List.getElem?_eq_getElem (by omega)] at h1
 exact ⟨m, _, h1⟩
theorem Tr.slice {e : TypeId} (hT : P.underlying T = some (.slice e)) (hc : 0 < P.cellsOf e) (h : Tr enc P w base T cs) : ∃ (ad : Option Addr) (len cap : Nat), cs = [.slice ad len cap] ∧ len ≤ cap ∧ cap ≤ maxLen ∧ (ad = none → len = 0 ∧ cap = 0) ∧
  ∀ i : Nat, i < len → ∃ b off es, ad = some ⟨b, off, none⟩ ∧ b < w.heap.size ∧ es.length = P.cellsOf e ∧ Tr enc P w base e es ∧ w.rangeAt b (off + i * P.cellsOf e) es := by
 obtain ⟨f, x, h⟩ := h
 rcases Deep.open_slice hT h with ⟨h0, _⟩ | ⟨a, len, cap, m, n, D, Pl, h1, h2, h3, h4, hm, _, hx⟩
 ·exact ⟨none, 0, 0, h0, Nat.le_refl _, Nat.zero_le _, (fun _ => ⟨rfl, rfl⟩), fun i hi => absurd hi (by omega)⟩
 ·refine ⟨some a, len, cap, h1, h3, h4, (fun h => by cases h), fun i hi => ?_⟩
  have hsp : a.spot = none := by
   obtain ⟨es, he, _⟩ := hx 0 (by rw [hm]; simp; omega)
   obtain ⟨_, hl, hcell⟩ := World.cells?_some he
   have h0 := hcell 0 hc
   rw [List.getElem?_eq_getElem (by omega)] at h0
   rw [show (a.add (0 * P.cellsOf e)).add 0 = a by simp [Addr.add]] at h0
   exact spot_none h0
  obtain ⟨b, off, s⟩ := a
  cases hsp
  obtain ⟨es, he, ht⟩ := hx i (by rw [hm]; simp; omega)
  obtain ⟨_, hl, hcell⟩ := World.cells?_some he
  have hr : w.rangeAt b (off + i * P.cellsOf e) es := fun j v hv => by
   have hj := (List.getElem?_eq_some_iff.1 hv).1
   have h0 := hcell j (by omega)
   rw [Addr.add_mid, Addr.add_mid, hv] at h0
   exact h0
  have h0 : ∃ v, es[0]? = some v := ⟨es[0]'(by omega), by simp⟩
  obtain ⟨v, hv⟩ := h0
  exact ⟨b, off, es, rfl, block_lt_of_cell (hr 0 v hv), hl, ⟨n, _, ht⟩, hr⟩
theorem bytes_of {m : List Value} (h : ∀ i : Nat, i < m.length → ∃ n, m[i]? = some (.int .u8 n) ∧ (Lit.int .u8 n).wf = true) : ∃ l : List (BitVec 8), m = l.map V8 := by
 induction m with
 | nil => exact ⟨[], rfl⟩
 | cons v m ih =>
  obtain ⟨l, hl⟩ := ih fun i hi => by simpa using h (i + 1) (by simpa using hi)
  obtain ⟨n, hn, hw⟩ := h 0 (by simp)
  obtain ⟨x, rfl⟩ := bv_of_wf (m := 8) .u8 (.inl ⟨rfl, rfl⟩) hw
  have : v = V8 x := by simpa using hn
  exact ⟨x :: l, by rw [this, hl]; rfl⟩
theorem Tr.bytes {n : Nat} {e : TypeId} (hT : P.underlying T = some (.array n e)) (hE : P.underlying e = some (.int .u8)) (hc : P.cellsOf e = 1) (hC : P.cellsOf T = n) (h : Tr enc P w base T cs) : ∃ l : List (BitVec 8), l.length = n ∧ cs = l.map V8 := by
 obtain ⟨hl, ha⟩ := h.array hT
 rw [hC] at hl
 obtain ⟨l, rfl⟩ := bytes_of (m := cs) fun i hi => by
  obtain ⟨k, hk, hw⟩ := (ha i (by omega)).int hE
  rw [hc] at hk
  refine ⟨k, ?_, hw⟩
  have : ((cs.drop (i * 1)).take 1)[0]? = some (.int .u8 k) := by rw [hk]; rfl
  simpa using this
 exact ⟨l, by simpa using hl, rfl⟩
end
structure Pr where
 one : Vc 6
 two : Vc 6
 master : Vc 16
 otherK : Vc 16
 mine : Vc 16
 his : Vc 16
 gid : Int
 gkey : Vc 16
structure Ev where
 kind : Int
 to : Int
 which : Int
 pos : Int
 by_ : BitVec 8
 wait : Int
 counter : Int
 nonce : Vc 16
def badEv (o : Ev) : Bool := decide (o.wait < 0) || decide (1000000 < o.wait) || decide (o.which < 0) || decide (o.pos < 0) || decide (o.counter < 0) || decide (1099511627776 < o.counter)
def greatF (l : List Ev) : Bool := decide (60 < l.length) || l.any badEv
def altF (o : Ev) (b : By) : By := b.set (o.pos.toNat % b.length) (b.getD (o.pos.toNat % b.length) 0 ^^^ o.by_)
def msgF (o : Ev) (sent : List By) : Option By :=
 if o.kind = 3 then some (signedF (zv 16).1 1 o.counter o.nonce.1 []) else if o.kind ≠ 2 ∨ sent = [] then none else some (altF o (sent.getD (o.which.toNat % sent.length) []))
def stepF (o : Ev) (now : Int) (sent : List By) (s : Fw) : Res :=
 if o.kind = 0 then startF s now else match msgF o sent with | some b => handleF s b now | none => tickF s now
structure Pr.Ok (p : Pr) : Prop where
 ne : p.one ≠ p.two
 gid : p.gid = 2 ∨ p.gid = 3
def stA0 (p : Pr) : Fw := { fw0 with role := 1, own := p.one, peer := p.two, master := p.master, mine := p.mine, gid := p.gid, gkey := p.gkey }
def stS0 (p : Pr) : Fw := { fw0 with role := 2, own := p.two, peer := p.one, master := p.otherK, mine := p.his }
def Adj {α : Type} (R : α → α → Prop) : List α → Prop
 | x :: y :: l => R x y ∧ Adj R (y :: l)
 | _ => True
theorem Adj.at {α : Type} {R : α → α → Prop} : ∀ {l : List α} {i : Nat} {x y : α}, Adj R l → l[i]? = some x → l[i + 1]? = some y → R x y
 | [], _, _, _, _, h, _ => by simp at h
 | [a], i, _, _, _, _, h => by simp at h
 | a :: b :: l, 0, x, y, h, hx, hy => by
  simp only [List.getElem?_cons_zero, Option.some.injEq, List.getElem?_cons_succ, Nat.zero_add] at hx hy
  subst hx; subst hy; exact h.1
 | a :: b :: l, i + 1, x, y, h, hx, hy => Adj.at h.2 (by simpa using hx) (by simpa using hy)
structure OnceOk (a b : Fw) : Prop where
 check : checkB b = true
 up : a.inst ≤ b.inst
 le : b.inst ≤ 1
 done : a.inst = 1 → b.pair = a.pair ∧ b.gid = a.gid ∧ b.gkey = a.gkey ∧ b.other = a.other ∧ a.replay ≤ b.replay
theorem GoodA.step {s : Fw} {o : Ev} {now : Int} {sent : List By} (h : GoodA s) (he : (stepF o now sent s).2.2 = 0) : GoodA (stepF o now sent s).1 ∧ Kept s (stepF o now sent s).1 := by
 unfold stepF at he ⊢
 split at he
 ·rename_i q; rw [if_pos q]; exact h.startF he
 ·rename_i q
  rw [if_neg q]
  cases hm : msgF o sent with
  | none => rw [hm] at he; exact h.tickF he
  | some b => rw [hm] at he; exact h.handleF he
theorem GoodS.step {s : Fw} {o : Ev} {now : Int} {sent : List By} (h : GoodS s) (he : (stepF o now sent s).2.2 = 0) : GoodS (stepF o now sent s).1 ∧ Kept s (stepF o now sent s).1 := by
 unfold stepF at he ⊢
 split at he
 ·have := (startF_ok he).2.1
  have := h.role
  exfalso; omega
 ·rename_i q
  rw [if_neg q]
  cases hm : msgF o sent with
  | none =>
   rw [hm] at he
   have e := h.tickF (tickF_ok he).1
   show GoodS (Go.Proofs.Ytibncchobkaaiaa.tickF s now).1 ∧ Kept s (Go.Proofs.Ytibncchobkaaiaa.tickF s now).1
   rw [e]; exact ⟨h, Kept.refl s⟩
  | some b => rw [hm] at he; exact h.handleF he
def Pr.K (p : Pr) : Ks := pairF p.master p.one p.two p.mine p.his
def Sent (p : Pr) (b4 : Prop) (m : By) : Prop :=
 kindP m = 1 ∨ (kindP m = 2 ∧ nonceP m = p.his) ∨ (kindP m = 3 ∧ nonceP m = p.mine ∧ dataP m = wrapF p.K.w.1 3 (countP m) p.mine.1 p.gid p.gkey.1) ∨ (kindP m = 4 ∧ b4)
theorem Sent.mono {p : Pr} {P Q : Prop} {m : By} (h : Sent p P m) (i : P → Q) : Sent p Q m := by
 rcases h with h | h | h | ⟨h, q⟩
 ·exact .inl h
 ·exact .inr (.inl h)
 ·exact .inr (.inr (.inl h))
 ·exact .inr (.inr (.inr ⟨h, i q⟩))
structure InvH (p : Pr) (s : Fw × Fw) (sent : List By) : Prop where
 ga : GoodA s.1
 gs : GoodS s.2
 a : s.1.own = p.one ∧ s.1.peer = p.two ∧ s.1.master = p.master ∧ s.1.mine = p.mine ∧ s.1.gid = p.gid ∧ s.1.gkey = p.gkey
 b : s.2.own = p.two ∧ s.2.peer = p.one ∧ s.2.master = p.master ∧ s.2.mine = p.his
 a3 : s.1.stage = 3 ∨ s.1.stage = 4 → s.1.other = p.his
 b4 : s.2.stage = 4 → s.2.pair = p.K ∧ s.2.gid = p.gid ∧ s.2.gkey = p.gkey
 ab : s.1.stage = 4 → s.2.stage = 4
 ms : ∀ m ∈ sent, Sent p (s.2.stage = 4) m
theorem GoodA.replay {s : Fw} (h : GoodA s) : 0 ≤ s.replay ∧ s.replay ≤ 8 := by
 rcases h.st with c | c | c | c | c <;> omega
def TrN (T B : Nat) (w w' : World) : Prop := Ext w w' ∨ ∃ g cs ds, B ≤ g ∧ Lc w g T cs ∧ w' = w.setRow g (ds : List Value).toArray
section
variable {P : Program} {ops : Array Oper}
structure InvN (ops : Array Oper) (S : Tmp → Value → World → Prop) (iA iS dA T : Nat) (c0 c1 : List Value) (n : Nat) (W : World) (a0 : Act) (rem : List Nat) (listed : Array Bool) (a : Act) (w : World) : Prop where
 head : HeadInv .any ops n listed
 nodup : rem.Nodup
 lt : ∀ j ∈ rem, j < n
 mem : ∀ j, j < n → (listed.getD j false = true ↔ j ∉ rem)
 size : a.tmps.size = a0.tmps.size
 defers : a.defers = a0.defers
 done : ∀ d, (∃ j o, j < n ∧ j ∉ rem ∧ ops[j]? = some o ∧ o.dst = some d) → ∃ v, a.tmps[d]? = some v ∧ S d v w
 open_ : ∀ d, (∀ j o, j < n → j ∉ rem → ops[j]? = some o → o.dst ≠ some d) → a.tmps[d]? = a0.tmps[d]?
 ext : Ext W w
 var : iA ∉ rem → ∃ g, a.tmps[dA]? = some (.pointer (some ⟨g, 0, none⟩)) ∧ W.heap.size ≤ g ∧ Lc w g T (if iS ∈ rem then c0 else c1)
 pre : iS ∉ rem → iA ∉ rem
theorem InvN.step {S : Tmp → Value → World → Prop} {iA iS dA T : Nat} {c0 c1 : List Value} {n : Nat} {W : World} (hS : ∀ d v w w', S d v w → TrN T W.heap.size w w' → S d v w') {a0 : Act} {rem : List Nat} {listed : Array Bool} {a : Act} {w w' : World} (inv : InvN ops S iA iS dA T c0 c1 n W a0 rem listed a w)
  {i : Nat} {o : Oper} (hi : i ∈ Region.ready .any ops listed) (hin : i < n) (ho : ops[i]? = some o) (v : Value) (htr : TrN T W.heap.size w w') (hext : Ext W w')
  (hsz : ∀ (j : Nat) o d, j < n → ops[j]? = some o → o.dst = some d → d < a0.tmps.size)
  (hv : ∀ d, o.dst = some d → S d v w')
  (hvar : iA ∉ rem.erase i → ∃ g, (a.put o.dst v).tmps[dA]? = some (.pointer (some ⟨g, 0, none⟩)) ∧ W.heap.size ≤ g ∧ Lc w' g T (if iS ∈ rem.erase i then c0 else c1)) (hpre : iS ∉ rem.erase i → iA ∉ rem.erase i) :
  InvN ops S iA iS dA T c0 c1 n W a0 (rem.erase i) (listed.setIfInBounds i true) (a.put o.dst v) w' := by
 have hun := (mem_ready.1 hi).1
 have hirem : i ∈ rem := by
  rcases Classical.em (i ∈ rem) with h | h
  ·exact h
  ·have := (inv.mem i hin).2 h
   rw [getD_both hun] at this; cases this
 have hmem : ∀ j, j < n → (j ∉ rem.erase i ↔ j ∉ rem ∨ j = i) := fun j _ => by
  rw [inv.nodup.mem_erase_iff]
  constructor
  ·intro h; by_cases hj : j = i
   ·exact .inr hj
   ·exact .inl fun hm => h ⟨hj, hm⟩
  ·rintro (h | h) ⟨h1, h2⟩
   ·exact h h2
   ·exact h1 h
 have hlen : i < listed.size := by
  rcases Nat.lt_or_ge i listed.size with h | h
  ·exact h
  ·simp [Array.getElem?_eq_none h] at hun
 refine ⟨inv.head.set hi hin, inv.nodup.erase i, fun j hj => inv.lt j (List.mem_of_mem_erase hj), fun j hj => ?_, by rw [put_size, inv.size], by rw [put_defers, inv.defers], fun d h => ?_, fun d h => ?_, hext, hvar, hpre⟩
 ·rw [hmem j hj]
  by_cases hji : i = j
  ·subst hji; simp [hlen]
  ·rw [getD_set_ne false hji, inv.mem j hj]
   exact ⟨fun h => .inl h, fun h => h.resolve_right fun e => hji e.symm⟩
 ·obtain ⟨j, oj, hj, hjr, hoj, hdj⟩ := h
  by_cases hod : o.dst = some d
  ·rw [hod, put_get, if_pos rfl]
   have hlt : d < a.tmps.size := by rw [inv.size]; exact hsz i o d hin ho hod
   exact ⟨v, by rw [if_pos hlt], hv d hod⟩
  ·rw [put_other _ _ _ _ hod]
   obtain ⟨u, hu1, hu2⟩ := inv.done d ⟨j, oj, hj, (by
    rcases (hmem j hj).1 hjr with h | h
    ·exact h
    ·subst h; rw [ho] at hoj; cases hoj; exact absurd hdj hod), hoj, hdj⟩
   exact ⟨u, hu1, hS d u w w' hu2 htr⟩
 ·have hod : o.dst ≠ some d := h i o hin ((hmem i hin).2 (.inr rfl)) ho
  rw [put_other _ _ _ _ hod]
  exact inv.open_ d fun j oj hj hjr hoj => h j oj hj ((hmem j hj).2 (.inl hjr)) hoj
end
def partsP (p : Pr) : List Lf := [Lf.v p.one, Lf.v p.two, Lf.v p.master, Lf.v p.otherK, Lf.v p.mine, Lf.v p.his, Lf.i .i64 p.gid, Lf.v p.gkey]
def parts2 (s : Fw × Fw) : List Lf := partsF s.1 ++ partsF s.2
theorem handle_own (s : Fw) (m : By) (hm : m.length ≤ 100000) (now : Int) (B : Nat) (v : Value) (w : World) (ho : w.ownsRow B 5 1 v m.length (m.map V8)) : Calls Try.prog 15 #[.agg (cat (partsF s)).toArray, v, .int .i64 now] w (ResR (handleF s m now) w) := by
 obtain ⟨a, c, rfl⟩ := owns_form ho
 by_cases h : m.length < 43
 ·exact handle_short s m a _ c rfl h now w
 ·obtain ⟨b, o, rfl⟩ := (SlB.of_owns ho).ne (by intro e; rw [e] at h; exact h (by decide))
  exact handle_long s m b o _ c h hm now w (SlB.of_owns ho) (CapOk.of_owns ho)
theorem send_len (s : Fw) : (sendF s).length ≤ 100000 := by
 unfold sendF
 split
 ·rw [signedF_len _ _ _ _ _ s.mine.2, wrapF_len]; decide
 ·rw [signedF_len _ _ _ _ _ s.mine.2]; decide
theorem handle_len (s : Fw) (b : By) (now : Int) : ∀ m ∈ (handleF s b now).2.1, m.length ≤ 100000 := by
 intro m hm
 by_cases h : (handleF s b now).2.2 = 0
 ·obtain ⟨_, _, ⟨_, _, _, _, _, e⟩ | ⟨_, _, _, _, _, e⟩ | ⟨_, _, _, e⟩ | ⟨_, _, _, _, _, _, g, _, e⟩⟩ := handleF_ok h <;> rw [e] at hm
  ·obtain rfl := List.mem_singleton.1 hm; exact send_len _
  ·cases hm
  ·obtain rfl := List.mem_singleton.1 hm; rw [signedF_len _ _ _ _ _ s.mine.2]; decide
  ·obtain rfl := List.mem_singleton.1 hm; rw [signedF_len _ _ _ _ _ (zv 16).2]; decide
 ·unfold handleF at hm h
  split at h
  ·rename_i q; rw [if_pos q] at hm; cases hm
  ·rename_i q
   rw [if_neg q] at hm
   split at h
   ·rename_i q2; rw [if_pos q2] at hm; cases hm
   ·rename_i q2
    rw [if_neg q2] at hm
    have hs2 : secondF s b now = errR (secondF s b now).2.2 ∨ (secondF s b now).2.2 = 0 := by unfold secondF; split <;> simp [errR]
    have hs4 : fourthF s b = errR (fourthF s b).2.2 ∨ (fourthF s b).2.2 = 0 := by unfold fourthF; split <;> simp [errR]
    have hs3 : thirdF s b = errR (thirdF s b).2.2 ∨ (thirdF s b).2.2 = 0 := by unfold thirdF; split <;> simp [errR]
    split at h
    ·rename_i q3; rw [if_pos q3] at hm
     rcases hs2 with e | e
     ·rw [e] at hm; cases hm
     ·exact absurd e h
    ·rename_i q3; rw [if_neg q3] at hm
     split at h
     ·rename_i q4; rw [if_pos q4] at hm
      rcases hs4 with e | e
      ·rw [e] at hm; cases hm
      ·exact absurd e h
     ·rename_i q4; rw [if_neg q4] at hm
      split at h
      ·exact absurd rfl h
      ·rename_i q5; rw [if_neg q5] at hm
       split at h
       ·rename_i q6; rw [if_pos q6] at hm
        rcases hs3 with e | e
        ·rw [e] at hm; cases hm
        ·exact absurd e h
       ·rename_i q6; rw [if_neg q6] at hm; cases hm
theorem owns_blk {B : Nat} {w : World} {b o : Nat} {m : Option Nat} {n c : Nat} {ls : List By} (h : SlBB B w (.slice (some ⟨b, o, m⟩) n c) ls) : b < w.heap.size := by
 obtain ⟨vs, ⟨_, ⟨h2, _⟩ | ⟨g, cap, cur, h3, _, hh, _⟩⟩, _⟩ := h
 ·cases h2
 ·cases h3; exact (Array.getElem?_eq_some_iff.1 hh).1
def stA1 (p : Pr) (k d : Int) : Fw := { stA0 p with stage := 1, replay := k, tries := k, due := d }
def stA3 (p : Pr) (k t d : Int) : Fw := { stA0 p with stage := 3, other := p.his, pair := p.K, replay := k, tries := t, due := d }
def stA4 (p : Pr) (k : Int) : Fw := { stA0 p with stage := 4, other := p.his, pair := p.K, replay := k, inst := 1 }
def stS2 (p : Pr) : Fw := { stS0 p with stage := 2, other := p.mine, pair := p.K }
def stS4 (p : Pr) (k : Int) : Fw := { stS0 p with stage := 4, other := p.mine, pair := p.K, gid := p.gid, gkey := p.gkey, inst := 1, replay := k }
def ms1 (p : Pr) (k : Int) : By := signedF ks0.c.1 1 k p.mine.1 []
def ms3 (p : Pr) (k : Int) : By := signedF p.K.c.1 3 k p.mine.1 (wrapF p.K.w.1 3 k p.mine.1 p.gid p.gkey.1)
def DueOk (d : Int) : Prop := 1 ≤ d ∧ d ≤ 1099511727776
def NowOk (n : Int) : Prop := 0 ≤ n ∧ n ≤ 1099511627776
theorem NowOk.due {n : Int} (h : NowOk n) : DueOk (n + 100000) := by unfold NowOk at h; unfold DueOk; omega
theorem GoodA.now {s : Fw} (h : GoodA s) {n : Int} (hn : NowOk n) : checkedF s n = 0 := checked_yes h.check hn.1 hn.2
theorem GoodS.now {s : Fw} (h : GoodS s) {n : Int} (hn : NowOk n) : checkedF s n = 0 := checked_yes h.check hn.1 hn.2
theorem SlB.chg {w w' : World} {v : Value} {l : By} (h : SlB w v l) (hc : Chg w.heap.size w w') : SlB w' v l := by
 rcases h with h | ⟨b, o, c, e, hb, hh⟩
 ·exact .inl h
 ·exact .inr ⟨b, o, c, e, Nat.lt_of_lt_of_le hb hc.1, fun j x hj => (hc.cell hb).trans (hh j x hj)⟩
def OneM (w : World) (b : Nat) (u : Value) (m : By) : Prop := b < w.heap.size ∧ w.cell? ⟨b, 0, none⟩ = some u ∧ SlB w u m
theorem OneM.chg {w w' : World} {b : Nat} {u : Value} {m : By} (h : OneM w b u m) (hc : Chg w.heap.size w w') : OneM w' b u m :=
 ⟨Nat.lt_of_lt_of_le h.1 hc.1, (hc.cell h.1).trans h.2.1, h.2.2.chg hc⟩
theorem OneM.of {B : Nat} {w : World} {v : Value} {m : By} {ls : List By} (h : SlBB B w v (m :: ls)) : ∃ b c u, v = .slice (some ⟨b, 0, none⟩) (m :: ls).length c ∧ OneM w b u m := by
 obtain ⟨b, c, u, rfl, hc, ho⟩ := h.first
 exact ⟨b, c, u, rfl, owns_blk h, hc, SlB.of_owns ho⟩
theorem Chg.past {lo g : Nat} {a b c d : World} (h : Chg lo a b) (hx : Ext b c) (hw : Wrote c d g) (hg : lo ≤ g) : Chg lo a d := (h.ext hx).wrote hw hg
theorem SlT.form {α : Type} {sz : Nat} {f : α → List Value} {w : World} {v : Value} {xs : List α} (h : SlT sz f w v xs) : ∃ ad c, v = .slice ad xs.length c := by
 obtain ⟨ad, n, c, rfl, rfl, _, _⟩ := h
 exact ⟨ad, c, rfl⟩
end Go.Proofs.Ytibncchobkaaiaa
