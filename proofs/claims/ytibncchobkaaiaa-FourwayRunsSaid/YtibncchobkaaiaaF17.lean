/- Texts of this proof, put together: StT, RfA, RefMs, Plain23. -/
import Derived.Test.YtibncchobkaaiaaF15
import Derived.Test.YtibncchobkaaiaaF16
import Derived.Test.YtibncchobkaaiaaF14
import Derived.Test.YtibncchobkaaiaaF13
import Derived.Test.YtibncchobkaaiaaF9
import Derived.Test.YtibncchobkaaiaaF1
namespace Go.Proofs.Ytibncchobkaaiaa
open Go.RowKit
theorem check_wait {s : Fw} (h : checkB s = true) : (0 ≤ s.replay ∧ s.replay < 4611686018427387904) ∧ (s.due ≠ 0 → s.role = 1 ∧ 1 ≤ s.tries ∧ s.tries ≤ 4 ∧ s.replay ≤ 8) ∧ (s.role = 1 ∨ s.role = 2) := by
 unfold checkB validF at h
 simp only [Bool.and_eq_true] at h
 have hv := h.1.2
 by_cases h1 : s.role = 1
 ·rw [if_pos h1] at hv
  unfold validAuthF at hv
  split at hv
  ·cases hv
  rename_i b1
  split at hv
  ·cases hv
  rename_i b2
  have b1 : badA1 s = false := by simpa using b1
  have b2 : badA2 s = false := by simpa using b2
  unfold badA1 at b1
  unfold badA2 at b2
  simp only [Bool.or_eq_false_iff, decide_eq_false_iff_not] at b1
  have q1 : 0 ≤ oneI (!idleB s) ∧ oneI (!idleB s) ≤ 1 := by cases idleB s <;> decide
  refine ⟨by omega, fun hd => ⟨h1, ?_⟩, .inl h1⟩
  cases hw : waitsB s with
  | true =>
   rw [hw] at b2
   simp only [Bool.true_and, Bool.not_true, Bool.false_and, Bool.or_false, Bool.or_eq_false_iff, decide_eq_false_iff_not] at b2
   omega
  | false =>
   rw [hw] at b2
   simp only [Bool.false_and, Bool.not_false, Bool.true_and, Bool.false_or, Bool.or_eq_false_iff] at b2
   exact absurd (by simpa using b2.2) hd
 ·rw [if_neg h1] at hv
  by_cases h2 : s.role = 2
  ·rw [if_pos h2] at hv
   unfold validSupF at hv
   split at hv
   ·cases hv
   rename_i b1
   have b1 : badS1 s = false := by simpa using b1
   unfold badS1 at b1
   simp only [Bool.or_eq_false_iff, decide_eq_false_iff_not] at b1
   refine ⟨by omega, fun hd => absurd (by simpa using b1.2) hd, .inr h2⟩
  ·rw [if_neg h2] at hv; cases hv
theorem checked_zero {s : Fw} {now : Int} (h : checkedF s now = 0) : checkB s = true ∧ 0 ≤ now ∧ now ≤ 1099511627776 := by
 refine ⟨?_, checked_time h⟩
 unfold checkedF at h
 split at h
 ·assumption
 ·exact absurd h (by decide)
theorem len_F (s t : Fw) : (cat (partsF s)).length = (cat (partsF t)).length := by rw [cat_len, cat_len]; rfl
theorem sizeFw (s : Fw) : (Try.prog.info? 32).map (·.size) = some (cat (partsF s)).toArray.size := by rw [List.size_toArray, cat_len]; kernel_rfl
theorem resR_err {r : Res} {E : Int} {w w' : World} (h : r = errR E) (hx : Ext w w') : ResR r w (.returned (.tuple #[.agg (cat (partsF fw0)).toArray, .slice none 0 0, .int .i64 E])) w' := by
 subst h; exact ⟨_, rfl, SlBB.nil _ _, hx⟩
theorem resR_ok {r : Res} {s : Fw} {l : List By} {v : Value} {w w' : World} {B : Nat} (h : r = (s, l, 0)) (hs : SlBB B w' v l) (hb : w.heap.size ≤ B) (hx : Ext w w') : ResR r w (.returned (.tuple #[.agg (cat (partsF s)).toArray, v, .int .i64 0])) w' := by
 subst h; exact ⟨_, rfl, hs.weak hb, hx⟩
set_option maxRecDepth 4000 in
set_option maxHeartbeats 1600000 in
theorem start_any (s : Fw) (now : Int) (w : World) : Calls Try.prog 10 #[.agg (cat (partsF s)).toArray, .int .i64 now] w (ResR (startF s now) w) := by
 have H := kp (Loc.start w)
 have HC := kp (checked_any s now)
 have HR0 := kp (show checkedF s now ≠ 0 → startF s now = errR (checkedF s now) from fun h => by unfold startF; rw [if_pos h])
 have HR1 := kp (show checkedF s now = 0 → (s.role ≠ 1 ∨ s.stage ≠ 0) → startF s now = errR 20 from fun h h1 => by unfold startF; rw [if_neg (by omega), if_pos h1])
 have HR2 := kp (show checkedF s now = 0 → s.role = 1 → s.stage = 0 → startF s now = ({ s with stage := 1, replay := 1, tries := 1, due := now + 100000 }, [sendF { s with stage := 1, replay := 1, tries := 1, due := now + 100000 }], 0) from fun h h1 h2 => by unfold startF; rw [if_neg (by omega), if_neg (by omega)])
 have HCZ := kp (fun h : checkedF s now = 0 => checked_zero h)
 generalize startF s now = r at *
 generalize checkedF s now = E at *
 go_enter Try.func10, Try.ntmps10
 generalize h6 : (Code.region 6 _ _ : Code) = R6
 generalize h7 : (Code.region 7 _ _ : Code) = R7
 go_wp2_with (first | ((with_reducible refine isBx 2 32 ?_); (refine L_box H rfl 32 _ rfl (cat (partsF s)) rfl ?_); clear H; intro g2 w2 HGg2 HEg2 H; simp only [pA]) | ((with_reducible refine isAl 4 32 ?_); (refine L_alloc H rfl 32 rfl (cat (partsF fw0)) (fun _ _ => by kernel_rfl) ?_); clear H; intro g4 w4 HGg4 HEg4 H; simp only [pA]) | ((with_reducible refine isLd 32 ?_); (refine L_fa H rfl 32 _ rfl 1 rfl rfl Try.underlying32 rfl (by kernel_rfl) ?_); simp only [pA]) | ((with_reducible show wpList _ _ _ (Oper.mk _ (Op.build 32 _) _ _ _ _ :: _) _ _); (refine L_bd rfl 32 _ rfl #[] (by kernel_rfl) (cat (partsF fw0)) (fun _ => by kernel_rfl) ?_); simp only [pA]) | ((with_reducible refine isLd 5 ?_); (refine L_f1 H rfl 5 _ rfl 1 rfl _ rfl _ rfl _ rfl Try.underlying5 rfl ?_); simp only [pA]) | (go_at_call 29; refine (HC.out _).mono ?_; rintro e wa ⟨rfl, hx⟩; replace H := kp (H.out.ext hx); have HXC := kp hx; clear hx) | ((with_reducible refine isSt 32 ?_); (refine L_sa H rfl rfl 32 _ _ rfl 0 rfl rfl (partsF fw0) rfl rfl (by kernel_rfl) ?_; clear H; intro wz HWwz H; simp only [szA] at H)))
 ·rename (E != 0) = true => h
  have HK := kp (HR0.out (by simpa using h))
  (exact ret_f3 H Try.results10 0 rfl rfl _ _ rfl rfl Try.underlying32 rfl (by kernel_rfl) rfl (resR_err HK.out H.out.1))
 ·rename (E != 0) = false => h
  rename ¬ s.role = 1 => h1
  have HK := kp (HR1.out (by simpa using h) (.inl h1))
  (exact ret_f3 H Try.results10 0 rfl rfl _ _ rfl rfl Try.underlying32 rfl (by kernel_rfl) rfl (resR_err HK.out H.out.1))
 ·rename (E != 0) = false => h
  rename (s.stage != 0) = true => h1
  have HK := kp (HR1.out (by simpa using h) (.inr (by simpa using h1)))
  (exact ret_f3 H Try.results10 0 rfl rfl _ _ rfl rfl Try.underlying32 rfl (by kernel_rfl) rfl (resR_err HK.out H.out.1))
 ·rename (E != 0) = false => h
  rename (s.stage != 0) = false => h1
  rename s.role = 1 => h2
  have HK := kp (HR2.out (by simpa using h) h2 (by simpa using h1))
  obtain ⟨_, hn0, hn1⟩ := HCZ.out (by simpa using h)
  clear h h1 h2
  obtain ⟨s', hs'⟩ : ∃ t, t = { s with stage := 1, replay := 1, tries := 1, due := now + 100000 } := ⟨_, rfl⟩
  have HRS := kp (show r = (s', [sendF s'], 0) by rw [hs']; exact HK.out)
  have HS' := kp hs'
  clear hs' HK
  subst h6
  go_wp2_with (first | ((with_reducible refine isSt 5 ?_); (refine L_s1 H rfl rfl 5 _ _ rfl 1 rfl _ rfl _ rfl _ rfl rfl rfl rfl (by kernel_rfl) (_) rfl ?_; clear H; intro wb HWwb H; simp only [ssA, szA] at H)) | ((with_reducible refine isSt 3 ?_); (refine L_s1 H rfl rfl 3 _ _ rfl 1 rfl _ rfl _ rfl _ rfl rfl rfl rfl (by kernel_rfl) (_) rfl ?_; clear H; intro wc HWwc H; simp only [ssA, szA] at H)))
  have H2 := kp (show Loc w wc [(g4, 32, cat (partsF fw0)), (g2, 32, cat (partsF s'))] from by rw [HS'.out]; exact H.out)
  clear H
  have H := H2
  clear H2
  subst h7
  have HLT := kp (H.out.lt 0 rfl)
  have HSZ := kp H.out.1.size
  refine region_free H (tabS [(30, fun vQ _ => vQ = .agg (cat (partsF s')).toArray), (31, fun vQ _ => vQ = .agg (cat (partsF s')).toArray), (32, fun vQ wQ => SlBB wc.heap.size wQ vQ [sendF s']), (5, fun vQ wQ => SlBB wc.heap.size wQ vQ [sendF s']), (6, fun vQ _ => vQ = .int .i64 0)]) [⟨3, 0, g4, 32, cat (partsF fw0), cat (partsF s')⟩] (tabS_out _ _ (by simp only [List.forall_mem_cons, mono_eqO, true_and]; exact ⟨(mono_SlBB _ (lt1 HLT.out)), (mono_SlBB _ (lt1 HLT.out)), by simp⟩)) 6 (by kernel_rfl) (by kernel_rfl) (by kernel_rfl) (by kernel_rfl) [3] [0] rfl rfl (by decide) (by decide) (by decide) ⟨rfl, trivial⟩ ?_
  simp only [List.take_succ_cons, List.take_zero]
  refine ⟨fun w_ o_ S_ => ?_, fun v30 => ?_⟩
  ·clear S_
   have H := kp (H.out.keep [1] (St := [⟨3, 0, g4, 32, cat (partsF fw0), cat (partsF s')⟩]) ⟨rfl, trivial⟩ o_ (by decide) (by kernel_rfl))
   have HOX := kp o_
   clear o_
   go_wp2_with ((with_reducible refine isLd 32 ?_); (refine L_fa H rfl 32 _ rfl 0 rfl rfl Try.underlying32 rfl (by kernel_rfl) ?_); simp only [pA])
   exact kso
  simp only [pA]
  refine ⟨fun w_ o_ S_ => ?_, fun v31 => ?_⟩
  ·clear S_
   have H := kp (H.out.keep [1] (St := [⟨3, 0, g4, 32, cat (partsF fw0), cat (partsF s')⟩]) ⟨rfl, trivial⟩ o_ (by decide) (by kernel_rfl))
   have HOX := kp o_
   clear o_
   go_wp2_with ((with_reducible refine isLd 32 ?_); (refine L_fa H rfl 32 _ rfl 0 rfl rfl Try.underlying32 rfl (by kernel_rfl) ?_); simp only [pA])
   exact kso
  simp only [pA]
  refine ⟨fun w_ o_ S_ => ?_, fun v32 => ?_⟩
  ·obtain rfl : v31 = .agg (cat (partsF s')).toArray := hsR S_ 31 rfl
   clear S_
   have H := kp (H.out.keep [1] (St := [⟨3, 0, g4, 32, cat (partsF fw0), cat (partsF s')⟩]) ⟨rfl, trivial⟩ o_ (by decide) (by kernel_rfl))
   have HOX := kp o_
   clear o_
   go_wp2_with fail
   refine (send_any s' _).mono ?_
   rintro e w2 ⟨v, rfl, hs, hx⟩
   have HSL := kp (hs.weak HOX.out.size)
   have HXC := kp hx
   clear hs hx
   go_wp2_with fail
   exact ⟨rfl, _, rfl, fun d hd => by cases hd; exact HSL.out, HXC.out⟩
  simp only [pA]
  refine ⟨⟨rfl, rfl, fun ws3 hos3 hSs3 hLs3 => ?_⟩, ?_⟩
  ·obtain rfl : v30 = .agg (cat (partsF s')).toArray := hSs3 30 (by decide) (by decide)
   exact run_sto 32 _ _ rfl rfl rfl hLs3 (sizeFw _) (len_F _ _) (by simpa using cat_one (partsF s'))
  refine ⟨fun w_ o_ S_ => ?_, fun v5 => ?_⟩
  ·have h32 := kp (show SlBB wc.heap.size w_ v32 [sendF s'] from hsR S_ 32 rfl)
   clear S_ o_
   go_wp2_with fail
   exact ⟨rfl, _, rfl, fun d hd => by cases hd; exact h32.out, Ext.refl _⟩
  simp only [pA]
  refine ⟨fun w_ o_ S_ => ?_, fun v6 => ?_⟩
  ·clear S_
   clear o_
   go_wp2_with fail
   exact kso
  simp only [pA]
  clear H
  intro wy HOX H hfin
  obtain rfl : v30 = .agg (cat (partsF s')).toArray := hfin 30 (by decide)
  obtain rfl : v31 = .agg (cat (partsF s')).toArray := hfin 31 (by decide)
  have F32 := kp (show SlBB wc.heap.size wy v32 [sendF s'] from hfin 32 (by decide))
  have F5 := kp (show SlBB wc.heap.size wy v5 [sendF s'] from hfin 5 (by decide))
  obtain rfl : v6 = .int .i64 0 := hfin 6 (by decide)
  clear hfin
  simp only [List.drop_succ_cons, List.drop_zero]
  simp only [applyS] at H
  go_wp2_with fail
  (exact ret_f3 H Try.results10 0 rfl rfl _ _ rfl rfl Try.underlying32 rfl (by kernel_rfl) rfl (resR_ok HRS.out F5.out HSZ.out H.out.1))
set_option maxRecDepth 4000 in
set_option maxHeartbeats 1600000 in
theorem tick_any (s : Fw) (now : Int) (w : World) : Calls Try.prog 13 #[.agg (cat (partsF s)).toArray, .int .i64 now] w (ResR (tickF s now) w) := by
 have H := kp (Loc.start w)
 have HC := kp (checked_any s now)
 have HR0 := kp (show checkedF s now ≠ 0 → tickF s now = errR (checkedF s now) from fun h => by unfold tickF; rw [if_pos h])
 have HR1 := kp (fun (h : checkedF s now = 0) (h1 : s.due = 0 ∨ now < s.due) => tickF_still h h1)
 have HR2 := kp (fun (h : checkedF s now = 0) (h1 : ¬ (s.due = 0 ∨ now < s.due)) (h2 : s.tries = 4) => tickF_fail h h1 h2)
 have HR3 := kp (fun (h : checkedF s now = 0) (h1 : ¬ (s.due = 0 ∨ now < s.due)) (h2 : s.tries ≠ 4) => tickF_again h h1 h2)
 have HCZ := kp (fun h : checkedF s now = 0 => checked_zero h)
 have HCW := kp (fun h : checkedF s now = 0 => check_wait (checked_zero h).1)
 generalize tickF s now = r at *
 generalize checkedF s now = E at *
 go_enter Try.func13, Try.ntmps13
 generalize h5 : (Code.region 5 _ _ : Code) = R5
 generalize h7 : (Code.region 7 _ _ : Code) = R7
 generalize h8 : (Code.region 8 _ _ : Code) = R8
 generalize h9 : (Code.region 9 _ _ : Code) = R9
 generalize h10 : (Code.region 10 _ _ : Code) = R10
 go_wp2_with (first | ((with_reducible refine isBx 2 32 ?_); (refine L_box H rfl 32 _ rfl (cat (partsF s)) rfl ?_); clear H; intro g2 w2 HGg2 HEg2 H; simp only [pA]) | ((with_reducible refine isAl 4 32 ?_); (refine L_alloc H rfl 32 rfl (cat (partsF fw0)) (fun _ _ => by kernel_rfl) ?_); clear H; intro g4 w4 HGg4 HEg4 H; simp only [pA]) | ((with_reducible refine isLd 32 ?_); (refine L_fa H rfl 32 _ rfl 1 rfl rfl Try.underlying32 rfl (by kernel_rfl) ?_); simp only [pA]) | ((with_reducible show wpList _ _ _ (Oper.mk _ (Op.build 32 _) _ _ _ _ :: _) _ _); (refine L_bd rfl 32 _ rfl #[] (by kernel_rfl) (cat (partsF fw0)) (fun _ => by kernel_rfl) ?_); simp only [pA]) | ((with_reducible refine isLd 3 ?_); (refine L_f1 H rfl 3 _ rfl 1 rfl _ rfl _ rfl _ rfl Try.underlying3 rfl ?_); simp only [pA]) | (go_at_call 29; refine (HC.out _).mono ?_; rintro e wa ⟨rfl, hx⟩; replace H := kp (H.out.ext hx); have HXC := kp hx; clear hx) | ((with_reducible refine isSt 32 ?_); (refine L_sa H rfl rfl 32 _ _ rfl 0 rfl rfl (partsF fw0) rfl rfl (by kernel_rfl) ?_; clear H; intro wz HWwz H; simp only [szA] at H)))
 ·rename (E != 0) = true => h
  have HK := kp (HR0.out (by simpa using h))
  (exact ret_f3 H Try.results13 0 rfl rfl _ _ rfl rfl Try.underlying32 rfl (by kernel_rfl) rfl (resR_err HK.out H.out.1))
 ·rename (E != 0) = false => h
  rename s.due = 0 => h1
  have HK := kp (HR1.out (by simpa using h) (.inl h1))
  clear h h1
  subst h5
  go_wp2_with (first | ((with_reducible refine isLd 32 ?_); (refine L_fa H rfl 32 _ rfl 1 rfl rfl Try.underlying32 rfl (by kernel_rfl) ?_); simp only [pA]) | ((with_reducible refine isSt 32 ?_); (refine L_sa H rfl rfl 32 _ _ rfl 0 rfl rfl (partsF s) rfl rfl (by kernel_rfl) ?_; clear H; intro wz HWwz H; simp only [szA] at H)))
  (exact ret_f3 H Try.results13 0 rfl rfl _ _ rfl rfl Try.underlying32 rfl (by kernel_rfl) rfl (resR_ok HK.out (SlBB.nil _ _) (Nat.le_refl _) H.out.1))
 ·rename (E != 0) = false => h
  rename now < s.due => h1
  have HK := kp (HR1.out (by simpa using h) (.inr h1))
  clear h h1
  subst h5
  go_wp2_with (first | ((with_reducible refine isLd 32 ?_); (refine L_fa H rfl 32 _ rfl 1 rfl rfl Try.underlying32 rfl (by kernel_rfl) ?_); simp only [pA]) | ((with_reducible refine isSt 32 ?_); (refine L_sa H rfl rfl 32 _ _ rfl 0 rfl rfl (partsF s) rfl rfl (by kernel_rfl) ?_; clear H; intro wz HWwz H; simp only [szA] at H)))
  (exact ret_f3 H Try.results13 0 rfl rfl _ _ rfl rfl Try.underlying32 rfl (by kernel_rfl) rfl (resR_ok HK.out (SlBB.nil _ _) (Nat.le_refl _) H.out.1))
 ·rename (E != 0) = false => h
  rename ¬ s.due = 0 => h1
  rename s.due ≤ now => h2
  rename (s.tries == 4) = true => h3
  have HK := kp (HR2.out (by simpa using h) (by omega) (by simpa using h3))
  clear h h1 h2 h3
  obtain ⟨s', hs'⟩ : ∃ t, t = { s with stage := 5, other := zv 16, pair := ks0, tries := 0, due := 0 } := ⟨_, rfl⟩
  have HRS := kp (show r = (s', [], 0) by rw [hs']; exact HK.out)
  have HS' := kp hs'
  clear hs' HK
  subst h7
  go_wp2_with (first | ((with_reducible show wpList _ _ _ (Oper.mk _ (Op.build 26 _) _ _ _ _ :: _) _ _); (refine L_bd rfl 26 _ rfl #[] (by kernel_rfl) ((zv 16).1.map V8) (fun _ => by kernel_rfl) ?_); simp only [pA]) | ((with_reducible show wpList _ _ _ (Oper.mk _ (Op.build 28 _) _ _ _ _ :: _) _ _); (refine L_bd rfl 28 _ rfl #[] (by kernel_rfl) (cat (partsK ks0)) (fun _ => by kernel_rfl) ?_); simp only [pA]) | ((with_reducible refine isSt 5 ?_); (refine L_s1 H rfl rfl 5 _ _ rfl 1 rfl _ rfl _ rfl _ rfl rfl rfl rfl (by kernel_rfl) (_) rfl ?_; clear H; intro wb HWwb H; simp only [ssA, szA] at H)) | ((with_reducible refine isSt 3 ?_); (refine L_s1 H rfl rfl 3 _ _ rfl 1 rfl _ rfl _ rfl _ rfl rfl rfl rfl (by kernel_rfl) (_) rfl ?_; clear H; intro wc HWwc H; simp only [ssA, szA] at H)) | ((with_reducible refine isSt 26 ?_); (refine L_sv H rfl rfl 26 _ _ rfl 1 rfl _ rfl _ rfl (Lf.v (zv 16)) rfl rfl rfl (by kernel_rfl) (_) rfl ?_; clear H; intro wd HWwd H; simp only [ssA, szA] at H)) | ((with_reducible refine isSt 28 ?_); (refine L_sg H rfl rfl 28 _ _ rfl 1 rfl _ rfl _ rfl 3 (partsK ks0) rfl rfl (by kernel_rfl) (_) rfl ?_; clear H; intro wf HWwf H; simp only [ssA, szA] at H)))
  have H2 := kp (show Loc w wc [(g4, 32, cat (partsF fw0)), (g2, 32, cat (partsF s'))] from by rw [HS'.out]; exact H.out)
  clear H
  have H := H2
  clear H2
  subst h8
  go_wp2_with (first | ((with_reducible refine isLd 32 ?_); (refine L_fa H rfl 32 _ rfl 1 rfl rfl Try.underlying32 rfl (by kernel_rfl) ?_); simp only [pA]) | ((with_reducible refine isSt 32 ?_); (refine L_sa H rfl rfl 32 _ _ rfl 0 rfl rfl (partsF s') rfl rfl (by kernel_rfl) ?_; clear H; intro wz HWwz H; simp only [szA] at H)))
  (exact ret_f3 H Try.results13 0 rfl rfl _ _ rfl rfl Try.underlying32 rfl (by kernel_rfl) rfl (resR_ok HRS.out (SlBB.nil _ _) (Nat.le_refl _) H.out.1))
 ·rename (E != 0) = false => h
  rename ¬ s.due = 0 => h1
  rename s.due ≤ now => h2
  rename (s.tries == 4) = false => h3
  have HK := kp (HR3.out (by simpa using h) (by omega) (by simpa using h3))
  obtain ⟨_, hn0, hn1⟩ := HCZ.out (by simpa using h)
  obtain ⟨_, hq, _⟩ := HCW.out (by simpa using h)
  obtain ⟨_, hq1, hq2, hq3⟩ := hq h1
  obtain ⟨⟨hq4, _⟩, _⟩ := HCW.out (by simpa using h)
  clear h h1 h2 h3
  obtain ⟨s', hs'⟩ : ∃ t, t = { s with tries := s.tries + 1, replay := s.replay + 1, due := now + 100000 } := ⟨_, rfl⟩
  have HRS := kp (show r = (s', [sendF s'], 0) by rw [hs']; exact HK.out)
  have HS' := kp hs'
  clear hs' HK
  subst h9
  go_wp2_with (first | ((with_reducible refine isLd 3 ?_); (refine L_f1 H rfl 3 _ rfl 1 rfl _ rfl _ rfl _ rfl Try.underlying3 rfl ?_); simp only [pA]) | ((with_reducible refine isSt 3 ?_); (refine L_s1 H rfl rfl 3 _ _ rfl 1 rfl _ rfl _ rfl _ rfl rfl rfl rfl (by kernel_rfl) (_) rfl ?_; clear H; intro wc HWwc H; simp only [ssA, szA] at H)))
  have H2 := kp (show Loc w wc [(g4, 32, cat (partsF fw0)), (g2, 32, cat (partsF s'))] from by rw [HS'.out]; exact H.out)
  clear H
  have H := H2
  clear H2
  subst h10
  have HLT := kp (H.out.lt 0 rfl)
  have HSZ := kp H.out.1.size
  refine region_free H (tabS [(47, fun vQ _ => vQ = .agg (cat (partsF s')).toArray), (48, fun vQ _ => vQ = .agg (cat (partsF s')).toArray), (49, fun vQ wQ => SlBB wc.heap.size wQ vQ [sendF s']), (5, fun vQ wQ => SlBB wc.heap.size wQ vQ [sendF s']), (6, fun vQ _ => vQ = .int .i64 0)]) [⟨3, 0, g4, 32, cat (partsF fw0), cat (partsF s')⟩] (tabS_out _ _ (by simp only [List.forall_mem_cons, mono_eqO, true_and]; exact ⟨(mono_SlBB _ (lt1 HLT.out)), (mono_SlBB _ (lt1 HLT.out)), by simp⟩)) 6 (by kernel_rfl) (by kernel_rfl) (by kernel_rfl) (by kernel_rfl) [3] [0] rfl rfl (by decide) (by decide) (by decide) ⟨rfl, trivial⟩ ?_
  simp only [List.take_succ_cons, List.take_zero]
  refine ⟨fun w_ o_ S_ => ?_, fun v47 => ?_⟩
  ·clear S_
   have H := kp (H.out.keep [1] (St := [⟨3, 0, g4, 32, cat (partsF fw0), cat (partsF s')⟩]) ⟨rfl, trivial⟩ o_ (by decide) (by kernel_rfl))
   have HOX := kp o_
   clear o_
   go_wp2_with ((with_reducible refine isLd 32 ?_); (refine L_fa H rfl 32 _ rfl 0 rfl rfl Try.underlying32 rfl (by kernel_rfl) ?_); simp only [pA])
   exact kso
  simp only [pA]
  refine ⟨fun w_ o_ S_ => ?_, fun v48 => ?_⟩
  ·clear S_
   have H := kp (H.out.keep [1] (St := [⟨3, 0, g4, 32, cat (partsF fw0), cat (partsF s')⟩]) ⟨rfl, trivial⟩ o_ (by decide) (by kernel_rfl))
   have HOX := kp o_
   clear o_
   go_wp2_with ((with_reducible refine isLd 32 ?_); (refine L_fa H rfl 32 _ rfl 0 rfl rfl Try.underlying32 rfl (by kernel_rfl) ?_); simp only [pA])
   exact kso
  simp only [pA]
  refine ⟨fun w_ o_ S_ => ?_, fun v49 => ?_⟩
  ·obtain rfl : v48 = .agg (cat (partsF s')).toArray := hsR S_ 48 rfl
   clear S_
   have H := kp (H.out.keep [1] (St := [⟨3, 0, g4, 32, cat (partsF fw0), cat (partsF s')⟩]) ⟨rfl, trivial⟩ o_ (by decide) (by kernel_rfl))
   have HOX := kp o_
   clear o_
   go_wp2_with fail
   refine (send_any s' _).mono ?_
   rintro e w2 ⟨v, rfl, hs, hx⟩
   have HSL := kp (hs.weak HOX.out.size)
   have HXC := kp hx
   clear hs hx
   go_wp2_with fail
   exact ⟨rfl, _, rfl, fun d hd => by cases hd; exact HSL.out, HXC.out⟩
  simp only [pA]
  refine ⟨⟨rfl, rfl, fun ws3 hos3 hSs3 hLs3 => ?_⟩, ?_⟩
  ·obtain rfl : v47 = .agg (cat (partsF s')).toArray := hSs3 47 (by decide) (by decide)
   exact run_sto 32 _ _ rfl rfl rfl hLs3 (sizeFw _) (len_F _ _) (by simpa using cat_one (partsF s'))
  refine ⟨fun w_ o_ S_ => ?_, fun v5 => ?_⟩
  ·have h49 := kp (show SlBB wc.heap.size w_ v49 [sendF s'] from hsR S_ 49 rfl)
   clear S_ o_
   go_wp2_with fail
   exact ⟨rfl, _, rfl, fun d hd => by cases hd; exact h49.out, Ext.refl _⟩
  simp only [pA]
  refine ⟨fun w_ o_ S_ => ?_, fun v6 => ?_⟩
  ·clear S_
   clear o_
   go_wp2_with fail
   exact kso
  simp only [pA]
  clear H
  intro wy HOX H hfin
  obtain rfl : v47 = .agg (cat (partsF s')).toArray := hfin 47 (by decide)
  obtain rfl : v48 = .agg (cat (partsF s')).toArray := hfin 48 (by decide)
  have F49 := kp (show SlBB wc.heap.size wy v49 [sendF s'] from hfin 49 (by decide))
  have F5 := kp (show SlBB wc.heap.size wy v5 [sendF s'] from hfin 5 (by decide))
  obtain rfl : v6 = .int .i64 0 := hfin 6 (by decide)
  clear hfin
  simp only [List.drop_succ_cons, List.drop_zero]
  simp only [applyS] at H
  go_wp2_with fail
  (exact ret_f3 H Try.results13 0 rfl rfl _ _ rfl rfl Try.underlying32 rfl (by kernel_rfl) rfl (resR_ok HRS.out F5.out HSZ.out H.out.1))
theorem fit_step {l : By} {k : Nat} (hk : k < 9) {x : BitVec 8} (hx : l[k]? = some x) : (cat [Lf.v (fit 13 (l.take k))]).set k (V8 x) = cat [Lf.v (fit 13 (l.take (k + 1)))] := by
 obtain ⟨hl, hx2⟩ := List.getElem?_eq_some_iff.1 hx
 rw [cat1, cat1]
 show ((fit 13 (l.take k)).1.map V8).set k (V8 x) = (fit 13 (l.take (k + 1))).1.map V8
 rw [← List.map_set]
 congr 1
 unfold fit
 rw [over_val, over_val]
 have e1 : min (l.take k).length 13 = k := by simp; omega
 have e2 : min (l.take (k + 1)).length 13 = k + 1 := by simp; omega
 rw [e1, e2, List.take_take, List.take_take, Nat.min_self, Nat.min_self, List.take_add_one, hx]
 show (l.take k ++ (List.replicate 13 0#8).drop k).set k x = l.take k ++ [x] ++ (List.replicate 13 0#8).drop (k + 1)
 rw [List.set_append_right _ _ (by simp; omega), List.drop_replicate, List.drop_replicate]
 have e3 : k - (l.take k).length = 0 := by simp; omega
 rw [e3, show 13 - k = (13 - (k + 1)) + 1 by omega, List.replicate_succ]
 simp
def SealR (l : By) (w : World) (e : Ending) (w' : World) : Prop := ∃ u, e = .returned (.tuple #[.agg ((fit 13 (l.take 9)).1.map V8).toArray, u]) ∧ SlB w' u (l.take 25) ∧ Ext w w' ∧ ∃ c, ∃ ad, u = .slice ad 25 c
theorem len13 (x y : Vc 13) : (cat [Lf.v x]).length = (cat [Lf.v y]).length := by rw [cat_len, cat_len]; rfl
theorem size13 (x : Vc 13) : (Try.prog.info? 107).map (·.size) = some (cat [Lf.v x]).toArray.size := by rw [List.size_toArray, cat_len]; kernel_rfl
set_option maxHeartbeats 1600000 in
theorem rsealing_any (l : By) (h25 : 25 ≤ l.length) (v : Value) (w : World) (hs : SlB w v l) (hc : CapOk v) : Calls Try.prog 57 #[v] w (SealR l w) := by
 have H := kp (Loc.start w)
 obtain ⟨ad, c, rfl⟩ := hs.form
 have hlc : l.length ≤ c := hc _ _ _ rfl
 have HS := kp hs
 obtain ⟨b, off, rfl⟩ := hs.ne (by intro e; rw [e] at h25; simp at h25)
 have HCE := kp (show ∀ W, Ext w W → ∀ (j : Nat) x, l[j]? = some x → W.cell? ⟨b, off + j, none⟩ = some (V8 x) from fun W hx j x hj => by
  rcases hs.ext hx with ⟨rfl, h⟩ | ⟨b2, o2, c2, h1, h2, h3⟩
  ·cases hj
  ·simp only [Value.slice.injEq, Option.some.injEq, Addr.mk.injEq] at h1
   obtain ⟨⟨rfl, rfl, _⟩, _, _⟩ := h1
   exact h3 j x hj)
 obtain ⟨n, hn⟩ : ∃ n, n = l.length := ⟨_, rfl⟩
 rw [← hn] at h25 hlc HS ⊢
 have HN := kp hn
 clear hs hc hn
 go_enter Try.func57, Try.ntmps57
 generalize h6 : (Code.region 6 _ _ : Code) = R6
 go_wp2_with (first | ((with_reducible refine isAl 2 107 ?_); (refine L_alloc H rfl 107 rfl (cat ([Lf.v (zv 13)])) (fun _ _ => by kernel_rfl) ?_); clear H; intro g2 w2 HGg2 HEg2 H; simp only [pA]) | ((with_reducible refine isAl 4 107 ?_); (refine L_alloc H rfl 107 rfl (cat ([Lf.v (zv 13)])) (fun _ _ => by kernel_rfl) ?_); clear H; intro g4 w4 HGg4 HEg4 H; simp only [pA]))
 have H0 := kp (show Loc w w4 [(g4, 107, cat [Lf.v (fit 13 (l.take 0))]), (g2, 107, cat [Lf.v (zv 13)])] from H.out)
 clear H
 go_loopw [5] (fun i wr => ∃ k : Nat, k ≤ 9 ∧ i = .int .i64 k ∧ Kp (Loc w wr [(g4, 107, cat [Lf.v (fit 13 (l.take k))]), (g2, 107, cat [Lf.v (zv 13)])])) (fun i _ => 9 - (intOf i).toNat)
 case atStart => exact ⟨0, by omega, rfl, H0⟩
 case round =>
  clear H0
  obtain ⟨k, hk, rfl, H⟩ := hrel
  by_cases hlt : k < 9
  ·obtain ⟨x, hx⟩ : ∃ x, l[k]? = some x := ⟨_, List.getElem?_eq_getElem (by have := HN.out; omega)⟩
   have hc := HCE.out _ H.out.1 k x hx
   have HST := kp (fit_step hlt hx)
   have HLK := kp (show k < (cat [Lf.v (fit 13 (l.take k))]).length from by rw [cat_len]; show k < 13; omega)
   clear hx
   go_wp2_with ((with_reducible refine isSt 5 ?_); (refine L_cell H rfl rfl 5 _ _ rfl 0 rfl (k) rfl (V8 x) rfl (rfl) (size5) (HLK.out) (cat [Lf.v (fit 13 (l.take (k + 1)))]) (HST.out) ?_; clear H; intro wz HWwz H; simp only [szA] at H))
   all_goals try (exfalso; omega)
   go_roundw
   case rel => exact ⟨k + 1, by omega, by go_num, H⟩
   case measure => simp [intOf]; omega
  ·obtain rfl : k = 9 := by omega
   go_wp2_with fail
   all_goals try (exfalso; omega)
   subst h6
   have HS2 := kp (HS.out.ext H.out.1)
   refine region_free H (tabS [(16, fun vQ _ => vQ = .agg ((fit 13 (l.take 9)).1.map V8).toArray), (17, fun vQ _ => vQ = .slice (some ⟨b, off, none⟩) n c), (18, fun vQ _ => vQ = .slice (some ⟨b, off, none⟩) 25 c), (3, fun vQ _ => vQ = .slice (some ⟨b, off, none⟩) 25 c)]) [⟨3, 1, g2, 107, cat [Lf.v (zv 13)], cat [Lf.v (fit 13 (l.take 9))]⟩] (tabS_out _ _ (by simp only [List.forall_mem_cons, mono_eqO, true_and]; simp)) 5 (by kernel_rfl) (by kernel_rfl) (by kernel_rfl) (by kernel_rfl) [3] [1] rfl rfl (by decide) (by decide) (by decide) ⟨rfl, trivial⟩ ?_
   simp only [List.take_succ_cons, List.take_zero]
   refine ⟨fun w_ o_ S_ => ?_, fun v16 => ?_⟩
   ·clear S_
    have H := kp (H.out.keep [0] (St := [⟨3, 1, g2, 107, cat [Lf.v (zv 13)], cat [Lf.v (fit 13 (l.take 9))]⟩]) ⟨rfl, trivial⟩ o_ (by decide) (by kernel_rfl))
    have HOX := kp o_
    clear o_
    go_wp2_with ((with_reducible refine isLd 107 ?_); (refine L_fv H rfl 107 _ rfl 0 rfl _ rfl _ rfl rfl Try.underlying107 rfl (by kernel_rfl) ?_); simp only [pA])
    exact kso
   simp only [pA]
   refine ⟨fun w_ o_ S_ => ?_, fun v17 => ?_⟩
   ·clear S_
    clear o_
    go_wp2_with fail
    exact kso
   simp only [pA]
   refine ⟨fun w_ o_ S_ => ?_, fun v18 => ?_⟩
   ·obtain rfl : v17 = .slice (some ⟨b, off, none⟩) n c := hsR S_ 17 rfl
    clear S_ o_
    go_wp2_with fail
    exact kso
   simp only [pA]
   refine ⟨⟨rfl, rfl, fun ws3 hos3 hSs3 hLs3 => ?_⟩, ?_⟩
   ·obtain rfl : v16 = .agg ((fit 13 (l.take 9)).1.map V8).toArray := hSs3 16 (by decide) (by decide)
    exact run_sto 107 _ _ rfl rfl rfl hLs3 (size13 _) (len13 _ _) (by simpa using cat_one [Lf.v (fit 13 (l.take 9))])
   refine ⟨fun w_ o_ S_ => ?_, fun v3 => ?_⟩
   ·obtain rfl : v18 = .slice (some ⟨b, off, none⟩) 25 c := hsR S_ 18 rfl
    clear S_ o_
    go_wp2_with fail
    exact kso
   simp only [pA]
   clear H
   intro wb HOX H hfin
   obtain rfl : v16 = .agg ((fit 13 (l.take 9)).1.map V8).toArray := hfin 16 (by decide)
   obtain rfl : v17 = .slice (some ⟨b, off, none⟩) n c := hfin 17 (by decide)
   obtain rfl : v18 = .slice (some ⟨b, off, none⟩) 25 c := hfin 18 (by decide)
   obtain rfl : v3 = .slice (some ⟨b, off, none⟩) 25 c := hfin 3 (by decide)
   clear hfin
   simp only [List.drop_succ_cons, List.drop_zero]
   simp only [applyS] at H
   go_wp2_with fail
   (exact ret_f2 H Try.results57 1 rfl rfl _ rfl Try.underlying107 rfl (by kernel_rfl) rfl (⟨_, rfl, (HS.out.ext H.out.1).take (by have := HN.out; omega) (fun q => by cases q), H.out.1, c, _, rfl⟩))
theorem div_pow (c : Int) (j : Nat) : c / 2 ^ (8 * j) / 256 = c / 2 ^ (8 * (j + 1)) := by
 rw [Int.ediv_ediv_of_nonneg (by exact Int.le_of_lt (Int.pow_pos (by decide)))]
 rw [show 8 * (j + 1) = 8 * j + 8 by omega, Int.pow_add]; rfl
set_option maxRecDepth 4000 in
set_option maxHeartbeats 1600000 in
theorem rfront_any (kind count : Int) (hk : 0 ≤ kind) (hk1 : kind < 256) (hcp : 0 ≤ count) (hc1 : count < 9223372036854775808) (nonce : Vc 16) (ad : Option Addr) (n c : Nat) (data : By) (hd : data.length ≤ 100000) (w : World) (hs : SlB w (.slice ad n c) data) :
  Calls Try.prog 61 #[.int .u8 kind, .int .i64 count, .agg (nonce.1.map V8).toArray, .slice ad n c] w (RetO (frontF kind count nonce.1 data) w) := by
 have HL := kp hs.len
 have H := kp (Loc.start w)
 have HS := kp hs
 have HVK := kp (V8_kind hk hk1)
 have HD := kp hd
 have HCP := kp hcp
 have HC1 := kp hc1
 clear hs hk hk1 hd hcp hc1
 go_enter Try.func61, Try.ntmps61
 go_wp2_with (first | ((with_reducible refine isBx 6 26 ?_); (refine L_box H rfl 26 _ rfl (cat ([Lf.v nonce])) rfl ?_); clear H; intro g6 w6 HGg6 HEg6 H; simp only [pA]) | ((with_reducible show wpList _ _ _ (Oper.mk (some 13) (Op.buildSlice 33 _ _) _ _ _ _ :: _) _ _); (refine L_bs H (by kernel_rfl) 33 1 _ rfl (#[(0, .int .u8 kind)]) (by kernel_rfl) 5 ([.int .u8 kind]) (fun _ => by kernel_rfl) ?_); clear H; intro g13 w13 HGg13 HEg13 H; simp only [pA]))
 have h1 := HGg6.out
 have h2 := HEg6.out.size
 have h3 : g13 ≠ g6 := by have := H.out.2.1; simpa using this
 have h4 := HGg13.out
 have h5 := HEg13.out.size
 have HO := kp (show w13.ownsRow (g6 + 1) 5 1 (.slice (some ⟨g13, 0, none⟩) 1 1) (hdTo kind count 0).length ((hdTo kind count 0).map V8) from owns_lit (by
  show Lc w13 g13 5 [V8 (BitVec.ofInt 8 kind)]
  rw [HVK.out]; exact H.out.at 0 rfl) (by omega) 1 rfl (by omega))
 have HB1 := kp (show w.heap.size ≤ g6 + 1 by omega)
 have H2 := kp H.out.tl
 clear H h1 h2 h3 h4 h5
 have H := H2
 clear H2
 go_loopw [9, 10, 11] (fun b m i wr => ∃ j : Nat, j ≤ 8 ∧ i = .int .i64 j ∧ m = .int .i64 (count / 2 ^ (8 * j)) ∧ Kp (wr.ownsRow (g6 + 1) 5 1 b (hdTo kind count j).length ((hdTo kind count j).map V8)) ∧ Kp (Loc w wr [(g6, 26, cat [Lf.v nonce])])) (fun _ _ i _ => 8 - (intOf i).toNat)
 case atStart => exact ⟨0, by omega, rfl, by simp, HO, H⟩
 case round =>
  obtain ⟨j, hj, rfl, rfl, HO, H⟩ := hrel
  have hgl := kp (H.out.lt 0 rfl)
  have HLN := kp (hdTo_len kind count j hj)
  by_cases hlt : j < 8
  ·have HLS := kp (hdTo_succ kind count j hlt)
   have HDP := kp (div_pow count j)
   have h0 : 0 ≤ count / 2 ^ (8 * j) := Int.ediv_nonneg HCP.out (Int.le_of_lt (Int.pow_pos (by decide)))
   have HVJ := kp (V8_ofInt (count / 2 ^ (8 * j)))
   have h9 : count / 2 ^ (8 * j) < 9223372036854775808 := Int.lt_of_le_of_lt (Int.ediv_le_self _ HCP.out) HC1.out
   generalize count / 2 ^ (8 * j) = m at *
   have hT : m.tmod 256 = m % 256 := Int.tmod_eq_emod_of_nonneg h0
   have hQ : m.tdiv 256 = m / 256 := Int.tdiv_eq_ediv_of_nonneg h0
   have hW : wrap64 (m / 256) = m / 256 := by unfold wrap64; omega
   go_wp2_with (first | ((with_reducible show wpList _ _ _ (Oper.mk (some 23) (Op.buildSlice 33 _ _) _ _ _ _ :: _) _ _); (refine L_bs H (by kernel_rfl) 33 1 _ rfl (#[(0, .int .u8 (m % 256))]) (by kernel_rfl) 5 ([.int .u8 (m % 256)]) (fun _ => by kernel_rfl) ?_); clear H; intro g18 w18 HGg18 HEg18 H; simp only [pA]) | (at_builtin; (have HSX := kp (slb1 (H.out.at 0 rfl)); have HOX2 := kp (owns_ext HO.out HEg18.out); have H2 := kp H.out.tl; clear H; have H := H2; clear H2; refine L_appB H rfl _ _ rfl (g6 + 1) (by have q1 := HB1.out; have q2 := hgl.out; have q3 := HEg18.out.size; omega) (by have q1 := HB1.out; have q2 := hgl.out; have q3 := HEg18.out.size; omega) (by intro zz hz; simp at hz; have q1 := HB1.out; have q2 := hgl.out; have q3 := HEg18.out.size; omega) _ _ rfl HOX2.out _ _ rfl HSX.out ((by rw [HLN.out]; simp; omega)) ?_; clear H HSX HOX2; intro vb wb HO2 HGwb H; simp only [pA])))
   go_roundw
   case rel => exact ⟨j + 1, by omega, by go_num, congrArg (Value.int .i64) HDP.out, kp (by rw [HLS.out]; exact HO2.out), H⟩
   case measure => simp [intOf]; omega
  ·obtain rfl : j = 8 := by omega
   have HLN2 := kp (hdTo_8 kind count)
   rw [HLN2.out] at HO
   have HLB := kp (show (BitVec.ofInt 8 kind :: le8 count).length = 9 by simp [le8_len])
   have HNL := kp nonce.2
   have HFR := kp (show frontF kind count nonce.1 data = BitVec.ofInt 8 kind :: le8 count ++ nonce.1 ++ [BitVec.ofInt 8 data.length, BitVec.ofInt 8 ((data.length : Int) / 256)] ++ data by simp [frontF])
   have hT : (n : Int).tmod 256 = n % 256 := Int.tmod_eq_emod_of_nonneg (by omega)
   have hQ : (n : Int).tdiv 256 = n / 256 := Int.tdiv_eq_ediv_of_nonneg (by omega)
   have hW : wrap64 ((n : Int) / 256) = n / 256 := by have := HD.out; have := HL.out; unfold wrap64; omega
   go_wp2_with (first | (at_builtin; (have HSX := kp (SlB_part H.out 0 rfl 0 0 rfl rfl 16); have HOX2 := HO; refine L_appB H rfl _ _ rfl (g6 + 1) (by have q1 := HB1.out; have q2 : g6 < _ := H.out.lt 0 rfl; omega) (by have q1 := HB1.out; have q2 : g6 < _ := H.out.lt 0 rfl; omega) (by intro zz hz; simp at hz; have q1 := HB1.out; have q2 : g6 < _ := H.out.lt 0 rfl; omega) _ _ rfl HOX2.out _ _ rfl HSX.out ((by rw [HLB.out, HNL.out]; decide)) ?_; clear H HSX HOX2; intro vb wb HO2 HGwb H; simp only [pA])) | ((with_reducible show wpList _ _ _ (Oper.mk (some 39) (Op.buildSlice 33 _ _) _ _ _ _ :: _) _ _); (refine L_bs H (by kernel_rfl) 33 2 _ rfl (#[(0, .int .u8 ((n : Int) % 256)), (1, .int .u8 ((n : Int) / 256 % 256))]) (by kernel_rfl) 5 ([.int .u8 ((n : Int) % 256), .int .u8 ((n : Int) / 256 % 256)]) (fun _ => by kernel_rfl) ?_); clear H; intro g35 w35 HGg35 HEg35 H; simp only [pA]) | (at_builtin; (have HSX := kp (slb2 (H.out.at 0 rfl)); have HOX2 := kp (owns_ext HO2.out HEg35.out); have H2 := kp H.out.tl; clear H; have H := H2; clear H2; refine L_appB H rfl _ _ rfl (g6 + 1) (by have q1 := HB1.out; have q2 : g6 < _ := H.out.lt 0 rfl; omega) (by have q1 := HB1.out; have q2 : g6 < _ := H.out.lt 0 rfl; omega) (by intro zz hz; simp at hz; have q1 := HB1.out; have q2 : g6 < _ := H.out.lt 0 rfl; omega) _ _ rfl HOX2.out _ _ rfl HSX.out ((by rw [List.length_append, HLB.out, HNL.out]; simp)) ?_; clear H HSX HOX2; intro vc wc HO3 HGwc H; simp only [pA])) | (at_builtin; (have HSX := kp (HS.out.ext H.out.1); have HOX2 := HO3; refine L_appB H rfl _ _ rfl (g6 + 1) (by have q1 := HB1.out; have q2 : g6 < _ := H.out.lt 0 rfl; omega) (by have q1 := HB1.out; have q2 : g6 < _ := H.out.lt 0 rfl; omega) (by intro zz hz; simp at hz; have q1 := HB1.out; have q2 : g6 < _ := H.out.lt 0 rfl; omega) _ _ rfl HOX2.out _ _ rfl HSX.out ((by rw [List.length_append, List.length_append, HLB.out, HNL.out]; have := HD.out; simp; omega)) ?_; clear H HSX HOX2; intro vd wd HO4 HGwd H; simp only [pA])))
   go_ret
   rw [HL.out, ← HFR.out] at HO4
   exact ⟨_, rfl, owns_weak HO4.out HB1.out, H.out.1⟩
set_option maxRecDepth 4000 in
set_option maxHeartbeats 1600000 in
theorem rmessage1_any (k : Vc 16) (count : Int) (hcp : 0 ≤ count) (hc1 : count < 9223372036854775808) (nonce : Vc 16) (w : World) :
  Calls Try.prog 44 #[.agg (k.1.map V8).toArray, .int .u8 1, .int .i64 count, .agg (nonce.1.map V8).toArray, .slice none 0 0] w (RetO (signedF k.1 1 count nonce.1 []) w) := by
 have H := kp (Loc.start w)
 have HFL := kp (front_short 1 count nonce (data := []) (by decide))
 have HB := kp (fun w => rfront_any 1 count (by decide) (by decide) hcp hc1 nonce none 0 0 [] (by decide) w (.inl ⟨rfl, .inl rfl⟩))
 have HS1 := kp (signed_1 k.1 count nonce.1 [])
 clear hcp hc1
 go_enter Try.func44, Try.ntmps44
 go_wp2_with (first | ((with_reducible refine isBx 5 25 ?_); (refine L_box H rfl 25 _ rfl (cat ([Lf.v k])) rfl ?_); clear H; intro g5 w5 HGg5 HEg5 H; simp only [pA]) | ((with_reducible refine isBx 8 26 ?_); (refine L_box H rfl 26 _ rfl (cat ([Lf.v nonce])) rfl ?_); clear H; intro g8 w8 HGg8 HEg8 H; simp only [pA]) | ((with_reducible refine isLd 26 ?_); (refine L_fv H rfl 26 _ rfl 0 rfl _ rfl _ rfl rfl Try.underlying26 rfl (by kernel_rfl) ?_); simp only [pA]) | (go_at_call 61; refine (HB.out _).mono ?_; rintro e wa ⟨v, rfl, ho, hx⟩; have HO := kp ho; have HLT := kp (H.out.lt 0 rfl); have HLU := kp (H.out.lt 1 rfl); clear ho; have HX0 := kp hx; replace H := kp (H.out.ext hx); have HXC := kp hx; clear hx) | (at_builtin; refine L_appZ H rfl _ rfl (w8.heap.size) (by have q1 : g8 < _ := HLT.out; have q2 : g5 < _ := HLU.out; have q3 := H.out.1.size; have q4 := HEg5.out.size; have q5 := HEg8.out.size; have q6 := HX0.out.size; omega) (by have q1 : g8 < _ := HLT.out; have q2 : g5 < _ := HLU.out; have q3 := H.out.1.size; have q4 := HEg5.out.size; have q5 := HEg8.out.size; have q6 := HX0.out.size; omega) (by intro zz hz; simp at hz; have q1 : g8 < _ := HLT.out; have q2 : g5 < _ := HLU.out; have q3 := H.out.1.size; have q4 := HEg5.out.size; have q5 := HEg8.out.size; have q6 := HX0.out.size; omega) _ _ rfl (HO).out (HFL.out.2) ((by have := HFL.out.1; omega)) ?_; clear H; intro vb wb HO2 HGwb H; simp only [pA]))
 go_ret
 rw [← HS1.out] at HO2
 exact ⟨_, rfl, owns_weak HO2.out (by have q1 : g8 < _ := HLT.out; have q2 : g5 < _ := HLU.out; have q3 := H.out.1.size; have q4 := HEg5.out.size; have q5 := HEg8.out.size; have q6 := HX0.out.size; omega), H.out.1⟩
def rmacTo (ks bs : List (BitVec 8)) : Nat → List (BitVec 8)
 | 0 => encF ks (macHdTo bs.length 8)
 | j + 1 => encF ks (xorTo (rmacTo ks bs j) (padF bs) (16 * j) 16)
theorem rmacTo_len (ks bs : List (BitVec 8)) : ∀ j, (rmacTo ks bs j).length = 16
 | 0 => encF_len _ _
 | _ + 1 => encF_len _ _
theorem mac_in (ks bs : List (BitVec 8)) (j : Nat) : ∀ k, k < 16 → (k = 0 ∨ 16 * j + k < bs.length) → macTo ks bs (16 * j + k) = xorTo (macTo ks bs (16 * j)) bs (16 * j) k
 | 0, _, _ => rfl
 | k + 1, hk, h => by
  have hlt : 16 * j + (k + 1) < bs.length := by omega
  rw [show 16 * j + (k + 1) = (16 * j + k) + 1 by omega, macTo, if_neg (by omega), show (16 * j + k) % 16 = k by omega, mac_in ks bs j k (by omega) (by omega), xorTo]
theorem mac_end (ks bs : List (BitVec 8)) (j k : Nat) (hk : k < 16) (h1 : k = 15 ∨ 16 * j + k + 1 = bs.length) (h2 : 16 * j + k < bs.length) : macTo ks bs (16 * j + k + 1) = encF ks (xorTo (macTo ks bs (16 * j)) bs (16 * j) (k + 1)) := by
 rw [macTo, if_pos (by omega), show (16 * j + k) % 16 = k by omega, mac_in ks bs j k hk (by omega), xorTo]
theorem rmac_full (ks bs : List (BitVec 8)) : ∀ j, 16 * j ≤ bs.length → rmacTo ks bs j = macTo ks bs (16 * j)
 | 0, _ => rfl
 | j + 1, h => by
  rw [rmacTo, rmac_full ks bs j (by omega), xorTo_pad, show 16 * (j + 1) = 16 * j + 15 + 1 by omega, mac_end ks bs j 15 (by omega) (.inl rfl) (by omega)]
theorem rmac_mac (ks bs : List (BitVec 8)) : rmacTo ks bs ((bs.length + 15) / 16) = macF ks bs := by
 unfold macF
 by_cases h : bs.length % 16 = 0
 ·rw [rmac_full ks bs _ (by omega)]
  congr 1; omega
 ·obtain ⟨j, hj⟩ : ∃ j, j = bs.length / 16 := ⟨_, rfl⟩
  rw [show (bs.length + 15) / 16 = j + 1 by omega, rmacTo, rmac_full ks bs j (by omega), xorTo_pad]
  have hr : bs.length = 16 * j + (bs.length % 16 - 1) + 1 := by omega
  rw [xorTo_end _ bs (16 * j) (bs.length % 16 - 1 + 1) (by omega) 16 (by omega)]
  have := mac_end ks bs j (bs.length % 16 - 1) (by omega) (.inr hr.symm) (by omega)
  rw [← hr] at this
  exact this.symm
end Go.Proofs.Ytibncchobkaaiaa
