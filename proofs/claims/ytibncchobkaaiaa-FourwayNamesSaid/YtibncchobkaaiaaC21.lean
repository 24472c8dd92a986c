/- Texts of this proof, put together: StT, BitP. -/
import Derived.Test.YtibncchobkaaiaaC16
import Derived.Test.YtibncchobkaaiaaC20
import Derived.Test.YtibncchobkaaiaaC12
import Derived.Laws.BitsAllLaws
import Derived.Test.YtibncchobkaaiaaC1
namespace Go.Proofs.Ytibncchobkaaiaa
open Go.RowKit
theorem check_wait {s : Fw} (h : checkB s = true) : (0 ≤ s.replay ∧ s.replay < 4611686018427387904) ∧ (s.due ≠ 0 → s.role = 1 ∧ 1 ≤ s.tries ∧ s.tries ≤ 4 ∧ s.replay ≤ 8) ∧ (s.role = 1 ∨ s.role = 2) := by
 unfold checkB validF at h
 simp only [Bool.and_eq_true] at h
 have hv := h.1.2
 by_cases h1 : s.role = 1
 ·rw [if_pos h1] at hv
  unfold validAuthF at hv
  split at hv
  ·cases hv
  rename_i b1
  split at hv
  ·cases hv
  rename_i b2
  have b1 : badA1 s = false := by simpa using b1
  have b2 : badA2 s = false := by simpa using b2
  unfold badA1 at b1
  unfold badA2 at b2
  simp only [Bool.or_eq_false_iff, decide_eq_false_iff_not] at b1
  have q1 : 0 ≤ oneI (!idleB s) ∧ oneI (!idleB s) ≤ 1 := by cases idleB s <;> decide
  refine ⟨by omega, fun hd => ⟨h1, ?_⟩, .inl h1⟩
  cases hw : waitsB s with
  | true =>
   rw [hw] at b2
   simp only [Bool.true_and, Bool.not_true, Bool.false_and, Bool.or_false, Bool.or_eq_false_iff, decide_eq_false_iff_not] at b2
   omega
  | false =>
   rw [hw] at b2
   simp only [Bool.false_and, Bool.not_false, Bool.true_and, Bool.false_or, Bool.or_eq_false_iff] at b2
   exact absurd (by simpa using b2.2) hd
 ·rw [if_neg h1] at hv
  by_cases h2 : s.role = 2
  ·rw [if_pos h2] at hv
   unfold validSupF at hv
   split at hv
   ·cases hv
   rename_i b1
   have b1 : badS1 s = false := by simpa using b1
   unfold badS1 at b1
   simp only [Bool.or_eq_false_iff, decide_eq_false_iff_not] at b1
   refine ⟨by omega, fun hd => absurd (by simpa using b1.2) hd, .inr h2⟩
  ·rw [if_neg h2] at hv; cases hv
theorem checked_zero {s : Fw} {now : Int} (h : checkedF s now = 0) : checkB s = true ∧ 0 ≤ now ∧ now ≤ 1099511627776 := by
 refine ⟨?_, checked_time h⟩
 unfold checkedF at h
 split at h
 ·assumption
 ·exact absurd h (by decide)
theorem len_F (s t : Fw) : (cat (partsF s)).length = (cat (partsF t)).length := by rw [cat_len, cat_len]; rfl
theorem sizeFw (s : Fw) : (Try.prog.info? 32).map (·.size) = some (cat (partsF s)).toArray.size := by rw [List.size_toArray, cat_len]; kernel_rfl
theorem resR_err {r : Res} {E : Int} {w w' : World} (h : r = errR E) (hx : Ext w w') : ResR r w (.returned (.tuple #[.agg (cat (partsF fw0)).toArray, .slice none 0 0, .int .i64 E])) w' := by
 subst h; exact ⟨_, rfl, SlBB.nil _ _, hx⟩
theorem resR_ok {r : Res} {s : Fw} {l : List By} {v : Value} {w w' : World} {B : Nat} (h : r = (s, l, 0)) (hs : SlBB B w' v l) (hb : w.heap.size ≤ B) (hx : Ext w w') : ResR r w (.returned (.tuple #[.agg (cat (partsF s)).toArray, v, .int .i64 0])) w' := by
 subst h; exact ⟨_, rfl, hs.weak hb, hx⟩
set_option maxRecDepth 4000 in
set_option maxHeartbeats 1600000 in
theorem start_any (s : Fw) (now : Int) (w : World) : Calls Try.prog 10 #[.agg (cat (partsF s)).toArray, .int .i64 now] w (ResR (startF s now) w) := by
 have H := kp (Loc.start w)
 have HC := kp (checked_any s now)
 have HR0 := kp (show checkedF s now ≠ 0 → startF s now = errR (checkedF s now) from fun h => by unfold startF; rw [if_pos h])
 have HR1 := kp (show checkedF s now = 0 → (s.role ≠ 1 ∨ s.stage ≠ 0) → startF s now = errR 20 from fun h h1 => by unfold startF; rw [if_neg (by omega), if_pos h1])
 have HR2 := kp (show checkedF s now = 0 → s.role = 1 → s.stage = 0 → startF s now = ({ s with stage := 1, replay := 1, tries := 1, due := now + 100000 }, [sendF { s with stage := 1, replay := 1, tries := 1, due := now + 100000 }], 0) from fun h h1 h2 => by unfold startF; rw [if_neg (by omega), if_neg (by omega)])
 have HCZ := kp (fun h : checkedF s now = 0 => checked_zero h)
 generalize startF s now = r at *
 generalize checkedF s now = E at *
 go_enter Try.func10, Try.ntmps10
 generalize h6 : (Code.region 6 _ _ : Code) = R6
 generalize h7 : (Code.region 7 _ _ : Code) = R7
 go_wp2_with (first | ((with_reducible show wpList _ _ _ (Oper.mk (some 2) (Op.box 32 _) _ _ _ _ :: _) _ _); (refine L_box H rfl 32 _ rfl (cat (partsF s)) rfl ?_); clear H; intro g2 w2 HGg2 HEg2 H; simp only [Act.put, sbA, szA, ssA]) | ((with_reducible show wpList _ _ _ (Oper.mk (some 4) (Op.alloc 32) _ _ _ _ :: _) _ _); (refine L_alloc H rfl 32 rfl (cat (partsF fw0)) (fun _ _ => by kernel_rfl) ?_); clear H; intro g4 w4 HGg4 HEg4 H; simp only [Act.put, sbA, szA, ssA]) | ((with_reducible refine isLd 32 ?_); (refine L_fa H rfl 32 _ rfl 1 rfl rfl Try.underlying32 rfl (by kernel_rfl) ?_); simp only [Act.put, sbA, szA, ssA]) | ((with_reducible show wpList _ _ _ (Oper.mk _ (Op.build 32 _) _ _ _ _ :: _) _ _); (refine L_bd rfl 32 _ rfl #[] (by kernel_rfl) (cat (partsF fw0)) (fun _ => by kernel_rfl) ?_); simp only [Act.put, sbA, szA, ssA]) | ((with_reducible refine isLd 5 ?_); (refine L_f1 H rfl 5 _ rfl 1 rfl _ rfl _ rfl _ rfl Try.underlying5 rfl ?_); simp only [Act.put, sbA, szA, ssA]) | (go_at_call 29; refine (HC.out _).mono ?_; rintro e wa ⟨rfl, hx⟩; have H2 := kp (H.out.ext hx); have HXC := kp hx; clear H hx; have H := H2; clear H2) | ((with_reducible refine isSt 32 ?_); (refine L_sa H rfl rfl 32 _ _ rfl 0 rfl rfl (partsF fw0) rfl rfl (by kernel_rfl) ?_; clear H; intro wz HWwz H; simp only [szA] at H)))
 ·rename (E != 0) = true => h
  have HK := kp (HR0.out (by simpa using h))
  (exact ret_f3 H Try.results10 0 rfl rfl _ _ rfl rfl Try.underlying32 rfl (by kernel_rfl) rfl (resR_err HK.out H.out.1))
 ·rename (E != 0) = false => h
  rename ¬ s.role = 1 => h1
  have HK := kp (HR1.out (by simpa using h) (.inl h1))
  (exact ret_f3 H Try.results10 0 rfl rfl _ _ rfl rfl Try.underlying32 rfl (by kernel_rfl) rfl (resR_err HK.out H.out.1))
 ·rename (E != 0) = false => h
  rename (s.stage != 0) = true => h1
  have HK := kp (HR1.out (by simpa using h) (.inr (by simpa using h1)))
  (exact ret_f3 H Try.results10 0 rfl rfl _ _ rfl rfl Try.underlying32 rfl (by kernel_rfl) rfl (resR_err HK.out H.out.1))
 ·rename (E != 0) = false => h
  rename (s.stage != 0) = false => h1
  rename s.role = 1 => h2
  have HK := kp (HR2.out (by simpa using h) h2 (by simpa using h1))
  obtain ⟨_, hn0, hn1⟩ := HCZ.out (by simpa using h)
  clear h h1 h2
  obtain ⟨s', hs'⟩ : ∃ t, t = { s with stage := 1, replay := 1, tries := 1, due := now + 100000 } := ⟨_, rfl⟩
  have HRS := kp (show r = (s', [sendF s'], 0) by rw [hs']; exact HK.out)
  have HS' := kp hs'
  clear hs' HK
  subst h6
  go_wp2_with (first | ((with_reducible refine isSt 5 ?_); (refine L_s1 H rfl rfl 5 _ _ rfl 1 rfl _ rfl _ rfl _ rfl rfl rfl rfl (by kernel_rfl) (_) rfl ?_; clear H; intro wb HWwb H; simp only [ssA, szA] at H)) | ((with_reducible refine isSt 3 ?_); (refine L_s1 H rfl rfl 3 _ _ rfl 1 rfl _ rfl _ rfl _ rfl rfl rfl rfl (by kernel_rfl) (_) rfl ?_; clear H; intro wc HWwc H; simp only [ssA, szA] at H)))
  have H2 := kp (show Loc w wc [(g4, 32, cat (partsF fw0)), (g2, 32, cat (partsF s'))] from by rw [HS'.out]; exact H.out)
  clear H
  have H := H2
  clear H2
  subst h7
  have HLT := kp (H.out.lt 0 rfl)
  have HSZ := kp H.out.1.size
  refine region_free H (tabS [(30, fun vQ _ => vQ = .agg (cat (partsF s')).toArray), (31, fun vQ _ => vQ = .agg (cat (partsF s')).toArray), (32, fun vQ wQ => SlBB wc.heap.size wQ vQ [sendF s']), (5, fun vQ wQ => SlBB wc.heap.size wQ vQ [sendF s']), (6, fun vQ _ => vQ = .int .i64 0)]) [⟨3, 0, g4, 32, cat (partsF fw0), cat (partsF s')⟩] (tabS_out _ _ (by simp only [List.forall_mem_cons]; exact ⟨mono_eqO _ _, mono_eqO _ _, (mono_SlBB _ (lt1 HLT.out)), (mono_SlBB _ (lt1 HLT.out)), mono_eqO _ _, by simp⟩)) 6 (by kernel_rfl) (by kernel_rfl) (by kernel_rfl) (by kernel_rfl) [3] [0] rfl rfl (by decide) (by decide) (by decide) ⟨rfl, trivial⟩ ?_
  simp only [List.take_succ_cons, List.take_zero]
  refine ⟨fun w_ o_ S_ => ?_, fun v30 => ?_⟩
  ·clear S_
   have H := kp (H.out.keep [1] (St := [⟨3, 0, g4, 32, cat (partsF fw0), cat (partsF s')⟩]) ⟨rfl, trivial⟩ o_ (by decide) (by kernel_rfl))
   have HOX := kp o_
   clear o_
   go_wp2_with ((with_reducible refine isLd 32 ?_); (refine L_fa H rfl 32 _ rfl 0 rfl rfl Try.underlying32 rfl (by kernel_rfl) ?_); simp only [Act.put, sbA, szA, ssA])
   exact kso rfl rfl rfl
  simp only [Act.put, sbA, szA, ssA]
  refine ⟨fun w_ o_ S_ => ?_, fun v31 => ?_⟩
  ·clear S_
   have H := kp (H.out.keep [1] (St := [⟨3, 0, g4, 32, cat (partsF fw0), cat (partsF s')⟩]) ⟨rfl, trivial⟩ o_ (by decide) (by kernel_rfl))
   have HOX := kp o_
   clear o_
   go_wp2_with ((with_reducible refine isLd 32 ?_); (refine L_fa H rfl 32 _ rfl 0 rfl rfl Try.underlying32 rfl (by kernel_rfl) ?_); simp only [Act.put, sbA, szA, ssA])
   exact kso rfl rfl rfl
  simp only [Act.put, sbA, szA, ssA]
  refine ⟨fun w_ o_ S_ => ?_, fun v32 => ?_⟩
  ·obtain rfl : v31 = .agg (cat (partsF s')).toArray := hsR S_ 31 rfl
   clear S_
   have H := kp (H.out.keep [1] (St := [⟨3, 0, g4, 32, cat (partsF fw0), cat (partsF s')⟩]) ⟨rfl, trivial⟩ o_ (by decide) (by kernel_rfl))
   have HOX := kp o_
   clear o_
   go_wp2_with fail
   refine (send_any s' _).mono ?_
   rintro e w2 ⟨v, rfl, hs, hx⟩
   have HSL := kp (hs.weak HOX.out.size)
   have HXC := kp hx
   clear hs hx
   go_wp2_with fail
   exact ⟨rfl, _, rfl, fun d hd => by cases hd; exact HSL.out, HXC.out⟩
  simp only [Act.put, sbA, szA, ssA]
  refine ⟨⟨rfl, rfl, fun ws3 hos3 hSs3 hLs3 => ?_⟩, ?_⟩
  ·obtain rfl : v30 = .agg (cat (partsF s')).toArray := hSs3 30 (by decide) (by decide)
   exact run_sto 32 _ _ rfl rfl rfl hLs3 (sizeFw _) (len_F _ _) (by simpa using cat_one (partsF s'))
  refine ⟨fun w_ o_ S_ => ?_, fun v5 => ?_⟩
  ·have h32 := kp (show SlBB wc.heap.size w_ v32 [sendF s'] from hsR S_ 32 rfl)
   clear S_ o_
   go_wp2_with fail
   exact ⟨rfl, _, rfl, fun d hd => by cases hd; exact h32.out, Ext.refl _⟩
  simp only [Act.put, sbA, szA, ssA]
  refine ⟨fun w_ o_ S_ => ?_, fun v6 => ?_⟩
  ·clear S_
   clear o_
   go_wp2_with fail
   exact kso rfl rfl rfl
  simp only [Act.put, sbA, szA, ssA]
  clear H
  intro wy HOX H hfin
  obtain rfl : v30 = .agg (cat (partsF s')).toArray := hfin 30 (by decide)
  obtain rfl : v31 = .agg (cat (partsF s')).toArray := hfin 31 (by decide)
  have F32 := kp (show SlBB wc.heap.size wy v32 [sendF s'] from hfin 32 (by decide))
  have F5 := kp (show SlBB wc.heap.size wy v5 [sendF s'] from hfin 5 (by decide))
  obtain rfl : v6 = .int .i64 0 := hfin 6 (by decide)
  clear hfin
  simp only [List.drop_succ_cons, List.drop_zero]
  simp only [applyS] at H
  go_wp2_with fail
  (exact ret_f3 H Try.results10 0 rfl rfl _ _ rfl rfl Try.underlying32 rfl (by kernel_rfl) rfl (resR_ok HRS.out F5.out HSZ.out H.out.1))
set_option maxRecDepth 4000 in
set_option maxHeartbeats 1600000 in
theorem tick_any (s : Fw) (now : Int) (w : World) : Calls Try.prog 13 #[.agg (cat (partsF s)).toArray, .int .i64 now] w (ResR (tickF s now) w) := by
 have H := kp (Loc.start w)
 have HC := kp (checked_any s now)
 have HR0 := kp (show checkedF s now ≠ 0 → tickF s now = errR (checkedF s now) from fun h => by unfold tickF; rw [if_pos h])
 have HR1 := kp (fun (h : checkedF s now = 0) (h1 : s.due = 0 ∨ now < s.due) => tickF_still h h1)
 have HR2 := kp (fun (h : checkedF s now = 0) (h1 : ¬ (s.due = 0 ∨ now < s.due)) (h2 : s.tries = 4) => tickF_fail h h1 h2)
 have HR3 := kp (fun (h : checkedF s now = 0) (h1 : ¬ (s.due = 0 ∨ now < s.due)) (h2 : s.tries ≠ 4) => tickF_again h h1 h2)
 have HCZ := kp (fun h : checkedF s now = 0 => checked_zero h)
 have HCW := kp (fun h : checkedF s now = 0 => check_wait (checked_zero h).1)
 generalize tickF s now = r at *
 generalize checkedF s now = E at *
 go_enter Try.func13, Try.ntmps13
 generalize h5 : (Code.region 5 _ _ : Code) = R5
 generalize h7 : (Code.region 7 _ _ : Code) = R7
 generalize h8 : (Code.region 8 _ _ : Code) = R8
 generalize h9 : (Code.region 9 _ _ : Code) = R9
 generalize h10 : (Code.region 10 _ _ : Code) = R10
 go_wp2_with (first | ((with_reducible show wpList _ _ _ (Oper.mk (some 2) (Op.box 32 _) _ _ _ _ :: _) _ _); (refine L_box H rfl 32 _ rfl (cat (partsF s)) rfl ?_); clear H; intro g2 w2 HGg2 HEg2 H; simp only [Act.put, sbA, szA, ssA]) | ((with_reducible show wpList _ _ _ (Oper.mk (some 4) (Op.alloc 32) _ _ _ _ :: _) _ _); (refine L_alloc H rfl 32 rfl (cat (partsF fw0)) (fun _ _ => by kernel_rfl) ?_); clear H; intro g4 w4 HGg4 HEg4 H; simp only [Act.put, sbA, szA, ssA]) | ((with_reducible refine isLd 32 ?_); (refine L_fa H rfl 32 _ rfl 1 rfl rfl Try.underlying32 rfl (by kernel_rfl) ?_); simp only [Act.put, sbA, szA, ssA]) | ((with_reducible show wpList _ _ _ (Oper.mk _ (Op.build 32 _) _ _ _ _ :: _) _ _); (refine L_bd rfl 32 _ rfl #[] (by kernel_rfl) (cat (partsF fw0)) (fun _ => by kernel_rfl) ?_); simp only [Act.put, sbA, szA, ssA]) | ((with_reducible refine isLd 3 ?_); (refine L_f1 H rfl 3 _ rfl 1 rfl _ rfl _ rfl _ rfl Try.underlying3 rfl ?_); simp only [Act.put, sbA, szA, ssA]) | (go_at_call 29; refine (HC.out _).mono ?_; rintro e wa ⟨rfl, hx⟩; have H2 := kp (H.out.ext hx); have HXC := kp hx; clear H hx; have H := H2; clear H2) | ((with_reducible refine isSt 32 ?_); (refine L_sa H rfl rfl 32 _ _ rfl 0 rfl rfl (partsF fw0) rfl rfl (by kernel_rfl) ?_; clear H; intro wz HWwz H; simp only [szA] at H)))
 ·rename (E != 0) = true => h
  have HK := kp (HR0.out (by simpa using h))
  (exact ret_f3 H Try.results13 0 rfl rfl _ _ rfl rfl Try.underlying32 rfl (by kernel_rfl) rfl (resR_err HK.out H.out.1))
 ·rename (E != 0) = false => h
  rename s.due = 0 => h1
  have HK := kp (HR1.out (by simpa using h) (.inl h1))
  clear h h1
  subst h5
  go_wp2_with (first | ((with_reducible refine isLd 32 ?_); (refine L_fa H rfl 32 _ rfl 1 rfl rfl Try.underlying32 rfl (by kernel_rfl) ?_); simp only [Act.put, sbA, szA, ssA]) | ((with_reducible refine isSt 32 ?_); (refine L_sa H rfl rfl 32 _ _ rfl 0 rfl rfl (partsF s) rfl rfl (by kernel_rfl) ?_; clear H; intro wz HWwz H; simp only [szA] at H)))
  (exact ret_f3 H Try.results13 0 rfl rfl _ _ rfl rfl Try.underlying32 rfl (by kernel_rfl) rfl (resR_ok HK.out (SlBB.nil _ _) (Nat.le_refl _) H.out.1))
 ·rename (E != 0) = false => h
  rename now < s.due => h1
  have HK := kp (HR1.out (by simpa using h) (.inr h1))
  clear h h1
  subst h5
  go_wp2_with (first | ((with_reducible refine isLd 32 ?_); (refine L_fa H rfl 32 _ rfl 1 rfl rfl Try.underlying32 rfl (by kernel_rfl) ?_); simp only [Act.put, sbA, szA, ssA]) | ((with_reducible refine isSt 32 ?_); (refine L_sa H rfl rfl 32 _ _ rfl 0 rfl rfl (partsF s) rfl rfl (by kernel_rfl) ?_; clear H; intro wz HWwz H; simp only [szA] at H)))
  (exact ret_f3 H Try.results13 0 rfl rfl _ _ rfl rfl Try.underlying32 rfl (by kernel_rfl) rfl (resR_ok HK.out (SlBB.nil _ _) (Nat.le_refl _) H.out.1))
 ·rename (E != 0) = false => h
  rename ¬ s.due = 0 => h1
  rename s.due ≤ now => h2
  rename (s.tries == 4) = true => h3
  have HK := kp (HR2.out (by simpa using h) (by omega) (by simpa using h3))
  clear h h1 h2 h3
  obtain ⟨s', hs'⟩ : ∃ t, t = { s with stage := 5, other := zv 16, pair := ks0, tries := 0, due := 0 } := ⟨_, rfl⟩
  have HRS := kp (show r = (s', [], 0) by rw [hs']; exact HK.out)
  have HS' := kp hs'
  clear hs' HK
  subst h7
  go_wp2_with (first | ((with_reducible show wpList _ _ _ (Oper.mk _ (Op.build 26 _) _ _ _ _ :: _) _ _); (refine L_bd rfl 26 _ rfl #[] (by kernel_rfl) ((zv 16).1.map V8) (fun _ => by kernel_rfl) ?_); simp only [Act.put, sbA, szA, ssA]) | ((with_reducible show wpList _ _ _ (Oper.mk _ (Op.build 28 _) _ _ _ _ :: _) _ _); (refine L_bd rfl 28 _ rfl #[] (by kernel_rfl) (cat (partsK ks0)) (fun _ => by kernel_rfl) ?_); simp only [Act.put, sbA, szA, ssA]) | ((with_reducible refine isSt 5 ?_); (refine L_s1 H rfl rfl 5 _ _ rfl 1 rfl _ rfl _ rfl _ rfl rfl rfl rfl (by kernel_rfl) (_) rfl ?_; clear H; intro wb HWwb H; simp only [ssA, szA] at H)) | ((with_reducible refine isSt 3 ?_); (refine L_s1 H rfl rfl 3 _ _ rfl 1 rfl _ rfl _ rfl _ rfl rfl rfl rfl (by kernel_rfl) (_) rfl ?_; clear H; intro wc HWwc H; simp only [ssA, szA] at H)) | ((with_reducible refine isSt 26 ?_); (refine L_sv H rfl rfl 26 _ _ rfl 1 rfl _ rfl _ rfl (Lf.v (zv 16)) rfl rfl rfl (by kernel_rfl) (_) rfl ?_; clear H; intro wd HWwd H; simp only [ssA, szA] at H)) | ((with_reducible refine isSt 28 ?_); (refine L_sg H rfl rfl 28 _ _ rfl 1 rfl _ rfl _ rfl 3 (partsK ks0) rfl rfl (by kernel_rfl) (_) rfl ?_; clear H; intro wf HWwf H; simp only [ssA, szA] at H)))
  have H2 := kp (show Loc w wc [(g4, 32, cat (partsF fw0)), (g2, 32, cat (partsF s'))] from by rw [HS'.out]; exact H.out)
  clear H
  have H := H2
  clear H2
  subst h8
  go_wp2_with (first | ((with_reducible refine isLd 32 ?_); (refine L_fa H rfl 32 _ rfl 1 rfl rfl Try.underlying32 rfl (by kernel_rfl) ?_); simp only [Act.put, sbA, szA, ssA]) | ((with_reducible refine isSt 32 ?_); (refine L_sa H rfl rfl 32 _ _ rfl 0 rfl rfl (partsF s') rfl rfl (by kernel_rfl) ?_; clear H; intro wz HWwz H; simp only [szA] at H)))
  (exact ret_f3 H Try.results13 0 rfl rfl _ _ rfl rfl Try.underlying32 rfl (by kernel_rfl) rfl (resR_ok HRS.out (SlBB.nil _ _) (Nat.le_refl _) H.out.1))
 ·rename (E != 0) = false => h
  rename ¬ s.due = 0 => h1
  rename s.due ≤ now => h2
  rename (s.tries == 4) = false => h3
  have HK := kp (HR3.out (by simpa using h) (by omega) (by simpa using h3))
  obtain ⟨_, hn0, hn1⟩ := HCZ.out (by simpa using h)
  obtain ⟨_, hq, _⟩ := HCW.out (by simpa using h)
  obtain ⟨_, hq1, hq2, hq3⟩ := hq h1
  obtain ⟨⟨hq4, _⟩, _⟩ := HCW.out (by simpa using h)
  clear h h1 h2 h3
  obtain ⟨s', hs'⟩ : ∃ t, t = { s with tries := s.tries + 1, replay := s.replay + 1, due := now + 100000 } := ⟨_, rfl⟩
  have HRS := kp (show r = (s', [sendF s'], 0) by rw [hs']; exact HK.out)
  have HS' := kp hs'
  clear hs' HK
  subst h9
  go_wp2_with (first | ((with_reducible refine isLd 3 ?_); (refine L_f1 H rfl 3 _ rfl 1 rfl _ rfl _ rfl _ rfl Try.underlying3 rfl ?_); simp only [Act.put, sbA, szA, ssA]) | ((with_reducible refine isSt 3 ?_); (refine L_s1 H rfl rfl 3 _ _ rfl 1 rfl _ rfl _ rfl _ rfl rfl rfl rfl (by kernel_rfl) (_) rfl ?_; clear H; intro wc HWwc H; simp only [ssA, szA] at H)))
  have H2 := kp (show Loc w wc [(g4, 32, cat (partsF fw0)), (g2, 32, cat (partsF s'))] from by rw [HS'.out]; exact H.out)
  clear H
  have H := H2
  clear H2
  subst h10
  have HLT := kp (H.out.lt 0 rfl)
  have HSZ := kp H.out.1.size
  refine region_free H (tabS [(47, fun vQ _ => vQ = .agg (cat (partsF s')).toArray), (48, fun vQ _ => vQ = .agg (cat (partsF s')).toArray), (49, fun vQ wQ => SlBB wc.heap.size wQ vQ [sendF s']), (5, fun vQ wQ => SlBB wc.heap.size wQ vQ [sendF s']), (6, fun vQ _ => vQ = .int .i64 0)]) [⟨3, 0, g4, 32, cat (partsF fw0), cat (partsF s')⟩] (tabS_out _ _ (by simp only [List.forall_mem_cons]; exact ⟨mono_eqO _ _, mono_eqO _ _, (mono_SlBB _ (lt1 HLT.out)), (mono_SlBB _ (lt1 HLT.out)), mono_eqO _ _, by simp⟩)) 6 (by kernel_rfl) (by kernel_rfl) (by kernel_rfl) (by kernel_rfl) [3] [0] rfl rfl (by decide) (by decide) (by decide) ⟨rfl, trivial⟩ ?_
  simp only [List.take_succ_cons, List.take_zero]
  refine ⟨fun w_ o_ S_ => ?_, fun v47 => ?_⟩
  ·clear S_
   have H := kp (H.out.keep [1] (St := [⟨3, 0, g4, 32, cat (partsF fw0), cat (partsF s')⟩]) ⟨rfl, trivial⟩ o_ (by decide) (by kernel_rfl))
   have HOX := kp o_
   clear o_
   go_wp2_with ((with_reducible refine isLd 32 ?_); (refine L_fa H rfl 32 _ rfl 0 rfl rfl Try.underlying32 rfl (by kernel_rfl) ?_); simp only [Act.put, sbA, szA, ssA])
   exact kso rfl rfl rfl
  simp only [Act.put, sbA, szA, ssA]
  refine ⟨fun w_ o_ S_ => ?_, fun v48 => ?_⟩
  ·clear S_
   have H := kp (H.out.keep [1] (St := [⟨3, 0, g4, 32, cat (partsF fw0), cat (partsF s')⟩]) ⟨rfl, trivial⟩ o_ (by decide) (by kernel_rfl))
   have HOX := kp o_
   clear o_
   go_wp2_with ((with_reducible refine isLd 32 ?_); (refine L_fa H rfl 32 _ rfl 0 rfl rfl Try.underlying32 rfl (by kernel_rfl) ?_); simp only [Act.put, sbA, szA, ssA])
   exact kso rfl rfl rfl
  simp only [Act.put, sbA, szA, ssA]
  refine ⟨fun w_ o_ S_ => ?_, fun v49 => ?_⟩
  ·obtain rfl : v48 = .agg (cat (partsF s')).toArray := hsR S_ 48 rfl
   clear S_
   have H := kp (H.out.keep [1] (St := [⟨3, 0, g4, 32, cat (partsF fw0), cat (partsF s')⟩]) ⟨rfl, trivial⟩ o_ (by decide) (by kernel_rfl))
   have HOX := kp o_
   clear o_
   go_wp2_with fail
   refine (send_any s' _).mono ?_
   rintro e w2 ⟨v, rfl, hs, hx⟩
   have HSL := kp (hs.weak HOX.out.size)
   have HXC := kp hx
   clear hs hx
   go_wp2_with fail
   exact ⟨rfl, _, rfl, fun d hd => by cases hd; exact HSL.out, HXC.out⟩
  simp only [Act.put, sbA, szA, ssA]
  refine ⟨⟨rfl, rfl, fun ws3 hos3 hSs3 hLs3 => ?_⟩, ?_⟩
  ·obtain rfl : v47 = .agg (cat (partsF s')).toArray := hSs3 47 (by decide) (by decide)
   exact run_sto 32 _ _ rfl rfl rfl hLs3 (sizeFw _) (len_F _ _) (by simpa using cat_one (partsF s'))
  refine ⟨fun w_ o_ S_ => ?_, fun v5 => ?_⟩
  ·have h49 := kp (show SlBB wc.heap.size w_ v49 [sendF s'] from hsR S_ 49 rfl)
   clear S_ o_
   go_wp2_with fail
   exact ⟨rfl, _, rfl, fun d hd => by cases hd; exact h49.out, Ext.refl _⟩
  simp only [Act.put, sbA, szA, ssA]
  refine ⟨fun w_ o_ S_ => ?_, fun v6 => ?_⟩
  ·clear S_
   clear o_
   go_wp2_with fail
   exact kso rfl rfl rfl
  simp only [Act.put, sbA, szA, ssA]
  clear H
  intro wy HOX H hfin
  obtain rfl : v47 = .agg (cat (partsF s')).toArray := hfin 47 (by decide)
  obtain rfl : v48 = .agg (cat (partsF s')).toArray := hfin 48 (by decide)
  have F49 := kp (show SlBB wc.heap.size wy v49 [sendF s'] from hfin 49 (by decide))
  have F5 := kp (show SlBB wc.heap.size wy v5 [sendF s'] from hfin 5 (by decide))
  obtain rfl : v6 = .int .i64 0 := hfin 6 (by decide)
  clear hfin
  simp only [List.drop_succ_cons, List.drop_zero]
  simp only [applyS] at H
  go_wp2_with fail
  (exact ret_f3 H Try.results13 0 rfl rfl _ _ rfl rfl Try.underlying32 rfl (by kernel_rfl) rfl (resR_ok HRS.out F5.out HSZ.out H.out.1))
end Go.Proofs.Ytibncchobkaaiaa
namespace Go.Proofs.Ytibncchobkaaiaa
open Go.RowKit
theorem numLE_nat : ∀ l : By, ∃ n : Nat, numLE l = n ∧ n < 256 ^ l.length
 | [] => ⟨0, rfl, by simp⟩
 | x :: l => by
  obtain ⟨n, h1, h2⟩ := numLE_nat l
  have hx : x.toNat < 256 := x.isLt
  refine ⟨x.toNat + 256 * n, ?_, ?_⟩
  ·rw [numLE, h1]; unfold wI; omega
  ·rw [List.length_cons, Nat.pow_succ]; omega
theorem numLE_snoc (x : BitVec 8) : ∀ l : By, numLE (l ++ [x]) = numLE l + wI x * 256 ^ l.length
 | [] => by simp [numLE]
 | y :: l => by
  rw [List.cons_append, numLE, numLE, numLE_snoc x l, List.length_cons]
  rw [Int.mul_add, Int.pow_succ, Int.add_assoc]
  congr 2
  rw [Int.mul_comm, Int.mul_assoc]
theorem or_disj (a x k : Nat) (h : a < 2 ^ k) : a ||| x * 2 ^ k = a + x * 2 ^ k := by
 have := Nat.shiftLeft_add_eq_or_of_lt h x
 rw [Nat.shiftLeft_eq] at this
 rw [Nat.or_comm, ← this, Nat.add_comm]
def numTo (b : By) (j : Nat) : Int := numLE ((b.drop 1).take j)
theorem numTo_step (b : By) (j : Nat) (x : BitVec 8) (hj : j < 8) (hx : b[1 + j]? = some x) : bits .or .u64 (numTo b j) (IntKind.u64.wrap (IntKind.u64.wrap (wI x) * 2 ^ (8 * j))) = numTo b (j + 1) := by
 have hl : ((b.drop 1).take j).length = j := by
  have := (List.getElem?_eq_some_iff.1 hx).1
  simp; omega
 have he : (b.drop 1)[j]? = some x := by rw [List.getElem?_drop]; exact hx
 obtain ⟨n, h1, h2⟩ := numLE_nat ((b.drop 1).take j)
 rw [hl] at h2
 have e2 : numTo b (j + 1) = numTo b j + wI x * 256 ^ j := by
  unfold numTo
  rw [List.take_add_one, he, Option.toList_some, numLE_snoc, hl]
 have hp : (256 : Nat) ^ j = 2 ^ (8 * j) := by rw [Nat.pow_mul]
 have hxl : x.toNat < 256 := x.isLt
 have hb : x.toNat * 2 ^ (8 * j) < 2 ^ 64 := by
  have h8 : 2 ^ (8 * j) ≤ 2 ^ 56 := Nat.pow_le_pow_right (by decide) (by omega)
  calc x.toNat * 2 ^ (8 * j) < 256 * 2 ^ (8 * j) := Nat.mul_lt_mul_of_pos_right hxl (Nat.pow_pos (by decide))
   _ ≤ 256 * 2 ^ 56 := Nat.mul_le_mul_left _ h8
   _ = 2 ^ 64 := by decide
 have hn : n < 2 ^ 64 := by
  have : (256 : Nat) ^ j ≤ 256 ^ 7 := Nat.pow_le_pow_right (by decide) (by omega)
  have h9 : (256 : Nat) ^ 7 < 2 ^ 64 := by decide
  omega
 have hw1 : IntKind.u64.wrap (wI x) = (x.toNat : Int) := by
  unfold wI; rw [IntKind.wrap_u64]; omega
 have hw2 : IntKind.u64.wrap ((x.toNat : Int) * 2 ^ (8 * j)) = ((x.toNat * 2 ^ (8 * j) : Nat) : Int) := by
  rw [IntKind.wrap_u64, show ((x.toNat : Int) * 2 ^ (8 * j)) = ((x.toNat * 2 ^ (8 * j) : Nat) : Int) by rw [Int.natCast_mul, Int.natCast_pow]; rfl]
  omega
 rw [e2, hw1, hw2]
 show bits .or .u64 (numLE ((b.drop 1).take j)) _ = numLE ((b.drop 1).take j) + _
 rw [h1, u64_or_nat _ _ (by omega) (by omega), or_disj _ _ _ (by rw [← hp]; exact h2)]
 have hpi : (256 : Int) ^ j = ((2 ^ (8 * j) : Nat) : Int) := by rw [← hp, Int.natCast_pow]; rfl
 rw [hpi]; unfold wI; rw [Int.natCast_add, Int.natCast_mul]
theorem numTo_8 (b : By) : numTo b 8 = countP b := rfl
theorem count_nat (b : By) : ∃ n : Nat, countP b = n ∧ n < 2 ^ 64 := by
 obtain ⟨n, h1, h2⟩ := numLE_nat ((b.drop 1).take 8)
 refine ⟨n, h1, Nat.lt_of_lt_of_le h2 ?_⟩
 have : (256 : Nat) ^ ((b.drop 1).take 8).length ≤ 256 ^ 8 := Nat.pow_le_pow_right (by decide) (by simp; omega)
 exact Nat.le_trans this (by decide)
theorem count_and (b : By) : bits .and .u64 (countP b) 4611686018427387903 = countP b % 4611686018427387904 := by
 obtain ⟨n, h1, h2⟩ := count_nat b
 rw [h1, show (4611686018427387903 : Int) = ((2 ^ 62 - 1 : Nat) : Int) from rfl, u64_and_nat _ _ (by omega) (by decide), Nat.and_two_pow_sub_one_eq_mod]
 show ((n % 4611686018427387904 : Nat) : Int) = _
 omega
theorem or_i64 (a b : Nat) (ha : a < 4611686018427387904) (hb : b < 4611686018427387904) : bits .or .i64 (a : Int) (b : Int) = ((a ||| b : Nat) : Int) := by
 have hx : a ||| b < 2 ^ 62 := Nat.or_lt_two_pow (by omega) (by omega)
 have h1 : (BitVec.ofInt 64 (a : Int)).toNat = a := by
  rw [BitVec.ofInt_natCast, BitVec.toNat_ofNat]; exact Nat.mod_eq_of_lt (by omega)
 have h2 : (BitVec.ofInt 64 (b : Int)).toNat = b := by
  rw [BitVec.ofInt_natCast, BitVec.toNat_ofNat]; exact Nat.mod_eq_of_lt (by omega)
 show IntKind.i64.wrap ((BitVec.ofInt 64 (a : Int) ||| BitVec.ofInt 64 (b : Int)).toNat : Int) = _
 rw [BitVec.toNat_or, h1, h2, IntKind.wrap_i64]
 omega
theorem said_or (x y : BitVec 8) : bits .or .i64 (wI x) (wI y * 256) = wI x + 256 * wI y := by
 have hx : x.toNat < 2 ^ 8 := x.isLt
 have hy : y.toNat < 256 := y.isLt
 unfold wI
 rw [show ((y.toNat : Int) * 256) = ((y.toNat * 2 ^ 8 : Nat) : Int) by rw [Int.natCast_mul]; rfl, or_i64 _ _ (by omega) (by omega), or_disj _ _ _ hx]
 show ((x.toNat + y.toNat * 256 : Nat) : Int) = _
 omega
end Go.Proofs.Ytibncchobkaaiaa
