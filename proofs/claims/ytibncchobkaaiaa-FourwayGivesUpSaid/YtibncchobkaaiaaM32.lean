/- Texts of this proof, put together: Giv. -/
import Derived.Test.YtibncchobkaaiaaM31
import Derived.Test.YtibncchobkaaiaaM1
namespace Go.Proofs.Ytibncchobkaaiaa
open Go.RowKit
def GSt (p : Pr) (j : Nat) (n : Int) (s : Fw) : Prop := (j ≤ 3 ∧ s = stA1 p (j + 1) (n + 100000)) ∨ (4 ≤ j ∧ s = stA5 p 4)
def gsent (j : Nat) : Int := if j ≤ 3 then j + 1 else 4
theorem gst_a {p : Pr} (h : p.Ok) {j : Nat} (hj : j < 3) {n x : Int} (hn : 0 ≤ n) (hn2 : n ≤ 20000000) (hx : 100000 ≤ x) (hx2 : x ≤ 1000000) : tickF (stA1 p (j + 1) (n + 100000)) (n + x) = (stA1 p (j + 2) (n + x + 100000), [ms1 p (j + 2)], 0) := by
 have := st_tick1 h (k := j + 1) (d := n + 100000) (n := n + x) (by omega) (by omega) (by unfold DueOk; omega) (by unfold NowOk; omega) (by omega)
 rw [this]; rfl
theorem gst_b {p : Pr} (h : p.Ok) {j : Nat} (hj : 3 ≤ j) {s : Fw} {n x : Int} (hs : GSt p j n s) (hn : 0 ≤ n) (hn2 : n ≤ 20000000) (hx : 100000 ≤ x) (hx2 : x ≤ 1000000) : tickF s (n + x) = (stA5 p 4, [], 0) := by
 rcases hs with ⟨h3, rfl⟩ | ⟨_, rfl⟩
 ·obtain rfl : j = 3 := by omega
  exact st_give h (by unfold DueOk; omega) (by unfold NowOk; omega) (by omega)
 ·exact st_given h (by decide) (by decide) (by unfold NowOk; omega)
set_option maxRecDepth 10000 in
set_option maxHeartbeats 3200000 in
theorem fourwayGivesUp_walk (p : Pr) (v : Value) (l : List Int) (_ : l.length ≤ 9223372036854775807) (w : World) (hv : SlT 1 i64c w v l) : Calls Try.prog 9 #[.agg (cat (partsP p)).toArray, v] w fun e w' => e = .returned (.bool true) ∧ Ext w w' := by
 have H := kp (Loc.start w)
 have HV := kp hv
 obtain ⟨ad, c, rfl⟩ := hv.form
 clear hv
 have C1 := kp alive_any
 go_enter Try.func9, Try.ntmps9
 cases hb : sidesB p with
 | false =>
  have C2 := kp (show ∀ w, Calls Try.prog 25 #[.agg (cat (partsP p)).toArray] w (fun e w' => e = .returned (.tuple #[.agg (cat (parts2 (sidesF p))).toArray, .bool false]) ∧ Ext w w') from fun w => by have := sides_any p w; unfold SidR at this; rwa [hb] at this)
  clear hb
  generalize sidesF p = ss at *
  go_wp2_with (first | ((with_reducible show wpList _ _ _ (Oper.mk (some 2) (Op.box 48 _) _ _ _ _ :: _) _ _); (refine L_box H rfl 48 _ rfl (cat (partsP p)) rfl ?_); clear H; intro g2 w2 HGg2 HEg2 H; simp only [Act.put, sbA, szA, ssA]) | (go_at_call 26; refine (C1.out _).mono ?_; rintro e wa ⟨rfl, hx⟩; have H2 := kp (H.out.ext hx); have HXC := kp hx; clear H hx; have H := H2; clear H2) | ((with_reducible refine isLd 48 ?_); (refine L_fa H rfl 48 _ rfl 0 rfl rfl Try.underlying48 rfl (by kernel_rfl) ?_); simp only [Act.put, sbA, szA, ssA]) | ((with_reducible show wpList _ _ _ (Oper.mk (some 6) (Op.alloc 55) _ _ _ _ :: _) _ _); (refine L_alloc H rfl 55 rfl (cat (parts2 (fw0, fw0))) (fun _ _ => by kernel_rfl) ?_); clear H; intro g6 w6 HGg6 HEg6 H; simp only [Act.put, sbA, szA, ssA]) | ((with_reducible refine isSt 55 ?_); refine L_sa H rfl rfl 55 _ _ rfl 0 rfl rfl (parts2 ss) rfl rfl (by kernel_rfl) ?_; clear H; intro wb HWwb H; simp only [szA] at H) | (go_at_call 25; refine (C2.out _).mono ?_; rintro e wa ⟨rfl, hx⟩; have H2 := kp (H.out.ext hx); have HXC := kp hx; clear H hx; have H := H2; clear H2))
  all_goals go_ret
  all_goals exact ⟨rfl, H.out.1⟩
 | true =>
  have HK := kp (sidesB_ok hb)
  have C2 := kp (sides_okC HK.out)
  clear hb
  by_cases h10 : (10 : Int) < l.length
  ·go_wp2_with (first | ((with_reducible show wpList _ _ _ (Oper.mk (some 2) (Op.box 48 _) _ _ _ _ :: _) _ _); (refine L_box H rfl 48 _ rfl (cat (partsP p)) rfl ?_); clear H; intro g2 w2 HGg2 HEg2 H; simp only [Act.put, sbA, szA, ssA]) | (go_at_call 26; refine (C1.out _).mono ?_; rintro e wa ⟨rfl, hx⟩; have H2 := kp (H.out.ext hx); have HXC := kp hx; clear H hx; have H := H2; clear H2) | ((with_reducible refine isLd 48 ?_); (refine L_fa H rfl 48 _ rfl 0 rfl rfl Try.underlying48 rfl (by kernel_rfl) ?_); simp only [Act.put, sbA, szA, ssA]) | ((with_reducible show wpList _ _ _ (Oper.mk (some 6) (Op.alloc 55) _ _ _ _ :: _) _ _); (refine L_alloc H rfl 55 rfl (cat (parts2 (fw0, fw0))) (fun _ _ => by kernel_rfl) ?_); clear H; intro g6 w6 HGg6 HEg6 H; simp only [Act.put, sbA, szA, ssA]) | ((with_reducible refine isSt 55 ?_); refine L_sa H rfl rfl 55 _ _ rfl 0 rfl rfl (parts2 (stA0 p, stS0 p)) rfl rfl (by kernel_rfl) ?_; clear H; intro wb HWwb H; simp only [szA] at H) | (go_at_call 25; refine (C2.out _).mono ?_; rintro e wa ⟨rfl, hx⟩; have H2 := kp (H.out.ext hx); have HXC := kp hx; clear H hx; have H := H2; clear H2))
   all_goals go_ret
   all_goals exact ⟨rfl, H.out.1⟩
  ·have C3 := kp (show ∀ w, Calls Try.prog 10 #[.agg (cat (partsF (stA0 p))).toArray, .int .i64 0] w (ResR (stA1 p 1 100000, [ms1 p 1], 0) w) from start_okC HK.out (n := 0) (by unfold NowOk; omega))
   go_wp2_with (first | ((with_reducible show wpList _ _ _ (Oper.mk (some 2) (Op.box 48 _) _ _ _ _ :: _) _ _); (refine L_box H rfl 48 _ rfl (cat (partsP p)) rfl ?_); clear H; intro g2 w2 HGg2 HEg2 H; simp only [Act.put, sbA, szA, ssA]) | (go_at_call 26; refine (C1.out _).mono ?_; rintro e wa ⟨rfl, hx⟩; have H2 := kp (H.out.ext hx); have HXC := kp hx; clear H hx; have H := H2; clear H2) | ((with_reducible refine isLd 48 ?_); (refine L_fa H rfl 48 _ rfl 0 rfl rfl Try.underlying48 rfl (by kernel_rfl) ?_); simp only [Act.put, sbA, szA, ssA]) | ((with_reducible show wpList _ _ _ (Oper.mk (some 6) (Op.alloc 55) _ _ _ _ :: _) _ _); (refine L_alloc H rfl 55 rfl (cat (parts2 (fw0, fw0))) (fun _ _ => by kernel_rfl) ?_); clear H; intro g6 w6 HGg6 HEg6 H; simp only [Act.put, sbA, szA, ssA]) | ((with_reducible refine isSt 55 ?_); refine L_sa H rfl rfl 55 _ _ rfl 0 rfl rfl (parts2 (stA0 p, stS0 p)) rfl rfl (by kernel_rfl) ?_; clear H; intro wb HWwb H; simp only [szA] at H) | (go_at_call 25; refine (C2.out _).mono ?_; rintro e wa ⟨rfl, hx⟩; have H2 := kp (H.out.ext hx); have HXC := kp hx; clear H hx; have H := H2; clear H2) | ((with_reducible show wpList _ _ _ (Oper.mk (some 9) (Op.alloc 32) _ _ _ _ :: _) _ _); (refine L_alloc H rfl 32 rfl (cat (partsF fw0)) (fun _ _ => by kernel_rfl) ?_); clear H; intro g9 w9 HGg9 HEg9 H; simp only [Act.put, sbA, szA, ssA]) | ((with_reducible refine isSt 32 ?_); refine L_sa H rfl rfl 32 _ _ rfl 0 rfl rfl (partsF (stA1 p 1 100000)) rfl rfl (by kernel_rfl) ?_; clear H; intro wd HWwd H; simp only [szA] at H) | ((with_reducible refine isLd 32 ?_); refine L_fg H rfl 32 _ rfl 0 rfl _ rfl _ rfl (partsF (stA0 p)) rfl Try.underlying32 rfl (by kernel_rfl) ?_; simp only [Act.put, sbA, szA, ssA]) | (go_at_call 10; refine (C3.out _).mono ?_; rintro e wa ⟨v, rfl, hs, hx⟩; obtain ⟨b, co, u, rfl, ho⟩ := OneM.of hs; have HO := kp ho; clear hs ho; have H2 := kp (H.out.ext hx); have HXC := kp hx; clear H hx; have H := H2; clear H2))
   obtain ⟨um, uc, rfl⟩ := HO.out.2.2.form
   have HCC := kp ((Chg.refl _).past HEg9.out HWwd.out (Nat.le_of_eq HGg9.out.symm))
   go_loopw [8, 12, 13] (fun nv sv iv wr => ∃ (j : Nat) (n : Int) (s : Fw), j ≤ l.length ∧ iv = .int .i64 j ∧ nv = .int .i64 n ∧ sv = .int .i64 (gsent j) ∧ 0 ≤ n ∧ n ≤ 1000000 * j ∧ Kp (GSt p j n s) ∧ Kp (Chg wa.heap.size wa wr) ∧ Kp (Loc w wr [(g9, 32, cat (partsF s)), (g6, 55, cat (parts2 (stA0 p, stS0 p))), (g2, 48, cat (partsP p))])) (fun _ _ i _ => l.length - (intOf i).toNat)
   case atStart => exact ⟨0, 0, stA1 p 1 100000, Nat.zero_le _, rfl, rfl, rfl, by decide, by decide, kp (.inl ⟨by decide, rfl⟩), HCC, H⟩
   case round =>
    obtain ⟨j, n, s, hj, rfl, rfl, rfl, hn0, hn1, HG, HC, H⟩ := hrel
    by_cases hjl : j < l.length
    ·have hl10 : l.length ≤ 10 := by omega
     obtain ⟨x, hx⟩ : ∃ x, l[j]? = some x := ⟨_, List.getElem?_eq_getElem hjl⟩
     obtain ⟨b1, off, c1, hv1, hb1, hc1⟩ := (HV.out.ext H.out.1).at1 (f := fun x => .int .i64 x) hx
     cases hv1
     clear hx
     by_cases hx1 : x < 100000
     ·go_wp2_with fail
      all_goals go_ret
      all_goals exact ⟨rfl, H.out.1⟩
     by_cases hx2 : 1000000 < x
     ·go_wp2_with fail
      all_goals go_ret
      all_goals exact ⟨rfl, H.out.1⟩
     have HOW := kp (HO.out.chg HC.out)
     generalize h17 : (Code.region 17 _ _ : Code) = R17
     by_cases h3 : j < 3
     ·obtain rfl : s = stA1 p (j + 1) (n + 100000) := by
       rcases HG.out with h | h
       ·exact h.2
       ·exfalso; have := h.1; omega
      have HT := kp (show ∀ W, Calls Try.prog 13 #[.agg (cat (partsF (stA1 p (j + 1) (n + 100000)))).toArray, .int .i64 (n + x)] W (ResR (stA1 p (j + 2) (n + x + 100000), [ms1 p (j + 2)], 0) W) from fun W => by
       have := tick_any (stA1 p (j + 1) (n + 100000)) (n + x) W
       rwa [gst_a HK.out h3 hn0 (by omega) (by omega) (by omega)] at this)
      rw [show gsent j = (j : Int) + 1 by unfold gsent; rw [if_pos (by omega)]]
      go_wp2_with (first | (go_at_call 13; refine (HT.out _).mono ?_; rintro e wt ⟨v, rfl, hs, hx⟩; obtain ⟨b2, co2, u2, rfl, ho2⟩ := OneM.of hs; have HO2 := kp ho2; clear hs ho2; have H2 := kp (H.out.ext hx); have HXC := kp hx; clear H hx; have H := H2; clear H2) | ((with_reducible refine isLd 32 ?_); refine L_fa H rfl 32 _ rfl 0 rfl rfl Try.underlying32 rfl (by kernel_rfl) ?_; simp only [Act.put, sbA, szA, ssA]) | ((with_reducible show wpList _ _ _ (Oper.mk (some 14) (Op.alloc 32) _ _ _ _ :: _) _ _); (refine L_alloc H rfl 32 rfl (cat (partsF fw0)) (fun _ _ => by kernel_rfl) ?_); clear H; intro g14 w14 HGg14 HEg14 H; simp only [Act.put, sbA, szA, ssA]) | ((with_reducible refine isSt 32 ?_); refine L_sa H rfl rfl 32 _ _ rfl 0 rfl rfl (partsF (stA1 p (j + 2) (n + x + 100000))) rfl rfl (by kernel_rfl) ?_; clear H; intro we HWwe H; simp only [szA] at H))
      have HM2 := kp (HO2.out.chg ((Chg.refl _).past HEg14.out HWwe.out (Nat.le_of_eq HGg14.out.symm)))
      have HCE := kp (((Chg.refl _).ext HXC.out).past HEg14.out HWwe.out (by have q1 := HXC.out.size; have q2 := HGg14.out; omega))
      have HCW := kp (HC.out.trans (HCE.out.le HC.out.1))
      have HM1 := kp (HOW.out.chg HCE.out)
      obtain ⟨um2, uc2, rfl⟩ := HO2.out.2.2.form
      have HD1 := kp (show ∀ W, Ext we W → W.cell? ⟨b, 0, none⟩ = some (.slice um (ms1 p 1).length uc) from fun W hx => (hx.cell HM1.out.1).trans HM1.out.2.1)
      have HD2 := kp (show ∀ W, Ext we W → W.cell? ⟨b2, 0, none⟩ = some (.slice um2 (ms1 p (j + 2)).length uc2) from fun W hx => (hx.cell HM2.out.1).trans HM2.out.2.1)
      have HSM := kp (show ∀ W, Ext we W → Calls Try.prog 19 #[.slice um2 (ms1 p (j + 2)).length uc2, .slice um (ms1 p 1).length uc] W (fun e w' => e = .returned (.bool false) ∧ Ext W w') from fun W hx => by
       have := same22_any (HM2.out.2.2.ext hx) (HM1.out.2.2.ext hx) (by rw [ms1_len]; decide)
       rwa [ms1_ne p (by omega) (by omega) (by omega) (by omega) (by omega)] at this)
      subst h17
      refine region_free H (tabS [(84, fun vQ _ => vQ = .int .i64 0), (85, fun vQ _ => vQ = .bool false), (86, fun vQ _ => vQ = .bool false), (87, fun vQ _ => vQ = .int .i64 j), (88, fun vQ _ => vQ = .bool true), (89, fun vQ _ => vQ = .bool true), (90, fun vQ _ => vQ = .slice (some ⟨b2, 0, none⟩) 1 co2), (91, fun vQ _ => vQ = .int .i64 1), (92, fun vQ _ => vQ = .bool false), (93, fun vQ _ => vQ = .bool false), (94, fun vQ _ => vQ = .pointer (some ⟨g14, 62, none⟩)), (95, fun vQ _ => vQ = .int .i64 (j + 2)), (96, fun vQ _ => vQ = .int .i64 j), (97, fun vQ _ => vQ = .int .i64 (j + 2)), (98, fun vQ _ => vQ = .bool false), (99, fun vQ _ => vQ = .bool false), (100, fun vQ _ => vQ = .bool false), (101, fun vQ _ => vQ = .slice (some ⟨b2, 0, none⟩) 1 co2), (102, fun vQ _ => vQ = .pointer (some ⟨b2, 0, none⟩)), (103, fun vQ _ => vQ = .slice um2 (ms1 p (j + 2)).length uc2), (104, fun vQ _ => vQ = .slice (some ⟨b, 0, none⟩) 1 co), (105, fun vQ _ => vQ = .pointer (some ⟨b, 0, none⟩)), (106, fun vQ _ => vQ = .slice um (ms1 p 1).length uc), (107, fun vQ _ => vQ = .bool false), (108, fun vQ _ => vQ = .bool false), (109, fun vQ _ => vQ = .bool false), (110, fun vQ _ => vQ = .bool false), (111, fun vQ _ => vQ = .bool false), (112, fun vQ _ => vQ = .int .i64 j), (113, fun vQ _ => vQ = .bool false), (114, fun vQ _ => vQ = .bool false), (115, fun vQ _ => vQ = undef), (116, fun vQ _ => vQ = undef), (117, fun vQ _ => vQ = undef), (118, fun vQ _ => vQ = undef), (119, fun vQ _ => vQ = undef), (120, fun vQ _ => vQ = undef), (121, fun vQ _ => vQ = undef), (122, fun vQ _ => vQ = undef), (123, fun vQ _ => vQ = .bool false), (124, fun vQ _ => vQ = .bool false)]) [] (tabS_out _ _ (by simp only [List.forall_mem_cons]; exact ⟨mono_eqO _ _, mono_eqO _ _, mono_eqO _ _, mono_eqO _ _, mono_eqO _ _, mono_eqO _ _, mono_eqO _ _, mono_eqO _ _, mono_eqO _ _, mono_eqO _ _, mono_eqO _ _, mono_eqO _ _, mono_eqO _ _, mono_eqO _ _, mono_eqO _ _, mono_eqO _ _, mono_eqO _ _, mono_eqO _ _, mono_eqO _ _, mono_eqO _ _, mono_eqO _ _, mono_eqO _ _, mono_eqO _ _, mono_eqO _ _, mono_eqO _ _, mono_eqO _ _, mono_eqO _ _, mono_eqO _ _, mono_eqO _ _, mono_eqO _ _, mono_eqO _ _, mono_eqO _ _, mono_eqO _ _, mono_eqO _ _, mono_eqO _ _, mono_eqO _ _, mono_eqO _ _, mono_eqO _ _, mono_eqO _ _, mono_eqO _ _, mono_eqO _ _, by simp⟩)) 41 (by kernel_rfl) (by kernel_rfl) (by kernel_rfl) (by kernel_rfl) [] [] rfl rfl (by decide) (by decide) (by decide) trivial ?_
      simp only [List.take_succ_cons, List.take_zero]
      refine ⟨fun wv84 hov84 hSv84 => ?_, fun v84 => ?_⟩
      ·clear hSv84
       clear hov84
       go_wp2_with fail
       exact ⟨rfl, _, rfl, fun d hd => by cases hd; exact rfl, Ext.refl _⟩
      simp only [Act.put, sbA, szA, ssA]
      refine ⟨fun wv85 hov85 hSv85 => ?_, fun v85 => ?_⟩
      ·obtain rfl : v84 = .int .i64 0 := hSv85 84 (by decide) (by decide)
       clear hSv85 hov85
       go_wp2_with fail
       exact ⟨rfl, _, rfl, fun d hd => by cases hd; exact rfl, Ext.refl _⟩
      simp only [Act.put, sbA, szA, ssA]
      refine ⟨fun wv86 hov86 hSv86 => ?_, fun v86 => ?_⟩
      ·obtain rfl : v85 = .bool false := hSv86 85 (by decide) (by decide)
       clear hSv86 hov86
       go_wp2_with fail
       exact ⟨rfl, _, rfl, fun d hd => by cases hd; exact rfl, Ext.refl _⟩
      simp only [Act.put, sbA, szA, ssA]
      refine ⟨fun wv87 hov87 hSv87 => ?_, fun v87 => ?_⟩
      ·obtain rfl : v86 = .bool false := hSv87 86 (by decide) (by decide)
       clear hSv87 hov87
       go_wp2_with fail
       exact ⟨rfl, _, rfl, fun d hd => by cases hd; exact rfl, Ext.refl _⟩
      simp only [Act.put, sbA, szA, ssA]
      refine ⟨fun wv88 hov88 hSv88 => ?_, fun v88 => ?_⟩
      ·obtain rfl : v86 = .bool false := hSv88 86 (by decide) (by decide)
       obtain rfl : v87 = .int .i64 j := hSv88 87 (by decide) (by decide)
       clear hSv88 hov88
       go_wp2_with fail
       exact ⟨rfl, _, rfl, fun d hd => by cases hd; exact (congrArg Value.bool (by simp; omega)), Ext.refl _⟩
      simp only [Act.put, sbA, szA, ssA]
      refine ⟨fun wv89 hov89 hSv89 => ?_, fun v89 => ?_⟩
      ·obtain rfl : v86 = .bool false := hSv89 86 (by decide) (by decide)
       obtain rfl : v88 = .bool true := hSv89 88 (by decide) (by decide)
       clear hSv89 hov89
       go_wp2_with fail
       exact ⟨rfl, _, rfl, fun d hd => by cases hd; exact rfl, Ext.refl _⟩
      simp only [Act.put, sbA, szA, ssA]
      refine ⟨fun wv90 hov90 hSv90 => ?_, fun v90 => ?_⟩
      ·obtain rfl : v89 = .bool true := hSv90 89 (by decide) (by decide)
       clear hSv90 hov90
       go_wp2_with fail
       exact ⟨rfl, _, rfl, fun d hd => by cases hd; exact rfl, Ext.refl _⟩
      simp only [Act.put, sbA, szA, ssA]
      refine ⟨fun wv91 hov91 hSv91 => ?_, fun v91 => ?_⟩
      ·obtain rfl : v89 = .bool true := hSv91 89 (by decide) (by decide)
       obtain rfl : v90 = .slice (some ⟨b2, 0, none⟩) 1 co2 := hSv91 90 (by decide) (by decide)
       clear hSv91 hov91
       go_wp2_with fail
       exact ⟨rfl, _, rfl, fun d hd => by cases hd; exact rfl, Ext.refl _⟩
      simp only [Act.put, sbA, szA, ssA]
      refine ⟨fun wv92 hov92 hSv92 => ?_, fun v92 => ?_⟩
      ·obtain rfl : v89 = .bool true := hSv92 89 (by decide) (by decide)
       obtain rfl : v91 = .int .i64 1 := hSv92 91 (by decide) (by decide)
       clear hSv92 hov92
       go_wp2_with fail
       exact ⟨rfl, _, rfl, fun d hd => by cases hd; exact rfl, Ext.refl _⟩
      simp only [Act.put, sbA, szA, ssA]
      refine ⟨fun wv93 hov93 hSv93 => ?_, fun v93 => ?_⟩
      ·obtain rfl : v89 = .bool true := hSv93 89 (by decide) (by decide)
       obtain rfl : v92 = .bool false := hSv93 92 (by decide) (by decide)
       clear hSv93 hov93
       go_wp2_with fail
       exact ⟨rfl, _, rfl, fun d hd => by cases hd; exact rfl, Ext.refl _⟩
      simp only [Act.put, sbA, szA, ssA]
      refine ⟨fun wv94 hov94 hSv94 => ?_, fun v94 => ?_⟩
      ·obtain rfl : v93 = .bool false := hSv94 93 (by decide) (by decide)
       clear hSv94 hov94
       go_wp2_with fail
       exact ⟨rfl, _, rfl, fun d hd => by cases hd; exact rfl, Ext.refl _⟩
      simp only [Act.put, sbA, szA, ssA]
      refine ⟨fun wv95 hov95 hSv95 => ?_, fun v95 => ?_⟩
      ·obtain rfl : v93 = .bool false := hSv95 93 (by decide) (by decide)
       obtain rfl : v94 = .pointer (some ⟨g14, 62, none⟩) := hSv95 94 (by decide) (by decide)
       clear hSv95
       have H := kp (H.out.keep [0, 1, 2, 3] (St := []) trivial hov95 (by decide) (by kernel_rfl))
       have HOX := kp hov95
       clear hov95
       go_wp2_with ((with_reducible refine isLd 3 ?_); (refine L_f1 H rfl 3 _ rfl 0 rfl _ rfl _ rfl _ rfl Try.underlying3 rfl ?_); simp only [Act.put, sbA, szA, ssA])
       exact ⟨rfl, _, rfl, fun d hd => by cases hd; exact rfl, Ext.refl _⟩
      simp only [Act.put, sbA, szA, ssA]
      refine ⟨fun wv96 hov96 hSv96 => ?_, fun v96 => ?_⟩
      ·obtain rfl : v93 = .bool false := hSv96 93 (by decide) (by decide)
       clear hSv96 hov96
       go_wp2_with fail
       exact ⟨rfl, _, rfl, fun d hd => by cases hd; exact rfl, Ext.refl _⟩
      simp only [Act.put, sbA, szA, ssA]
      refine ⟨fun wv97 hov97 hSv97 => ?_, fun v97 => ?_⟩
      ·obtain rfl : v93 = .bool false := hSv97 93 (by decide) (by decide)
       obtain rfl : v96 = .int .i64 j := hSv97 96 (by decide) (by decide)
       clear hSv97 hov97
       go_wp2_with fail
       exact ⟨rfl, _, rfl, fun d hd => by cases hd; exact rfl, Ext.refl _⟩
      simp only [Act.put, sbA, szA, ssA]
      refine ⟨fun wv98 hov98 hSv98 => ?_, fun v98 => ?_⟩
      ·obtain rfl : v93 = .bool false := hSv98 93 (by decide) (by decide)
       obtain rfl : v95 = .int .i64 (j + 2) := hSv98 95 (by decide) (by decide)
       obtain rfl : v97 = .int .i64 (j + 2) := hSv98 97 (by decide) (by decide)
       clear hSv98 hov98
       go_wp2_with fail
       exact ⟨rfl, _, rfl, fun d hd => by cases hd; exact (congrArg Value.bool (by simp)), Ext.refl _⟩
      simp only [Act.put, sbA, szA, ssA]
      refine ⟨fun wv99 hov99 hSv99 => ?_, fun v99 => ?_⟩
      ·obtain rfl : v89 = .bool true := hSv99 89 (by decide) (by decide)
       obtain rfl : v93 = .bool false := hSv99 93 (by decide) (by decide)
       obtain rfl : v98 = .bool false := hSv99 98 (by decide) (by decide)
       clear hSv99 hov99
       go_wp2_with fail
       exact ⟨rfl, _, rfl, fun d hd => by cases hd; exact rfl, Ext.refl _⟩
      simp only [Act.put, sbA, szA, ssA]
      refine ⟨fun wv100 hov100 hSv100 => ?_, fun v100 => ?_⟩
      ·obtain rfl : v89 = .bool true := hSv100 89 (by decide) (by decide)
       obtain rfl : v99 = .bool false := hSv100 99 (by decide) (by decide)
       clear hSv100 hov100
       go_wp2_with fail
       exact ⟨rfl, _, rfl, fun d hd => by cases hd; exact rfl, Ext.refl _⟩
      simp only [Act.put, sbA, szA, ssA]
      refine ⟨fun wv101 hov101 hSv101 => ?_, fun v101 => ?_⟩
      ·obtain rfl : v100 = .bool false := hSv101 100 (by decide) (by decide)
       clear hSv101 hov101
       go_wp2_with fail
       exact ⟨rfl, _, rfl, fun d hd => by cases hd; exact rfl, Ext.refl _⟩
      simp only [Act.put, sbA, szA, ssA]
      refine ⟨fun wv102 hov102 hSv102 => ?_, fun v102 => ?_⟩
      ·obtain rfl : v100 = .bool false := hSv102 100 (by decide) (by decide)
       obtain rfl : v101 = .slice (some ⟨b2, 0, none⟩) 1 co2 := hSv102 101 (by decide) (by decide)
       clear hSv102 hov102
       go_wp2_with fail
       exact ⟨rfl, _, rfl, fun d hd => by cases hd; exact rfl, Ext.refl _⟩
      simp only [Act.put, sbA, szA, ssA]
      refine ⟨fun wv103 hov103 hSv103 => ?_, fun v103 => ?_⟩
      ·obtain rfl : v100 = .bool false := hSv103 100 (by decide) (by decide)
       obtain rfl : v102 = .pointer (some ⟨b2, 0, none⟩) := hSv103 102 (by decide) (by decide)
       clear hSv103
       have H := kp (H.out.keep [0, 1, 2, 3] (St := []) trivial hov103 (by decide) (by kernel_rfl))
       have HOX := kp hov103
       clear hov103
       have hc := HD2.out _ (HOX.out.ext (Ext.refl _) (fun g hg => by cases hg))
       go_wp2_with fail
       exact ⟨rfl, _, rfl, fun d hd => by cases hd; exact rfl, Ext.refl _⟩
      simp only [Act.put, sbA, szA, ssA]
      refine ⟨fun wv104 hov104 hSv104 => ?_, fun v104 => ?_⟩
      ·obtain rfl : v100 = .bool false := hSv104 100 (by decide) (by decide)
       clear hSv104 hov104
       go_wp2_with fail
       exact ⟨rfl, _, rfl, fun d hd => by cases hd; exact rfl, Ext.refl _⟩
      simp only [Act.put, sbA, szA, ssA]
      refine ⟨fun wv105 hov105 hSv105 => ?_, fun v105 => ?_⟩
      ·obtain rfl : v100 = .bool false := hSv105 100 (by decide) (by decide)
       obtain rfl : v104 = .slice (some ⟨b, 0, none⟩) 1 co := hSv105 104 (by decide) (by decide)
       clear hSv105 hov105
       go_wp2_with fail
       exact ⟨rfl, _, rfl, fun d hd => by cases hd; exact rfl, Ext.refl _⟩
      simp only [Act.put, sbA, szA, ssA]
      refine ⟨fun wv106 hov106 hSv106 => ?_, fun v106 => ?_⟩
      ·obtain rfl : v100 = .bool false := hSv106 100 (by decide) (by decide)
       obtain rfl : v105 = .pointer (some ⟨b, 0, none⟩) := hSv106 105 (by decide) (by decide)
       clear hSv106
       have H := kp (H.out.keep [0, 1, 2, 3] (St := []) trivial hov106 (by decide) (by kernel_rfl))
       have HOX := kp hov106
       clear hov106
       have hc := HD1.out _ (HOX.out.ext (Ext.refl _) (fun g hg => by cases hg))
       go_wp2_with fail
       exact ⟨rfl, _, rfl, fun d hd => by cases hd; exact rfl, Ext.refl _⟩
      simp only [Act.put, sbA, szA, ssA]
      refine ⟨fun wv107 hov107 hSv107 => ?_, fun v107 => ?_⟩
      ·obtain rfl : v100 = .bool false := hSv107 100 (by decide) (by decide)
       obtain rfl : v103 = .slice um2 (ms1 p (j + 2)).length uc2 := hSv107 103 (by decide) (by decide)
       obtain rfl : v106 = .slice um (ms1 p 1).length uc := hSv107 106 (by decide) (by decide)
       clear hSv107
       have H := kp (H.out.keep [0, 1, 2, 3] (St := []) trivial hov107 (by decide) (by kernel_rfl))
       have HOX := kp hov107
       clear hov107
       go_wp2_with fail
       refine (HSM.out _ (HOX.out.ext (Ext.refl _) (fun g hg => by cases hg))).mono ?_
       rintro e w2 ⟨rfl, hx⟩
       have HXC := kp hx
       clear hx
       go_wp2_with fail
       exact ⟨rfl, _, rfl, fun d hd => by cases hd; exact rfl, HXC.out⟩
      simp only [Act.put, sbA, szA, ssA]
      refine ⟨fun wv108 hov108 hSv108 => ?_, fun v108 => ?_⟩
      ·obtain rfl : v89 = .bool true := hSv108 89 (by decide) (by decide)
       obtain rfl : v100 = .bool false := hSv108 100 (by decide) (by decide)
       obtain rfl : v107 = .bool false := hSv108 107 (by decide) (by decide)
       clear hSv108 hov108
       go_wp2_with fail
       exact ⟨rfl, _, rfl, fun d hd => by cases hd; exact rfl, Ext.refl _⟩
      simp only [Act.put, sbA, szA, ssA]
      refine ⟨fun wv109 hov109 hSv109 => ?_, fun v109 => ?_⟩
      ·obtain rfl : v86 = .bool false := hSv109 86 (by decide) (by decide)
       obtain rfl : v89 = .bool true := hSv109 89 (by decide) (by decide)
       obtain rfl : v108 = .bool false := hSv109 108 (by decide) (by decide)
       clear hSv109 hov109
       go_wp2_with fail
       exact ⟨rfl, _, rfl, fun d hd => by cases hd; exact rfl, Ext.refl _⟩
      simp only [Act.put, sbA, szA, ssA]
      refine ⟨fun wv110 hov110 hSv110 => ?_, fun v110 => ?_⟩
      ·obtain rfl : v86 = .bool false := hSv110 86 (by decide) (by decide)
       obtain rfl : v109 = .bool false := hSv110 109 (by decide) (by decide)
       clear hSv110 hov110
       go_wp2_with fail
       exact ⟨rfl, _, rfl, fun d hd => by cases hd; exact rfl, Ext.refl _⟩
      simp only [Act.put, sbA, szA, ssA]
      refine ⟨fun wv111 hov111 hSv111 => ?_, fun v111 => ?_⟩
      ·obtain rfl : v110 = .bool false := hSv111 110 (by decide) (by decide)
       clear hSv111 hov111
       go_wp2_with fail
       exact ⟨rfl, _, rfl, fun d hd => by cases hd; exact rfl, Ext.refl _⟩
      simp only [Act.put, sbA, szA, ssA]
      refine ⟨fun wv112 hov112 hSv112 => ?_, fun v112 => ?_⟩
      ·obtain rfl : v111 = .bool false := hSv112 111 (by decide) (by decide)
       clear hSv112 hov112
       go_wp2_with fail
       exact ⟨rfl, _, rfl, fun d hd => by cases hd; exact rfl, Ext.refl _⟩
      simp only [Act.put, sbA, szA, ssA]
      refine ⟨fun wv113 hov113 hSv113 => ?_, fun v113 => ?_⟩
      ·obtain rfl : v111 = .bool false := hSv113 111 (by decide) (by decide)
       obtain rfl : v112 = .int .i64 j := hSv113 112 (by decide) (by decide)
       clear hSv113 hov113
       go_wp2_with fail
       exact ⟨rfl, _, rfl, fun d hd => by cases hd; exact (congrArg Value.bool (by simp; omega)), Ext.refl _⟩
      simp only [Act.put, sbA, szA, ssA]
      refine ⟨fun wv114 hov114 hSv114 => ?_, fun v114 => ?_⟩
      ·obtain rfl : v111 = .bool false := hSv114 111 (by decide) (by decide)
       obtain rfl : v113 = .bool false := hSv114 113 (by decide) (by decide)
       clear hSv114 hov114
       go_wp2_with fail
       exact ⟨rfl, _, rfl, fun d hd => by cases hd; exact rfl, Ext.refl _⟩
      simp only [Act.put, sbA, szA, ssA]
      refine ⟨fun wv115 hov115 hSv115 => ?_, fun v115 => ?_⟩
      ·obtain rfl : v114 = .bool false := hSv115 114 (by decide) (by decide)
       clear hSv115 hov115
       go_wp2_with fail
       exact ⟨rfl, _, rfl, fun d hd => by cases hd; exact rfl, Ext.refl _⟩
      simp only [Act.put, sbA, szA, ssA]
      refine ⟨fun wv116 hov116 hSv116 => ?_, fun v116 => ?_⟩
      ·obtain rfl : v114 = .bool false := hSv116 114 (by decide) (by decide)
       clear hSv116 hov116
       go_wp2_with fail
       exact ⟨rfl, _, rfl, fun d hd => by cases hd; exact rfl, Ext.refl _⟩
      simp only [Act.put, sbA, szA, ssA]
      refine ⟨fun wv117 hov117 hSv117 => ?_, fun v117 => ?_⟩
      ·obtain rfl : v114 = .bool false := hSv117 114 (by decide) (by decide)
       clear hSv117 hov117
       go_wp2_with fail
       exact ⟨rfl, _, rfl, fun d hd => by cases hd; exact rfl, Ext.refl _⟩
      simp only [Act.put, sbA, szA, ssA]
      refine ⟨fun wv118 hov118 hSv118 => ?_, fun v118 => ?_⟩
      ·obtain rfl : v114 = .bool false := hSv118 114 (by decide) (by decide)
       clear hSv118 hov118
       go_wp2_with fail
       exact ⟨rfl, _, rfl, fun d hd => by cases hd; exact rfl, Ext.refl _⟩
      simp only [Act.put, sbA, szA, ssA]
      refine ⟨fun wv119 hov119 hSv119 => ?_, fun v119 => ?_⟩
      ·obtain rfl : v118 = undef := hSv119 118 (by decide) (by decide)
       clear hSv119 hov119
       go_wp2_with fail
       exact ⟨rfl, _, rfl, fun d hd => by cases hd; exact rfl, Ext.refl _⟩
      simp only [Act.put, sbA, szA, ssA]
      refine ⟨fun wv120 hov120 hSv120 => ?_, fun v120 => ?_⟩
      ·obtain rfl : v118 = undef := hSv120 118 (by decide) (by decide)
       clear hSv120 hov120
       go_wp2_with fail
       exact ⟨rfl, _, rfl, fun d hd => by cases hd; exact rfl, Ext.refl _⟩
      simp only [Act.put, sbA, szA, ssA]
      refine ⟨fun wv121 hov121 hSv121 => ?_, fun v121 => ?_⟩
      ·obtain rfl : v118 = undef := hSv121 118 (by decide) (by decide)
       clear hSv121 hov121
       go_wp2_with fail
       exact ⟨rfl, _, rfl, fun d hd => by cases hd; exact rfl, Ext.refl _⟩
      simp only [Act.put, sbA, szA, ssA]
      refine ⟨fun wv122 hov122 hSv122 => ?_, fun v122 => ?_⟩
      ·obtain rfl : v114 = .bool false := hSv122 114 (by decide) (by decide)
       clear hSv122 hov122
       go_wp2_with fail
       exact ⟨rfl, _, rfl, fun d hd => by cases hd; exact rfl, Ext.refl _⟩
      simp only [Act.put, sbA, szA, ssA]
      refine ⟨fun wv123 hov123 hSv123 => ?_, fun v123 => ?_⟩
      ·obtain rfl : v111 = .bool false := hSv123 111 (by decide) (by decide)
       obtain rfl : v114 = .bool false := hSv123 114 (by decide) (by decide)
       obtain rfl : v122 = undef := hSv123 122 (by decide) (by decide)
       clear hSv123 hov123
       go_wp2_with fail
       exact ⟨rfl, _, rfl, fun d hd => by cases hd; exact rfl, Ext.refl _⟩
      simp only [Act.put, sbA, szA, ssA]
      refine ⟨fun wv124 hov124 hSv124 => ?_, fun v124 => ?_⟩
      ·obtain rfl : v111 = .bool false := hSv124 111 (by decide) (by decide)
       obtain rfl : v123 = .bool false := hSv124 123 (by decide) (by decide)
       clear hSv124 hov124
       go_wp2_with fail
       exact ⟨rfl, _, rfl, fun d hd => by cases hd; exact rfl, Ext.refl _⟩
      simp only [Act.put, sbA, szA, ssA]
      clear H
      intro wy HOX H hfin
      obtain rfl : v84 = .int .i64 0 := hfin 84 (by decide)
      obtain rfl : v85 = .bool false := hfin 85 (by decide)
      obtain rfl : v86 = .bool false := hfin 86 (by decide)
      obtain rfl : v87 = .int .i64 j := hfin 87 (by decide)
      obtain rfl : v88 = .bool true := hfin 88 (by decide)
      obtain rfl : v89 = .bool true := hfin 89 (by decide)
      obtain rfl : v90 = .slice (some ⟨b2, 0, none⟩) 1 co2 := hfin 90 (by decide)
      obtain rfl : v91 = .int .i64 1 := hfin 91 (by decide)
      obtain rfl : v92 = .bool false := hfin 92 (by decide)
      obtain rfl : v93 = .bool false := hfin 93 (by decide)
      obtain rfl : v94 = .pointer (some ⟨g14, 62, none⟩) := hfin 94 (by decide)
      obtain rfl : v95 = .int .i64 (j + 2) := hfin 95 (by decide)
      obtain rfl : v96 = .int .i64 j := hfin 96 (by decide)
      obtain rfl : v97 = .int .i64 (j + 2) := hfin 97 (by decide)
      obtain rfl : v98 = .bool false := hfin 98 (by decide)
      obtain rfl : v99 = .bool false := hfin 99 (by decide)
      obtain rfl : v100 = .bool false := hfin 100 (by decide)
      obtain rfl : v101 = .slice (some ⟨b2, 0, none⟩) 1 co2 := hfin 101 (by decide)
      obtain rfl : v102 = .pointer (some ⟨b2, 0, none⟩) := hfin 102 (by decide)
      obtain rfl : v103 = .slice um2 (ms1 p (j + 2)).length uc2 := hfin 103 (by decide)
      obtain rfl : v104 = .slice (some ⟨b, 0, none⟩) 1 co := hfin 104 (by decide)
      obtain rfl : v105 = .pointer (some ⟨b, 0, none⟩) := hfin 105 (by decide)
      obtain rfl : v106 = .slice um (ms1 p 1).length uc := hfin 106 (by decide)
      obtain rfl : v107 = .bool false := hfin 107 (by decide)
      obtain rfl : v108 = .bool false := hfin 108 (by decide)
      obtain rfl : v109 = .bool false := hfin 109 (by decide)
      obtain rfl : v110 = .bool false := hfin 110 (by decide)
      obtain rfl : v111 = .bool false := hfin 111 (by decide)
      obtain rfl : v112 = .int .i64 j := hfin 112 (by decide)
      obtain rfl : v113 = .bool false := hfin 113 (by decide)
      obtain rfl : v114 = .bool false := hfin 114 (by decide)
      obtain rfl : v115 = undef := hfin 115 (by decide)
      obtain rfl : v116 = undef := hfin 116 (by decide)
      obtain rfl : v117 = undef := hfin 117 (by decide)
      obtain rfl : v118 = undef := hfin 118 (by decide)
      obtain rfl : v119 = undef := hfin 119 (by decide)
      obtain rfl : v120 = undef := hfin 120 (by decide)
      obtain rfl : v121 = undef := hfin 121 (by decide)
      obtain rfl : v122 = undef := hfin 122 (by decide)
      obtain rfl : v123 = .bool false := hfin 123 (by decide)
      obtain rfl : v124 = .bool false := hfin 124 (by decide)
      clear hfin
      simp only [List.drop_succ_cons, List.drop_zero]
      simp only [applyS] at H
      have HXN := kp (HOX.out.ext (Ext.refl we) (fun g hg => by cases hg))
      go_wp2_with (first | ((with_reducible refine isLd 32 ?_); refine L_fa H rfl 32 _ rfl 0 rfl rfl Try.underlying32 rfl (by kernel_rfl) ?_; simp only [Act.put, sbA, szA, ssA]) | ((with_reducible refine isSt 32 ?_); refine L_sa H rfl rfl 32 _ _ rfl 1 rfl rfl (partsF (stA1 p (j + 2) (n + x + 100000))) rfl rfl (by kernel_rfl) ?_; clear H; intro wz HWwz H; simp only [ssA, szA] at H))
      refine ⟨⟨j + 1, n + x, _, by omega, by go_num, rfl, ?_, by omega, by omega, kp (.inl ⟨by omega, ?_⟩), kp (HCW.out.past HXN.out HWwz.out (Nat.le_of_eq HGg9.out.symm)), kp (Loc.tail H.out)⟩, by simp [intOf]; omega⟩
      ·rw [show gsent (j + 1) = (j : Int) + 1 + 1 by unfold gsent; rw [if_pos (by omega)]; try omega]; try go_num
      ·rw [show (((j + 1 : Nat) : Int) + 1) = (j : Int) + 2 by omega]
     ·have HT := kp (show ∀ W, Calls Try.prog 13 #[.agg (cat (partsF s)).toArray, .int .i64 (n + x)] W (ResR (stA5 p 4, [], 0) W) from fun W => by
       have := tick_any s (n + x) W
       rwa [gst_b HK.out (by omega) HG.out hn0 (by omega) (by omega) (by omega)] at this)
      rw [show gsent j = 4 by unfold gsent; split <;> omega]
      go_wp2_with (first | (go_at_call 13; refine (HT.out _).mono ?_; rintro e wt ⟨v, rfl, hs, hx⟩; obtain ⟨va, vc, rfl⟩ := hs.form; clear hs; have H2 := kp (H.out.ext hx); have HXC := kp hx; clear H hx; have H := H2; clear H2) | ((with_reducible refine isLd 32 ?_); refine L_fa H rfl 32 _ rfl 0 rfl rfl Try.underlying32 rfl (by kernel_rfl) ?_; simp only [Act.put, sbA, szA, ssA]) | ((with_reducible show wpList _ _ _ (Oper.mk (some 14) (Op.alloc 32) _ _ _ _ :: _) _ _); (refine L_alloc H rfl 32 rfl (cat (partsF fw0)) (fun _ _ => by kernel_rfl) ?_); clear H; intro g14 w14 HGg14 HEg14 H; simp only [Act.put, sbA, szA, ssA]) | ((with_reducible refine isSt 32 ?_); refine L_sa H rfl rfl 32 _ _ rfl 0 rfl rfl (partsF (stA5 p 4)) rfl rfl (by kernel_rfl) ?_; clear H; intro we HWwe H; simp only [szA] at H))
      have HCE := kp (((Chg.refl _).ext HXC.out).past HEg14.out HWwe.out (by have q1 := HXC.out.size; have q2 := HGg14.out; omega))
      have HCW := kp (HC.out.trans (HCE.out.le HC.out.1))
      subst h17
      refine region_free H (tabS [(84, fun vQ _ => vQ = .int .i64 0), (85, fun vQ _ => vQ = .bool false), (86, fun vQ _ => vQ = .bool false), (87, fun vQ _ => vQ = .int .i64 j), (88, fun vQ _ => vQ = .bool false), (89, fun vQ _ => vQ = .bool false), (90, fun vQ _ => vQ = undef), (91, fun vQ _ => vQ = undef), (92, fun vQ _ => vQ = undef), (93, fun vQ _ => vQ = undef), (94, fun vQ _ => vQ = undef), (95, fun vQ _ => vQ = undef), (96, fun vQ _ => vQ = undef), (97, fun vQ _ => vQ = undef), (98, fun vQ _ => vQ = undef), (99, fun vQ _ => vQ = undef), (100, fun vQ _ => vQ = undef), (101, fun vQ _ => vQ = undef), (102, fun vQ _ => vQ = undef), (103, fun vQ _ => vQ = undef), (104, fun vQ _ => vQ = undef), (105, fun vQ _ => vQ = undef), (106, fun vQ _ => vQ = undef), (107, fun vQ _ => vQ = undef), (108, fun vQ _ => vQ = undef), (109, fun vQ _ => vQ = .bool false), (110, fun vQ _ => vQ = .bool false), (111, fun vQ _ => vQ = .bool false), (112, fun vQ _ => vQ = .int .i64 j), (113, fun vQ _ => vQ = .bool true), (114, fun vQ _ => vQ = .bool true), (115, fun vQ _ => vQ = .slice va 0 vc), (116, fun vQ _ => vQ = .int .i64 0), (117, fun vQ _ => vQ = .bool false), (118, fun vQ _ => vQ = .bool false), (119, fun vQ _ => vQ = .pointer (some ⟨g14, 1, none⟩)), (120, fun vQ _ => vQ = .int .u8 5), (121, fun vQ _ => vQ = .bool false), (122, fun vQ _ => vQ = .bool false), (123, fun vQ _ => vQ = .bool false), (124, fun vQ _ => vQ = .bool false)]) [] (tabS_out _ _ (by simp only [List.forall_mem_cons]; exact ⟨mono_eqO _ _, mono_eqO _ _, mono_eqO _ _, mono_eqO _ _, mono_eqO _ _, mono_eqO _ _, mono_eqO _ _, mono_eqO _ _, mono_eqO _ _, mono_eqO _ _, mono_eqO _ _, mono_eqO _ _, mono_eqO _ _, mono_eqO _ _, mono_eqO _ _, mono_eqO _ _, mono_eqO _ _, mono_eqO _ _, mono_eqO _ _, mono_eqO _ _, mono_eqO _ _, mono_eqO _ _, mono_eqO _ _, mono_eqO _ _, mono_eqO _ _, mono_eqO _ _, mono_eqO _ _, mono_eqO _ _, mono_eqO _ _, mono_eqO _ _, mono_eqO _ _, mono_eqO _ _, mono_eqO _ _, mono_eqO _ _, mono_eqO _ _, mono_eqO _ _, mono_eqO _ _, mono_eqO _ _, mono_eqO _ _, mono_eqO _ _, mono_eqO _ _, by simp⟩)) 41 (by kernel_rfl) (by kernel_rfl) (by kernel_rfl) (by kernel_rfl) [] [] rfl rfl (by decide) (by decide) (by decide) trivial ?_
      simp only [List.take_succ_cons, List.take_zero]
      refine ⟨fun wv84 hov84 hSv84 => ?_, fun v84 => ?_⟩
      ·clear hSv84
       clear hov84
       go_wp2_with fail
       exact ⟨rfl, _, rfl, fun d hd => by cases hd; exact rfl, Ext.refl _⟩
      simp only [Act.put, sbA, szA, ssA]
      refine ⟨fun wv85 hov85 hSv85 => ?_, fun v85 => ?_⟩
      ·obtain rfl : v84 = .int .i64 0 := hSv85 84 (by decide) (by decide)
       clear hSv85 hov85
       go_wp2_with fail
       exact ⟨rfl, _, rfl, fun d hd => by cases hd; exact rfl, Ext.refl _⟩
      simp only [Act.put, sbA, szA, ssA]
      refine ⟨fun wv86 hov86 hSv86 => ?_, fun v86 => ?_⟩
      ·obtain rfl : v85 = .bool false := hSv86 85 (by decide) (by decide)
       clear hSv86 hov86
       go_wp2_with fail
       exact ⟨rfl, _, rfl, fun d hd => by cases hd; exact rfl, Ext.refl _⟩
      simp only [Act.put, sbA, szA, ssA]
      refine ⟨fun wv87 hov87 hSv87 => ?_, fun v87 => ?_⟩
      ·obtain rfl : v86 = .bool false := hSv87 86 (by decide) (by decide)
       clear hSv87 hov87
       go_wp2_with fail
       exact ⟨rfl, _, rfl, fun d hd => by cases hd; exact rfl, Ext.refl _⟩
      simp only [Act.put, sbA, szA, ssA]
      refine ⟨fun wv88 hov88 hSv88 => ?_, fun v88 => ?_⟩
      ·obtain rfl : v86 = .bool false := hSv88 86 (by decide) (by decide)
       obtain rfl : v87 = .int .i64 j := hSv88 87 (by decide) (by decide)
       clear hSv88 hov88
       go_wp2_with fail
       exact ⟨rfl, _, rfl, fun d hd => by cases hd; exact (congrArg Value.bool (by simp; omega)), Ext.refl _⟩
      simp only [Act.put, sbA, szA, ssA]
      refine ⟨fun wv89 hov89 hSv89 => ?_, fun v89 => ?_⟩
      ·obtain rfl : v86 = .bool false := hSv89 86 (by decide) (by decide)
       obtain rfl : v88 = .bool false := hSv89 88 (by decide) (by decide)
       clear hSv89 hov89
       go_wp2_with fail
       exact ⟨rfl, _, rfl, fun d hd => by cases hd; exact rfl, Ext.refl _⟩
      simp only [Act.put, sbA, szA, ssA]
      refine ⟨fun wv90 hov90 hSv90 => ?_, fun v90 => ?_⟩
      ·obtain rfl : v89 = .bool false := hSv90 89 (by decide) (by decide)
       clear hSv90 hov90
       go_wp2_with fail
       exact ⟨rfl, _, rfl, fun d hd => by cases hd; exact rfl, Ext.refl _⟩
      simp only [Act.put, sbA, szA, ssA]
      refine ⟨fun wv91 hov91 hSv91 => ?_, fun v91 => ?_⟩
      ·obtain rfl : v89 = .bool false := hSv91 89 (by decide) (by decide)
       clear hSv91 hov91
       go_wp2_with fail
       exact ⟨rfl, _, rfl, fun d hd => by cases hd; exact rfl, Ext.refl _⟩
      simp only [Act.put, sbA, szA, ssA]
      refine ⟨fun wv92 hov92 hSv92 => ?_, fun v92 => ?_⟩
      ·obtain rfl : v89 = .bool false := hSv92 89 (by decide) (by decide)
       clear hSv92 hov92
       go_wp2_with fail
       exact ⟨rfl, _, rfl, fun d hd => by cases hd; exact rfl, Ext.refl _⟩
      simp only [Act.put, sbA, szA, ssA]
      refine ⟨fun wv93 hov93 hSv93 => ?_, fun v93 => ?_⟩
      ·obtain rfl : v89 = .bool false := hSv93 89 (by decide) (by decide)
       clear hSv93 hov93
       go_wp2_with fail
       exact ⟨rfl, _, rfl, fun d hd => by cases hd; exact rfl, Ext.refl _⟩
      simp only [Act.put, sbA, szA, ssA]
      refine ⟨fun wv94 hov94 hSv94 => ?_, fun v94 => ?_⟩
      ·obtain rfl : v93 = undef := hSv94 93 (by decide) (by decide)
       clear hSv94 hov94
       go_wp2_with fail
       exact ⟨rfl, _, rfl, fun d hd => by cases hd; exact rfl, Ext.refl _⟩
      simp only [Act.put, sbA, szA, ssA]
      refine ⟨fun wv95 hov95 hSv95 => ?_, fun v95 => ?_⟩
      ·obtain rfl : v93 = undef := hSv95 93 (by decide) (by decide)
       clear hSv95 hov95
       go_wp2_with fail
       exact ⟨rfl, _, rfl, fun d hd => by cases hd; exact rfl, Ext.refl _⟩
      simp only [Act.put, sbA, szA, ssA]
      refine ⟨fun wv96 hov96 hSv96 => ?_, fun v96 => ?_⟩
      ·obtain rfl : v93 = undef := hSv96 93 (by decide) (by decide)
       clear hSv96 hov96
       go_wp2_with fail
       exact ⟨rfl, _, rfl, fun d hd => by cases hd; exact rfl, Ext.refl _⟩
      simp only [Act.put, sbA, szA, ssA]
      refine ⟨fun wv97 hov97 hSv97 => ?_, fun v97 => ?_⟩
      ·obtain rfl : v93 = undef := hSv97 93 (by decide) (by decide)
       clear hSv97 hov97
       go_wp2_with fail
       exact ⟨rfl, _, rfl, fun d hd => by cases hd; exact rfl, Ext.refl _⟩
      simp only [Act.put, sbA, szA, ssA]
      refine ⟨fun wv98 hov98 hSv98 => ?_, fun v98 => ?_⟩
      ·obtain rfl : v93 = undef := hSv98 93 (by decide) (by decide)
       clear hSv98 hov98
       go_wp2_with fail
       exact ⟨rfl, _, rfl, fun d hd => by cases hd; exact rfl, Ext.refl _⟩
      simp only [Act.put, sbA, szA, ssA]
      refine ⟨fun wv99 hov99 hSv99 => ?_, fun v99 => ?_⟩
      ·obtain rfl : v89 = .bool false := hSv99 89 (by decide) (by decide)
       clear hSv99 hov99
       go_wp2_with fail
       exact ⟨rfl, _, rfl, fun d hd => by cases hd; exact rfl, Ext.refl _⟩
      simp only [Act.put, sbA, szA, ssA]
      refine ⟨fun wv100 hov100 hSv100 => ?_, fun v100 => ?_⟩
      ·obtain rfl : v89 = .bool false := hSv100 89 (by decide) (by decide)
       clear hSv100 hov100
       go_wp2_with fail
       exact ⟨rfl, _, rfl, fun d hd => by cases hd; exact rfl, Ext.refl _⟩
      simp only [Act.put, sbA, szA, ssA]
      refine ⟨fun wv101 hov101 hSv101 => ?_, fun v101 => ?_⟩
      ·obtain rfl : v100 = undef := hSv101 100 (by decide) (by decide)
       clear hSv101 hov101
       go_wp2_with fail
       exact ⟨rfl, _, rfl, fun d hd => by cases hd; exact rfl, Ext.refl _⟩
      simp only [Act.put, sbA, szA, ssA]
      refine ⟨fun wv102 hov102 hSv102 => ?_, fun v102 => ?_⟩
      ·obtain rfl : v100 = undef := hSv102 100 (by decide) (by decide)
       clear hSv102 hov102
       go_wp2_with fail
       exact ⟨rfl, _, rfl, fun d hd => by cases hd; exact rfl, Ext.refl _⟩
      simp only [Act.put, sbA, szA, ssA]
      refine ⟨fun wv103 hov103 hSv103 => ?_, fun v103 => ?_⟩
      ·obtain rfl : v100 = undef := hSv103 100 (by decide) (by decide)
       clear hSv103 hov103
       go_wp2_with fail
       exact ⟨rfl, _, rfl, fun d hd => by cases hd; exact rfl, Ext.refl _⟩
      simp only [Act.put, sbA, szA, ssA]
      refine ⟨fun wv104 hov104 hSv104 => ?_, fun v104 => ?_⟩
      ·obtain rfl : v100 = undef := hSv104 100 (by decide) (by decide)
       clear hSv104 hov104
       go_wp2_with fail
       exact ⟨rfl, _, rfl, fun d hd => by cases hd; exact rfl, Ext.refl _⟩
      simp only [Act.put, sbA, szA, ssA]
      refine ⟨fun wv105 hov105 hSv105 => ?_, fun v105 => ?_⟩
      ·obtain rfl : v100 = undef := hSv105 100 (by decide) (by decide)
       clear hSv105 hov105
       go_wp2_with fail
       exact ⟨rfl, _, rfl, fun d hd => by cases hd; exact rfl, Ext.refl _⟩
      simp only [Act.put, sbA, szA, ssA]
      refine ⟨fun wv106 hov106 hSv106 => ?_, fun v106 => ?_⟩
      ·obtain rfl : v100 = undef := hSv106 100 (by decide) (by decide)
       clear hSv106 hov106
       go_wp2_with fail
       exact ⟨rfl, _, rfl, fun d hd => by cases hd; exact rfl, Ext.refl _⟩
      simp only [Act.put, sbA, szA, ssA]
      refine ⟨fun wv107 hov107 hSv107 => ?_, fun v107 => ?_⟩
      ·obtain rfl : v100 = undef := hSv107 100 (by decide) (by decide)
       clear hSv107 hov107
       go_wp2_with fail
       exact ⟨rfl, _, rfl, fun d hd => by cases hd; exact rfl, Ext.refl _⟩
      simp only [Act.put, sbA, szA, ssA]
      refine ⟨fun wv108 hov108 hSv108 => ?_, fun v108 => ?_⟩
      ·obtain rfl : v89 = .bool false := hSv108 89 (by decide) (by decide)
       clear hSv108 hov108
       go_wp2_with fail
       exact ⟨rfl, _, rfl, fun d hd => by cases hd; exact rfl, Ext.refl _⟩
      simp only [Act.put, sbA, szA, ssA]
      refine ⟨fun wv109 hov109 hSv109 => ?_, fun v109 => ?_⟩
      ·obtain rfl : v86 = .bool false := hSv109 86 (by decide) (by decide)
       obtain rfl : v89 = .bool false := hSv109 89 (by decide) (by decide)
       obtain rfl : v108 = undef := hSv109 108 (by decide) (by decide)
       clear hSv109 hov109
       go_wp2_with fail
       exact ⟨rfl, _, rfl, fun d hd => by cases hd; exact rfl, Ext.refl _⟩
      simp only [Act.put, sbA, szA, ssA]
      refine ⟨fun wv110 hov110 hSv110 => ?_, fun v110 => ?_⟩
      ·obtain rfl : v86 = .bool false := hSv110 86 (by decide) (by decide)
       obtain rfl : v109 = .bool false := hSv110 109 (by decide) (by decide)
       clear hSv110 hov110
       go_wp2_with fail
       exact ⟨rfl, _, rfl, fun d hd => by cases hd; exact rfl, Ext.refl _⟩
      simp only [Act.put, sbA, szA, ssA]
      refine ⟨fun wv111 hov111 hSv111 => ?_, fun v111 => ?_⟩
      ·obtain rfl : v110 = .bool false := hSv111 110 (by decide) (by decide)
       clear hSv111 hov111
       go_wp2_with fail
       exact ⟨rfl, _, rfl, fun d hd => by cases hd; exact rfl, Ext.refl _⟩
      simp only [Act.put, sbA, szA, ssA]
      refine ⟨fun wv112 hov112 hSv112 => ?_, fun v112 => ?_⟩
      ·obtain rfl : v111 = .bool false := hSv112 111 (by decide) (by decide)
       clear hSv112 hov112
       go_wp2_with fail
       exact ⟨rfl, _, rfl, fun d hd => by cases hd; exact rfl, Ext.refl _⟩
      simp only [Act.put, sbA, szA, ssA]
      refine ⟨fun wv113 hov113 hSv113 => ?_, fun v113 => ?_⟩
      ·obtain rfl : v111 = .bool false := hSv113 111 (by decide) (by decide)
       obtain rfl : v112 = .int .i64 j := hSv113 112 (by decide) (by decide)
       clear hSv113 hov113
       go_wp2_with fail
       exact ⟨rfl, _, rfl, fun d hd => by cases hd; exact (congrArg Value.bool (by simp; omega)), Ext.refl _⟩
      simp only [Act.put, sbA, szA, ssA]
      refine ⟨fun wv114 hov114 hSv114 => ?_, fun v114 => ?_⟩
      ·obtain rfl : v111 = .bool false := hSv114 111 (by decide) (by decide)
       obtain rfl : v113 = .bool true := hSv114 113 (by decide) (by decide)
       clear hSv114 hov114
       go_wp2_with fail
       exact ⟨rfl, _, rfl, fun d hd => by cases hd; exact rfl, Ext.refl _⟩
      simp only [Act.put, sbA, szA, ssA]
      refine ⟨fun wv115 hov115 hSv115 => ?_, fun v115 => ?_⟩
      ·obtain rfl : v114 = .bool true := hSv115 114 (by decide) (by decide)
       clear hSv115 hov115
       go_wp2_with fail
       exact ⟨rfl, _, rfl, fun d hd => by cases hd; exact rfl, Ext.refl _⟩
      simp only [Act.put, sbA, szA, ssA]
      refine ⟨fun wv116 hov116 hSv116 => ?_, fun v116 => ?_⟩
      ·obtain rfl : v114 = .bool true := hSv116 114 (by decide) (by decide)
       obtain rfl : v115 = .slice va 0 vc := hSv116 115 (by decide) (by decide)
       clear hSv116 hov116
       go_wp2_with fail
       exact ⟨rfl, _, rfl, fun d hd => by cases hd; exact rfl, Ext.refl _⟩
      simp only [Act.put, sbA, szA, ssA]
      refine ⟨fun wv117 hov117 hSv117 => ?_, fun v117 => ?_⟩
      ·obtain rfl : v114 = .bool true := hSv117 114 (by decide) (by decide)
       obtain rfl : v116 = .int .i64 0 := hSv117 116 (by decide) (by decide)
       clear hSv117 hov117
       go_wp2_with fail
       exact ⟨rfl, _, rfl, fun d hd => by cases hd; exact rfl, Ext.refl _⟩
      simp only [Act.put, sbA, szA, ssA]
      refine ⟨fun wv118 hov118 hSv118 => ?_, fun v118 => ?_⟩
      ·obtain rfl : v114 = .bool true := hSv118 114 (by decide) (by decide)
       obtain rfl : v117 = .bool false := hSv118 117 (by decide) (by decide)
       clear hSv118 hov118
       go_wp2_with fail
       exact ⟨rfl, _, rfl, fun d hd => by cases hd; exact rfl, Ext.refl _⟩
      simp only [Act.put, sbA, szA, ssA]
      refine ⟨fun wv119 hov119 hSv119 => ?_, fun v119 => ?_⟩
      ·obtain rfl : v118 = .bool false := hSv119 118 (by decide) (by decide)
       clear hSv119 hov119
       go_wp2_with fail
       exact ⟨rfl, _, rfl, fun d hd => by cases hd; exact rfl, Ext.refl _⟩
      simp only [Act.put, sbA, szA, ssA]
      refine ⟨fun wv120 hov120 hSv120 => ?_, fun v120 => ?_⟩
      ·obtain rfl : v118 = .bool false := hSv120 118 (by decide) (by decide)
       obtain rfl : v119 = .pointer (some ⟨g14, 1, none⟩) := hSv120 119 (by decide) (by decide)
       clear hSv120
       have H := kp (H.out.keep [0, 1, 2, 3] (St := []) trivial hov120 (by decide) (by kernel_rfl))
       have HOX := kp hov120
       clear hov120
       go_wp2_with ((with_reducible refine isLd 5 ?_); (refine L_f1 H rfl 5 _ rfl 0 rfl _ rfl _ rfl _ rfl Try.underlying5 rfl ?_); simp only [Act.put, sbA, szA, ssA])
       exact ⟨rfl, _, rfl, fun d hd => by cases hd; exact rfl, Ext.refl _⟩
      simp only [Act.put, sbA, szA, ssA]
      refine ⟨fun wv121 hov121 hSv121 => ?_, fun v121 => ?_⟩
      ·obtain rfl : v118 = .bool false := hSv121 118 (by decide) (by decide)
       obtain rfl : v120 = .int .u8 5 := hSv121 120 (by decide) (by decide)
       clear hSv121 hov121
       go_wp2_with fail
       exact ⟨rfl, _, rfl, fun d hd => by cases hd; exact rfl, Ext.refl _⟩
      simp only [Act.put, sbA, szA, ssA]
      refine ⟨fun wv122 hov122 hSv122 => ?_, fun v122 => ?_⟩
      ·obtain rfl : v114 = .bool true := hSv122 114 (by decide) (by decide)
       obtain rfl : v118 = .bool false := hSv122 118 (by decide) (by decide)
       obtain rfl : v121 = .bool false := hSv122 121 (by decide) (by decide)
       clear hSv122 hov122
       go_wp2_with fail
       exact ⟨rfl, _, rfl, fun d hd => by cases hd; exact rfl, Ext.refl _⟩
      simp only [Act.put, sbA, szA, ssA]
      refine ⟨fun wv123 hov123 hSv123 => ?_, fun v123 => ?_⟩
      ·obtain rfl : v111 = .bool false := hSv123 111 (by decide) (by decide)
       obtain rfl : v114 = .bool true := hSv123 114 (by decide) (by decide)
       obtain rfl : v122 = .bool false := hSv123 122 (by decide) (by decide)
       clear hSv123 hov123
       go_wp2_with fail
       exact ⟨rfl, _, rfl, fun d hd => by cases hd; exact rfl, Ext.refl _⟩
      simp only [Act.put, sbA, szA, ssA]
      refine ⟨fun wv124 hov124 hSv124 => ?_, fun v124 => ?_⟩
      ·obtain rfl : v111 = .bool false := hSv124 111 (by decide) (by decide)
       obtain rfl : v123 = .bool false := hSv124 123 (by decide) (by decide)
       clear hSv124 hov124
       go_wp2_with fail
       exact ⟨rfl, _, rfl, fun d hd => by cases hd; exact rfl, Ext.refl _⟩
      simp only [Act.put, sbA, szA, ssA]
      clear H
      intro wy HOX H hfin
      obtain rfl : v84 = .int .i64 0 := hfin 84 (by decide)
      obtain rfl : v85 = .bool false := hfin 85 (by decide)
      obtain rfl : v86 = .bool false := hfin 86 (by decide)
      obtain rfl : v87 = .int .i64 j := hfin 87 (by decide)
      obtain rfl : v88 = .bool false := hfin 88 (by decide)
      obtain rfl : v89 = .bool false := hfin 89 (by decide)
      obtain rfl : v90 = undef := hfin 90 (by decide)
      obtain rfl : v91 = undef := hfin 91 (by decide)
      obtain rfl : v92 = undef := hfin 92 (by decide)
      obtain rfl : v93 = undef := hfin 93 (by decide)
      obtain rfl : v94 = undef := hfin 94 (by decide)
      obtain rfl : v95 = undef := hfin 95 (by decide)
      obtain rfl : v96 = undef := hfin 96 (by decide)
      obtain rfl : v97 = undef := hfin 97 (by decide)
      obtain rfl : v98 = undef := hfin 98 (by decide)
      obtain rfl : v99 = undef := hfin 99 (by decide)
      obtain rfl : v100 = undef := hfin 100 (by decide)
      obtain rfl : v101 = undef := hfin 101 (by decide)
      obtain rfl : v102 = undef := hfin 102 (by decide)
      obtain rfl : v103 = undef := hfin 103 (by decide)
      obtain rfl : v104 = undef := hfin 104 (by decide)
      obtain rfl : v105 = undef := hfin 105 (by decide)
      obtain rfl : v106 = undef := hfin 106 (by decide)
      obtain rfl : v107 = undef := hfin 107 (by decide)
      obtain rfl : v108 = undef := hfin 108 (by decide)
      obtain rfl : v109 = .bool false := hfin 109 (by decide)
      obtain rfl : v110 = .bool false := hfin 110 (by decide)
      obtain rfl : v111 = .bool false := hfin 111 (by decide)
      obtain rfl : v112 = .int .i64 j := hfin 112 (by decide)
      obtain rfl : v113 = .bool true := hfin 113 (by decide)
      obtain rfl : v114 = .bool true := hfin 114 (by decide)
      obtain rfl : v115 = .slice va 0 vc := hfin 115 (by decide)
      obtain rfl : v116 = .int .i64 0 := hfin 116 (by decide)
      obtain rfl : v117 = .bool false := hfin 117 (by decide)
      obtain rfl : v118 = .bool false := hfin 118 (by decide)
      obtain rfl : v119 = .pointer (some ⟨g14, 1, none⟩) := hfin 119 (by decide)
      obtain rfl : v120 = .int .u8 5 := hfin 120 (by decide)
      obtain rfl : v121 = .bool false := hfin 121 (by decide)
      obtain rfl : v122 = .bool false := hfin 122 (by decide)
      obtain rfl : v123 = .bool false := hfin 123 (by decide)
      obtain rfl : v124 = .bool false := hfin 124 (by decide)
      clear hfin
      simp only [List.drop_succ_cons, List.drop_zero]
      simp only [applyS] at H
      have HXN := kp (HOX.out.ext (Ext.refl we) (fun g hg => by cases hg))
      go_wp2_with (first | ((with_reducible refine isLd 32 ?_); refine L_fa H rfl 32 _ rfl 0 rfl rfl Try.underlying32 rfl (by kernel_rfl) ?_; simp only [Act.put, sbA, szA, ssA]) | ((with_reducible refine isSt 32 ?_); refine L_sa H rfl rfl 32 _ _ rfl 1 rfl rfl (partsF (stA5 p 4)) rfl rfl (by kernel_rfl) ?_; clear H; intro wz HWwz H; simp only [ssA, szA] at H))
      refine ⟨⟨j + 1, n + x, _, by omega, by go_num, rfl, ?_, by omega, by omega, kp (.inr ⟨by omega, rfl⟩), kp (HCW.out.past HXN.out HWwz.out (Nat.le_of_eq HGg9.out.symm)), kp (Loc.tail H.out)⟩, by simp [intOf]; try omega⟩
      rw [show gsent (j + 1) = 4 by unfold gsent; split <;> omega]
    ·obtain rfl : j = l.length := by omega
     go_wp2_with fail
     all_goals go_ret
     all_goals exact ⟨congrArg (fun z => Ending.returned (.bool z)) (by rw [beq_iff_eq]; unfold gsent; split <;> omega), H.out.1⟩
end Go.Proofs.Ytibncchobkaaiaa
