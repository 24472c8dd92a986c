/- Texts of this proof, put together: Los. -/
import Derived.Test.YtibncchobkaaiaaM33
import Derived.Test.YtibncchobkaaiaaM1
namespace Go.Proofs.Ytibncchobkaaiaa
open Go.RowKit
set_option maxRecDepth 10000 in
set_option maxHeartbeats 6400000 in
theorem fourwayLosses_walk (p0 : Pr) (a0 b0 : Int) (v : Value) (l : List Bool) (_ : l.length ≤ 9223372036854775807) (w : World) (hv : SlT 1 boolc w v l) : Calls Try.prog 8 #[.agg (cat (partsP p0)).toArray, .int .i64 a0, .int .i64 b0, v] w fun e w' => e = .returned (.bool true) ∧ Ext w w' := by
 have H := kp (Loc.start w)
 have HV := kp hv
 obtain ⟨ad, c0, rfl⟩ := hv.form
 clear hv
 have C1 := kp alive_any
 go_enter Try.func8, Try.ntmps8
 generalize h6 : (Code.region 6 _ _ : Code) = R6
 cases hb : sidesB (own1 p0) with
 | false =>
  have C2 := kp (show ∀ w, Calls Try.prog 25 #[.agg (cat (partsP (own1 p0))).toArray] w (fun e w' => e = .returned (.tuple #[.agg (cat (parts2 (sidesF (own1 p0)))).toArray, .bool false]) ∧ Ext w w') from fun w => by have := sides_any (own1 p0) w; unfold SidR at this; rwa [hb] at this)
  clear hb
  generalize sidesF (own1 p0) = ss at *
  go_wp2_with (first | ((with_reducible show wpList _ _ _ (Oper.mk (some 4) (Op.box 48 _) _ _ _ _ :: _) _ _); (refine L_box H rfl 48 _ rfl (cat (partsP p0)) rfl ?_); clear H; intro g4 w4 HGg4 HEg4 H; simp only [Act.put, sbA, szA, ssA]) | (go_at_call 26; refine (C1.out _).mono ?_; rintro e wa ⟨rfl, hx⟩; have H2 := kp (H.out.ext hx); have HXC := kp hx; clear H hx; have H := H2; clear H2) | ((with_reducible refine isLd 25 ?_); (refine L_fv H rfl 25 _ rfl 0 rfl _ rfl _ rfl rfl Try.underlying25 rfl (by kernel_rfl) ?_); simp only [Act.put, sbA, szA, ssA]) | ((with_reducible refine isSt 25 ?_); (refine L_sv H rfl rfl 25 _ _ rfl 0 rfl _ rfl _ rfl (Lf.v p0.master) rfl rfl rfl (by kernel_rfl) (partsP (own1 p0)) rfl ?_; clear H; intro w5 HWw5 H; simp only [szA] at H)) | ((with_reducible refine isLd 48 ?_); (refine L_fa H rfl 48 _ rfl 0 rfl rfl Try.underlying48 rfl (by kernel_rfl) ?_); simp only [Act.put, sbA, szA, ssA]) | ((with_reducible show wpList _ _ _ (Oper.mk (some 10) (Op.alloc 55) _ _ _ _ :: _) _ _); (refine L_alloc H rfl 55 rfl (cat (parts2 (fw0, fw0))) (fun _ _ => by kernel_rfl) ?_); clear H; intro g10 w6 HGg10 HEg10 H; simp only [Act.put, sbA, szA, ssA]) | ((with_reducible refine isSt 55 ?_); refine L_sa H rfl rfl 55 _ _ rfl 0 rfl rfl (parts2 ss) rfl rfl (by kernel_rfl) ?_; clear H; intro wb HWwb H; simp only [szA] at H) | (go_at_call 25; refine (C2.out _).mono ?_; rintro e wa ⟨rfl, hx⟩; have H2 := kp (H.out.ext hx); have HXC := kp hx; clear H hx; have H := H2; clear H2))
  all_goals go_ret
  all_goals exact ⟨rfl, H.out.1⟩
 | true =>
  have HK := kp (sidesB_ok hb)
  have C2 := kp (sides_okC HK.out)
  clear hb
  by_cases hbad : a0 < 0 ∨ 3 < a0 ∨ b0 < 0 ∨ 3 < b0 ∨ (6 : Int) < l.length
  ·go_wp2_with (first | ((with_reducible show wpList _ _ _ (Oper.mk (some 4) (Op.box 48 _) _ _ _ _ :: _) _ _); (refine L_box H rfl 48 _ rfl (cat (partsP p0)) rfl ?_); clear H; intro g4 w4 HGg4 HEg4 H; simp only [Act.put, sbA, szA, ssA]) | (go_at_call 26; refine (C1.out _).mono ?_; rintro e wa ⟨rfl, hx⟩; have H2 := kp (H.out.ext hx); have HXC := kp hx; clear H hx; have H := H2; clear H2) | ((with_reducible refine isLd 25 ?_); (refine L_fv H rfl 25 _ rfl 0 rfl _ rfl _ rfl rfl Try.underlying25 rfl (by kernel_rfl) ?_); simp only [Act.put, sbA, szA, ssA]) | ((with_reducible refine isSt 25 ?_); (refine L_sv H rfl rfl 25 _ _ rfl 0 rfl _ rfl _ rfl (Lf.v p0.master) rfl rfl rfl (by kernel_rfl) (partsP (own1 p0)) rfl ?_; clear H; intro w5 HWw5 H; simp only [szA] at H)) | ((with_reducible refine isLd 48 ?_); (refine L_fa H rfl 48 _ rfl 0 rfl rfl Try.underlying48 rfl (by kernel_rfl) ?_); simp only [Act.put, sbA, szA, ssA]) | ((with_reducible show wpList _ _ _ (Oper.mk (some 10) (Op.alloc 55) _ _ _ _ :: _) _ _); (refine L_alloc H rfl 55 rfl (cat (parts2 (fw0, fw0))) (fun _ _ => by kernel_rfl) ?_); clear H; intro g10 w6 HGg10 HEg10 H; simp only [Act.put, sbA, szA, ssA]) | ((with_reducible refine isSt 55 ?_); refine L_sa H rfl rfl 55 _ _ rfl 0 rfl rfl (parts2 (stA0 (own1 p0), stS0 (own1 p0))) rfl rfl (by kernel_rfl) ?_; clear H; intro wb HWwb H; simp only [szA] at H) | (go_at_call 25; refine (C2.out _).mono ?_; rintro e wa ⟨rfl, hx⟩; have H2 := kp (H.out.ext hx); have HXC := kp hx; clear H hx; have H := H2; clear H2))
   all_goals first | (exfalso; omega) | (go_ret; exact ⟨rfl, H.out.1⟩)
  ·have ha1 : ¬ a0 < 0 := by omega
   have ha2 : ¬ 3 < a0 := by omega
   have hb1 : ¬ b0 < 0 := by omega
   have hb2 : ¬ 3 < b0 := by omega
   have hl1 : ¬ (6 : Int) < l.length := by omega
   clear hbad
   have HM := kp (show SameK (own1 p0) from rfl)
   go_wp2_with (first | ((with_reducible show wpList _ _ _ (Oper.mk (some 4) (Op.box 48 _) _ _ _ _ :: _) _ _); (refine L_box H rfl 48 _ rfl (cat (partsP p0)) rfl ?_); clear H; intro g4 w4 HGg4 HEg4 H; simp only [Act.put, sbA, szA, ssA]) | (go_at_call 26; refine (C1.out _).mono ?_; rintro e wa ⟨rfl, hx⟩; have H2 := kp (H.out.ext hx); have HXC := kp hx; clear H hx; have H := H2; clear H2) | ((with_reducible refine isLd 25 ?_); (refine L_fv H rfl 25 _ rfl 0 rfl _ rfl _ rfl rfl Try.underlying25 rfl (by kernel_rfl) ?_); simp only [Act.put, sbA, szA, ssA]) | ((with_reducible refine isSt 25 ?_); (refine L_sv H rfl rfl 25 _ _ rfl 0 rfl _ rfl _ rfl (Lf.v p0.master) rfl rfl rfl (by kernel_rfl) (partsP (own1 p0)) rfl ?_; clear H; intro w5 HWw5 H; simp only [szA] at H)) | ((with_reducible refine isLd 48 ?_); (refine L_fa H rfl 48 _ rfl 0 rfl rfl Try.underlying48 rfl (by kernel_rfl) ?_); simp only [Act.put, sbA, szA, ssA]) | ((with_reducible show wpList _ _ _ (Oper.mk (some 10) (Op.alloc 55) _ _ _ _ :: _) _ _); (refine L_alloc H rfl 55 rfl (cat (parts2 (fw0, fw0))) (fun _ _ => by kernel_rfl) ?_); clear H; intro g10 w6 HGg10 HEg10 H; simp only [Act.put, sbA, szA, ssA]) | ((with_reducible refine isSt 55 ?_); refine L_sa H rfl rfl 55 _ _ rfl 0 rfl rfl (parts2 (stA0 (own1 p0), stS0 (own1 p0))) rfl rfl (by kernel_rfl) ?_; clear H; intro wb HWwb H; simp only [szA] at H) | (go_at_call 25; refine (C2.out _).mono ?_; rintro e wa ⟨rfl, hx⟩; have H2 := kp (H.out.ext hx); have HXC := kp hx; clear H hx; have H := H2; clear H2))
   all_goals try (exfalso; omega)
   generalize (own1 p0) = p at *
   have C3 := kp (show ∀ w, Calls Try.prog 10 #[.agg (cat (partsF (stA0 p))).toArray, .int .i64 0] w (ResR (stA1 p 1 100000, [ms1 p 1], 0) w) from start_okC HK.out (n := 0) (by unfold NowOk; omega))
   have C5 := kp (tog_okC p)
   subst h6
   go_wp2_with (first | ((with_reducible show wpList _ _ _ (Oper.mk (some 13) (Op.alloc 32) _ _ _ _ :: _) _ _); (refine L_alloc H rfl 32 rfl (cat (partsF fw0)) (fun _ _ => by kernel_rfl) ?_); clear H; intro g13 w13 HGg13 HEg13 H; simp only [Act.put, sbA, szA, ssA]) | ((with_reducible refine isSt 32 ?_); refine L_sa H rfl rfl 32 _ _ rfl 0 rfl rfl (partsF (stA1 p 1 100000)) rfl rfl (by kernel_rfl) ?_; clear H; intro wd HWwd H; simp only [szA] at H) | ((with_reducible refine isLd 32 ?_); refine L_fg H rfl 32 _ rfl 0 rfl _ rfl _ rfl (partsF (stA0 p)) rfl Try.underlying32 rfl (by kernel_rfl) ?_; simp only [Act.put, sbA, szA, ssA]) | (go_at_call 10; have HL1 := kp (H.out.lt 0 rfl); refine (C3.out _).mono ?_; rintro e wa ⟨v, rfl, hs, hx⟩; have HSA := kp hs; clear hs; have H2 := kp (H.out.ext hx); have HXC := kp hx; clear H hx; have H := H2; clear H2) | ((with_reducible refine isLd 32 ?_); refine L_fa H rfl 32 _ rfl 0 rfl rfl Try.underlying32 rfl (by kernel_rfl) ?_; simp only [Act.put, sbA, szA, ssA]) | ((with_reducible refine isSt 32 ?_); refine L_sg H rfl rfl 32 _ _ rfl 1 rfl _ rfl _ rfl 16 (partsF (stA1 p 1 100000)) rfl (by kernel_rfl) (by kernel_rfl) (parts2 (stA1 p 1 100000, stS0 p)) (by kernel_rfl) ?_; clear H; intro we HWwe H; simp only [ssA, szA] at H))
   obtain ⟨b, c, u, rfl, hoo⟩ := OneO.of ((HSA.out.past HEg13.out HWwd.out (Nat.le_of_eq HGg13.out.symm)).out HWwe.out.out (by intro x hx; rcases List.mem_singleton.1 hx with rfl; exact HL1.out))
   have HO := kp hoo
   clear hoo
   have HL := kp (show LSt p 0 0 0 (stA1 p 1 100000, stS0 p) (ms1 p 1) from by unfold LSt; rw [if_pos rfl]; exact ⟨rfl, rfl, .inl rfl⟩)
   refine wp_loopC (12 :: 14 :: 15 :: 16 :: 17 :: 18 :: 19 :: 20 :: 21 :: 22 :: 23 :: 24 :: 25 :: 73 :: 74 :: 75 :: 76 :: 77 :: 78 :: 79 :: 80 :: 81 :: 82 :: 83 :: 84 :: 85 :: 86 :: 87 :: 88 :: 89 :: 90 :: 91 :: 92 :: 93 :: 94 :: 95 :: 96 :: 97 :: 98 :: 99 :: 100 :: 101 :: 102 :: 103 :: 104 :: 105 :: 106 :: 107 :: 108 :: 109 :: 110 :: 111 :: 112 :: 113 :: 114 :: 115 :: 116 :: 117 :: 118 :: 119 :: 120 :: 121 :: 122 :: 123 :: 124 :: 125 :: 126 :: 127 :: 128 :: 129 :: 130 :: 131 :: 132 :: 133 :: 134 :: 135 :: 136 :: 137 :: 138 :: 139 :: 140 :: 141 :: 142 :: 143 :: 144 :: 145 :: 146 :: 147 :: 148 :: 149 :: 150 :: 151 :: 152 :: 153 :: 154 :: 155 :: 156 :: 157 :: 158 :: 159 :: 160 :: 161 :: 162 :: 163 :: 164 :: 165 :: 166 :: 167 :: 168 :: 169 :: 170 :: 171 :: []) (LosO p w g10 g4) (fun vs _ => 2 - (intOf (vs 16)).toNat) (by kernel_rfl) ⟨0, 0, _, _, by decide, rfl, rfl, rfl, by decide, by decide, .inl ⟨by decide, _, b, c, u, rfl, HL, HO⟩, kp (Loc.tail H.out)⟩ ?_
   clear H HL HO HSA
   rintro vs wr ⟨ph, n, s1, s2, hph, q12, q15, q16, hn0, hn1, hor, H⟩
   simp only [putMany, List.setIfInBounds_toArray, List.set_cons_zero, List.set_cons_succ]
   rw [q12, q15, q16]
   rcases hor with ⟨hlt2, m, b, c, u, q14, HL, HO⟩ | ⟨rfl, va, vc, q14, k, rfl, rfl⟩
   ·rw [q14]
    have h01 : ph = 0 ∨ ph = 1 := by omega
    rcases h01 with rfl | rfl
    ·generalize h15 : ((Code.region 15 _ _ : Code).seq _) = C15
     generalize h30 : (Code.region 30 _ _ : Code) = R30
     generalize h34 : (Code.region 34 _ _ : Code) = R34
     go_wp2_with fail
     subst h15
     refine wp_cut (12 :: 14 :: 15 :: 18 :: 19 :: 20 :: 21 :: 22 :: 81 :: 82 :: 83 :: 84 :: 85 :: 86 :: 87 :: 88 :: 89 :: 90 :: 91 :: 92 :: 93 :: 94 :: 95 :: 96 :: 97 :: 98 :: 99 :: 100 :: 101 :: 102 :: 103 :: 104 :: 105 :: 106 :: 107 :: 108 :: 109 :: 110 :: 111 :: 112 :: 113 :: 114 :: 115 :: 116 :: 117 :: 118 :: 119 :: 120 :: 121 :: 122 :: 123 :: 124 :: 125 :: 126 :: 127 :: 128 :: 129 :: 130 :: 131 :: 132 :: []) (LosC p 0 w g10 g4) ?_ ?_
     ·go_wp2_with fail
      refine wp_loopC (12 :: 14 :: 15 :: 18 :: 19 :: 20 :: 21 :: 22 :: 81 :: 82 :: 83 :: 84 :: 85 :: 86 :: 87 :: 88 :: 89 :: 90 :: 91 :: 92 :: 93 :: 94 :: 95 :: 96 :: 97 :: 98 :: 99 :: 100 :: 101 :: 102 :: 103 :: 104 :: 105 :: 106 :: 107 :: 108 :: 109 :: 110 :: 111 :: 112 :: 113 :: 114 :: 115 :: 116 :: 117 :: 118 :: 119 :: 120 :: 121 :: 122 :: 123 :: 124 :: 125 :: 126 :: 127 :: 128 :: 129 :: 130 :: 131 :: 132 :: []) (LosI p 0 a0 w g10 g4) (fun vs _ => a0.toNat - (intOf (vs 18)).toNat) (by kernel_rfl) ⟨0, n, s1, s2, m, b, c, u, by omega, rfl, rfl, rfl, rfl, by omega, by omega, HL, HO, H⟩ ?_
      clear H HO HL
      rintro vs wr ⟨i, n, s1, s2, m, b, c, u, hi, q12, q14, q15, q18, hn0, hn1, HL, HO, H⟩
      simp only [putMany, List.setIfInBounds_toArray, List.set_cons_zero, List.set_cons_succ]
      rw [q12, q14, q15, q18]
      obtain ⟨t, a, r, e1, ha⟩ := lst_a HK.out HM.out HL.out (by omega) (by omega) (by omega)
      have HA := kp ha
      have HT0 := kp (lst_t HK.out HL.out (by omega) (by omega))
      have HLN := kp (lst_len HL.out)
      have HLT := kp (H.out.lt 0 rfl)
      obtain ⟨hb, hc, B0, ho⟩ := HO.out
      obtain ⟨um, uc, rfl⟩ := owns_form ho
      have HCE := kp (show ∀ W, Ext wr W → W.cell? ⟨b, 0, none⟩ = some (.slice um m.length uc) from fun W hx => (hx.cell hb).trans hc)
      have HHA := kp (show ∀ W, Ext wr W → Calls Try.prog 15 #[.agg (cat (partsF s2)).toArray, .slice um m.length uc, .int .i64 n] W (ResR (t, [a], 0) W) from fun W hx => by
       have := handle_own s2 m HLN.out n _ _ W (owns_ext ho hx)
       rwa [e1] at this)
      have HOK := kp (show OneO wr b (.slice um m.length uc) m from ⟨hb, hc, B0, ho⟩)
      clear e1 ha hb hc ho HO
      by_cases hlt : (i : Int) < a0
      ·generalize h22 : (Code.region 22 _ _ : Code) = R22
       by_cases hk : i < l.length
       ·obtain ⟨y, hy⟩ : ∃ y, l[i]? = some y := ⟨_, List.getElem?_eq_getElem hk⟩
        obtain ⟨b1, off, c1, hv1, hb1, hc1⟩ := (HV.out.ext H.out.1).at1 (f := fun x => .bool x) hy
        cases hv1
        clear hy hb1
        cases y with
        | false =>
         obtain ⟨x, m2, e3, hl3⟩ := HT0.out (by omega)
         have HL3 := kp hl3
         have HT := kp (show ∀ W, Calls Try.prog 13 #[.agg (cat (partsF s1)).toArray, .int .i64 (n + 100000)] W (ResR (x, [m2], 0) W) from fun W => by
          have := tick_any s1 (n + 100000) W
          rwa [e3] at this)
         clear e3 hl3
         go_wp2_with (first | ((with_reducible refine isLd 32 ?_); refine L_fg H rfl 32 _ rfl 0 rfl _ rfl _ rfl (partsF s1) rfl Try.underlying32 rfl (by kernel_rfl) ?_; simp only [Act.put, sbA, szA, ssA]) | (go_at_call 13; have HL2 := kp (H.out.lt 0 rfl); refine (HT.out _).mono ?_; rintro e wt ⟨v, rfl, hs, hx⟩; have HSA := kp hs; clear hs; have H2 := kp (H.out.ext hx); have HXC := kp hx; clear H hx; have H := H2; clear H2) | ((with_reducible refine isSt 32 ?_); refine L_sg H rfl rfl 32 _ _ rfl 0 rfl _ rfl _ rfl 16 (partsF x) rfl (by kernel_rfl) (by kernel_rfl) (parts2 (x, s2)) (by kernel_rfl) ?_; clear H; intro wy HWwy H; simp only [szA] at H))
         all_goals try (exfalso; omega)
         obtain ⟨b2, c2, u2, rfl, HO2⟩ := OneO.of (HSA.out.out HWwy.out.out (by intro x hx; rcases List.mem_singleton.1 hx with rfl; exact HL2.out))
         exact LoopP.of rfl (by kernel_rfl) ⟨i + 1, n + 100000, x, s2, m2, b2, c2, u2, by omega, rfl, rfl, rfl, by show Value.int .i64 _ = Value.int .i64 _; go_num, by omega, by omega, HL3, kp HO2, H⟩ (by simp [intOf]; omega)
        | true =>
         obtain ⟨x, m2, e3, hl3⟩ := HA.out.tick (by omega)
         have HL3 := kp hl3
         have HT := kp (show ∀ W, Calls Try.prog 13 #[.agg (cat (partsF s1)).toArray, .int .i64 (n + 100000)] W (ResR (x, [m2], 0) W) from fun W => by
          have := tick_any s1 (n + 100000) W
          rwa [e3] at this)
         clear e3 hl3
         go_wp2_with fail
         all_goals try (exfalso; omega)
         subst h22
         refine region_freeN H (tabS [(108, fun vQ _ => vQ = .pointer (some ⟨g10, 131, none⟩)), (109, fun vQ _ => vQ = .agg (cat (partsF s2)).toArray), (110, fun vQ _ => vQ = .slice (some ⟨b, 0, none⟩) 1 c), (111, fun vQ _ => vQ = .pointer (some ⟨b, 0, none⟩)), (112, fun vQ _ => vQ = .slice um m.length uc), (113, fun vQ _ => vQ = .int .i64 n), (114, fun vQ wQ => TupR wr.heap.size (t, [a], 0) vQ wQ), (107, fun vQ wQ => TupR wr.heap.size (t, [a], 0) vQ wQ), (115, fun vQ _ => vQ = .agg (cat (partsF t)).toArray), (116, fun vQ wQ => SlBB wr.heap.size wQ vQ [a]), (117, fun vQ _ => vQ = .int .i64 0), (21, fun vQ wQ => SlBB wr.heap.size wQ vQ [a])]) 11 12 20 115 32 (cat (partsF fw0)) (cat (partsF t)) 14 (tabS_trn _ _ _ (by simp only [List.forall_mem_cons]; exact ⟨monoN_eq _ _ _, monoN_eq _ _ _, monoN_eq _ _ _, monoN_eq _ _ _, monoN_eq _ _ _, monoN_eq _ _ _, (monoN_TupR _ _ _), (monoN_TupR _ _ _), monoN_eq _ _ _, (monoN_SlBB _ _ _), monoN_eq _ _ _, (monoN_SlBB _ _ _), by simp⟩)) (fun _ _ => trivial) (fun _ _ h => h) (by kernel_rfl) (by kernel_rfl) (by kernel_rfl) (by kernel_rfl) _ _ rfl rfl (by decide) (by decide) (by decide) rfl rfl rfl (fun _ => by kernel_rfl) rfl rfl rfl (by kernel_rfl) (by kernel_rfl) (by kernel_rfl) (sizeFw _) (len_F _ _) (by simpa using cat_one (partsF t)) (by kernel_rfl) ?_
         simp only [List.take_succ_cons, List.take_zero]
         refine ⟨fun _ wv108 hov108 hSv108 => ?_, fun v108 => ?_⟩
         ·clear hSv108
          clear hov108
          go_wp2_with fail
          exact ⟨rfl, _, rfl, fun d hd => by cases hd; exact rfl, Ext.refl _⟩
         simp only [Act.put, sbA, szA, ssA]
         refine ⟨fun _ wv109 hov109 hSv109 => ?_, fun v109 => ?_⟩
         ·obtain rfl : v108 = .pointer (some ⟨g10, 131, none⟩) := hSv109 108 (by decide) (by decide)
          clear hSv109
          have H := kp (H.out.ext hov109)
          have HOX := kp hov109
          clear hov109
          go_wp2_with ((with_reducible refine isLd 32 ?_); refine L_fg H rfl 32 _ rfl 0 rfl _ rfl _ rfl (partsF s2) rfl Try.underlying32 rfl (by kernel_rfl) ?_; simp only [Act.put, sbA, szA, ssA])
          exact ⟨rfl, _, rfl, fun d hd => by cases hd; exact rfl, Ext.refl _⟩
         simp only [Act.put, sbA, szA, ssA]
         refine ⟨fun _ wv110 hov110 hSv110 => ?_, fun v110 => ?_⟩
         ·clear hSv110
          clear hov110
          go_wp2_with fail
          exact ⟨rfl, _, rfl, fun d hd => by cases hd; exact rfl, Ext.refl _⟩
         simp only [Act.put, sbA, szA, ssA]
         refine ⟨fun _ wv111 hov111 hSv111 => ?_, fun v111 => ?_⟩
         ·obtain rfl : v110 = .slice (some ⟨b, 0, none⟩) 1 c := hSv111 110 (by decide) (by decide)
          clear hSv111 hov111
          go_wp2_with fail
          exact ⟨rfl, _, rfl, fun d hd => by cases hd; exact rfl, Ext.refl _⟩
         simp only [Act.put, sbA, szA, ssA]
         refine ⟨fun _ wv112 hov112 hSv112 => ?_, fun v112 => ?_⟩
         ·obtain rfl : v111 = .pointer (some ⟨b, 0, none⟩) := hSv112 111 (by decide) (by decide)
          clear hSv112
          have H := kp (H.out.ext hov112)
          have HOX := kp hov112
          clear hov112
          have hc := HCE.out _ HOX.out
          go_wp2_with fail
          exact ⟨rfl, _, rfl, fun d hd => by cases hd; exact rfl, Ext.refl _⟩
         simp only [Act.put, sbA, szA, ssA]
         refine ⟨fun _ wv113 hov113 hSv113 => ?_, fun v113 => ?_⟩
         ·clear hSv113
          clear hov113
          go_wp2_with fail
          exact ⟨rfl, _, rfl, fun d hd => by cases hd; exact rfl, Ext.refl _⟩
         simp only [Act.put, sbA, szA, ssA]
         refine ⟨fun _ wv114 hov114 hSv114 => ?_, fun v114 => ?_⟩
         ·obtain rfl : v109 = .agg (cat (partsF s2)).toArray := hSv114 109 (by decide) (by decide)
          obtain rfl : v112 = .slice um m.length uc := hSv114 112 (by decide) (by decide)
          obtain rfl : v113 = .int .i64 n := hSv114 113 (by decide) (by decide)
          clear hSv114
          have H := kp (H.out.ext hov114)
          have HOX := kp hov114
          clear hov114
          go_wp2_with fail
          refine (HHA.out _ HOX.out).mono ?_
          rintro e w2 ⟨u, rfl, hs, hx⟩
          have HSL := kp (hs.weak HOX.out.size)
          have HXC := kp hx
          clear hs hx
          go_wp2_with fail
          exact ⟨rfl, _, rfl, fun d hd => by cases hd; exact ⟨_, rfl, HSL.out⟩, HXC.out⟩
         simp only [Act.put, sbA, szA, ssA]
         refine ⟨fun _ wv107 hov107 hSv107 => ?_, fun v107 => ?_⟩
         ·have h114 := kp (show TupR wr.heap.size (t, [a], 0) v114 wv107 from hSv107 114 (by decide) (by decide))
          clear hSv107 hov107
          go_wp2_with fail
          exact ⟨rfl, _, rfl, fun d hd => by cases hd; exact h114.out, Ext.refl _⟩
         simp only [Act.put, sbA, szA, ssA]
         refine ⟨fun _ wv115 hov115 hSv115 => ?_, fun v115 => ?_⟩
         ·have h107 := kp (show TupR wr.heap.size (t, [a], 0) v107 wv115 from hSv115 107 (by decide) (by decide))
          clear hSv115
          have H := kp (H.out.ext hov115)
          have HOX := kp hov115
          clear hov115
          obtain ⟨u, rfl, hs⟩ := h107.out
          clear hs
          go_wp2_with fail
          exact ⟨rfl, _, rfl, fun d hd => by cases hd; exact rfl, Ext.refl _⟩
         simp only [Act.put, sbA, szA, ssA]
         refine ⟨fun _ wv116 hov116 hSv116 => ?_, fun v116 => ?_⟩
         ·have h107 := kp (show TupR wr.heap.size (t, [a], 0) v107 wv116 from hSv116 107 (by decide) (by decide))
          clear hSv116
          have H := kp (H.out.ext hov116)
          have HOX := kp hov116
          clear hov116
          obtain ⟨u, rfl, hs⟩ := h107.out
          have HSL := kp hs
          clear hs
          go_wp2_with fail
          exact ⟨rfl, _, rfl, fun d hd => by cases hd; exact HSL.out, Ext.refl _⟩
         simp only [Act.put, sbA, szA, ssA]
         refine ⟨fun _ wv117 hov117 hSv117 => ?_, fun v117 => ?_⟩
         ·have h107 := kp (show TupR wr.heap.size (t, [a], 0) v107 wv117 from hSv117 107 (by decide) (by decide))
          clear hSv117
          have H := kp (H.out.ext hov117)
          have HOX := kp hov117
          clear hov117
          obtain ⟨u, rfl, hs⟩ := h107.out
          clear hs
          go_wp2_with fail
          exact ⟨rfl, _, rfl, fun d hd => by cases hd; exact rfl, Ext.refl _⟩
         simp only [Act.put, sbA, szA, ssA]
         refine ⟨(fun h => by cases h), fun v20 => ?_⟩
         simp only [Act.put, sbA, szA, ssA]
         refine ⟨(fun h => by cases h), fun _ => ?_⟩
         refine ⟨fun _ wv21 hov21 hSv21 => ?_, fun v21 => ?_⟩
         ·have h116 := kp (show SlBB wr.heap.size wv21 v116 [a] from hSv21 116 (by decide) (by decide))
          clear hSv21 hov21
          go_wp2_with fail
          exact ⟨rfl, _, rfl, fun d hd => by cases hd; exact h116.out, Ext.refl _⟩
         simp only [Act.put, sbA, szA, ssA]
         clear H
         intro wn HOX hfin hvar
         obtain ⟨g20, hvg, hvb, hvl, H⟩ := hvar
         have HBg20 := kp hvb
         clear hvb hvl
         obtain rfl : v20 = .pointer (some ⟨g20, 0, none⟩) := hvg
         obtain rfl : v108 = .pointer (some ⟨g10, 131, none⟩) := hfin 108 (by decide)
         obtain rfl : v109 = .agg (cat (partsF s2)).toArray := hfin 109 (by decide)
         obtain rfl : v110 = .slice (some ⟨b, 0, none⟩) 1 c := hfin 110 (by decide)
         obtain rfl : v111 = .pointer (some ⟨b, 0, none⟩) := hfin 111 (by decide)
         obtain rfl : v112 = .slice um m.length uc := hfin 112 (by decide)
         obtain rfl : v113 = .int .i64 n := hfin 113 (by decide)
         have F114 := kp (show TupR wr.heap.size (t, [a], 0) v114 wn from hfin 114 (by decide))
         have F107 := kp (show TupR wr.heap.size (t, [a], 0) v107 wn from hfin 107 (by decide))
         obtain rfl : v115 = .agg (cat (partsF t)).toArray := hfin 115 (by decide)
         have F116 := kp (show SlBB wr.heap.size wn v116 [a] from hfin 116 (by decide))
         obtain rfl : v117 = .int .i64 0 := hfin 117 (by decide)
         have F21 := kp (show SlBB wr.heap.size wn v21 [a] from hfin 21 (by decide))
         clear hfin
         simp only [List.drop_succ_cons, List.drop_zero]
         try simp only [applyS] at H
         have HXN := HOX
         go_wp2_with (first | ((with_reducible refine isLd 32 ?_); refine L_fa H rfl 32 _ rfl 0 rfl rfl Try.underlying32 rfl (by kernel_rfl) ?_; simp only [Act.put, sbA, szA, ssA]) | ((with_reducible refine isSt 32 ?_); refine L_sg H rfl rfl 32 _ _ rfl 1 rfl _ rfl _ rfl 16 (partsF t) rfl (by kernel_rfl) (by kernel_rfl) (parts2 (s1, t)) (by kernel_rfl) ?_; clear H; intro wz HWwz H; simp only [ssA, szA] at H) | ((with_reducible refine isLd 32 ?_); refine L_fg H rfl 32 _ rfl 1 rfl _ rfl _ rfl (partsF s1) rfl Try.underlying32 rfl (by kernel_rfl) ?_; simp only [Act.put, sbA, szA, ssA]) | (go_at_call 13; have HL2 := kp (H.out.lt 1 rfl); refine (HT.out _).mono ?_; rintro e wt ⟨v, rfl, hs, hx⟩; have HSA := kp hs; clear hs; have H2 := kp (H.out.ext hx); have HXC := kp hx; clear H hx; have H := H2; clear H2) | ((with_reducible refine isSt 32 ?_); refine L_sg H rfl rfl 32 _ _ rfl 1 rfl _ rfl _ rfl 16 (partsF x) rfl (by kernel_rfl) (by kernel_rfl) (parts2 (x, t)) (by kernel_rfl) ?_; clear H; intro wy HWwy H; simp only [ssA, szA] at H))
         obtain ⟨b2, c2, u2, rfl, HO2⟩ := OneO.of (HSA.out.out HWwy.out.out (by intro x hx; rcases List.mem_singleton.1 hx with rfl; exact HL2.out))
         exact LoopP.of rfl (by kernel_rfl) ⟨i + 1, n + 100000, x, t, m2, b2, c2, u2, by omega, rfl, rfl, rfl, by show Value.int .i64 _ = Value.int .i64 _; go_num, by omega, by omega, HL3, kp HO2, (kp (Loc.tail H.out))⟩ (by simp [intOf]; omega)
       ·obtain ⟨x, m2, e3, hl3⟩ := HT0.out (by omega)
        have HL3 := kp hl3
        have HT := kp (show ∀ W, Calls Try.prog 13 #[.agg (cat (partsF s1)).toArray, .int .i64 (n + 100000)] W (ResR (x, [m2], 0) W) from fun W => by
         have := tick_any s1 (n + 100000) W
         rwa [e3] at this)
        clear e3 hl3
        go_wp2_with (first | ((with_reducible refine isLd 32 ?_); refine L_fg H rfl 32 _ rfl 0 rfl _ rfl _ rfl (partsF s1) rfl Try.underlying32 rfl (by kernel_rfl) ?_; simp only [Act.put, sbA, szA, ssA]) | (go_at_call 13; have HL2 := kp (H.out.lt 0 rfl); refine (HT.out _).mono ?_; rintro e wt ⟨v, rfl, hs, hx⟩; have HSA := kp hs; clear hs; have H2 := kp (H.out.ext hx); have HXC := kp hx; clear H hx; have H := H2; clear H2) | ((with_reducible refine isSt 32 ?_); refine L_sg H rfl rfl 32 _ _ rfl 0 rfl _ rfl _ rfl 16 (partsF x) rfl (by kernel_rfl) (by kernel_rfl) (parts2 (x, s2)) (by kernel_rfl) ?_; clear H; intro wy HWwy H; simp only [szA] at H))
        all_goals try (exfalso; omega)
        obtain ⟨b2, c2, u2, rfl, HO2⟩ := OneO.of (HSA.out.out HWwy.out.out (by intro x hx; rcases List.mem_singleton.1 hx with rfl; exact HL2.out))
        exact LoopP.of rfl (by kernel_rfl) ⟨i + 1, n + 100000, x, s2, m2, b2, c2, u2, by omega, rfl, rfl, rfl, by show Value.int .i64 _ = Value.int .i64 _; go_num, by omega, by omega, HL3, kp HO2, H⟩ (by simp [intOf]; omega)
      ·go_wp2_with fail
       all_goals try (exfalso; omega)
       exact CutP.of rfl (by kernel_rfl) ⟨i, n, s1, s2, m, b, c, .slice um m.length uc, by omega, rfl, rfl, rfl, hn0, by omega, HL, HOK, H⟩
     clear H HO HL
     rintro vs wr ⟨i, n, s1, s2, m, b, c, u, hi, q12, q14, q15, hn0, hn1, HL, HO, H⟩
     simp only [putMany, List.setIfInBounds_toArray, List.set_cons_zero, List.set_cons_succ]
     rw [q12, q14, q15]
     obtain ⟨t, a, r, e1, ha⟩ := lst_a HK.out HM.out HL.out (by omega) (by omega) (by omega)
     have HA := kp ha
     have HT0 := kp (lst_t HK.out HL.out (by omega) (by omega))
     have HLN := kp (lst_len HL.out)
     have HLT := kp (H.out.lt 0 rfl)
     obtain ⟨hb, hc, B0, ho⟩ := HO.out
     obtain ⟨um, uc, rfl⟩ := owns_form ho
     have HCE := kp (show ∀ W, Ext wr W → W.cell? ⟨b, 0, none⟩ = some (.slice um m.length uc) from fun W hx => (hx.cell hb).trans hc)
     have HHA := kp (show ∀ W, Ext wr W → Calls Try.prog 15 #[.agg (cat (partsF s2)).toArray, .slice um m.length uc, .int .i64 n] W (ResR (t, [a], 0) W) from fun W hx => by
      have := handle_own s2 m HLN.out n _ _ W (owns_ext ho hx)
      rwa [e1] at this)
     have HOK := kp (show OneO wr b (.slice um m.length uc) m from ⟨hb, hc, B0, ho⟩)
     clear e1 ha hb hc ho HO
     go_wp2_with fail
     subst h30
     refine region_freeN H (tabS [(141, fun vQ _ => vQ = .pointer (some ⟨g10, 131, none⟩)), (142, fun vQ _ => vQ = .agg (cat (partsF s2)).toArray), (143, fun vQ _ => vQ = .slice (some ⟨b, 0, none⟩) 1 c), (144, fun vQ _ => vQ = .pointer (some ⟨b, 0, none⟩)), (145, fun vQ _ => vQ = .slice um m.length uc), (146, fun vQ _ => vQ = .int .i64 n), (147, fun vQ wQ => TupR wr.heap.size (t, [a], 0) vQ wQ), (140, fun vQ wQ => TupR wr.heap.size (t, [a], 0) vQ wQ), (148, fun vQ _ => vQ = .agg (cat (partsF t)).toArray), (149, fun vQ wQ => SlBB wr.heap.size wQ vQ [a]), (150, fun vQ _ => vQ = .int .i64 0), (24, fun vQ wQ => SlBB wr.heap.size wQ vQ [a])]) 11 12 23 148 32 (cat (partsF fw0)) (cat (partsF t)) 14 (tabS_trn _ _ _ (by simp only [List.forall_mem_cons]; exact ⟨monoN_eq _ _ _, monoN_eq _ _ _, monoN_eq _ _ _, monoN_eq _ _ _, monoN_eq _ _ _, monoN_eq _ _ _, (monoN_TupR _ _ _), (monoN_TupR _ _ _), monoN_eq _ _ _, (monoN_SlBB _ _ _), monoN_eq _ _ _, (monoN_SlBB _ _ _), by simp⟩)) (fun _ _ => trivial) (fun _ _ h => h) (by kernel_rfl) (by kernel_rfl) (by kernel_rfl) (by kernel_rfl) _ _ rfl rfl (by decide) (by decide) (by decide) rfl rfl rfl (fun _ => by kernel_rfl) rfl rfl rfl (by kernel_rfl) (by kernel_rfl) (by kernel_rfl) (sizeFw _) (len_F _ _) (by simpa using cat_one (partsF t)) (by kernel_rfl) ?_
     simp only [List.take_succ_cons, List.take_zero]
     refine ⟨fun _ wv141 hov141 hSv141 => ?_, fun v141 => ?_⟩
     ·clear hSv141
      clear hov141
      go_wp2_with fail
      exact ⟨rfl, _, rfl, fun d hd => by cases hd; exact rfl, Ext.refl _⟩
     simp only [Act.put, sbA, szA, ssA]
     refine ⟨fun _ wv142 hov142 hSv142 => ?_, fun v142 => ?_⟩
     ·obtain rfl : v141 = .pointer (some ⟨g10, 131, none⟩) := hSv142 141 (by decide) (by decide)
      clear hSv142
      have H := kp (H.out.ext hov142)
      have HOX := kp hov142
      clear hov142
      go_wp2_with ((with_reducible refine isLd 32 ?_); refine L_fg H rfl 32 _ rfl 0 rfl _ rfl _ rfl (partsF s2) rfl Try.underlying32 rfl (by kernel_rfl) ?_; simp only [Act.put, sbA, szA, ssA])
      exact ⟨rfl, _, rfl, fun d hd => by cases hd; exact rfl, Ext.refl _⟩
     simp only [Act.put, sbA, szA, ssA]
     refine ⟨fun _ wv143 hov143 hSv143 => ?_, fun v143 => ?_⟩
     ·clear hSv143
      clear hov143
      go_wp2_with fail
      exact ⟨rfl, _, rfl, fun d hd => by cases hd; exact rfl, Ext.refl _⟩
     simp only [Act.put, sbA, szA, ssA]
     refine ⟨fun _ wv144 hov144 hSv144 => ?_, fun v144 => ?_⟩
     ·obtain rfl : v143 = .slice (some ⟨b, 0, none⟩) 1 c := hSv144 143 (by decide) (by decide)
      clear hSv144 hov144
      go_wp2_with fail
      exact ⟨rfl, _, rfl, fun d hd => by cases hd; exact rfl, Ext.refl _⟩
     simp only [Act.put, sbA, szA, ssA]
     refine ⟨fun _ wv145 hov145 hSv145 => ?_, fun v145 => ?_⟩
     ·obtain rfl : v144 = .pointer (some ⟨b, 0, none⟩) := hSv145 144 (by decide) (by decide)
      clear hSv145
      have H := kp (H.out.ext hov145)
      have HOX := kp hov145
      clear hov145
      have hc := HCE.out _ HOX.out
      go_wp2_with fail
      exact ⟨rfl, _, rfl, fun d hd => by cases hd; exact rfl, Ext.refl _⟩
     simp only [Act.put, sbA, szA, ssA]
     refine ⟨fun _ wv146 hov146 hSv146 => ?_, fun v146 => ?_⟩
     ·clear hSv146
      clear hov146
      go_wp2_with fail
      exact ⟨rfl, _, rfl, fun d hd => by cases hd; exact rfl, Ext.refl _⟩
     simp only [Act.put, sbA, szA, ssA]
     refine ⟨fun _ wv147 hov147 hSv147 => ?_, fun v147 => ?_⟩
     ·obtain rfl : v142 = .agg (cat (partsF s2)).toArray := hSv147 142 (by decide) (by decide)
      obtain rfl : v145 = .slice um m.length uc := hSv147 145 (by decide) (by decide)
      obtain rfl : v146 = .int .i64 n := hSv147 146 (by decide) (by decide)
      clear hSv147
      have H := kp (H.out.ext hov147)
      have HOX := kp hov147
      clear hov147
      go_wp2_with fail
      refine (HHA.out _ HOX.out).mono ?_
      rintro e w2 ⟨u, rfl, hs, hx⟩
      have HSL := kp (hs.weak HOX.out.size)
      have HXC := kp hx
      clear hs hx
      go_wp2_with fail
      exact ⟨rfl, _, rfl, fun d hd => by cases hd; exact ⟨_, rfl, HSL.out⟩, HXC.out⟩
     simp only [Act.put, sbA, szA, ssA]
     refine ⟨fun _ wv140 hov140 hSv140 => ?_, fun v140 => ?_⟩
     ·have h147 := kp (show TupR wr.heap.size (t, [a], 0) v147 wv140 from hSv140 147 (by decide) (by decide))
      clear hSv140 hov140
      go_wp2_with fail
      exact ⟨rfl, _, rfl, fun d hd => by cases hd; exact h147.out, Ext.refl _⟩
     simp only [Act.put, sbA, szA, ssA]
     refine ⟨fun _ wv148 hov148 hSv148 => ?_, fun v148 => ?_⟩
     ·have h140 := kp (show TupR wr.heap.size (t, [a], 0) v140 wv148 from hSv148 140 (by decide) (by decide))
      clear hSv148
      have H := kp (H.out.ext hov148)
      have HOX := kp hov148
      clear hov148
      obtain ⟨u, rfl, hs⟩ := h140.out
      clear hs
      go_wp2_with fail
      exact ⟨rfl, _, rfl, fun d hd => by cases hd; exact rfl, Ext.refl _⟩
     simp only [Act.put, sbA, szA, ssA]
     refine ⟨fun _ wv149 hov149 hSv149 => ?_, fun v149 => ?_⟩
     ·have h140 := kp (show TupR wr.heap.size (t, [a], 0) v140 wv149 from hSv149 140 (by decide) (by decide))
      clear hSv149
      have H := kp (H.out.ext hov149)
      have HOX := kp hov149
      clear hov149
      obtain ⟨u, rfl, hs⟩ := h140.out
      have HSL := kp hs
      clear hs
      go_wp2_with fail
      exact ⟨rfl, _, rfl, fun d hd => by cases hd; exact HSL.out, Ext.refl _⟩
     simp only [Act.put, sbA, szA, ssA]
     refine ⟨fun _ wv150 hov150 hSv150 => ?_, fun v150 => ?_⟩
     ·have h140 := kp (show TupR wr.heap.size (t, [a], 0) v140 wv150 from hSv150 140 (by decide) (by decide))
      clear hSv150
      have H := kp (H.out.ext hov150)
      have HOX := kp hov150
      clear hov150
      obtain ⟨u, rfl, hs⟩ := h140.out
      clear hs
      go_wp2_with fail
      exact ⟨rfl, _, rfl, fun d hd => by cases hd; exact rfl, Ext.refl _⟩
     simp only [Act.put, sbA, szA, ssA]
     refine ⟨(fun h => by cases h), fun v23 => ?_⟩
     simp only [Act.put, sbA, szA, ssA]
     refine ⟨(fun h => by cases h), fun _ => ?_⟩
     refine ⟨fun _ wv24 hov24 hSv24 => ?_, fun v24 => ?_⟩
     ·have h149 := kp (show SlBB wr.heap.size wv24 v149 [a] from hSv24 149 (by decide) (by decide))
      clear hSv24 hov24
      go_wp2_with fail
      exact ⟨rfl, _, rfl, fun d hd => by cases hd; exact h149.out, Ext.refl _⟩
     simp only [Act.put, sbA, szA, ssA]
     clear H
     intro wn HOX hfin hvar
     obtain ⟨g20, hvg, hvb, hvl, H⟩ := hvar
     have HBg20 := kp hvb
     clear hvb hvl
     obtain rfl : v23 = .pointer (some ⟨g20, 0, none⟩) := hvg
     obtain rfl : v141 = .pointer (some ⟨g10, 131, none⟩) := hfin 141 (by decide)
     obtain rfl : v142 = .agg (cat (partsF s2)).toArray := hfin 142 (by decide)
     obtain rfl : v143 = .slice (some ⟨b, 0, none⟩) 1 c := hfin 143 (by decide)
     obtain rfl : v144 = .pointer (some ⟨b, 0, none⟩) := hfin 144 (by decide)
     obtain rfl : v145 = .slice um m.length uc := hfin 145 (by decide)
     obtain rfl : v146 = .int .i64 n := hfin 146 (by decide)
     have F147 := kp (show TupR wr.heap.size (t, [a], 0) v147 wn from hfin 147 (by decide))
     have F140 := kp (show TupR wr.heap.size (t, [a], 0) v140 wn from hfin 140 (by decide))
     obtain rfl : v148 = .agg (cat (partsF t)).toArray := hfin 148 (by decide)
     have F149 := kp (show SlBB wr.heap.size wn v149 [a] from hfin 149 (by decide))
     obtain rfl : v150 = .int .i64 0 := hfin 150 (by decide)
     have F24 := kp (show SlBB wr.heap.size wn v24 [a] from hfin 24 (by decide))
     clear hfin
     simp only [List.drop_succ_cons, List.drop_zero]
     try simp only [applyS] at H
     have HXN := HOX
     obtain ⟨av, ac, rfl⟩ := F24.out.form
     go_wp2_with (first | ((with_reducible refine isLd 32 ?_); refine L_fa H rfl 32 _ rfl 0 rfl rfl Try.underlying32 rfl (by kernel_rfl) ?_; simp only [Act.put, sbA, szA, ssA]) | ((with_reducible refine isSt 32 ?_); refine L_sg H rfl rfl 32 _ _ rfl 1 rfl _ rfl _ rfl 16 (partsF t) rfl (by kernel_rfl) (by kernel_rfl) (parts2 (s1, t)) (by kernel_rfl) ?_; clear H; intro wz HWwz H; simp only [ssA, szA] at H))
     obtain ⟨ab, ac2, au, hav, hc, ho⟩ := (F24.out.out HWwz.out.out (by intro x hx; rcases List.mem_singleton.1 hx with rfl; exact HLT.out)).first
     cases hav
     have hbk := Nat.lt_of_lt_of_le (slbb_ge F24.out).2 (Nat.le_of_eq HWwz.out.size.symm)
     obtain ⟨um2, uc2, rfl⟩ := owns_form ho
     have HL2 := kp (H.out.lt 1 rfl)
     have HNE := kp (show ab ∉ [g10] from fun hm => by have := List.mem_singleton.1 hm; have := HLT.out; have := (slbb_ge F24.out).1; omega)
     have HCE2 := kp (show ∀ W, Out [g10] wz W → W.cell? ⟨ab, 0, none⟩ = some (.slice um2 a.length uc2) from fun W ho => (ho.cell hbk HNE.out).trans hc)
     have HHA2 := kp (show ∀ W, Out [g10] wz W → Calls Try.prog 15 #[.agg (cat (partsF s1)).toArray, .slice um2 a.length uc2, .int .i64 n] W (ResR r W) from fun W hx => by
      have := handle_own s1 a HA.out.len n _ _ W (owns_out ho hx (by intro x hx; rcases List.mem_singleton.1 hx with rfl; exact HLT.out))
      rwa [HA.out.ans] at this)
     clear hc ho hbk
     subst h34
     refine region_freeC H (tabS [(161, fun vQ _ => vQ = .pointer (some ⟨g10, 0, none⟩)), (162, fun vQ _ => vQ = .agg (cat (partsF s1)).toArray), (163, fun vQ _ => vQ = .slice (some ⟨ab, 0, none⟩) 1 ac), (164, fun vQ _ => vQ = .pointer (some ⟨ab, 0, none⟩)), (165, fun vQ _ => vQ = .slice um2 a.length uc2), (166, fun vQ _ => vQ = .int .i64 n), (167, fun vQ wQ => TupR wz.heap.size r vQ wQ), (160, fun vQ wQ => TupR wz.heap.size r vQ wQ), (168, fun vQ _ => vQ = .agg (cat (partsF r.1)).toArray), (169, fun vQ wQ => SlBB wz.heap.size wQ vQ r.2.1), (170, fun vQ _ => vQ = .int .i64 r.2.2), (171, fun vQ _ => vQ = .pointer (some ⟨g10, 0, none⟩)), (14, fun vQ wQ => SlBB wz.heap.size wQ vQ r.2.1)]) [⟨12, 1, g10, 55, cat (parts2 (s1, t)), cat (parts2 (r.1, t))⟩] 1 g10 55 (cat (parts2 (s1, t))) (tabS_out _ _ (by simp only [List.forall_mem_cons]; exact ⟨mono_eqO _ _, mono_eqO _ _, mono_eqO _ _, mono_eqO _ _, mono_eqO _ _, mono_eqO _ _, (monoO_TupR _ (by intro x hx; rcases List.mem_singleton.1 hx with rfl; exact HL2.out)), (monoO_TupR _ (by intro x hx; rcases List.mem_singleton.1 hx with rfl; exact HL2.out)), mono_eqO _ _, (mono_SlBB _ (by intro x hx; rcases List.mem_singleton.1 hx with rfl; exact HL2.out)), mono_eqO _ _, mono_eqO _ _, (mono_SlBB _ (by intro x hx; rcases List.mem_singleton.1 hx with rfl; exact HL2.out)), by simp⟩)) 14 (by kernel_rfl) (by kernel_rfl) (by kernel_rfl) (by kernel_rfl) [12] rfl (by decide) (by decide) (by kernel_rfl) rfl ⟨⟨rfl, rfl, rfl, rfl⟩, trivial⟩ [1] (by kernel_rfl) ?_
     simp only [List.take_succ_cons, List.take_zero]
     refine ⟨fun wv161 hov161 hSv161 hAv161 => ?_, fun v161 => ?_⟩
     ·clear hSv161
      clear hAv161
      clear hov161
      go_wp2_with fail
      exact ⟨rfl, _, rfl, fun d hd => by cases hd; exact rfl, Ext.refl _⟩
     simp only [Act.put, sbA, szA, ssA]
     refine ⟨fun wv162 hov162 hSv162 hAv162 => ?_, fun v162 => ?_⟩
     ·obtain rfl : v161 = .pointer (some ⟨g10, 0, none⟩) := hSv162 161 (by decide) (by decide)
      clear hSv162
      have H := kp (H.out.sameC (p := 1) (g := g10) rfl hov162 (hAv162 rfl))
      clear hAv162
      have HOX := kp hov162
      clear hov162
      go_wp2_with ((with_reducible refine isLd 32 ?_); refine L_fg H rfl 32 _ rfl 1 rfl _ rfl _ rfl (partsF s1) rfl Try.underlying32 rfl (by kernel_rfl) ?_; simp only [Act.put, sbA, szA, ssA])
      exact ⟨rfl, _, rfl, fun d hd => by cases hd; exact rfl, Ext.refl _⟩
     simp only [Act.put, sbA, szA, ssA]
     refine ⟨fun wv163 hov163 hSv163 hAv163 => ?_, fun v163 => ?_⟩
     ·clear hSv163
      clear hAv163
      clear hov163
      go_wp2_with fail
      exact ⟨rfl, _, rfl, fun d hd => by cases hd; exact rfl, Ext.refl _⟩
     simp only [Act.put, sbA, szA, ssA]
     refine ⟨fun wv164 hov164 hSv164 hAv164 => ?_, fun v164 => ?_⟩
     ·obtain rfl : v163 = .slice (some ⟨ab, 0, none⟩) 1 ac := hSv164 163 (by decide) (by decide)
      clear hSv164
      clear hAv164
      clear hov164
      go_wp2_with fail
      exact ⟨rfl, _, rfl, fun d hd => by cases hd; exact rfl, Ext.refl _⟩
     simp only [Act.put, sbA, szA, ssA]
     refine ⟨fun wv165 hov165 hSv165 hAv165 => ?_, fun v165 => ?_⟩
     ·obtain rfl : v164 = .pointer (some ⟨ab, 0, none⟩) := hSv165 164 (by decide) (by decide)
      clear hSv165
      clear hAv165
      have H := kp (H.out.keepC [0, 2] (p := 1) (g := g10) rfl hov165 (by decide) (by kernel_rfl))
      have HOX := kp hov165
      clear hov165
      have hc := HCE2.out _ HOX.out
      go_wp2_with fail
      exact ⟨rfl, _, rfl, fun d hd => by cases hd; exact rfl, Ext.refl _⟩
     simp only [Act.put, sbA, szA, ssA]
     refine ⟨fun wv166 hov166 hSv166 hAv166 => ?_, fun v166 => ?_⟩
     ·clear hSv166
      clear hAv166
      clear hov166
      go_wp2_with fail
      exact ⟨rfl, _, rfl, fun d hd => by cases hd; exact rfl, Ext.refl _⟩
     simp only [Act.put, sbA, szA, ssA]
     refine ⟨fun wv167 hov167 hSv167 hAv167 => ?_, fun v167 => ?_⟩
     ·obtain rfl : v162 = .agg (cat (partsF s1)).toArray := hSv167 162 (by decide) (by decide)
      obtain rfl : v165 = .slice um2 a.length uc2 := hSv167 165 (by decide) (by decide)
      obtain rfl : v166 = .int .i64 n := hSv167 166 (by decide) (by decide)
      clear hSv167
      clear hAv167
      have H := kp (H.out.keepC [0, 2] (p := 1) (g := g10) rfl hov167 (by decide) (by kernel_rfl))
      have HOX := kp hov167
      clear hov167
      go_wp2_with fail
      refine (HHA2.out _ HOX.out).mono ?_
      rintro e w2 ⟨u, rfl, hs, hx⟩
      have HSL := kp (hs.weak HOX.out.size)
      have HXC := kp hx
      clear hs hx
      go_wp2_with fail
      exact ⟨rfl, _, rfl, fun d hd => by cases hd; exact ⟨_, rfl, HSL.out⟩, HXC.out⟩
     simp only [Act.put, sbA, szA, ssA]
     refine ⟨fun wv160 hov160 hSv160 hAv160 => ?_, fun v160 => ?_⟩
     ·have h167 := kp (show TupR wz.heap.size r v167 wv160 from hSv160 167 (by decide) (by decide))
      clear hSv160
      clear hAv160
      clear hov160
      go_wp2_with fail
      exact ⟨rfl, _, rfl, fun d hd => by cases hd; exact h167.out, Ext.refl _⟩
     simp only [Act.put, sbA, szA, ssA]
     refine ⟨fun wv168 hov168 hSv168 hAv168 => ?_, fun v168 => ?_⟩
     ·have h160 := kp (show TupR wz.heap.size r v160 wv168 from hSv168 160 (by decide) (by decide))
      clear hSv168
      clear hAv168
      have H := kp (H.out.keepC [0, 2] (p := 1) (g := g10) rfl hov168 (by decide) (by kernel_rfl))
      have HOX := kp hov168
      clear hov168
      obtain ⟨u, rfl, hs⟩ := h160.out
      clear hs
      go_wp2_with fail
      exact ⟨rfl, _, rfl, fun d hd => by cases hd; exact rfl, Ext.refl _⟩
     simp only [Act.put, sbA, szA, ssA]
     refine ⟨fun wv169 hov169 hSv169 hAv169 => ?_, fun v169 => ?_⟩
     ·have h160 := kp (show TupR wz.heap.size r v160 wv169 from hSv169 160 (by decide) (by decide))
      clear hSv169
      clear hAv169
      have H := kp (H.out.keepC [0, 2] (p := 1) (g := g10) rfl hov169 (by decide) (by kernel_rfl))
      have HOX := kp hov169
      clear hov169
      obtain ⟨u, rfl, hs⟩ := h160.out
      have HSL := kp hs
      clear hs
      go_wp2_with fail
      exact ⟨rfl, _, rfl, fun d hd => by cases hd; exact HSL.out, Ext.refl _⟩
     simp only [Act.put, sbA, szA, ssA]
     refine ⟨fun wv170 hov170 hSv170 hAv170 => ?_, fun v170 => ?_⟩
     ·have h160 := kp (show TupR wz.heap.size r v160 wv170 from hSv170 160 (by decide) (by decide))
      clear hSv170
      clear hAv170
      have H := kp (H.out.keepC [0, 2] (p := 1) (g := g10) rfl hov170 (by decide) (by kernel_rfl))
      have HOX := kp hov170
      clear hov170
      obtain ⟨u, rfl, hs⟩ := h160.out
      clear hs
      go_wp2_with fail
      exact ⟨rfl, _, rfl, fun d hd => by cases hd; exact rfl, Ext.refl _⟩
     simp only [Act.put, sbA, szA, ssA]
     refine ⟨fun wv171 hov171 hSv171 hAv171 => ?_, fun v171 => ?_⟩
     ·clear hSv171
      clear hAv171
      clear hov171
      go_wp2_with fail
      exact ⟨rfl, _, rfl, fun d hd => by cases hd; exact rfl, Ext.refl _⟩
     simp only [Act.put, sbA, szA, ssA]
     refine ⟨⟨rfl, rfl, fun ws12 hos12 hSs12 hLs12 => ?_⟩, ?_⟩
     ·obtain rfl : v171 = .pointer (some ⟨g10, 0, none⟩) := hSs12 171 (by decide) (by decide)
      obtain rfl : v168 = .agg (cat (partsF r.1)).toArray := hSs12 168 (by decide) (by decide)
      exact run_stp 32 _ _ rfl _ rfl _ rfl 16 (partsF r.1) _ rfl (by kernel_rfl) rfl (by kernel_rfl) hLs12 rfl
     refine ⟨fun wv14 hov14 hSv14 hAv14 => ?_, fun v14 => ?_⟩
     ·have h169 := kp (show SlBB wz.heap.size wv14 v169 r.2.1 from hSv14 169 (by decide) (by decide))
      clear hSv14
      clear hAv14
      clear hov14
      go_wp2_with fail
      exact ⟨rfl, _, rfl, fun d hd => by cases hd; exact h169.out, Ext.refl _⟩
     simp only [Act.put, sbA, szA, ssA]
     clear H
     intro wq HOX H hfin
     obtain rfl : v161 = .pointer (some ⟨g10, 0, none⟩) := hfin 161 (by decide)
     obtain rfl : v162 = .agg (cat (partsF s1)).toArray := hfin 162 (by decide)
     obtain rfl : v163 = .slice (some ⟨ab, 0, none⟩) 1 ac := hfin 163 (by decide)
     obtain rfl : v164 = .pointer (some ⟨ab, 0, none⟩) := hfin 164 (by decide)
     obtain rfl : v165 = .slice um2 a.length uc2 := hfin 165 (by decide)
     obtain rfl : v166 = .int .i64 n := hfin 166 (by decide)
     have F167 := kp (show TupR wz.heap.size r v167 wq from hfin 167 (by decide))
     have F160 := kp (show TupR wz.heap.size r v160 wq from hfin 160 (by decide))
     obtain rfl : v168 = .agg (cat (partsF r.1)).toArray := hfin 168 (by decide)
     have F169 := kp (show SlBB wz.heap.size wq v169 r.2.1 from hfin 169 (by decide))
     obtain rfl : v170 = .int .i64 r.2.2 := hfin 170 (by decide)
     obtain rfl : v171 = .pointer (some ⟨g10, 0, none⟩) := hfin 171 (by decide)
     have F14 := kp (show SlBB wz.heap.size wq v14 r.2.1 from hfin 14 (by decide))
     clear hfin
     simp only [List.drop_succ_cons, List.drop_zero]
     simp only [curEnd] at H
     go_wp2_with fail
     obtain ⟨m', em, hl⟩ := HA.out.zero rfl
     have hsl := F14.out
     rw [em] at hsl
     obtain ⟨b3, c3, u3, rfl, ho3⟩ := OneO.of hsl
     exact LoopP.of rfl (by kernel_rfl) ⟨1, n, r.1, t, by decide, rfl, congrArg (Value.int .i64) HA.out.ok, rfl, by omega, by omega, .inl ⟨by decide, m', b3, c3, u3, rfl, kp hl, kp ho3⟩, kp (Loc.tail H.out)⟩ (by simp [intOf])
    ·generalize h15 : ((Code.region 15 _ _ : Code).seq _) = C15
     generalize h30 : (Code.region 30 _ _ : Code) = R30
     generalize h34 : (Code.region 34 _ _ : Code) = R34
     go_wp2_with fail
     subst h15
     refine wp_cut (12 :: 14 :: 15 :: 18 :: 19 :: 20 :: 21 :: 22 :: 81 :: 82 :: 83 :: 84 :: 85 :: 86 :: 87 :: 88 :: 89 :: 90 :: 91 :: 92 :: 93 :: 94 :: 95 :: 96 :: 97 :: 98 :: 99 :: 100 :: 101 :: 102 :: 103 :: 104 :: 105 :: 106 :: 107 :: 108 :: 109 :: 110 :: 111 :: 112 :: 113 :: 114 :: 115 :: 116 :: 117 :: 118 :: 119 :: 120 :: 121 :: 122 :: 123 :: 124 :: 125 :: 126 :: 127 :: 128 :: 129 :: 130 :: 131 :: 132 :: []) (LosC p 1 w g10 g4) ?_ ?_
     ·go_wp2_with fail
      refine wp_loopC (12 :: 14 :: 15 :: 18 :: 19 :: 20 :: 21 :: 22 :: 81 :: 82 :: 83 :: 84 :: 85 :: 86 :: 87 :: 88 :: 89 :: 90 :: 91 :: 92 :: 93 :: 94 :: 95 :: 96 :: 97 :: 98 :: 99 :: 100 :: 101 :: 102 :: 103 :: 104 :: 105 :: 106 :: 107 :: 108 :: 109 :: 110 :: 111 :: 112 :: 113 :: 114 :: 115 :: 116 :: 117 :: 118 :: 119 :: 120 :: 121 :: 122 :: 123 :: 124 :: 125 :: 126 :: 127 :: 128 :: 129 :: 130 :: 131 :: 132 :: []) (LosI p 1 b0 w g10 g4) (fun vs _ => b0.toNat - (intOf (vs 18)).toNat) (by kernel_rfl) ⟨0, n, s1, s2, m, b, c, u, by omega, rfl, rfl, rfl, rfl, by omega, by omega, HL, HO, H⟩ ?_
      clear H HO HL
      rintro vs wr ⟨i, n, s1, s2, m, b, c, u, hi, q12, q14, q15, q18, hn0, hn1, HL, HO, H⟩
      simp only [putMany, List.setIfInBounds_toArray, List.set_cons_zero, List.set_cons_succ]
      rw [q12, q14, q15, q18]
      obtain ⟨t, a, r, e1, ha⟩ := lst_a HK.out HM.out HL.out (by omega) (by omega) (by omega)
      have HA := kp ha
      have HT0 := kp (lst_t HK.out HL.out (by omega) (by omega))
      have HLN := kp (lst_len HL.out)
      have HLT := kp (H.out.lt 0 rfl)
      obtain ⟨hb, hc, B0, ho⟩ := HO.out
      obtain ⟨um, uc, rfl⟩ := owns_form ho
      have HCE := kp (show ∀ W, Ext wr W → W.cell? ⟨b, 0, none⟩ = some (.slice um m.length uc) from fun W hx => (hx.cell hb).trans hc)
      have HHA := kp (show ∀ W, Ext wr W → Calls Try.prog 15 #[.agg (cat (partsF s2)).toArray, .slice um m.length uc, .int .i64 n] W (ResR (t, [a], 0) W) from fun W hx => by
       have := handle_own s2 m HLN.out n _ _ W (owns_ext ho hx)
       rwa [e1] at this)
      have HOK := kp (show OneO wr b (.slice um m.length uc) m from ⟨hb, hc, B0, ho⟩)
      clear e1 ha hb hc ho HO
      by_cases hlt : (i : Int) < b0
      ·generalize h22 : (Code.region 22 _ _ : Code) = R22
       by_cases hk : (3 + i) < l.length
       ·obtain ⟨y, hy⟩ : ∃ y, l[(3 + i)]? = some y := ⟨_, List.getElem?_eq_getElem hk⟩
        obtain ⟨b1, off, c1, hv1, hb1, hc1⟩ := (HV.out.ext H.out.1).at1 (f := fun x => .bool x) hy
        cases hv1
        clear hy hb1
        cases y with
        | false =>
         obtain ⟨x, m2, e3, hl3⟩ := HT0.out (by omega)
         have HL3 := kp hl3
         have HT := kp (show ∀ W, Calls Try.prog 13 #[.agg (cat (partsF s1)).toArray, .int .i64 (n + 100000)] W (ResR (x, [m2], 0) W) from fun W => by
          have := tick_any s1 (n + 100000) W
          rwa [e3] at this)
         clear e3 hl3
         go_wp2_with (first | ((with_reducible refine isLd 32 ?_); refine L_fg H rfl 32 _ rfl 0 rfl _ rfl _ rfl (partsF s1) rfl Try.underlying32 rfl (by kernel_rfl) ?_; simp only [Act.put, sbA, szA, ssA]) | (go_at_call 13; have HL2 := kp (H.out.lt 0 rfl); refine (HT.out _).mono ?_; rintro e wt ⟨v, rfl, hs, hx⟩; have HSA := kp hs; clear hs; have H2 := kp (H.out.ext hx); have HXC := kp hx; clear H hx; have H := H2; clear H2) | ((with_reducible refine isSt 32 ?_); refine L_sg H rfl rfl 32 _ _ rfl 0 rfl _ rfl _ rfl 16 (partsF x) rfl (by kernel_rfl) (by kernel_rfl) (parts2 (x, s2)) (by kernel_rfl) ?_; clear H; intro wy HWwy H; simp only [szA] at H))
         all_goals try (exfalso; omega)
         obtain ⟨b2, c2, u2, rfl, HO2⟩ := OneO.of (HSA.out.out HWwy.out.out (by intro x hx; rcases List.mem_singleton.1 hx with rfl; exact HL2.out))
         exact LoopP.of rfl (by kernel_rfl) ⟨i + 1, n + 100000, x, s2, m2, b2, c2, u2, by omega, rfl, rfl, rfl, by show Value.int .i64 _ = Value.int .i64 _; go_num, by omega, by omega, HL3, kp HO2, H⟩ (by simp [intOf]; omega)
        | true =>
         obtain ⟨x, m2, e3, hl3⟩ := HA.out.tick (by omega)
         have HL3 := kp hl3
         have HT := kp (show ∀ W, Calls Try.prog 13 #[.agg (cat (partsF s1)).toArray, .int .i64 (n + 100000)] W (ResR (x, [m2], 0) W) from fun W => by
          have := tick_any s1 (n + 100000) W
          rwa [e3] at this)
         clear e3 hl3
         go_wp2_with fail
         all_goals try (exfalso; omega)
         subst h22
         refine region_freeN H (tabS [(108, fun vQ _ => vQ = .pointer (some ⟨g10, 131, none⟩)), (109, fun vQ _ => vQ = .agg (cat (partsF s2)).toArray), (110, fun vQ _ => vQ = .slice (some ⟨b, 0, none⟩) 1 c), (111, fun vQ _ => vQ = .pointer (some ⟨b, 0, none⟩)), (112, fun vQ _ => vQ = .slice um m.length uc), (113, fun vQ _ => vQ = .int .i64 n), (114, fun vQ wQ => TupR wr.heap.size (t, [a], 0) vQ wQ), (107, fun vQ wQ => TupR wr.heap.size (t, [a], 0) vQ wQ), (115, fun vQ _ => vQ = .agg (cat (partsF t)).toArray), (116, fun vQ wQ => SlBB wr.heap.size wQ vQ [a]), (117, fun vQ _ => vQ = .int .i64 0), (21, fun vQ wQ => SlBB wr.heap.size wQ vQ [a])]) 11 12 20 115 32 (cat (partsF fw0)) (cat (partsF t)) 14 (tabS_trn _ _ _ (by simp only [List.forall_mem_cons]; exact ⟨monoN_eq _ _ _, monoN_eq _ _ _, monoN_eq _ _ _, monoN_eq _ _ _, monoN_eq _ _ _, monoN_eq _ _ _, (monoN_TupR _ _ _), (monoN_TupR _ _ _), monoN_eq _ _ _, (monoN_SlBB _ _ _), monoN_eq _ _ _, (monoN_SlBB _ _ _), by simp⟩)) (fun _ _ => trivial) (fun _ _ h => h) (by kernel_rfl) (by kernel_rfl) (by kernel_rfl) (by kernel_rfl) _ _ rfl rfl (by decide) (by decide) (by decide) rfl rfl rfl (fun _ => by kernel_rfl) rfl rfl rfl (by kernel_rfl) (by kernel_rfl) (by kernel_rfl) (sizeFw _) (len_F _ _) (by simpa using cat_one (partsF t)) (by kernel_rfl) ?_
         simp only [List.take_succ_cons, List.take_zero]
         refine ⟨fun _ wv108 hov108 hSv108 => ?_, fun v108 => ?_⟩
         ·clear hSv108
          clear hov108
          go_wp2_with fail
          exact ⟨rfl, _, rfl, fun d hd => by cases hd; exact rfl, Ext.refl _⟩
         simp only [Act.put, sbA, szA, ssA]
         refine ⟨fun _ wv109 hov109 hSv109 => ?_, fun v109 => ?_⟩
         ·obtain rfl : v108 = .pointer (some ⟨g10, 131, none⟩) := hSv109 108 (by decide) (by decide)
          clear hSv109
          have H := kp (H.out.ext hov109)
          have HOX := kp hov109
          clear hov109
          go_wp2_with ((with_reducible refine isLd 32 ?_); refine L_fg H rfl 32 _ rfl 0 rfl _ rfl _ rfl (partsF s2) rfl Try.underlying32 rfl (by kernel_rfl) ?_; simp only [Act.put, sbA, szA, ssA])
          exact ⟨rfl, _, rfl, fun d hd => by cases hd; exact rfl, Ext.refl _⟩
         simp only [Act.put, sbA, szA, ssA]
         refine ⟨fun _ wv110 hov110 hSv110 => ?_, fun v110 => ?_⟩
         ·clear hSv110
          clear hov110
          go_wp2_with fail
          exact ⟨rfl, _, rfl, fun d hd => by cases hd; exact rfl, Ext.refl _⟩
         simp only [Act.put, sbA, szA, ssA]
         refine ⟨fun _ wv111 hov111 hSv111 => ?_, fun v111 => ?_⟩
         ·obtain rfl : v110 = .slice (some ⟨b, 0, none⟩) 1 c := hSv111 110 (by decide) (by decide)
          clear hSv111 hov111
          go_wp2_with fail
          exact ⟨rfl, _, rfl, fun d hd => by cases hd; exact rfl, Ext.refl _⟩
         simp only [Act.put, sbA, szA, ssA]
         refine ⟨fun _ wv112 hov112 hSv112 => ?_, fun v112 => ?_⟩
         ·obtain rfl : v111 = .pointer (some ⟨b, 0, none⟩) := hSv112 111 (by decide) (by decide)
          clear hSv112
          have H := kp (H.out.ext hov112)
          have HOX := kp hov112
          clear hov112
          have hc := HCE.out _ HOX.out
          go_wp2_with fail
          exact ⟨rfl, _, rfl, fun d hd => by cases hd; exact rfl, Ext.refl _⟩
         simp only [Act.put, sbA, szA, ssA]
         refine ⟨fun _ wv113 hov113 hSv113 => ?_, fun v113 => ?_⟩
         ·clear hSv113
          clear hov113
          go_wp2_with fail
          exact ⟨rfl, _, rfl, fun d hd => by cases hd; exact rfl, Ext.refl _⟩
         simp only [Act.put, sbA, szA, ssA]
         refine ⟨fun _ wv114 hov114 hSv114 => ?_, fun v114 => ?_⟩
         ·obtain rfl : v109 = .agg (cat (partsF s2)).toArray := hSv114 109 (by decide) (by decide)
          obtain rfl : v112 = .slice um m.length uc := hSv114 112 (by decide) (by decide)
          obtain rfl : v113 = .int .i64 n := hSv114 113 (by decide) (by decide)
          clear hSv114
          have H := kp (H.out.ext hov114)
          have HOX := kp hov114
          clear hov114
          go_wp2_with fail
          refine (HHA.out _ HOX.out).mono ?_
          rintro e w2 ⟨u, rfl, hs, hx⟩
          have HSL := kp (hs.weak HOX.out.size)
          have HXC := kp hx
          clear hs hx
          go_wp2_with fail
          exact ⟨rfl, _, rfl, fun d hd => by cases hd; exact ⟨_, rfl, HSL.out⟩, HXC.out⟩
         simp only [Act.put, sbA, szA, ssA]
         refine ⟨fun _ wv107 hov107 hSv107 => ?_, fun v107 => ?_⟩
         ·have h114 := kp (show TupR wr.heap.size (t, [a], 0) v114 wv107 from hSv107 114 (by decide) (by decide))
          clear hSv107 hov107
          go_wp2_with fail
          exact ⟨rfl, _, rfl, fun d hd => by cases hd; exact h114.out, Ext.refl _⟩
         simp only [Act.put, sbA, szA, ssA]
         refine ⟨fun _ wv115 hov115 hSv115 => ?_, fun v115 => ?_⟩
         ·have h107 := kp (show TupR wr.heap.size (t, [a], 0) v107 wv115 from hSv115 107 (by decide) (by decide))
          clear hSv115
          have H := kp (H.out.ext hov115)
          have HOX := kp hov115
          clear hov115
          obtain ⟨u, rfl, hs⟩ := h107.out
          clear hs
          go_wp2_with fail
          exact ⟨rfl, _, rfl, fun d hd => by cases hd; exact rfl, Ext.refl _⟩
         simp only [Act.put, sbA, szA, ssA]
         refine ⟨fun _ wv116 hov116 hSv116 => ?_, fun v116 => ?_⟩
         ·have h107 := kp (show TupR wr.heap.size (t, [a], 0) v107 wv116 from hSv116 107 (by decide) (by decide))
          clear hSv116
          have H := kp (H.out.ext hov116)
          have HOX := kp hov116
          clear hov116
          obtain ⟨u, rfl, hs⟩ := h107.out
          have HSL := kp hs
          clear hs
          go_wp2_with fail
          exact ⟨rfl, _, rfl, fun d hd => by cases hd; exact HSL.out, Ext.refl _⟩
         simp only [Act.put, sbA, szA, ssA]
         refine ⟨fun _ wv117 hov117 hSv117 => ?_, fun v117 => ?_⟩
         ·have h107 := kp (show TupR wr.heap.size (t, [a], 0) v107 wv117 from hSv117 107 (by decide) (by decide))
          clear hSv117
          have H := kp (H.out.ext hov117)
          have HOX := kp hov117
          clear hov117
          obtain ⟨u, rfl, hs⟩ := h107.out
          clear hs
          go_wp2_with fail
          exact ⟨rfl, _, rfl, fun d hd => by cases hd; exact rfl, Ext.refl _⟩
         simp only [Act.put, sbA, szA, ssA]
         refine ⟨(fun h => by cases h), fun v20 => ?_⟩
         simp only [Act.put, sbA, szA, ssA]
         refine ⟨(fun h => by cases h), fun _ => ?_⟩
         refine ⟨fun _ wv21 hov21 hSv21 => ?_, fun v21 => ?_⟩
         ·have h116 := kp (show SlBB wr.heap.size wv21 v116 [a] from hSv21 116 (by decide) (by decide))
          clear hSv21 hov21
          go_wp2_with fail
          exact ⟨rfl, _, rfl, fun d hd => by cases hd; exact h116.out, Ext.refl _⟩
         simp only [Act.put, sbA, szA, ssA]
         clear H
         intro wn HOX hfin hvar
         obtain ⟨g20, hvg, hvb, hvl, H⟩ := hvar
         have HBg20 := kp hvb
         clear hvb hvl
         obtain rfl : v20 = .pointer (some ⟨g20, 0, none⟩) := hvg
         obtain rfl : v108 = .pointer (some ⟨g10, 131, none⟩) := hfin 108 (by decide)
         obtain rfl : v109 = .agg (cat (partsF s2)).toArray := hfin 109 (by decide)
         obtain rfl : v110 = .slice (some ⟨b, 0, none⟩) 1 c := hfin 110 (by decide)
         obtain rfl : v111 = .pointer (some ⟨b, 0, none⟩) := hfin 111 (by decide)
         obtain rfl : v112 = .slice um m.length uc := hfin 112 (by decide)
         obtain rfl : v113 = .int .i64 n := hfin 113 (by decide)
         have F114 := kp (show TupR wr.heap.size (t, [a], 0) v114 wn from hfin 114 (by decide))
         have F107 := kp (show TupR wr.heap.size (t, [a], 0) v107 wn from hfin 107 (by decide))
         obtain rfl : v115 = .agg (cat (partsF t)).toArray := hfin 115 (by decide)
         have F116 := kp (show SlBB wr.heap.size wn v116 [a] from hfin 116 (by decide))
         obtain rfl : v117 = .int .i64 0 := hfin 117 (by decide)
         have F21 := kp (show SlBB wr.heap.size wn v21 [a] from hfin 21 (by decide))
         clear hfin
         simp only [List.drop_succ_cons, List.drop_zero]
         try simp only [applyS] at H
         have HXN := HOX
         go_wp2_with (first | ((with_reducible refine isLd 32 ?_); refine L_fa H rfl 32 _ rfl 0 rfl rfl Try.underlying32 rfl (by kernel_rfl) ?_; simp only [Act.put, sbA, szA, ssA]) | ((with_reducible refine isSt 32 ?_); refine L_sg H rfl rfl 32 _ _ rfl 1 rfl _ rfl _ rfl 16 (partsF t) rfl (by kernel_rfl) (by kernel_rfl) (parts2 (s1, t)) (by kernel_rfl) ?_; clear H; intro wz HWwz H; simp only [ssA, szA] at H) | ((with_reducible refine isLd 32 ?_); refine L_fg H rfl 32 _ rfl 1 rfl _ rfl _ rfl (partsF s1) rfl Try.underlying32 rfl (by kernel_rfl) ?_; simp only [Act.put, sbA, szA, ssA]) | (go_at_call 13; have HL2 := kp (H.out.lt 1 rfl); refine (HT.out _).mono ?_; rintro e wt ⟨v, rfl, hs, hx⟩; have HSA := kp hs; clear hs; have H2 := kp (H.out.ext hx); have HXC := kp hx; clear H hx; have H := H2; clear H2) | ((with_reducible refine isSt 32 ?_); refine L_sg H rfl rfl 32 _ _ rfl 1 rfl _ rfl _ rfl 16 (partsF x) rfl (by kernel_rfl) (by kernel_rfl) (parts2 (x, t)) (by kernel_rfl) ?_; clear H; intro wy HWwy H; simp only [ssA, szA] at H))
         obtain ⟨b2, c2, u2, rfl, HO2⟩ := OneO.of (HSA.out.out HWwy.out.out (by intro x hx; rcases List.mem_singleton.1 hx with rfl; exact HL2.out))
         exact LoopP.of rfl (by kernel_rfl) ⟨i + 1, n + 100000, x, t, m2, b2, c2, u2, by omega, rfl, rfl, rfl, by show Value.int .i64 _ = Value.int .i64 _; go_num, by omega, by omega, HL3, kp HO2, (kp (Loc.tail H.out))⟩ (by simp [intOf]; omega)
       ·obtain ⟨x, m2, e3, hl3⟩ := HT0.out (by omega)
        have HL3 := kp hl3
        have HT := kp (show ∀ W, Calls Try.prog 13 #[.agg (cat (partsF s1)).toArray, .int .i64 (n + 100000)] W (ResR (x, [m2], 0) W) from fun W => by
         have := tick_any s1 (n + 100000) W
         rwa [e3] at this)
        clear e3 hl3
        go_wp2_with (first | ((with_reducible refine isLd 32 ?_); refine L_fg H rfl 32 _ rfl 0 rfl _ rfl _ rfl (partsF s1) rfl Try.underlying32 rfl (by kernel_rfl) ?_; simp only [Act.put, sbA, szA, ssA]) | (go_at_call 13; have HL2 := kp (H.out.lt 0 rfl); refine (HT.out _).mono ?_; rintro e wt ⟨v, rfl, hs, hx⟩; have HSA := kp hs; clear hs; have H2 := kp (H.out.ext hx); have HXC := kp hx; clear H hx; have H := H2; clear H2) | ((with_reducible refine isSt 32 ?_); refine L_sg H rfl rfl 32 _ _ rfl 0 rfl _ rfl _ rfl 16 (partsF x) rfl (by kernel_rfl) (by kernel_rfl) (parts2 (x, s2)) (by kernel_rfl) ?_; clear H; intro wy HWwy H; simp only [szA] at H))
        all_goals try (exfalso; omega)
        obtain ⟨b2, c2, u2, rfl, HO2⟩ := OneO.of (HSA.out.out HWwy.out.out (by intro x hx; rcases List.mem_singleton.1 hx with rfl; exact HL2.out))
        exact LoopP.of rfl (by kernel_rfl) ⟨i + 1, n + 100000, x, s2, m2, b2, c2, u2, by omega, rfl, rfl, rfl, by show Value.int .i64 _ = Value.int .i64 _; go_num, by omega, by omega, HL3, kp HO2, H⟩ (by simp [intOf]; omega)
      ·go_wp2_with fail
       all_goals try (exfalso; omega)
       exact CutP.of rfl (by kernel_rfl) ⟨i, n, s1, s2, m, b, c, .slice um m.length uc, by omega, rfl, rfl, rfl, hn0, by omega, HL, HOK, H⟩
     clear H HO HL
     rintro vs wr ⟨i, n, s1, s2, m, b, c, u, hi, q12, q14, q15, hn0, hn1, HL, HO, H⟩
     simp only [putMany, List.setIfInBounds_toArray, List.set_cons_zero, List.set_cons_succ]
     rw [q12, q14, q15]
     obtain ⟨t, a, r, e1, ha⟩ := lst_a HK.out HM.out HL.out (by omega) (by omega) (by omega)
     have HA := kp ha
     have HT0 := kp (lst_t HK.out HL.out (by omega) (by omega))
     have HLN := kp (lst_len HL.out)
     have HLT := kp (H.out.lt 0 rfl)
     obtain ⟨hb, hc, B0, ho⟩ := HO.out
     obtain ⟨um, uc, rfl⟩ := owns_form ho
     have HCE := kp (show ∀ W, Ext wr W → W.cell? ⟨b, 0, none⟩ = some (.slice um m.length uc) from fun W hx => (hx.cell hb).trans hc)
     have HHA := kp (show ∀ W, Ext wr W → Calls Try.prog 15 #[.agg (cat (partsF s2)).toArray, .slice um m.length uc, .int .i64 n] W (ResR (t, [a], 0) W) from fun W hx => by
      have := handle_own s2 m HLN.out n _ _ W (owns_ext ho hx)
      rwa [e1] at this)
     have HOK := kp (show OneO wr b (.slice um m.length uc) m from ⟨hb, hc, B0, ho⟩)
     clear e1 ha hb hc ho HO
     go_wp2_with fail
     subst h30
     refine region_freeN H (tabS [(141, fun vQ _ => vQ = .pointer (some ⟨g10, 131, none⟩)), (142, fun vQ _ => vQ = .agg (cat (partsF s2)).toArray), (143, fun vQ _ => vQ = .slice (some ⟨b, 0, none⟩) 1 c), (144, fun vQ _ => vQ = .pointer (some ⟨b, 0, none⟩)), (145, fun vQ _ => vQ = .slice um m.length uc), (146, fun vQ _ => vQ = .int .i64 n), (147, fun vQ wQ => TupR wr.heap.size (t, [a], 0) vQ wQ), (140, fun vQ wQ => TupR wr.heap.size (t, [a], 0) vQ wQ), (148, fun vQ _ => vQ = .agg (cat (partsF t)).toArray), (149, fun vQ wQ => SlBB wr.heap.size wQ vQ [a]), (150, fun vQ _ => vQ = .int .i64 0), (24, fun vQ wQ => SlBB wr.heap.size wQ vQ [a])]) 11 12 23 148 32 (cat (partsF fw0)) (cat (partsF t)) 14 (tabS_trn _ _ _ (by simp only [List.forall_mem_cons]; exact ⟨monoN_eq _ _ _, monoN_eq _ _ _, monoN_eq _ _ _, monoN_eq _ _ _, monoN_eq _ _ _, monoN_eq _ _ _, (monoN_TupR _ _ _), (monoN_TupR _ _ _), monoN_eq _ _ _, (monoN_SlBB _ _ _), monoN_eq _ _ _, (monoN_SlBB _ _ _), by simp⟩)) (fun _ _ => trivial) (fun _ _ h => h) (by kernel_rfl) (by kernel_rfl) (by kernel_rfl) (by kernel_rfl) _ _ rfl rfl (by decide) (by decide) (by decide) rfl rfl rfl (fun _ => by kernel_rfl) rfl rfl rfl (by kernel_rfl) (by kernel_rfl) (by kernel_rfl) (sizeFw _) (len_F _ _) (by simpa using cat_one (partsF t)) (by kernel_rfl) ?_
     simp only [List.take_succ_cons, List.take_zero]
     refine ⟨fun _ wv141 hov141 hSv141 => ?_, fun v141 => ?_⟩
     ·clear hSv141
      clear hov141
      go_wp2_with fail
      exact ⟨rfl, _, rfl, fun d hd => by cases hd; exact rfl, Ext.refl _⟩
     simp only [Act.put, sbA, szA, ssA]
     refine ⟨fun _ wv142 hov142 hSv142 => ?_, fun v142 => ?_⟩
     ·obtain rfl : v141 = .pointer (some ⟨g10, 131, none⟩) := hSv142 141 (by decide) (by decide)
      clear hSv142
      have H := kp (H.out.ext hov142)
      have HOX := kp hov142
      clear hov142
      go_wp2_with ((with_reducible refine isLd 32 ?_); refine L_fg H rfl 32 _ rfl 0 rfl _ rfl _ rfl (partsF s2) rfl Try.underlying32 rfl (by kernel_rfl) ?_; simp only [Act.put, sbA, szA, ssA])
      exact ⟨rfl, _, rfl, fun d hd => by cases hd; exact rfl, Ext.refl _⟩
     simp only [Act.put, sbA, szA, ssA]
     refine ⟨fun _ wv143 hov143 hSv143 => ?_, fun v143 => ?_⟩
     ·clear hSv143
      clear hov143
      go_wp2_with fail
      exact ⟨rfl, _, rfl, fun d hd => by cases hd; exact rfl, Ext.refl _⟩
     simp only [Act.put, sbA, szA, ssA]
     refine ⟨fun _ wv144 hov144 hSv144 => ?_, fun v144 => ?_⟩
     ·obtain rfl : v143 = .slice (some ⟨b, 0, none⟩) 1 c := hSv144 143 (by decide) (by decide)
      clear hSv144 hov144
      go_wp2_with fail
      exact ⟨rfl, _, rfl, fun d hd => by cases hd; exact rfl, Ext.refl _⟩
     simp only [Act.put, sbA, szA, ssA]
     refine ⟨fun _ wv145 hov145 hSv145 => ?_, fun v145 => ?_⟩
     ·obtain rfl : v144 = .pointer (some ⟨b, 0, none⟩) := hSv145 144 (by decide) (by decide)
      clear hSv145
      have H := kp (H.out.ext hov145)
      have HOX := kp hov145
      clear hov145
      have hc := HCE.out _ HOX.out
      go_wp2_with fail
      exact ⟨rfl, _, rfl, fun d hd => by cases hd; exact rfl, Ext.refl _⟩
     simp only [Act.put, sbA, szA, ssA]
     refine ⟨fun _ wv146 hov146 hSv146 => ?_, fun v146 => ?_⟩
     ·clear hSv146
      clear hov146
      go_wp2_with fail
      exact ⟨rfl, _, rfl, fun d hd => by cases hd; exact rfl, Ext.refl _⟩
     simp only [Act.put, sbA, szA, ssA]
     refine ⟨fun _ wv147 hov147 hSv147 => ?_, fun v147 => ?_⟩
     ·obtain rfl : v142 = .agg (cat (partsF s2)).toArray := hSv147 142 (by decide) (by decide)
      obtain rfl : v145 = .slice um m.length uc := hSv147 145 (by decide) (by decide)
      obtain rfl : v146 = .int .i64 n := hSv147 146 (by decide) (by decide)
      clear hSv147
      have H := kp (H.out.ext hov147)
      have HOX := kp hov147
      clear hov147
      go_wp2_with fail
      refine (HHA.out _ HOX.out).mono ?_
      rintro e w2 ⟨u, rfl, hs, hx⟩
      have HSL := kp (hs.weak HOX.out.size)
      have HXC := kp hx
      clear hs hx
      go_wp2_with fail
      exact ⟨rfl, _, rfl, fun d hd => by cases hd; exact ⟨_, rfl, HSL.out⟩, HXC.out⟩
     simp only [Act.put, sbA, szA, ssA]
     refine ⟨fun _ wv140 hov140 hSv140 => ?_, fun v140 => ?_⟩
     ·have h147 := kp (show TupR wr.heap.size (t, [a], 0) v147 wv140 from hSv140 147 (by decide) (by decide))
      clear hSv140 hov140
      go_wp2_with fail
      exact ⟨rfl, _, rfl, fun d hd => by cases hd; exact h147.out, Ext.refl _⟩
     simp only [Act.put, sbA, szA, ssA]
     refine ⟨fun _ wv148 hov148 hSv148 => ?_, fun v148 => ?_⟩
     ·have h140 := kp (show TupR wr.heap.size (t, [a], 0) v140 wv148 from hSv148 140 (by decide) (by decide))
      clear hSv148
      have H := kp (H.out.ext hov148)
      have HOX := kp hov148
      clear hov148
      obtain ⟨u, rfl, hs⟩ := h140.out
      clear hs
      go_wp2_with fail
      exact ⟨rfl, _, rfl, fun d hd => by cases hd; exact rfl, Ext.refl _⟩
     simp only [Act.put, sbA, szA, ssA]
     refine ⟨fun _ wv149 hov149 hSv149 => ?_, fun v149 => ?_⟩
     ·have h140 := kp (show TupR wr.heap.size (t, [a], 0) v140 wv149 from hSv149 140 (by decide) (by decide))
      clear hSv149
      have H := kp (H.out.ext hov149)
      have HOX := kp hov149
      clear hov149
      obtain ⟨u, rfl, hs⟩ := h140.out
      have HSL := kp hs
      clear hs
      go_wp2_with fail
      exact ⟨rfl, _, rfl, fun d hd => by cases hd; exact HSL.out, Ext.refl _⟩
     simp only [Act.put, sbA, szA, ssA]
     refine ⟨fun _ wv150 hov150 hSv150 => ?_, fun v150 => ?_⟩
     ·have h140 := kp (show TupR wr.heap.size (t, [a], 0) v140 wv150 from hSv150 140 (by decide) (by decide))
      clear hSv150
      have H := kp (H.out.ext hov150)
      have HOX := kp hov150
      clear hov150
      obtain ⟨u, rfl, hs⟩ := h140.out
      clear hs
      go_wp2_with fail
      exact ⟨rfl, _, rfl, fun d hd => by cases hd; exact rfl, Ext.refl _⟩
     simp only [Act.put, sbA, szA, ssA]
     refine ⟨(fun h => by cases h), fun v23 => ?_⟩
     simp only [Act.put, sbA, szA, ssA]
     refine ⟨(fun h => by cases h), fun _ => ?_⟩
     refine ⟨fun _ wv24 hov24 hSv24 => ?_, fun v24 => ?_⟩
     ·have h149 := kp (show SlBB wr.heap.size wv24 v149 [a] from hSv24 149 (by decide) (by decide))
      clear hSv24 hov24
      go_wp2_with fail
      exact ⟨rfl, _, rfl, fun d hd => by cases hd; exact h149.out, Ext.refl _⟩
     simp only [Act.put, sbA, szA, ssA]
     clear H
     intro wn HOX hfin hvar
     obtain ⟨g20, hvg, hvb, hvl, H⟩ := hvar
     have HBg20 := kp hvb
     clear hvb hvl
     obtain rfl : v23 = .pointer (some ⟨g20, 0, none⟩) := hvg
     obtain rfl : v141 = .pointer (some ⟨g10, 131, none⟩) := hfin 141 (by decide)
     obtain rfl : v142 = .agg (cat (partsF s2)).toArray := hfin 142 (by decide)
     obtain rfl : v143 = .slice (some ⟨b, 0, none⟩) 1 c := hfin 143 (by decide)
     obtain rfl : v144 = .pointer (some ⟨b, 0, none⟩) := hfin 144 (by decide)
     obtain rfl : v145 = .slice um m.length uc := hfin 145 (by decide)
     obtain rfl : v146 = .int .i64 n := hfin 146 (by decide)
     have F147 := kp (show TupR wr.heap.size (t, [a], 0) v147 wn from hfin 147 (by decide))
     have F140 := kp (show TupR wr.heap.size (t, [a], 0) v140 wn from hfin 140 (by decide))
     obtain rfl : v148 = .agg (cat (partsF t)).toArray := hfin 148 (by decide)
     have F149 := kp (show SlBB wr.heap.size wn v149 [a] from hfin 149 (by decide))
     obtain rfl : v150 = .int .i64 0 := hfin 150 (by decide)
     have F24 := kp (show SlBB wr.heap.size wn v24 [a] from hfin 24 (by decide))
     clear hfin
     simp only [List.drop_succ_cons, List.drop_zero]
     try simp only [applyS] at H
     have HXN := HOX
     obtain ⟨av, ac, rfl⟩ := F24.out.form
     go_wp2_with (first | ((with_reducible refine isLd 32 ?_); refine L_fa H rfl 32 _ rfl 0 rfl rfl Try.underlying32 rfl (by kernel_rfl) ?_; simp only [Act.put, sbA, szA, ssA]) | ((with_reducible refine isSt 32 ?_); refine L_sg H rfl rfl 32 _ _ rfl 1 rfl _ rfl _ rfl 16 (partsF t) rfl (by kernel_rfl) (by kernel_rfl) (parts2 (s1, t)) (by kernel_rfl) ?_; clear H; intro wz HWwz H; simp only [ssA, szA] at H))
     obtain ⟨ab, ac2, au, hav, hc, ho⟩ := (F24.out.out HWwz.out.out (by intro x hx; rcases List.mem_singleton.1 hx with rfl; exact HLT.out)).first
     cases hav
     have hbk := Nat.lt_of_lt_of_le (slbb_ge F24.out).2 (Nat.le_of_eq HWwz.out.size.symm)
     obtain ⟨um2, uc2, rfl⟩ := owns_form ho
     have HL2 := kp (H.out.lt 1 rfl)
     have HNE := kp (show ab ∉ [g10] from fun hm => by have := List.mem_singleton.1 hm; have := HLT.out; have := (slbb_ge F24.out).1; omega)
     have HCE2 := kp (show ∀ W, Out [g10] wz W → W.cell? ⟨ab, 0, none⟩ = some (.slice um2 a.length uc2) from fun W ho => (ho.cell hbk HNE.out).trans hc)
     have HHA2 := kp (show ∀ W, Out [g10] wz W → Calls Try.prog 15 #[.agg (cat (partsF s1)).toArray, .slice um2 a.length uc2, .int .i64 n] W (ResR r W) from fun W hx => by
      have := handle_own s1 a HA.out.len n _ _ W (owns_out ho hx (by intro x hx; rcases List.mem_singleton.1 hx with rfl; exact HLT.out))
      rwa [HA.out.ans] at this)
     clear hc ho hbk
     subst h34
     refine region_freeC H (tabS [(161, fun vQ _ => vQ = .pointer (some ⟨g10, 0, none⟩)), (162, fun vQ _ => vQ = .agg (cat (partsF s1)).toArray), (163, fun vQ _ => vQ = .slice (some ⟨ab, 0, none⟩) 1 ac), (164, fun vQ _ => vQ = .pointer (some ⟨ab, 0, none⟩)), (165, fun vQ _ => vQ = .slice um2 a.length uc2), (166, fun vQ _ => vQ = .int .i64 n), (167, fun vQ wQ => TupR wz.heap.size r vQ wQ), (160, fun vQ wQ => TupR wz.heap.size r vQ wQ), (168, fun vQ _ => vQ = .agg (cat (partsF r.1)).toArray), (169, fun vQ wQ => SlBB wz.heap.size wQ vQ r.2.1), (170, fun vQ _ => vQ = .int .i64 r.2.2), (171, fun vQ _ => vQ = .pointer (some ⟨g10, 0, none⟩)), (14, fun vQ wQ => SlBB wz.heap.size wQ vQ r.2.1)]) [⟨12, 1, g10, 55, cat (parts2 (s1, t)), cat (parts2 (r.1, t))⟩] 1 g10 55 (cat (parts2 (s1, t))) (tabS_out _ _ (by simp only [List.forall_mem_cons]; exact ⟨mono_eqO _ _, mono_eqO _ _, mono_eqO _ _, mono_eqO _ _, mono_eqO _ _, mono_eqO _ _, (monoO_TupR _ (by intro x hx; rcases List.mem_singleton.1 hx with rfl; exact HL2.out)), (monoO_TupR _ (by intro x hx; rcases List.mem_singleton.1 hx with rfl; exact HL2.out)), mono_eqO _ _, (mono_SlBB _ (by intro x hx; rcases List.mem_singleton.1 hx with rfl; exact HL2.out)), mono_eqO _ _, mono_eqO _ _, (mono_SlBB _ (by intro x hx; rcases List.mem_singleton.1 hx with rfl; exact HL2.out)), by simp⟩)) 14 (by kernel_rfl) (by kernel_rfl) (by kernel_rfl) (by kernel_rfl) [12] rfl (by decide) (by decide) (by kernel_rfl) rfl ⟨⟨rfl, rfl, rfl, rfl⟩, trivial⟩ [1] (by kernel_rfl) ?_
     simp only [List.take_succ_cons, List.take_zero]
     refine ⟨fun wv161 hov161 hSv161 hAv161 => ?_, fun v161 => ?_⟩
     ·clear hSv161
      clear hAv161
      clear hov161
      go_wp2_with fail
      exact ⟨rfl, _, rfl, fun d hd => by cases hd; exact rfl, Ext.refl _⟩
     simp only [Act.put, sbA, szA, ssA]
     refine ⟨fun wv162 hov162 hSv162 hAv162 => ?_, fun v162 => ?_⟩
     ·obtain rfl : v161 = .pointer (some ⟨g10, 0, none⟩) := hSv162 161 (by decide) (by decide)
      clear hSv162
      have H := kp (H.out.sameC (p := 1) (g := g10) rfl hov162 (hAv162 rfl))
      clear hAv162
      have HOX := kp hov162
      clear hov162
      go_wp2_with ((with_reducible refine isLd 32 ?_); refine L_fg H rfl 32 _ rfl 1 rfl _ rfl _ rfl (partsF s1) rfl Try.underlying32 rfl (by kernel_rfl) ?_; simp only [Act.put, sbA, szA, ssA])
      exact ⟨rfl, _, rfl, fun d hd => by cases hd; exact rfl, Ext.refl _⟩
     simp only [Act.put, sbA, szA, ssA]
     refine ⟨fun wv163 hov163 hSv163 hAv163 => ?_, fun v163 => ?_⟩
     ·clear hSv163
      clear hAv163
      clear hov163
      go_wp2_with fail
      exact ⟨rfl, _, rfl, fun d hd => by cases hd; exact rfl, Ext.refl _⟩
     simp only [Act.put, sbA, szA, ssA]
     refine ⟨fun wv164 hov164 hSv164 hAv164 => ?_, fun v164 => ?_⟩
     ·obtain rfl : v163 = .slice (some ⟨ab, 0, none⟩) 1 ac := hSv164 163 (by decide) (by decide)
      clear hSv164
      clear hAv164
      clear hov164
      go_wp2_with fail
      exact ⟨rfl, _, rfl, fun d hd => by cases hd; exact rfl, Ext.refl _⟩
     simp only [Act.put, sbA, szA, ssA]
     refine ⟨fun wv165 hov165 hSv165 hAv165 => ?_, fun v165 => ?_⟩
     ·obtain rfl : v164 = .pointer (some ⟨ab, 0, none⟩) := hSv165 164 (by decide) (by decide)
      clear hSv165
      clear hAv165
      have H := kp (H.out.keepC [0, 2] (p := 1) (g := g10) rfl hov165 (by decide) (by kernel_rfl))
      have HOX := kp hov165
      clear hov165
      have hc := HCE2.out _ HOX.out
      go_wp2_with fail
      exact ⟨rfl, _, rfl, fun d hd => by cases hd; exact rfl, Ext.refl _⟩
     simp only [Act.put, sbA, szA, ssA]
     refine ⟨fun wv166 hov166 hSv166 hAv166 => ?_, fun v166 => ?_⟩
     ·clear hSv166
      clear hAv166
      clear hov166
      go_wp2_with fail
      exact ⟨rfl, _, rfl, fun d hd => by cases hd; exact rfl, Ext.refl _⟩
     simp only [Act.put, sbA, szA, ssA]
     refine ⟨fun wv167 hov167 hSv167 hAv167 => ?_, fun v167 => ?_⟩
     ·obtain rfl : v162 = .agg (cat (partsF s1)).toArray := hSv167 162 (by decide) (by decide)
      obtain rfl : v165 = .slice um2 a.length uc2 := hSv167 165 (by decide) (by decide)
      obtain rfl : v166 = .int .i64 n := hSv167 166 (by decide) (by decide)
      clear hSv167
      clear hAv167
      have H := kp (H.out.keepC [0, 2] (p := 1) (g := g10) rfl hov167 (by decide) (by kernel_rfl))
      have HOX := kp hov167
      clear hov167
      go_wp2_with fail
      refine (HHA2.out _ HOX.out).mono ?_
      rintro e w2 ⟨u, rfl, hs, hx⟩
      have HSL := kp (hs.weak HOX.out.size)
      have HXC := kp hx
      clear hs hx
      go_wp2_with fail
      exact ⟨rfl, _, rfl, fun d hd => by cases hd; exact ⟨_, rfl, HSL.out⟩, HXC.out⟩
     simp only [Act.put, sbA, szA, ssA]
     refine ⟨fun wv160 hov160 hSv160 hAv160 => ?_, fun v160 => ?_⟩
     ·have h167 := kp (show TupR wz.heap.size r v167 wv160 from hSv160 167 (by decide) (by decide))
      clear hSv160
      clear hAv160
      clear hov160
      go_wp2_with fail
      exact ⟨rfl, _, rfl, fun d hd => by cases hd; exact h167.out, Ext.refl _⟩
     simp only [Act.put, sbA, szA, ssA]
     refine ⟨fun wv168 hov168 hSv168 hAv168 => ?_, fun v168 => ?_⟩
     ·have h160 := kp (show TupR wz.heap.size r v160 wv168 from hSv168 160 (by decide) (by decide))
      clear hSv168
      clear hAv168
      have H := kp (H.out.keepC [0, 2] (p := 1) (g := g10) rfl hov168 (by decide) (by kernel_rfl))
      have HOX := kp hov168
      clear hov168
      obtain ⟨u, rfl, hs⟩ := h160.out
      clear hs
      go_wp2_with fail
      exact ⟨rfl, _, rfl, fun d hd => by cases hd; exact rfl, Ext.refl _⟩
     simp only [Act.put, sbA, szA, ssA]
     refine ⟨fun wv169 hov169 hSv169 hAv169 => ?_, fun v169 => ?_⟩
     ·have h160 := kp (show TupR wz.heap.size r v160 wv169 from hSv169 160 (by decide) (by decide))
      clear hSv169
      clear hAv169
      have H := kp (H.out.keepC [0, 2] (p := 1) (g := g10) rfl hov169 (by decide) (by kernel_rfl))
      have HOX := kp hov169
      clear hov169
      obtain ⟨u, rfl, hs⟩ := h160.out
      have HSL := kp hs
      clear hs
      go_wp2_with fail
      exact ⟨rfl, _, rfl, fun d hd => by cases hd; exact HSL.out, Ext.refl _⟩
     simp only [Act.put, sbA, szA, ssA]
     refine ⟨fun wv170 hov170 hSv170 hAv170 => ?_, fun v170 => ?_⟩
     ·have h160 := kp (show TupR wz.heap.size r v160 wv170 from hSv170 160 (by decide) (by decide))
      clear hSv170
      clear hAv170
      have H := kp (H.out.keepC [0, 2] (p := 1) (g := g10) rfl hov170 (by decide) (by kernel_rfl))
      have HOX := kp hov170
      clear hov170
      obtain ⟨u, rfl, hs⟩ := h160.out
      clear hs
      go_wp2_with fail
      exact ⟨rfl, _, rfl, fun d hd => by cases hd; exact rfl, Ext.refl _⟩
     simp only [Act.put, sbA, szA, ssA]
     refine ⟨fun wv171 hov171 hSv171 hAv171 => ?_, fun v171 => ?_⟩
     ·clear hSv171
      clear hAv171
      clear hov171
      go_wp2_with fail
      exact ⟨rfl, _, rfl, fun d hd => by cases hd; exact rfl, Ext.refl _⟩
     simp only [Act.put, sbA, szA, ssA]
     refine ⟨⟨rfl, rfl, fun ws12 hos12 hSs12 hLs12 => ?_⟩, ?_⟩
     ·obtain rfl : v171 = .pointer (some ⟨g10, 0, none⟩) := hSs12 171 (by decide) (by decide)
      obtain rfl : v168 = .agg (cat (partsF r.1)).toArray := hSs12 168 (by decide) (by decide)
      exact run_stp 32 _ _ rfl _ rfl _ rfl 16 (partsF r.1) _ rfl (by kernel_rfl) rfl (by kernel_rfl) hLs12 rfl
     refine ⟨fun wv14 hov14 hSv14 hAv14 => ?_, fun v14 => ?_⟩
     ·have h169 := kp (show SlBB wz.heap.size wv14 v169 r.2.1 from hSv14 169 (by decide) (by decide))
      clear hSv14
      clear hAv14
      clear hov14
      go_wp2_with fail
      exact ⟨rfl, _, rfl, fun d hd => by cases hd; exact h169.out, Ext.refl _⟩
     simp only [Act.put, sbA, szA, ssA]
     clear H
     intro wq HOX H hfin
     obtain rfl : v161 = .pointer (some ⟨g10, 0, none⟩) := hfin 161 (by decide)
     obtain rfl : v162 = .agg (cat (partsF s1)).toArray := hfin 162 (by decide)
     obtain rfl : v163 = .slice (some ⟨ab, 0, none⟩) 1 ac := hfin 163 (by decide)
     obtain rfl : v164 = .pointer (some ⟨ab, 0, none⟩) := hfin 164 (by decide)
     obtain rfl : v165 = .slice um2 a.length uc2 := hfin 165 (by decide)
     obtain rfl : v166 = .int .i64 n := hfin 166 (by decide)
     have F167 := kp (show TupR wz.heap.size r v167 wq from hfin 167 (by decide))
     have F160 := kp (show TupR wz.heap.size r v160 wq from hfin 160 (by decide))
     obtain rfl : v168 = .agg (cat (partsF r.1)).toArray := hfin 168 (by decide)
     have F169 := kp (show SlBB wz.heap.size wq v169 r.2.1 from hfin 169 (by decide))
     obtain rfl : v170 = .int .i64 r.2.2 := hfin 170 (by decide)
     obtain rfl : v171 = .pointer (some ⟨g10, 0, none⟩) := hfin 171 (by decide)
     have F14 := kp (show SlBB wz.heap.size wq v14 r.2.1 from hfin 14 (by decide))
     clear hfin
     simp only [List.drop_succ_cons, List.drop_zero]
     simp only [curEnd] at H
     go_wp2_with fail
     obtain ⟨em, k, ek1, ek2⟩ := HA.out.one (by decide)
     have hsl := F14.out
     rw [em] at hsl
     obtain ⟨va, vc, rfl⟩ := hsl.form
     exact LoopP.of rfl (by kernel_rfl) ⟨2, n, r.1, t, by decide, rfl, congrArg (Value.int .i64) HA.out.ok, rfl, by omega, by omega, .inr ⟨rfl, va, vc, rfl, k, ek1, ek2⟩, kp (Loc.tail H.out)⟩ (by simp [intOf])
   ·rw [q14]
    go_wp2_with (first | ((with_reducible refine isLd 55 ?_); refine L_fa H rfl 55 _ rfl 0 rfl rfl Try.underlying55 rfl (by kernel_rfl) ?_; simp only [Act.put, sbA, szA, ssA]) | (go_at_call 28; refine (C5.out _ _).mono ?_; rintro e wa ⟨rfl, hx⟩; have H2 := kp (H.out.ext hx); have HXC := kp hx; clear H hx; have H := H2; clear H2))
    go_ret
    exact ⟨rfl, H.out.1⟩
end Go.Proofs.Ytibncchobkaaiaa
