/- Texts of this proof, put together: Run, LawR. -/
import Derived.Test.YtibncchobkaaiaaC32
import Derived.Test.YtibncchobkaaiaaC1
namespace Go.Proofs.Ytibncchobkaaiaa
open Go.RowKit
def ev0 : Ev := ⟨0, 0, 0, 0, 0#8, 0, 0, zv 16⟩
theorem cellsV_len (x : Ev) : (cellsV x).length = 23 := by
 unfold cellsV
 rw [cat_len, show lsum (partsE x) = 23 from by kernel_rfl]
theorem sizeEv (x : Ev) : (Try.prog.info? 57).map (·.size) = some (cellsV x).length := by rw [cellsV_len]; kernel_rfl
def RunR (p : Pr) (l : List Ev) (tot : List (Fw × Fw)) (w : World) (g6 g2 : Nat) (vs : Tmp → Value) (wr : World) : Prop :=
 ∃ (j : Nat) (s : Fw × Fw) (sent : List By) (now : Int) (L : List (Fw × Fw)), j ≤ l.length ∧ vs 11 = .int .i64 j ∧ vs 10 = .int .i64 now ∧ 0 ≤ now ∧ now ≤ 1000000 * j ∧ Kp (tot = L ++ runF (l.drop j) s sent now) ∧ Kp (L.length = j + 1) ∧ Kp (∀ m ∈ sent, m.length ≤ 100000) ∧ sent.length ≤ j ∧
  Kp (wr.ownsRow (g6 + 1) 55 262 (vs 8) L.length (L.flatMap cells2)) ∧ Kp (SlBB (g6 + 1) wr (vs 9) sent) ∧ Kp (Loc w wr [(g6, 55, cat (parts2 s)), (g2, 48, cat (partsP p))])
def RunC (r : Res) (x : Ev) (s : Fw × Fw) (p : Pr) (w wr wm w16 : World) (g16 g12 g6 g2 : Nat) (vs : Tmp → Value) (W : World) : Prop :=
 vs 18 = .int .i64 r.2.2 ∧ Kp (SlBB w16.heap.size W (vs 17) r.2.1) ∧ Kp (Chg wm.heap.size wm W) ∧ Kp (Chg wr.heap.size wr W) ∧ Kp (Loc w W [(g16, 32, cat (partsF r.1)), (g12, 57, cat (partsE x)), (g6, 55, cat (parts2 s)), (g2, 48, cat (partsP p))])
def RunQ (q : Bool) (W : World) (vs : Tmp → Value) (W' : World) : Prop := vs 109 = .bool q ∧ W' = W
theorem owns_lit2 {w : World} {g base : Nat} {s : Fw × Fw} (h : Lc w g 55 (cells2 s)) (hb : base ≤ g) : w.ownsRow base 55 262 (.slice (some ⟨g, 0, none⟩) 1 1) [s].length ([s].flatMap cells2) := by
 have hl := cells2_len s
 exact ⟨by simp [hl], .inr ⟨g, 1, (cells2 s).toArray, rfl, hb, h, Nat.le_refl _, by unfold maxLen; omega, by simp [hl], by simp [List.take_of_length_le, hl]⟩⟩
theorem wI_ne0 (x : BitVec 8) : (wI x != 0) = (x != 0) := by
 by_cases h : x = 0#8
 ·subst h; rfl
 ·have h1 : wI x ≠ 0 := fun e => h (BitVec.eq_of_toNat_eq (by simpa [wI] using e))
  rw [show (wI x != 0) = true from by simpa using h1, show (x != 0) = true from by simpa using h]
def RunE (tot : List (Fw × Fw)) (w : World) (e : Ending) (w' : World) : Prop := ∃ u b, e = .returned (.tuple #[u, .bool b]) ∧ SlT 262 cells2 w' u tot ∧ Ext w w'
theorem runE {tot L : List (Fw × Fw)} {w w' : World} {B : Nat} {u : Value} {b : Bool} (h : tot = L) (ho : w'.ownsRow B 55 262 u L.length (L.flatMap cells2)) (hx : Ext w w') : RunE tot w (.returned (.tuple #[u, .bool b])) w' := by
 subst h
 exact ⟨u, b, rfl, SlT.of_owns (fun x _ => cells2_len x) ho, hx⟩
theorem owns_sepM {B E1 n1 s1 b1 : Nat} {w w' : World} {v v2 : Value} {x1 : List Value} {ls : List By} (h1 : w.ownsRow b1 E1 s1 v n1 x1) (h2 : SlBB B w v2 ls) (hE : E1 ≠ 33) (hg : w.grownBy w' v2.ownBlock) : w'.ownsRow b1 E1 s1 v n1 x1 := by
 obtain ⟨vs, k1, _⟩ := h2
 exact ownsT_sepG h1 k1 hE hg
theorem great_no {l : List Ev} (h : greatF l = false) {j : Nat} {x : Ev} (hj : l[j]? = some x) : badEv x = false := by
 cases q : badEv x with
 | false => rfl
 | true => rw [any_at hj q] at h; cases h
theorem great_len {l : List Ev} (h : greatF l = false) : l.length ≤ 60 := by
 unfold greatF at h
 simp only [Bool.or_eq_false_iff, decide_eq_false_iff_not] at h
 omega
theorem drop_at {l : List Ev} {j : Nat} {x : Ev} (h : l[j]? = some x) : l.drop j = x :: l.drop (j + 1) := by
 obtain ⟨hl, rfl⟩ := List.getElem?_eq_some_iff.1 h
 exact List.drop_eq_getElem_cons hl
set_option maxRecDepth 10000 in
set_option maxHeartbeats 6400000 in
theorem run_any (p : Pr) (l : List Ev) (hk : ∀ x ∈ l, x.Ok) (hg : greatF l = false) (v : Value) (w : World) (hv : SlT 23 cellsV w v l) :
  Calls Try.prog 27 #[.agg (cat (partsP p)).toArray, v] w (RunE (sidesF p :: runF l (sidesF p) [] 0) w) := by
 have H := kp (Loc.start w)
 have HV := kp hv
 have HKO := kp hk
 have HGR := kp hg
 have hl60 := great_len hg
 obtain ⟨ad, c0, rfl⟩ := hv.form
 clear hv hk hg
 have C2 := kp (show ∀ w, Calls Try.prog 25 #[.agg (cat (partsP p)).toArray] w (fun e w' => e = .returned (.tuple #[.agg (cat (parts2 (sidesF p))).toArray, .bool (sidesB p)]) ∧ Ext w w') from fun w => sides_any p w)
 generalize sidesB p = isb at *
 obtain ⟨tot, htot⟩ : ∃ t, t = sidesF p :: runF l (sidesF p) [] 0 := ⟨_, rfl⟩
 have HTOT := kp htot
 rw [← htot]
 clear htot
 generalize sidesF p = s0 at *
 go_enter Try.func27, Try.ntmps27
 go_wp2_with (first | ((with_reducible show wpList _ _ _ (Oper.mk (some 2) (Op.box 48 _) _ _ _ _ :: _) _ _); (refine L_box H rfl 48 _ rfl (cat (partsP p)) rfl ?_); clear H; intro g2 w2 HGg2 HEg2 H; simp only [Act.put, sbA, szA, ssA]) | ((with_reducible refine isLd 48 ?_); refine L_fa H rfl 48 _ rfl 0 rfl rfl Try.underlying48 rfl (by kernel_rfl) ?_; simp only [Act.put, sbA, szA, ssA]) | ((with_reducible show wpList _ _ _ (Oper.mk (some 6) (Op.alloc 55) _ _ _ _ :: _) _ _); (refine L_alloc H rfl 55 rfl (cat (parts2 (fw0, fw0))) (fun _ _ => by kernel_rfl) ?_); clear H; intro g6 w6 HGg6 HEg6 H; simp only [Act.put, sbA, szA, ssA]) | ((with_reducible refine isSt 55 ?_); refine L_sa H rfl rfl 55 _ _ rfl 0 rfl rfl (parts2 s0) rfl rfl (by kernel_rfl) ?_; clear H; intro wb HWwb H; simp only [szA] at H) | (go_at_call 25; refine (C2.out _).mono ?_; rintro e wa ⟨rfl, hx⟩; have H2 := kp (H.out.ext hx); have HXC := kp hx; clear H hx; have H := H2; clear H2) | ((with_reducible refine isLd 55 ?_); refine L_fa H rfl 55 _ rfl 0 rfl rfl Try.underlying55 rfl (by kernel_rfl) ?_; simp only [Act.put, sbA, szA, ssA]) | (((with_reducible show wpList _ _ _ (Oper.mk (some 25) (Op.buildSlice 65 _ _) _ _ _ _ :: _) _ _); (refine L_bs H (by kernel_rfl) 65 1 _ rfl (#[(0, .agg (cells2 s0).toArray)]) (by kernel_rfl) 55 (cells2 s0) (run_bs2 s0) ?_); clear H; intro g25 w25 HGg25 HEg25 H; simp only [Act.put, sbA, szA, ssA])))
 have HB2 := kp (show w.heap.size ≤ g6 + 1 from by have := HGg2.out; have := HEg2.out.size; have := HGg6.out; have := HXC.out.size; omega)
 have HA := kp (show w25.ownsRow (g6 + 1) 55 262 (.slice (some ⟨g25, 0, none⟩) 1 1) [s0].length ([s0].flatMap cells2) from owns_lit2 (H.out.at 0 rfl) (by have := HGg25.out; have := HGg6.out; have := HWwb.out.size; have := HEg6.out.size; have h9 := H.out.2.1; simp at h9; omega))
 have HB26 := kp (show g2 ≤ g6 from by have := HGg2.out; have := HEg2.out.size; have := HXC.out.size; have := HGg6.out; omega)
 refine wp_loopC (8 :: 9 :: 10 :: 11 :: 12 :: 13 :: 14 :: 15 :: 16 :: 17 :: 18 :: 26 :: 27 :: 28 :: 29 :: 30 :: 31 :: 32 :: 33 :: 34 :: 35 :: 36 :: 37 :: 38 :: 39 :: 40 :: 41 :: 42 :: 43 :: 44 :: 45 :: 46 :: 47 :: 48 :: 49 :: 50 :: 51 :: 52 :: 53 :: 54 :: 55 :: 56 :: 57 :: 58 :: 59 :: 60 :: 61 :: 62 :: 63 :: 64 :: 65 :: 66 :: 67 :: 68 :: 69 :: 70 :: 71 :: 72 :: 73 :: 74 :: 75 :: 76 :: 77 :: 78 :: 79 :: 80 :: 81 :: 82 :: 83 :: 84 :: 85 :: 86 :: 87 :: 88 :: 89 :: 90 :: 91 :: 92 :: 93 :: 94 :: 95 :: 96 :: 97 :: 98 :: 99 :: 100 :: 101 :: 102 :: 103 :: 104 :: 105 :: 106 :: 107 :: 108 :: 109 :: 110 :: 111 :: 112 :: 113 :: 114 :: 115 :: 116 :: 117 :: 118 :: 119 :: 120 :: 121 :: 122 :: []) (RunR p l tot w g6 g2) (fun vs _ => l.length - (intOf (vs 11)).toNat) (by kernel_rfl) ⟨0, s0, [], 0, [s0], by omega, rfl, rfl, by decide, by decide, kp (by rw [HTOT.out]; rfl), kp rfl, kp (fun m hm => by cases hm), by decide, HA, kp (SlBB.nil _ _), kp (Loc.tail H.out)⟩ ?_
 clear H HA
 rintro vs wr ⟨j, s, sent, now, L, hj, q11, q10, hn0, hn1, HT, HLL, HSL, hsn, HA, HS, H⟩
 simp only [putMany, List.setIfInBounds_toArray, List.set_cons_zero, List.set_cons_succ]
 rw [q11, q10]
 by_cases hjl : j < l.length
 ·obtain ⟨x, hx⟩ : ∃ x, l[j]? = some x := ⟨_, List.getElem?_eq_getElem hjl⟩
  obtain ⟨b, off, c1, hv1, hbs, hE⟩ := (HV.out.ext H.out.1).ev hx
  cases hv1
  have HEV := kp hE.all
  have HZE := kp (sizeEv x)
  have HOK := kp (HKO.out x (List.mem_of_getElem? hx))
  obtain ⟨f1, f2, f3, f4, f5, f6⟩ := badEv_false (great_no HGR.out hx)
  have HDR := kp (drop_at hx)
  have HMS := kp (show ∀ W, Chg wr.heap.size wr W → Calls Try.prog 23 #[.agg (cellsV x).toArray, vs 9] W (MsgR (msgF x sent) W) from fun W hc => message_any x (by omega) (by omega) (by omega) (by omega) sent HSL.out (by omega) (g6 + 1) (vs 9) W (HS.out.chg hc))
  clear hx hE hbs
  have hto : x.to % 2 = 0 ∨ x.to % 2 = 1 := by omega
  rcases hto with hto | hto
  ·skip
   have hT : x.to.tmod 2 = 0 := (Int.tmod_eq_emod_of_nonneg HOK.out.t0).trans hto
   have HSD := kp (show sideF x s = s.1 from by simp [sideF, hto])
   have HPT := kp (show ∀ t, putF x s t = (t, s.2) from fun t => by simp [putF, hto])
   obtain ⟨r, hr⟩ : ∃ r, stepF x (now + x.wait) sent s.1 = r := ⟨_, rfl⟩
   have HR := kp hr
   have HRC := kp (run_cons (l := l.drop (j + 1)) (s := s) (r := r) (by rw [HSD.out]; exact hr))
   have HRO := kp (show (∀ m ∈ r.2.1, m.length ≤ 100000) ∧ r.2.1.length ≤ 1 from by rw [← hr]; exact step_out x _ sent _)
   clear hr hto
   generalize hb2 : (Code.block 2 _ : Code) = CB
   generalize h20 : (Code.region 20 _ _ : Code) = R20
   go_wp2_with (first | ((with_reducible refine isLd 57 ?_); (refine wpList_load_midG (by kernel_rfl) 57 _ rfl (b) (off + j * 23) rfl (cellsV x) _ (HEV.out) Try.underlying57 rfl (HZE.out) ?_); simp only [Act.put, sbA, szA, ssA]) | ((with_reducible show wpList _ _ _ (Oper.mk (some 12) (Op.alloc 57) _ _ _ _ :: _) _ _); (refine L_alloc H rfl 57 rfl (cat (partsE ev0)) (fun _ _ => by kernel_rfl) ?_); clear H; intro g12 w12 HGg12 HEg12 H; simp only [Act.put, sbA, szA, ssA]) | ((with_reducible refine isSt 57 ?_); refine L_sa H rfl rfl 57 _ _ rfl 0 rfl rfl (partsE x) rfl rfl (by kernel_rfl) ?_; clear H; intro w13 HWw13 H; simp only [szA] at H) | ((with_reducible refine isLd 5 ?_); (refine L_f1 H rfl 5 _ rfl 0 rfl _ rfl _ rfl _ rfl Try.underlying5 rfl ?_); simp only [Act.put, sbA, szA, ssA]) | ((with_reducible refine isLd 3 ?_); (refine L_f1 H rfl 3 _ rfl 0 rfl _ rfl _ rfl _ rfl Try.underlying3 rfl ?_); simp only [Act.put, sbA, szA, ssA]) | ((with_reducible refine isLd 57 ?_); refine L_fa H rfl 57 _ rfl 0 rfl rfl Try.underlying57 rfl (by kernel_rfl) ?_; simp only [Act.put, sbA, szA, ssA]) | (go_at_call 23; have HC12 := kp ((Chg.refl _).past HEg12.out HWw13.out (Nat.le_of_eq HGg12.out.symm)); refine (HMS.out _ HC12.out).mono ?_; rintro e wm ⟨u, rfl, hu1, hu2, hx⟩; have HU1 := kp hu1; have HU2 := kp hu2; clear hu1 hu2; have H2 := kp (H.out.ext hx); have HXC := kp hx; clear H hx; have H := H2; clear H2; have HCW0 := kp (HC12.out.ext HXC.out); clear HC12) | ((with_reducible show wpList _ _ _ (Oper.mk (some 16) (Op.alloc 32) _ _ _ _ :: _) _ _); (refine L_alloc H rfl 32 rfl (cat (partsF fw0)) (fun _ _ => by kernel_rfl) ?_); clear H; intro g16 w16 HGg16 HEg16 H; simp only [Act.put, sbA, szA, ssA]))
   obtain ⟨ua, un, uc, rfl, HUN⟩ : ∃ ua un uc, u = .slice ua un uc ∧ Kp (∀ b, msgF x sent = some b → un = b.length) := by
    cases hmo : msgF x sent with
    | none => exact ⟨none, 0, 0, HU2.out hmo, kp (fun b q => by cases q)⟩
    | some b =>
     obtain ⟨a1, a2, e⟩ := owns_form (HU1.out b hmo)
     exact ⟨a1, _, a2, e, kp (fun b2 q => by cases q; rfl)⟩
   have HGM := kp (show wm.heap.size ≤ g16 from Nat.le_of_eq HGg16.out.symm)
   have HGW := kp (show wr.heap.size ≤ g16 from Nat.le_trans HCW0.out.1 HGM.out)
   have HMB := kp (fun b (hb : msgF x sent = some b) => msgF_len HSL.out hb)
   have HL6w := kp (H.out.lt 2 rfl)
   subst hb2
   refine wp_cut (17 :: 18 :: 50 :: 51 :: 52 :: 53 :: 54 :: 55 :: 56 :: 57 :: 58 :: 59 :: 60 :: 61 :: 62 :: 63 :: 64 :: 65 :: 66 :: 67 :: 68 :: 69 :: 70 :: 71 :: 72 :: 73 :: 74 :: 75 :: 76 :: 77 :: 78 :: 79 :: 80 :: 81 :: 82 :: 83 :: []) (RunC r x s p w wr wm w16 g16 g12 g6 g2) ?_ ?_
   ·have HL16 := kp (H.out.lt 0 rfl)
    have HCM := kp ((Chg.refl wm).ext HEg16.out)
    have HCW := kp (HCW0.out.ext HEg16.out)
    by_cases h0 : x.kind = 0
    ·have hk0 : (x.kind == 0) = true := by simp [h0]
     have HCA := kp (show ∀ W, Calls Try.prog 10 #[.agg (cat (partsF s.1)).toArray, .int .i64 (now + x.wait)] W (ResR r W) from fun W => by
      have := start_any s.1 (now + x.wait) W
      rwa [show startF s.1 (now + x.wait) = r from by rw [← HR.out]; unfold stepF; rw [if_pos h0]] at this)
     clear h0
     go_wp2_with (first | ((with_reducible refine isLd 5 ?_); (refine L_f1 H rfl 5 _ rfl 1 rfl _ rfl _ rfl _ rfl Try.underlying5 rfl ?_); simp only [Act.put, sbA, szA, ssA]) | ((with_reducible refine isLd 32 ?_); refine L_fg H rfl 32 _ rfl 2 rfl _ rfl _ rfl (partsF s.1) rfl Try.underlying32 rfl (by kernel_rfl) ?_; simp only [Act.put, sbA, szA, ssA]) | ((with_reducible refine isSt 32 ?_); refine L_sa H rfl rfl 32 _ _ rfl 0 rfl rfl (partsF r.1) rfl rfl (by kernel_rfl) ?_; clear H; intro ws HWws H; simp only [szA] at H) | (go_at_call 10; refine (HCA.out _).mono ?_; rintro e wt ⟨v, rfl, hs, hx⟩; have HSA := kp hs; clear hs; have H2 := kp (H.out.ext hx); have HXC := kp hx; clear H hx; have H := H2; clear H2))
     exact CutP.of rfl (by kernel_rfl) ⟨rfl, kp (HSA.out.out HWws.out.out (by intro z hz; rcases List.mem_singleton.1 hz with rfl; exact HL16.out)), kp ((HCM.out.ext HXC.out).wrote HWws.out HGM.out), kp ((HCW.out.ext HXC.out).wrote HWws.out HGW.out), H⟩
    ·have hk0 : (x.kind == 0) = false := by simp [h0]
     cases hmo : msgF x sent with
     | none =>
      have HCA := kp (show ∀ W, Calls Try.prog 13 #[.agg (cat (partsF s.1)).toArray, .int .i64 (now + x.wait)] W (ResR r W) from fun W => by
       have := tick_any s.1 (now + x.wait) W
       rwa [show tickF s.1 (now + x.wait) = r from by rw [← HR.out]; unfold stepF; rw [if_neg h0, hmo]] at this)
      clear h0 hmo
      go_wp2_with (first | ((with_reducible refine isLd 5 ?_); (refine L_f1 H rfl 5 _ rfl 1 rfl _ rfl _ rfl _ rfl Try.underlying5 rfl ?_); simp only [Act.put, sbA, szA, ssA]) | ((with_reducible refine isLd 32 ?_); refine L_fg H rfl 32 _ rfl 2 rfl _ rfl _ rfl (partsF s.1) rfl Try.underlying32 rfl (by kernel_rfl) ?_; simp only [Act.put, sbA, szA, ssA]) | ((with_reducible refine isSt 32 ?_); refine L_sa H rfl rfl 32 _ _ rfl 0 rfl rfl (partsF r.1) rfl rfl (by kernel_rfl) ?_; clear H; intro ws HWws H; simp only [szA] at H) | (go_at_call 13; refine (HCA.out _).mono ?_; rintro e wt ⟨v, rfl, hs, hx⟩; have HSA := kp hs; clear hs; have H2 := kp (H.out.ext hx); have HXC := kp hx; clear H hx; have H := H2; clear H2))
      exact CutP.of rfl (by kernel_rfl) ⟨rfl, kp (HSA.out.out HWws.out.out (by intro z hz; rcases List.mem_singleton.1 hz with rfl; exact HL16.out)), kp ((HCM.out.ext HXC.out).wrote HWws.out HGM.out), kp ((HCW.out.ext HXC.out).wrote HWws.out HGW.out), H⟩
     | some b =>
      have HCA := kp (show ∀ W, Ext wm W → Calls Try.prog 15 #[.agg (cat (partsF s.1)).toArray, .slice ua un uc, .int .i64 (now + x.wait)] W (ResR r W) from fun W hx => by
       have := handle_own s.1 b (HMB.out b hmo) (now + x.wait) _ _ W (owns_ext (HU1.out b hmo) hx)
       rwa [show handleF s.1 b (now + x.wait) = r from by rw [← HR.out]; unfold stepF; rw [if_neg h0, hmo]] at this)
      clear h0 hmo
      go_wp2_with (first | ((with_reducible refine isLd 5 ?_); (refine L_f1 H rfl 5 _ rfl 1 rfl _ rfl _ rfl _ rfl Try.underlying5 rfl ?_); simp only [Act.put, sbA, szA, ssA]) | ((with_reducible refine isLd 32 ?_); refine L_fg H rfl 32 _ rfl 2 rfl _ rfl _ rfl (partsF s.1) rfl Try.underlying32 rfl (by kernel_rfl) ?_; simp only [Act.put, sbA, szA, ssA]) | ((with_reducible refine isSt 32 ?_); refine L_sa H rfl rfl 32 _ _ rfl 0 rfl rfl (partsF r.1) rfl rfl (by kernel_rfl) ?_; clear H; intro ws HWws H; simp only [szA] at H) | (go_at_call 15; refine (HCA.out _ HEg16.out).mono ?_; rintro e wt ⟨v, rfl, hs, hx⟩; have HSA := kp hs; clear hs; have H2 := kp (H.out.ext hx); have HXC := kp hx; clear H hx; have H := H2; clear H2))
      exact CutP.of rfl (by kernel_rfl) ⟨rfl, kp (HSA.out.out HWws.out.out (by intro z hz; rcases List.mem_singleton.1 hz with rfl; exact HL16.out)), kp ((HCM.out.ext HXC.out).wrote HWws.out HGM.out), kp ((HCW.out.ext HXC.out).wrote HWws.out HGW.out), H⟩
   clear H
   rintro vs2 W ⟨c18, HSO, HCM, HCW, H⟩
   simp only [putMany, List.setIfInBounds_toArray, List.set_cons_zero, List.set_cons_succ]
   rw [c18]
   go_wp2_with fail
   subst h20
   refine wp_cut (84 :: 85 :: 86 :: 87 :: 88 :: 89 :: 90 :: 91 :: 92 :: 93 :: 94 :: 95 :: 96 :: 97 :: 98 :: 99 :: 100 :: 101 :: 102 :: 103 :: 104 :: 105 :: 106 :: 107 :: 108 :: 109 :: []) (RunQ (r.2.2 == 0 && badB x sent) W) ?_ ?_
   ·cases he : (r.2.2 == 0) with
    | false =>
     go_wp2_with fail
     exact CutP.of rfl (by kernel_rfl) ⟨rfl, rfl⟩
    | true =>
     cases hmo : msgF x sent with
     | none =>
      have HQ := kp (show badB x sent = false from by unfold badB; rw [hmo])
      go_wp2_with fail
      all_goals exact CutP.of rfl (by kernel_rfl) ⟨by show Value.bool _ = Value.bool _; rw [HQ.out]; rfl, rfl⟩
     | some b =>
      cases b with
      | nil =>
       have HQ := kp (show badB x sent = false from by unfold badB; rw [hmo]; simp)
       obtain rfl : un = 0 := HUN.out _ hmo
       go_wp2_with ((with_reducible refine isLd 5 ?_); (refine L_f1 H rfl 5 _ rfl 1 rfl _ rfl _ rfl _ rfl Try.underlying5 rfl ?_); simp only [Act.put, sbA, szA, ssA])
       all_goals exact CutP.of rfl (by kernel_rfl) ⟨by show Value.bool _ = Value.bool _; rw [HQ.out]; rfl, rfl⟩
      | cons b0 bs =>
       have HQ := kp (show badB x sent = ((x.kind == 2) && (wI x.by_ != 0) && (wI b0 != 1)) from by
        unfold badB
        rw [hmo]
        show ((x.kind == 2) && (x.by_ != 0) && true && (kindP (b0 :: bs) != 1)) = _
        rw [show (wI x.by_ != 0) = (x.by_ != 0) from wI_ne0 _, Bool.and_true]
        rfl)
       have hun : un = bs.length + 1 := HUN.out _ hmo
       subst hun
       obtain ⟨gm, cm, cs, hsl, _, hL, _, _, _, hct⟩ := owns_open (ownsT_chgB (HU1.out _ hmo) HCM.out) (by simp)
       cases hsl
       have hc := hL.cell (i := 0) (v := .int .u8 (wI b0)) (by
        have h1 : (cs.take (b0 :: bs).length)[0]? = some (V8 b0) := by rw [hct]; rfl
        rw [List.getElem?_take, if_pos (by simp)] at h1
        exact h1)
       go_wp2_with ((with_reducible refine isLd 5 ?_); (refine L_f1 H rfl 5 _ rfl 1 rfl _ rfl _ rfl _ rfl Try.underlying5 rfl ?_); simp only [Act.put, sbA, szA, ssA])
       all_goals exact CutP.of rfl (by kernel_rfl) ⟨by show Value.bool _ = Value.bool _; rw [HQ.out]; simp_all, rfl⟩
   rintro vs3 W ⟨c109, rfl⟩
   simp only [putMany, List.setIfInBounds_toArray, List.set_cons_zero, List.set_cons_succ]
   rw [c109]
   have HA := kp (ownsT_chgB HA.out HCW.out)
   have HS := kp (HS.out.chg HCW.out)
   cases he : (r.2.2 == 0) with
   | false =>
    have HNX := kp (show nextF x s r = s ∧ sentF sent r = sent from by
     have : ¬ r.2.2 = 0 := by simpa using he
     exact ⟨by unfold nextF; rw [if_neg this], by unfold sentF; rw [if_neg this]⟩)
    have HIF := kp (show ¬ (r.2.2 = 0 ∧ badB x sent = true) from fun q => absurd q.1 (by simpa using he))
    rw [Bool.false_and]
    go_wp2_with (first | ((with_reducible refine isLd 55 ?_); refine L_fa H rfl 55 _ rfl 2 rfl rfl Try.underlying55 rfl (by kernel_rfl) ?_; simp only [Act.put, sbA, szA, ssA]) | ((with_reducible show wpList _ _ _ (Oper.mk (some 121) (Op.buildSlice 65 _ _) _ _ _ _ :: _) _ _); (refine L_bs H (by kernel_rfl) 65 1 _ rfl (#[(0, .agg (cells2 s).toArray)]) (by kernel_rfl) 55 (cells2 s) (run_bs2 s) ?_); clear H; intro g121 w121 HGg121 HEg121 H; simp only [Act.put, sbA, szA, ssA]) | ((with_reducible show wpList _ _ _ (Oper.mk (some 122) _ _ _ _ _ :: _) _ _); have HL9 := kp (H.out.at 0 rfl); have H2 := kp (Loc.tail (Loc.tail (Loc.tail H.out))); clear H; have H := H2; clear H2; have HA2 := kp (ownsT_ext HA.out HEg121.out); have HS2 := kp (HS.out.ext HEg121.out); refine L_appT elem2 H rfl _ _ rfl (g6 + 1) HB2.out (H.out.lt 0 rfl) _ L rfl HA2.out (by intro z hz q; have := ownsT_block HA2.out z q; simp at hz; have := HB26.out; omega) g121 s rfl _ HL9.out (cells2_len _) (cells2_one _) (by have := HLL.out; omega) (by have := HLL.out; omega) ?_; clear H HA HS; intro va wM HAN HGM2 HWH H; have HSN := kp (HS2.out.sepG HA2.out (by decide) (by decide) HGM2.out); simp only [Act.put, sbA, szA, ssA]))
    have HTN := kp (show tot = (L ++ [s]) ++ runF (l.drop (j + 1)) s (sent) (now + x.wait) from by rw [HT.out, HDR.out, HRC.out, if_neg HIF.out, HNX.out.1, HNX.out.2, List.append_assoc]; rfl)
    have HSLN := kp (show ∀ m ∈ (sent), m.length ≤ 100000 from by intro m hm; first | exact HSL.out m hm | (rcases List.mem_append.1 hm with q | q; exact HSL.out m q; exact HRO.out.1 m q))
    have HLNN := kp (show (L ++ [s]).length = j + 1 + 1 from by rw [List.length_append, HLL.out]; rfl)
    exact LoopP.of rfl (by kernel_rfl) ⟨j + 1, s, sent, now + x.wait, L ++ [s], by omega, by show Value.int .i64 _ = Value.int .i64 _; go_num, rfl, by omega, by omega, HTN, HLNN, HSLN, by (try rw [List.length_append]); have := HRO.out.2; omega, HAN, HSN, H⟩ (by simp [intOf]; omega)
   | true =>
    cases hq : badB x sent with
    | true =>
     go_wp2_with fail
     go_ret2
     exact runE (by rw [HT.out, HDR.out, HRC.out, if_pos ⟨by simpa using he, hq⟩]; exact List.append_nil _) HA.out H.out.1
    | false =>
     have HNX := kp (show nextF x s r = (r.1, s.2) ∧ sentF sent r = sent ++ r.2.1 from by
      have : r.2.2 = 0 := by simpa using he
      exact ⟨by unfold nextF; rw [if_pos this]; exact HPT.out _, by unfold sentF; rw [if_pos this]⟩)
     have HIF := kp (show ¬ (r.2.2 = 0 ∧ badB x sent = true) from fun q => by rw [hq] at q; cases q.2)
     go_wp2_with (first | ((with_reducible refine isLd 32 ?_); refine L_fa H rfl 32 _ rfl 0 rfl rfl Try.underlying32 rfl (by kernel_rfl) ?_; simp only [Act.put, sbA, szA, ssA]) | ((with_reducible refine isSt 32 ?_); refine L_sg H rfl rfl 32 _ _ rfl 2 rfl _ rfl _ rfl 16 (partsF r.1) rfl (by kernel_rfl) (by kernel_rfl) (parts2 (r.1, s.2)) (by kernel_rfl) ?_; clear H; intro wz HWwz H; simp only [ssA, szA] at H) | ((with_reducible show wpList _ _ _ (Oper.mk (some 118) _ _ _ _ _ :: _) _ _); have HLC := kp (H.out.lt 2 rfl); have H2 := kp (Loc.tail (Loc.tail H.out)); clear H; have H := H2; clear H2; have HSZ := kp (HS.out.out HWwz.out.out (by intro z hz; rcases List.mem_singleton.1 hz with rfl; omega)); have HOZ := kp (HSO.out.out HWwz.out.out (by intro z hz; rcases List.mem_singleton.1 hz with rfl; exact HL6w.out)); have HAZ := kp (owns_wrote HA.out HWwz.out (Nat.lt_succ_self _)); clear HS HA; refine L_appM H rfl _ _ rfl (g6 + 1) HB2.out HLC.out (by intro z hz; simp at hz; have := HB26.out; omega) _ sent rfl HSZ.out _ r.2.1 w16.heap.size rfl HOZ.out HL6w.out (by have := HRO.out.2; omega) ?_; clear H; intro vb wN HS HGN H; have HA := kp (owns_sepM HAZ.out HSZ.out (by decide) HGN.out); simp only [Act.put, sbA, szA, ssA]) | ((with_reducible refine isLd 55 ?_); refine L_fa H rfl 55 _ rfl 0 rfl rfl Try.underlying55 rfl (by kernel_rfl) ?_; simp only [Act.put, sbA, szA, ssA]) | ((with_reducible show wpList _ _ _ (Oper.mk (some 121) (Op.buildSlice 65 _ _) _ _ _ _ :: _) _ _); (refine L_bs H (by kernel_rfl) 65 1 _ rfl (#[(0, .agg (cells2 (r.1, s.2)).toArray)]) (by kernel_rfl) 55 (cells2 (r.1, s.2)) (run_bs2 (r.1, s.2)) ?_); clear H; intro g121 w121 HGg121 HEg121 H; simp only [Act.put, sbA, szA, ssA]) | ((with_reducible show wpList _ _ _ (Oper.mk (some 122) _ _ _ _ _ :: _) _ _); have HL9 := kp (H.out.at 0 rfl); have H2 := kp (Loc.tail H.out); clear H; have H := H2; clear H2; have HA2 := kp (ownsT_ext HA.out HEg121.out); have HS2 := kp (HS.out.ext HEg121.out); refine L_appT elem2 H rfl _ _ rfl (g6 + 1) HB2.out (H.out.lt 0 rfl) _ L rfl HA2.out (by intro z hz q; have := ownsT_block HA2.out z q; simp at hz; have := HB26.out; omega) g121 (r.1, s.2) rfl _ HL9.out (cells2_len _) (cells2_one _) (by have := HLL.out; omega) (by have := HLL.out; omega) ?_; clear H HA HS; intro va wM HAN HGM2 HWH H; have HSN := kp (HS2.out.sepG HA2.out (by decide) (by decide) HGM2.out); simp only [Act.put, sbA, szA, ssA]))
     have HTN := kp (show tot = (L ++ [(r.1, s.2)]) ++ runF (l.drop (j + 1)) (r.1, s.2) ((sent ++ r.2.1)) (now + x.wait) from by rw [HT.out, HDR.out, HRC.out, if_neg HIF.out, HNX.out.1, HNX.out.2, List.append_assoc]; rfl)
     have HSLN := kp (show ∀ m ∈ ((sent ++ r.2.1)), m.length ≤ 100000 from by intro m hm; first | exact HSL.out m hm | (rcases List.mem_append.1 hm with q | q; exact HSL.out m q; exact HRO.out.1 m q))
     have HLNN := kp (show (L ++ [(r.1, s.2)]).length = j + 1 + 1 from by rw [List.length_append, HLL.out]; rfl)
     exact LoopP.of rfl (by kernel_rfl) ⟨j + 1, (r.1, s.2), (sent ++ r.2.1), now + x.wait, L ++ [(r.1, s.2)], by omega, by show Value.int .i64 _ = Value.int .i64 _; go_num, rfl, by omega, by omega, HTN, HLNN, HSLN, by (try rw [List.length_append]); have := HRO.out.2; omega, HAN, HSN, H⟩ (by simp [intOf]; omega)
  ·skip
   have hT : x.to.tmod 2 = 1 := (Int.tmod_eq_emod_of_nonneg HOK.out.t0).trans hto
   have HSD := kp (show sideF x s = s.2 from by simp [sideF, hto])
   have HPT := kp (show ∀ t, putF x s t = (s.1, t) from fun t => by simp [putF, hto])
   obtain ⟨r, hr⟩ : ∃ r, stepF x (now + x.wait) sent s.2 = r := ⟨_, rfl⟩
   have HR := kp hr
   have HRC := kp (run_cons (l := l.drop (j + 1)) (s := s) (r := r) (by rw [HSD.out]; exact hr))
   have HRO := kp (show (∀ m ∈ r.2.1, m.length ≤ 100000) ∧ r.2.1.length ≤ 1 from by rw [← hr]; exact step_out x _ sent _)
   clear hr hto
   generalize hb2 : (Code.block 2 _ : Code) = CB
   generalize h20 : (Code.region 20 _ _ : Code) = R20
   go_wp2_with (first | ((with_reducible refine isLd 57 ?_); (refine wpList_load_midG (by kernel_rfl) 57 _ rfl (b) (off + j * 23) rfl (cellsV x) _ (HEV.out) Try.underlying57 rfl (HZE.out) ?_); simp only [Act.put, sbA, szA, ssA]) | ((with_reducible show wpList _ _ _ (Oper.mk (some 12) (Op.alloc 57) _ _ _ _ :: _) _ _); (refine L_alloc H rfl 57 rfl (cat (partsE ev0)) (fun _ _ => by kernel_rfl) ?_); clear H; intro g12 w12 HGg12 HEg12 H; simp only [Act.put, sbA, szA, ssA]) | ((with_reducible refine isSt 57 ?_); refine L_sa H rfl rfl 57 _ _ rfl 0 rfl rfl (partsE x) rfl rfl (by kernel_rfl) ?_; clear H; intro w13 HWw13 H; simp only [szA] at H) | ((with_reducible refine isLd 5 ?_); (refine L_f1 H rfl 5 _ rfl 0 rfl _ rfl _ rfl _ rfl Try.underlying5 rfl ?_); simp only [Act.put, sbA, szA, ssA]) | ((with_reducible refine isLd 3 ?_); (refine L_f1 H rfl 3 _ rfl 0 rfl _ rfl _ rfl _ rfl Try.underlying3 rfl ?_); simp only [Act.put, sbA, szA, ssA]) | ((with_reducible refine isLd 57 ?_); refine L_fa H rfl 57 _ rfl 0 rfl rfl Try.underlying57 rfl (by kernel_rfl) ?_; simp only [Act.put, sbA, szA, ssA]) | (go_at_call 23; have HC12 := kp ((Chg.refl _).past HEg12.out HWw13.out (Nat.le_of_eq HGg12.out.symm)); refine (HMS.out _ HC12.out).mono ?_; rintro e wm ⟨u, rfl, hu1, hu2, hx⟩; have HU1 := kp hu1; have HU2 := kp hu2; clear hu1 hu2; have H2 := kp (H.out.ext hx); have HXC := kp hx; clear H hx; have H := H2; clear H2; have HCW0 := kp (HC12.out.ext HXC.out); clear HC12) | ((with_reducible show wpList _ _ _ (Oper.mk (some 16) (Op.alloc 32) _ _ _ _ :: _) _ _); (refine L_alloc H rfl 32 rfl (cat (partsF fw0)) (fun _ _ => by kernel_rfl) ?_); clear H; intro g16 w16 HGg16 HEg16 H; simp only [Act.put, sbA, szA, ssA]))
   obtain ⟨ua, un, uc, rfl, HUN⟩ : ∃ ua un uc, u = .slice ua un uc ∧ Kp (∀ b, msgF x sent = some b → un = b.length) := by
    cases hmo : msgF x sent with
    | none => exact ⟨none, 0, 0, HU2.out hmo, kp (fun b q => by cases q)⟩
    | some b =>
     obtain ⟨a1, a2, e⟩ := owns_form (HU1.out b hmo)
     exact ⟨a1, _, a2, e, kp (fun b2 q => by cases q; rfl)⟩
   have HGM := kp (show wm.heap.size ≤ g16 from Nat.le_of_eq HGg16.out.symm)
   have HGW := kp (show wr.heap.size ≤ g16 from Nat.le_trans HCW0.out.1 HGM.out)
   have HMB := kp (fun b (hb : msgF x sent = some b) => msgF_len HSL.out hb)
   have HL6w := kp (H.out.lt 2 rfl)
   subst hb2
   refine wp_cut (17 :: 18 :: 50 :: 51 :: 52 :: 53 :: 54 :: 55 :: 56 :: 57 :: 58 :: 59 :: 60 :: 61 :: 62 :: 63 :: 64 :: 65 :: 66 :: 67 :: 68 :: 69 :: 70 :: 71 :: 72 :: 73 :: 74 :: 75 :: 76 :: 77 :: 78 :: 79 :: 80 :: 81 :: 82 :: 83 :: []) (RunC r x s p w wr wm w16 g16 g12 g6 g2) ?_ ?_
   ·have HL16 := kp (H.out.lt 0 rfl)
    have HCM := kp ((Chg.refl wm).ext HEg16.out)
    have HCW := kp (HCW0.out.ext HEg16.out)
    by_cases h0 : x.kind = 0
    ·have hk0 : (x.kind == 0) = true := by simp [h0]
     have HCA := kp (show ∀ W, Calls Try.prog 10 #[.agg (cat (partsF s.2)).toArray, .int .i64 (now + x.wait)] W (ResR r W) from fun W => by
      have := start_any s.2 (now + x.wait) W
      rwa [show startF s.2 (now + x.wait) = r from by rw [← HR.out]; unfold stepF; rw [if_pos h0]] at this)
     clear h0
     go_wp2_with (first | ((with_reducible refine isLd 5 ?_); (refine L_f1 H rfl 5 _ rfl 1 rfl _ rfl _ rfl _ rfl Try.underlying5 rfl ?_); simp only [Act.put, sbA, szA, ssA]) | ((with_reducible refine isLd 32 ?_); refine L_fg H rfl 32 _ rfl 2 rfl _ rfl _ rfl (partsF s.2) rfl Try.underlying32 rfl (by kernel_rfl) ?_; simp only [Act.put, sbA, szA, ssA]) | ((with_reducible refine isSt 32 ?_); refine L_sa H rfl rfl 32 _ _ rfl 0 rfl rfl (partsF r.1) rfl rfl (by kernel_rfl) ?_; clear H; intro ws HWws H; simp only [szA] at H) | (go_at_call 10; refine (HCA.out _).mono ?_; rintro e wt ⟨v, rfl, hs, hx⟩; have HSA := kp hs; clear hs; have H2 := kp (H.out.ext hx); have HXC := kp hx; clear H hx; have H := H2; clear H2))
     exact CutP.of rfl (by kernel_rfl) ⟨rfl, kp (HSA.out.out HWws.out.out (by intro z hz; rcases List.mem_singleton.1 hz with rfl; exact HL16.out)), kp ((HCM.out.ext HXC.out).wrote HWws.out HGM.out), kp ((HCW.out.ext HXC.out).wrote HWws.out HGW.out), H⟩
    ·have hk0 : (x.kind == 0) = false := by simp [h0]
     cases hmo : msgF x sent with
     | none =>
      have HCA := kp (show ∀ W, Calls Try.prog 13 #[.agg (cat (partsF s.2)).toArray, .int .i64 (now + x.wait)] W (ResR r W) from fun W => by
       have := tick_any s.2 (now + x.wait) W
       rwa [show tickF s.2 (now + x.wait) = r from by rw [← HR.out]; unfold stepF; rw [if_neg h0, hmo]] at this)
      clear h0 hmo
      go_wp2_with (first | ((with_reducible refine isLd 5 ?_); (refine L_f1 H rfl 5 _ rfl 1 rfl _ rfl _ rfl _ rfl Try.underlying5 rfl ?_); simp only [Act.put, sbA, szA, ssA]) | ((with_reducible refine isLd 32 ?_); refine L_fg H rfl 32 _ rfl 2 rfl _ rfl _ rfl (partsF s.2) rfl Try.underlying32 rfl (by kernel_rfl) ?_; simp only [Act.put, sbA, szA, ssA]) | ((with_reducible refine isSt 32 ?_); refine L_sa H rfl rfl 32 _ _ rfl 0 rfl rfl (partsF r.1) rfl rfl (by kernel_rfl) ?_; clear H; intro ws HWws H; simp only [szA] at H) | (go_at_call 13; refine (HCA.out _).mono ?_; rintro e wt ⟨v, rfl, hs, hx⟩; have HSA := kp hs; clear hs; have H2 := kp (H.out.ext hx); have HXC := kp hx; clear H hx; have H := H2; clear H2))
      exact CutP.of rfl (by kernel_rfl) ⟨rfl, kp (HSA.out.out HWws.out.out (by intro z hz; rcases List.mem_singleton.1 hz with rfl; exact HL16.out)), kp ((HCM.out.ext HXC.out).wrote HWws.out HGM.out), kp ((HCW.out.ext HXC.out).wrote HWws.out HGW.out), H⟩
     | some b =>
      have HCA := kp (show ∀ W, Ext wm W → Calls Try.prog 15 #[.agg (cat (partsF s.2)).toArray, .slice ua un uc, .int .i64 (now + x.wait)] W (ResR r W) from fun W hx => by
       have := handle_own s.2 b (HMB.out b hmo) (now + x.wait) _ _ W (owns_ext (HU1.out b hmo) hx)
       rwa [show handleF s.2 b (now + x.wait) = r from by rw [← HR.out]; unfold stepF; rw [if_neg h0, hmo]] at this)
      clear h0 hmo
      go_wp2_with (first | ((with_reducible refine isLd 5 ?_); (refine L_f1 H rfl 5 _ rfl 1 rfl _ rfl _ rfl _ rfl Try.underlying5 rfl ?_); simp only [Act.put, sbA, szA, ssA]) | ((with_reducible refine isLd 32 ?_); refine L_fg H rfl 32 _ rfl 2 rfl _ rfl _ rfl (partsF s.2) rfl Try.underlying32 rfl (by kernel_rfl) ?_; simp only [Act.put, sbA, szA, ssA]) | ((with_reducible refine isSt 32 ?_); refine L_sa H rfl rfl 32 _ _ rfl 0 rfl rfl (partsF r.1) rfl rfl (by kernel_rfl) ?_; clear H; intro ws HWws H; simp only [szA] at H) | (go_at_call 15; refine (HCA.out _ HEg16.out).mono ?_; rintro e wt ⟨v, rfl, hs, hx⟩; have HSA := kp hs; clear hs; have H2 := kp (H.out.ext hx); have HXC := kp hx; clear H hx; have H := H2; clear H2))
      exact CutP.of rfl (by kernel_rfl) ⟨rfl, kp (HSA.out.out HWws.out.out (by intro z hz; rcases List.mem_singleton.1 hz with rfl; exact HL16.out)), kp ((HCM.out.ext HXC.out).wrote HWws.out HGM.out), kp ((HCW.out.ext HXC.out).wrote HWws.out HGW.out), H⟩
   clear H
   rintro vs2 W ⟨c18, HSO, HCM, HCW, H⟩
   simp only [putMany, List.setIfInBounds_toArray, List.set_cons_zero, List.set_cons_succ]
   rw [c18]
   go_wp2_with fail
   subst h20
   refine wp_cut (84 :: 85 :: 86 :: 87 :: 88 :: 89 :: 90 :: 91 :: 92 :: 93 :: 94 :: 95 :: 96 :: 97 :: 98 :: 99 :: 100 :: 101 :: 102 :: 103 :: 104 :: 105 :: 106 :: 107 :: 108 :: 109 :: []) (RunQ (r.2.2 == 0 && badB x sent) W) ?_ ?_
   ·cases he : (r.2.2 == 0) with
    | false =>
     go_wp2_with fail
     exact CutP.of rfl (by kernel_rfl) ⟨rfl, rfl⟩
    | true =>
     cases hmo : msgF x sent with
     | none =>
      have HQ := kp (show badB x sent = false from by unfold badB; rw [hmo])
      go_wp2_with fail
      all_goals exact CutP.of rfl (by kernel_rfl) ⟨by show Value.bool _ = Value.bool _; rw [HQ.out]; rfl, rfl⟩
     | some b =>
      cases b with
      | nil =>
       have HQ := kp (show badB x sent = false from by unfold badB; rw [hmo]; simp)
       obtain rfl : un = 0 := HUN.out _ hmo
       go_wp2_with ((with_reducible refine isLd 5 ?_); (refine L_f1 H rfl 5 _ rfl 1 rfl _ rfl _ rfl _ rfl Try.underlying5 rfl ?_); simp only [Act.put, sbA, szA, ssA])
       all_goals exact CutP.of rfl (by kernel_rfl) ⟨by show Value.bool _ = Value.bool _; rw [HQ.out]; rfl, rfl⟩
      | cons b0 bs =>
       have HQ := kp (show badB x sent = ((x.kind == 2) && (wI x.by_ != 0) && (wI b0 != 1)) from by
        unfold badB
        rw [hmo]
        show ((x.kind == 2) && (x.by_ != 0) && true && (kindP (b0 :: bs) != 1)) = _
        rw [show (wI x.by_ != 0) = (x.by_ != 0) from wI_ne0 _, Bool.and_true]
        rfl)
       have hun : un = bs.length + 1 := HUN.out _ hmo
       subst hun
       obtain ⟨gm, cm, cs, hsl, _, hL, _, _, _, hct⟩ := owns_open (ownsT_chgB (HU1.out _ hmo) HCM.out) (by simp)
       cases hsl
       have hc := hL.cell (i := 0) (v := .int .u8 (wI b0)) (by
        have h1 : (cs.take (b0 :: bs).length)[0]? = some (V8 b0) := by rw [hct]; rfl
        rw [List.getElem?_take, if_pos (by simp)] at h1
        exact h1)
       go_wp2_with ((with_reducible refine isLd 5 ?_); (refine L_f1 H rfl 5 _ rfl 1 rfl _ rfl _ rfl _ rfl Try.underlying5 rfl ?_); simp only [Act.put, sbA, szA, ssA])
       all_goals exact CutP.of rfl (by kernel_rfl) ⟨by show Value.bool _ = Value.bool _; rw [HQ.out]; simp_all, rfl⟩
   rintro vs3 W ⟨c109, rfl⟩
   simp only [putMany, List.setIfInBounds_toArray, List.set_cons_zero, List.set_cons_succ]
   rw [c109]
   have HA := kp (ownsT_chgB HA.out HCW.out)
   have HS := kp (HS.out.chg HCW.out)
   cases he : (r.2.2 == 0) with
   | false =>
    have HNX := kp (show nextF x s r = s ∧ sentF sent r = sent from by
     have : ¬ r.2.2 = 0 := by simpa using he
     exact ⟨by unfold nextF; rw [if_neg this], by unfold sentF; rw [if_neg this]⟩)
    have HIF := kp (show ¬ (r.2.2 = 0 ∧ badB x sent = true) from fun q => absurd q.1 (by simpa using he))
    rw [Bool.false_and]
    go_wp2_with (first | ((with_reducible refine isLd 55 ?_); refine L_fa H rfl 55 _ rfl 2 rfl rfl Try.underlying55 rfl (by kernel_rfl) ?_; simp only [Act.put, sbA, szA, ssA]) | ((with_reducible show wpList _ _ _ (Oper.mk (some 121) (Op.buildSlice 65 _ _) _ _ _ _ :: _) _ _); (refine L_bs H (by kernel_rfl) 65 1 _ rfl (#[(0, .agg (cells2 s).toArray)]) (by kernel_rfl) 55 (cells2 s) (run_bs2 s) ?_); clear H; intro g121 w121 HGg121 HEg121 H; simp only [Act.put, sbA, szA, ssA]) | ((with_reducible show wpList _ _ _ (Oper.mk (some 122) _ _ _ _ _ :: _) _ _); have HL9 := kp (H.out.at 0 rfl); have H2 := kp (Loc.tail (Loc.tail (Loc.tail H.out))); clear H; have H := H2; clear H2; have HA2 := kp (ownsT_ext HA.out HEg121.out); have HS2 := kp (HS.out.ext HEg121.out); refine L_appT elem2 H rfl _ _ rfl (g6 + 1) HB2.out (H.out.lt 0 rfl) _ L rfl HA2.out (by intro z hz q; have := ownsT_block HA2.out z q; simp at hz; have := HB26.out; omega) g121 s rfl _ HL9.out (cells2_len _) (cells2_one _) (by have := HLL.out; omega) (by have := HLL.out; omega) ?_; clear H HA HS; intro va wM HAN HGM2 HWH H; have HSN := kp (HS2.out.sepG HA2.out (by decide) (by decide) HGM2.out); simp only [Act.put, sbA, szA, ssA]))
    have HTN := kp (show tot = (L ++ [s]) ++ runF (l.drop (j + 1)) s (sent) (now + x.wait) from by rw [HT.out, HDR.out, HRC.out, if_neg HIF.out, HNX.out.1, HNX.out.2, List.append_assoc]; rfl)
    have HSLN := kp (show ∀ m ∈ (sent), m.length ≤ 100000 from by intro m hm; first | exact HSL.out m hm | (rcases List.mem_append.1 hm with q | q; exact HSL.out m q; exact HRO.out.1 m q))
    have HLNN := kp (show (L ++ [s]).length = j + 1 + 1 from by rw [List.length_append, HLL.out]; rfl)
    exact LoopP.of rfl (by kernel_rfl) ⟨j + 1, s, sent, now + x.wait, L ++ [s], by omega, by show Value.int .i64 _ = Value.int .i64 _; go_num, rfl, by omega, by omega, HTN, HLNN, HSLN, by (try rw [List.length_append]); have := HRO.out.2; omega, HAN, HSN, H⟩ (by simp [intOf]; omega)
   | true =>
    cases hq : badB x sent with
    | true =>
     go_wp2_with fail
     go_ret2
     exact runE (by rw [HT.out, HDR.out, HRC.out, if_pos ⟨by simpa using he, hq⟩]; exact List.append_nil _) HA.out H.out.1
    | false =>
     have HNX := kp (show nextF x s r = (s.1, r.1) ∧ sentF sent r = sent ++ r.2.1 from by
      have : r.2.2 = 0 := by simpa using he
      exact ⟨by unfold nextF; rw [if_pos this]; exact HPT.out _, by unfold sentF; rw [if_pos this]⟩)
     have HIF := kp (show ¬ (r.2.2 = 0 ∧ badB x sent = true) from fun q => by rw [hq] at q; cases q.2)
     go_wp2_with (first | ((with_reducible refine isLd 32 ?_); refine L_fa H rfl 32 _ rfl 0 rfl rfl Try.underlying32 rfl (by kernel_rfl) ?_; simp only [Act.put, sbA, szA, ssA]) | ((with_reducible refine isSt 32 ?_); refine L_sg H rfl rfl 32 _ _ rfl 2 rfl _ rfl _ rfl 16 (partsF r.1) rfl (by kernel_rfl) (by kernel_rfl) (parts2 (s.1, r.1)) (by kernel_rfl) ?_; clear H; intro wz HWwz H; simp only [ssA, szA] at H) | ((with_reducible show wpList _ _ _ (Oper.mk (some 118) _ _ _ _ _ :: _) _ _); have HLC := kp (H.out.lt 2 rfl); have H2 := kp (Loc.tail (Loc.tail H.out)); clear H; have H := H2; clear H2; have HSZ := kp (HS.out.out HWwz.out.out (by intro z hz; rcases List.mem_singleton.1 hz with rfl; omega)); have HOZ := kp (HSO.out.out HWwz.out.out (by intro z hz; rcases List.mem_singleton.1 hz with rfl; exact HL6w.out)); have HAZ := kp (owns_wrote HA.out HWwz.out (Nat.lt_succ_self _)); clear HS HA; refine L_appM H rfl _ _ rfl (g6 + 1) HB2.out HLC.out (by intro z hz; simp at hz; have := HB26.out; omega) _ sent rfl HSZ.out _ r.2.1 w16.heap.size rfl HOZ.out HL6w.out (by have := HRO.out.2; omega) ?_; clear H; intro vb wN HS HGN H; have HA := kp (owns_sepM HAZ.out HSZ.out (by decide) HGN.out); simp only [Act.put, sbA, szA, ssA]) | ((with_reducible refine isLd 55 ?_); refine L_fa H rfl 55 _ rfl 0 rfl rfl Try.underlying55 rfl (by kernel_rfl) ?_; simp only [Act.put, sbA, szA, ssA]) | ((with_reducible show wpList _ _ _ (Oper.mk (some 121) (Op.buildSlice 65 _ _) _ _ _ _ :: _) _ _); (refine L_bs H (by kernel_rfl) 65 1 _ rfl (#[(0, .agg (cells2 (s.1, r.1)).toArray)]) (by kernel_rfl) 55 (cells2 (s.1, r.1)) (run_bs2 (s.1, r.1)) ?_); clear H; intro g121 w121 HGg121 HEg121 H; simp only [Act.put, sbA, szA, ssA]) | ((with_reducible show wpList _ _ _ (Oper.mk (some 122) _ _ _ _ _ :: _) _ _); have HL9 := kp (H.out.at 0 rfl); have H2 := kp (Loc.tail H.out); clear H; have H := H2; clear H2; have HA2 := kp (ownsT_ext HA.out HEg121.out); have HS2 := kp (HS.out.ext HEg121.out); refine L_appT elem2 H rfl _ _ rfl (g6 + 1) HB2.out (H.out.lt 0 rfl) _ L rfl HA2.out (by intro z hz q; have := ownsT_block HA2.out z q; simp at hz; have := HB26.out; omega) g121 (s.1, r.1) rfl _ HL9.out (cells2_len _) (cells2_one _) (by have := HLL.out; omega) (by have := HLL.out; omega) ?_; clear H HA HS; intro va wM HAN HGM2 HWH H; have HSN := kp (HS2.out.sepG HA2.out (by decide) (by decide) HGM2.out); simp only [Act.put, sbA, szA, ssA]))
     have HTN := kp (show tot = (L ++ [(s.1, r.1)]) ++ runF (l.drop (j + 1)) (s.1, r.1) ((sent ++ r.2.1)) (now + x.wait) from by rw [HT.out, HDR.out, HRC.out, if_neg HIF.out, HNX.out.1, HNX.out.2, List.append_assoc]; rfl)
     have HSLN := kp (show ∀ m ∈ ((sent ++ r.2.1)), m.length ≤ 100000 from by intro m hm; first | exact HSL.out m hm | (rcases List.mem_append.1 hm with q | q; exact HSL.out m q; exact HRO.out.1 m q))
     have HLNN := kp (show (L ++ [(s.1, r.1)]).length = j + 1 + 1 from by rw [List.length_append, HLL.out]; rfl)
     exact LoopP.of rfl (by kernel_rfl) ⟨j + 1, (s.1, r.1), (sent ++ r.2.1), now + x.wait, L ++ [(s.1, r.1)], by omega, by show Value.int .i64 _ = Value.int .i64 _; go_num, rfl, by omega, by omega, HTN, HLNN, HSLN, by (try rw [List.length_append]); have := HRO.out.2; omega, HAN, HSN, H⟩ (by simp [intOf]; omega)
 ·obtain rfl : j = l.length := by omega
  go_wp2_with fail
  all_goals try (exfalso; omega)
  go_ret2
  exact runE (by rw [HT.out, List.drop_length]; exact List.append_nil _) HA.out H.out.1
end Go.Proofs.Ytibncchobkaaiaa
namespace Go.Proofs.Ytibncchobkaaiaa
open Go.RowKit
theorem SlT.at2 {w : World} {v : Value} {l : List (Fw × Fw)} (h : SlT 262 cells2 w v l) {j : Nat} {x : Fw × Fw} (hj : l[j]? = some x) : ∃ b off c, v = .slice (some ⟨b, off, none⟩) l.length c ∧ b < w.heap.size ∧ w.rangeAt b (off + j * 262) (cells2 x) := by
 obtain ⟨ad, n, c, rfl, rfl, _, h4⟩ := h
 obtain ⟨b, off, rfl, hb, hr⟩ := h4 j x hj
 exact ⟨b, off, c, rfl, hb, hr⟩
theorem runF_len : ∀ (l : List Ev) (s : Fw × Fw) (sent : List By) (now : Int), (runF l s sent now).length ≤ l.length
 | [], _, _, _ => Nat.le_refl _
 | o :: l, s, sent, now => by
  unfold runF
  split
  ·exact Nat.zero_le _
  ·rw [List.length_cons, List.length_cons]; exact Nat.succ_le_succ (runF_len l _ _ _)
theorem Loc.none {w0 w : World} {bs : List Bk} (h : Loc w0 w bs) : Loc w0 w [] := ⟨h.1, List.nodup_nil, fun b hb => by cases hb⟩
end Go.Proofs.Ytibncchobkaaiaa
