/- Texts of this proof, put together: RfJ. -/
import Derived.Test.YtibncchobkaaiaaF28
import Derived.Test.YtibncchobkaaiaaF1
namespace Go.Proofs.Ytibncchobkaaiaa
open Go.RowKit
theorem cat_set {ps : List Lf} {off i : Nat} {p : Lf} (h : fat ps off = some i) (hp : nth ps i = some p) (k : Nat) (hk : k < p.n) (v : Value) (q : Lf) (hq : q.cs = p.cs.set k v) : (cat ps).set (off + k) v = cat (pput ps i 1 [q]) := by
 obtain ⟨h1, h2, h3⟩ := fat_spec h
 have e : cat ps = cat (ps.take i) ++ (p.cs ++ cat (ps.drop (i + 1))) := by
  rw [← cat_cons, ← nth_get hp, ← cat_append, List.take_append_drop]
 have hl : (cat (ps.take i)).length = off := by rw [cat_len, ← h3]
 rw [e, List.set_append_right _ _ (by omega), hl, Nat.add_sub_cancel_left, List.set_append_left _ _ (by rw [p.h]; exact hk), ← hq]
 rw [pput, cat_append, cat_append, cat1, List.append_assoc]
def midS (s : Fw) (b : By) (g : Int × Vc 16) : Fw := if s.stage = 4 then s else { s with stage := 4, other := nonceP b, pair := keysF s (nonceP b), gid := g.1, gkey := g.2, inst := 1 }
theorem third_mid (s : Fw) (b : By) (g : Int × Vc 16) : s.third b g = { midS s b g with replay := countP b } := by
 unfold Fw.third midS
 split <;> rfl
theorem over_step {y : By} {g0 : Vc 16} {k : Nat} (hk : k < 16) {x : BitVec 8} (hx : y[k]? = some x) : (over (y.take (k + 1)) g0).1.map V8 = ((over (y.take k) g0).1.map V8).set k (V8 x) := by
 obtain ⟨hl, hx2⟩ := List.getElem?_eq_some_iff.1 hx
 rw [← List.map_set]
 congr 1
 rw [over_val, over_val]
 have e1 : min (y.take k).length 16 = k := by simp; omega
 have e2 : min (y.take (k + 1)).length 16 = k + 1 := by simp; omega
 rw [e1, e2, List.take_take, List.take_take, Nat.min_self, Nat.min_self, List.take_add_one, hx]
 rw [List.set_append_right _ _ (by simp; omega)]
 have e3 : k - (y.take k).length = 0 := by simp; omega
 have e4 : g0.1.drop k = g0.1[k]'(by rw [g0.2]; exact hk) :: g0.1.drop (k + 1) := List.drop_eq_getElem_cons _
 rw [e3, e4, List.set_cons_zero, List.append_assoc]
 rfl
theorem over_all {y : By} (g0 : Vc 16) (h : y.length = 16) : over (y.take 16) g0 = fit 16 y := by
 have e : y.take 16 = y := List.take_of_length_le (by omega)
 refine Subtype.ext ?_
 rw [e, over_val, fit_val (by omega), e, h, Nat.min_self, e, List.drop_of_length_le (by rw [g0.2]; decide), List.append_nil]
theorem key_step {t : Fw} {y : By} {g0 : Vc 16} {k : Nat} (hk : k < 16) {x : BitVec 8} (hx : y[k]? = some x) : (cat (partsF { t with gkey := over (y.take k) g0 })).set (114 + k) (V8 x) = cat (partsF { t with gkey := over (y.take (k + 1)) g0 }) := by
 rw [cat_set (i := 14) (p := Lf.v (over (y.take k) g0)) rfl rfl k hk _ (Lf.v (over (y.take (k + 1)) g0)) (over_step hk hx)]
 rfl
theorem cov_parse {b : By} (h : parseE b = 0) : coverN (kindP b) (countP b) (nonceP b).1 = fit 13 (b.take 9) ∧ coverA (kindP b) (countP b) (nonceP b).1 = b.take 25 := by
 have h43 := (parse_yes h).1
 have hf := front_parse h
 unfold coverN coverA
 rw [← front_take (kindP b) (countP b) (nonceP b) (dataP b) 9 (by decide), ← front_take (kindP b) (countP b) (nonceP b) (dataP b) 25 (by decide), hf, List.take_take, List.take_take, Nat.min_eq_left (by omega), Nat.min_eq_left (by omega)]
 exact ⟨rfl, rfl⟩
theorem openG_no {b : By} {k : By} (h : parseE b = 0) (ho : openOk k (fit 13 (b.take 9)).1 (b.take 25) (dataP b) = false) : openG b k = none := by
 obtain ⟨e1, e2⟩ := cov_parse h
 unfold openG
 exact openM_no (by rw [e1, e2]; exact ho)
theorem openG_yes {b : By} {k : By} (h : parseE b = 0) (hd : (dataP b).length = 25) (ho : openOk k (fit 13 (b.take 9)).1 (b.take 25) (dataP b) = true) : openG b k = if wI ((openB k (fit 13 (b.take 9)).1 (dataP b)).getD 0 0) = 2 ∨ wI ((openB k (fit 13 (b.take 9)).1 (dataP b)).getD 0 0) = 3 then some (wI ((openB k (fit 13 (b.take 9)).1 (dataP b)).getD 0 0), fit 16 ((openB k (fit 13 (b.take 9)).1 (dataP b)).drop 1)) else none := by
 obtain ⟨e1, e2⟩ := cov_parse h
 unfold openG
 rw [openM_yes (by rw [e1, e2]; exact ho) hd, e1]
theorem third_cases {s : Fw} {b : By} (hk : kindP b = 3) (h0 : s.stage ≠ 0) (hp : parseE b = 0) :
  (countP b ≤ s.replay → supF s b = errR 21) ∧ (¬ countP b ≤ s.replay → ((s.stage = 4 ∧ nonceP b ≠ s.other) ∨ codedF b (keysF s (nonceP b)).c.1 = false) → supF s b = errR 33) ∧ (¬ countP b ≤ s.replay → ¬ ((s.stage = 4 ∧ nonceP b ≠ s.other) ∨ codedF b (keysF s (nonceP b)).c.1 = false) → openG b (keysF s (nonceP b)).w.1 = none → supF s b = errR 31) ∧
  (∀ g, ¬ countP b ≤ s.replay → ¬ ((s.stage = 4 ∧ nonceP b ≠ s.other) ∨ codedF b (keysF s (nonceP b)).c.1 = false) → openG b (keysF s (nonceP b)).w.1 = some g → supF s b = ({ midS s b g with replay := countP b }, [signedF (keysF s (nonceP b)).c.1 4 (countP b) (zv 16).1 []], 0)) := by
 have e := coded_eq hp (by omega) (keysF s (nonceP b)).c.1
 have e0 : supF s b = thirdF s b := by unfold supF; rw [if_neg (by omega), if_neg (by omega)]
 rw [e0]
 unfold thirdF thirdE
 rw [e]
 refine ⟨fun h => by simp [h], fun h h1 => ?_, fun h h1 h2 => ?_, fun g h h1 h2 => ?_⟩
 ·rw [if_neg h, if_pos h1]; rfl
 ·rw [if_neg h, if_neg h1, if_pos h2]; rfl
 ·rw [if_neg h, if_neg h1, if_neg (by rw [h2]; simp), h2, third_mid]; rfl
def SuC (w : World) (bs : List Bk) (_ : Tmp → Value) (W : World) : Prop := Kp (Loc w W bs)
def KeyR (w : World) (_ : Nat) (bs : List Bk) (g3 : Nat) (t : Fw) (y : By) (g0 : Vc 16) (B0 : Nat) (X : By) (v : Value) (i : Value) (wr : World) : Prop := ∃ k : Nat, k ≤ 16 ∧ i = .int .i64 k ∧ Kp (Loc w wr (bs ++ [(g3, 32, cat (partsF { t with gkey := over (y.take k) g0 }))])) ∧ Kp (wr.ownsRow B0 5 1 v 17 (X.map V8))
def SuC2 (w w14 : World) (bs : List Bk) (_ : Tmp → Value) (W : World) : Prop := Kp (Loc w W bs) ∧ w14 = W
set_option maxRecDepth 10000 in
set_option maxHeartbeats 6400000 in
theorem rsup3_any (s : Fw) (gb ob n c : Nat) (b : By) (hst : s.stage = 2 ∨ s.stage = 4) (hk : kindP b = 3) (hp : parseE b = 0) (hb : b.length ≤ 100000) (ad : Option Addr) (m cp : Nat) (w : World) (hs : SlB w (.slice (some ⟨gb, ob, none⟩) n c) b) (hcap : CapOk (.slice (some ⟨gb, ob, none⟩) n c)) (hsd : SlB w (.slice ad m cp) (dataP b)) (hcd : CapOk (.slice ad m cp)) :
  Calls Try.prog 37 #[.agg (cat (partsF s)).toArray, .slice (some ⟨gb, ob, none⟩) n c, .agg (cat (partsM (kindP b) (countP b) (nonceP b) ad m cp)).toArray] w (ResR (supF s b) w) := by
 have H := kp (Loc.start w)
 have h43 := (parse_yes hp).1
 have HCO := kp (fun W (hx : Ext w W) => rcoded_any gb ob n c b h43 hb (keysF s (nonceP b)).c W (hs.ext hx) hcap)
 obtain ⟨hr1, hr2, hr3, hr4⟩ := third_cases (s := s) hk (by omega) hp
 have T21 := kp hr1
 have T33 := kp hr2
 have T31 := kp hr3
 have T0 := kp hr4
 have hdl : (dataP b).length = 25 := by
  have h5 := (odd_no (parse_yes hp).2).2.2.2.2.1
  unfold wantP at h5
  rw [if_pos hk] at h5
  omega
 have HDL := kp hdl
 have HKY := kp (rkeys_any s (nonceP b))
 have HRS := kp (fun W (hx : Ext w W) => rsealing_any b (by omega) _ W (hs.ext hx) hcap)
 have ON := kp (fun h => openG_no (k := (keysF s (nonceP b)).w.1) hp h)
 have OY := kp (fun h => openG_yes (k := (keysF s (nonceP b)).w.1) hp hdl h)
 have HSD := kp hsd
 have HOP := kp (fun va W (h1 : SlB W va (b.take 25)) (hx : Ext w W) => ropen_own (keysF s (nonceP b)).w.1 (fit 13 (b.take 9)).1 (keysF s (nonceP b)).w.2 (fit 13 (b.take 9)).2 va (.slice ad m cp) (b.take 25) (dataP b) (by rw [List.length_take]; omega) (by omega) (by omega) W h1 (hsd.ext hx) hcd)
 obtain ⟨hc0, hc1⟩ := count_rng hp
 have HMS := kp (fun W => rmessage_any (keysF s (nonceP b)).c 4 (countP b) (by decide) (by decide) (by decide) hc0 (by omega) (zv 16) none 0 0 [] (by decide) W (SlB.nil W))
 have HST := kp hst
 have e1 : (kindP b == 1) = false := by simp [hk]
 have e2 : (kindP b != 3) = false := by simp [hk]
 have e3 : (s.stage == 0) = false := by rcases hst with h | h <;> simp [h]
 obtain ⟨P, hP⟩ : ∃ P, P = keysF s (nonceP b) := ⟨_, rfl⟩
 rw [← hP] at HCO HKY ON OY HOP HMS T33 T31 T0
 have HP := kp hP
 have HXL := kp (show (openB P.w.1 (fit 13 (b.take 9)).1 (dataP b)).length = 17 by rw [openB_len, hdl])
 generalize openB P.w.1 (fit 13 (b.take 9)).1 (dataP b) = X at *
 generalize openOk P.w.1 (fit 13 (b.take 9)).1 (b.take 25) (dataP b) = ok at *
 generalize codedF b P.c.1 = cd at *
 generalize supF s b = r at *
 generalize signedF P.c.1 4 (countP b) (zv 16).1 [] = M at *
 clear hP hst hk hp hb hs hcap hsd hcd h43 hr1 hr2 hr3 hr4 hdl hc0 hc1
 go_enter Try.func37, Try.ntmps37
 generalize h10 : (Code.region 10 _ _ : Code) = R10
 generalize h11 : ((Code.region 11 _ _ : Code).seq _) = C11
 generalize h13 : (Code.region 13 _ _ : Code) = R13
 generalize h15 : ((Code.region 15 _ _ : Code).seq _) = C15
 generalize h17 : ((Code.region 17 _ _ : Code).seq _) = C17
 generalize h27 : (Code.region 27 _ _ : Code) = R27
 generalize h28 : (Code.region 28 _ _ : Code) = R28
 by_cases hcl : countP b ≤ s.replay
 ·have HK := kp (T21.out hcl)
  go_wp2_with (first | ((with_reducible refine isBx 3 32 ?_); (refine L_box H rfl 32 _ rfl (cat (partsF s)) rfl ?_); clear H; intro g3 w3 HGg3 HEg3 H; simp only [pA]) | ((with_reducible refine isBx 5 89 ?_); (refine L_box H rfl 89 _ rfl (cat (partsM (kindP b) (countP b) (nonceP b) ad m cp)) rfl ?_); clear H; intro g5 w5 HGg5 HEg5 H; simp only [pA]) | ((with_reducible refine isAl 6 32 ?_); (refine L_alloc H rfl 32 rfl (cat (partsF fw0)) (fun _ _ => by kernel_rfl) ?_); clear H; intro g6 w6 HGg6 HEg6 H; simp only [pA]) | ((with_reducible refine isLd 5 ?_); (first | (refine L_f1 H rfl 5 _ rfl 1 rfl _ rfl _ rfl _ rfl Try.underlying5 rfl ?_) | (refine L_f1 H rfl 5 _ rfl 2 rfl _ rfl _ rfl _ rfl Try.underlying5 rfl ?_)); simp only [pA]) | ((with_reducible refine isLd 3 ?_); (first | (refine L_f1 H rfl 3 _ rfl 1 rfl _ rfl _ rfl _ rfl Try.underlying3 rfl ?_) | (refine L_f1 H rfl 3 _ rfl 2 rfl _ rfl _ rfl _ rfl Try.underlying3 rfl ?_)); simp only [pA]) | ((with_reducible show wpList _ _ _ (Oper.mk _ (Op.build 32 _) _ _ _ _ :: _) _ _); (refine L_bd rfl 32 _ rfl #[] (by kernel_rfl) (cat (partsF fw0)) (fun _ => by kernel_rfl) ?_); simp only [pA]) | ((with_reducible refine isSt 32 ?_); refine L_sa H rfl rfl 32 _ _ rfl 0 rfl rfl (partsF fw0) rfl rfl (by kernel_rfl) ?_; clear H; intro wz HWwz H; simp only [szA] at H))
  all_goals try (exfalso; omega)
  (exact ret_f3 H Try.results37 0 rfl rfl _ _ rfl rfl Try.underlying32 rfl (by kernel_rfl) rfl (resR_err HK.out H.out.1))
 ·go_wp2_with (first | ((with_reducible refine isBx 3 32 ?_); (refine L_box H rfl 32 _ rfl (cat (partsF s)) rfl ?_); clear H; intro g3 w3 HGg3 HEg3 H; simp only [pA]) | ((with_reducible refine isBx 5 89 ?_); (refine L_box H rfl 89 _ rfl (cat (partsM (kindP b) (countP b) (nonceP b) ad m cp)) rfl ?_); clear H; intro g5 w5 HGg5 HEg5 H; simp only [pA]) | ((with_reducible refine isAl 6 32 ?_); (refine L_alloc H rfl 32 rfl (cat (partsF fw0)) (fun _ _ => by kernel_rfl) ?_); clear H; intro g6 w6 HGg6 HEg6 H; simp only [pA]) | ((with_reducible refine isLd 5 ?_); (first | (refine L_f1 H rfl 5 _ rfl 1 rfl _ rfl _ rfl _ rfl Try.underlying5 rfl ?_) | (refine L_f1 H rfl 5 _ rfl 2 rfl _ rfl _ rfl _ rfl Try.underlying5 rfl ?_)); simp only [pA]) | ((with_reducible refine isLd 3 ?_); (first | (refine L_f1 H rfl 3 _ rfl 1 rfl _ rfl _ rfl _ rfl Try.underlying3 rfl ?_) | (refine L_f1 H rfl 3 _ rfl 2 rfl _ rfl _ rfl _ rfl Try.underlying3 rfl ?_)); simp only [pA]))
  all_goals try (exfalso; omega)
  clear e1 e2 e3
  have HCL := kp hcl
  clear hcl
  subst h10
  go_wp2_with (first | ((with_reducible refine isLd 32 ?_); (refine L_fa H rfl 32 _ rfl 2 rfl rfl Try.underlying32 rfl (by kernel_rfl) ?_); simp only [pA]) | ((with_reducible refine isLd 26 ?_); (refine L_fv H rfl 26 _ rfl 1 rfl _ rfl _ rfl rfl Try.underlying26 rfl (by kernel_rfl) ?_); simp only [pA]) | (go_at_call 55; refine (HKY.out _).mono ?_; rintro e wa ⟨rfl, hx⟩; replace H := kp (H.out.ext hx); have HXC := kp hx; clear hx) | ((with_reducible refine isAl 9 28 ?_); (refine L_alloc H rfl 28 rfl (cat (partsK ks0)) (fun _ _ => by kernel_rfl) ?_); clear H; intro g9 w9 HGg9 HEg9 H; simp only [pA]) | ((with_reducible refine isSt 28 ?_); refine L_sa H rfl rfl 28 _ _ rfl 0 rfl rfl (partsK (P)) rfl rfl (by kernel_rfl) ?_; clear H; intro wq HWwq H; simp only [szA] at H))
  by_cases h33 : (s.stage = 4 ∧ nonceP b ≠ s.other) ∨ cd = false
  ·have HK := kp (T33.out HCL.out h33)
   subst h11
   cases e4 : (s.stage == 4)
   ·obtain rfl : cd = false := h33.resolve_left (fun q => by simp [q.1] at e4)
    clear h33
    go_wp2_with (first | ((with_reducible refine isLd 5 ?_); (refine L_f1 H rfl 5 _ rfl 3 rfl _ rfl _ rfl _ rfl Try.underlying5 rfl ?_); simp only [pA]) | ((with_reducible refine isLd 25 ?_); (refine L_fv H rfl 25 _ rfl 0 rfl _ rfl _ rfl rfl Try.underlying25 rfl (by kernel_rfl) ?_); simp only [pA]) | (go_at_call 56; refine (HCO.out _ H.out.1).mono ?_; rintro e wa ⟨rfl, hx⟩; replace H := kp (H.out.ext hx); have HXC := kp hx; clear hx) | ((with_reducible show wpList _ _ _ (Oper.mk _ (Op.build 32 _) _ _ _ _ :: _) _ _); (refine L_bd rfl 32 _ rfl #[] (by kernel_rfl) (cat (partsF fw0)) (fun _ => by kernel_rfl) ?_); simp only [pA]) | ((with_reducible refine isSt 32 ?_); refine L_sa H rfl rfl 32 _ _ rfl 1 rfl rfl (partsF fw0) rfl rfl (by kernel_rfl) ?_; clear H; intro wz HWwz H; simp only [ssA, szA] at H))
    (exact ret_f3 H Try.results37 1 rfl rfl _ _ rfl rfl Try.underlying32 rfl (by kernel_rfl) rfl (resR_err HK.out H.out.1))
   ·cases hz : decide (nonceP b = s.other)
    ·have HZ := kp hz
     clear hz h33
     go_wp2_with (first | ((with_reducible refine isLd 5 ?_); (refine L_f1 H rfl 5 _ rfl 3 rfl _ rfl _ rfl _ rfl Try.underlying5 rfl ?_); simp only [pA]) | ((with_reducible refine isLd 26 ?_); (first | (refine L_fv H rfl 26 _ rfl 2 rfl _ rfl _ rfl rfl Try.underlying26 rfl (by kernel_rfl) ?_) | (refine L_fv H rfl 26 _ rfl 3 rfl _ rfl _ rfl rfl Try.underlying26 rfl (by kernel_rfl) ?_)); simp only [pA]) | (((with_reducible show wpList _ _ _ (Oper.mk _ (Op.binOp _ 26 _ _ _) _ _ _ _ :: _) _ _); (refine wpList_ne2 rfl 26 _ _ _ rfl _ _ _ rfl rfl Try.eqGuardType26 (eqV_in _ Try.underlying26 _ _ 9998) ?_); simp only [pA]); rw [HZ.out]) | ((with_reducible show wpList _ _ _ (Oper.mk _ (Op.build 32 _) _ _ _ _ :: _) _ _); (refine L_bd rfl 32 _ rfl #[] (by kernel_rfl) (cat (partsF fw0)) (fun _ => by kernel_rfl) ?_); simp only [pA]) | ((with_reducible refine isSt 32 ?_); refine L_sa H rfl rfl 32 _ _ rfl 1 rfl rfl (partsF fw0) rfl rfl (by kernel_rfl) ?_; clear H; intro wz HWwz H; simp only [ssA, szA] at H))
     (exact ret_f3 H Try.results37 1 rfl rfl _ _ rfl rfl Try.underlying32 rfl (by kernel_rfl) rfl (resR_err HK.out H.out.1))
    ·obtain rfl : cd = false := h33.resolve_left (fun q => q.2 (of_decide_eq_true hz))
     have HZ := kp hz
     clear hz h33
     go_wp2_with (first | ((with_reducible refine isLd 5 ?_); (refine L_f1 H rfl 5 _ rfl 3 rfl _ rfl _ rfl _ rfl Try.underlying5 rfl ?_); simp only [pA]) | ((with_reducible refine isLd 26 ?_); (first | (refine L_fv H rfl 26 _ rfl 2 rfl _ rfl _ rfl rfl Try.underlying26 rfl (by kernel_rfl) ?_) | (refine L_fv H rfl 26 _ rfl 3 rfl _ rfl _ rfl rfl Try.underlying26 rfl (by kernel_rfl) ?_)); simp only [pA]) | ((with_reducible refine isLd 25 ?_); (refine L_fv H rfl 25 _ rfl 0 rfl _ rfl _ rfl rfl Try.underlying25 rfl (by kernel_rfl) ?_); simp only [pA]) | (((with_reducible show wpList _ _ _ (Oper.mk _ (Op.binOp _ 26 _ _ _) _ _ _ _ :: _) _ _); (refine wpList_ne2 rfl 26 _ _ _ rfl _ _ _ rfl rfl Try.eqGuardType26 (eqV_in _ Try.underlying26 _ _ 9998) ?_); simp only [pA]); rw [HZ.out]) | (go_at_call 56; refine (HCO.out _ H.out.1).mono ?_; rintro e wa ⟨rfl, hx⟩; replace H := kp (H.out.ext hx); have HXC := kp hx; clear hx) | ((with_reducible show wpList _ _ _ (Oper.mk _ (Op.build 32 _) _ _ _ _ :: _) _ _); (refine L_bd rfl 32 _ rfl #[] (by kernel_rfl) (cat (partsF fw0)) (fun _ => by kernel_rfl) ?_); simp only [pA]) | ((with_reducible refine isSt 32 ?_); refine L_sa H rfl rfl 32 _ _ rfl 1 rfl rfl (partsF fw0) rfl rfl (by kernel_rfl) ?_; clear H; intro wz HWwz H; simp only [ssA, szA] at H))
     (exact ret_f3 H Try.results37 1 rfl rfl _ _ rfl rfl Try.underlying32 rfl (by kernel_rfl) rfl (resR_err HK.out H.out.1))
  ·obtain rfl : cd = true := by cases cd; exact absurd (.inr rfl) h33; rfl
   have H33 := kp h33
   clear h33 T33 T21
   refine wp_cut (61 :: 62 :: 63 :: 64 :: 65 :: 66 :: 67 :: 68 :: 69 :: 70 :: 71 :: 72 :: 73 :: 74 :: 75 :: 76 :: 77 :: []) (SuC w [(g9, 28, cat (partsK P)), (g6, 32, cat (partsF fw0)), (g5, 89, cat (partsM (kindP b) (countP b) (nonceP b) ad m cp)), (g3, 32, cat (partsF (s)))]) ?_ ?_
   ·subst h11
    cases e4 : (s.stage == 4)
    ·go_wp2_with (first | ((with_reducible refine isLd 5 ?_); (refine L_f1 H rfl 5 _ rfl 3 rfl _ rfl _ rfl _ rfl Try.underlying5 rfl ?_); simp only [pA]) | ((with_reducible refine isLd 25 ?_); (refine L_fv H rfl 25 _ rfl 0 rfl _ rfl _ rfl rfl Try.underlying25 rfl (by kernel_rfl) ?_); simp only [pA]) | (go_at_call 56; refine (HCO.out _ H.out.1).mono ?_; rintro e wa ⟨rfl, hx⟩; replace H := kp (H.out.ext hx); have HXC := kp hx; clear hx))
     exact CutP.of rfl (by kernel_rfl) H
    ·have HZ := kp (show decide (nonceP b = s.other) = true from decide_eq_true (Classical.byContradiction fun q => H33.out (.inl ⟨by simpa using e4, q⟩)))
     go_wp2_with (first | ((with_reducible refine isLd 5 ?_); (refine L_f1 H rfl 5 _ rfl 3 rfl _ rfl _ rfl _ rfl Try.underlying5 rfl ?_); simp only [pA]) | ((with_reducible refine isLd 26 ?_); (first | (refine L_fv H rfl 26 _ rfl 2 rfl _ rfl _ rfl rfl Try.underlying26 rfl (by kernel_rfl) ?_) | (refine L_fv H rfl 26 _ rfl 3 rfl _ rfl _ rfl rfl Try.underlying26 rfl (by kernel_rfl) ?_)); simp only [pA]) | ((with_reducible refine isLd 25 ?_); (refine L_fv H rfl 25 _ rfl 0 rfl _ rfl _ rfl rfl Try.underlying25 rfl (by kernel_rfl) ?_); simp only [pA]) | (((with_reducible show wpList _ _ _ (Oper.mk _ (Op.binOp _ 26 _ _ _) _ _ _ _ :: _) _ _); (refine wpList_ne2 rfl 26 _ _ _ rfl _ _ _ rfl rfl Try.eqGuardType26 (eqV_in _ Try.underlying26 _ _ 9998) ?_); simp only [pA]); rw [HZ.out]) | (go_at_call 56; refine (HCO.out _ H.out.1).mono ?_; rintro e wa ⟨rfl, hx⟩; replace H := kp (H.out.ext hx); have HXC := kp hx; clear hx))
     exact CutP.of rfl (by kernel_rfl) H
   clear H
   rintro vs11 w11 H
   simp only [putMany, List.setIfInBounds_toArray, List.set_cons_zero, List.set_cons_succ]
   go_wp2_with fail
   have H : Kp (Loc w w11 [(g9, 28, cat (partsK P)), (g6, 32, cat (partsF fw0)), (g5, 89, cat (partsM (kindP b) (countP b) (nonceP b) ad m cp)), (g3, 32, cat (partsF (s)))]) := H
   clear HCO
   subst h13
   cases ok
   ·have HK := kp (T31.out HCL.out H33.out (ON.out rfl))
    simp only [Bool.false_eq_true, if_false] at HOP
    subst h15
    go_wp2_with (first | (go_at_call 57; refine (HRS.out _ H.out.1).mono ?_; rintro e wb ⟨u, rfl, hs, hx, cu, au, rfl⟩; have HSU := kp hs; clear hs; replace H := kp (H.out.ext hx); have HXC := kp hx; clear hx) | ((with_reducible refine isAl 10 107 ?_); (refine L_alloc H rfl 107 rfl (cat ([Lf.v (zv 13)])) (fun _ _ => by kernel_rfl) ?_); clear H; intro g10 w10 HGg10 HEg10 H; simp only [pA]) | ((with_reducible refine isSt 107 ?_); (refine L_sv H rfl rfl 107 _ _ rfl 0 rfl _ rfl _ rfl (Lf.v (fit 13 (b.take 9))) rfl rfl rfl (by kernel_rfl) ([Lf.v (fit 13 (b.take 9))]) rfl ?_; clear H; intro w12 HWw12 H; simp only [szA] at H)) | ((with_reducible refine isLd 25 ?_); (refine L_fv H rfl 25 _ rfl 1 rfl _ rfl _ rfl rfl Try.underlying25 rfl (by kernel_rfl) ?_); simp only [pA]) | ((with_reducible refine isLd 107 ?_); (refine L_fv H rfl 107 _ rfl 0 rfl _ rfl _ rfl rfl Try.underlying107 rfl (by kernel_rfl) ?_); simp only [pA]) | ((with_reducible refine isLd 33 ?_); (refine L_f1 H rfl 33 _ rfl 3 rfl _ rfl _ rfl _ rfl Try.underlying33 rfl ?_); simp only [pA]) | (go_at_call 58; have HSW := kp (HSU.out.past HEg10.out HWw12.out (by have := HGg10.out; omega)); refine (HOP.out _ _ HSW.out H.out.1).mono ?_; rintro e w14 ⟨v12, rfl, ho, hx⟩; have HO12 := kp ho; have HSX := kp (SlB.of_owns ho); have HLB := kp (show g3 < w12.heap.size from H.out.lt 4 rfl); clear ho; replace H := kp (H.out.ext hx); have HXC := kp hx; clear hx) | ((with_reducible show wpList _ _ _ (Oper.mk _ (Op.build 32 _) _ _ _ _ :: _) _ _); (refine L_bd rfl 32 _ rfl #[] (by kernel_rfl) (cat (partsF fw0)) (fun _ => by kernel_rfl) ?_); simp only [pA]) | ((with_reducible refine isSt 32 ?_); refine L_sa H rfl rfl 32 _ _ rfl 2 rfl rfl (partsF fw0) rfl rfl (by kernel_rfl) ?_; clear H; intro wz HWwz H; simp only [ssA, szA] at H))
    (exact ret_f3 H Try.results37 2 rfl rfl _ _ rfl rfl Try.underlying32 rfl (by kernel_rfl) rfl (resR_err HK.out H.out.1))
   ·simp only [if_true] at HOP
    go_wp2_with (first | (go_at_call 57; refine (HRS.out _ H.out.1).mono ?_; rintro e wb ⟨u, rfl, hs, hx, cu, au, rfl⟩; have HSU := kp hs; clear hs; replace H := kp (H.out.ext hx); have HXC := kp hx; clear hx) | ((with_reducible refine isAl 10 107 ?_); (refine L_alloc H rfl 107 rfl (cat ([Lf.v (zv 13)])) (fun _ _ => by kernel_rfl) ?_); clear H; intro g10 w10 HGg10 HEg10 H; simp only [pA]) | ((with_reducible refine isSt 107 ?_); (refine L_sv H rfl rfl 107 _ _ rfl 0 rfl _ rfl _ rfl (Lf.v (fit 13 (b.take 9))) rfl rfl rfl (by kernel_rfl) ([Lf.v (fit 13 (b.take 9))]) rfl ?_; clear H; intro w12 HWw12 H; simp only [szA] at H)) | ((with_reducible refine isLd 25 ?_); (refine L_fv H rfl 25 _ rfl 1 rfl _ rfl _ rfl rfl Try.underlying25 rfl (by kernel_rfl) ?_); simp only [pA]) | ((with_reducible refine isLd 107 ?_); (refine L_fv H rfl 107 _ rfl 0 rfl _ rfl _ rfl rfl Try.underlying107 rfl (by kernel_rfl) ?_); simp only [pA]) | ((with_reducible refine isLd 33 ?_); (refine L_f1 H rfl 33 _ rfl 3 rfl _ rfl _ rfl _ rfl Try.underlying33 rfl ?_); simp only [pA]) | (go_at_call 58; have HSW := kp (HSU.out.past HEg10.out HWw12.out (by have := HGg10.out; omega)); refine (HOP.out _ _ HSW.out H.out.1).mono ?_; rintro e w14 ⟨v12, rfl, ho, hx⟩; have HO12 := kp ho; have HSX := kp (SlB.of_owns ho); have HLB := kp (show g3 < w12.heap.size from H.out.lt 4 rfl); clear ho; replace H := kp (H.out.ext hx); have HXC := kp hx; clear hx))
    obtain ⟨av, cv, rfl⟩ := HSX.out.form
    obtain ⟨vb, vo, rfl⟩ := HSX.out.ne (by intro e; rw [e] at HXL; exact absurd HXL.out (by decide))
    rw [HXL.out] at HSX HO12 ⊢
    have HBX := kp (show ∀ W, Ext w14 W → ∀ (j : Nat) x, X[j]? = some x → W.cell? ⟨vb, vo + j, none⟩ = some (V8 x) from fun W hx j x hj => by
     obtain ⟨b2, o2, e2, _, h3⟩ := (HSX.out.ext hx).at j x hj
     cases e2; exact h3)
    obtain ⟨x0, hx0⟩ : ∃ x, X[0]? = some x := ⟨_, List.getElem?_eq_getElem (by rw [HXL.out]; decide)⟩
    have HX0 := kp (show wI (X.getD 0 0) = wI x0 by rw [List.getD_eq_getElem?_getD, hx0]; rfl)
    have hc : w14.cell? ⟨vb, vo, none⟩ = some (.int .u8 (wI x0)) := HBX.out _ (Ext.refl _) 0 x0 hx0
    have HXC0 := kp hx0
    clear hx0 HSX HOP HRS
    by_cases hg : wI x0 = 2 ∨ wI x0 = 3
    ·have HGS := kp (show openG b P.w.1 = some (wI x0, fit 16 (X.drop 1)) from by rw [OY.out trivial, HX0.out, if_pos hg])
     have HG := kp hg
     refine wp_cut (94 :: 95 :: 96 :: 97 :: 98 :: 99 :: 100 :: 101 :: 102 :: 103 :: 104 :: 105 :: 106 :: 107 :: 108 :: 109 :: 110 :: 111 :: 112 :: []) (SuC2 w w14 [(g10, 107, cat [Lf.v (fit 13 (b.take 9))]), (g9, 28, cat (partsK P)), (g6, 32, cat (partsF fw0)), (g5, 89, cat (partsM (kindP b) (countP b) (nonceP b) ad m cp)), (g3, 32, cat (partsF (s)))]) ?_ ?_
     ·subst h15
      cases e6 : (wI x0 != 2)
      ·clear hg
       go_wp2_with fail
       exact CutP.of rfl (by kernel_rfl) ⟨H, rfl⟩
      ·have e7 : (wI x0 != 3) = false := by simp at e6 ⊢; omega
       clear hg
       go_wp2_with fail
       exact CutP.of rfl (by kernel_rfl) ⟨H, rfl⟩
     clear H hg hc
     rintro vs15 w15 ⟨H, rfl⟩
     simp only [putMany, List.setIfInBounds_toArray, List.set_cons_zero, List.set_cons_succ]
     go_wp2_with fail
     have HMD := kp (fun h => show s.stage ≠ 4 → midS s b (wI x0, fit 16 (X.drop 1)) = h → h = { s with stage := 4, other := nonceP b, pair := P, gid := wI x0, gkey := fit 16 (X.drop 1), inst := 1 } from fun h1 h2 => by rw [← h2]; unfold midS; rw [if_neg h1, HP.out])
     refine wp_cut (14 :: 114 :: 115 :: 116 :: 117 :: 118 :: 119 :: 120 :: 121 :: 122 :: 123 :: 124 :: 125 :: 126 :: 127 :: 128 :: 129 :: 130 :: 131 :: 132 :: 133 :: 134 :: 135 :: 136 :: 137 :: 138 :: 139 :: 140 :: 141 :: 142 :: []) (SuC w [(g10, 107, cat [Lf.v (fit 13 (b.take 9))]), (g9, 28, cat (partsK P)), (g6, 32, cat (partsF fw0)), (g5, 89, cat (partsM (kindP b) (countP b) (nonceP b) ad m cp)), (g3, 32, cat (partsF (midS s b (wI x0, fit 16 (X.drop 1)))))]) ?_ ?_
     ·subst h17
      cases e4 : (s.stage == 2)
      ·have h4 : s.stage = 4 := HST.out.resolve_left (fun q => by simp [q] at e4)
       have HE := kp (show midS s b (wI x0, fit 16 (X.drop 1)) = s from by unfold midS; rw [if_pos h4])
       clear h4
       go_wp2_with ((with_reducible refine isLd 5 ?_); (refine L_f1 H rfl 5 _ rfl 4 rfl _ rfl _ rfl _ rfl Try.underlying5 rfl ?_); simp only [pA])
       exact CutP.of rfl (by kernel_rfl) (show Kp _ from kp (by rw [HE.out]; exact H.out))
      ·have h4 : s.stage ≠ 4 := fun q => by simp [q] at e4
       have HE := kp (HMD.out _ h4 rfl)
       clear h4
       generalize h21 : (Code.region 21 _ _ : Code) = R21
       generalize h26 : (Code.region 26 _ _ : Code) = R26
       go_wp2_with (first | ((with_reducible refine isLd 5 ?_); (refine L_f1 H rfl 5 _ rfl 4 rfl _ rfl _ rfl _ rfl Try.underlying5 rfl ?_); simp only [pA]) | ((with_reducible refine isLd 26 ?_); (refine L_fv H rfl 26 _ rfl 3 rfl _ rfl _ rfl rfl Try.underlying26 rfl (by kernel_rfl) ?_); simp only [pA]) | ((with_reducible refine isLd 28 ?_); (refine L_fa H rfl 28 _ rfl 1 rfl rfl Try.underlying28 rfl (by kernel_rfl) ?_); simp only [pA]) | ((with_reducible refine isSt 5 ?_); (refine L_s1 H rfl rfl 5 _ _ rfl 4 rfl _ rfl _ rfl _ rfl rfl rfl rfl (by kernel_rfl) (_) rfl ?_; clear H; intro wb HWwb H; simp only [ssA, szA] at H)) | ((with_reducible refine isSt 26 ?_); (refine L_sv H rfl rfl 26 _ _ rfl 4 rfl _ rfl _ rfl (Lf.v (nonceP b)) rfl rfl rfl (by kernel_rfl) (_) rfl ?_; clear H; intro wd HWwd H; simp only [ssA, szA] at H)) | ((with_reducible refine isSt 28 ?_); (refine L_sg H rfl rfl 28 _ _ rfl 4 rfl _ rfl _ rfl 3 (partsK P) rfl rfl (by kernel_rfl) (_) rfl ?_; clear H; intro we HWwe H; simp only [ssA, szA] at H)))
       have HO1 := kp (owns_wrote (owns_wrote (owns_wrote HO12.out HWwb.out HLB.out) HWwd.out HLB.out) HWwe.out HLB.out)
       have hc : we.cell? ⟨vb, vo, none⟩ = some (.int .u8 (wI x0)) := by
        obtain ⟨b2, o2, e2, _, h3⟩ := (SlB.of_owns HO1.out).at 0 x0 HXC0.out
        cases e2; exact h3
       have hx0 : 0 ≤ wI x0 ∧ wI x0 < 256 := by have := x0.isLt; unfold wI; omega
       subst h21
       go_wp2_with ((with_reducible refine isSt 3 ?_); (refine L_s1 H rfl rfl 3 _ _ rfl 4 rfl _ rfl _ rfl _ rfl rfl rfl rfl (by kernel_rfl) (_) rfl ?_; clear H; intro wf HWwf H; simp only [ssA, szA] at H))
       have HO2 := kp (owns_wrote HO1.out HWwf.out HLB.out)
       clear hc HO1
       obtain ⟨t0, ht⟩ : ∃ t, t = { s with stage := 4, other := nonceP b, pair := P, gid := wI x0 } := ⟨_, rfl⟩
       have HT := kp ht
       clear ht
       have HG0 := kp (show t0.gkey = s.gkey from by rw [HT.out])
       have HYL := kp (show (X.drop 1).length = 16 from by rw [List.length_drop, HXL.out])
       have H2 := kp (show Loc w wf [(g10, 107, cat [Lf.v (fit 13 (b.take 9))]), (g9, 28, cat (partsK P)), (g6, 32, cat (partsF fw0)), (g5, 89, cat (partsM (kindP b) (countP b) (nonceP b) ad m cp)), (g3, 32, cat (partsF ({ t0 with gkey := over ((X.drop 1).take 0) s.gkey })))] from by
        rw [HT.out, show over ((X.drop 1).take 0) s.gkey = s.gkey from Subtype.ext (by rw [over_val]; simp)]; exact H.out)
       clear H
       go_loopw [14] (KeyR w wf.heap.size [(g10, 107, cat [Lf.v (fit 13 (b.take 9))]), (g9, 28, cat (partsK P)), (g6, 32, cat (partsF fw0)), (g5, 89, cat (partsM (kindP b) (countP b) (nonceP b) ad m cp))] g3 t0 (X.drop 1) s.gkey w12.heap.size X (.slice (some ⟨vb, vo, none⟩) 17 cv)) (fun i _ => 16 - (intOf i).toNat)
       case atStart => exact ⟨0, by omega, rfl, H2, HO2⟩
       case round =>
        clear H2 HO2
        obtain ⟨k, hk, rfl, H, HO2⟩ := hrel
        have H : Kp (Loc w wr [(g10, 107, cat [Lf.v (fit 13 (b.take 9))]), (g9, 28, cat (partsK P)), (g6, 32, cat (partsF fw0)), (g5, 89, cat (partsM (kindP b) (countP b) (nonceP b) ad m cp)), (g3, 32, cat (partsF ({ t0 with gkey := over ((X.drop 1).take k) s.gkey })))]) := H
        have HO2 : Kp (wr.ownsRow w12.heap.size 5 1 (.slice (some ⟨vb, vo, none⟩) 17 cv) 17 (X.map V8)) := HO2
        by_cases hlt : k < 16
        ·obtain ⟨x, hx⟩ : ∃ x, (X.drop 1)[k]? = some x := ⟨_, List.getElem?_eq_getElem (by rw [HYL.out]; exact hlt)⟩
         have hc : wr.cell? ⟨vb, vo + (1 + k), none⟩ = some (.int .u8 (wI x)) := by
          rw [List.getElem?_drop] at hx
          have HO3 := HO2.out
          rw [← HXL.out] at HO3
          obtain ⟨b2, o2, e2, _, h3⟩ := (SlB.of_owns HO3).at (1 + k) x hx
          cases e2; exact h3
         have HST := kp (key_step (t := t0) (g0 := s.gkey) hlt hx)
         have HLK := kp (show 114 + k < (cat (partsF { t0 with gkey := over ((X.drop 1).take k) s.gkey })).length from by rw [cat_len]; show 114 + k < 131; omega)
         clear hx
         go_wp2_with ((with_reducible refine isSt 5 ?_); (refine L_cell H rfl rfl 5 _ _ rfl 4 rfl (114 + k) rfl (V8 x) rfl (rfl) (size5) (HLK.out) (cat (partsF { t0 with gkey := over ((X.drop 1).take (k + 1)) s.gkey })) (HST.out) ?_; clear H; intro wz HWwz H; simp only [ssA, szA] at H))
         all_goals try (exfalso; omega)
         have HO4 := kp (owns_wrote HO2.out HWwz.out HLB.out)
         go_roundw
         case rel => exact ⟨k + 1, by omega, by go_num, H, HO4⟩
         case measure => simp [intOf]; omega
        ·obtain rfl : k = 16 := by omega
         rw [over_all _ HYL.out] at H
         go_wp2_with fail
         all_goals try (exfalso; omega)
         subst h26
         go_wp2_with ((with_reducible refine isSt 3 ?_); (refine L_s1 H rfl rfl 3 _ _ rfl 4 rfl _ rfl _ rfl _ rfl rfl rfl rfl (by kernel_rfl) (_) rfl ?_; clear H; intro wk HWwk H; simp only [ssA, szA] at H))
         exact CutP.of rfl (by kernel_rfl) (show Kp _ from kp (by rw [HE.out]; have h := H.out; rw [HT.out] at h; exact h))
     clear H HO12 HBX HMD
     rintro vs17 w17 H
     simp only [putMany, List.setIfInBounds_toArray, List.set_cons_zero, List.set_cons_succ]
     go_wp2_with fail
     have H : Kp (Loc w w17 [(g10, 107, cat [Lf.v (fit 13 (b.take 9))]), (g9, 28, cat (partsK P)), (g6, 32, cat (partsF fw0)), (g5, 89, cat (partsM (kindP b) (countP b) (nonceP b) ad m cp)), (g3, 32, cat (partsF (midS s b (wI x0, fit 16 (X.drop 1)))))]) := H
     have HRR := kp (T0.out _ HCL.out H33.out HGS.out)
     clear HGS HCL H33 T0 T31 ON OY HG
     generalize midS s b (wI x0, fit 16 (X.drop 1)) = t1 at *
     subst h27
     go_wp2_with (first | ((with_reducible refine isLd 3 ?_); (refine L_f1 H rfl 3 _ rfl 3 rfl _ rfl _ rfl _ rfl Try.underlying3 rfl ?_); simp only [pA]) | ((with_reducible refine isSt 3 ?_); (refine L_s1 H rfl rfl 3 _ _ rfl 4 rfl _ rfl _ rfl _ rfl rfl rfl rfl (by kernel_rfl) (_) rfl ?_; clear H; intro wl HWwl H; simp only [ssA, szA] at H)))
     obtain ⟨s', hs'⟩ : ∃ t, t = { t1 with replay := countP b } := ⟨_, rfl⟩
     have HS' := kp hs'
     have HRS := kp (show r = (s', [M], 0) from by rw [hs']; exact HRR.out)
     clear hs'
     have H2 := kp (show Loc w wl [(g10, 107, cat [Lf.v (fit 13 (b.take 9))]), (g9, 28, cat (partsK P)), (g6, 32, cat (partsF fw0)), (g5, 89, cat (partsM (kindP b) (countP b) (nonceP b) ad m cp)), (g3, 32, cat (partsF (s')))] from by rw [HS'.out]; exact H.out)
     clear H HRR
     have H := H2
     clear H2
     have HLT := kp (show g6 < wl.heap.size from H.out.lt 2 rfl)
     have HSZ := kp H.out.1.size
     subst h28
     refine region_free H (tabS [(146, fun vQ _ => vQ = .agg (cat (partsF s')).toArray), (147, fun vQ _ => vQ = .pointer (some ⟨g9, 0, none⟩)), (148, fun vQ _ => vQ = .agg (P.c.1.map V8).toArray), (149, fun vQ _ => vQ = .pointer (some ⟨g5, 1, none⟩)), (150, fun vQ _ => vQ = .int .i64 (countP b)), (151, fun vQ _ => vQ = .agg ((zv 16).1.map V8).toArray), (152, fun vQ wQ => OwnB wl.heap.size M vQ wQ), (153, fun vQ wQ => SlBB wl.heap.size wQ vQ [M]), (7, fun vQ wQ => SlBB wl.heap.size wQ vQ [M]), (8, fun vQ _ => vQ = .int .i64 0)]) [⟨8, 2, g6, 32, cat (partsF fw0), cat (partsF s')⟩] (tabS_out _ _ (by simp only [List.forall_mem_cons, mono_eqO, true_and]; exact ⟨(mono_OwnB M HLT), (mono_SlBB _ (lt1 HLT.out)), (mono_SlBB _ (lt1 HLT.out)), by simp⟩)) 11 (by kernel_rfl) (by kernel_rfl) (by kernel_rfl) (by kernel_rfl) [8] [2] rfl rfl (by decide) (by decide) (by decide) ⟨rfl, trivial⟩ ?_
     simp only [List.take_succ_cons, List.take_zero]
     refine ⟨fun w_ o_ S_ => ?_, fun v146 => ?_⟩
     ·clear S_
      have H := kp (H.out.keep [0, 1, 3, 4] (St := [⟨8, 2, g6, 32, cat (partsF fw0), cat (partsF s')⟩]) ⟨rfl, trivial⟩ o_ (by decide) (by kernel_rfl))
      have HOX := kp o_
      clear o_
      go_wp2_with ((with_reducible refine isLd 32 ?_); (refine L_fa H rfl 32 _ rfl 3 rfl rfl Try.underlying32 rfl (by kernel_rfl) ?_); simp only [pA])
      exact kso
     simp only [pA]
     refine ⟨fun w_ o_ S_ => ?_, fun v147 => ?_⟩
     ·clear S_
      clear o_
      go_wp2_with fail
      exact kso
     simp only [pA]
     refine ⟨fun w_ o_ S_ => ?_, fun v148 => ?_⟩
     ·obtain rfl : v147 = .pointer (some ⟨g9, 0, none⟩) := hsR S_ 147 rfl
      clear S_
      have H := kp (H.out.keep [0, 1, 3, 4] (St := [⟨8, 2, g6, 32, cat (partsF fw0), cat (partsF s')⟩]) ⟨rfl, trivial⟩ o_ (by decide) (by kernel_rfl))
      have HOX := kp o_
      clear o_
      go_wp2_with ((with_reducible refine isLd 25 ?_); (refine L_fv H rfl 25 _ rfl 1 rfl _ rfl _ rfl rfl Try.underlying25 rfl (by kernel_rfl) ?_); simp only [pA])
      exact kso
     simp only [pA]
     refine ⟨fun w_ o_ S_ => ?_, fun v149 => ?_⟩
     ·clear S_
      clear o_
      go_wp2_with fail
      exact kso
     simp only [pA]
     refine ⟨fun w_ o_ S_ => ?_, fun v150 => ?_⟩
     ·obtain rfl : v149 = .pointer (some ⟨g5, 1, none⟩) := hsR S_ 149 rfl
      clear S_
      have H := kp (H.out.keep [0, 1, 3, 4] (St := [⟨8, 2, g6, 32, cat (partsF fw0), cat (partsF s')⟩]) ⟨rfl, trivial⟩ o_ (by decide) (by kernel_rfl))
      have HOX := kp o_
      clear o_
      go_wp2_with ((with_reducible refine isLd 3 ?_); (refine L_f1 H rfl 3 _ rfl 2 rfl _ rfl _ rfl _ rfl Try.underlying3 rfl ?_); simp only [pA])
      exact kso
     simp only [pA]
     refine ⟨fun w_ o_ S_ => ?_, fun v151 => ?_⟩
     ·clear S_
      have H := kp (H.out.keep [0, 1, 3, 4] (St := [⟨8, 2, g6, 32, cat (partsF fw0), cat (partsF s')⟩]) ⟨rfl, trivial⟩ o_ (by decide) (by kernel_rfl))
      have HOX := kp o_
      clear o_
      go_wp2_with ((with_reducible show wpList _ _ _ (Oper.mk (some 151) (Op.build 26 _) _ _ _ _ :: _) _ _); (refine L_bd (by kernel_rfl) 26 _ rfl (#[]) (by kernel_rfl) ((zv 16).1.map V8) (fun _ => by kernel_rfl) ?_); simp only [pA])
      exact kso
     simp only [pA]
     refine ⟨fun w_ o_ S_ => ?_, fun v152 => ?_⟩
     ·obtain rfl : v148 = .agg (P.c.1.map V8).toArray := hsR S_ 148 rfl
      obtain rfl : v150 = .int .i64 (countP b) := hsR S_ 150 rfl
      obtain rfl : v151 = .agg ((zv 16).1.map V8).toArray := hsR S_ 151 rfl
      clear S_
      have H := kp (H.out.keep [0, 1, 3, 4] (St := [⟨8, 2, g6, 32, cat (partsF fw0), cat (partsF s')⟩]) ⟨rfl, trivial⟩ o_ (by decide) (by kernel_rfl))
      have HOX := kp o_
      clear o_
      go_wp2_with fail
      refine (HMS.out _).mono ?_
      rintro e w2 ⟨v, rfl, ho, hx⟩
      have HO2 := kp (owns_weak ho HOX.out.size)
      have HXC := kp hx
      clear ho hx
      go_wp2_with fail
      exact ⟨rfl, _, rfl, fun d hd => by cases hd; exact HO2.out, HXC.out⟩
     simp only [pA]
     refine ⟨fun w_ o_ S_ => ?_, fun v153 => ?_⟩
     ·have h152 := kp (show OwnB wl.heap.size M v152 w_ from hsR S_ 152 rfl)
      clear S_
      have H := kp (H.out.keep [0, 1, 3, 4] (St := [⟨8, 2, g6, 32, cat (partsF fw0), cat (partsF s')⟩]) ⟨rfl, trivial⟩ o_ (by decide) (by kernel_rfl))
      have HOX := kp o_
      clear o_
      obtain ⟨av2, nv2, cv2, hv4⟩ := owns_form2 h152.out
      subst hv4
      have HO4 := kp h152.out
      clear h152
      go_wp2_with ((with_reducible show wpList _ _ _ (Oper.mk (some 153) (Op.buildSlice 34 _ _) _ _ _ _ :: _) _ _); (refine L_bs H (by kernel_rfl) 34 1 _ rfl (#[(0, .slice av2 nv2 cv2)]) (by kernel_rfl) 33 ([.slice av2 nv2 cv2]) (fun _ => by kernel_rfl) ?_); clear H; intro g153 w153 HGg153 HEg153 H; simp only [pA])
      exact ⟨rfl, _, rfl, fun d hd => by cases hd; exact SlBB.one (H.out.at 0 rfl) (by have q1 := HGg153.out; have q2 := HOX.out.size; omega) (owns_ext HO4.out HEg153.out), HEg153.out⟩
     simp only [pA]
     refine ⟨⟨rfl, rfl, fun ws8 hos8 hSs8 hLs8 => ?_⟩, ?_⟩
     ·obtain rfl : v146 = .agg (cat (partsF s')).toArray := hSs8 146 (by decide) (by decide)
      exact run_sto 32 _ _ rfl rfl rfl hLs8 (sizeFw _) (len_F _ _) (by simpa using cat_one (partsF s'))
     refine ⟨fun w_ o_ S_ => ?_, fun v7 => ?_⟩
     ·have h153 := kp (show SlBB wl.heap.size w_ v153 [M] from hsR S_ 153 rfl)
      clear S_ o_
      go_wp2_with fail
      exact ⟨rfl, _, rfl, fun d hd => by cases hd; exact h153.out, Ext.refl _⟩
     simp only [pA]
     refine ⟨fun w_ o_ S_ => ?_, fun v8 => ?_⟩
     ·clear S_
      clear o_
      go_wp2_with fail
      exact kso
     simp only [pA]
     clear H
     intro wy HOX H hfin
     obtain rfl : v146 = .agg (cat (partsF s')).toArray := hfin 146 (by decide)
     obtain rfl : v147 = .pointer (some ⟨g9, 0, none⟩) := hfin 147 (by decide)
     obtain rfl : v148 = .agg (P.c.1.map V8).toArray := hfin 148 (by decide)
     obtain rfl : v149 = .pointer (some ⟨g5, 1, none⟩) := hfin 149 (by decide)
     obtain rfl : v150 = .int .i64 (countP b) := hfin 150 (by decide)
     obtain rfl : v151 = .agg ((zv 16).1.map V8).toArray := hfin 151 (by decide)
     have F152 := kp (show OwnB wl.heap.size M v152 wy from hfin 152 (by decide))
     have F153 := kp (show SlBB wl.heap.size wy v153 [M] from hfin 153 (by decide))
     have F7 := kp (show SlBB wl.heap.size wy v7 [M] from hfin 7 (by decide))
     obtain rfl : v8 = .int .i64 0 := hfin 8 (by decide)
     clear hfin
     simp only [List.drop_succ_cons, List.drop_zero]
     simp only [applyS] at H
     go_wp2_with fail
     (exact ret_f3 H Try.results37 2 rfl rfl _ _ rfl rfl Try.underlying32 rfl (by kernel_rfl) rfl (resR_ok HRS.out F7.out HSZ.out H.out.1))
    ·have HK := kp (T31.out HCL.out H33.out (by rw [OY.out trivial, HX0.out, if_neg hg]))
     have e6 : (wI x0 != 2) = true := by simp; omega
     have e7 : (wI x0 != 3) = true := by simp; omega
     clear hg
     subst h15
     go_wp2_with (first | ((with_reducible show wpList _ _ _ (Oper.mk _ (Op.build 32 _) _ _ _ _ :: _) _ _); (refine L_bd rfl 32 _ rfl #[] (by kernel_rfl) (cat (partsF fw0)) (fun _ => by kernel_rfl) ?_); simp only [pA]) | ((with_reducible refine isSt 32 ?_); refine L_sa H rfl rfl 32 _ _ rfl 2 rfl rfl (partsF fw0) rfl rfl (by kernel_rfl) ?_; clear H; intro wz HWwz H; simp only [ssA, szA] at H))
     (exact ret_f3 H Try.results37 2 rfl rfl _ _ rfl rfl Try.underlying32 rfl (by kernel_rfl) rfl (resR_err HK.out H.out.1))
end Go.Proofs.Ytibncchobkaaiaa
