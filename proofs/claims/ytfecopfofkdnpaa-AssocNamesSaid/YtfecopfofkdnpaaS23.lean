/- Texts of this proof, put together: Hn2, Hn3. -/
import Derived.Test.YtfecopfofkdnpaaS21
import Derived.Test.YtfecopfofkdnpaaS22
import Derived.Test.YtfecopfofkdnpaaS1
namespace Go.Proofs.Ytfecopfofkdnpaa
open Go.RowKit
theorem perm_in {α : Type} (X : List α) (p : α) (t r : List α) : (X ++ p :: (t ++ r)).Perm (p :: (t ++ (X ++ r))) :=
 List.perm_middle.trans (List.Perm.cons _ (List.perm_append_comm_assoc X t r))
theorem St.put {B : Nat} {w0 w : World} {g : Nat} {a : As} {ha : a.own.length = 6} {l : List En} {rest : List Bk} {ad : Option Addr} {n c : Nat} {t : List Bk} (X : List Bk) (ht : TB B ad n c t l) (H : Loc w0 w (X ++ (g, 26, cat (partsA a ha ad n c)) :: (t ++ rest))) : St B w0 w g a ha l (X ++ rest) := ⟨ad, n, c, t, ht, H.perm (perm_in _ _ _ _)⟩
theorem St.get {B : Nat} {w0 w : World} {g : Nat} {a : As} {ha : a.own.length = 6} {l : List En} {rest : List Bk} (X : List Bk) (h : St B w0 w g a ha l (X ++ rest)) : ∃ ad n c t, TB B ad n c t l ∧ Loc w0 w (X ++ (g, 26, cat (partsA a ha ad n c)) :: (t ++ rest)) := by
 obtain ⟨ad, n, c, t, ht, H⟩ := h
 exact ⟨ad, n, c, t, ht, H.perm (perm_in _ _ _ _).symm⟩
theorem auth_no {l : List En} {b : By} (a : As) (h : Hd) (now : Int) (hb : frontE b 6 ≠ 0) : authF dA a l h b now = ([], [], 12) := by
 unfold authF dA; rw [if_neg hb]
theorem auth_yes {l : List En} {b : By} (a : As) (h : Hd) (now : Int) (hb : frontE b 6 = 0) (st : Int) (hs : authStat l h.a2 (rdF b 0) (rdF b 2) = st) : authF dA a l h b now = (if st = 0 then putF l (freshE h.a2 now) else l, [(msgH a h.a2 11, authB (rdF b 0) (rdF b 2) st)], 0) := by
 unfold authF dA; rw [if_pos hb]; dsimp only; rw [hs]
set_option maxRecDepth 4000 in
set_option maxHeartbeats 1600000 in
theorem auth_any (a : As) (ha : a.own.length = 6) (l : List En) (hl : L6 l) (hn : l.length ≤ 64) (hso : l.Pairwise (fun e f => numF e.addr < numF f.addr)) (h : Hd) (ok : h.Ok) (fa : Option Addr) (fn fc : Nat) (b : By) (hfn : fn ≤ 100000) (hfc : fn ≤ fc) (now : Int) (B : Nat) (g : Nat) (w0 w : World) (rest : List Bk) (hB0 : w0.heap.size ≤ B) (hB : B ≤ w.heap.size) (hst : St B w0 w g a ha l rest) (hsb : SlB w (.slice fa fn fc) b) :
  Calls Try.prog 91 #[.pointer (some ⟨g, 0, none⟩), .agg (cellsF h (.slice fa fn fc)).toArray, .int .i64 now] w (HndR B w0 w g a ha (authF dA a l h b now) rest) := by
 obtain ⟨ad, n, c, tb, hT, H0⟩ := hst
 have H := kp H0
 clear H0
 have HT := kp hT
 have HSB := kp hsb
 have HFN := kp hfn
 have HFC := kp hfc
 have HMS := kp (fun ad n c bd bn bc e0 w => show Calls Try.prog 87 #[.agg (cat (partsA a ha ad n c)).toArray, .agg (h.a2.map V8).toArray, .int .u8 11, .slice bd bn bc, .int .i64 e0] w _ by
  have q := message_any a ha (.slice ad n c) h.a2 ok.l2 11 (by decide) (by decide) bd bn bc e0 w
  rw [cat_A a ha] at q; exact q)
 have HAU := kp (fun w1 rest h1 h2 => authenticate_any a ha l hl hn hso h.a2 ok.l2 now B g w0 w1 rest hB0 h1 h2)
 have HOK := kp (msg_ok (t := h.a2) ha ok.l2 (show (0:Int) ≤ 11 by decide) (by decide))
 have HBF := kp (fun ad n c w => bs_frame HOK.out ad n c w)
 have HB := kp hB
 rw [fr_cells h ok]
 by_cases hb : frontE b 6 = 0
 ·have hal := rd_range b 0
  have hst := rd_range b 2
  have HAL := kp hal
  have HS1 := kp (show 0 ≤ (rdF b 2 + 1) % 65536 ∧ (rdF b 2 + 1) % 65536 ≤ 65535 by omega)
  have HEN0 := fun st q0 q1 w => encAuth_any (rdF b 0) ((rdF b 2 + 1) % 65536) st HAL.out HS1.out ⟨q0, q1⟩ w
  have HFE := kp hb
  have HRD := kp (show ∀ x y z, (frontE b 6 = 0 → x = rdF b 0 ∧ y = rdF b 2 ∧ z = rdF b 4) → x = rdF b 0 ∧ y = rdF b 2 from fun x y z q => ⟨(q hb).1, (q hb).2.1⟩)
  by_cases h0 : rdF b 0 = 0
  ·by_cases h1 : rdF b 2 = 1
   ·have hst0 : authStat l h.a2 (rdF b 0) (rdF b 2) = if authO l h.a2 then 0 else 17 := by
     unfold authStat authO
     rw [if_neg (fun q => q h0), if_neg (fun q => q h1)]
     cases ((lookF l h.a2).isNone && l.length == 64) <;> rfl
    cases hO : authO l h.a2 with
    | true =>
     rw [hO, if_pos rfl] at hst0
     have HR := kp (auth_yes (l := l) a h now hb 0 hst0)
     have HEN := kp (fun w => HEN0 0 (by decide) (by decide) w)
     have HAL := kp (show authL l h.a2 now = putF l (freshE h.a2 now) by unfold authL; rw [hO]; rfl)
     unfold AuthR at HAU
     rw [hO, HAL.out] at HAU
     clear hB hB0 hfn hfc hsb hT hn hl hso hal hst HEN0 hst0 hO
     go_enter Try.func91, Try.ntmps91
     generalize h2 : (Code.region 2 _ _ : Code) = R2
     generalize h4 : (Code.region 4 _ _ : Code) = R4
     generalize h12 : (Code.region 12 _ _ : Code) = R12
     go_wp2_with (first | (((with_reducible refine isBx 4 31 ?_); (refine L_box H rfl 31 _ rfl (cat (partsFr h ok fa fn fc)) rfl ?_); clear H; intro g4 w4 HGg4 HEg4 H; simp only [pA]); have HSB2 := kp (HSB.out.ext HEg4.out)) | ((with_reducible refine isLd 29 ?_); (refine L_f1 H rfl 29 _ rfl 0 rfl _ rfl _ rfl _ rfl Try.underlying29 rfl ?_); simp only [pA]) | (go_at_call 28; refine (decAuth_any fa fn fc b HFN.out HFC.out _ HSB2.out).mono ?_; rintro e wa ⟨x, y, z, da, dn, dc, rfl, hx, he0, he1⟩; have HE0 := kp he0; clear he0 he1; replace H := kp (H.out.ext hx); have HXC := kp hx; clear hx) | ((with_reducible refine isAl 8 74 ?_); (refine L_alloc H rfl 74 rfl (cat (pAu 0 0 0 none 0 0)) (fun _ _ => by kernel_rfl) ?_); clear H; intro g8 w8 HGg8 HEg8 H; simp only [pA]) | ((with_reducible refine isSt 74 ?_); (refine L_sa H rfl rfl 74 _ _ rfl 0 rfl rfl (pAu x y z da dn dc) rfl rfl (by kernel_rfl) ?_; clear H; intro w8b HWw8b H; simp only [szA] at H)))
     obtain ⟨rfl, rfl⟩ := HRD.out _ _ _ HE0.out
     clear HE0
     subst h2
     generalize rdF b 0 = al at *
     generalize rdF b 2 = st at *
     subst h0; subst h1; rw [show ((1 : Int) + 1) % 65536 = 2 from rfl] at HEN
     go_wp2_with fail
     subst h4
     go_wp2_with (first | ((with_reducible refine isLd 54 ?_); (first | (refine L_f1 H rfl 54 _ rfl 0 rfl _ rfl _ rfl _ rfl Try.underlying54 rfl ?_) | (refine L_f1 H rfl 54 _ rfl 1 rfl _ rfl _ rfl _ rfl Try.underlying54 rfl ?_)); simp only [pA]) | ((with_reducible show wpList _ _ _ (Oper.mk (some 25) (Op.build 74 _) _ _ _ _ :: _) _ _); (refine L_bd (by kernel_rfl) 74 _ rfl (#[(0, .int .u16 (0)), (1, .int .u16 (2))]) (by kernel_rfl) (cat (partsAu (0) (2) 0)) (fun w => by kernel_rfl) ?_); simp only [pA]) | ((with_reducible refine isAl 10 74 ?_); (refine L_alloc H rfl 74 rfl (cat (partsAu 0 0 0)) (fun _ _ => by kernel_rfl) ?_); clear H; intro g10 w10 HGg10 HEg10 H; simp only [pA]) | ((with_reducible refine isSt 74 ?_); (refine L_sa H rfl rfl 74 _ _ rfl 0 rfl rfl (partsAu (0) (2) 0) rfl rfl (by kernel_rfl) ?_; clear H; intro w11 HWw11 H; simp only [szA] at H)) | ((with_reducible refine isLd 74 ?_); (refine L_fa H rfl 74 _ rfl 0 rfl rfl Try.underlying74 rfl (by kernel_rfl) ?_); simp only [pA]) | (go_at_call 35; have HSZ := kp (Nat.le_of_lt (H.out.lt 2 rfl)); refine (HEN.out _).mono ?_; rintro e we ⟨v, rfl, ho, hx⟩; obtain ⟨bd, bn, bc, rfl⟩ := owns_form2 ho; have HOB := kp ho; clear ho; replace H := kp (H.out.ext hx); have HXC := kp hx; clear hx) | ((with_reducible refine isLd 23 ?_); (refine L_fv H rfl 23 _ rfl 2 rfl _ rfl _ rfl rfl Try.underlying23 rfl (by kernel_rfl) ?_); simp only [pA]) | (go_at_call 72; refine (HAU.out _ _ (Nat.le_trans HB.out (HGg4.out ▸ Nat.le_of_lt (H.out.lt 2 rfl))) (St.put [_, _, _] HT.out H.out)).mono ?_; rintro e wq ⟨rfl, hs⟩; obtain ⟨ad2, n2, c2, tb2, hT2, hl2⟩ := hs.get [_, _, _]; simp only [List.cons_append, List.nil_append] at hl2; clear H HT hs; have HT := kp hT2; have H := kp hl2; clear hl2 hT2))
     subst h12
     refine region_z H 8 (by kernel_rfl) (by kernel_rfl) (by kernel_rfl) (by kernel_rfl) (by decide) (Nat.le_of_ble_eq_true (by kernel_rfl)) ?_
     apply Exists.intro
     refine ⟨fun xz2 => ?_, fun wz2 HXZ H => ?_⟩
     ·simp only [List.take_succ_cons, List.take_zero]
      unfold Cx
      repeat (first | ((with_reducible show wpQuiet _ _ _ _ (Oper.mk _ (Op.load 26 _) _ _ _ _ :: _) _); go_big_quiet_want; (refine qz_a H 26 _ rfl 3 rfl rfl Try.underlying26 rfl (by kernel_rfl) ?_); simp only [pA]; go_big_quiet_on) | ((with_reducible show wpQuiet _ _ _ _ (Oper.mk _ (Op.load 23 _) _ _ _ _ :: _) _); go_big_quiet_want; (refine qz_v H 23 _ rfl 2 rfl _ rfl _ rfl rfl Try.underlying23 rfl (by kernel_rfl) ?_); simp only [pA]; go_big_quiet_on) | go_big_quiet_step (fail))
      exact wpQuiet_nil rfl
     simp only [List.drop_succ_cons, List.drop_zero]
     go_wp2_with (first | (go_at_call 87; refine (HMS.out _ _ _ _ _ _ _ _).mono ?_; rintro e wm ⟨rfl, hx⟩; replace H := kp (H.out.ext hx); have HXC := kp hx; clear hx) | (have HSY := kp (Nat.le_of_lt (H.out.lt 2 rfl)); ((with_reducible show wpList _ _ _ (Oper.mk (some 59) (Op.buildSlice 51 _ _) _ _ _ _ :: _) _ _); (refine L_bs H (by kernel_rfl) 51 1 _ rfl (#[(0, .agg (cellsF (msgH a h.a2 11) (.slice bd bn bc)).toArray)]) (by kernel_rfl) 31 (cellsF (msgH a h.a2 11) (.slice bd bn bc)) (HBF.out bd bn bc) ?_); clear H; intro gf wf HGgf HEgf H; simp only [pA])))
     go_ret2
     rw [HR.out]
     refine ⟨_, _, rfl, St.mk HT.out H.out (by (try simp only [List.cons_append, List.nil_append]); repeat (first | with_reducible exact List.Sublist.cons_cons _ (List.Sublist.refl _) | with_reducible apply List.Sublist.cons)), fun _ => rfl, ?_⟩
     rw [← HGg4.out]
     exact FrS.one HOK.out (H.out.at 0 rfl) (by rw [HGgf.out]; exact HSY.out) (owns_weak (owns_ext HOB.out (HXZ.out.trans (HXC.out.trans HEgf.out))) HSZ.out)
    | false =>
     rw [hO, if_neg (by simp)] at hst0
     have HR := kp (auth_yes (l := l) a h now hb 17 hst0)
     have HEN := kp (fun w => HEN0 17 (by decide) (by decide) w)
     have HAL := kp (show authL l h.a2 now = l by unfold authL; rw [hO]; rfl)
     unfold AuthR at HAU
     rw [hO, HAL.out] at HAU
     clear hB hB0 hfn hfc hsb hT hn hl hso hal hst HEN0 hst0 hO
     go_enter Try.func91, Try.ntmps91
     generalize h2 : (Code.region 2 _ _ : Code) = R2
     generalize h4 : (Code.region 4 _ _ : Code) = R4
     generalize h12 : (Code.region 12 _ _ : Code) = R12
     go_wp2_with (first | (((with_reducible refine isBx 4 31 ?_); (refine L_box H rfl 31 _ rfl (cat (partsFr h ok fa fn fc)) rfl ?_); clear H; intro g4 w4 HGg4 HEg4 H; simp only [pA]); have HSB2 := kp (HSB.out.ext HEg4.out)) | ((with_reducible refine isLd 29 ?_); (refine L_f1 H rfl 29 _ rfl 0 rfl _ rfl _ rfl _ rfl Try.underlying29 rfl ?_); simp only [pA]) | (go_at_call 28; refine (decAuth_any fa fn fc b HFN.out HFC.out _ HSB2.out).mono ?_; rintro e wa ⟨x, y, z, da, dn, dc, rfl, hx, he0, he1⟩; have HE0 := kp he0; clear he0 he1; replace H := kp (H.out.ext hx); have HXC := kp hx; clear hx) | ((with_reducible refine isAl 8 74 ?_); (refine L_alloc H rfl 74 rfl (cat (pAu 0 0 0 none 0 0)) (fun _ _ => by kernel_rfl) ?_); clear H; intro g8 w8 HGg8 HEg8 H; simp only [pA]) | ((with_reducible refine isSt 74 ?_); (refine L_sa H rfl rfl 74 _ _ rfl 0 rfl rfl (pAu x y z da dn dc) rfl rfl (by kernel_rfl) ?_; clear H; intro w8b HWw8b H; simp only [szA] at H)))
     obtain ⟨rfl, rfl⟩ := HRD.out _ _ _ HE0.out
     clear HE0
     subst h2
     generalize rdF b 0 = al at *
     generalize rdF b 2 = st at *
     subst h0; subst h1; rw [show ((1 : Int) + 1) % 65536 = 2 from rfl] at HEN
     go_wp2_with fail
     subst h4
     go_wp2_with (first | ((with_reducible refine isLd 54 ?_); (first | (refine L_f1 H rfl 54 _ rfl 0 rfl _ rfl _ rfl _ rfl Try.underlying54 rfl ?_) | (refine L_f1 H rfl 54 _ rfl 1 rfl _ rfl _ rfl _ rfl Try.underlying54 rfl ?_)); simp only [pA]) | ((with_reducible show wpList _ _ _ (Oper.mk (some 25) (Op.build 74 _) _ _ _ _ :: _) _ _); (refine L_bd (by kernel_rfl) 74 _ rfl (#[(0, .int .u16 (0)), (1, .int .u16 (2))]) (by kernel_rfl) (cat (partsAu (0) (2) 0)) (fun w => by kernel_rfl) ?_); simp only [pA]) | ((with_reducible refine isAl 10 74 ?_); (refine L_alloc H rfl 74 rfl (cat (partsAu 0 0 0)) (fun _ _ => by kernel_rfl) ?_); clear H; intro g10 w10 HGg10 HEg10 H; simp only [pA]) | ((with_reducible refine isSt 74 ?_); (refine L_sa H rfl rfl 74 _ _ rfl 0 rfl rfl (partsAu (0) (2) 0) rfl rfl (by kernel_rfl) ?_; clear H; intro w11 HWw11 H; simp only [szA] at H)) | ((with_reducible refine isSt 54 ?_); (refine L_s1 H rfl rfl 54 _ _ rfl 0 rfl _ rfl _ rfl _ rfl rfl rfl rfl (by kernel_rfl) (partsAu (0) (2) (17)) rfl ?_; clear H; intro w12 HWw12 H; simp only [szA] at H)) | ((with_reducible refine isLd 74 ?_); (refine L_fa H rfl 74 _ rfl 0 rfl rfl Try.underlying74 rfl (by kernel_rfl) ?_); simp only [pA]) | (go_at_call 35; have HSZ := kp (Nat.le_of_lt (H.out.lt 2 rfl)); refine (HEN.out _).mono ?_; rintro e we ⟨v, rfl, ho, hx⟩; obtain ⟨bd, bn, bc, rfl⟩ := owns_form2 ho; have HOB := kp ho; clear ho; replace H := kp (H.out.ext hx); have HXC := kp hx; clear hx) | ((with_reducible refine isLd 23 ?_); (refine L_fv H rfl 23 _ rfl 2 rfl _ rfl _ rfl rfl Try.underlying23 rfl (by kernel_rfl) ?_); simp only [pA]) | (go_at_call 72; refine (HAU.out _ _ (Nat.le_trans HB.out (HGg4.out ▸ Nat.le_of_lt (H.out.lt 2 rfl))) (St.put [_, _, _] HT.out H.out)).mono ?_; rintro e wq ⟨rfl, hs⟩; obtain ⟨ad2, n2, c2, tb2, hT2, hl2⟩ := hs.get [_, _, _]; simp only [List.cons_append, List.nil_append] at hl2; clear H HT hs; have HT := kp hT2; have H := kp hl2; clear hl2 hT2))
     subst h12
     refine region_z H 8 (by kernel_rfl) (by kernel_rfl) (by kernel_rfl) (by kernel_rfl) (by decide) (Nat.le_of_ble_eq_true (by kernel_rfl)) ?_
     apply Exists.intro
     refine ⟨fun xz4 => ?_, fun wz4 HXZ H => ?_⟩
     ·simp only [List.take_succ_cons, List.take_zero]
      unfold Cx
      repeat (first | ((with_reducible show wpQuiet _ _ _ _ (Oper.mk _ (Op.load 26 _) _ _ _ _ :: _) _); go_big_quiet_want; (refine qz_a H 26 _ rfl 3 rfl rfl Try.underlying26 rfl (by kernel_rfl) ?_); simp only [pA]; go_big_quiet_on) | ((with_reducible show wpQuiet _ _ _ _ (Oper.mk _ (Op.load 23 _) _ _ _ _ :: _) _); go_big_quiet_want; (refine qz_v H 23 _ rfl 2 rfl _ rfl _ rfl rfl Try.underlying23 rfl (by kernel_rfl) ?_); simp only [pA]; go_big_quiet_on) | go_big_quiet_step (fail))
      exact wpQuiet_nil rfl
     simp only [List.drop_succ_cons, List.drop_zero]
     go_wp2_with (first | (go_at_call 87; refine (HMS.out _ _ _ _ _ _ _ _).mono ?_; rintro e wm ⟨rfl, hx⟩; replace H := kp (H.out.ext hx); have HXC := kp hx; clear hx) | (have HSY := kp (Nat.le_of_lt (H.out.lt 2 rfl)); ((with_reducible show wpList _ _ _ (Oper.mk (some 59) (Op.buildSlice 51 _ _) _ _ _ _ :: _) _ _); (refine L_bs H (by kernel_rfl) 51 1 _ rfl (#[(0, .agg (cellsF (msgH a h.a2 11) (.slice bd bn bc)).toArray)]) (by kernel_rfl) 31 (cellsF (msgH a h.a2 11) (.slice bd bn bc)) (HBF.out bd bn bc) ?_); clear H; intro gf wf HGgf HEgf H; simp only [pA])))
     go_ret2
     rw [HR.out]
     refine ⟨_, _, rfl, St.mk HT.out H.out (by (try simp only [List.cons_append, List.nil_append]); repeat (first | with_reducible exact List.Sublist.cons_cons _ (List.Sublist.refl _) | with_reducible apply List.Sublist.cons)), fun _ => rfl, ?_⟩
     rw [← HGg4.out]
     exact FrS.one HOK.out (H.out.at 0 rfl) (by rw [HGgf.out]; exact HSY.out) (owns_weak (owns_ext HOB.out (HXZ.out.trans (HXC.out.trans HEgf.out))) HSZ.out)
   ·have HR := kp (auth_yes (l := l) a h now hb 14 (by unfold authStat; rw [if_neg (fun q => q h0), if_pos h1]))
    have HEN := kp (fun w => HEN0 14 (by decide) (by decide) w)
    clear hB hB0 hfn hfc hsb hT hn hl hso hal hst HEN0 HAU
    go_enter Try.func91, Try.ntmps91
    generalize h2 : (Code.region 2 _ _ : Code) = R2
    generalize h4 : (Code.region 4 _ _ : Code) = R4
    generalize h12 : (Code.region 12 _ _ : Code) = R12
    go_wp2_with (first | (((with_reducible refine isBx 4 31 ?_); (refine L_box H rfl 31 _ rfl (cat (partsFr h ok fa fn fc)) rfl ?_); clear H; intro g4 w4 HGg4 HEg4 H; simp only [pA]); have HSB2 := kp (HSB.out.ext HEg4.out)) | ((with_reducible refine isLd 29 ?_); (refine L_f1 H rfl 29 _ rfl 0 rfl _ rfl _ rfl _ rfl Try.underlying29 rfl ?_); simp only [pA]) | (go_at_call 28; refine (decAuth_any fa fn fc b HFN.out HFC.out _ HSB2.out).mono ?_; rintro e wa ⟨x, y, z, da, dn, dc, rfl, hx, he0, he1⟩; have HE0 := kp he0; clear he0 he1; replace H := kp (H.out.ext hx); have HXC := kp hx; clear hx) | ((with_reducible refine isAl 8 74 ?_); (refine L_alloc H rfl 74 rfl (cat (pAu 0 0 0 none 0 0)) (fun _ _ => by kernel_rfl) ?_); clear H; intro g8 w8 HGg8 HEg8 H; simp only [pA]) | ((with_reducible refine isSt 74 ?_); (refine L_sa H rfl rfl 74 _ _ rfl 0 rfl rfl (pAu x y z da dn dc) rfl rfl (by kernel_rfl) ?_; clear H; intro w8b HWw8b H; simp only [szA] at H)))
    obtain ⟨rfl, rfl⟩ := HRD.out _ _ _ HE0.out
    clear HE0
    subst h2
    generalize rdF b 0 = al at *
    generalize rdF b 2 = st at *
    subst h0
    go_wp2_with fail
    subst h4
    go_wp2_with (first | ((with_reducible refine isLd 54 ?_); (first | (refine L_f1 H rfl 54 _ rfl 0 rfl _ rfl _ rfl _ rfl Try.underlying54 rfl ?_) | (refine L_f1 H rfl 54 _ rfl 1 rfl _ rfl _ rfl _ rfl Try.underlying54 rfl ?_)); simp only [pA]) | ((with_reducible show wpList _ _ _ (Oper.mk (some 25) (Op.build 74 _) _ _ _ _ :: _) _ _); (refine L_bd (by kernel_rfl) 74 _ rfl (#[(0, .int .u16 (0)), (1, .int .u16 ((st + 1) % 65536))]) (by kernel_rfl) (cat (partsAu (0) ((st + 1) % 65536) 0)) (fun w => by kernel_rfl) ?_); simp only [pA]) | ((with_reducible refine isAl 10 74 ?_); (refine L_alloc H rfl 74 rfl (cat (partsAu 0 0 0)) (fun _ _ => by kernel_rfl) ?_); clear H; intro g10 w10 HGg10 HEg10 H; simp only [pA]) | ((with_reducible refine isSt 74 ?_); (refine L_sa H rfl rfl 74 _ _ rfl 0 rfl rfl (partsAu (0) ((st + 1) % 65536) 0) rfl rfl (by kernel_rfl) ?_; clear H; intro w11 HWw11 H; simp only [szA] at H)) | ((with_reducible refine isSt 54 ?_); (refine L_s1 H rfl rfl 54 _ _ rfl 0 rfl _ rfl _ rfl _ rfl rfl rfl rfl (by kernel_rfl) (partsAu (0) ((st + 1) % 65536) (14)) rfl ?_; clear H; intro w12 HWw12 H; simp only [szA] at H)) | ((with_reducible refine isLd 74 ?_); (refine L_fa H rfl 74 _ rfl 0 rfl rfl Try.underlying74 rfl (by kernel_rfl) ?_); simp only [pA]) | (go_at_call 35; have HSZ := kp (Nat.le_of_lt (H.out.lt 2 rfl)); refine (HEN.out _).mono ?_; rintro e we ⟨v, rfl, ho, hx⟩; obtain ⟨bd, bn, bc, rfl⟩ := owns_form2 ho; have HOB := kp ho; clear ho; replace H := kp (H.out.ext hx); have HXC := kp hx; clear hx))
    subst h12
    refine region_z H 8 (by kernel_rfl) (by kernel_rfl) (by kernel_rfl) (by kernel_rfl) (by decide) (Nat.le_of_ble_eq_true (by kernel_rfl)) ?_
    apply Exists.intro
    refine ⟨fun xz6 => ?_, fun wz6 HXZ H => ?_⟩
    ·simp only [List.take_succ_cons, List.take_zero]
     unfold Cx
     repeat (first | ((with_reducible show wpQuiet _ _ _ _ (Oper.mk _ (Op.load 26 _) _ _ _ _ :: _) _); go_big_quiet_want; (refine qz_a H 26 _ rfl 3 rfl rfl Try.underlying26 rfl (by kernel_rfl) ?_); simp only [pA]; go_big_quiet_on) | ((with_reducible show wpQuiet _ _ _ _ (Oper.mk _ (Op.load 23 _) _ _ _ _ :: _) _); go_big_quiet_want; (refine qz_v H 23 _ rfl 2 rfl _ rfl _ rfl rfl Try.underlying23 rfl (by kernel_rfl) ?_); simp only [pA]; go_big_quiet_on) | go_big_quiet_step (fail))
     exact wpQuiet_nil rfl
    simp only [List.drop_succ_cons, List.drop_zero]
    go_wp2_with (first | (go_at_call 87; refine (HMS.out _ _ _ _ _ _ _ _).mono ?_; rintro e wm ⟨rfl, hx⟩; replace H := kp (H.out.ext hx); have HXC := kp hx; clear hx) | (have HSY := kp (Nat.le_of_lt (H.out.lt 2 rfl)); ((with_reducible show wpList _ _ _ (Oper.mk (some 59) (Op.buildSlice 51 _ _) _ _ _ _ :: _) _ _); (refine L_bs H (by kernel_rfl) 51 1 _ rfl (#[(0, .agg (cellsF (msgH a h.a2 11) (.slice bd bn bc)).toArray)]) (by kernel_rfl) 31 (cellsF (msgH a h.a2 11) (.slice bd bn bc)) (HBF.out bd bn bc) ?_); clear H; intro gf wf HGgf HEgf H; simp only [pA])))
    go_ret2
    rw [HR.out]
    refine ⟨_, _, rfl, St.mk HT.out H.out (by (try simp only [List.cons_append, List.nil_append]); repeat (first | with_reducible exact List.Sublist.cons_cons _ (List.Sublist.refl _) | with_reducible apply List.Sublist.cons)), fun _ => rfl, ?_⟩
    rw [← HGg4.out]
    exact FrS.one HOK.out (H.out.at 0 rfl) (by rw [HGgf.out]; exact HSY.out) (owns_weak (owns_ext HOB.out (HXZ.out.trans (HXC.out.trans HEgf.out))) HSZ.out)
  ·have HR := kp (auth_yes (l := l) a h now hb 13 (by unfold authStat; rw [if_pos h0]))
   have HEN := kp (fun w => HEN0 13 (by decide) (by decide) w)
   clear hB hB0 hfn hfc hsb hT hn hl hso hal hst HEN0 HAU
   go_enter Try.func91, Try.ntmps91
   generalize h2 : (Code.region 2 _ _ : Code) = R2
   generalize h4 : (Code.region 4 _ _ : Code) = R4
   generalize h12 : (Code.region 12 _ _ : Code) = R12
   go_wp2_with (first | (((with_reducible refine isBx 4 31 ?_); (refine L_box H rfl 31 _ rfl (cat (partsFr h ok fa fn fc)) rfl ?_); clear H; intro g4 w4 HGg4 HEg4 H; simp only [pA]); have HSB2 := kp (HSB.out.ext HEg4.out)) | ((with_reducible refine isLd 29 ?_); (refine L_f1 H rfl 29 _ rfl 0 rfl _ rfl _ rfl _ rfl Try.underlying29 rfl ?_); simp only [pA]) | (go_at_call 28; refine (decAuth_any fa fn fc b HFN.out HFC.out _ HSB2.out).mono ?_; rintro e wa ⟨x, y, z, da, dn, dc, rfl, hx, he0, he1⟩; have HE0 := kp he0; clear he0 he1; replace H := kp (H.out.ext hx); have HXC := kp hx; clear hx) | ((with_reducible refine isAl 8 74 ?_); (refine L_alloc H rfl 74 rfl (cat (pAu 0 0 0 none 0 0)) (fun _ _ => by kernel_rfl) ?_); clear H; intro g8 w8 HGg8 HEg8 H; simp only [pA]) | ((with_reducible refine isSt 74 ?_); (refine L_sa H rfl rfl 74 _ _ rfl 0 rfl rfl (pAu x y z da dn dc) rfl rfl (by kernel_rfl) ?_; clear H; intro w8b HWw8b H; simp only [szA] at H)))
   obtain ⟨rfl, rfl⟩ := HRD.out _ _ _ HE0.out
   clear HE0
   subst h2
   generalize rdF b 0 = al at *
   generalize rdF b 2 = st at *
   skip
   go_wp2_with fail
   subst h4
   go_wp2_with (first | ((with_reducible refine isLd 54 ?_); (first | (refine L_f1 H rfl 54 _ rfl 0 rfl _ rfl _ rfl _ rfl Try.underlying54 rfl ?_) | (refine L_f1 H rfl 54 _ rfl 1 rfl _ rfl _ rfl _ rfl Try.underlying54 rfl ?_)); simp only [pA]) | ((with_reducible show wpList _ _ _ (Oper.mk (some 25) (Op.build 74 _) _ _ _ _ :: _) _ _); (refine L_bd (by kernel_rfl) 74 _ rfl (#[(0, .int .u16 (al)), (1, .int .u16 ((st + 1) % 65536))]) (by kernel_rfl) (cat (partsAu (al) ((st + 1) % 65536) 0)) (fun w => by kernel_rfl) ?_); simp only [pA]) | ((with_reducible refine isAl 10 74 ?_); (refine L_alloc H rfl 74 rfl (cat (partsAu 0 0 0)) (fun _ _ => by kernel_rfl) ?_); clear H; intro g10 w10 HGg10 HEg10 H; simp only [pA]) | ((with_reducible refine isSt 74 ?_); (refine L_sa H rfl rfl 74 _ _ rfl 0 rfl rfl (partsAu (al) ((st + 1) % 65536) 0) rfl rfl (by kernel_rfl) ?_; clear H; intro w11 HWw11 H; simp only [szA] at H)) | ((with_reducible refine isSt 54 ?_); (refine L_s1 H rfl rfl 54 _ _ rfl 0 rfl _ rfl _ rfl _ rfl rfl rfl rfl (by kernel_rfl) (partsAu (al) ((st + 1) % 65536) (13)) rfl ?_; clear H; intro w12 HWw12 H; simp only [szA] at H)) | ((with_reducible refine isLd 74 ?_); (refine L_fa H rfl 74 _ rfl 0 rfl rfl Try.underlying74 rfl (by kernel_rfl) ?_); simp only [pA]) | (go_at_call 35; have HSZ := kp (Nat.le_of_lt (H.out.lt 2 rfl)); refine (HEN.out _).mono ?_; rintro e we ⟨v, rfl, ho, hx⟩; obtain ⟨bd, bn, bc, rfl⟩ := owns_form2 ho; have HOB := kp ho; clear ho; replace H := kp (H.out.ext hx); have HXC := kp hx; clear hx))
   subst h12
   refine region_z H 8 (by kernel_rfl) (by kernel_rfl) (by kernel_rfl) (by kernel_rfl) (by decide) (Nat.le_of_ble_eq_true (by kernel_rfl)) ?_
   apply Exists.intro
   refine ⟨fun xz8 => ?_, fun wz8 HXZ H => ?_⟩
   ·simp only [List.take_succ_cons, List.take_zero]
    unfold Cx
    repeat (first | ((with_reducible show wpQuiet _ _ _ _ (Oper.mk _ (Op.load 26 _) _ _ _ _ :: _) _); go_big_quiet_want; (refine qz_a H 26 _ rfl 3 rfl rfl Try.underlying26 rfl (by kernel_rfl) ?_); simp only [pA]; go_big_quiet_on) | ((with_reducible show wpQuiet _ _ _ _ (Oper.mk _ (Op.load 23 _) _ _ _ _ :: _) _); go_big_quiet_want; (refine qz_v H 23 _ rfl 2 rfl _ rfl _ rfl rfl Try.underlying23 rfl (by kernel_rfl) ?_); simp only [pA]; go_big_quiet_on) | go_big_quiet_step (fail))
    exact wpQuiet_nil rfl
   simp only [List.drop_succ_cons, List.drop_zero]
   go_wp2_with (first | (go_at_call 87; refine (HMS.out _ _ _ _ _ _ _ _).mono ?_; rintro e wm ⟨rfl, hx⟩; replace H := kp (H.out.ext hx); have HXC := kp hx; clear hx) | (have HSY := kp (Nat.le_of_lt (H.out.lt 2 rfl)); ((with_reducible show wpList _ _ _ (Oper.mk (some 59) (Op.buildSlice 51 _ _) _ _ _ _ :: _) _ _); (refine L_bs H (by kernel_rfl) 51 1 _ rfl (#[(0, .agg (cellsF (msgH a h.a2 11) (.slice bd bn bc)).toArray)]) (by kernel_rfl) 31 (cellsF (msgH a h.a2 11) (.slice bd bn bc)) (HBF.out bd bn bc) ?_); clear H; intro gf wf HGgf HEgf H; simp only [pA])))
   go_ret2
   rw [HR.out]
   refine ⟨_, _, rfl, St.mk HT.out H.out (by (try simp only [List.cons_append, List.nil_append]); repeat (first | with_reducible exact List.Sublist.cons_cons _ (List.Sublist.refl _) | with_reducible apply List.Sublist.cons)), fun _ => rfl, ?_⟩
   rw [← HGg4.out]
   exact FrS.one HOK.out (H.out.at 0 rfl) (by rw [HGgf.out]; exact HSY.out) (owns_weak (owns_ext HOB.out (HXZ.out.trans (HXC.out.trans HEgf.out))) HSZ.out)
 ·have HR := kp (auth_no (l := l) (b := b) a h now hb)
  clear hB hB0 hfn hfc hsb hT hn hl hso HAU
  go_enter Try.func91, Try.ntmps91
  generalize h2 : (Code.region 2 _ _ : Code) = R2
  go_wp2_with (first | (((with_reducible refine isBx 4 31 ?_); (refine L_box H rfl 31 _ rfl (cat (partsFr h ok fa fn fc)) rfl ?_); clear H; intro g4 w4 HGg4 HEg4 H; simp only [pA]); have HSB2 := kp (HSB.out.ext HEg4.out)) | ((with_reducible refine isLd 29 ?_); (refine L_f1 H rfl 29 _ rfl 0 rfl _ rfl _ rfl _ rfl Try.underlying29 rfl ?_); simp only [pA]) | (go_at_call 28; refine (decAuth_any fa fn fc b HFN.out HFC.out _ HSB2.out).mono ?_; rintro e wa ⟨x, y, z, da, dn, dc, rfl, hx, he0, he1⟩; have HE0 := kp he0; clear he0 he1; replace H := kp (H.out.ext hx); have HXC := kp hx; clear hx) | ((with_reducible refine isAl 8 74 ?_); (refine L_alloc H rfl 74 rfl (cat (pAu 0 0 0 none 0 0)) (fun _ _ => by kernel_rfl) ?_); clear H; intro g8 w8 HGg8 HEg8 H; simp only [pA]) | ((with_reducible refine isSt 74 ?_); (refine L_sa H rfl rfl 74 _ _ rfl 0 rfl rfl (pAu x y z da dn dc) rfl rfl (by kernel_rfl) ?_; clear H; intro w8b HWw8b H; simp only [szA] at H)))
  generalize frontE b 6 = E at *
  subst h2
  go_wp2_with fail
  go_ret2
  rw [HR.out]
  exact ⟨_, _, rfl, St.mk HT.out H.out (by (try simp only [List.cons_append, List.nil_append]); repeat (first | with_reducible exact List.Sublist.cons_cons _ (List.Sublist.refl _) | with_reducible apply List.Sublist.cons)), (fun q => absurd q (by decide)), FrS.nil _ _⟩
theorem build_left (t : By) (ht : t.length = 6) (se : Int) (w : World) : (Instr.build 39 #[(0, .agg (t.map V8).toArray), (1, .int .u8 1), (5, .int .i64 se)]).run Try.prog w = .ok (.agg (cat (partsE (freshE t se) ht)).toArray) w := build_fresh t ht se w
set_option maxRecDepth 4000 in
set_option maxHeartbeats 1600000 in
theorem leave_any (a : As) (ha : a.own.length = 6) (l : List En) (hl : L6 l) (hn : l.length ≤ 64) (hso : l.Pairwise (fun e f => numF e.addr < numF f.addr)) (h : Hd) (ok : h.Ok) (fa : Option Addr) (fn fc : Nat) (b : By) (hfn : fn ≤ 100000) (hfc : fn ≤ fc) (now : Int) (B : Nat) (g : Nat) (w0 w : World) (rest : List Bk) (hst : St B w0 w g a ha l rest) (hsb : SlB w (.slice fa fn fc) b) :
  Calls Try.prog 93 #[.pointer (some ⟨g, 0, none⟩), .agg (cellsF h (.slice fa fn fc)).toArray, .int .i64 now] w (HndR B w0 w g a ha (leaveF dL l h b) rest) := by
 obtain ⟨ad, n, c, tb, hT, H0⟩ := hst
 have H := kp H0
 clear H0
 have HT := kp hT
 have HSB := kp hsb
 have HFN := kp hfn
 have HFC := kp hfc
 have hnl := hT.len
 have HPL := kp (fun W (hW : Loc w0 W tb) => place_one a ha (.slice ad n c) l hl (by omega) (sorted_of_pair hso) h.a2 ok.l2 W (hT.slt hl hW))
 rw [cat_A a ha] at HPL
 rw [fr_cells h ok]
 by_cases hb : frontE b 2 = 0
 ·cases hc : lookF l h.a2 with
  | none =>
   have hpb : plB l h.a2 = false := by unfold plB; rw [hc]; rfl
   rw [hpb] at HPL
   have HR := kp (show leaveF dL l h b = (l, [], 0) by unfold leaveF dL; rw [hc, hb]; rfl)
   generalize plI l h.a2 = i at *
   clear hc hpb hl hn hso hT hnl hfn hfc hsb
   go_enter Try.func93, Try.ntmps93
   generalize h4 : (Code.region 4 _ _ : Code) = R4
   go_wp2_with (first | (((with_reducible refine isBx 4 31 ?_); (refine L_box H rfl 31 _ rfl (cat (partsFr h ok fa fn fc)) rfl ?_); clear H; intro g4 w4 HGg4 HEg4 H; simp only [pA]); have HSB2 := kp (HSB.out.ext HEg4.out)) | ((with_reducible refine isLd 29 ?_); (refine L_f1 H rfl 29 _ rfl 0 rfl _ rfl _ rfl _ rfl Try.underlying29 rfl ?_); simp only [pA]) | (go_at_call 23; refine (decReason_any fa fn fc b HFN.out HFC.out _ HSB2.out).mono ?_; rintro e wa ⟨da, dn, dc, rfl, hx⟩; replace H := kp (H.out.ext hx); have HXC := kp hx; clear hx) | ((with_reducible refine isAl 8 57 ?_); (refine L_alloc H rfl 57 rfl (cat (pRe 0 none 0 0)) (fun _ _ => by kernel_rfl) ?_); clear H; intro g8 w8 HGg8 HEg8 H; simp only [pA]) | ((with_reducible refine isSt 57 ?_); (refine L_sa H rfl rfl 57 _ _ rfl 0 rfl rfl (pRe (codF b) da dn dc) rfl rfl (by kernel_rfl) ?_; clear H; intro w8b HWw8b H; simp only [szA] at H)))
   subst h4
   refine region_z H 11 (by kernel_rfl) (by kernel_rfl) (by kernel_rfl) (by kernel_rfl) (by decide) (Nat.le_of_ble_eq_true (by kernel_rfl)) ?_
   apply Exists.intro
   refine ⟨fun xz2 => ?_, fun wz2 HXZ H => ?_⟩
   ·simp only [List.take_succ_cons, List.take_zero]
    unfold Cx
    repeat (first | ((with_reducible show wpQuiet _ _ _ _ (Oper.mk _ (Op.load 26 _) _ _ _ _ :: _) _); go_big_quiet_want; (refine qz_a H 26 _ rfl 2 rfl rfl Try.underlying26 rfl (by kernel_rfl) ?_); simp only [pA]; go_big_quiet_on) | ((with_reducible show wpQuiet _ _ _ _ (Oper.mk _ (Op.load 23 _) _ _ _ _ :: _) _); go_big_quiet_want; (refine qz_v H 23 _ rfl 1 rfl _ rfl _ rfl rfl Try.underlying23 rfl (by kernel_rfl) ?_); simp only [pA]; go_big_quiet_on) | go_big_quiet_step (exact Calls.cx_of (HPL.out _ ((H.out.ext (Ext.more _ _)).sub (by (try simp only [List.cons_append, List.nil_append]); repeat (first | with_reducible exact List.sublist_append_left _ _ | with_reducible apply List.Sublist.cons))))))
    exact wpQuiet_nil rfl
   simp only [List.drop_succ_cons, List.drop_zero]
   go_wp2_with fail
   go_ret2
   rw [HR.out]
   exact ⟨_, _, rfl, St.mk HT.out H.out (by (try simp only [List.cons_append, List.nil_append]); repeat (first | with_reducible exact List.Sublist.cons_cons _ (List.Sublist.refl _) | with_reducible apply List.Sublist.cons)), fun _ => rfl, FrS.nil _ _⟩
  | some s =>
   have hpb : plB l h.a2 = true := by unfold plB; rw [hc]; rfl
   rw [hpb] at HPL
   have hF := pl_found hso hl ok.l2 hc
   have hsa := hl s (List.mem_of_getElem? hF.2.1)
   have HSA := kp hsa
   have HIN := kp hF.1
   by_cases hs : h.sub = 12
   ·have HR := kp (show leaveF dL l h b = (delF l h.a2, [], 0) by unfold leaveF dL; rw [hc, hb]; simp [hs])
    have HDD := kp hF.2.2.2.2
    generalize plI l h.a2 = i at *
    rcases hT with ⟨rfl, _⟩ | ⟨bb, zs, rfl, rfl, hbb, -, hcap, hm, hz⟩
    ·cases hc
    have HDE := kp (fun j (hj : j = i + 1) w1 rest H => delete_any l hl n hnl (by omega) i j hj (by omega) bb c zs hcap hz w0 w1 rest H)
    have HX := kp (show B ≤ bb ∧ n ≤ c ∧ c ≤ maxLen ∧ n = l.length ∧ i < n from ⟨hbb, hcap, hm, hnl, by omega⟩)
    have HL6 := kp hl
    simp only [List.cons_append, List.nil_append] at H
    obtain ⟨cs, hcs⟩ : ∃ cs, cs = l.flatMap cellsE ++ zs := ⟨_, rfl⟩
    rw [← hcs] at H HPL HDE
    obtain ⟨j, hj⟩ : ∃ j, j = i + 1 := ⟨_, rfl⟩
    have hi1 : (i : Int) + 1 = (j : Int) := by omega
    have HJ := kp hj
    have hin : i ≤ 64 := by omega
    clear hc hpb hl hn hso hnl hfn hfc hsb hF hsa hbb hcap hm hz hcs HT hj
    go_enter Try.func93, Try.ntmps93
    generalize h4 : (Code.region 4 _ _ : Code) = R4
    generalize h9 : (Code.region 9 _ _ : Code) = R9
    go_wp2_with (first | (((with_reducible refine isBx 4 31 ?_); (refine L_box H rfl 31 _ rfl (cat (partsFr h ok fa fn fc)) rfl ?_); clear H; intro g4 w4 HGg4 HEg4 H; simp only [pA]); have HSB2 := kp (HSB.out.ext HEg4.out)) | ((with_reducible refine isLd 29 ?_); (refine L_f1 H rfl 29 _ rfl 0 rfl _ rfl _ rfl _ rfl Try.underlying29 rfl ?_); simp only [pA]) | (go_at_call 23; refine (decReason_any fa fn fc b HFN.out HFC.out _ HSB2.out).mono ?_; rintro e wa ⟨da, dn, dc, rfl, hx⟩; replace H := kp (H.out.ext hx); have HXC := kp hx; clear hx) | ((with_reducible refine isAl 8 57 ?_); (refine L_alloc H rfl 57 rfl (cat (pRe 0 none 0 0)) (fun _ _ => by kernel_rfl) ?_); clear H; intro g8 w8 HGg8 HEg8 H; simp only [pA]) | ((with_reducible refine isSt 57 ?_); (refine L_sa H rfl rfl 57 _ _ rfl 0 rfl rfl (pRe (codF b) da dn dc) rfl rfl (by kernel_rfl) ?_; clear H; intro w8b HWw8b H; simp only [szA] at H)))
    subst h4
    refine region_z H 11 (by kernel_rfl) (by kernel_rfl) (by kernel_rfl) (by kernel_rfl) (by decide) (Nat.le_of_ble_eq_true (by kernel_rfl)) ?_
    apply Exists.intro
    refine ⟨fun xz4 => ?_, fun wz4 HXZ H => ?_⟩
    ·simp only [List.take_succ_cons, List.take_zero]
     unfold Cx
     repeat (first | ((with_reducible show wpQuiet _ _ _ _ (Oper.mk _ (Op.load 26 _) _ _ _ _ :: _) _); go_big_quiet_want; (refine qz_a H 26 _ rfl 2 rfl rfl Try.underlying26 rfl (by kernel_rfl) ?_); simp only [pA]; go_big_quiet_on) | ((with_reducible show wpQuiet _ _ _ _ (Oper.mk _ (Op.load 23 _) _ _ _ _ :: _) _); go_big_quiet_want; (refine qz_v H 23 _ rfl 1 rfl _ rfl _ rfl rfl Try.underlying23 rfl (by kernel_rfl) ?_); simp only [pA]; go_big_quiet_on) | go_big_quiet_step (exact Calls.cx_of (HPL.out _ ((H.out.ext (Ext.more _ _)).sub (by (try simp only [List.cons_append, List.nil_append]); repeat (first | with_reducible exact List.Sublist.cons_cons _ (List.nil_sublist _) | with_reducible apply List.Sublist.cons))))))
     exact wpQuiet_nil rfl
    simp only [List.drop_succ_cons, List.drop_zero]
    go_wp2_with ((with_reducible refine isLd 5 ?_); (refine L_f1 H rfl 5 _ rfl 1 rfl _ rfl _ rfl _ rfl Try.underlying5 rfl ?_); simp only [pA])
    subst h9
    go_wp2_with (first | ((with_reducible refine isLd 24 ?_); (refine L_f1 H rfl 24 _ rfl 2 rfl _ rfl _ rfl _ rfl Try.underlying24 rfl ?_); simp only [pA]) | (go_at_call 76; go_loud (refine (HDE.out j HJ.out _ (_ :: _ :: _ :: rest) (kp (H.out.perm (List.perm_middle (l₁ := [_, _, _]) (l₂ := rest))))).mono ?_); rintro e wd ⟨zs2, rfl, hzl, hl2⟩; clear H; have H := kp (hl2.perm (List.perm_middle (l₁ := [_, _, _]) (l₂ := rest)).symm); clear hl2; have HZL := kp hzl; clear hzl; simp only [List.cons_append, List.nil_append] at H) | ((with_reducible refine isSt 24 ?_); (refine L_s1 H rfl rfl 24 _ _ rfl 2 rfl _ rfl _ rfl _ rfl rfl rfl rfl (by kernel_rfl) (partsA a ha (some ⟨bb, 0, none⟩) (l.length - 1) c) rfl ?_; clear H; intro wz HWwz H; simp only [ssA, szA] at H)))
    go_ret2
    rw [HR.out, HDD.out]
    have hx := HX.out
    have hTB : TB B (some ⟨bb, 0, none⟩) (l.length - 1) c [(bb, 39, (l.take i ++ l.drop (i + 1)).flatMap cellsE ++ zs2)] (l.take i ++ l.drop (i + 1)) := .inr ⟨bb, zs2, rfl, rfl, hx.1, by simp only [List.length_append, List.length_take, List.length_drop]; omega, by omega, hx.2.2.1, HZL.out⟩
    exact ⟨_, _, rfl, St.mk hTB H.out (by (try simp only [List.cons_append, List.nil_append]); repeat (first | with_reducible exact List.Sublist.cons_cons _ (List.Sublist.refl _) | with_reducible apply List.Sublist.cons)), fun _ => rfl, FrS.nil _ _⟩
   ·have HR := kp (show leaveF dL l h b = (putF l (freshE h.a2 s.seen), [], 0) by
     unfold leaveF dL; rw [hc, hb]; simp only [decide_true, if_true, hs, if_false]; rw [show s.addr = h.a2 from hF.2.2.1]; rfl)
    have HPU := kp (hF.2.2.2.1 (freshE h.a2 s.seen) rfl)
    have HAD := kp hF.2.2.1
    have HGI := kp hF.2.1
    have HNW0 := kp (fun zs => flat_set hl hF.1 (freshE h.a2 s.seen) ok.l2 zs)
    have HA0 := kp (fun zs => show ((l.flatMap cellsE ++ zs).drop (plI l h.a2 * 11)).take 6 = h.a2.map V8 by
     have h1 := flatMap_at (sz := 11) (f := cellsE) l (fun x hx => cellsE_len (hl x hx)) _ s hF.2.1
     have h2 : (l.flatMap cellsE ++ zs).drop (plI l h.a2 * 11) = (l.drop (plI l h.a2)).flatMap cellsE ++ zs := flatE_drop hl zs _ (Nat.le_of_lt hF.1)
     rw [h2, List.drop_eq_getElem_cons hF.1, List.flatMap_cons]
     have h3 : l[plI l h.a2] = s := by have := hF.2.1; rw [List.getElem?_eq_getElem hF.1] at this; exact Option.some.inj this
     rw [h3, ← hF.2.2.1]
     simp only [cellsE, List.append_assoc]
     rw [List.take_append_of_le_length (by simp [hsa]), List.take_of_length_le (by simp [hsa])])
    have HC0 := kp (fun zs => (flat_cell hl hF.2.1 zs 10 (by omega)).trans (cE hsa).2.2.2.2)
    generalize plI l h.a2 = i at *
    rcases hT with ⟨rfl, _⟩ | ⟨bb, zs, rfl, rfl, hbb, -, hcap, hm, hz⟩
    ·cases hc
    have HX := kp (show B ≤ bb ∧ n ≤ c ∧ c ≤ maxLen ∧ n = l.length ∧ i < n from ⟨hbb, hcap, hm, hnl, by omega⟩)
    have HZZ := kp hz
    have HL6 := kp hl
    have HNW := kp (HNW0.out zs)
    have HA6 := kp (HA0.out zs)
    have HC10 := kp (HC0.out zs)
    simp only [List.cons_append, List.nil_append] at H
    obtain ⟨cs, hcs⟩ : ∃ cs, cs = l.flatMap cellsE ++ zs := ⟨_, rfl⟩
    obtain ⟨ns, hns⟩ : ∃ ns, ns = (l.set i (freshE h.a2 s.seen)).flatMap cellsE ++ zs := ⟨_, rfl⟩
    have HNS := kp hns
    rw [← hcs, ← hns, cat_E (freshE h.a2 s.seen) ok.l2] at HNW
    rw [← hcs] at H HPL HA6 HC10 hz
    have HFT := kp (show i * 11 + (cat (partsE (freshE h.a2 s.seen) ok.l2)).toArray.size ≤ cs.toArray.size by rw [List.size_toArray, List.size_toArray, cat_len, hz]; show i * 11 + 11 ≤ c * 11; omega)
    have HBL := kp (fun w => build_left h.a2 ok.l2 s.seen w)
    have HZA := kp (show (Try.prog.info? 23).map (·.size) = some (h.a2.map V8).length by rw [List.length_map, ok.l2]; kernel_rfl)
    have hin : i < n := by omega
    have hn64 : n ≤ 64 := by omega
    clear hc hpb hl hn hso hnl hfn hfc hsb hF hsa hbb hcap hm hz hcs hns HT HA0 HC0 HNW0
    go_enter Try.func93, Try.ntmps93
    generalize h4 : (Code.region 4 _ _ : Code) = R4
    generalize h6 : (Code.region 6 _ _ : Code) = R6
    go_wp2_with (first | (((with_reducible refine isBx 4 31 ?_); (refine L_box H rfl 31 _ rfl (cat (partsFr h ok fa fn fc)) rfl ?_); clear H; intro g4 w4 HGg4 HEg4 H; simp only [pA]); have HSB2 := kp (HSB.out.ext HEg4.out)) | ((with_reducible refine isLd 29 ?_); (refine L_f1 H rfl 29 _ rfl 0 rfl _ rfl _ rfl _ rfl Try.underlying29 rfl ?_); simp only [pA]) | (go_at_call 23; refine (decReason_any fa fn fc b HFN.out HFC.out _ HSB2.out).mono ?_; rintro e wa ⟨da, dn, dc, rfl, hx⟩; replace H := kp (H.out.ext hx); have HXC := kp hx; clear hx) | ((with_reducible refine isAl 8 57 ?_); (refine L_alloc H rfl 57 rfl (cat (pRe 0 none 0 0)) (fun _ _ => by kernel_rfl) ?_); clear H; intro g8 w8 HGg8 HEg8 H; simp only [pA]) | ((with_reducible refine isSt 57 ?_); (refine L_sa H rfl rfl 57 _ _ rfl 0 rfl rfl (pRe (codF b) da dn dc) rfl rfl (by kernel_rfl) ?_; clear H; intro w8b HWw8b H; simp only [szA] at H)))
    subst h4
    refine region_z H 11 (by kernel_rfl) (by kernel_rfl) (by kernel_rfl) (by kernel_rfl) (by decide) (Nat.le_of_ble_eq_true (by kernel_rfl)) ?_
    apply Exists.intro
    refine ⟨fun xz6 => ?_, fun wz6 HXZ H => ?_⟩
    ·simp only [List.take_succ_cons, List.take_zero]
     unfold Cx
     repeat (first | ((with_reducible show wpQuiet _ _ _ _ (Oper.mk _ (Op.load 26 _) _ _ _ _ :: _) _); go_big_quiet_want; (refine qz_a H 26 _ rfl 2 rfl rfl Try.underlying26 rfl (by kernel_rfl) ?_); simp only [pA]; go_big_quiet_on) | ((with_reducible show wpQuiet _ _ _ _ (Oper.mk _ (Op.load 23 _) _ _ _ _ :: _) _); go_big_quiet_want; (refine qz_v H 23 _ rfl 1 rfl _ rfl _ rfl rfl Try.underlying23 rfl (by kernel_rfl) ?_); simp only [pA]; go_big_quiet_on) | go_big_quiet_step (exact Calls.cx_of (HPL.out _ ((H.out.ext (Ext.more _ _)).sub (by (try simp only [List.cons_append, List.nil_append]); repeat (first | with_reducible exact List.Sublist.cons_cons _ (List.nil_sublist _) | with_reducible apply List.Sublist.cons))))))
     exact wpQuiet_nil rfl
    simp only [List.drop_succ_cons, List.drop_zero]
    go_wp2_with (first | ((with_reducible refine isLd 5 ?_); (refine L_f1 H rfl 5 _ rfl 1 rfl _ rfl _ rfl _ rfl Try.underlying5 rfl ?_); simp only [pA]) | ((with_reducible refine isLd 24 ?_); (refine L_f1 H rfl 24 _ rfl 2 rfl _ rfl _ rfl _ rfl Try.underlying24 rfl ?_); simp only [pA]))
    subst h6
    refine region_z H 10 (by kernel_rfl) (by kernel_rfl) (by kernel_rfl) (by kernel_rfl) (by decide) (Nat.le_of_ble_eq_true (by kernel_rfl)) ?_
    apply Exists.intro
    refine ⟨fun xz7 => ?_, fun wz7 HXZ H => ?_⟩
    ·simp only [List.take_succ_cons, List.take_zero]
     unfold Cx
     repeat (first | ((with_reducible show wpQuiet _ _ _ _ (Oper.mk _ (Op.load 23 _) _ _ _ _ :: _) _); go_big_quiet_want; (refine qz_l H 23 _ rfl 3 rfl (i * 11) rfl (h.a2.map V8) (by rw [List.length_map, ok.l2]; exact HA6.out) Try.underlying23 rfl HZA.out ?_); simp only [pA]; go_big_quiet_on) | ((with_reducible show wpQuiet _ _ _ _ (Oper.mk _ (Op.load 3 _) _ _ _ _ :: _) _); go_big_quiet_want; refine qz_c 3 _ rfl _ _ rfl (.int .i64 s.seen) (fun W hW => ((H.out.ext hW).at 3 rfl : Lc W bb _ cs).cell HC10.out) Try.underlying3 rfl ?_; simp only [pA]; go_big_quiet_on) | ((with_reducible show wpQuiet _ _ _ _ (Oper.mk _ (Op.build 39 _) _ _ _ _ :: _) _); go_big_quiet_want; refine qz_bd 39 _ rfl (#[(0, .agg (h.a2.map V8).toArray), (1, .int .u8 1), (5, .int .i64 s.seen)]) (by kernel_rfl) (cat (partsE (freshE h.a2 s.seen) ok.l2)) (HBL.out) ?_; simp only [pA]; go_big_quiet_on) | go_big_quiet_step (fail))
     exact wpQuiet_nil rfl
    simp only [List.drop_succ_cons, List.drop_zero]
    go_wp2_with ((with_reducible refine isSt 39 ?_); go_loud (refine L_seg H rfl rfl 39 _ _ rfl 3 rfl (i * 11) rfl (cat (partsE (freshE h.a2 s.seen) ok.l2)) rfl (by rw [List.size_toArray, cat_len]; kernel_rfl) HFT.out (by simpa using cat_one (partsE (freshE h.a2 s.seen) ok.l2)) ns (by rw [cat_len]; exact congrArg List.toArray HNW.out) ?_); clear H; intro wd HWwd H; simp only [ssA, szA] at H)
    go_ret2
    have hx := HX.out
    rw [HR.out, HPU.out]
    rw [HNS.out] at H
    exact ⟨_, _, rfl, St.mk (TB.set HL6.out i (freshE h.a2 s.seen) ok.l2 hx.1 hx.2.2.2.1 hx.2.1 hx.2.2.1 HZZ.out) H.out (by (try simp only [List.cons_append, List.nil_append]); repeat (first | with_reducible exact List.Sublist.cons_cons _ (List.Sublist.refl _) | with_reducible apply List.Sublist.cons)), fun _ => rfl, FrS.nil _ _⟩
 ·have HR := kp (show leaveF dL l h b = ([], [], 12) by unfold leaveF dL; simp [hb])
  clear hl hn hso hT hnl hfn hfc hsb
  go_enter Try.func93, Try.ntmps93
  generalize h2 : (Code.region 2 _ _ : Code) = R2
  go_wp2_with (first | (((with_reducible refine isBx 4 31 ?_); (refine L_box H rfl 31 _ rfl (cat (partsFr h ok fa fn fc)) rfl ?_); clear H; intro g4 w4 HGg4 HEg4 H; simp only [pA]); have HSB2 := kp (HSB.out.ext HEg4.out)) | ((with_reducible refine isLd 29 ?_); (refine L_f1 H rfl 29 _ rfl 0 rfl _ rfl _ rfl _ rfl Try.underlying29 rfl ?_); simp only [pA]) | (go_at_call 23; refine (decReason_any fa fn fc b HFN.out HFC.out _ HSB2.out).mono ?_; rintro e wa ⟨da, dn, dc, rfl, hx⟩; replace H := kp (H.out.ext hx); have HXC := kp hx; clear hx) | ((with_reducible refine isAl 8 57 ?_); (refine L_alloc H rfl 57 rfl (cat (pRe 0 none 0 0)) (fun _ _ => by kernel_rfl) ?_); clear H; intro g8 w8 HGg8 HEg8 H; simp only [pA]) | ((with_reducible refine isSt 57 ?_); (refine L_sa H rfl rfl 57 _ _ rfl 0 rfl rfl (pRe (codF b) da dn dc) rfl rfl (by kernel_rfl) ?_; clear H; intro w8b HWw8b H; simp only [szA] at H)))
  generalize frontE b 2 = E at *
  subst h2
  go_wp2_with fail
  go_ret2
  rw [HR.out]
  exact ⟨_, _, rfl, St.mk HT.out H.out (by (try simp only [List.cons_append, List.nil_append]); repeat (first | with_reducible exact List.Sublist.cons_cons _ (List.Sublist.refl _) | with_reducible apply List.Sublist.cons)), (fun q => absurd q (by decide)), FrS.nil _ _⟩
end Go.Proofs.Ytfecopfofkdnpaa
