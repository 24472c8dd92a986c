/- Texts of this proof, put together: Hn4. -/
import Derived.Test.YtfecopfofkdnpaaS23
import Derived.Test.YtfecopfofkdnpaaS24
import Derived.Test.YtfecopfofkdnpaaS1
namespace Go.Proofs.Ytfecopfofkdnpaa
open Go.RowKit
def reqG (b : By) (g : Bool) : Int := frontE b (if g then 10 else 4)
def RqS (b : By) (again : Bool) (w : World) (en : Ending) (w' : World) : Prop := ∃ x y o a k q, en = .returned (.tuple #[.agg (cat (partsRq x y o a k q)).toArray, .int .i64 (reqG b again)]) ∧ Ext w w' ∧ (reqG b again = 0 → x = rdF b 0 ∧ y = rdF b 2)
theorem decReq_any (ad : Option Addr) (n c : Nat) (b : By) (again : Bool) (hb : n ≤ 100000) (hcap : n ≤ c) (w : World) (hs : SlB w (.slice ad n c) b) : Calls Try.prog 106 #[.slice ad n c, .bool again] w (RqS b again w) := by
 have h : Calls Try.prog 106 #[.slice ad n c, .bool again] w (RqR b again w) := by
  cases again
  ·exact decReq_no ad n c b hb hcap w hs
  ·exact decReq_yes ad n c b hb hcap w hs
 refine h.mono ?_
 rintro e w' ⟨x, y, o, a, k, q, h1, h2, h3, _⟩
 exact ⟨x, y, o, a, k, q, h1, h2, h3⟩
theorem join_no {a : As} {l : List En} {b : By} {h : Hd} {g : Bool} (hg : (h.sub == 2) = g) (hb : reqG b g ≠ 0) : joinF dJ a l h b = ([], [], 12) := by
 unfold joinF dJ
 rw [hg]
 unfold reqG at hb
 rw [if_neg hb]
theorem join_yes {a : As} {l : List En} {b : By} {h : Hd} {g : Bool} (hg : (h.sub == 2) = g) (hb : reqG b g = 0) : joinF dJ a l h b = match lookF l h.a2 with
  | none => (l, [byeF a h.a2 12 6], 0)
  | some s => if joinStat a l s (rdF b 0) = 0 then (putF l ⟨s.addr, 2, joinAid l s, rdF b 0, rdF b 2, s.seen⟩, [(msgH a h.a2 (h.sub + 1), respB a 0 (joinAid l s))], 0)
   else (l, [(msgH a h.a2 (h.sub + 1), respB a (joinStat a l s (rdF b 0)) 0)], 0) := by
 unfold joinF dJ
 rw [hg]
 unfold reqG at hb
 rw [if_pos hb]
 rfl
set_option maxRecDepth 4000 in
set_option maxHeartbeats 1600000 in
theorem join_any (a : As) (ha : a.own.length = 6) (l : List En) (hok : OkL a l) (hl : L6 l) (h : Hd) (ok : h.Ok) (hsub : h.sub = 0 ∨ h.sub = 2) (fa : Option Addr) (fn fc : Nat) (b : By) (hfn : fn ≤ 100000) (hfc : fn ≤ fc) (now : Int) (B : Nat) (g : Nat) (w0 w : World) (rest : List Bk) (hst : St B w0 w g a ha l rest) (hsb : SlB w (.slice fa fn fc) b) :
  Calls Try.prog 92 #[.pointer (some ⟨g, 0, none⟩), .agg (cellsF h (.slice fa fn fc)).toArray, .int .i64 now] w (HndR B w0 w g a ha (joinF dJ a l h b) rest) := by
 obtain ⟨ad, n, c, tb, hT, H0⟩ := hst
 have H := kp H0
 clear H0
 have HT := kp hT
 have HSB := kp hsb
 have HFN := kp hfn
 have HFC := kp hfc
 obtain ⟨ag, hag⟩ : ∃ ag, (h.sub == 2) = ag := ⟨_, rfl⟩
 have HSU := kp (show h.sub + 1 = if ag then 3 else 1 by rw [← hag]; rcases hsub with q | q <;> rw [q] <;> rfl)
 have hnl := hT.len
 have hn := ok_len hok
 have hso := hok.sorted
 have HPL := kp (fun W (hW : Loc w0 W tb) => place_one a ha (.slice ad n c) l hl (by omega) (sorted_of_pair hso) h.a2 ok.l2 W (hT.slt hl hW))
 have HB0 := fun sub s0 s1 code c0 c1 w => bye_any a ha (.slice ad n c) h.a2 ok.l2 sub s0 s1 code c0 c1 w
 have HMB := kp (fun W (hW : Loc w0 W tb) => members_any a ha (.slice ad n c) l hl (by omega) W (hT.slt hl hW))
 have HFR := kp (fun W (hW : Loc w0 W tb) => free_any a ha (.slice ad n c) l hl (by omega) W (hT.slt hl hW))
 rw [cat_A a ha] at HPL HB0 HMB HFR
 rw [fr_cells h ok]
 by_cases hb : reqG b ag = 0
 ·have HJ := join_yes (a := a) (l := l) hag hb
  have HRD := kp (show ∀ x y, (reqG b ag = 0 → x = rdF b 0 ∧ y = rdF b 2) → x = rdF b 0 ∧ y = rdF b 2 from fun x y q => q hb)
  cases hc : lookF l h.a2 with
  | none =>
   have hpb : plB l h.a2 = false := by unfold plB; rw [hc]; rfl
   rw [hpb] at HPL
   rw [hc] at HJ
   have HR := kp HJ
   have HOK := kp (msg_ok (t := h.a2) ha ok.l2 (show (0:Int) ≤ 12 by decide) (by decide))
   have HBY := kp (fun w => HB0 12 (by decide) (by decide) 6 (by decide) (by decide) w)
   have HBF := kp (fun ad n c w => bs_frame HOK.out ad n c w)
   generalize plI l h.a2 = i at *
   clear hc hpb hl hn hso hT hnl hfn hfc hsb hsub hok HB0 HJ
   go_enter Try.func92, Try.ntmps92
   generalize h2 : ((Code.region 2 _ _ : Code).seq _) = C2
   generalize h5 : (Code.region 5 _ _ : Code) = R5
   generalize h7 : (Code.region 7 _ _ : Code) = R7
   generalize h9 : (Code.region 9 _ _ : Code) = R9
   go_wp2_with (((with_reducible refine isBx 4 31 ?_); (refine L_box H rfl 31 _ rfl (cat (partsFr h ok fa fn fc)) rfl ?_); clear H; intro g4 w4 HGg4 HEg4 H; simp only [pA]); have HSB2 := kp (HSB.out.ext HEg4.out))
   have HSB3 := kp (HSB2.out.ext (Ext.refl _))
   subst h2
   refine wp_cut [8, 16, 17, 18, 19] (fun vs w' => w' = w4 ∧ vs 8 = .int .u8 (h.sub + 1)) ?_ ?_
   ·cases ag with
    | true =>
     go_wp2_with ((with_reducible refine isLd 5 ?_); (refine L_f1 H rfl 5 _ rfl 0 rfl _ rfl _ rfl _ rfl Try.underlying5 rfl ?_); simp only [pA])
     exact CutP.of rfl (by kernel_rfl) ⟨rfl, by show Value.int .u8 _ = _; rw [HSU.out]; rfl⟩
    | false =>
     go_wp2_with ((with_reducible refine isLd 5 ?_); (refine L_f1 H rfl 5 _ rfl 0 rfl _ rfl _ rfl _ rfl Try.underlying5 rfl ?_); simp only [pA])
     exact CutP.of rfl (by kernel_rfl) ⟨rfl, by show Value.int .u8 _ = _; rw [HSU.out]; rfl⟩
   rintro vs w9 ⟨rfl, e8⟩
   simp only [putMany, List.setIfInBounds_toArray, List.set_cons_zero, List.set_cons_succ]
   rw [e8]
   clear e8
   go_wp2_with (first | ((with_reducible refine isLd 29 ?_); (refine L_f1 H rfl 29 _ rfl 0 rfl _ rfl _ rfl _ rfl Try.underlying29 rfl ?_); simp only [pA]) | ((with_reducible refine isLd 5 ?_); (refine L_f1 H rfl 5 _ rfl 0 rfl _ rfl _ rfl _ rfl Try.underlying5 rfl ?_); simp only [pA]) | (go_at_call 106; refine (decReq_any fa fn fc b _ HFN.out HFC.out _ HSB3.out).mono ?_; rintro e wa ⟨x, y, o, da, dn, dc, rfl, hx, he0⟩; have HE0 := kp he0; clear he0; replace H := kp (H.out.ext hx); have HXC := kp hx; clear hx) | ((with_reducible refine isAl 9 87 ?_); (refine L_alloc H rfl 87 rfl (cat (partsRq 0 0 zv6 none 0 0)) (fun _ _ => by kernel_rfl) ?_); clear H; intro g9 w9b HGg9 HEg9 H; simp only [pA]) | ((with_reducible refine isSt 87 ?_); (refine L_sa H rfl rfl 87 _ _ rfl 0 rfl rfl (partsRq x y o da dn dc) rfl rfl (by kernel_rfl) ?_; clear H; intro w9c HWw9c H; simp only [szA] at H)))
   clear HRD
   generalize reqG b ag = E at *
   subst h5
   go_wp2_with fail
   subst h7
   refine region_z H 11 (by kernel_rfl) (by kernel_rfl) (by kernel_rfl) (by kernel_rfl) (by decide) (Nat.le_of_ble_eq_true (by kernel_rfl)) ?_
   apply Exists.intro
   refine ⟨fun xz2 => ?_, fun wz2 HXZ H => ?_⟩
   ·simp only [List.take_succ_cons, List.take_zero]
    unfold Cx
    repeat (first | ((with_reducible show wpQuiet _ _ _ _ (Oper.mk _ (Op.load 26 _) _ _ _ _ :: _) _); go_big_quiet_want; (refine qz_a H 26 _ rfl 2 rfl rfl Try.underlying26 rfl (by kernel_rfl) ?_); simp only [pA]; go_big_quiet_on) | ((with_reducible show wpQuiet _ _ _ _ (Oper.mk _ (Op.load 23 _) _ _ _ _ :: _) _); go_big_quiet_want; (refine qz_v H 23 _ rfl 1 rfl _ rfl _ rfl rfl Try.underlying23 rfl (by kernel_rfl) ?_); simp only [pA]; go_big_quiet_on) | go_big_quiet_step (exact Calls.cx_of (HPL.out _ ((H.out.ext (Ext.more _ _)).sub (by (try simp only [List.cons_append, List.nil_append]); repeat (first | with_reducible exact List.sublist_append_left _ _ | with_reducible apply List.Sublist.cons))))))
    exact wpQuiet_nil rfl
   simp only [List.drop_succ_cons, List.drop_zero]
   go_wp2_with fail
   subst h9
   refine region_z H 6 (by kernel_rfl) (by kernel_rfl) (by kernel_rfl) (by kernel_rfl) (by decide) (Nat.le_of_ble_eq_true (by kernel_rfl)) ?_
   apply Exists.intro
   refine ⟨fun xz3 => ?_, fun wz3 HXZ H => ?_⟩
   ·simp only [List.take_succ_cons, List.take_zero]
    unfold Cx
    repeat (first | ((with_reducible show wpQuiet _ _ _ _ (Oper.mk _ (Op.load 26 _) _ _ _ _ :: _) _); go_big_quiet_want; (refine qz_a H 26 _ rfl 2 rfl rfl Try.underlying26 rfl (by kernel_rfl) ?_); simp only [pA]; go_big_quiet_on) | ((with_reducible show wpQuiet _ _ _ _ (Oper.mk _ (Op.load 23 _) _ _ _ _ :: _) _); go_big_quiet_want; (refine qz_v H 23 _ rfl 1 rfl _ rfl _ rfl rfl Try.underlying23 rfl (by kernel_rfl) ?_); simp only [pA]; go_big_quiet_on) | go_big_quiet_step (fail))
    exact wpQuiet_nil rfl
   simp only [List.drop_succ_cons, List.drop_zero]
   go_wp2_with (first | (go_at_call 57; have HSZ := kp (Nat.le_of_lt (H.out.lt 1 rfl)); refine (HBY.out _).mono ?_; rintro e wa ⟨bd, bn, bc, rfl, ho, hx⟩; have HOB := kp ho; clear ho; replace H := kp (H.out.ext hx); have HXC := kp hx; clear hx) | (have HSY := kp (Nat.le_of_lt (H.out.lt 1 rfl)); ((with_reducible show wpList _ _ _ (Oper.mk (some 51) (Op.buildSlice 51 _ _) _ _ _ _ :: _) _ _); (refine L_bs H (by kernel_rfl) 51 1 _ rfl (#[(0, .agg (cellsF (msgH a h.a2 12) (.slice bd bn bc)).toArray)]) (by kernel_rfl) 31 (cellsF (msgH a h.a2 12) (.slice bd bn bc)) (HBF.out bd bn bc) ?_); clear H; intro gf wf HGgf HEgf H; simp only [pA])))
   go_ret2
   rw [HR.out]
   refine ⟨_, _, rfl, St.mk HT.out H.out (by (try simp only [List.cons_append, List.nil_append]); repeat (first | with_reducible exact List.Sublist.cons_cons _ (List.Sublist.refl _) | with_reducible apply List.Sublist.cons)), fun _ => rfl, ?_⟩
   rw [← HGg4.out]
   exact FrS.one HOK.out (H.out.at 0 rfl) (by rw [HGgf.out]; exact HSY.out) (owns_weak (owns_ext HOB.out HEgf.out) HSZ.out)
  | some s =>
   have hpb : plB l h.a2 = true := by unfold plB; rw [hc]; rfl
   rw [hpb] at HPL
   rw [hc] at HJ
   dsimp only at HJ
   have hF := pl_found hso hl ok.l2 hc
   have hsm := List.mem_of_getElem? hF.2.1
   have hsa := hl s hsm
   have HSA := kp hsa
   have HPU := hF.2.2.2.1
   have HAD := kp hF.2.2.1
   have hec := ent_cases (hok.ent s hsm)
   have hcp := ok_caps hok
   have HCM := kp (show a.caps % 65536 = a.caps by omega)
   have HCS := kp (fun zs => (flat_cell hl hF.2.1 zs 6 (by omega)).trans (cE hsa).1)
   have HGI := kp hF.2.1
   have HSR := kp (show 0 ≤ h.sub + 1 ∧ h.sub + 1 < 256 by rcases hsub with q | q <;> omega)
   have HOK := kp (msg_ok (t := h.a2) ha ok.l2 HSR.out.1 HSR.out.2)
   have HBF := kp (fun ad n c w => bs_frame HOK.out ad n c w)
   have HMS := kp (fun ad n c bd bn bc e0 w => show Calls Try.prog 87 #[.agg (cat (partsA a ha ad n c)).toArray, .agg (h.a2.map V8).toArray, .int .u8 (h.sub + 1), .slice bd bn bc, .int .i64 e0] w _ by
    have q := message_any a ha (.slice ad n c) h.a2 ok.l2 (h.sub + 1) HSR.out.1 HSR.out.2 bd bn bc e0 w
    rw [cat_A a ha] at q; exact q)
   have HEN0 := fun st ai q0 q1 q2 q3 w => encResp_any a.caps st ai hcp ⟨q0, q1⟩ ⟨q2, q3⟩ w
   generalize plI l h.a2 = i at *
   rcases hT with ⟨rfl, _⟩ | ⟨bb, zs, rfl, rfl, hbb, -, hcap, hm, hz⟩
   ·cases hc
   have HX := kp (show B ≤ bb ∧ n ≤ c ∧ c ≤ maxLen ∧ n = l.length ∧ i < n from ⟨hbb, hcap, hm, hnl, by have := hF.1; omega⟩)
   have HZZ := kp hz
   have HL6 := kp hl
   simp only [List.cons_append, List.nil_append] at H
   have HC6 := kp (HCS.out zs)
   obtain ⟨cs, hcs⟩ : ∃ cs, cs = l.flatMap cellsE ++ zs := ⟨_, rfl⟩
   have HCD := kp hcs
   rw [← hcs] at H HPL HC6 HT HMB HFR
   have hin : i < n := HX.out.2.2.2.2
   have hn64 : n ≤ 64 := by omega
   have HMS := kp (fun bd bn bc e0 w => HMS.out (some ⟨bb, 0, none⟩) n c bd bn bc e0 w)
   have hw1 : wrap64 (rdF b 0) = rdF b 0 := by have := rd_range b 0; unfold wrap64; omega
   have hw2 : wrap64 (rdF b 2) = rdF b 2 := by have := rd_range b 2; unfold wrap64; omega
   by_cases hcv : coverF (rdF b 0) a.caps = true
   ·have hcv2 : (bits .and .i64 (rdF b 0) a.caps == a.caps) = true := by simpa [coverF] using hcv
    have hcv3 : (bits .and .i64 (rdF b 0) a.caps != a.caps) = false := by unfold bne; rw [hcv2]; rfl
    by_cases hs2 : s.state = 2
    ·have hj : joinStat a l s (rdF b 0) = 0 := by unfold joinStat; simp [hcv, hs2]
     rw [hj, if_pos rfl, HPU ⟨s.addr, 2, joinAid l s, rdF b 0, rdF b 2, s.seen⟩ hF.2.2.1, show joinAid l s = s.aid from if_pos hs2] at HJ
     have HR := kp HJ
     rw [hs2] at HC6
     have hai : 0 ≤ s.aid ∧ s.aid ≤ 255 := by rcases hec with q | q <;> omega
     have HEN := kp (fun w => HEN0 0 s.aid (by decide) (by decide) hai.1 hai.2 w)
     have HFJ := kp (flat_join hl HGI.out zs (rdF b 0) (rdF b 2))
     rw [← hcs] at HFJ
     have HTB := kp (TB.set (zs := zs) (c := c) hl i ⟨s.addr, 2, s.aid, rdF b 0, rdF b 2, s.seen⟩ hsa hbb hnl hcap hm hz)
     generalize s.aid = ai at *
     generalize (⟨s.addr, 2, ai, rdF b 0, rdF b 2, s.seen⟩ : En) = sF at *
     clear hc hpb hl hn hso hnl hfn hfc hsb hsub hok hF hsm hsa HPU hec hcp hbb hcap hm hz hcs HB0 HJ HEN0 hcv hj HCS hs2 hai
     go_enter Try.func92, Try.ntmps92
     generalize h2 : ((Code.region 2 _ _ : Code).seq _) = C2
     generalize h5 : (Code.region 5 _ _ : Code) = R5
     generalize h7 : (Code.region 7 _ _ : Code) = R7
     (generalize h10 : (Code.region 10 _ _ : Code) = R10; generalize h11 : (Code.region 11 _ _ : Code) = R11; generalize h16 : (Code.region 16 _ _ : Code) = R16; generalize h18 : (Code.region 18 _ _ : Code) = R18; generalize h12 : (Code.region 12 _ _ : Code) = R12; generalize h13 : (Code.region 13 _ _ : Code) = R13; generalize h14 : (Code.region 14 _ _ : Code) = R14; generalize h15 : (Code.region 15 _ _ : Code) = R15; generalize h20 : (Code.region 20 _ _ : Code) = R20; generalize h21 : (Code.region 21 _ _ : Code) = R21)
     go_wp2_with (((with_reducible refine isBx 4 31 ?_); (refine L_box H rfl 31 _ rfl (cat (partsFr h ok fa fn fc)) rfl ?_); clear H; intro g4 w4 HGg4 HEg4 H; simp only [pA]); have HSB2 := kp (HSB.out.ext HEg4.out))
     have HSB3 := kp (HSB2.out.ext (Ext.refl _))
     subst h2
     refine wp_cut [8, 16, 17, 18, 19] (fun vs w' => w' = w4 ∧ vs 8 = .int .u8 (h.sub + 1)) ?_ ?_
     ·cases ag with
      | true =>
       go_wp2_with ((with_reducible refine isLd 5 ?_); (refine L_f1 H rfl 5 _ rfl 0 rfl _ rfl _ rfl _ rfl Try.underlying5 rfl ?_); simp only [pA])
       exact CutP.of rfl (by kernel_rfl) ⟨rfl, by show Value.int .u8 _ = _; rw [HSU.out]; rfl⟩
      | false =>
       go_wp2_with ((with_reducible refine isLd 5 ?_); (refine L_f1 H rfl 5 _ rfl 0 rfl _ rfl _ rfl _ rfl Try.underlying5 rfl ?_); simp only [pA])
       exact CutP.of rfl (by kernel_rfl) ⟨rfl, by show Value.int .u8 _ = _; rw [HSU.out]; rfl⟩
     rintro vs w9 ⟨rfl, e8⟩
     simp only [putMany, List.setIfInBounds_toArray, List.set_cons_zero, List.set_cons_succ]
     rw [e8]
     clear e8
     go_wp2_with (first | ((with_reducible refine isLd 29 ?_); (refine L_f1 H rfl 29 _ rfl 0 rfl _ rfl _ rfl _ rfl Try.underlying29 rfl ?_); simp only [pA]) | ((with_reducible refine isLd 5 ?_); (refine L_f1 H rfl 5 _ rfl 0 rfl _ rfl _ rfl _ rfl Try.underlying5 rfl ?_); simp only [pA]) | (go_at_call 106; refine (decReq_any fa fn fc b _ HFN.out HFC.out _ HSB3.out).mono ?_; rintro e wa ⟨x, y, o, da, dn, dc, rfl, hx, he0⟩; have HE0 := kp he0; clear he0; replace H := kp (H.out.ext hx); have HXC := kp hx; clear hx) | ((with_reducible refine isAl 9 87 ?_); (refine L_alloc H rfl 87 rfl (cat (partsRq 0 0 zv6 none 0 0)) (fun _ _ => by kernel_rfl) ?_); clear H; intro g9 w9b HGg9 HEg9 H; simp only [pA]) | ((with_reducible refine isSt 87 ?_); (refine L_sa H rfl rfl 87 _ _ rfl 0 rfl rfl (partsRq x y o da dn dc) rfl rfl (by kernel_rfl) ?_; clear H; intro w9c HWw9c H; simp only [szA] at H)))
     obtain ⟨rfl, rfl⟩ := HRD.out _ _ HE0.out
     clear HE0
     subst h5
     go_wp2_with fail
     generalize rdF b 0 = ca at *
     generalize rdF b 2 = li at *
     subst h7
     refine region_z H 11 (by kernel_rfl) (by kernel_rfl) (by kernel_rfl) (by kernel_rfl) (by decide) (Nat.le_of_ble_eq_true (by kernel_rfl)) ?_
     apply Exists.intro
     refine ⟨fun xz5 => ?_, fun wz5 HXZ H => ?_⟩
     ·simp only [List.take_succ_cons, List.take_zero]
      unfold Cx
      repeat (first | ((with_reducible show wpQuiet _ _ _ _ (Oper.mk _ (Op.load 26 _) _ _ _ _ :: _) _); go_big_quiet_want; (refine qz_a H 26 _ rfl 2 rfl rfl Try.underlying26 rfl (by kernel_rfl) ?_); simp only [pA]; go_big_quiet_on) | ((with_reducible show wpQuiet _ _ _ _ (Oper.mk _ (Op.load 23 _) _ _ _ _ :: _) _); go_big_quiet_want; (refine qz_v H 23 _ rfl 1 rfl _ rfl _ rfl rfl Try.underlying23 rfl (by kernel_rfl) ?_); simp only [pA]; go_big_quiet_on) | go_big_quiet_step (exact Calls.cx_of (HPL.out _ ((H.out.ext (Ext.more _ _)).sub (by (try simp only [List.cons_append, List.nil_append]); repeat (first | with_reducible exact List.Sublist.cons_cons _ (List.nil_sublist _) | with_reducible apply List.Sublist.cons))))))
      exact wpQuiet_nil rfl
     simp only [List.drop_succ_cons, List.drop_zero]
     go_wp2_with fail
     subst h10
     go_wp2_with (first | ((with_reducible refine isLd 3 ?_); (refine L_f1 H rfl 3 _ rfl 2 rfl _ rfl _ rfl _ rfl Try.underlying3 rfl ?_); simp only [pA]) | ((with_reducible show wpList _ _ _ (Oper.mk (some 57) (Op.build 68 _) _ _ _ _ :: _) _ _); (refine L_bd (by kernel_rfl) 68 _ rfl (#[(0, .int .u16 (a.caps % 65536))]) (by kernel_rfl) (cat (partsRs (a.caps % 65536) 0 0)) (fun w => by kernel_rfl) ?_); simp only [pA]) | ((with_reducible refine isAl 13 68 ?_); (refine L_alloc H rfl 68 rfl (cat (partsRs 0 0 0)) (fun _ _ => by kernel_rfl) ?_); clear H; intro g13 w13 HGg13 HEg13 H; simp only [pA]) | ((with_reducible refine isSt 68 ?_); (refine L_sa H rfl rfl 68 _ _ rfl 0 rfl rfl (partsRs (a.caps % 65536) 0 0) rfl rfl (by kernel_rfl) ?_; clear H; intro w13b HWw13b H; simp only [szA] at H)))
     rw [HCM.out] at H
     subst h11
     go_wp2_with ((with_reducible refine isLd 24 ?_); (refine L_f1 H rfl 24 _ rfl 3 rfl _ rfl _ rfl _ rfl Try.underlying24 rfl ?_); simp only [pA])
     subst h16
     refine region_z H 12 (by kernel_rfl) (by kernel_rfl) (by kernel_rfl) (by kernel_rfl) (by decide) (Nat.le_of_ble_eq_true (by kernel_rfl)) ?_
     apply Exists.intro
     refine ⟨fun xz6 => ?_, fun wz6 HXZ H => ?_⟩
     ·simp only [List.take_succ_cons, List.take_zero]
      unfold Cx
      repeat (first | ((with_reducible show wpQuiet _ _ _ _ (Oper.mk _ (Op.load 54 _) _ _ _ _ :: _) _); go_big_quiet_want; (refine qz_1 H 54 _ rfl 1 rfl _ rfl _ rfl _ rfl Try.underlying54 rfl ?_); simp only [pA]; go_big_quiet_on) | ((with_reducible show wpQuiet _ _ _ _ (Oper.mk _ (Op.load 3 _) _ _ _ _ :: _) _); go_big_quiet_want; (refine qz_1 H 3 _ rfl 3 rfl _ rfl _ rfl _ rfl Try.underlying3 rfl ?_); simp only [pA]; go_big_quiet_on) | go_big_quiet_step (fail))
      exact wpQuiet_nil rfl
     simp only [List.drop_succ_cons, List.drop_zero]
     go_wp2_with fail
     subst h18
     refine region_z H 14 (by kernel_rfl) (by kernel_rfl) (by kernel_rfl) (by kernel_rfl) (by decide) (Nat.le_of_ble_eq_true (by kernel_rfl)) ?_
     apply Exists.intro
     refine ⟨fun xz7 => ?_, fun wz7 HXZ H => ?_⟩
     ·simp only [List.take_succ_cons, List.take_zero]
      unfold Cx
      repeat (first | ((with_reducible show wpQuiet _ _ _ _ (Oper.mk _ (Op.load 5 _) _ _ _ _ :: _) _); go_big_quiet_want; refine qz_c 5 _ rfl _ _ rfl (.int .u8 (2)) (fun W hW => ((H.out.ext hW).at 4 rfl : Lc W bb _ cs).cell HC6.out) Try.underlying5 rfl ?_; simp only [pA]; go_big_quiet_on) | go_big_quiet_step (exact Calls.cx_of (HMB.out _ ((H.out.ext (Ext.more _ _)).sub (by (try simp only [List.cons_append, List.nil_append]); repeat fail)))))
      exact wpQuiet_nil rfl
     simp only [List.drop_succ_cons, List.drop_zero]
     go_wp2_with fail
     subst h12
     have hcell := run_load_cell H.out 4 rfl (i * 11 + 6) _ HC6.out
     go_wp2_with fail
     clear hcell
     obtain ⟨c2, c3, c4, ht2, ht3, ht4, hc4, ha7, hf1, hf2, hf3⟩ := HFJ.out
     have HT2 := kp ht2; have HT3 := kp ht3; have HT4 := kp ht4; have HC4 := kp hc4; have HA7 := kp ha7; have HFI := kp (And.intro hf1 (And.intro hf2 hf3))
     clear ht2 ht3 ht4 hc4 ha7 hf1 hf2 hf3 HFJ
     subst h14
     refine region_freeC H (tabS [(76, fun vQ _ => vQ = .pointer (some ⟨bb, i * 11, none⟩)), (77, fun vQ _ => vQ = .pointer (some ⟨bb, i * 11, none⟩)), (78, fun vQ _ => vQ = .pointer (some ⟨bb, i * 11, none⟩)), (79, fun vQ _ => vQ = .pointer (some ⟨g9, 0, none⟩)), (80, fun vQ _ => vQ = .int .u16 ca), (81, fun vQ _ => vQ = .int .i64 ca), (82, fun vQ _ => vQ = .pointer (some ⟨g9, 1, none⟩)), (83, fun vQ _ => vQ = .int .u16 li), (84, fun vQ _ => vQ = .int .i64 li), (85, fun vQ _ => vQ = .pointer (some ⟨bb, i * 11, none⟩)), (86, fun vQ _ => vQ = .pointer (some ⟨bb, i * 11 + 6, none⟩)), (87, fun vQ _ => vQ = .pointer (some ⟨bb, i * 11, none⟩)), (88, fun vQ _ => vQ = .pointer (some ⟨bb, i * 11 + 8, none⟩)), (89, fun vQ _ => vQ = .pointer (some ⟨bb, i * 11, none⟩)), (90, fun vQ _ => vQ = .pointer (some ⟨bb, i * 11 + 9, none⟩))]) [⟨11, 4, bb, 39, cs, c2⟩, ⟨14, 4, bb, 39, c2, c3⟩, ⟨17, 4, bb, 39, c3, c4⟩] 4 bb 39 (cs) (tabS_out _ _ (by simp only [List.forall_mem_cons, mono_eqO, true_and]; simp)) 18 (by kernel_rfl) (by kernel_rfl) (by kernel_rfl) (by kernel_rfl) [11, 14, 17] rfl (by decide) (by decide) (by kernel_rfl) rfl ⟨⟨rfl, rfl, rfl, rfl⟩, ⟨rfl, rfl, rfl, rfl⟩, ⟨rfl, rfl, rfl, rfl⟩, trivial⟩ [] (by kernel_rfl) ?_
     simp only [List.take_succ_cons, List.take_zero]
     refine ⟨fun w_ o_ S_ hAv76 => ?_, fun v76 => ?_⟩
     ·clear S_
      clear hAv76
      clear o_
      go_wp2_with fail
      exact kso
     simp only [pA]
     refine ⟨fun w_ o_ S_ hAv77 => ?_, fun v77 => ?_⟩
     ·clear S_
      clear hAv77
      clear o_
      go_wp2_with fail
      exact kso
     simp only [pA]
     refine ⟨fun w_ o_ S_ hAv78 => ?_, fun v78 => ?_⟩
     ·clear S_
      clear hAv78
      clear o_
      go_wp2_with fail
      exact kso
     simp only [pA]
     refine ⟨fun w_ o_ S_ hAv79 => ?_, fun v79 => ?_⟩
     ·clear S_
      clear hAv79
      clear o_
      go_wp2_with fail
      exact kso
     simp only [pA]
     refine ⟨fun w_ o_ S_ hAv80 => ?_, fun v80 => ?_⟩
     ·obtain rfl : v79 = .pointer (some ⟨g9, 0, none⟩) := hsR S_ 79 rfl
      clear S_
      clear hAv80
      have H := kp (H.out.keepC [0, 1, 2, 3] (p := 4) (g := bb) rfl o_ (by decide) (by kernel_rfl))
      have HOX := kp o_
      clear o_
      go_wp2_with ((with_reducible refine isLd 54 ?_); (refine L_f1 H rfl 54 _ rfl 1 rfl _ rfl _ rfl _ rfl Try.underlying54 rfl ?_); simp only [pA])
      exact kso
     simp only [pA]
     refine ⟨fun w_ o_ S_ hAv81 => ?_, fun v81 => ?_⟩
     ·obtain rfl : v80 = .int .u16 ca := hsR S_ 80 rfl
      clear S_
      clear hAv81
      have H := kp (H.out.keepC [0, 1, 2, 3] (p := 4) (g := bb) rfl o_ (by decide) (by kernel_rfl))
      have HOX := kp o_
      clear o_
      go_wp2_with fail
      exact ⟨rfl, _, rfl, fun d hd => by cases hd; exact (congrArg (Value.int .i64) hw1), Ext.refl _⟩
     simp only [pA]
     refine ⟨fun w_ o_ S_ hAv82 => ?_, fun v82 => ?_⟩
     ·clear S_
      clear hAv82
      clear o_
      go_wp2_with fail
      exact kso
     simp only [pA]
     refine ⟨fun w_ o_ S_ hAv83 => ?_, fun v83 => ?_⟩
     ·obtain rfl : v82 = .pointer (some ⟨g9, 1, none⟩) := hsR S_ 82 rfl
      clear S_
      clear hAv83
      have H := kp (H.out.keepC [0, 1, 2, 3] (p := 4) (g := bb) rfl o_ (by decide) (by kernel_rfl))
      have HOX := kp o_
      clear o_
      go_wp2_with ((with_reducible refine isLd 54 ?_); (refine L_f1 H rfl 54 _ rfl 1 rfl _ rfl _ rfl _ rfl Try.underlying54 rfl ?_); simp only [pA])
      exact kso
     simp only [pA]
     refine ⟨fun w_ o_ S_ hAv84 => ?_, fun v84 => ?_⟩
     ·obtain rfl : v83 = .int .u16 li := hsR S_ 83 rfl
      clear S_
      clear hAv84
      have H := kp (H.out.keepC [0, 1, 2, 3] (p := 4) (g := bb) rfl o_ (by decide) (by kernel_rfl))
      have HOX := kp o_
      clear o_
      go_wp2_with fail
      exact ⟨rfl, _, rfl, fun d hd => by cases hd; exact (congrArg (Value.int .i64) hw2), Ext.refl _⟩
     simp only [pA]
     refine ⟨fun w_ o_ S_ hAv85 => ?_, fun v85 => ?_⟩
     ·obtain rfl : v76 = .pointer (some ⟨bb, i * 11, none⟩) := hsR S_ 76 rfl
      clear S_
      clear hAv85
      clear o_
      go_wp2_with fail
      exact kso
     simp only [pA]
     refine ⟨fun w_ o_ S_ hAv86 => ?_, fun v86 => ?_⟩
     ·obtain rfl : v85 = .pointer (some ⟨bb, i * 11, none⟩) := hsR S_ 85 rfl
      clear S_
      clear hAv86
      clear o_
      go_wp2_with fail
      exact kso
     simp only [pA]
     refine ⟨⟨rfl, rfl, fun ws11 hos11 hSs11 hLs11 => ?_⟩, ?_⟩
     ·obtain rfl : v86 = .pointer (some ⟨bb, i * 11 + 6, none⟩) := hSs11 86 (by decide) (by decide)
      exact run_stoR 5 _ _ rfl rfl rfl hLs11 (by kernel_rfl) HFI.out.1 HT2.out rfl
     refine ⟨fun w_ o_ S_ hAv87 => ?_, fun v87 => ?_⟩
     ·obtain rfl : v77 = .pointer (some ⟨bb, i * 11, none⟩) := hsR S_ 77 rfl
      clear S_
      clear hAv87
      clear o_
      go_wp2_with fail
      exact kso
     simp only [pA]
     refine ⟨fun w_ o_ S_ hAv88 => ?_, fun v88 => ?_⟩
     ·obtain rfl : v87 = .pointer (some ⟨bb, i * 11, none⟩) := hsR S_ 87 rfl
      clear S_
      clear hAv88
      clear o_
      go_wp2_with fail
      exact kso
     simp only [pA]
     refine ⟨⟨rfl, rfl, fun ws14 hos14 hSs14 hLs14 => ?_⟩, ?_⟩
     ·obtain rfl : v88 = .pointer (some ⟨bb, i * 11 + 8, none⟩) := hSs14 88 (by decide) (by decide)
      obtain rfl : v81 = .int .i64 ca := hSs14 81 (by decide) (by decide)
      exact run_stoR 3 _ _ rfl rfl rfl hLs14 (by kernel_rfl) HFI.out.2.1 HT3.out rfl
     refine ⟨fun w_ o_ S_ hAv89 => ?_, fun v89 => ?_⟩
     ·obtain rfl : v78 = .pointer (some ⟨bb, i * 11, none⟩) := hsR S_ 78 rfl
      clear S_
      clear hAv89
      clear o_
      go_wp2_with fail
      exact kso
     simp only [pA]
     refine ⟨fun w_ o_ S_ hAv90 => ?_, fun v90 => ?_⟩
     ·obtain rfl : v89 = .pointer (some ⟨bb, i * 11, none⟩) := hsR S_ 89 rfl
      clear S_
      clear hAv90
      clear o_
      go_wp2_with fail
      exact kso
     simp only [pA]
     refine ⟨⟨rfl, rfl, fun ws17 hos17 hSs17 hLs17 => ?_⟩, ?_⟩
     ·obtain rfl : v90 = .pointer (some ⟨bb, i * 11 + 9, none⟩) := hSs17 90 (by decide) (by decide)
      obtain rfl : v84 = .int .i64 li := hSs17 84 (by decide) (by decide)
      exact run_stoR 3 _ _ rfl rfl rfl hLs17 (by kernel_rfl) HFI.out.2.2 HT4.out rfl
     clear H
     intro wk HOX H hfin
     obtain rfl : v76 = .pointer (some ⟨bb, i * 11, none⟩) := hfin 76 (by decide)
     obtain rfl : v77 = .pointer (some ⟨bb, i * 11, none⟩) := hfin 77 (by decide)
     obtain rfl : v78 = .pointer (some ⟨bb, i * 11, none⟩) := hfin 78 (by decide)
     obtain rfl : v79 = .pointer (some ⟨g9, 0, none⟩) := hfin 79 (by decide)
     obtain rfl : v80 = .int .u16 ca := hfin 80 (by decide)
     obtain rfl : v81 = .int .i64 ca := hfin 81 (by decide)
     obtain rfl : v82 = .pointer (some ⟨g9, 1, none⟩) := hfin 82 (by decide)
     obtain rfl : v83 = .int .u16 li := hfin 83 (by decide)
     obtain rfl : v84 = .int .i64 li := hfin 84 (by decide)
     obtain rfl : v85 = .pointer (some ⟨bb, i * 11, none⟩) := hfin 85 (by decide)
     obtain rfl : v86 = .pointer (some ⟨bb, i * 11 + 6, none⟩) := hfin 86 (by decide)
     obtain rfl : v87 = .pointer (some ⟨bb, i * 11, none⟩) := hfin 87 (by decide)
     obtain rfl : v88 = .pointer (some ⟨bb, i * 11 + 8, none⟩) := hfin 88 (by decide)
     obtain rfl : v89 = .pointer (some ⟨bb, i * 11, none⟩) := hfin 89 (by decide)
     obtain rfl : v90 = .pointer (some ⟨bb, i * 11 + 9, none⟩) := hfin 90 (by decide)
     clear hfin
     simp only [List.drop_succ_cons, List.drop_zero]
     simp only [curEnd, ssA, szA] at H
     go_wp2_with fail
     subst h15
     have hcell7 := run_load_cell H.out 4 rfl (i * 11 + 7) _ HA7.out
     go_wp2_with ((with_reducible refine isSt 3 ?_); (refine L_s1 H rfl rfl 3 _ _ rfl 0 rfl _ rfl _ rfl _ rfl rfl rfl rfl (by kernel_rfl) (partsRs a.caps 0 ai) rfl ?_; clear H; intro wu HWwu H; simp only [szA] at H))
     clear hcell7
     rw [HC4.out] at H
     subst h20
     go_wp2_with (first | ((with_reducible refine isLd 68 ?_); (refine L_fa H rfl 68 _ rfl 0 rfl rfl Try.underlying68 rfl (by kernel_rfl) ?_); simp only [pA]) | (go_at_call 108; have HSZ := kp (Nat.le_of_lt (H.out.lt 2 rfl)); refine (HEN.out _).mono ?_; rintro e we ⟨v, rfl, ho, hx⟩; obtain ⟨bd, bn, bc, rfl⟩ := owns_form2 ho; have HOB := kp ho; clear ho; replace H := kp (H.out.ext hx); have HXC := kp hx; clear hx))
     subst h21
     refine region_z H 9 (by kernel_rfl) (by kernel_rfl) (by kernel_rfl) (by kernel_rfl) (by decide) (Nat.le_of_ble_eq_true (by kernel_rfl)) ?_
     apply Exists.intro
     refine ⟨fun xz8 => ?_, fun wz8 HXZ H => ?_⟩
     ·simp only [List.take_succ_cons, List.take_zero]
      unfold Cx
      repeat (first | ((with_reducible show wpQuiet _ _ _ _ (Oper.mk _ (Op.load 26 _) _ _ _ _ :: _) _); go_big_quiet_want; (refine qz_a H 26 _ rfl 3 rfl rfl Try.underlying26 rfl (by kernel_rfl) ?_); simp only [pA]; go_big_quiet_on) | ((with_reducible show wpQuiet _ _ _ _ (Oper.mk _ (Op.load 23 _) _ _ _ _ :: _) _); go_big_quiet_want; (refine qz_v H 23 _ rfl 2 rfl _ rfl _ rfl rfl Try.underlying23 rfl (by kernel_rfl) ?_); simp only [pA]; go_big_quiet_on) | go_big_quiet_step (fail))
      exact wpQuiet_nil rfl
     simp only [List.drop_succ_cons, List.drop_zero]
     go_wp2_with (first | (go_at_call 87; refine (HMS.out _ _ _ _ _).mono ?_; rintro e wm ⟨rfl, hx⟩; replace H := kp (H.out.ext hx); have HXC := kp hx; clear hx) | (have HSY := kp (Nat.le_of_lt (H.out.lt 2 rfl)); ((with_reducible show wpList _ _ _ (Oper.mk (some 144) (Op.buildSlice 51 _ _) _ _ _ _ :: _) _ _); (refine L_bs H (by kernel_rfl) 51 1 _ rfl (#[(0, .agg (cellsF (msgH a h.a2 (h.sub + 1)) (.slice bd bn bc)).toArray)]) (by kernel_rfl) 31 (cellsF (msgH a h.a2 (h.sub + 1)) (.slice bd bn bc)) (HBF.out bd bn bc) ?_); clear H; intro gf wf HGgf HEgf H; simp only [pA])))
     go_ret2
     rw [HR.out]
     (refine ⟨_, _, rfl, St.mk HTB.out H.out (by (try simp only [List.cons_append, List.nil_append]); repeat (first | with_reducible exact List.Sublist.cons_cons _ (List.Sublist.refl _) | with_reducible apply List.Sublist.cons)), fun _ => rfl, ?_⟩; rw [← HGg4.out]; exact FrS.one HOK.out (H.out.at 0 rfl) (by rw [HGgf.out]; exact HSY.out) (owns_weak (owns_ext HOB.out (HXZ.out.trans (HXC.out.trans HEgf.out))) HSZ.out))
    ·have hs1 : s.state = 1 := by rcases hec with q | q; exact q.1; exact absurd q.1 hs2
     rw [hs1] at HC6
     by_cases hml : a.limit ≤ (membersF l : Int)
     ·have hj : joinStat a l s (rdF b 0) = 17 := by unfold joinStat; simp [hcv, hs2, hml]
      rw [hj, if_neg (by decide)] at HJ
      have HR := kp HJ
      have HEN := kp (fun w => HEN0 17 0 (by decide) (by decide) (by decide) (by decide) w)
      generalize membersF l = mm at *
      clear hc hpb hl hn hso hnl hfn hfc hsb hsub hok hF hsm hsa HPU hec hcp hbb hcap hm hz hcs HB0 HJ HEN0 hcv hj HCS hs2 hs1
      go_enter Try.func92, Try.ntmps92
      generalize h2 : ((Code.region 2 _ _ : Code).seq _) = C2
      generalize h5 : (Code.region 5 _ _ : Code) = R5
      generalize h7 : (Code.region 7 _ _ : Code) = R7
      (generalize h10 : (Code.region 10 _ _ : Code) = R10; generalize h11 : (Code.region 11 _ _ : Code) = R11; generalize h16 : (Code.region 16 _ _ : Code) = R16; generalize h18 : (Code.region 18 _ _ : Code) = R18; generalize h12 : (Code.region 12 _ _ : Code) = R12; generalize h13 : (Code.region 13 _ _ : Code) = R13; generalize h14 : (Code.region 14 _ _ : Code) = R14; generalize h15 : (Code.region 15 _ _ : Code) = R15; generalize h20 : (Code.region 20 _ _ : Code) = R20; generalize h21 : (Code.region 21 _ _ : Code) = R21)
      go_wp2_with (((with_reducible refine isBx 4 31 ?_); (refine L_box H rfl 31 _ rfl (cat (partsFr h ok fa fn fc)) rfl ?_); clear H; intro g4 w4 HGg4 HEg4 H; simp only [pA]); have HSB2 := kp (HSB.out.ext HEg4.out))
      have HSB3 := kp (HSB2.out.ext (Ext.refl _))
      subst h2
      refine wp_cut [8, 16, 17, 18, 19] (fun vs w' => w' = w4 ∧ vs 8 = .int .u8 (h.sub + 1)) ?_ ?_
      ·cases ag with
       | true =>
        go_wp2_with ((with_reducible refine isLd 5 ?_); (refine L_f1 H rfl 5 _ rfl 0 rfl _ rfl _ rfl _ rfl Try.underlying5 rfl ?_); simp only [pA])
        exact CutP.of rfl (by kernel_rfl) ⟨rfl, by show Value.int .u8 _ = _; rw [HSU.out]; rfl⟩
       | false =>
        go_wp2_with ((with_reducible refine isLd 5 ?_); (refine L_f1 H rfl 5 _ rfl 0 rfl _ rfl _ rfl _ rfl Try.underlying5 rfl ?_); simp only [pA])
        exact CutP.of rfl (by kernel_rfl) ⟨rfl, by show Value.int .u8 _ = _; rw [HSU.out]; rfl⟩
      rintro vs w9 ⟨rfl, e8⟩
      simp only [putMany, List.setIfInBounds_toArray, List.set_cons_zero, List.set_cons_succ]
      rw [e8]
      clear e8
      go_wp2_with (first | ((with_reducible refine isLd 29 ?_); (refine L_f1 H rfl 29 _ rfl 0 rfl _ rfl _ rfl _ rfl Try.underlying29 rfl ?_); simp only [pA]) | ((with_reducible refine isLd 5 ?_); (refine L_f1 H rfl 5 _ rfl 0 rfl _ rfl _ rfl _ rfl Try.underlying5 rfl ?_); simp only [pA]) | (go_at_call 106; refine (decReq_any fa fn fc b _ HFN.out HFC.out _ HSB3.out).mono ?_; rintro e wa ⟨x, y, o, da, dn, dc, rfl, hx, he0⟩; have HE0 := kp he0; clear he0; replace H := kp (H.out.ext hx); have HXC := kp hx; clear hx) | ((with_reducible refine isAl 9 87 ?_); (refine L_alloc H rfl 87 rfl (cat (partsRq 0 0 zv6 none 0 0)) (fun _ _ => by kernel_rfl) ?_); clear H; intro g9 w9b HGg9 HEg9 H; simp only [pA]) | ((with_reducible refine isSt 87 ?_); (refine L_sa H rfl rfl 87 _ _ rfl 0 rfl rfl (partsRq x y o da dn dc) rfl rfl (by kernel_rfl) ?_; clear H; intro w9c HWw9c H; simp only [szA] at H)))
      obtain ⟨rfl, rfl⟩ := HRD.out _ _ HE0.out
      clear HE0
      subst h5
      go_wp2_with fail
      generalize rdF b 0 = ca at *
      generalize rdF b 2 = li at *
      subst h7
      refine region_z H 11 (by kernel_rfl) (by kernel_rfl) (by kernel_rfl) (by kernel_rfl) (by decide) (Nat.le_of_ble_eq_true (by kernel_rfl)) ?_
      apply Exists.intro
      refine ⟨fun xz10 => ?_, fun wz10 HXZ H => ?_⟩
      ·simp only [List.take_succ_cons, List.take_zero]
       unfold Cx
       repeat (first | ((with_reducible show wpQuiet _ _ _ _ (Oper.mk _ (Op.load 26 _) _ _ _ _ :: _) _); go_big_quiet_want; (refine qz_a H 26 _ rfl 2 rfl rfl Try.underlying26 rfl (by kernel_rfl) ?_); simp only [pA]; go_big_quiet_on) | ((with_reducible show wpQuiet _ _ _ _ (Oper.mk _ (Op.load 23 _) _ _ _ _ :: _) _); go_big_quiet_want; (refine qz_v H 23 _ rfl 1 rfl _ rfl _ rfl rfl Try.underlying23 rfl (by kernel_rfl) ?_); simp only [pA]; go_big_quiet_on) | go_big_quiet_step (exact Calls.cx_of (HPL.out _ ((H.out.ext (Ext.more _ _)).sub (by (try simp only [List.cons_append, List.nil_append]); repeat (first | with_reducible exact List.Sublist.cons_cons _ (List.nil_sublist _) | with_reducible apply List.Sublist.cons))))))
       exact wpQuiet_nil rfl
      simp only [List.drop_succ_cons, List.drop_zero]
      go_wp2_with fail
      subst h10
      go_wp2_with (first | ((with_reducible refine isLd 3 ?_); (refine L_f1 H rfl 3 _ rfl 2 rfl _ rfl _ rfl _ rfl Try.underlying3 rfl ?_); simp only [pA]) | ((with_reducible show wpList _ _ _ (Oper.mk (some 57) (Op.build 68 _) _ _ _ _ :: _) _ _); (refine L_bd (by kernel_rfl) 68 _ rfl (#[(0, .int .u16 (a.caps % 65536))]) (by kernel_rfl) (cat (partsRs (a.caps % 65536) 0 0)) (fun w => by kernel_rfl) ?_); simp only [pA]) | ((with_reducible refine isAl 13 68 ?_); (refine L_alloc H rfl 68 rfl (cat (partsRs 0 0 0)) (fun _ _ => by kernel_rfl) ?_); clear H; intro g13 w13 HGg13 HEg13 H; simp only [pA]) | ((with_reducible refine isSt 68 ?_); (refine L_sa H rfl rfl 68 _ _ rfl 0 rfl rfl (partsRs (a.caps % 65536) 0 0) rfl rfl (by kernel_rfl) ?_; clear H; intro w13b HWw13b H; simp only [szA] at H)))
      rw [HCM.out] at H
      subst h11
      go_wp2_with ((with_reducible refine isLd 24 ?_); (refine L_f1 H rfl 24 _ rfl 3 rfl _ rfl _ rfl _ rfl Try.underlying24 rfl ?_); simp only [pA])
      subst h16
      refine region_z H 12 (by kernel_rfl) (by kernel_rfl) (by kernel_rfl) (by kernel_rfl) (by decide) (Nat.le_of_ble_eq_true (by kernel_rfl)) ?_
      apply Exists.intro
      refine ⟨fun xz11 => ?_, fun wz11 HXZ H => ?_⟩
      ·simp only [List.take_succ_cons, List.take_zero]
       unfold Cx
       repeat (first | ((with_reducible show wpQuiet _ _ _ _ (Oper.mk _ (Op.load 54 _) _ _ _ _ :: _) _); go_big_quiet_want; (refine qz_1 H 54 _ rfl 1 rfl _ rfl _ rfl _ rfl Try.underlying54 rfl ?_); simp only [pA]; go_big_quiet_on) | ((with_reducible show wpQuiet _ _ _ _ (Oper.mk _ (Op.load 3 _) _ _ _ _ :: _) _); go_big_quiet_want; (refine qz_1 H 3 _ rfl 3 rfl _ rfl _ rfl _ rfl Try.underlying3 rfl ?_); simp only [pA]; go_big_quiet_on) | go_big_quiet_step (fail))
       exact wpQuiet_nil rfl
      simp only [List.drop_succ_cons, List.drop_zero]
      go_wp2_with fail
      subst h18
      refine region_z H 14 (by kernel_rfl) (by kernel_rfl) (by kernel_rfl) (by kernel_rfl) (by decide) (Nat.le_of_ble_eq_true (by kernel_rfl)) ?_
      apply Exists.intro
      refine ⟨fun xz12 => ?_, fun wz12 HXZ H => ?_⟩
      ·simp only [List.take_succ_cons, List.take_zero]
       unfold Cx
       repeat (first | ((with_reducible show wpQuiet _ _ _ _ (Oper.mk _ (Op.load 5 _) _ _ _ _ :: _) _); go_big_quiet_want; refine qz_c 5 _ rfl _ _ rfl (.int .u8 (1)) (fun W hW => ((H.out.ext hW).at 4 rfl : Lc W bb _ cs).cell HC6.out) Try.underlying5 rfl ?_; simp only [pA]; go_big_quiet_on) | ((with_reducible show wpQuiet _ _ _ _ (Oper.mk _ (Op.load 26 _) _ _ _ _ :: _) _); go_big_quiet_want; (refine qz_a H 26 _ rfl 3 rfl rfl Try.underlying26 rfl (by kernel_rfl) ?_); simp only [pA]; go_big_quiet_on) | ((with_reducible show wpQuiet _ _ _ _ (Oper.mk _ (Op.load 3 _) _ _ _ _ :: _) _); go_big_quiet_want; (refine qz_1 H 3 _ rfl 3 rfl _ rfl _ rfl _ rfl Try.underlying3 rfl ?_); simp only [pA]; go_big_quiet_on) | go_big_quiet_step (exact Calls.cx_of (HMB.out _ ((H.out.ext (Ext.more _ _)).sub (by (try simp only [List.cons_append, List.nil_append]); repeat (first | with_reducible exact List.Sublist.cons_cons _ (List.nil_sublist _) | with_reducible apply List.Sublist.cons))))))
       exact wpQuiet_nil rfl
      simp only [List.drop_succ_cons, List.drop_zero]
      go_wp2_with ((with_reducible refine isSt 54 ?_); (refine L_s1 H rfl rfl 54 _ _ rfl 0 rfl _ rfl _ rfl _ rfl rfl rfl rfl (by kernel_rfl) (partsRs a.caps (17) 0) rfl ?_; clear H; intro wu HWwu H; simp only [szA] at H))
      subst h20
      go_wp2_with (first | ((with_reducible refine isLd 68 ?_); (refine L_fa H rfl 68 _ rfl 0 rfl rfl Try.underlying68 rfl (by kernel_rfl) ?_); simp only [pA]) | (go_at_call 108; have HSZ := kp (Nat.le_of_lt (H.out.lt 2 rfl)); refine (HEN.out _).mono ?_; rintro e we ⟨v, rfl, ho, hx⟩; obtain ⟨bd, bn, bc, rfl⟩ := owns_form2 ho; have HOB := kp ho; clear ho; replace H := kp (H.out.ext hx); have HXC := kp hx; clear hx))
      subst h21
      refine region_z H 9 (by kernel_rfl) (by kernel_rfl) (by kernel_rfl) (by kernel_rfl) (by decide) (Nat.le_of_ble_eq_true (by kernel_rfl)) ?_
      apply Exists.intro
      refine ⟨fun xz13 => ?_, fun wz13 HXZ H => ?_⟩
      ·simp only [List.take_succ_cons, List.take_zero]
       unfold Cx
       repeat (first | ((with_reducible show wpQuiet _ _ _ _ (Oper.mk _ (Op.load 26 _) _ _ _ _ :: _) _); go_big_quiet_want; (refine qz_a H 26 _ rfl 3 rfl rfl Try.underlying26 rfl (by kernel_rfl) ?_); simp only [pA]; go_big_quiet_on) | ((with_reducible show wpQuiet _ _ _ _ (Oper.mk _ (Op.load 23 _) _ _ _ _ :: _) _); go_big_quiet_want; (refine qz_v H 23 _ rfl 2 rfl _ rfl _ rfl rfl Try.underlying23 rfl (by kernel_rfl) ?_); simp only [pA]; go_big_quiet_on) | go_big_quiet_step (fail))
       exact wpQuiet_nil rfl
      simp only [List.drop_succ_cons, List.drop_zero]
      go_wp2_with (first | (go_at_call 87; refine (HMS.out _ _ _ _ _).mono ?_; rintro e wm ⟨rfl, hx⟩; replace H := kp (H.out.ext hx); have HXC := kp hx; clear hx) | (have HSY := kp (Nat.le_of_lt (H.out.lt 2 rfl)); ((with_reducible show wpList _ _ _ (Oper.mk (some 144) (Op.buildSlice 51 _ _) _ _ _ _ :: _) _ _); (refine L_bs H (by kernel_rfl) 51 1 _ rfl (#[(0, .agg (cellsF (msgH a h.a2 (h.sub + 1)) (.slice bd bn bc)).toArray)]) (by kernel_rfl) 31 (cellsF (msgH a h.a2 (h.sub + 1)) (.slice bd bn bc)) (HBF.out bd bn bc) ?_); clear H; intro gf wf HGgf HEgf H; simp only [pA])))
      go_ret2
      rw [HR.out]
      (refine ⟨_, _, rfl, St.mk HT.out H.out (by (try simp only [List.cons_append, List.nil_append]); repeat (first | with_reducible exact List.Sublist.cons_cons _ (List.Sublist.refl _) | with_reducible apply List.Sublist.cons)), fun _ => rfl, ?_⟩; rw [← HGg4.out]; exact FrS.one HOK.out (H.out.at 0 rfl) (by rw [HGgf.out]; exact HSY.out) (owns_weak (owns_ext HOB.out (HXZ.out.trans (HXC.out.trans HEgf.out))) HSZ.out))
     ·have hj : joinStat a l s (rdF b 0) = 0 := by unfold joinStat; simp [hcv, hml]
      have hji : joinAid l s = freeF l := if_neg hs2
      rw [hj, if_pos rfl, HPU ⟨s.addr, 2, joinAid l s, rdF b 0, rdF b 2, s.seen⟩ hF.2.2.1, hji] at HJ
      have HR := kp HJ
      have hfr := free_range hok
      have HEN := kp (fun w => HEN0 0 (freeF l) (by decide) (by decide) (by omega) hfr.2.1 w)
      have HQ1 := kp (flat_setc hl HGI.out zs 7 (by omega) { s with aid := freeF l } hsa _ (cs_aid hsa (freeF l)))
      have HFJ := kp (flat_join (hl.set (i := i) (s := { s with aid := freeF l }) hsa) (set_at HGI.out _) zs (rdF b 0) (rdF b 2))
      rw [List.set_set, ← HQ1.out, ← hcs] at HFJ
      have HQL := kp (show i * 11 + 7 < cs.length by rw [hcs, hz]; omega)
      have HTB := kp (TB.set (zs := zs) (c := c) hl i ⟨s.addr, 2, freeF l, rdF b 0, rdF b 2, s.seen⟩ hsa hbb hnl hcap hm hz)
      dsimp only at HFJ
      generalize freeF l = ai at *
      generalize (⟨s.addr, 2, ai, rdF b 0, rdF b 2, s.seen⟩ : En) = sF at *
      generalize membersF l = mm at *
      obtain ⟨c1, hc1⟩ : ∃ c1, c1 = cs.set (i * 11 + 7) (.int .i64 ai) := ⟨_, rfl⟩
      rw [← hc1] at HFJ
      have HC1 := kp hc1.symm
      clear hc hpb hl hn hso hnl hfn hfc hsb hsub hok hF hsm hsa HPU hec hcp hbb hcap hm hz hcs HB0 HJ HEN0 hcv hj HCS hs2 hs1 hji hfr hc1 HQ1
      go_enter Try.func92, Try.ntmps92
      generalize h2 : ((Code.region 2 _ _ : Code).seq _) = C2
      generalize h5 : (Code.region 5 _ _ : Code) = R5
      generalize h7 : (Code.region 7 _ _ : Code) = R7
      (generalize h10 : (Code.region 10 _ _ : Code) = R10; generalize h11 : (Code.region 11 _ _ : Code) = R11; generalize h16 : (Code.region 16 _ _ : Code) = R16; generalize h18 : (Code.region 18 _ _ : Code) = R18; generalize h12 : (Code.region 12 _ _ : Code) = R12; generalize h13 : (Code.region 13 _ _ : Code) = R13; generalize h14 : (Code.region 14 _ _ : Code) = R14; generalize h15 : (Code.region 15 _ _ : Code) = R15; generalize h20 : (Code.region 20 _ _ : Code) = R20; generalize h21 : (Code.region 21 _ _ : Code) = R21)
      go_wp2_with (((with_reducible refine isBx 4 31 ?_); (refine L_box H rfl 31 _ rfl (cat (partsFr h ok fa fn fc)) rfl ?_); clear H; intro g4 w4 HGg4 HEg4 H; simp only [pA]); have HSB2 := kp (HSB.out.ext HEg4.out))
      have HSB3 := kp (HSB2.out.ext (Ext.refl _))
      subst h2
      refine wp_cut [8, 16, 17, 18, 19] (fun vs w' => w' = w4 ∧ vs 8 = .int .u8 (h.sub + 1)) ?_ ?_
      ·cases ag with
       | true =>
        go_wp2_with ((with_reducible refine isLd 5 ?_); (refine L_f1 H rfl 5 _ rfl 0 rfl _ rfl _ rfl _ rfl Try.underlying5 rfl ?_); simp only [pA])
        exact CutP.of rfl (by kernel_rfl) ⟨rfl, by show Value.int .u8 _ = _; rw [HSU.out]; rfl⟩
       | false =>
        go_wp2_with ((with_reducible refine isLd 5 ?_); (refine L_f1 H rfl 5 _ rfl 0 rfl _ rfl _ rfl _ rfl Try.underlying5 rfl ?_); simp only [pA])
        exact CutP.of rfl (by kernel_rfl) ⟨rfl, by show Value.int .u8 _ = _; rw [HSU.out]; rfl⟩
      rintro vs w9 ⟨rfl, e8⟩
      simp only [putMany, List.setIfInBounds_toArray, List.set_cons_zero, List.set_cons_succ]
      rw [e8]
      clear e8
      go_wp2_with (first | ((with_reducible refine isLd 29 ?_); (refine L_f1 H rfl 29 _ rfl 0 rfl _ rfl _ rfl _ rfl Try.underlying29 rfl ?_); simp only [pA]) | ((with_reducible refine isLd 5 ?_); (refine L_f1 H rfl 5 _ rfl 0 rfl _ rfl _ rfl _ rfl Try.underlying5 rfl ?_); simp only [pA]) | (go_at_call 106; refine (decReq_any fa fn fc b _ HFN.out HFC.out _ HSB3.out).mono ?_; rintro e wa ⟨x, y, o, da, dn, dc, rfl, hx, he0⟩; have HE0 := kp he0; clear he0; replace H := kp (H.out.ext hx); have HXC := kp hx; clear hx) | ((with_reducible refine isAl 9 87 ?_); (refine L_alloc H rfl 87 rfl (cat (partsRq 0 0 zv6 none 0 0)) (fun _ _ => by kernel_rfl) ?_); clear H; intro g9 w9b HGg9 HEg9 H; simp only [pA]) | ((with_reducible refine isSt 87 ?_); (refine L_sa H rfl rfl 87 _ _ rfl 0 rfl rfl (partsRq x y o da dn dc) rfl rfl (by kernel_rfl) ?_; clear H; intro w9c HWw9c H; simp only [szA] at H)))
      obtain ⟨rfl, rfl⟩ := HRD.out _ _ HE0.out
      clear HE0
      subst h5
      go_wp2_with fail
      generalize rdF b 0 = ca at *
      generalize rdF b 2 = li at *
      subst h7
      refine region_z H 11 (by kernel_rfl) (by kernel_rfl) (by kernel_rfl) (by kernel_rfl) (by decide) (Nat.le_of_ble_eq_true (by kernel_rfl)) ?_
      apply Exists.intro
      refine ⟨fun xz15 => ?_, fun wz15 HXZ H => ?_⟩
      ·simp only [List.take_succ_cons, List.take_zero]
       unfold Cx
       repeat (first | ((with_reducible show wpQuiet _ _ _ _ (Oper.mk _ (Op.load 26 _) _ _ _ _ :: _) _); go_big_quiet_want; (refine qz_a H 26 _ rfl 2 rfl rfl Try.underlying26 rfl (by kernel_rfl) ?_); simp only [pA]; go_big_quiet_on) | ((with_reducible show wpQuiet _ _ _ _ (Oper.mk _ (Op.load 23 _) _ _ _ _ :: _) _); go_big_quiet_want; (refine qz_v H 23 _ rfl 1 rfl _ rfl _ rfl rfl Try.underlying23 rfl (by kernel_rfl) ?_); simp only [pA]; go_big_quiet_on) | go_big_quiet_step (exact Calls.cx_of (HPL.out _ ((H.out.ext (Ext.more _ _)).sub (by (try simp only [List.cons_append, List.nil_append]); repeat (first | with_reducible exact List.Sublist.cons_cons _ (List.nil_sublist _) | with_reducible apply List.Sublist.cons))))))
       exact wpQuiet_nil rfl
      simp only [List.drop_succ_cons, List.drop_zero]
      go_wp2_with fail
      subst h10
      go_wp2_with (first | ((with_reducible refine isLd 3 ?_); (refine L_f1 H rfl 3 _ rfl 2 rfl _ rfl _ rfl _ rfl Try.underlying3 rfl ?_); simp only [pA]) | ((with_reducible show wpList _ _ _ (Oper.mk (some 57) (Op.build 68 _) _ _ _ _ :: _) _ _); (refine L_bd (by kernel_rfl) 68 _ rfl (#[(0, .int .u16 (a.caps % 65536))]) (by kernel_rfl) (cat (partsRs (a.caps % 65536) 0 0)) (fun w => by kernel_rfl) ?_); simp only [pA]) | ((with_reducible refine isAl 13 68 ?_); (refine L_alloc H rfl 68 rfl (cat (partsRs 0 0 0)) (fun _ _ => by kernel_rfl) ?_); clear H; intro g13 w13 HGg13 HEg13 H; simp only [pA]) | ((with_reducible refine isSt 68 ?_); (refine L_sa H rfl rfl 68 _ _ rfl 0 rfl rfl (partsRs (a.caps % 65536) 0 0) rfl rfl (by kernel_rfl) ?_; clear H; intro w13b HWw13b H; simp only [szA] at H)))
      rw [HCM.out] at H
      subst h11
      go_wp2_with ((with_reducible refine isLd 24 ?_); (refine L_f1 H rfl 24 _ rfl 3 rfl _ rfl _ rfl _ rfl Try.underlying24 rfl ?_); simp only [pA])
      subst h16
      refine region_z H 12 (by kernel_rfl) (by kernel_rfl) (by kernel_rfl) (by kernel_rfl) (by decide) (Nat.le_of_ble_eq_true (by kernel_rfl)) ?_
      apply Exists.intro
      refine ⟨fun xz16 => ?_, fun wz16 HXZ H => ?_⟩
      ·simp only [List.take_succ_cons, List.take_zero]
       unfold Cx
       repeat (first | ((with_reducible show wpQuiet _ _ _ _ (Oper.mk _ (Op.load 54 _) _ _ _ _ :: _) _); go_big_quiet_want; (refine qz_1 H 54 _ rfl 1 rfl _ rfl _ rfl _ rfl Try.underlying54 rfl ?_); simp only [pA]; go_big_quiet_on) | ((with_reducible show wpQuiet _ _ _ _ (Oper.mk _ (Op.load 3 _) _ _ _ _ :: _) _); go_big_quiet_want; (refine qz_1 H 3 _ rfl 3 rfl _ rfl _ rfl _ rfl Try.underlying3 rfl ?_); simp only [pA]; go_big_quiet_on) | go_big_quiet_step (fail))
       exact wpQuiet_nil rfl
      simp only [List.drop_succ_cons, List.drop_zero]
      go_wp2_with fail
      subst h18
      refine region_z H 14 (by kernel_rfl) (by kernel_rfl) (by kernel_rfl) (by kernel_rfl) (by decide) (Nat.le_of_ble_eq_true (by kernel_rfl)) ?_
      apply Exists.intro
      refine ⟨fun xz17 => ?_, fun wz17 HXZ H => ?_⟩
      ·simp only [List.take_succ_cons, List.take_zero]
       unfold Cx
       repeat (first | ((with_reducible show wpQuiet _ _ _ _ (Oper.mk _ (Op.load 5 _) _ _ _ _ :: _) _); go_big_quiet_want; refine qz_c 5 _ rfl _ _ rfl (.int .u8 (1)) (fun W hW => ((H.out.ext hW).at 4 rfl : Lc W bb _ cs).cell HC6.out) Try.underlying5 rfl ?_; simp only [pA]; go_big_quiet_on) | ((with_reducible show wpQuiet _ _ _ _ (Oper.mk _ (Op.load 26 _) _ _ _ _ :: _) _); go_big_quiet_want; (refine qz_a H 26 _ rfl 3 rfl rfl Try.underlying26 rfl (by kernel_rfl) ?_); simp only [pA]; go_big_quiet_on) | ((with_reducible show wpQuiet _ _ _ _ (Oper.mk _ (Op.load 3 _) _ _ _ _ :: _) _); go_big_quiet_want; (refine qz_1 H 3 _ rfl 3 rfl _ rfl _ rfl _ rfl Try.underlying3 rfl ?_); simp only [pA]; go_big_quiet_on) | go_big_quiet_step (exact Calls.cx_of (HMB.out _ ((H.out.ext (Ext.more _ _)).sub (by (try simp only [List.cons_append, List.nil_append]); repeat (first | with_reducible exact List.Sublist.cons_cons _ (List.nil_sublist _) | with_reducible apply List.Sublist.cons))))))
       exact wpQuiet_nil rfl
      simp only [List.drop_succ_cons, List.drop_zero]
      go_wp2_with fail
      subst h12
      have hcell := run_load_cell H.out 4 rfl (i * 11 + 6) _ HC6.out
      go_wp2_with fail
      clear hcell
      subst h13
      go_wp2_with (first | ((with_reducible refine isLd 26 ?_); (refine L_fa H rfl 26 _ rfl 3 rfl rfl Try.underlying26 rfl (by kernel_rfl) ?_); simp only [pA]) | (go_at_call 107; refine (HFR.out _ (H.out.sub (by (try simp only [List.cons_append, List.nil_append]); repeat (first | with_reducible exact List.Sublist.cons_cons _ (List.nil_sublist _) | with_reducible apply List.Sublist.cons)))).mono ?_; rintro e wq ⟨rfl, hx⟩; replace H := kp (H.out.ext hx); have HXC := kp hx; clear hx) | ((with_reducible refine isSt 3 ?_); (refine L_cell H rfl rfl 3 _ _ rfl 4 rfl (i * 11 + 7) rfl (.int .i64 (ai)) rfl rfl (by kernel_rfl) (HQL.out) (c1) (HC1.out) ?_); clear H; intro wq2 HWq H; simp only [ssA, szA] at H))
      obtain ⟨c2, c3, c4, ht2, ht3, ht4, hc4, ha7, hf1, hf2, hf3⟩ := HFJ.out
      have HT2 := kp ht2; have HT3 := kp ht3; have HT4 := kp ht4; have HC4 := kp hc4; have HA7 := kp ha7; have HFI := kp (And.intro hf1 (And.intro hf2 hf3))
      clear ht2 ht3 ht4 hc4 ha7 hf1 hf2 hf3 HFJ
      subst h14
      refine region_freeC H (tabS [(76, fun vQ _ => vQ = .pointer (some ⟨bb, i * 11, none⟩)), (77, fun vQ _ => vQ = .pointer (some ⟨bb, i * 11, none⟩)), (78, fun vQ _ => vQ = .pointer (some ⟨bb, i * 11, none⟩)), (79, fun vQ _ => vQ = .pointer (some ⟨g9, 0, none⟩)), (80, fun vQ _ => vQ = .int .u16 ca), (81, fun vQ _ => vQ = .int .i64 ca), (82, fun vQ _ => vQ = .pointer (some ⟨g9, 1, none⟩)), (83, fun vQ _ => vQ = .int .u16 li), (84, fun vQ _ => vQ = .int .i64 li), (85, fun vQ _ => vQ = .pointer (some ⟨bb, i * 11, none⟩)), (86, fun vQ _ => vQ = .pointer (some ⟨bb, i * 11 + 6, none⟩)), (87, fun vQ _ => vQ = .pointer (some ⟨bb, i * 11, none⟩)), (88, fun vQ _ => vQ = .pointer (some ⟨bb, i * 11 + 8, none⟩)), (89, fun vQ _ => vQ = .pointer (some ⟨bb, i * 11, none⟩)), (90, fun vQ _ => vQ = .pointer (some ⟨bb, i * 11 + 9, none⟩))]) [⟨11, 4, bb, 39, c1, c2⟩, ⟨14, 4, bb, 39, c2, c3⟩, ⟨17, 4, bb, 39, c3, c4⟩] 4 bb 39 (c1) (tabS_out _ _ (by simp only [List.forall_mem_cons, mono_eqO, true_and]; simp)) 18 (by kernel_rfl) (by kernel_rfl) (by kernel_rfl) (by kernel_rfl) [11, 14, 17] rfl (by decide) (by decide) (by kernel_rfl) rfl ⟨⟨rfl, rfl, rfl, rfl⟩, ⟨rfl, rfl, rfl, rfl⟩, ⟨rfl, rfl, rfl, rfl⟩, trivial⟩ [] (by kernel_rfl) ?_
      simp only [List.take_succ_cons, List.take_zero]
      refine ⟨fun w_ o_ S_ hAv76 => ?_, fun v76 => ?_⟩
      ·clear S_
       clear hAv76
       clear o_
       go_wp2_with fail
       exact kso
      simp only [pA]
      refine ⟨fun w_ o_ S_ hAv77 => ?_, fun v77 => ?_⟩
      ·clear S_
       clear hAv77
       clear o_
       go_wp2_with fail
       exact kso
      simp only [pA]
      refine ⟨fun w_ o_ S_ hAv78 => ?_, fun v78 => ?_⟩
      ·clear S_
       clear hAv78
       clear o_
       go_wp2_with fail
       exact kso
      simp only [pA]
      refine ⟨fun w_ o_ S_ hAv79 => ?_, fun v79 => ?_⟩
      ·clear S_
       clear hAv79
       clear o_
       go_wp2_with fail
       exact kso
      simp only [pA]
      refine ⟨fun w_ o_ S_ hAv80 => ?_, fun v80 => ?_⟩
      ·obtain rfl : v79 = .pointer (some ⟨g9, 0, none⟩) := hsR S_ 79 rfl
       clear S_
       clear hAv80
       have H := kp (H.out.keepC [0, 1, 2, 3] (p := 4) (g := bb) rfl o_ (by decide) (by kernel_rfl))
       have HOX := kp o_
       clear o_
       go_wp2_with ((with_reducible refine isLd 54 ?_); (refine L_f1 H rfl 54 _ rfl 1 rfl _ rfl _ rfl _ rfl Try.underlying54 rfl ?_); simp only [pA])
       exact kso
      simp only [pA]
      refine ⟨fun w_ o_ S_ hAv81 => ?_, fun v81 => ?_⟩
      ·obtain rfl : v80 = .int .u16 ca := hsR S_ 80 rfl
       clear S_
       clear hAv81
       have H := kp (H.out.keepC [0, 1, 2, 3] (p := 4) (g := bb) rfl o_ (by decide) (by kernel_rfl))
       have HOX := kp o_
       clear o_
       go_wp2_with fail
       exact ⟨rfl, _, rfl, fun d hd => by cases hd; exact (congrArg (Value.int .i64) hw1), Ext.refl _⟩
      simp only [pA]
      refine ⟨fun w_ o_ S_ hAv82 => ?_, fun v82 => ?_⟩
      ·clear S_
       clear hAv82
       clear o_
       go_wp2_with fail
       exact kso
      simp only [pA]
      refine ⟨fun w_ o_ S_ hAv83 => ?_, fun v83 => ?_⟩
      ·obtain rfl : v82 = .pointer (some ⟨g9, 1, none⟩) := hsR S_ 82 rfl
       clear S_
       clear hAv83
       have H := kp (H.out.keepC [0, 1, 2, 3] (p := 4) (g := bb) rfl o_ (by decide) (by kernel_rfl))
       have HOX := kp o_
       clear o_
       go_wp2_with ((with_reducible refine isLd 54 ?_); (refine L_f1 H rfl 54 _ rfl 1 rfl _ rfl _ rfl _ rfl Try.underlying54 rfl ?_); simp only [pA])
       exact kso
      simp only [pA]
      refine ⟨fun w_ o_ S_ hAv84 => ?_, fun v84 => ?_⟩
      ·obtain rfl : v83 = .int .u16 li := hsR S_ 83 rfl
       clear S_
       clear hAv84
       have H := kp (H.out.keepC [0, 1, 2, 3] (p := 4) (g := bb) rfl o_ (by decide) (by kernel_rfl))
       have HOX := kp o_
       clear o_
       go_wp2_with fail
       exact ⟨rfl, _, rfl, fun d hd => by cases hd; exact (congrArg (Value.int .i64) hw2), Ext.refl _⟩
      simp only [pA]
      refine ⟨fun w_ o_ S_ hAv85 => ?_, fun v85 => ?_⟩
      ·obtain rfl : v76 = .pointer (some ⟨bb, i * 11, none⟩) := hsR S_ 76 rfl
       clear S_
       clear hAv85
       clear o_
       go_wp2_with fail
       exact kso
      simp only [pA]
      refine ⟨fun w_ o_ S_ hAv86 => ?_, fun v86 => ?_⟩
      ·obtain rfl : v85 = .pointer (some ⟨bb, i * 11, none⟩) := hsR S_ 85 rfl
       clear S_
       clear hAv86
       clear o_
       go_wp2_with fail
       exact kso
      simp only [pA]
      refine ⟨⟨rfl, rfl, fun ws11 hos11 hSs11 hLs11 => ?_⟩, ?_⟩
      ·obtain rfl : v86 = .pointer (some ⟨bb, i * 11 + 6, none⟩) := hSs11 86 (by decide) (by decide)
       exact run_stoR 5 _ _ rfl rfl rfl hLs11 (by kernel_rfl) HFI.out.1 HT2.out rfl
      refine ⟨fun w_ o_ S_ hAv87 => ?_, fun v87 => ?_⟩
      ·obtain rfl : v77 = .pointer (some ⟨bb, i * 11, none⟩) := hsR S_ 77 rfl
       clear S_
       clear hAv87
       clear o_
       go_wp2_with fail
       exact kso
      simp only [pA]
      refine ⟨fun w_ o_ S_ hAv88 => ?_, fun v88 => ?_⟩
      ·obtain rfl : v87 = .pointer (some ⟨bb, i * 11, none⟩) := hsR S_ 87 rfl
       clear S_
       clear hAv88
       clear o_
       go_wp2_with fail
       exact kso
      simp only [pA]
      refine ⟨⟨rfl, rfl, fun ws14 hos14 hSs14 hLs14 => ?_⟩, ?_⟩
      ·obtain rfl : v88 = .pointer (some ⟨bb, i * 11 + 8, none⟩) := hSs14 88 (by decide) (by decide)
       obtain rfl : v81 = .int .i64 ca := hSs14 81 (by decide) (by decide)
       exact run_stoR 3 _ _ rfl rfl rfl hLs14 (by kernel_rfl) HFI.out.2.1 HT3.out rfl
      refine ⟨fun w_ o_ S_ hAv89 => ?_, fun v89 => ?_⟩
      ·obtain rfl : v78 = .pointer (some ⟨bb, i * 11, none⟩) := hsR S_ 78 rfl
       clear S_
       clear hAv89
       clear o_
       go_wp2_with fail
       exact kso
      simp only [pA]
      refine ⟨fun w_ o_ S_ hAv90 => ?_, fun v90 => ?_⟩
      ·obtain rfl : v89 = .pointer (some ⟨bb, i * 11, none⟩) := hsR S_ 89 rfl
       clear S_
       clear hAv90
       clear o_
       go_wp2_with fail
       exact kso
      simp only [pA]
      refine ⟨⟨rfl, rfl, fun ws17 hos17 hSs17 hLs17 => ?_⟩, ?_⟩
      ·obtain rfl : v90 = .pointer (some ⟨bb, i * 11 + 9, none⟩) := hSs17 90 (by decide) (by decide)
       obtain rfl : v84 = .int .i64 li := hSs17 84 (by decide) (by decide)
       exact run_stoR 3 _ _ rfl rfl rfl hLs17 (by kernel_rfl) HFI.out.2.2 HT4.out rfl
      clear H
      intro wk HOX H hfin
      obtain rfl : v76 = .pointer (some ⟨bb, i * 11, none⟩) := hfin 76 (by decide)
      obtain rfl : v77 = .pointer (some ⟨bb, i * 11, none⟩) := hfin 77 (by decide)
      obtain rfl : v78 = .pointer (some ⟨bb, i * 11, none⟩) := hfin 78 (by decide)
      obtain rfl : v79 = .pointer (some ⟨g9, 0, none⟩) := hfin 79 (by decide)
      obtain rfl : v80 = .int .u16 ca := hfin 80 (by decide)
      obtain rfl : v81 = .int .i64 ca := hfin 81 (by decide)
      obtain rfl : v82 = .pointer (some ⟨g9, 1, none⟩) := hfin 82 (by decide)
      obtain rfl : v83 = .int .u16 li := hfin 83 (by decide)
      obtain rfl : v84 = .int .i64 li := hfin 84 (by decide)
      obtain rfl : v85 = .pointer (some ⟨bb, i * 11, none⟩) := hfin 85 (by decide)
      obtain rfl : v86 = .pointer (some ⟨bb, i * 11 + 6, none⟩) := hfin 86 (by decide)
      obtain rfl : v87 = .pointer (some ⟨bb, i * 11, none⟩) := hfin 87 (by decide)
      obtain rfl : v88 = .pointer (some ⟨bb, i * 11 + 8, none⟩) := hfin 88 (by decide)
      obtain rfl : v89 = .pointer (some ⟨bb, i * 11, none⟩) := hfin 89 (by decide)
      obtain rfl : v90 = .pointer (some ⟨bb, i * 11 + 9, none⟩) := hfin 90 (by decide)
      clear hfin
      simp only [List.drop_succ_cons, List.drop_zero]
      simp only [curEnd, ssA, szA] at H
      go_wp2_with fail
      subst h15
      have hcell7 := run_load_cell H.out 4 rfl (i * 11 + 7) _ HA7.out
      go_wp2_with ((with_reducible refine isSt 3 ?_); (refine L_s1 H rfl rfl 3 _ _ rfl 0 rfl _ rfl _ rfl _ rfl rfl rfl rfl (by kernel_rfl) (partsRs a.caps 0 ai) rfl ?_; clear H; intro wu HWwu H; simp only [szA] at H))
      clear hcell7
      rw [HC4.out] at H
      subst h20
      go_wp2_with (first | ((with_reducible refine isLd 68 ?_); (refine L_fa H rfl 68 _ rfl 0 rfl rfl Try.underlying68 rfl (by kernel_rfl) ?_); simp only [pA]) | (go_at_call 108; have HSZ := kp (Nat.le_of_lt (H.out.lt 2 rfl)); refine (HEN.out _).mono ?_; rintro e we ⟨v, rfl, ho, hx⟩; obtain ⟨bd, bn, bc, rfl⟩ := owns_form2 ho; have HOB := kp ho; clear ho; replace H := kp (H.out.ext hx); have HXC := kp hx; clear hx))
      subst h21
      refine region_z H 9 (by kernel_rfl) (by kernel_rfl) (by kernel_rfl) (by kernel_rfl) (by decide) (Nat.le_of_ble_eq_true (by kernel_rfl)) ?_
      apply Exists.intro
      refine ⟨fun xz18 => ?_, fun wz18 HXZ H => ?_⟩
      ·simp only [List.take_succ_cons, List.take_zero]
       unfold Cx
       repeat (first | ((with_reducible show wpQuiet _ _ _ _ (Oper.mk _ (Op.load 26 _) _ _ _ _ :: _) _); go_big_quiet_want; (refine qz_a H 26 _ rfl 3 rfl rfl Try.underlying26 rfl (by kernel_rfl) ?_); simp only [pA]; go_big_quiet_on) | ((with_reducible show wpQuiet _ _ _ _ (Oper.mk _ (Op.load 23 _) _ _ _ _ :: _) _); go_big_quiet_want; (refine qz_v H 23 _ rfl 2 rfl _ rfl _ rfl rfl Try.underlying23 rfl (by kernel_rfl) ?_); simp only [pA]; go_big_quiet_on) | go_big_quiet_step (fail))
       exact wpQuiet_nil rfl
      simp only [List.drop_succ_cons, List.drop_zero]
      go_wp2_with (first | (go_at_call 87; refine (HMS.out _ _ _ _ _).mono ?_; rintro e wm ⟨rfl, hx⟩; replace H := kp (H.out.ext hx); have HXC := kp hx; clear hx) | (have HSY := kp (Nat.le_of_lt (H.out.lt 2 rfl)); ((with_reducible show wpList _ _ _ (Oper.mk (some 144) (Op.buildSlice 51 _ _) _ _ _ _ :: _) _ _); (refine L_bs H (by kernel_rfl) 51 1 _ rfl (#[(0, .agg (cellsF (msgH a h.a2 (h.sub + 1)) (.slice bd bn bc)).toArray)]) (by kernel_rfl) 31 (cellsF (msgH a h.a2 (h.sub + 1)) (.slice bd bn bc)) (HBF.out bd bn bc) ?_); clear H; intro gf wf HGgf HEgf H; simp only [pA])))
      go_ret2
      rw [HR.out]
      (refine ⟨_, _, rfl, St.mk HTB.out H.out (by (try simp only [List.cons_append, List.nil_append]); repeat (first | with_reducible exact List.Sublist.cons_cons _ (List.Sublist.refl _) | with_reducible apply List.Sublist.cons)), fun _ => rfl, ?_⟩; rw [← HGg4.out]; exact FrS.one HOK.out (H.out.at 0 rfl) (by rw [HGgf.out]; exact HSY.out) (owns_weak (owns_ext HOB.out (HXZ.out.trans (HXC.out.trans HEgf.out))) HSZ.out))
   ·have hcv2 : (bits .and .i64 (rdF b 0) a.caps == a.caps) = false := by simpa [coverF] using hcv
    have hcv3 : (bits .and .i64 (rdF b 0) a.caps != a.caps) = true := by unfold bne; rw [hcv2]; rfl
    have hj : joinStat a l s (rdF b 0) = 1 := by unfold joinStat; simp [hcv]
    rw [hj, if_neg (by decide)] at HJ
    have HR := kp HJ
    have HEN := kp (fun w => HEN0 1 0 (by decide) (by decide) (by decide) (by decide) w)
    clear hc hpb hl hn hso hnl hfn hfc hsb hsub hok hF hsm hsa HPU hec hcp hbb hcap hm hz hcs HB0 HJ HEN0 hcv hj HCS
    go_enter Try.func92, Try.ntmps92
    generalize h2 : ((Code.region 2 _ _ : Code).seq _) = C2
    generalize h5 : (Code.region 5 _ _ : Code) = R5
    generalize h7 : (Code.region 7 _ _ : Code) = R7
    (generalize h10 : (Code.region 10 _ _ : Code) = R10; generalize h11 : (Code.region 11 _ _ : Code) = R11; generalize h16 : (Code.region 16 _ _ : Code) = R16; generalize h18 : (Code.region 18 _ _ : Code) = R18; generalize h12 : (Code.region 12 _ _ : Code) = R12; generalize h13 : (Code.region 13 _ _ : Code) = R13; generalize h14 : (Code.region 14 _ _ : Code) = R14; generalize h15 : (Code.region 15 _ _ : Code) = R15; generalize h20 : (Code.region 20 _ _ : Code) = R20; generalize h21 : (Code.region 21 _ _ : Code) = R21)
    go_wp2_with (((with_reducible refine isBx 4 31 ?_); (refine L_box H rfl 31 _ rfl (cat (partsFr h ok fa fn fc)) rfl ?_); clear H; intro g4 w4 HGg4 HEg4 H; simp only [pA]); have HSB2 := kp (HSB.out.ext HEg4.out))
    have HSB3 := kp (HSB2.out.ext (Ext.refl _))
    subst h2
    refine wp_cut [8, 16, 17, 18, 19] (fun vs w' => w' = w4 ∧ vs 8 = .int .u8 (h.sub + 1)) ?_ ?_
    ·cases ag with
     | true =>
      go_wp2_with ((with_reducible refine isLd 5 ?_); (refine L_f1 H rfl 5 _ rfl 0 rfl _ rfl _ rfl _ rfl Try.underlying5 rfl ?_); simp only [pA])
      exact CutP.of rfl (by kernel_rfl) ⟨rfl, by show Value.int .u8 _ = _; rw [HSU.out]; rfl⟩
     | false =>
      go_wp2_with ((with_reducible refine isLd 5 ?_); (refine L_f1 H rfl 5 _ rfl 0 rfl _ rfl _ rfl _ rfl Try.underlying5 rfl ?_); simp only [pA])
      exact CutP.of rfl (by kernel_rfl) ⟨rfl, by show Value.int .u8 _ = _; rw [HSU.out]; rfl⟩
    rintro vs w9 ⟨rfl, e8⟩
    simp only [putMany, List.setIfInBounds_toArray, List.set_cons_zero, List.set_cons_succ]
    rw [e8]
    clear e8
    go_wp2_with (first | ((with_reducible refine isLd 29 ?_); (refine L_f1 H rfl 29 _ rfl 0 rfl _ rfl _ rfl _ rfl Try.underlying29 rfl ?_); simp only [pA]) | ((with_reducible refine isLd 5 ?_); (refine L_f1 H rfl 5 _ rfl 0 rfl _ rfl _ rfl _ rfl Try.underlying5 rfl ?_); simp only [pA]) | (go_at_call 106; refine (decReq_any fa fn fc b _ HFN.out HFC.out _ HSB3.out).mono ?_; rintro e wa ⟨x, y, o, da, dn, dc, rfl, hx, he0⟩; have HE0 := kp he0; clear he0; replace H := kp (H.out.ext hx); have HXC := kp hx; clear hx) | ((with_reducible refine isAl 9 87 ?_); (refine L_alloc H rfl 87 rfl (cat (partsRq 0 0 zv6 none 0 0)) (fun _ _ => by kernel_rfl) ?_); clear H; intro g9 w9b HGg9 HEg9 H; simp only [pA]) | ((with_reducible refine isSt 87 ?_); (refine L_sa H rfl rfl 87 _ _ rfl 0 rfl rfl (partsRq x y o da dn dc) rfl rfl (by kernel_rfl) ?_; clear H; intro w9c HWw9c H; simp only [szA] at H)))
    obtain ⟨rfl, rfl⟩ := HRD.out _ _ HE0.out
    clear HE0
    subst h5
    go_wp2_with fail
    generalize rdF b 0 = ca at *
    generalize rdF b 2 = li at *
    subst h7
    refine region_z H 11 (by kernel_rfl) (by kernel_rfl) (by kernel_rfl) (by kernel_rfl) (by decide) (Nat.le_of_ble_eq_true (by kernel_rfl)) ?_
    apply Exists.intro
    refine ⟨fun xz20 => ?_, fun wz20 HXZ H => ?_⟩
    ·simp only [List.take_succ_cons, List.take_zero]
     unfold Cx
     repeat (first | ((with_reducible show wpQuiet _ _ _ _ (Oper.mk _ (Op.load 26 _) _ _ _ _ :: _) _); go_big_quiet_want; (refine qz_a H 26 _ rfl 2 rfl rfl Try.underlying26 rfl (by kernel_rfl) ?_); simp only [pA]; go_big_quiet_on) | ((with_reducible show wpQuiet _ _ _ _ (Oper.mk _ (Op.load 23 _) _ _ _ _ :: _) _); go_big_quiet_want; (refine qz_v H 23 _ rfl 1 rfl _ rfl _ rfl rfl Try.underlying23 rfl (by kernel_rfl) ?_); simp only [pA]; go_big_quiet_on) | go_big_quiet_step (exact Calls.cx_of (HPL.out _ ((H.out.ext (Ext.more _ _)).sub (by (try simp only [List.cons_append, List.nil_append]); repeat (first | with_reducible exact List.Sublist.cons_cons _ (List.nil_sublist _) | with_reducible apply List.Sublist.cons))))))
     exact wpQuiet_nil rfl
    simp only [List.drop_succ_cons, List.drop_zero]
    go_wp2_with fail
    subst h10
    go_wp2_with (first | ((with_reducible refine isLd 3 ?_); (refine L_f1 H rfl 3 _ rfl 2 rfl _ rfl _ rfl _ rfl Try.underlying3 rfl ?_); simp only [pA]) | ((with_reducible show wpList _ _ _ (Oper.mk (some 57) (Op.build 68 _) _ _ _ _ :: _) _ _); (refine L_bd (by kernel_rfl) 68 _ rfl (#[(0, .int .u16 (a.caps % 65536))]) (by kernel_rfl) (cat (partsRs (a.caps % 65536) 0 0)) (fun w => by kernel_rfl) ?_); simp only [pA]) | ((with_reducible refine isAl 13 68 ?_); (refine L_alloc H rfl 68 rfl (cat (partsRs 0 0 0)) (fun _ _ => by kernel_rfl) ?_); clear H; intro g13 w13 HGg13 HEg13 H; simp only [pA]) | ((with_reducible refine isSt 68 ?_); (refine L_sa H rfl rfl 68 _ _ rfl 0 rfl rfl (partsRs (a.caps % 65536) 0 0) rfl rfl (by kernel_rfl) ?_; clear H; intro w13b HWw13b H; simp only [szA] at H)))
    rw [HCM.out] at H
    subst h11
    go_wp2_with ((with_reducible refine isLd 24 ?_); (refine L_f1 H rfl 24 _ rfl 3 rfl _ rfl _ rfl _ rfl Try.underlying24 rfl ?_); simp only [pA])
    subst h16
    refine region_z H 12 (by kernel_rfl) (by kernel_rfl) (by kernel_rfl) (by kernel_rfl) (by decide) (Nat.le_of_ble_eq_true (by kernel_rfl)) ?_
    apply Exists.intro
    refine ⟨fun xz21 => ?_, fun wz21 HXZ H => ?_⟩
    ·simp only [List.take_succ_cons, List.take_zero]
     unfold Cx
     repeat (first | ((with_reducible show wpQuiet _ _ _ _ (Oper.mk _ (Op.load 54 _) _ _ _ _ :: _) _); go_big_quiet_want; (refine qz_1 H 54 _ rfl 1 rfl _ rfl _ rfl _ rfl Try.underlying54 rfl ?_); simp only [pA]; go_big_quiet_on) | ((with_reducible show wpQuiet _ _ _ _ (Oper.mk _ (Op.load 3 _) _ _ _ _ :: _) _); go_big_quiet_want; (refine qz_1 H 3 _ rfl 3 rfl _ rfl _ rfl _ rfl Try.underlying3 rfl ?_); simp only [pA]; go_big_quiet_on) | go_big_quiet_step (fail))
     exact wpQuiet_nil rfl
    simp only [List.drop_succ_cons, List.drop_zero]
    go_wp2_with ((with_reducible refine isSt 54 ?_); (refine L_s1 H rfl rfl 54 _ _ rfl 0 rfl _ rfl _ rfl _ rfl rfl rfl rfl (by kernel_rfl) (partsRs a.caps (1) 0) rfl ?_; clear H; intro wu HWwu H; simp only [szA] at H))
    subst h20
    go_wp2_with (first | ((with_reducible refine isLd 68 ?_); (refine L_fa H rfl 68 _ rfl 0 rfl rfl Try.underlying68 rfl (by kernel_rfl) ?_); simp only [pA]) | (go_at_call 108; have HSZ := kp (Nat.le_of_lt (H.out.lt 2 rfl)); refine (HEN.out _).mono ?_; rintro e we ⟨v, rfl, ho, hx⟩; obtain ⟨bd, bn, bc, rfl⟩ := owns_form2 ho; have HOB := kp ho; clear ho; replace H := kp (H.out.ext hx); have HXC := kp hx; clear hx))
    subst h21
    refine region_z H 9 (by kernel_rfl) (by kernel_rfl) (by kernel_rfl) (by kernel_rfl) (by decide) (Nat.le_of_ble_eq_true (by kernel_rfl)) ?_
    apply Exists.intro
    refine ⟨fun xz22 => ?_, fun wz22 HXZ H => ?_⟩
    ·simp only [List.take_succ_cons, List.take_zero]
     unfold Cx
     repeat (first | ((with_reducible show wpQuiet _ _ _ _ (Oper.mk _ (Op.load 26 _) _ _ _ _ :: _) _); go_big_quiet_want; (refine qz_a H 26 _ rfl 3 rfl rfl Try.underlying26 rfl (by kernel_rfl) ?_); simp only [pA]; go_big_quiet_on) | ((with_reducible show wpQuiet _ _ _ _ (Oper.mk _ (Op.load 23 _) _ _ _ _ :: _) _); go_big_quiet_want; (refine qz_v H 23 _ rfl 2 rfl _ rfl _ rfl rfl Try.underlying23 rfl (by kernel_rfl) ?_); simp only [pA]; go_big_quiet_on) | go_big_quiet_step (fail))
     exact wpQuiet_nil rfl
    simp only [List.drop_succ_cons, List.drop_zero]
    go_wp2_with (first | (go_at_call 87; refine (HMS.out _ _ _ _ _).mono ?_; rintro e wm ⟨rfl, hx⟩; replace H := kp (H.out.ext hx); have HXC := kp hx; clear hx) | (have HSY := kp (Nat.le_of_lt (H.out.lt 2 rfl)); ((with_reducible show wpList _ _ _ (Oper.mk (some 144) (Op.buildSlice 51 _ _) _ _ _ _ :: _) _ _); (refine L_bs H (by kernel_rfl) 51 1 _ rfl (#[(0, .agg (cellsF (msgH a h.a2 (h.sub + 1)) (.slice bd bn bc)).toArray)]) (by kernel_rfl) 31 (cellsF (msgH a h.a2 (h.sub + 1)) (.slice bd bn bc)) (HBF.out bd bn bc) ?_); clear H; intro gf wf HGgf HEgf H; simp only [pA])))
    go_ret2
    rw [HR.out]
    (refine ⟨_, _, rfl, St.mk HT.out H.out (by (try simp only [List.cons_append, List.nil_append]); repeat (first | with_reducible exact List.Sublist.cons_cons _ (List.Sublist.refl _) | with_reducible apply List.Sublist.cons)), fun _ => rfl, ?_⟩; rw [← HGg4.out]; exact FrS.one HOK.out (H.out.at 0 rfl) (by rw [HGgf.out]; exact HSY.out) (owns_weak (owns_ext HOB.out (HXZ.out.trans (HXC.out.trans HEgf.out))) HSZ.out))
 ·have HR := kp (join_no (a := a) (l := l) hag hb)
  clear hl hn hso hT hnl hfn hfc hsb hsub hok HB0
  go_enter Try.func92, Try.ntmps92
  generalize h2 : ((Code.region 2 _ _ : Code).seq _) = C2
  generalize h5 : (Code.region 5 _ _ : Code) = R5
  generalize h7 : (Code.region 7 _ _ : Code) = R7
  skip
  go_wp2_with (((with_reducible refine isBx 4 31 ?_); (refine L_box H rfl 31 _ rfl (cat (partsFr h ok fa fn fc)) rfl ?_); clear H; intro g4 w4 HGg4 HEg4 H; simp only [pA]); have HSB2 := kp (HSB.out.ext HEg4.out))
  have HSB3 := kp (HSB2.out.ext (Ext.refl _))
  subst h2
  refine wp_cut [8, 16, 17, 18, 19] (fun vs w' => w' = w4 ∧ vs 8 = .int .u8 (h.sub + 1)) ?_ ?_
  ·cases ag with
   | true =>
    go_wp2_with ((with_reducible refine isLd 5 ?_); (refine L_f1 H rfl 5 _ rfl 0 rfl _ rfl _ rfl _ rfl Try.underlying5 rfl ?_); simp only [pA])
    exact CutP.of rfl (by kernel_rfl) ⟨rfl, by show Value.int .u8 _ = _; rw [HSU.out]; rfl⟩
   | false =>
    go_wp2_with ((with_reducible refine isLd 5 ?_); (refine L_f1 H rfl 5 _ rfl 0 rfl _ rfl _ rfl _ rfl Try.underlying5 rfl ?_); simp only [pA])
    exact CutP.of rfl (by kernel_rfl) ⟨rfl, by show Value.int .u8 _ = _; rw [HSU.out]; rfl⟩
  rintro vs w9 ⟨rfl, e8⟩
  simp only [putMany, List.setIfInBounds_toArray, List.set_cons_zero, List.set_cons_succ]
  rw [e8]
  clear e8
  go_wp2_with (first | ((with_reducible refine isLd 29 ?_); (refine L_f1 H rfl 29 _ rfl 0 rfl _ rfl _ rfl _ rfl Try.underlying29 rfl ?_); simp only [pA]) | ((with_reducible refine isLd 5 ?_); (refine L_f1 H rfl 5 _ rfl 0 rfl _ rfl _ rfl _ rfl Try.underlying5 rfl ?_); simp only [pA]) | (go_at_call 106; refine (decReq_any fa fn fc b _ HFN.out HFC.out _ HSB3.out).mono ?_; rintro e wa ⟨x, y, o, da, dn, dc, rfl, hx, he0⟩; have HE0 := kp he0; clear he0; replace H := kp (H.out.ext hx); have HXC := kp hx; clear hx) | ((with_reducible refine isAl 9 87 ?_); (refine L_alloc H rfl 87 rfl (cat (partsRq 0 0 zv6 none 0 0)) (fun _ _ => by kernel_rfl) ?_); clear H; intro g9 w9b HGg9 HEg9 H; simp only [pA]) | ((with_reducible refine isSt 87 ?_); (refine L_sa H rfl rfl 87 _ _ rfl 0 rfl rfl (partsRq x y o da dn dc) rfl rfl (by kernel_rfl) ?_; clear H; intro w9c HWw9c H; simp only [szA] at H)))
  generalize reqG b ag = E at *
  subst h5
  go_wp2_with fail
  go_ret2
  rw [HR.out]
  exact ⟨_, _, rfl, St.mk HT.out H.out (by (try simp only [List.cons_append, List.nil_append]); repeat (first | with_reducible exact List.Sublist.cons_cons _ (List.Sublist.refl _) | with_reducible apply List.Sublist.cons)), (fun q => absurd q (by decide)), FrS.nil _ _⟩
end Go.Proofs.Ytfecopfofkdnpaa
