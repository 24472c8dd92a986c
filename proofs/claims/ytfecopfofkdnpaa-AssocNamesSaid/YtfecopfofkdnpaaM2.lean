/- Texts of this proof, put together: Rem30, Crc, Do, OpS, Gr30. -/
import Derived.Test.YtfecopfofkdnpaaM1
import Derived.Test.YtfecopfofkdnpaaS1
import Derived.Test.YtfecopfofkdnpaaS2
import Derived.Test.YtfecopfofkdnpaaS3
import Derived.Test.YtfecopfofkdnpaaS4
import Derived.Test.YtfecopfofkdnpaaS5
import Derived.Test.YtfecopfofkdnpaaS6
import Derived.Test.YtfecopfofkdnpaaS7
import Derived.Test.YtfecopfofkdnpaaS8
import Derived.Test.YtfecopfofkdnpaaS9
import Derived.Test.YtfecopfofkdnpaaS10
import Derived.Test.YtfecopfofkdnpaaS11
import Derived.Test.YtfecopfofkdnpaaS12
import Derived.Test.YtfecopfofkdnpaaS13
import Derived.Test.YtfecopfofkdnpaaS14
import Derived.Test.YtfecopfofkdnpaaS15
import Derived.Test.YtfecopfofkdnpaaS16
import Derived.Test.YtfecopfofkdnpaaS17
import Derived.Test.YtfecopfofkdnpaaS18
import Derived.Test.YtfecopfofkdnpaaS19
import Derived.Test.YtfecopfofkdnpaaS20
import Derived.Test.YtfecopfofkdnpaaS21
import Derived.Test.YtfecopfofkdnpaaS22
import Derived.Test.YtfecopfofkdnpaaS23
import Derived.Test.YtfecopfofkdnpaaS24
import Derived.Test.YtfecopfofkdnpaaS25
import Derived.Test.YtfecopfofkdnpaaS26
import Derived.Test.YtfecopfofkdnpaaS27
import Derived.Test.YtfecopfofkdnpaaS28
import Derived.Test.YtfecopfofkdnpaaS29
import Derived.Test.YtfecopfofkdnpaaS30
namespace Go.Proofs.Ytfecopfofkdnpaa
open Go.RowKit
theorem owns_outT {w w' : World} {G : List Nat} {base E sz n : Nat} {v : Value} {xs : List Value} (h : w.ownsRow base E sz v n xs) (ho : Out G w w') (hG : ∀ g ∈ G, g < base) : w'.ownsRow base E sz v n xs := by
 obtain ⟨h1, h2 | ⟨b, cap, cur, h3, hb, hg, h4⟩⟩ := h
 ·exact ⟨h1, .inl h2⟩
 ·refine ⟨h1, .inr ⟨b, cap, cur, h3, hb, ?_, h4⟩⟩
  rw [ho.block b (Array.getElem?_eq_some_iff.1 hg).1 (fun hm => by have := hG b hm; omega)]; exact hg
theorem lt9 {g B : Nat} (h : g < B) : ∀ x ∈ [g], x < B := fun x hx => by rw [List.mem_singleton.1 hx]; exact h
def ByeV (B : Nat) (a : As) (t : By) (sub code : Int) (v : Value) (w : World) : Prop := ∃ ad n c, v = .agg (cellsF (msgH a t sub) (.slice ad n c)).toArray ∧ OwB B w (.slice ad n c) (two16 code)
theorem mono_ByeV {g B : Nat} {a : As} {t : By} {sub code : Int} (h : g < B) : MonoO [g] (ByeV B a t sub code) := fun _ _ _ ⟨ad, n, c, h1, h2⟩ ho => ⟨ad, n, c, h1, owns_outT h2 ho (lt9 h)⟩
theorem mono_FrS {g B : Nat} {outs : List Fm} (h : g < B) : MonoO [g] (FrS B outs) := fun _ _ _ ⟨vs, h1, h2, h3⟩ ho => ⟨vs, h1, owns_outT h2 ho (lt9 h), fun p hp => owns_outT (h3 p hp) ho (lt9 h)⟩
set_option maxRecDepth 4000 in
set_option maxHeartbeats 1600000 in
theorem remove_any (a : As) (ha : a.own.length = 6) (v : Value) (l : List En) (hl : L6 l) (hn : l.length ≤ 100000) (t : By) (ht : t.length = 6) (w : World) (hs : SlT 11 cellsE w v l) :
  Calls Try.prog 39 #[.agg (cellsA a v).toArray, .agg (t.map V8).toArray] w (HanR a (removeF a l t) w) := by
 have H := kp (Loc.start w)
 have HSL := kp hs
 have HST := kp ht
 have HCH := kp (fun w' hs => check_any a ha v l hl hn w' hs)
 have HTW := kp (fun w' hs => twin_any a ha v l hl hn w' hs)
 have HBY := kp (fun w' => bye_any a ha v t ht 12 (by decide) (by decide) 8 (by decide) (by decide) w')
 have HP0 := fun hso w' hs => place_one a ha v l hl hn hso t ht w' hs
 obtain ⟨ad, n, c, rfl, -⟩ := hs
 rw [cat_A a ha] at HCH HTW HBY HP0
 rw [cat_A a ha]
 cases hv : validA a l with
 | false =>
  have HR := kp (show removeF a l t = ([], [], 8) by unfold removeF; rw [hv]; rfl)
  have HCC := kp (chk_bad hv)
  rw [HCC.out] at HCH
  clear hv hl hn HTW HBY HP0 ht
  go_enter Try.func39, Try.ntmps39
  go_wp2_with (first | ((with_reducible refine isBx 2 26 ?_); (refine L_box H rfl 26 _ rfl (cat (partsA a ha ad n c)) rfl ?_); clear H; intro g2 w2 HGg2 HEg2 H; simp only [pA]) | ((with_reducible refine isBx 3 23 ?_); (refine L_box H rfl 23 _ rfl (cat ([Lf.v ⟨t, HST.out⟩])) rfl ?_); clear H; intro g3 w3 HGg3 HEg3 H; simp only [pA]) | ((with_reducible refine isAl 4 26 ?_); (refine L_alloc H rfl 26 rfl (cat (partsA as0 rfl none 0 0)) (fun _ _ => by kernel_rfl) ?_); clear H; intro g4 w4 HGg4 HEg4 H; simp only [pA]) | ((with_reducible refine isLd 26 ?_); (refine L_fa H rfl 26 _ rfl 2 rfl rfl Try.underlying26 rfl (by kernel_rfl) ?_); simp only [pA]) | (go_at_call 20; refine (HCH.out _ (HSL.out.ext H.out.1)).mono ?_; rintro e wa ⟨rfl, hx⟩; replace H := kp (H.out.ext hx); have HXC := kp hx; clear hx) | ((with_reducible show wpList _ _ _ (Oper.mk (some 14) (Op.build 26 _) _ _ _ _ :: _) _ _); (refine L_bd (by kernel_rfl) 26 _ rfl (#[]) (by kernel_rfl) (cat (partsA as0 rfl none 0 0)) (fun _ => by kernel_rfl) ?_); simp only [pA]) | ((with_reducible refine isSt 26 ?_); (refine L_sa H rfl rfl 26 _ _ rfl 0 rfl rfl (partsA as0 rfl none 0 0) rfl rfl (by kernel_rfl) ?_; clear H; intro wz HWwz H; simp only [szA] at H)))
  exact ret_f3 H Try.results39 0 rfl rfl _ _ rfl rfl Try.underlying26 rfl (by kernel_rfl) rfl (hanR_err HR.out (by decide) H.out.1)
 | true =>
  have HCC := kp (chk_good hv)
  rw [HCC.out] at HCH
  have hok := (valid_iff a l).1 hv
  have hso := hok.sorted
  have hn64 := ok_len hok
  have HPL := kp (fun w' hs => HP0 (sorted_of_pair hso) w' hs)
  clear HP0
  cases hc : lookF l t with
  | none =>
   have HR := kp (show removeF a l t = ([], [], 6) by unfold removeF; rw [hv, hc]; rfl)
   have hpb : plB l t = false := by unfold plB; rw [hc]; rfl
   rw [hpb] at HPL
   generalize plI l t = i at *
   clear hv hl hn HTW HBY ht hok hso hn64 hc hpb
   go_enter Try.func39, Try.ntmps39
   go_wp2_with (first | ((with_reducible refine isBx 2 26 ?_); (refine L_box H rfl 26 _ rfl (cat (partsA a ha ad n c)) rfl ?_); clear H; intro g2 w2 HGg2 HEg2 H; simp only [pA]) | ((with_reducible refine isBx 3 23 ?_); (refine L_box H rfl 23 _ rfl (cat ([Lf.v ⟨t, HST.out⟩])) rfl ?_); clear H; intro g3 w3 HGg3 HEg3 H; simp only [pA]) | ((with_reducible refine isAl 4 26 ?_); (refine L_alloc H rfl 26 rfl (cat (partsA as0 rfl none 0 0)) (fun _ _ => by kernel_rfl) ?_); clear H; intro g4 w4 HGg4 HEg4 H; simp only [pA]) | ((with_reducible refine isLd 26 ?_); (refine L_fa H rfl 26 _ rfl 2 rfl rfl Try.underlying26 rfl (by kernel_rfl) ?_); simp only [pA]) | ((with_reducible refine isLd 23 ?_); (refine L_fa H rfl 23 _ rfl 1 rfl rfl Try.underlying23 rfl (by kernel_rfl) ?_); simp only [pA]) | (go_at_call 20; refine (HCH.out _ (HSL.out.ext H.out.1)).mono ?_; rintro e wa ⟨rfl, hx⟩; replace H := kp (H.out.ext hx); have HXC := kp hx; clear hx) | (go_at_call 41; refine (HPL.out _ (HSL.out.ext H.out.1)).mono ?_; rintro e wa ⟨rfl, hx⟩; replace H := kp (H.out.ext hx); have HXC := kp hx; clear hx) | ((with_reducible show wpList _ _ _ (Oper.mk (some 24) (Op.build 26 _) _ _ _ _ :: _) _ _); (refine L_bd (by kernel_rfl) 26 _ rfl (#[]) (by kernel_rfl) (cat (partsA as0 rfl none 0 0)) (fun _ => by kernel_rfl) ?_); simp only [pA]) | ((with_reducible refine isSt 26 ?_); (refine L_sa H rfl rfl 26 _ _ rfl 0 rfl rfl (partsA as0 rfl none 0 0) rfl rfl (by kernel_rfl) ?_; clear H; intro wz HWwz H; simp only [szA] at H)))
   exact ret_f3 H Try.results39 0 rfl rfl _ _ rfl rfl Try.underlying26 rfl (by kernel_rfl) rfl (hanR_err HR.out (by decide) H.out.1)
  | some s =>
   have HR := kp (show removeF a l t = (delF l t, [byeF a t 12 8], 0) by unfold removeF; rw [hv, hc]; rfl)
   have hpb : plB l t = true := by unfold plB; rw [hc]; rfl
   rw [hpb] at HPL
   have hF := pl_found hso hl ht hc
   have HDD := kp hF.2.2.2.2
   have HDL := kp (hl.sub (del_sub l t))
   have HOK := kp (msg_ok (t := t) ha ht (show (0:Int) ≤ 12 by decide) (by decide))
   have HBF := kp (fun ad n c w => bs_frame HOK.out ad n c w)
   have hil := hF.1
   generalize plI l t = i at *
   obtain ⟨j, hj⟩ : ∃ j, j = i + 1 := ⟨_, rfl⟩
   have hi1 : (i : Int) + 1 = (j : Int) := by omega
   have HJ := kp hj
   have hin : i ≤ 64 := by omega
   have HDE := kp (fun bb c zs (hcap : l.length ≤ c) (hz : (l.flatMap cellsE ++ zs).length = c * 11) w1 rest H => delete_any l hl l.length rfl hn i j hj hil bb c zs hcap hz w w1 rest H)
   have HIL := kp hil
   have HNE := kp (show l ≠ [] by intro e; rw [e] at hc; cases hc)
   clear hv hl hn ht hok hso hn64 hc hpb hF hj hil
   go_enter Try.func39, Try.ntmps39
   generalize h8 : (Code.region 8 _ _ : Code) = R8
   generalize h9 : (Code.region 9 _ _ : Code) = R9
   go_wp2_with (first | ((with_reducible refine isBx 2 26 ?_); (refine L_box H rfl 26 _ rfl (cat (partsA a ha ad n c)) rfl ?_); clear H; intro g2 w2 HGg2 HEg2 H; simp only [pA]) | ((with_reducible refine isBx 3 23 ?_); (refine L_box H rfl 23 _ rfl (cat ([Lf.v ⟨t, HST.out⟩])) rfl ?_); clear H; intro g3 w3 HGg3 HEg3 H; simp only [pA]) | ((with_reducible refine isAl 4 26 ?_); (refine L_alloc H rfl 26 rfl (cat (partsA as0 rfl none 0 0)) (fun _ _ => by kernel_rfl) ?_); clear H; intro g4 w4 HGg4 HEg4 H; simp only [pA]) | ((with_reducible refine isLd 26 ?_); (refine L_fa H rfl 26 _ rfl 2 rfl rfl Try.underlying26 rfl (by kernel_rfl) ?_); simp only [pA]) | ((with_reducible refine isLd 23 ?_); (refine L_fa H rfl 23 _ rfl 1 rfl rfl Try.underlying23 rfl (by kernel_rfl) ?_); simp only [pA]) | (go_at_call 20; refine (HCH.out _ (HSL.out.ext H.out.1)).mono ?_; rintro e wa ⟨rfl, hx⟩; replace H := kp (H.out.ext hx); have HXC := kp hx; clear hx) | (go_at_call 41; refine (HPL.out _ (HSL.out.ext H.out.1)).mono ?_; rintro e wa ⟨rfl, hx⟩; replace H := kp (H.out.ext hx); have HXC := kp hx; clear hx) | (go_at_call 69; have HLT := kp H.out.allLt; have HSZ := kp H.out.1.size; have HG4 := kp (H.out.at 0 rfl); refine (HTW.out _ (HSL.out.ext H.out.1)).mono ?_; rintro e wt ⟨ad2, n2, c2, rfl, ho, hx⟩; rw [cat_A a ha]; have HO := kp ho; clear ho HG4; replace H := kp (H.out.ext hx); have HXC := kp hx; clear hx; have HG4 := kp (H.out.at 0 rfl)) | ((with_reducible show wpList _ _ _ (Oper.mk none (Op.store 26 (.tmp 4) _) _ _ _ _ :: _) _ _); ((with_reducible refine isSt 26 ?_); refine L_sa H rfl rfl 26 _ _ rfl 0 rfl rfl (partsA a ha ad2 n2 c2) rfl rfl (by kernel_rfl) ?_; clear H; intro w4b HWw4b H; simp only [szA] at H); have HOq := kp (owns_wroteT HO.out HWw4b.out HG4.out (show 39 ≠ 26 from by decide)); clear HO HG4 HWw4b; have HO := HOq; clear HOq))
   have HST4 := kp (St.ofOwn (B := w.heap.size) (g := g4) (a := a) (ha := ha) (l := l) (rest := [(g3, 23, cat [Lf.v ⟨t, HST.out⟩]), (g2, 26, cat (partsA a ha ad n c))]) (owns_weak HO.out HSZ.out) (Nat.le_refl _) H.out (fun z hz e => by have q1 := HLT.out z hz; have q2 := ownsT_block HO.out z e; omega) (List.Sublist.refl _))
   clear HO HLT H
   obtain ⟨ad3, n3, c3, tb, hT, H0⟩ := St.get [] HST4.out
   have H := kp (show Loc w w4b (_ :: ([(g3, 23, cat [Lf.v ⟨t, HST.out⟩]), (g2, 26, cat (partsA a ha ad n c))] ++ tb)) from H0.perm (List.Perm.cons _ List.perm_append_comm))
   simp only [List.cons_append, List.nil_append] at H
   rcases hT with ⟨hl0, _⟩ | ⟨bb, zs, rfl, rfl, hbb, hnl, hcap, hm, hz⟩
   ·exact absurd hl0 HNE.out
   subst hnl
   have HX := kp (show w.heap.size ≤ bb ∧ l.length ≤ c3 ∧ c3 ≤ maxLen from ⟨hbb, hcap, hm⟩)
   have HDZ := kp (fun w1 rest H => HDE.out bb c3 zs hcap hz w1 rest H)
   obtain ⟨cs, hcs⟩ : ∃ cs, cs = l.flatMap cellsE ++ zs := ⟨_, rfl⟩
   rw [← hcs] at H HDZ
   clear H0 HST4 hbb hcap hm hz hcs HDE
   subst h8
   go_wp2_with (first | ((with_reducible refine isLd 24 ?_); (refine L_f1 H rfl 24 _ rfl 0 rfl _ rfl _ rfl _ rfl Try.underlying24 rfl ?_); simp only [pA]) | (go_at_call 76; go_loud (refine (HDZ.out _ (_ :: _ :: _ :: []) (kp (H.out.perm (List.perm_middle (l₁ := [_, _, _]) (l₂ := []))))).mono ?_); rintro e wd ⟨zs2, rfl, hzl, hl2⟩; clear H; have H := kp (hl2.perm (List.perm_middle (l₁ := [_, _, _]) (l₂ := [])).symm); clear hl2; have HZL := kp hzl; clear hzl; simp only [List.cons_append, List.nil_append] at H) | ((with_reducible refine isSt 24 ?_); (refine L_s1 H rfl rfl 24 _ _ rfl 0 rfl _ rfl _ rfl _ rfl rfl rfl rfl (by kernel_rfl) (partsA a ha (some ⟨bb, 0, none⟩) (l.length - 1) c3) rfl ?_; clear H; intro wz HWwz H; simp only [szA] at H)))
   have HG4Z := kp (H.out.lt 0 rfl)
   have HSZ8 := kp H.out.1.size
   obtain ⟨m, hm⟩ : ∃ m, m = l.length - 1 := ⟨_, rfl⟩
   have HMM := kp hm
   rw [← hm] at H ⊢
   clear hm
   subst h9
   refine region_freeC H (tabS [(34, fun vQ _ => vQ = .agg (cat (partsA a ha (some ⟨bb, 0, none⟩) m c3)).toArray), (35, fun vQ _ => vQ = .agg (cat (partsA a ha ad n c)).toArray), (36, fun vQ _ => vQ = .agg (cat [Lf.v ⟨t, HST.out⟩]).toArray), (37, fun vQ wQ => ByeV wz.heap.size a t 12 8 vQ wQ), (38, fun vQ wQ => FrS wz.heap.size [byeF a t 12 8] vQ wQ), (5, fun vQ wQ => FrS wz.heap.size [byeF a t 12 8] vQ wQ), (6, fun vQ _ => vQ = .int .i64 0)]) [⟨5, 0, g4, 26, cat (partsA a ha (some ⟨bb, 0, none⟩) m c3), cat (partsA a ha (some ⟨bb, 0, none⟩) m c3)⟩] 0 g4 26 (cat (partsA a ha (some ⟨bb, 0, none⟩) m c3)) (tabS_out _ _ (by simp only [List.forall_mem_cons, mono_eqO, true_and]; exact ⟨(mono_ByeV HG4Z.out), (mono_FrS HG4Z.out), (mono_FrS HG4Z.out), by simp⟩)) 8 (by kernel_rfl) (by kernel_rfl) (by kernel_rfl) (by kernel_rfl) [5] rfl (by decide) (by decide) (by kernel_rfl) rfl ⟨⟨rfl, rfl, rfl, rfl⟩, trivial⟩ [0] (by kernel_rfl) ?_
   simp only [List.take_succ_cons, List.take_zero]
   refine ⟨fun w_ o_ S_ hAv34 => ?_, fun v34 => ?_⟩
   ·clear S_
    have H := kp (H.out.sameC (p := 0) (g := g4) rfl o_ (hAv34 rfl))
    clear hAv34
    have HOX := kp o_
    clear o_
    go_wp2_with ((with_reducible refine isLd 26 ?_); (refine L_fa H rfl 26 _ rfl 0 rfl rfl Try.underlying26 rfl (by kernel_rfl) ?_); simp only [pA])
    exact kso
   simp only [pA]
   refine ⟨fun w_ o_ S_ hAv35 => ?_, fun v35 => ?_⟩
   ·clear S_
    clear hAv35
    have H := kp (H.out.keepC [1, 2, 3] (p := 0) (g := g4) rfl o_ (by decide) (by kernel_rfl))
    have HOX := kp o_
    clear o_
    go_wp2_with ((with_reducible refine isLd 26 ?_); (refine L_fa H rfl 26 _ rfl 1 rfl rfl Try.underlying26 rfl (by kernel_rfl) ?_); simp only [pA])
    exact kso
   simp only [pA]
   refine ⟨fun w_ o_ S_ hAv36 => ?_, fun v36 => ?_⟩
   ·clear S_
    clear hAv36
    have H := kp (H.out.keepC [1, 2, 3] (p := 0) (g := g4) rfl o_ (by decide) (by kernel_rfl))
    have HOX := kp o_
    clear o_
    go_wp2_with ((with_reducible refine isLd 23 ?_); (refine L_fa H rfl 23 _ rfl 0 rfl rfl Try.underlying23 rfl (by kernel_rfl) ?_); simp only [pA])
    exact kso
   simp only [pA]
   refine ⟨fun w_ o_ S_ hAv37 => ?_, fun v37 => ?_⟩
   ·obtain rfl : v35 = .agg (cat (partsA a ha ad n c)).toArray := hsR S_ 35 rfl
    obtain rfl : v36 = .agg (cat [Lf.v ⟨t, HST.out⟩]).toArray := hsR S_ 36 rfl
    clear S_
    clear hAv37
    have H := kp (H.out.keepC [1, 2, 3] (p := 0) (g := g4) rfl o_ (by decide) (by kernel_rfl))
    have HOX := kp o_
    clear o_
    go_wp2_with fail
    refine (HBY.out _).mono ?_
    rintro e w2 ⟨bd, bn, bc, rfl, ho, hx⟩
    have HOB := kp (owns_weak ho HOX.out.size)
    have HXC := kp hx
    clear ho hx
    go_wp2_with fail
    exact ⟨rfl, _, rfl, fun d hd => by cases hd; exact ⟨bd, bn, bc, rfl, HOB.out⟩, HXC.out⟩
   simp only [pA]
   refine ⟨fun w_ o_ S_ hAv38 => ?_, fun v38 => ?_⟩
   ·have h37 := kp (show ByeV wz.heap.size a t 12 8 v37 w_ from hsR S_ 37 rfl)
    clear S_
    clear hAv38
    have H := kp (H.out.keepC [1, 2, 3] (p := 0) (g := g4) rfl o_ (by decide) (by kernel_rfl))
    have HOX := kp o_
    clear o_
    obtain ⟨bd, bn, bc, rfl, ho⟩ := h37.out
    have HOB := kp ho
    clear ho h37
    go_wp2_with ((with_reducible show wpList _ _ _ (Oper.mk (some 38) (Op.buildSlice 51 _ _) _ _ _ _ :: _) _ _); (refine L_bs H (by kernel_rfl) 51 1 _ rfl (#[(0, .agg (cellsF (msgH a t 12) (.slice bd bn bc)).toArray)]) (by kernel_rfl) 31 (cellsF (msgH a t 12) (.slice bd bn bc)) (HBF.out bd bn bc) ?_); clear H; intro gf wf HGgf HEgf H; simp only [pA])
    exact ⟨rfl, _, rfl, fun d hd => by cases hd; exact FrS.one HOK.out (H.out.at 0 rfl) (by have q1 := HOX.out.size; have q2 := HGgf.out; omega) (owns_ext HOB.out HEgf.out), HEgf.out⟩
   simp only [pA]
   refine ⟨⟨rfl, rfl, fun ws5 hos5 hSs5 hLs5 => ?_⟩, ?_⟩
   ·obtain rfl : v34 = .agg (cat (partsA a ha (some ⟨bb, 0, none⟩) m c3)).toArray := hSs5 34 (by decide) (by decide)
    exact run_sto 26 _ _ rfl rfl rfl hLs5 ((by rw [List.size_toArray, cat_len]; kernel_rfl)) (rfl) ((by simpa using cat_one (partsA a ha (some ⟨bb, 0, none⟩) m c3)))
   refine ⟨fun w_ o_ S_ hAv5 => ?_, fun v5 => ?_⟩
   ·have h38 := kp (show FrS wz.heap.size [byeF a t 12 8] v38 w_ from hsR S_ 38 rfl)
    clear S_
    clear hAv5
    clear o_
    go_wp2_with fail
    exact ⟨rfl, _, rfl, fun d hd => by cases hd; exact h38.out, Ext.refl _⟩
   simp only [pA]
   refine ⟨fun w_ o_ S_ hAv6 => ?_, fun v6 => ?_⟩
   ·clear S_
    clear hAv6
    clear o_
    go_wp2_with fail
    exact kso
   simp only [pA]
   clear H
   intro wk HOX H hfin
   obtain rfl : v34 = .agg (cat (partsA a ha (some ⟨bb, 0, none⟩) m c3)).toArray := hfin 34 (by decide)
   obtain rfl : v35 = .agg (cat (partsA a ha ad n c)).toArray := hfin 35 (by decide)
   obtain rfl : v36 = .agg (cat [Lf.v ⟨t, HST.out⟩]).toArray := hfin 36 (by decide)
   have F37 := kp (show ByeV wz.heap.size a t 12 8 v37 wk from hfin 37 (by decide))
   have F38 := kp (show FrS wz.heap.size [byeF a t 12 8] v38 wk from hfin 38 (by decide))
   have F5 := kp (show FrS wz.heap.size [byeF a t 12 8] v5 wk from hfin 5 (by decide))
   obtain rfl : v6 = .int .i64 0 := hfin 6 (by decide)
   clear hfin
   simp only [List.drop_succ_cons, List.drop_zero]
   simp only [curEnd, ssA, szA] at H
   go_wp2_with fail
   have HTB : TB w.heap.size (some ⟨bb, 0, none⟩) m c3 [(bb, 39, (l.take i ++ l.drop (i + 1)).flatMap cellsE ++ zs2)] (delF l t) := by
    have hx := HX.out
    rw [HDD.out]
    exact .inr ⟨bb, zs2, rfl, rfl, hx.1, by have q := HIL.out; rw [HMM.out]; simp only [List.length_append, List.length_take, List.length_drop]; omega, by rw [HMM.out]; omega, hx.2.2, HZL.out⟩
   have HOO := HTB.own HDL.out (H.out.sub (by (try simp only [List.cons_append, List.nil_append]); repeat (first | with_reducible exact List.Sublist.refl _ | with_reducible apply List.Sublist.cons)))
   exact ret_f3 H Try.results39 0 rfl rfl _ _ rfl rfl Try.underlying26 rfl (by kernel_rfl) rfl (by rw [HR.out]; exact hanR_ok ha rfl HOO (F5.out.weak HSZ8.out) H.out.1)
def AdmR (a : As) (r : Rs) (w : World) (e : Ending) (w' : World) : Prop :=
 ∃ ad n c, e = .returned (.tuple #[.agg (cellsA (if r.2.2 = 0 then a else as0) (.slice ad n c)).toArray, .int .i64 r.2.2]) ∧ OwE w.heap.size w' (.slice ad n c) r.1 ∧ Ext w w'
theorem admR_err {a : As} {r : Rs} {E : Int} (hr : r = ([], [], E)) (hE : E ≠ 0) {w w' : World} (hx : Ext w w') : AdmR a r w (.returned (.tuple #[.agg (cat (partsA as0 rfl none 0 0)).toArray, .int .i64 E])) w' := by
 subst hr
 refine ⟨none, 0, 0, ?_, OwE.nil _ _, hx⟩
 show _ = Ending.returned (.tuple #[.agg (cellsA (if E = 0 then a else as0) (.slice none 0 0)).toArray, .int .i64 E])
 rw [if_neg hE, cat_A as0 rfl]
theorem admR_ok {a : As} (ha : a.own.length = 6) {r : Rs} (hE : r.2.2 = 0) {w w' : World} {ad : Option Addr} {n c : Nat} (ho : OwE w.heap.size w' (.slice ad n c) r.1) (hx : Ext w w') : AdmR a r w (.returned (.tuple #[.agg (cat (partsA a ha ad n c)).toArray, .int .i64 0])) w' := by
 refine ⟨ad, n, c, ?_, ho, hx⟩
 rw [if_pos hE, hE, cat_A a ha]
theorem St.end9 {B : Nat} {w0 w : World} {g : Nat} {a : As} {ha : a.own.length = 6} {l : List En} {X : List Bk} (h : St B w0 w g a ha l X) : ∃ ad n c t, TB B ad n c t l ∧ Loc w0 w ((g, 26, cat (partsA a ha ad n c)) :: (X ++ t)) := by
 obtain ⟨ad, n, c, t, ht, H⟩ := h
 exact ⟨ad, n, c, t, ht, H.perm (List.Perm.cons _ List.perm_append_comm)⟩
set_option maxRecDepth 4000 in
set_option maxHeartbeats 1600000 in
theorem admit_any (a : As) (ha : a.own.length = 6) (v : Value) (l : List En) (hl : L6 l) (hn : l.length ≤ 100000) (t : By) (ht : t.length = 6) (now : Int) (w : World) (hs : SlT 11 cellsE w v l) :
  Calls Try.prog 31 #[.agg (cellsA a v).toArray, .agg (t.map V8).toArray, .int .i64 now] w (AdmR a (admitF a l t now) w) := by
 have H := kp (Loc.start w)
 have HSL := kp hs
 have HST := kp ht
 have HCH := kp (fun w' hs => check_any a ha v l hl hn w' hs)
 have HTW := kp (fun w' hs => twin_any a ha v l hl hn w' hs)
 have HGR := kp (fun w' => group_any t ht w')
 have HMO := kp (fun w' => moment_any now w')
 obtain ⟨ad, n, c, rfl, -⟩ := hs
 rw [cat_A a ha] at HCH HTW
 rw [cat_A a ha]
 cases hv : validA a l with
 | false =>
  have HR := kp (show admitF a l t now = ([], [], 8) by unfold admitF; rw [hv]; rfl)
  have HCC := kp (chk_bad hv)
  rw [HCC.out] at HCH
  clear hv hl hn HTW ht
  go_enter Try.func31, Try.ntmps31
  go_wp2_with (first | ((with_reducible refine isBx 3 26 ?_); (refine L_box H rfl 26 _ rfl (cat (partsA a ha ad n c)) rfl ?_); clear H; intro g3 w3 HGg3 HEg3 H; simp only [pA]) | ((with_reducible refine isBx 4 23 ?_); (refine L_box H rfl 23 _ rfl (cat ([Lf.v ⟨t, HST.out⟩])) rfl ?_); clear H; intro g4 w4 HGg4 HEg4 H; simp only [pA]) | ((with_reducible refine isAl 6 26 ?_); (refine L_alloc H rfl 26 rfl (cat (partsA as0 rfl none 0 0)) (fun _ _ => by kernel_rfl) ?_); clear H; intro g6 w6 HGg6 HEg6 H; simp only [pA]) | ((with_reducible refine isLd 26 ?_); (refine L_fa H rfl 26 _ rfl 2 rfl rfl Try.underlying26 rfl (by kernel_rfl) ?_); simp only [pA]) | (go_at_call 20; refine (HCH.out _ (HSL.out.ext H.out.1)).mono ?_; rintro e wa ⟨rfl, hx⟩; replace H := kp (H.out.ext hx); have HXC := kp hx; clear hx) | ((with_reducible show wpList _ _ _ (Oper.mk (some 13) (Op.build 26 _) _ _ _ _ :: _) _ _); (refine L_bd (by kernel_rfl) 26 _ rfl (#[]) (by kernel_rfl) (cat (partsA as0 rfl none 0 0)) (fun _ => by kernel_rfl) ?_); simp only [pA]) | ((with_reducible refine isSt 26 ?_); (refine L_sa H rfl rfl 26 _ _ rfl 0 rfl rfl (partsA as0 rfl none 0 0) rfl rfl (by kernel_rfl) ?_; clear H; intro wz HWwz H; simp only [szA] at H)))
  exact ret_f2 H Try.results31 0 rfl rfl _ rfl Try.underlying26 rfl (by kernel_rfl) rfl (admR_err HR.out (by decide) H.out.1)
 | true =>
  have HCC := kp (chk_good hv)
  rw [HCC.out] at HCH
  have hok := (valid_iff a l).1 hv
  have hso := hok.sorted
  have hn64 := ok_len hok
  have HGT := kp Try.eqGuardType23
  have HEQ := kp (fun w => eqAddr t a.own ht ha w)
  cases hg : groupF t with
  | true =>
   have HR := kp (show admitF a l t now = ([], [], 2) by unfold admitF; rw [hv, hg]; rfl)
   rw [hg] at HGR
   clear hv hl hn HTW ht hok hso hn64 hg
   go_enter Try.func31, Try.ntmps31
   go_wp2_with (first | ((with_reducible refine isBx 3 26 ?_); (refine L_box H rfl 26 _ rfl (cat (partsA a ha ad n c)) rfl ?_); clear H; intro g3 w3 HGg3 HEg3 H; simp only [pA]) | ((with_reducible refine isBx 4 23 ?_); (refine L_box H rfl 23 _ rfl (cat ([Lf.v ⟨t, HST.out⟩])) rfl ?_); clear H; intro g4 w4 HGg4 HEg4 H; simp only [pA]) | ((with_reducible refine isAl 6 26 ?_); (refine L_alloc H rfl 26 rfl (cat (partsA as0 rfl none 0 0)) (fun _ _ => by kernel_rfl) ?_); clear H; intro g6 w6 HGg6 HEg6 H; simp only [pA]) | ((with_reducible refine isLd 26 ?_); (refine L_fa H rfl 26 _ rfl 2 rfl rfl Try.underlying26 rfl (by kernel_rfl) ?_); simp only [pA]) | ((with_reducible refine isLd 23 ?_); (refine L_fv H rfl 23 _ rfl 1 rfl _ rfl _ rfl rfl Try.underlying23 rfl (by kernel_rfl) ?_); simp only [pA]) | (go_at_call 20; refine (HCH.out _ (HSL.out.ext H.out.1)).mono ?_; rintro e wa ⟨rfl, hx⟩; replace H := kp (H.out.ext hx); have HXC := kp hx; clear hx) | (go_at_call 51; refine (HGR.out _).mono ?_; rintro e wa ⟨rfl, hx⟩; replace H := kp (H.out.ext hx); have HXC := kp hx; clear hx) | ((with_reducible show wpList _ _ _ (Oper.mk (some 28) (Op.build 26 _) _ _ _ _ :: _) _ _); (refine L_bd (by kernel_rfl) 26 _ rfl (#[]) (by kernel_rfl) (cat (partsA as0 rfl none 0 0)) (fun _ => by kernel_rfl) ?_); simp only [pA]) | ((with_reducible refine isSt 26 ?_); (refine L_sa H rfl rfl 26 _ _ rfl 0 rfl rfl (partsA as0 rfl none 0 0) rfl rfl (by kernel_rfl) ?_; clear H; intro wz HWwz H; simp only [szA] at H)))
   exact ret_f2 H Try.results31 0 rfl rfl _ rfl Try.underlying26 rfl (by kernel_rfl) rfl (admR_err HR.out (by decide) H.out.1)
  | false =>
   rw [hg] at HGR
   cases ho : t == a.own with
   | true =>
    have HR := kp (show admitF a l t now = ([], [], 2) by unfold admitF; rw [hv, hg, ho]; rfl)
    rw [ho] at HEQ
    clear hv hl hn HTW ht hok hso hn64 hg ho
    go_enter Try.func31, Try.ntmps31
    go_wp2_with (first | ((with_reducible refine isBx 3 26 ?_); (refine L_box H rfl 26 _ rfl (cat (partsA a ha ad n c)) rfl ?_); clear H; intro g3 w3 HGg3 HEg3 H; simp only [pA]) | ((with_reducible refine isBx 4 23 ?_); (refine L_box H rfl 23 _ rfl (cat ([Lf.v ⟨t, HST.out⟩])) rfl ?_); clear H; intro g4 w4 HGg4 HEg4 H; simp only [pA]) | ((with_reducible refine isAl 6 26 ?_); (refine L_alloc H rfl 26 rfl (cat (partsA as0 rfl none 0 0)) (fun _ _ => by kernel_rfl) ?_); clear H; intro g6 w6 HGg6 HEg6 H; simp only [pA]) | ((with_reducible refine isLd 26 ?_); (refine L_fa H rfl 26 _ rfl 2 rfl rfl Try.underlying26 rfl (by kernel_rfl) ?_); simp only [pA]) | ((with_reducible refine isLd 23 ?_); (first | (refine L_fv H rfl 23 _ rfl 1 rfl _ rfl _ rfl rfl Try.underlying23 rfl (by kernel_rfl) ?_) | (refine L_fv H rfl 23 _ rfl 2 rfl _ rfl _ rfl rfl Try.underlying23 rfl (by kernel_rfl) ?_)); simp only [pA]) | (go_at_call 20; refine (HCH.out _ (HSL.out.ext H.out.1)).mono ?_; rintro e wa ⟨rfl, hx⟩; replace H := kp (H.out.ext hx); have HXC := kp hx; clear hx) | (go_at_call 51; refine (HGR.out _).mono ?_; rintro e wa ⟨rfl, hx⟩; replace H := kp (H.out.ext hx); have HXC := kp hx; clear hx) | ((with_reducible show wpList _ _ _ (Oper.mk _ (Op.binOp .eql 23 _ _ _) _ _ _ _ :: _) _ _); (refine wpList_bin (by kernel_rfl) .eql 23 23 _ _ rfl (.agg (t.map V8).toArray) (.agg (a.own.map V8).toArray) _ rfl rfl (run_eqGuard_agg _ _ _ _ _ _ _ HGT.out) (HEQ.out _) ?_); simp only [pA]) | ((with_reducible show wpList _ _ _ (Oper.mk (some 28) (Op.build 26 _) _ _ _ _ :: _) _ _); (refine L_bd (by kernel_rfl) 26 _ rfl (#[]) (by kernel_rfl) (cat (partsA as0 rfl none 0 0)) (fun _ => by kernel_rfl) ?_); simp only [pA]) | ((with_reducible refine isSt 26 ?_); (refine L_sa H rfl rfl 26 _ _ rfl 0 rfl rfl (partsA as0 rfl none 0 0) rfl rfl (by kernel_rfl) ?_; clear H; intro wz HWwz H; simp only [szA] at H)))
    exact ret_f2 H Try.results31 0 rfl rfl _ rfl Try.underlying26 rfl (by kernel_rfl) rfl (admR_err HR.out (by decide) H.out.1)
   | false =>
    rw [ho] at HEQ
    cases hm : momentF now with
    | false =>
     have HR := kp (show admitF a l t now = ([], [], 2) by unfold admitF; rw [hv, hg, ho, hm]; rfl)
     unfold momentF at hm
     rw [hm] at HMO
     clear hv hl hn HTW ht hok hso hn64 hg ho hm
     go_enter Try.func31, Try.ntmps31
     go_wp2_with (first | ((with_reducible refine isBx 3 26 ?_); (refine L_box H rfl 26 _ rfl (cat (partsA a ha ad n c)) rfl ?_); clear H; intro g3 w3 HGg3 HEg3 H; simp only [pA]) | ((with_reducible refine isBx 4 23 ?_); (refine L_box H rfl 23 _ rfl (cat ([Lf.v ⟨t, HST.out⟩])) rfl ?_); clear H; intro g4 w4 HGg4 HEg4 H; simp only [pA]) | ((with_reducible refine isAl 6 26 ?_); (refine L_alloc H rfl 26 rfl (cat (partsA as0 rfl none 0 0)) (fun _ _ => by kernel_rfl) ?_); clear H; intro g6 w6 HGg6 HEg6 H; simp only [pA]) | ((with_reducible refine isLd 26 ?_); (refine L_fa H rfl 26 _ rfl 2 rfl rfl Try.underlying26 rfl (by kernel_rfl) ?_); simp only [pA]) | ((with_reducible refine isLd 23 ?_); (first | (refine L_fv H rfl 23 _ rfl 1 rfl _ rfl _ rfl rfl Try.underlying23 rfl (by kernel_rfl) ?_) | (refine L_fv H rfl 23 _ rfl 2 rfl _ rfl _ rfl rfl Try.underlying23 rfl (by kernel_rfl) ?_)); simp only [pA]) | (go_at_call 20; refine (HCH.out _ (HSL.out.ext H.out.1)).mono ?_; rintro e wa ⟨rfl, hx⟩; replace H := kp (H.out.ext hx); have HXC := kp hx; clear hx) | (go_at_call 51; refine (HGR.out _).mono ?_; rintro e wa ⟨rfl, hx⟩; replace H := kp (H.out.ext hx); have HXC := kp hx; clear hx) | (go_at_call 56; refine (HMO.out _).mono ?_; rintro e wa ⟨rfl, hx⟩; replace H := kp (H.out.ext hx); have HXC := kp hx; clear hx) | ((with_reducible show wpList _ _ _ (Oper.mk _ (Op.binOp .eql 23 _ _ _) _ _ _ _ :: _) _ _); (refine wpList_bin (by kernel_rfl) .eql 23 23 _ _ rfl (.agg (t.map V8).toArray) (.agg (a.own.map V8).toArray) _ rfl rfl (run_eqGuard_agg _ _ _ _ _ _ _ HGT.out) (HEQ.out _) ?_); simp only [pA]) | ((with_reducible show wpList _ _ _ (Oper.mk (some 28) (Op.build 26 _) _ _ _ _ :: _) _ _); (refine L_bd (by kernel_rfl) 26 _ rfl (#[]) (by kernel_rfl) (cat (partsA as0 rfl none 0 0)) (fun _ => by kernel_rfl) ?_); simp only [pA]) | ((with_reducible refine isSt 26 ?_); (refine L_sa H rfl rfl 26 _ _ rfl 0 rfl rfl (partsA as0 rfl none 0 0) rfl rfl (by kernel_rfl) ?_; clear H; intro wz HWwz H; simp only [szA] at H)))
     exact ret_f2 H Try.results31 0 rfl rfl _ rfl Try.underlying26 rfl (by kernel_rfl) rfl (admR_err HR.out (by decide) H.out.1)
    | true =>
     have hr : admitF a l t now = if authO l t then (putF l (freshE t now), [], 0) else ([], [], 22) := by
      unfold admitF authO; rw [hv, hg, ho, hm]
      cases ((lookF l t).isNone && l.length == 64) <;> rfl
     unfold momentF at hm
     rw [hm] at HMO
     have HAU := kp (fun g w1 rest h1 h2 => authenticate_any a ha l hl hn64 hso t ht now w.heap.size g w w1 rest (Nat.le_refl _) h1 h2)
     have HPL := kp (hl.put (s := freshE t now) ht)
     cases hO : authO l t with
     | false =>
      rw [hO, if_neg (by simp)] at hr
      have HR := kp hr
      unfold AuthR at HAU
      rw [hO] at HAU
      clear hv hl hn ht hok hso hn64 hg ho hm hO hr
      go_enter Try.func31, Try.ntmps31
      generalize h7 : (Code.region 7 _ _ : Code) = R7
      go_wp2_with (first | ((with_reducible refine isBx 3 26 ?_); (refine L_box H rfl 26 _ rfl (cat (partsA a ha ad n c)) rfl ?_); clear H; intro g3 w3 HGg3 HEg3 H; simp only [pA]) | ((with_reducible refine isBx 4 23 ?_); (refine L_box H rfl 23 _ rfl (cat ([Lf.v ⟨t, HST.out⟩])) rfl ?_); clear H; intro g4 w4 HGg4 HEg4 H; simp only [pA]) | ((with_reducible refine isAl 6 26 ?_); (refine L_alloc H rfl 26 rfl (cat (partsA as0 rfl none 0 0)) (fun _ _ => by kernel_rfl) ?_); clear H; intro g6 w6 HGg6 HEg6 H; simp only [pA]) | ((with_reducible refine isLd 26 ?_); (refine L_fa H rfl 26 _ rfl 2 rfl rfl Try.underlying26 rfl (by kernel_rfl) ?_); simp only [pA]) | ((with_reducible refine isLd 23 ?_); (first | (refine L_fv H rfl 23 _ rfl 1 rfl _ rfl _ rfl rfl Try.underlying23 rfl (by kernel_rfl) ?_) | (refine L_fv H rfl 23 _ rfl 2 rfl _ rfl _ rfl rfl Try.underlying23 rfl (by kernel_rfl) ?_)); simp only [pA]) | (go_at_call 20; refine (HCH.out _ (HSL.out.ext H.out.1)).mono ?_; rintro e wa ⟨rfl, hx⟩; replace H := kp (H.out.ext hx); have HXC := kp hx; clear hx) | (go_at_call 51; refine (HGR.out _).mono ?_; rintro e wa ⟨rfl, hx⟩; replace H := kp (H.out.ext hx); have HXC := kp hx; clear hx) | (go_at_call 56; refine (HMO.out _).mono ?_; rintro e wa ⟨rfl, hx⟩; replace H := kp (H.out.ext hx); have HXC := kp hx; clear hx) | ((with_reducible show wpList _ _ _ (Oper.mk _ (Op.binOp .eql 23 _ _ _) _ _ _ _ :: _) _ _); (refine wpList_bin (by kernel_rfl) .eql 23 23 _ _ rfl (.agg (t.map V8).toArray) (.agg (a.own.map V8).toArray) _ rfl rfl (run_eqGuard_agg _ _ _ _ _ _ _ HGT.out) (HEQ.out _) ?_); simp only [pA]) | (go_at_call 69; have HLT := kp H.out.allLt; have HSZ := kp H.out.1.size; refine (HTW.out _ (HSL.out.ext H.out.1)).mono ?_; rintro e wt ⟨ad2, n2, c2, rfl, ho, hx⟩; rw [cat_A a ha]; have HO := kp ho; clear ho; replace H := kp (H.out.ext hx); have HXC := kp hx; clear hx; have HG4 := kp (H.out.at 2 rfl)) | ((with_reducible show wpList _ _ _ (Oper.mk none (Op.store 26 (.tmp 3) _) _ _ _ _ :: _) _ _); ((with_reducible refine isSt 26 ?_); refine L_sa H rfl rfl 26 _ _ rfl 2 rfl rfl (partsA a ha ad2 n2 c2) rfl rfl (by kernel_rfl) ?_; clear H; intro w4b HWw4b H; simp only [ssA, szA] at H); have HOq := kp (owns_wroteT HO.out HWw4b.out HG4.out (show 39 ≠ 26 from by decide)); clear HO HG4 HWw4b; have HO := HOq; clear HOq))
      have HST4 := kp (St.ofOwn (B := w.heap.size) (g := g3) (a := a) (ha := ha) (l := l) (rest := [(g6, 26, cat (partsA as0 rfl none 0 0)), (g4, 23, cat [Lf.v ⟨t, HST.out⟩])]) (owns_weak HO.out HSZ.out) (Nat.le_refl _) (H.out.perm perm3) (fun z hz e => by have q1 := HLT.out z (perm3.map _ |>.mem_iff.2 hz); have q2 := ownsT_block HO.out z e; omega) (List.Sublist.refl _))
      clear HO HLT
      subst h7
      go_wp2_with (first | (go_at_call 72; refine (HAU.out g3 _ _ H.out.1.size HST4.out).mono ?_; rintro e wq ⟨rfl, hs⟩; obtain ⟨ad4, n4, c4, tb, hT, h9⟩ := hs.end9; clear H hs HST4; have HT := kp hT; have H := kp h9; clear h9 hT; simp only [List.cons_append, List.nil_append] at H) | ((with_reducible refine isLd 23 ?_); (refine L_fv H rfl 23 _ rfl 1 rfl _ rfl _ rfl rfl Try.underlying23 rfl (by kernel_rfl) ?_); simp only [pA]) | ((with_reducible show wpList _ _ _ (Oper.mk (some 35) (Op.build 26 _) _ _ _ _ :: _) _ _); (refine L_bd (by kernel_rfl) 26 _ rfl (#[]) (by kernel_rfl) (cat (partsA as0 rfl none 0 0)) (fun _ => by kernel_rfl) ?_); simp only [pA]) | ((with_reducible refine isSt 26 ?_); ((with_reducible refine isSt 26 ?_); refine L_sa H rfl rfl 26 _ _ rfl 1 rfl rfl (partsA as0 rfl none 0 0) rfl rfl (by kernel_rfl) ?_; clear H; intro wz9 HWwz9 H; simp only [ssA, szA] at H)))
      exact ret_f2 H Try.results31 1 rfl rfl _ rfl Try.underlying26 rfl (by kernel_rfl) rfl (admR_err HR.out (by decide) H.out.1)
     | true =>
      rw [hO, if_pos rfl] at hr
      have HR := kp hr
      have HAL := kp (show authL l t now = putF l (freshE t now) by unfold authL; rw [hO]; rfl)
      unfold AuthR at HAU
      rw [hO, HAL.out] at HAU
      clear hv hl hn ht hok hso hn64 hg ho hm hO hr
      go_enter Try.func31, Try.ntmps31
      generalize h7 : (Code.region 7 _ _ : Code) = R7
      go_wp2_with (first | ((with_reducible refine isBx 3 26 ?_); (refine L_box H rfl 26 _ rfl (cat (partsA a ha ad n c)) rfl ?_); clear H; intro g3 w3 HGg3 HEg3 H; simp only [pA]) | ((with_reducible refine isBx 4 23 ?_); (refine L_box H rfl 23 _ rfl (cat ([Lf.v ⟨t, HST.out⟩])) rfl ?_); clear H; intro g4 w4 HGg4 HEg4 H; simp only [pA]) | ((with_reducible refine isAl 6 26 ?_); (refine L_alloc H rfl 26 rfl (cat (partsA as0 rfl none 0 0)) (fun _ _ => by kernel_rfl) ?_); clear H; intro g6 w6 HGg6 HEg6 H; simp only [pA]) | ((with_reducible refine isLd 26 ?_); (refine L_fa H rfl 26 _ rfl 2 rfl rfl Try.underlying26 rfl (by kernel_rfl) ?_); simp only [pA]) | ((with_reducible refine isLd 23 ?_); (first | (refine L_fv H rfl 23 _ rfl 1 rfl _ rfl _ rfl rfl Try.underlying23 rfl (by kernel_rfl) ?_) | (refine L_fv H rfl 23 _ rfl 2 rfl _ rfl _ rfl rfl Try.underlying23 rfl (by kernel_rfl) ?_)); simp only [pA]) | (go_at_call 20; refine (HCH.out _ (HSL.out.ext H.out.1)).mono ?_; rintro e wa ⟨rfl, hx⟩; replace H := kp (H.out.ext hx); have HXC := kp hx; clear hx) | (go_at_call 51; refine (HGR.out _).mono ?_; rintro e wa ⟨rfl, hx⟩; replace H := kp (H.out.ext hx); have HXC := kp hx; clear hx) | (go_at_call 56; refine (HMO.out _).mono ?_; rintro e wa ⟨rfl, hx⟩; replace H := kp (H.out.ext hx); have HXC := kp hx; clear hx) | ((with_reducible show wpList _ _ _ (Oper.mk _ (Op.binOp .eql 23 _ _ _) _ _ _ _ :: _) _ _); (refine wpList_bin (by kernel_rfl) .eql 23 23 _ _ rfl (.agg (t.map V8).toArray) (.agg (a.own.map V8).toArray) _ rfl rfl (run_eqGuard_agg _ _ _ _ _ _ _ HGT.out) (HEQ.out _) ?_); simp only [pA]) | (go_at_call 69; have HLT := kp H.out.allLt; have HSZ := kp H.out.1.size; refine (HTW.out _ (HSL.out.ext H.out.1)).mono ?_; rintro e wt ⟨ad2, n2, c2, rfl, ho, hx⟩; rw [cat_A a ha]; have HO := kp ho; clear ho; replace H := kp (H.out.ext hx); have HXC := kp hx; clear hx; have HG4 := kp (H.out.at 2 rfl)) | ((with_reducible show wpList _ _ _ (Oper.mk none (Op.store 26 (.tmp 3) _) _ _ _ _ :: _) _ _); ((with_reducible refine isSt 26 ?_); refine L_sa H rfl rfl 26 _ _ rfl 2 rfl rfl (partsA a ha ad2 n2 c2) rfl rfl (by kernel_rfl) ?_; clear H; intro w4b HWw4b H; simp only [ssA, szA] at H); have HOq := kp (owns_wroteT HO.out HWw4b.out HG4.out (show 39 ≠ 26 from by decide)); clear HO HG4 HWw4b; have HO := HOq; clear HOq))
      have HST4 := kp (St.ofOwn (B := w.heap.size) (g := g3) (a := a) (ha := ha) (l := l) (rest := [(g6, 26, cat (partsA as0 rfl none 0 0)), (g4, 23, cat [Lf.v ⟨t, HST.out⟩])]) (owns_weak HO.out HSZ.out) (Nat.le_refl _) (H.out.perm perm3) (fun z hz e => by have q1 := HLT.out z (perm3.map _ |>.mem_iff.2 hz); have q2 := ownsT_block HO.out z e; omega) (List.Sublist.refl _))
      clear HO HLT
      subst h7
      go_wp2_with (first | (go_at_call 72; refine (HAU.out g3 _ _ H.out.1.size HST4.out).mono ?_; rintro e wq ⟨rfl, hs⟩; obtain ⟨ad4, n4, c4, tb, hT, h9⟩ := hs.end9; clear H hs HST4; have HT := kp hT; have H := kp h9; clear h9 hT; simp only [List.cons_append, List.nil_append] at H) | ((with_reducible refine isLd 23 ?_); (refine L_fv H rfl 23 _ rfl 1 rfl _ rfl _ rfl rfl Try.underlying23 rfl (by kernel_rfl) ?_); simp only [pA]) | ((with_reducible refine isLd 26 ?_); (refine L_fa H rfl 26 _ rfl 0 rfl rfl Try.underlying26 rfl (by kernel_rfl) ?_); simp only [pA]) | ((with_reducible refine isSt 26 ?_); ((with_reducible refine isSt 26 ?_); refine L_sa H rfl rfl 26 _ _ rfl 1 rfl rfl (partsA a ha ad4 n4 c4) rfl rfl (by kernel_rfl) ?_; clear H; intro wz9 HWwz9 H; simp only [ssA, szA] at H)))
      have HOO := HT.out.own HPL.out (H.out.sub (by (try simp only [List.cons_append, List.nil_append]); repeat (first | with_reducible exact List.Sublist.refl _ | with_reducible apply List.Sublist.cons)))
      exact ret_f2 H Try.results31 1 rfl rfl _ rfl Try.underlying26 rfl (by kernel_rfl) rfl (by rw [HR.out]; exact admR_ok ha rfl HOO H.out.1)
structure Stp where
 kind : Int
 now : Int
 h : Hd
 b : By
 sta : By
structure Stp.Ok (s : Stp) : Prop where
 h : s.h.Ok
 sta : s.sta.length = 6
theorem aN_len {a : As} (ha : a.own.length = 6) (r : Rs) : (if r.2.2 = 0 then a else as0).own.length = 6 := by split; exact ha; rfl
theorem hanG {a : As} {r : Rs} {w w' : World} {e : Ending} (ha : a.own.length = 6) (h : HanR a r w e w') : ∃ (aN : As) (hN : aN.own.length = 6) (ad : Option Addr) (n c : Nat) (v : Value) (E : Int), aN = (if r.2.2 = 0 then a else as0) ∧ E = r.2.2 ∧ e = .returned (.tuple #[.agg (cat (partsA aN hN ad n c)).toArray, v, .int .i64 E]) ∧ OwE w.heap.size w' (.slice ad n c) r.1 ∧ FrS w.heap.size r.2.1 v w' ∧ Ext w w' := by
 obtain ⟨ad, n, c, v, h1, h2, h3, h4⟩ := h
 exact ⟨_, aN_len ha r, ad, n, c, v, _, rfl, rfl, by rw [h1, cat_A _ (aN_len ha r)], h2, h3, h4⟩
end Go.Proofs.Ytfecopfofkdnpaa
namespace Go.Proofs.Ytfecopfofkdnpaa
open Go.RowKit Go.WideShapes
abbrev SI := Stp × Option Addr × Nat
def cellsSI (x : SI) : List Value := .int .i64 x.1.kind :: .int .i64 x.1.now :: (cellsF x.1.h (.slice x.2.1 x.1.b.length x.2.2) ++ x.1.sta.map V8)
structure SIOk (w : World) (x : SI) : Prop where
 ok : x.1.Ok
 le : x.1.b.length ≤ x.2.2
 b : SlB w (.slice x.2.1 x.1.b.length x.2.2) x.1.b
section
variable {H : Type} {enc : TypeId × Value → H} {w : World} {base : Nat} {cs : List Value}
theorem Tr.step (h : Tr enc Try.prog w base 65 cs) : ∃ x : SI, SIOk w x ∧ cs = cellsSI x := by
 have hl := h.len Try.underlying65 49 (by kernel_rfl)
 obtain ⟨k, h0, _⟩ := (h.field Try.underlying65 0 3 0 1 rfl (by kernel_rfl)).int Try.underlying3
 obtain ⟨n, h1, _⟩ := (h.field Try.underlying65 1 3 1 1 rfl (by kernel_rfl)).int Try.underlying3
 obtain ⟨x, ad, cap, l, hx, q1, q2, q3, q4, h2⟩ := Tr.frame (h.field Try.underlying65 2 31 2 41 rfl (by kernel_rfl))
 obtain ⟨a, la, h3⟩ := Tr.addr (h.field Try.underlying65 3 23 43 6 rfl (by kernel_rfl))
 refine ⟨(⟨k, n, x, l, a⟩, ad, cap), ⟨⟨hx, la⟩, q1, q4⟩, ?_⟩
 have hend : cs.drop 49 = [] := List.drop_eq_nil_of_le (by omega)
 rw [show cs = cs.drop 0 from rfl, peel h0, peel h1, peel h2, peel h3]
 simp only [Nat.reduceAdd, hend, List.append_nil, cellsSI, List.cons_append, List.nil_append]
end
end Go.Proofs.Ytfecopfofkdnpaa
