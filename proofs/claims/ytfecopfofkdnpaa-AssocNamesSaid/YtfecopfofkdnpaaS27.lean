/- Texts of this proof, put together: Han30. -/
import Derived.Test.YtfecopfofkdnpaaS26
import Derived.Test.YtfecopfofkdnpaaS1
namespace Go.Proofs.Ytfecopfofkdnpaa
open Go.RowKit
def HanR (a : As) (r : Rs) (w : World) (e : Ending) (w' : World) : Prop :=
 ∃ ad n c v, e = .returned (.tuple #[.agg (cellsA (if r.2.2 = 0 then a else as0) (.slice ad n c)).toArray, v, .int .i64 r.2.2]) ∧ OwE w.heap.size w' (.slice ad n c) r.1 ∧ FrS w.heap.size r.2.1 v w' ∧ Ext w w'
theorem hanR_err {a : As} {r : Rs} {E : Int} (hr : r = ([], [], E)) (hE : E ≠ 0) {w w' : World} (hx : Ext w w') : HanR a r w (.returned (.tuple #[.agg (cat (partsA as0 rfl none 0 0)).toArray, .slice none 0 0, .int .i64 E])) w' := by
 subst hr
 refine ⟨none, 0, 0, _, ?_, OwE.nil _ _, FrS.nil _ _, hx⟩
 show _ = Ending.returned (.tuple #[.agg (cellsA (if E = 0 then a else as0) (.slice none 0 0)).toArray, .slice none 0 0, .int .i64 E])
 rw [if_neg hE, cat_A as0 rfl]
theorem hanR_ok {a : As} (ha : a.own.length = 6) {r : Rs} (hE : r.2.2 = 0) {w w' : World} {ad : Option Addr} {n c : Nat} {v : Value} (ho : OwE w.heap.size w' (.slice ad n c) r.1) (hf : FrS w.heap.size r.2.1 v w') (hx : Ext w w') : HanR a r w (.returned (.tuple #[.agg (cat (partsA a ha ad n c)).toArray, v, .int .i64 0])) w' := by
 refine ⟨ad, n, c, v, ?_, ho, hf, hx⟩
 rw [if_pos hE, hE, cat_A a ha]
def HC (F B : Nat) (w0 : World) (g : Nat) (a : As) (ha : a.own.length = 6) (l : List En) (h : Hd) (ok : h.Ok) (fa : Option Addr) (fn fc : Nat) (b : By) (now : Int) (rest : List Bk) (R : Rs) : Prop :=
 ∀ w, B ≤ w.heap.size → St B w0 w g a ha l rest → SlB w (.slice fa fn fc) b → Calls Try.prog F #[.pointer (some ⟨g, 0, none⟩), .agg (cat (partsFr h ok fa fn fc)).toArray, .int .i64 now] w (HndR B w0 w g a ha R rest)
theorem hc_manage (a : As) (ha : a.own.length = 6) (l : List En) (hok : OkL a l) (hl : L6 l) (h : Hd) (ok : h.Ok) (fa : Option Addr) (fn fc : Nat) (b : By) (hfn : fn ≤ 100000) (hfc : fn ≤ fc) (now : Int) (B : Nat) (w0 : World) (hB0 : w0.heap.size ≤ B) :
  (∃ F i, (F = 91 ∨ F = 92 ∨ F = 93) ∧ (hks.zipIdx.find? fun p => h.sub == p.1.1) = some ((h.sub, fnV F), i) ∧ ∀ g rest, HC F B w0 g a ha l h ok fa fn fc b now rest (manageF dA dJ dL a l h b now)) ∨ ((∀ p ∈ hks, h.sub ≠ p.1) ∧ manageF dA dJ dL a l h b now = (l, [], 0)) := by
 have hn := ok_len hok
 have hso := hok.sorted
 unfold manageF
 by_cases h11 : h.sub = 11
 ·exact .inl ⟨91, 0, .inl rfl, by rw [h11]; rfl, by rw [if_pos h11]; exact fun g rest w h1 h2 h3 => fr_cells h ok fa fn fc ▸ auth_any a ha l hl hn hso h ok fa fn fc b hfn hfc now B g w0 w rest hB0 h1 h2 h3⟩
 rw [if_neg h11]
 by_cases h0 : h.sub = 0
 ·exact .inl ⟨92, 1, .inr (.inl rfl), by rw [h0]; rfl, by rw [if_pos (.inl h0)]; exact fun g rest w h1 h2 h3 => fr_cells h ok fa fn fc ▸ join_any a ha l hok hl h ok (.inl h0) fa fn fc b hfn hfc now B g w0 w rest h2 h3⟩
 by_cases h2 : h.sub = 2
 ·exact .inl ⟨92, 2, .inr (.inl rfl), by rw [h2]; rfl, by rw [if_pos (.inr h2)]; exact fun g rest w h1 h2' h3 => fr_cells h ok fa fn fc ▸ join_any a ha l hok hl h ok (.inr h2) fa fn fc b hfn hfc now B g w0 w rest h2' h3⟩
 rw [if_neg (fun q => q.elim h0 h2)]
 by_cases h10 : h.sub = 10
 ·exact .inl ⟨93, 3, .inr (.inr rfl), by rw [h10]; rfl, by rw [if_pos (.inl h10)]; exact fun g rest w h1 h2' h3 => fr_cells h ok fa fn fc ▸ leave_any a ha l hl hn hso h ok fa fn fc b hfn hfc now B g w0 w rest h2' h3⟩
 by_cases h12 : h.sub = 12
 ·exact .inl ⟨93, 4, .inr (.inr rfl), by rw [h12]; rfl, by rw [if_pos (.inr h12)]; exact fun g rest w h1 h2' h3 => fr_cells h ok fa fn fc ▸ leave_any a ha l hl hn hso h ok fa fn fc b hfn hfc now B g w0 w rest h2' h3⟩
 rw [if_neg (fun q => q.elim h10 h12)]
 refine .inr ⟨fun p hp => ?_, rfl⟩
 simp only [hks, List.mem_cons, List.not_mem_nil, or_false] at hp
 rcases hp with rfl | rfl | rfl | rfl | rfl <;> assumption
theorem St.end' {B : Nat} {w0 w : World} {g : Nat} {a : As} {ha : a.own.length = 6} {l : List En} {X : List Bk} {ad : Option Addr} {n c : Nat} {t : List Bk} (ht : TB B ad n c t l) (H : Loc w0 w ((g, 26, cat (partsA a ha ad n c)) :: (X ++ t))) : St B w0 w g a ha l X := ⟨ad, n, c, t, ht, H.perm (List.Perm.cons _ List.perm_append_comm)⟩
theorem eq_fn (F : Nat) (w : World) : (binOp .eql 128 (.func (.func F) #[] #[]) .nilFunc).run Try.prog w = .ok (.bool false) w := by kernel_rfl
theorem eq_nf (w : World) : (binOp .eql 128 .nilFunc .nilFunc).run Try.prog w = .ok (.bool true) w := by kernel_rfl
theorem perm3 {α : Type} {x y z : α} : [x, y, z].Perm [z, x, y] := (List.perm_append_comm (l₁ := [x, y]) (l₂ := [z]))
set_option maxRecDepth 4000 in
set_option maxHeartbeats 1600000 in
theorem handle_any (a : As) (ha : a.own.length = 6) (v : Value) (l : List En) (hl : L6 l) (hn : l.length ≤ 100000) (h : Hd) (ok : h.Ok) (fa : Option Addr) (fn fc : Nat) (b : By) (hfn : fn ≤ 100000) (hfc : fn ≤ fc) (now : Int) (w : World) (hs : SlT 11 cellsE w v l) (hsb : SlB w (.slice fa fn fc) b) :
  Calls Try.prog 29 #[.agg (cellsA a v).toArray, .agg (cellsF h (.slice fa fn fc)).toArray, .int .i64 now] w (HanR a (handleF dA dJ dL a l h b now) w) := by
 have H := kp (Loc.start w)
 have HSL := kp hs
 have HSB := kp hsb
 have HCH := kp (fun w' hs => check_any a ha v l hl hn w' hs)
 have HMO := kp (fun w' => moment_any now w')
 have HCK := kp (fun w' => checkH_any h ok w')
 have HTW := kp (fun w' hs => twin_any a ha v l hl hn w' hs)
 obtain ⟨ad, n, c, rfl, -⟩ := hs
 rw [cat_A a ha] at HCH HTW
 rw [fr_cells h ok, cat_A a ha]
 rw [cat_H h ok] at HCK
 cases hv : validA a l with
 | false =>
  have HR := kp (show handleF dA dJ dL a l h b now = ([], [], 8) by unfold handleF; rw [hv]; rfl)
  have HCC := kp (chk_bad hv)
  rw [HCC.out] at HCH
  clear hv hl hn hfn hfc hsb HTW HCK HMO
  go_enter Try.func29, Try.ntmps29
  go_wp2_with (first | ((with_reducible refine isBx 3 26 ?_); (refine L_box H rfl 26 _ rfl (cat (partsA a ha ad n c)) rfl ?_); clear H; intro g3 w3 HGg3 HEg3 H; simp only [pA]) | ((with_reducible refine isBx 4 31 ?_); (refine L_box H rfl 31 _ rfl (cat (partsFr h ok fa fn fc)) rfl ?_); clear H; intro g4 w4 HGg4 HEg4 H; simp only [pA]) | ((with_reducible refine isAl 6 26 ?_); (refine L_alloc H rfl 26 rfl (cat (partsA as0 rfl none 0 0)) (fun _ _ => by kernel_rfl) ?_); clear H; intro g6 w6 HGg6 HEg6 H; simp only [pA]) | ((with_reducible refine isLd 26 ?_); (refine L_fa H rfl 26 _ rfl 2 rfl rfl Try.underlying26 rfl (by kernel_rfl) ?_); simp only [pA]) | (go_at_call 20; refine (HCH.out _ (HSL.out.ext H.out.1)).mono ?_; rintro e wa ⟨rfl, hx⟩; replace H := kp (H.out.ext hx); have HXC := kp hx; clear hx) | ((with_reducible show wpList _ _ _ (Oper.mk (some 17) (Op.build 26 _) _ _ _ _ :: _) _ _); (refine L_bd (by kernel_rfl) 26 _ rfl (#[]) (by kernel_rfl) (cat (partsA as0 rfl none 0 0)) (fun _ => by kernel_rfl) ?_); simp only [pA]) | ((with_reducible refine isSt 26 ?_); (refine L_sa H rfl rfl 26 _ _ rfl 0 rfl rfl (partsA as0 rfl none 0 0) rfl rfl (by kernel_rfl) ?_; clear H; intro wz HWwz H; simp only [szA] at H)))
  exact ret_f3 H Try.results29 0 rfl rfl _ _ rfl rfl Try.underlying26 rfl (by kernel_rfl) rfl (hanR_err HR.out (by decide) H.out.1)
 | true =>
  have HCC := kp (chk_good hv)
  rw [HCC.out] at HCH
  cases hm : momentF now with
  | false =>
   have HR := kp (show handleF dA dJ dL a l h b now = ([], [], 2) by unfold handleF; rw [hv, hm]; rfl)
   unfold momentF at hm
   rw [hm] at HMO
   clear hv hl hn hfn hfc hsb HTW HCK hm
   go_enter Try.func29, Try.ntmps29
   go_wp2_with (first | ((with_reducible refine isBx 3 26 ?_); (refine L_box H rfl 26 _ rfl (cat (partsA a ha ad n c)) rfl ?_); clear H; intro g3 w3 HGg3 HEg3 H; simp only [pA]) | ((with_reducible refine isBx 4 31 ?_); (refine L_box H rfl 31 _ rfl (cat (partsFr h ok fa fn fc)) rfl ?_); clear H; intro g4 w4 HGg4 HEg4 H; simp only [pA]) | ((with_reducible refine isAl 6 26 ?_); (refine L_alloc H rfl 26 rfl (cat (partsA as0 rfl none 0 0)) (fun _ _ => by kernel_rfl) ?_); clear H; intro g6 w6 HGg6 HEg6 H; simp only [pA]) | ((with_reducible refine isLd 26 ?_); (refine L_fa H rfl 26 _ rfl 2 rfl rfl Try.underlying26 rfl (by kernel_rfl) ?_); simp only [pA]) | (go_at_call 20; refine (HCH.out _ (HSL.out.ext H.out.1)).mono ?_; rintro e wa ⟨rfl, hx⟩; replace H := kp (H.out.ext hx); have HXC := kp hx; clear hx) | (go_at_call 56; refine (HMO.out _).mono ?_; rintro e wa ⟨rfl, hx⟩; replace H := kp (H.out.ext hx); have HXC := kp hx; clear hx) | ((with_reducible show wpList _ _ _ (Oper.mk (some 28) (Op.build 26 _) _ _ _ _ :: _) _ _); (refine L_bd (by kernel_rfl) 26 _ rfl (#[]) (by kernel_rfl) (cat (partsA as0 rfl none 0 0)) (fun _ => by kernel_rfl) ?_); simp only [pA]) | ((with_reducible refine isSt 26 ?_); (refine L_sa H rfl rfl 26 _ _ rfl 0 rfl rfl (partsA as0 rfl none 0 0) rfl rfl (by kernel_rfl) ?_; clear H; intro wz HWwz H; simp only [szA] at H)))
   exact ret_f3 H Try.results29 0 rfl rfl _ _ rfl rfl Try.underlying26 rfl (by kernel_rfl) rfl (hanR_err HR.out (by decide) H.out.1)
  | true =>
   have HMM := kp hm
   unfold momentF at hm
   rw [hm] at HMO
   cases hvh : validH h with
   | false =>
    have HR := kp (show handleF dA dJ dL a l h b now = ([], [], 2) by unfold handleF; rw [hv, HMM.out, hvh]; rfl)
    have HKK := kp (show checkF h = 8 by unfold checkF; rw [hvh]; rfl)
    rw [HKK.out] at HCK
    clear hv hl hn hfn hfc hsb HTW hm hvh
    go_enter Try.func29, Try.ntmps29
    go_wp2_with (first | ((with_reducible refine isBx 3 26 ?_); (refine L_box H rfl 26 _ rfl (cat (partsA a ha ad n c)) rfl ?_); clear H; intro g3 w3 HGg3 HEg3 H; simp only [pA]) | ((with_reducible refine isBx 4 31 ?_); (refine L_box H rfl 31 _ rfl (cat (partsFr h ok fa fn fc)) rfl ?_); clear H; intro g4 w4 HGg4 HEg4 H; simp only [pA]) | ((with_reducible refine isAl 6 26 ?_); (refine L_alloc H rfl 26 rfl (cat (partsA as0 rfl none 0 0)) (fun _ _ => by kernel_rfl) ?_); clear H; intro g6 w6 HGg6 HEg6 H; simp only [pA]) | ((with_reducible refine isLd 26 ?_); (refine L_fa H rfl 26 _ rfl 2 rfl rfl Try.underlying26 rfl (by kernel_rfl) ?_); simp only [pA]) | (go_at_call 20; refine (HCH.out _ (HSL.out.ext H.out.1)).mono ?_; rintro e wa ⟨rfl, hx⟩; replace H := kp (H.out.ext hx); have HXC := kp hx; clear hx) | (go_at_call 56; refine (HMO.out _).mono ?_; rintro e wa ⟨rfl, hx⟩; replace H := kp (H.out.ext hx); have HXC := kp hx; clear hx) | ((with_reducible show wpList _ _ _ (Oper.mk (some 28) (Op.build 26 _) _ _ _ _ :: _) _ _); (refine L_bd (by kernel_rfl) 26 _ rfl (#[]) (by kernel_rfl) (cat (partsA as0 rfl none 0 0)) (fun _ => by kernel_rfl) ?_); simp only [pA]) | ((with_reducible refine isSt 26 ?_); (refine L_sa H rfl rfl 26 _ _ rfl 0 rfl rfl (partsA as0 rfl none 0 0) rfl rfl (by kernel_rfl) ?_; clear H; intro wz HWwz H; simp only [szA] at H)) | ((with_reducible refine isLd 28 ?_); (refine L_fg H rfl 28 _ rfl 1 rfl _ rfl _ rfl (partsH h ok) rfl Try.underlying28 rfl (by kernel_rfl) ?_); simp only [pA]) | (go_at_call 27; refine (HCK.out _).mono ?_; rintro e wa ⟨rfl, hx⟩; replace H := kp (H.out.ext hx); have HXC := kp hx; clear hx))
    exact ret_f3 H Try.results29 0 rfl rfl _ _ rfl rfl Try.underlying26 rfl (by kernel_rfl) rfl (hanR_err HR.out (by decide) H.out.1)
   | true =>
    have HKK := kp (show checkF h = 0 by unfold checkF; rw [hvh]; rfl)
    rw [HKK.out] at HCK
    have HAD := kp (fun ad n c w => show Calls Try.prog 48 #[.agg (cat (partsA a ha ad n c)).toArray, .agg (cat (partsH h ok)).toArray] w _ by
     have q := addressed_any a (.slice ad n c) ha h ok w
     rw [cat_A a ha, cat_H h ok] at q; exact q)
    cases had : addrF a h with
    | false =>
     have HR := kp (show handleF dA dJ dL a l h b now = (l, [], 0) by unfold handleF; rw [hv, HMM.out, hvh, had]; rfl)
     rw [had] at HAD
     clear hv hl hn hfn hfc hsb hm hvh had
     go_enter Try.func29, Try.ntmps29
     generalize h8 : (Code.region 8 _ _ : Code) = R8
     go_wp2_with (first | ((with_reducible refine isBx 3 26 ?_); (refine L_box H rfl 26 _ rfl (cat (partsA a ha ad n c)) rfl ?_); clear H; intro g3 w3 HGg3 HEg3 H; simp only [pA]) | ((with_reducible refine isBx 4 31 ?_); (refine L_box H rfl 31 _ rfl (cat (partsFr h ok fa fn fc)) rfl ?_); clear H; intro g4 w4 HGg4 HEg4 H; simp only [pA]) | ((with_reducible refine isAl 6 26 ?_); (refine L_alloc H rfl 26 rfl (cat (partsA as0 rfl none 0 0)) (fun _ _ => by kernel_rfl) ?_); clear H; intro g6 w6 HGg6 HEg6 H; simp only [pA]) | ((with_reducible refine isLd 26 ?_); (refine L_fa H rfl 26 _ rfl 2 rfl rfl Try.underlying26 rfl (by kernel_rfl) ?_); simp only [pA]) | (go_at_call 20; refine (HCH.out _ (HSL.out.ext H.out.1)).mono ?_; rintro e wa ⟨rfl, hx⟩; replace H := kp (H.out.ext hx); have HXC := kp hx; clear hx) | (go_at_call 56; refine (HMO.out _).mono ?_; rintro e wa ⟨rfl, hx⟩; replace H := kp (H.out.ext hx); have HXC := kp hx; clear hx) | ((with_reducible refine isLd 28 ?_); (refine L_fg H rfl 28 _ rfl 1 rfl _ rfl _ rfl (partsH h ok) rfl Try.underlying28 rfl (by kernel_rfl) ?_); simp only [pA]) | (go_at_call 27; refine (HCK.out _).mono ?_; rintro e wa ⟨rfl, hx⟩; replace H := kp (H.out.ext hx); have HXC := kp hx; clear hx) | (go_at_call 69; have HLT := kp H.out.allLt; have HSZ := kp H.out.1.size; refine (HTW.out _ (HSL.out.ext H.out.1)).mono ?_; rintro e wt ⟨ad2, n2, c2, rfl, ho, hx⟩; rw [cat_A a ha]; have HO := kp ho; clear ho; replace H := kp (H.out.ext hx); have HXC := kp hx; clear hx; have HG3 := kp (H.out.at 2 rfl)) | ((with_reducible show wpList _ _ _ (Oper.mk none (Op.store 26 (.tmp 3) _) _ _ _ _ :: _) _ _); ((with_reducible refine isSt 26 ?_); refine L_sa H rfl rfl 26 _ _ rfl 2 rfl rfl (partsA a ha ad2 n2 c2) rfl rfl (by kernel_rfl) ?_; clear H; intro w3b HWw3b H; simp only [ssA, szA] at H); have HOq := kp (owns_wroteT HO.out HWw3b.out HG3.out (show 39 ≠ 26 from by decide)); clear HO HG3 HWw3b; have HO := HOq; clear HOq) | (go_at_call 48; refine (HAD.out _ _ _ _).mono ?_; rintro e wa ⟨rfl, hx⟩; replace H := kp (H.out.ext hx); have HXC := kp hx; clear hx))
     have HG6 := kp (H.out.at 0 rfl)
     have HO3 := kp (ownsT_ext HO.out HXC.out)
     subst h8
     go_wp2_with (first | ((with_reducible refine isLd 26 ?_); (refine L_fa H rfl 26 _ rfl 2 rfl rfl Try.underlying26 rfl (by kernel_rfl) ?_); simp only [pA]) | ((with_reducible refine isSt 26 ?_); refine L_sa H rfl rfl 26 _ _ rfl 0 rfl rfl (partsA a ha ad2 n2 c2) rfl rfl (by kernel_rfl) ?_; clear H; intro wz HWwz H; simp only [szA] at H))
     have HO4 := owns_wroteT HO3.out HWwz.out HG6.out (show 39 ≠ 26 from by decide)
     exact ret_f3 H Try.results29 0 rfl rfl _ _ rfl rfl Try.underlying26 rfl (by kernel_rfl) rfl (by rw [HR.out]; exact hanR_ok ha rfl (owns_weak HO4 HSZ.out) (FrS.nil _ _) H.out.1)
    | true =>
     have hok := (valid_iff a l).1 hv
     have hn64 := ok_len hok
     have hso := hok.sorted
     have HSO := kp (seen_ok (t := h.a2) hok HMM.out)
     have HS6 := kp (seen_l6 (t := h.a2) (now := now) hl)
     rw [had] at HAD
     have HFN := kp hfn
     have HFC := kp hfc
     have HPL := kp (fun ad n c tb (hT : TB w.heap.size ad n c tb l) W (hW : Loc w W tb) => show Calls Try.prog 41 #[.agg (cat (partsA a ha ad n c)).toArray, .agg (h.a2.map V8).toArray] W _ by
      have q := place_one a ha (.slice ad n c) l hl (by omega) (sorted_of_pair hso) h.a2 ok.l2 W (hT.slt hl hW)
      rw [cat_A a ha] at q; exact q)
     have HRE0 := kp (fun hx => handle_zero a l h b now hx)
     have hsnd := snd_of ok hvh had
     by_cases hk : h.kind = 0
     ·have hr : handleF dA dJ dL a l h b now = manageF dA dJ dL a (seenF l h.a2 now) h b now := by unfold handleF; rw [hv, HMM.out, hvh, had]; simp [hk]
      have HRL := kp (fun he => (manage_ok (b := b) (now := now) HSO.out HS6.out hsnd HMM.out he).l6)
      have hcm := hc_manage a ha (seenF l h.a2 now) HSO.out HS6.out h ok fa fn fc b hfn hfc now w.heap.size w (Nat.le_refl _)
      rw [hr] at HRE0
      have HR := kp hr
      have HRE := kp (fun hx => (Prod.ext (HRE0.out hx).1 (Prod.ext (HRE0.out hx).2 rfl) : manageF dA dJ dL a (seenF l h.a2 now) h b now = ([], [], (manageF dA dJ dL a (seenF l h.a2 now) h b now).2.2)))
      generalize hRq : manageF dA dJ dL a (seenF l h.a2 now) h b now = R at *
      rcases hcm with ⟨F, ix, hF3, hfind, HHC0⟩ | ⟨hno, hmf⟩
      ·have HHC := kp HHC0
       have HF3 := kp hF3
       clear hF3
       have HLK := kp (fun w => find_some h.sub F ix hfind w)
       clear hv hn hfn hfc hsb hm hvh had hr HRE0 hsnd hRq HHC0 hfind
       go_enter Try.func29, Try.ntmps29
       generalize h11 : (Code.region 11 _ _ : Code) = R11
       generalize h9 : ((Code.region 9 _ _ : Code).seq _) = C9
       generalize h12 : (Code.region 12 _ _ : Code) = R12
       generalize h14 : (Code.region 14 _ _ : Code) = R14
       go_wp2_with (first | ((with_reducible refine isBx 3 26 ?_); (refine L_box H rfl 26 _ rfl (cat (partsA a ha ad n c)) rfl ?_); clear H; intro g3 w3 HGg3 HEg3 H; simp only [pA]) | ((with_reducible refine isBx 4 31 ?_); (refine L_box H rfl 31 _ rfl (cat (partsFr h ok fa fn fc)) rfl ?_); clear H; intro g4 w4 HGg4 HEg4 H; simp only [pA]) | ((with_reducible refine isAl 6 26 ?_); (refine L_alloc H rfl 26 rfl (cat (partsA as0 rfl none 0 0)) (fun _ _ => by kernel_rfl) ?_); clear H; intro g6 w6 HGg6 HEg6 H; simp only [pA]) | ((with_reducible refine isLd 26 ?_); (refine L_fa H rfl 26 _ rfl 2 rfl rfl Try.underlying26 rfl (by kernel_rfl) ?_); simp only [pA]) | (go_at_call 20; refine (HCH.out _ (HSL.out.ext H.out.1)).mono ?_; rintro e wa ⟨rfl, hx⟩; replace H := kp (H.out.ext hx); have HXC := kp hx; clear hx) | (go_at_call 56; refine (HMO.out _).mono ?_; rintro e wa ⟨rfl, hx⟩; replace H := kp (H.out.ext hx); have HXC := kp hx; clear hx) | ((with_reducible refine isLd 28 ?_); (refine L_fg H rfl 28 _ rfl 1 rfl _ rfl _ rfl (partsH h ok) rfl Try.underlying28 rfl (by kernel_rfl) ?_); simp only [pA]) | (go_at_call 27; refine (HCK.out _).mono ?_; rintro e wa ⟨rfl, hx⟩; replace H := kp (H.out.ext hx); have HXC := kp hx; clear hx) | (go_at_call 69; have HLT := kp H.out.allLt; have HSZ := kp H.out.1.size; refine (HTW.out _ (HSL.out.ext H.out.1)).mono ?_; rintro e wt ⟨ad2, n2, c2, rfl, ho, hx⟩; rw [cat_A a ha]; have HO := kp ho; clear ho; replace H := kp (H.out.ext hx); have HXC := kp hx; clear hx; have HG3 := kp (H.out.at 2 rfl)) | ((with_reducible show wpList _ _ _ (Oper.mk none (Op.store 26 (.tmp 3) _) _ _ _ _ :: _) _ _); ((with_reducible refine isSt 26 ?_); refine L_sa H rfl rfl 26 _ _ rfl 2 rfl rfl (partsA a ha ad2 n2 c2) rfl rfl (by kernel_rfl) ?_; clear H; intro w3b HWw3b H; simp only [ssA, szA] at H); have HOq := kp (owns_wroteT HO.out HWw3b.out HG3.out (show 39 ≠ 26 from by decide)); clear HO HG3 HWw3b; have HO := HOq; clear HOq) | (go_at_call 48; refine (HAD.out _ _ _ _).mono ?_; rintro e wa ⟨rfl, hx⟩; replace H := kp (H.out.ext hx); have HXC := kp hx; clear hx))
       have HST := kp (St.ofOwn (B := w.heap.size) (g := g3) (a := a) (ha := ha) (l := l) (rest := [(g6, 26, cat (partsA as0 rfl none 0 0)), (g4, 31, cat (partsFr h ok fa fn fc))]) (owns_weak (ownsT_ext HO.out HXC.out) HSZ.out) (Nat.le_refl _) (H.out.perm perm3) (fun z hz e => by have q1 := HLT.out z (perm3.map _ |>.mem_iff.2 hz); have q2 := ownsT_block HO.out z e; omega) (List.Sublist.refl _))
       clear HO
       subst h9
       refine wp_cut (10 :: 11 :: 37 :: 38 :: 39 :: 40 :: 41 :: 42 :: 43 :: 44 :: 45 :: 46 :: 47 :: 48 :: 49 :: 50 :: 51 :: 52 :: 53 :: 54 :: 55 :: 56 :: 57 :: 58 :: []) (fun _ w' => St w.heap.size w w' g3 a ha (seenF l h.a2 now) [(g6, 26, cat (partsA as0 rfl none 0 0)), (g4, 31, cat (partsFr h ok fa fn fc))]) ?_ ?_
       ·clear H
        obtain ⟨ad3, n3, c3, tb, hT, H0⟩ := HST.out
        have H := kp (show Loc w _ (_ :: ([(g6, 26, cat (partsA as0 rfl none 0 0)), (g4, 31, cat (partsFr h ok fa fn fc))] ++ tb)) from H0.perm (List.Perm.cons _ List.perm_append_comm))
        simp only [List.cons_append, List.nil_append] at H
        have HT := kp hT
        have hnl := hT.len
        have HPM := kp (HPL.out _ _ _ _ hT)
        clear H0 HST
        cases hc : lookF l h.a2 with
        | none =>
         have hpb : plB l h.a2 = false := by unfold plB; rw [hc]; rfl
         rw [hpb] at HPM
         have HSN := kp (seen_none (now := now) hc)
         clear hc hpb hT hnl hok hso hl hn64
         go_wp2_with (first | ((with_reducible refine isLd 26 ?_); (refine L_fa H rfl 26 _ rfl 0 rfl rfl Try.underlying26 rfl (by kernel_rfl) ?_); simp only [pA]) | ((with_reducible refine isLd 23 ?_); (refine L_fv H rfl 23 _ rfl 2 rfl _ rfl _ rfl rfl Try.underlying23 rfl (by kernel_rfl) ?_); simp only [pA]) | (go_at_call 41; refine (HPM.out _ (H.out.sub (by (try simp only [List.cons_append, List.nil_append]); repeat (first | with_reducible exact List.Sublist.refl _ | with_reducible apply List.Sublist.cons)))).mono ?_; rintro e wa ⟨rfl, hx⟩; replace H := kp (H.out.ext hx); have HXC := kp hx; clear hx))
         have hS : St w.heap.size w wa g3 a ha (seenF l h.a2 now) [(g6, 26, cat (partsA as0 rfl none 0 0)), (g4, 31, cat (partsFr h ok fa fn fc))] := by rw [HSN.out]; exact St.end' (X := [(g6, 26, cat (partsA as0 rfl none 0 0)), (g4, 31, cat (partsFr h ok fa fn fc))]) HT.out H.out
         exact CutP.of rfl (by kernel_rfl) hS
        | some s =>
         have hpb : plB l h.a2 = true := by unfold plB; rw [hc]; rfl
         rw [hpb] at HPM
         have hF := pl_found hso hl ok.l2 hc
         have hsa := hl s (List.mem_of_getElem? hF.2.1)
         have HSN := kp (show seenF l h.a2 now = l.set (plI l h.a2) { s with seen := max s.seen now } by rw [seen_some hc]; exact hF.2.2.2.1 { s with seen := max s.seen now } hF.2.2.1)
         have HCS := kp (fun zs => (flat_cell hl hF.2.1 zs 10 (by omega)).trans (cE hsa).2.2.2.2)
         have HNW := kp (fun zs => flat_setc hl hF.2.1 zs 10 (by omega) { s with seen := max s.seen now } hsa _ (cs_seen hsa (max s.seen now)))
         have hinl := hF.1
         have HMX := kp (show (if s.seen < now then now else s.seen) = max s.seen now by split <;> omega)
         generalize plI l h.a2 = i at *
         rcases hT with ⟨rfl, _⟩ | ⟨bb, zs, rfl, rfl, hbb, -, hcap, hm2, hz⟩
         ·cases hc
         have HTB := kp (TB.set (zs := zs) (c := c3) hl i { s with seen := max s.seen now } hsa hbb hnl hcap hm2 hz)
         have HC10 := kp (HCS.out zs)
         have HNZ := kp (HNW.out zs)
         have hin : i < n3 := by rw [hnl]; exact hinl
         have hn3 : n3 ≤ 64 := by omega
         have HFT := kp (show i * 11 + 10 < (l.flatMap cellsE ++ zs).length by rw [hz]; omega)
         obtain ⟨cs, hcs⟩ : ∃ cs, cs = l.flatMap cellsE ++ zs := ⟨_, rfl⟩
         rw [← hcs] at H HPM HC10 HNZ HFT HT
         obtain ⟨ns, hns⟩ : ∃ ns, ns = (l.set i { s with seen := max s.seen now }).flatMap cellsE ++ zs := ⟨_, rfl⟩
         have HNSD := kp hns
         rw [← hns] at HNZ
         clear hc hpb hnl hok hso hn64 hF HCS HNW hinl hbb hcap hm2 hz hcs hns
         go_wp2_with (first | ((with_reducible refine isLd 26 ?_); (refine L_fa H rfl 26 _ rfl 0 rfl rfl Try.underlying26 rfl (by kernel_rfl) ?_); simp only [pA]) | ((with_reducible refine isLd 23 ?_); (refine L_fv H rfl 23 _ rfl 2 rfl _ rfl _ rfl rfl Try.underlying23 rfl (by kernel_rfl) ?_); simp only [pA]) | (go_at_call 41; refine (HPM.out _ (H.out.sub (by (try simp only [List.cons_append, List.nil_append]); repeat (first | with_reducible exact List.Sublist.refl _ | with_reducible apply List.Sublist.cons)))).mono ?_; rintro e wa ⟨rfl, hx⟩; replace H := kp (H.out.ext hx); have HXC := kp hx; clear hx))
         subst h11
         refine region_z H 11 (by kernel_rfl) (by kernel_rfl) (by kernel_rfl) (by kernel_rfl) (by decide) (Nat.le_of_ble_eq_true (by kernel_rfl)) ?_
         apply Exists.intro
         refine ⟨fun xz6 => ?_, fun wz6 HXZ H => ?_⟩
         ·simp only [List.take_succ_cons, List.take_zero]
          unfold Cx
          repeat (first | ((with_reducible show wpQuiet _ _ _ _ (Oper.mk _ (Op.load 24 _) _ _ _ _ :: _) _); go_big_quiet_want; (refine qz_1 H 24 _ rfl 0 rfl _ rfl _ rfl _ rfl Try.underlying24 rfl ?_); simp only [pA]; go_big_quiet_on) | ((with_reducible show wpQuiet _ _ _ _ (Oper.mk _ (Op.load 3 _) _ _ _ _ :: _) _); go_big_quiet_want; refine qz_c 3 _ rfl _ _ rfl (.int .i64 s.seen) (fun W hW => ((H.out.ext hW).at 3 rfl : Lc W bb _ cs).cell HC10.out) Try.underlying3 rfl ?_; simp only [pA]; go_big_quiet_on) | go_big_quiet_step (fail))
          exact wpQuiet_nil rfl
         simp only [List.drop_succ_cons, List.drop_zero]
         rw [HMX.out]
         go_wp2_with ((with_reducible refine isSt 3 ?_); go_loud (refine L_cell H rfl rfl 3 _ _ rfl 3 rfl (i * 11 + 10) rfl (.int .i64 (max s.seen now)) rfl rfl (by kernel_rfl) HFT.out ns HNZ.out ?_); clear H; intro wq2 HWq H; simp only [ssA, szA] at H)
         rw [HNSD.out] at H
         have hS : St w.heap.size w wq2 g3 a ha (seenF l h.a2 now) [(g6, 26, cat (partsA as0 rfl none 0 0)), (g4, 31, cat (partsFr h ok fa fn fc))] := by rw [HSN.out]; exact St.end' (X := [(g6, 26, cat (partsA as0 rfl none 0 0)), (g4, 31, cat (partsFr h ok fa fn fc))]) HTB.out H.out
         exact CutP.of rfl (by kernel_rfl) hS
       rintro vs w8 hst
       simp only [putMany, List.setIfInBounds_toArray, List.set_cons_zero, List.set_cons_succ]
       clear HST H
       obtain ⟨ad4, n4, c4, tb, hT, H0⟩ := St.get [] hst
       have HS4 := kp hst
       have H := kp (show Loc w w8 (_ :: ([(g6, 26, cat (partsA as0 rfl none 0 0)), (g4, 31, cat (partsFr h ok fa fn fc))] ++ tb)) from H0.perm (List.Perm.cons _ List.perm_append_comm))
       simp only [List.cons_append, List.nil_append] at H
       clear hst H0 hT
       go_wp2_with fail
       have hnf := eq_fn
       subst h12
       go_wp2_with ((with_reducible refine isLd 5 ?_); (refine L_f1 H rfl 5 _ rfl 2 rfl _ rfl _ rfl _ rfl Try.underlying5 rfl ?_); simp only [pA])
       clear hk
       subst h14
       refine region_free H (tabS [(63, fun vQ wQ => HMap vQ wQ), (64, fun vQ _ => vQ = .pointer (some ⟨g4, 0, none⟩)), (65, fun vQ _ => vQ = .pointer (some ⟨g4, 1, none⟩)), (66, fun vQ _ => vQ = .int .u8 h.sub), (67, fun vQ _ => vQ = .func (.func F) #[] #[]), (12, fun vQ _ => vQ = .func (.func F) #[] #[])]) [] (tabS_out _ _ (by simp only [List.forall_mem_cons, mono_eqO, true_and]; exact ⟨mono_HMap, by simp⟩)) 6 (by kernel_rfl) (by kernel_rfl) (by kernel_rfl) (by kernel_rfl) [] [] rfl rfl (by decide) (by decide) (by decide) trivial ?_
       simp only [List.take_succ_cons, List.take_zero]
       refine ⟨fun w_ o_ S_ => ?_, fun v63 => ?_⟩
       ·clear S_
        have H := kp (kK [0, 1, 2] H o_)
        have HOX := kp o_
        clear o_
        go_wp2_with fail
        refine (handlers_any _).mono ?_
        rintro e w2 ⟨v, rfl, hm, hx⟩
        have HM := kp hm
        have HXC := kp hx
        clear hm hx
        go_wp2_with fail
        exact ⟨rfl, _, rfl, fun d hd => by cases hd; exact HM.out, HXC.out⟩
       simp only [pA]
       refine ⟨fun w_ o_ S_ => ?_, fun v64 => ?_⟩
       ·clear S_
        clear o_
        go_wp2_with fail
        exact kso
       simp only [pA]
       refine ⟨fun w_ o_ S_ => ?_, fun v65 => ?_⟩
       ·obtain rfl : v64 = .pointer (some ⟨g4, 0, none⟩) := hsR S_ 64 rfl
        clear S_ o_
        go_wp2_with fail
        exact kso
       simp only [pA]
       refine ⟨fun w_ o_ S_ => ?_, fun v66 => ?_⟩
       ·obtain rfl : v65 = .pointer (some ⟨g4, 1, none⟩) := hsR S_ 65 rfl
        clear S_
        have H := kp (kK [0, 1, 2] H o_)
        have HOX := kp o_
        clear o_
        go_wp2_with ((with_reducible refine isLd 5 ?_); (refine L_f1 H rfl 5 _ rfl 2 rfl _ rfl _ rfl _ rfl Try.underlying5 rfl ?_); simp only [pA])
        exact kso
       simp only [pA]
       refine ⟨fun w_ o_ S_ => ?_, fun v67 => ?_⟩
       ·have h63 := kp (show HMap v63 w_ from hsR S_ 63 rfl)
        obtain rfl : v66 = .int .u8 h.sub := hsR S_ 66 rfl
        clear S_
        have H := kp (kK [0, 1, 2] H o_)
        have HOX := kp o_
        clear o_
        obtain ⟨m, rfl, hm⟩ := h63.out
        refine L_lk2 rfl _ _ _ _ rfl _ _ Try.underlying130 hm rfl (.int .u8 h.sub) rfl (fun _ _ => chk_u8 _ _ _) (some (ix, fnV F)) (fun w => HLK.out w) .nilFunc (fun _ => by kernel_rfl) (.func (.func F) #[] #[]) rfl ?_
        go_wp2_with fail
        exact kso
       simp only [pA]
       refine ⟨fun w_ o_ S_ => ?_, fun v12 => ?_⟩
       ·obtain rfl : v67 = .func (.func F) #[] #[] := hsR S_ 67 rfl
        clear S_ o_
        go_wp2_with fail
        exact kso
       simp only [pA]
       clear H
       intro w8b HOX H hfin
       have F63 := kp (show HMap v63 w8b from hfin 63 (by decide))
       obtain rfl : v64 = .pointer (some ⟨g4, 0, none⟩) := hfin 64 (by decide)
       obtain rfl : v65 = .pointer (some ⟨g4, 1, none⟩) := hfin 65 (by decide)
       obtain rfl : v66 = .int .u8 h.sub := hfin 66 (by decide)
       obtain rfl : v67 = .func (.func F) #[] #[] := hfin 67 (by decide)
       obtain rfl : v12 = .func (.func F) #[] #[] := hfin 12 (by decide)
       clear hfin
       simp only [List.drop_succ_cons, List.drop_zero]
       simp only [applyS] at H
       have HXN := kp (HOX.out.ext (Ext.refl w8) (fun g hg => by cases hg))
       have HS5 := kp (HS4.out.ext HXN.out)
       clear HS4
       have HS4 := HS5
       clear HS5
       go_wp2_with ((with_reducible refine isLd 31 ?_); (refine L_fa H rfl 31 _ rfl 2 rfl rfl Try.underlying31 rfl (by kernel_rfl) ?_); simp only [pA])
       rcases HF3.out with rfl | rfl | rfl
       ·go_wp2_with fail
        refine (HHC.out g3 [(g6, 26, cat (partsA as0 rfl none 0 0)), (g4, 31, cat (partsFr h ok fa fn fc))] _ H.out.1.size HS4.out (HSB.out.ext H.out.1)).mono ?_
        have HG68 := kp (H.out.lt 1 rfl)
        have HSZ8 := kp H.out.1.size
        rintro e w9 ⟨v, l', rfl, hst, hl', hfr⟩
        have HFR := kp hfr
        have HL2 := kp hl'
        clear H HS4
        obtain ⟨ad5, n5, c5, tb5, hT5, H0⟩ := St.get [] hst
        have HT5 := kp hT5
        have H := kp (show Loc w w9 (_ :: ([(g6, 26, cat (partsA as0 rfl none 0 0)), (g4, 31, cat (partsFr h ok fa fn fc))] ++ tb5)) from H0.perm (List.Perm.cons _ List.perm_append_comm))
        simp only [List.cons_append, List.nil_append] at H
        clear hst H0 hT5 hfr hl'
        by_cases hE : R.2.2 = 0
        ·rw [hE]
         have HE := kp hE
         obtain rfl := HL2.out hE
         clear hE
         go_wp2_with (first | ((with_reducible refine isLd 26 ?_); (refine L_fa H rfl 26 _ rfl 0 rfl rfl Try.underlying26 rfl (by kernel_rfl) ?_); simp only [pA]) | ((with_reducible refine isSt 26 ?_); ((with_reducible refine isSt 26 ?_); refine L_sa H rfl rfl 26 _ _ rfl 1 rfl rfl (partsA a ha ad5 n5 c5) rfl rfl (by kernel_rfl) ?_; clear H; intro wz9 HWwz9 H; simp only [ssA, szA] at H)))
         have HOO := HT5.out.own (HRL.out HE.out) (H.out.sub (by (try simp only [List.cons_append, List.nil_append]); repeat (first | with_reducible exact List.Sublist.refl _ | with_reducible apply List.Sublist.cons)))
         exact ret_f3 H Try.results29 1 rfl rfl _ _ rfl rfl Try.underlying26 rfl (by kernel_rfl) rfl (by rw [HR.out]; exact hanR_ok ha HE.out HOO ((HFR.out.wrote HWwz9.out HG68.out).weak HSZ8.out) H.out.1)
        ·have HE := kp hE
         generalize hq : R.2.2 = E at *
         go_wp2_with (first | ((with_reducible show wpList _ _ _ (Oper.mk (some 80) (Op.build 26 _) _ _ _ _ :: _) _ _); (refine L_bd (by kernel_rfl) 26 _ rfl (#[]) (by kernel_rfl) (cat (partsA as0 rfl none 0 0)) (fun _ => by kernel_rfl) ?_); simp only [pA]) | ((with_reducible refine isSt 26 ?_); ((with_reducible refine isSt 26 ?_); refine L_sa H rfl rfl 26 _ _ rfl 1 rfl rfl (partsA as0 rfl none 0 0) rfl rfl (by kernel_rfl) ?_; clear H; intro wz9 HWwz9 H; simp only [ssA, szA] at H)))
         have HRQ : R = ([], [], E) := HRE.out HE.out
         exact ret_f3 H Try.results29 1 rfl rfl _ _ rfl rfl Try.underlying26 rfl (by kernel_rfl) rfl (by rw [HR.out]; exact hanR_err HRQ HE.out H.out.1)
       ·go_wp2_with fail
        refine (HHC.out g3 [(g6, 26, cat (partsA as0 rfl none 0 0)), (g4, 31, cat (partsFr h ok fa fn fc))] _ H.out.1.size HS4.out (HSB.out.ext H.out.1)).mono ?_
        have HG68 := kp (H.out.lt 1 rfl)
        have HSZ8 := kp H.out.1.size
        rintro e w9 ⟨v, l', rfl, hst, hl', hfr⟩
        have HFR := kp hfr
        have HL2 := kp hl'
        clear H HS4
        obtain ⟨ad5, n5, c5, tb5, hT5, H0⟩ := St.get [] hst
        have HT5 := kp hT5
        have H := kp (show Loc w w9 (_ :: ([(g6, 26, cat (partsA as0 rfl none 0 0)), (g4, 31, cat (partsFr h ok fa fn fc))] ++ tb5)) from H0.perm (List.Perm.cons _ List.perm_append_comm))
        simp only [List.cons_append, List.nil_append] at H
        clear hst H0 hT5 hfr hl'
        by_cases hE : R.2.2 = 0
        ·rw [hE]
         have HE := kp hE
         obtain rfl := HL2.out hE
         clear hE
         go_wp2_with (first | ((with_reducible refine isLd 26 ?_); (refine L_fa H rfl 26 _ rfl 0 rfl rfl Try.underlying26 rfl (by kernel_rfl) ?_); simp only [pA]) | ((with_reducible refine isSt 26 ?_); ((with_reducible refine isSt 26 ?_); refine L_sa H rfl rfl 26 _ _ rfl 1 rfl rfl (partsA a ha ad5 n5 c5) rfl rfl (by kernel_rfl) ?_; clear H; intro wz9 HWwz9 H; simp only [ssA, szA] at H)))
         have HOO := HT5.out.own (HRL.out HE.out) (H.out.sub (by (try simp only [List.cons_append, List.nil_append]); repeat (first | with_reducible exact List.Sublist.refl _ | with_reducible apply List.Sublist.cons)))
         exact ret_f3 H Try.results29 1 rfl rfl _ _ rfl rfl Try.underlying26 rfl (by kernel_rfl) rfl (by rw [HR.out]; exact hanR_ok ha HE.out HOO ((HFR.out.wrote HWwz9.out HG68.out).weak HSZ8.out) H.out.1)
        ·have HE := kp hE
         generalize hq : R.2.2 = E at *
         go_wp2_with (first | ((with_reducible show wpList _ _ _ (Oper.mk (some 80) (Op.build 26 _) _ _ _ _ :: _) _ _); (refine L_bd (by kernel_rfl) 26 _ rfl (#[]) (by kernel_rfl) (cat (partsA as0 rfl none 0 0)) (fun _ => by kernel_rfl) ?_); simp only [pA]) | ((with_reducible refine isSt 26 ?_); ((with_reducible refine isSt 26 ?_); refine L_sa H rfl rfl 26 _ _ rfl 1 rfl rfl (partsA as0 rfl none 0 0) rfl rfl (by kernel_rfl) ?_; clear H; intro wz9 HWwz9 H; simp only [ssA, szA] at H)))
         have HRQ : R = ([], [], E) := HRE.out HE.out
         exact ret_f3 H Try.results29 1 rfl rfl _ _ rfl rfl Try.underlying26 rfl (by kernel_rfl) rfl (by rw [HR.out]; exact hanR_err HRQ HE.out H.out.1)
       ·go_wp2_with fail
        refine (HHC.out g3 [(g6, 26, cat (partsA as0 rfl none 0 0)), (g4, 31, cat (partsFr h ok fa fn fc))] _ H.out.1.size HS4.out (HSB.out.ext H.out.1)).mono ?_
        have HG68 := kp (H.out.lt 1 rfl)
        have HSZ8 := kp H.out.1.size
        rintro e w9 ⟨v, l', rfl, hst, hl', hfr⟩
        have HFR := kp hfr
        have HL2 := kp hl'
        clear H HS4
        obtain ⟨ad5, n5, c5, tb5, hT5, H0⟩ := St.get [] hst
        have HT5 := kp hT5
        have H := kp (show Loc w w9 (_ :: ([(g6, 26, cat (partsA as0 rfl none 0 0)), (g4, 31, cat (partsFr h ok fa fn fc))] ++ tb5)) from H0.perm (List.Perm.cons _ List.perm_append_comm))
        simp only [List.cons_append, List.nil_append] at H
        clear hst H0 hT5 hfr hl'
        by_cases hE : R.2.2 = 0
        ·rw [hE]
         have HE := kp hE
         obtain rfl := HL2.out hE
         clear hE
         go_wp2_with (first | ((with_reducible refine isLd 26 ?_); (refine L_fa H rfl 26 _ rfl 0 rfl rfl Try.underlying26 rfl (by kernel_rfl) ?_); simp only [pA]) | ((with_reducible refine isSt 26 ?_); ((with_reducible refine isSt 26 ?_); refine L_sa H rfl rfl 26 _ _ rfl 1 rfl rfl (partsA a ha ad5 n5 c5) rfl rfl (by kernel_rfl) ?_; clear H; intro wz9 HWwz9 H; simp only [ssA, szA] at H)))
         have HOO := HT5.out.own (HRL.out HE.out) (H.out.sub (by (try simp only [List.cons_append, List.nil_append]); repeat (first | with_reducible exact List.Sublist.refl _ | with_reducible apply List.Sublist.cons)))
         exact ret_f3 H Try.results29 1 rfl rfl _ _ rfl rfl Try.underlying26 rfl (by kernel_rfl) rfl (by rw [HR.out]; exact hanR_ok ha HE.out HOO ((HFR.out.wrote HWwz9.out HG68.out).weak HSZ8.out) H.out.1)
        ·have HE := kp hE
         generalize hq : R.2.2 = E at *
         go_wp2_with (first | ((with_reducible show wpList _ _ _ (Oper.mk (some 80) (Op.build 26 _) _ _ _ _ :: _) _ _); (refine L_bd (by kernel_rfl) 26 _ rfl (#[]) (by kernel_rfl) (cat (partsA as0 rfl none 0 0)) (fun _ => by kernel_rfl) ?_); simp only [pA]) | ((with_reducible refine isSt 26 ?_); ((with_reducible refine isSt 26 ?_); refine L_sa H rfl rfl 26 _ _ rfl 1 rfl rfl (partsA as0 rfl none 0 0) rfl rfl (by kernel_rfl) ?_; clear H; intro wz9 HWwz9 H; simp only [ssA, szA] at H)))
         have HRQ : R = ([], [], E) := HRE.out HE.out
         exact ret_f3 H Try.results29 1 rfl rfl _ _ rfl rfl Try.underlying26 rfl (by kernel_rfl) rfl (by rw [HR.out]; exact hanR_err HRQ HE.out H.out.1)
      ·have HLK := kp (fun w => find_none h.sub hks hno w)
       have HR0 := kp hmf
       clear hv hn hfn hfc hsb hm hvh had hr HRE0 hsnd hRq hno hmf
       go_enter Try.func29, Try.ntmps29
       generalize h11 : (Code.region 11 _ _ : Code) = R11
       generalize h9 : ((Code.region 9 _ _ : Code).seq _) = C9
       generalize h12 : (Code.region 12 _ _ : Code) = R12
       generalize h14 : (Code.region 14 _ _ : Code) = R14
       go_wp2_with (first | ((with_reducible refine isBx 3 26 ?_); (refine L_box H rfl 26 _ rfl (cat (partsA a ha ad n c)) rfl ?_); clear H; intro g3 w3 HGg3 HEg3 H; simp only [pA]) | ((with_reducible refine isBx 4 31 ?_); (refine L_box H rfl 31 _ rfl (cat (partsFr h ok fa fn fc)) rfl ?_); clear H; intro g4 w4 HGg4 HEg4 H; simp only [pA]) | ((with_reducible refine isAl 6 26 ?_); (refine L_alloc H rfl 26 rfl (cat (partsA as0 rfl none 0 0)) (fun _ _ => by kernel_rfl) ?_); clear H; intro g6 w6 HGg6 HEg6 H; simp only [pA]) | ((with_reducible refine isLd 26 ?_); (refine L_fa H rfl 26 _ rfl 2 rfl rfl Try.underlying26 rfl (by kernel_rfl) ?_); simp only [pA]) | (go_at_call 20; refine (HCH.out _ (HSL.out.ext H.out.1)).mono ?_; rintro e wa ⟨rfl, hx⟩; replace H := kp (H.out.ext hx); have HXC := kp hx; clear hx) | (go_at_call 56; refine (HMO.out _).mono ?_; rintro e wa ⟨rfl, hx⟩; replace H := kp (H.out.ext hx); have HXC := kp hx; clear hx) | ((with_reducible refine isLd 28 ?_); (refine L_fg H rfl 28 _ rfl 1 rfl _ rfl _ rfl (partsH h ok) rfl Try.underlying28 rfl (by kernel_rfl) ?_); simp only [pA]) | (go_at_call 27; refine (HCK.out _).mono ?_; rintro e wa ⟨rfl, hx⟩; replace H := kp (H.out.ext hx); have HXC := kp hx; clear hx) | (go_at_call 69; have HLT := kp H.out.allLt; have HSZ := kp H.out.1.size; refine (HTW.out _ (HSL.out.ext H.out.1)).mono ?_; rintro e wt ⟨ad2, n2, c2, rfl, ho, hx⟩; rw [cat_A a ha]; have HO := kp ho; clear ho; replace H := kp (H.out.ext hx); have HXC := kp hx; clear hx; have HG3 := kp (H.out.at 2 rfl)) | ((with_reducible show wpList _ _ _ (Oper.mk none (Op.store 26 (.tmp 3) _) _ _ _ _ :: _) _ _); ((with_reducible refine isSt 26 ?_); refine L_sa H rfl rfl 26 _ _ rfl 2 rfl rfl (partsA a ha ad2 n2 c2) rfl rfl (by kernel_rfl) ?_; clear H; intro w3b HWw3b H; simp only [ssA, szA] at H); have HOq := kp (owns_wroteT HO.out HWw3b.out HG3.out (show 39 ≠ 26 from by decide)); clear HO HG3 HWw3b; have HO := HOq; clear HOq) | (go_at_call 48; refine (HAD.out _ _ _ _).mono ?_; rintro e wa ⟨rfl, hx⟩; replace H := kp (H.out.ext hx); have HXC := kp hx; clear hx))
       have HST := kp (St.ofOwn (B := w.heap.size) (g := g3) (a := a) (ha := ha) (l := l) (rest := [(g6, 26, cat (partsA as0 rfl none 0 0)), (g4, 31, cat (partsFr h ok fa fn fc))]) (owns_weak (ownsT_ext HO.out HXC.out) HSZ.out) (Nat.le_refl _) (H.out.perm perm3) (fun z hz e => by have q1 := HLT.out z (perm3.map _ |>.mem_iff.2 hz); have q2 := ownsT_block HO.out z e; omega) (List.Sublist.refl _))
       clear HO
       subst h9
       refine wp_cut (10 :: 11 :: 37 :: 38 :: 39 :: 40 :: 41 :: 42 :: 43 :: 44 :: 45 :: 46 :: 47 :: 48 :: 49 :: 50 :: 51 :: 52 :: 53 :: 54 :: 55 :: 56 :: 57 :: 58 :: []) (fun _ w' => St w.heap.size w w' g3 a ha (seenF l h.a2 now) [(g6, 26, cat (partsA as0 rfl none 0 0)), (g4, 31, cat (partsFr h ok fa fn fc))]) ?_ ?_
       ·clear H
        obtain ⟨ad3, n3, c3, tb, hT, H0⟩ := HST.out
        have H := kp (show Loc w _ (_ :: ([(g6, 26, cat (partsA as0 rfl none 0 0)), (g4, 31, cat (partsFr h ok fa fn fc))] ++ tb)) from H0.perm (List.Perm.cons _ List.perm_append_comm))
        simp only [List.cons_append, List.nil_append] at H
        have HT := kp hT
        have hnl := hT.len
        have HPM := kp (HPL.out _ _ _ _ hT)
        clear H0 HST
        cases hc : lookF l h.a2 with
        | none =>
         have hpb : plB l h.a2 = false := by unfold plB; rw [hc]; rfl
         rw [hpb] at HPM
         have HSN := kp (seen_none (now := now) hc)
         clear hc hpb hT hnl hok hso hl hn64
         go_wp2_with (first | ((with_reducible refine isLd 26 ?_); (refine L_fa H rfl 26 _ rfl 0 rfl rfl Try.underlying26 rfl (by kernel_rfl) ?_); simp only [pA]) | ((with_reducible refine isLd 23 ?_); (refine L_fv H rfl 23 _ rfl 2 rfl _ rfl _ rfl rfl Try.underlying23 rfl (by kernel_rfl) ?_); simp only [pA]) | (go_at_call 41; refine (HPM.out _ (H.out.sub (by (try simp only [List.cons_append, List.nil_append]); repeat (first | with_reducible exact List.Sublist.refl _ | with_reducible apply List.Sublist.cons)))).mono ?_; rintro e wa ⟨rfl, hx⟩; replace H := kp (H.out.ext hx); have HXC := kp hx; clear hx))
         have hS : St w.heap.size w wa g3 a ha (seenF l h.a2 now) [(g6, 26, cat (partsA as0 rfl none 0 0)), (g4, 31, cat (partsFr h ok fa fn fc))] := by rw [HSN.out]; exact St.end' (X := [(g6, 26, cat (partsA as0 rfl none 0 0)), (g4, 31, cat (partsFr h ok fa fn fc))]) HT.out H.out
         exact CutP.of rfl (by kernel_rfl) hS
        | some s =>
         have hpb : plB l h.a2 = true := by unfold plB; rw [hc]; rfl
         rw [hpb] at HPM
         have hF := pl_found hso hl ok.l2 hc
         have hsa := hl s (List.mem_of_getElem? hF.2.1)
         have HSN := kp (show seenF l h.a2 now = l.set (plI l h.a2) { s with seen := max s.seen now } by rw [seen_some hc]; exact hF.2.2.2.1 { s with seen := max s.seen now } hF.2.2.1)
         have HCS := kp (fun zs => (flat_cell hl hF.2.1 zs 10 (by omega)).trans (cE hsa).2.2.2.2)
         have HNW := kp (fun zs => flat_setc hl hF.2.1 zs 10 (by omega) { s with seen := max s.seen now } hsa _ (cs_seen hsa (max s.seen now)))
         have hinl := hF.1
         have HMX := kp (show (if s.seen < now then now else s.seen) = max s.seen now by split <;> omega)
         generalize plI l h.a2 = i at *
         rcases hT with ⟨rfl, _⟩ | ⟨bb, zs, rfl, rfl, hbb, -, hcap, hm2, hz⟩
         ·cases hc
         have HTB := kp (TB.set (zs := zs) (c := c3) hl i { s with seen := max s.seen now } hsa hbb hnl hcap hm2 hz)
         have HC10 := kp (HCS.out zs)
         have HNZ := kp (HNW.out zs)
         have hin : i < n3 := by rw [hnl]; exact hinl
         have hn3 : n3 ≤ 64 := by omega
         have HFT := kp (show i * 11 + 10 < (l.flatMap cellsE ++ zs).length by rw [hz]; omega)
         obtain ⟨cs, hcs⟩ : ∃ cs, cs = l.flatMap cellsE ++ zs := ⟨_, rfl⟩
         rw [← hcs] at H HPM HC10 HNZ HFT HT
         obtain ⟨ns, hns⟩ : ∃ ns, ns = (l.set i { s with seen := max s.seen now }).flatMap cellsE ++ zs := ⟨_, rfl⟩
         have HNSD := kp hns
         rw [← hns] at HNZ
         clear hc hpb hnl hok hso hn64 hF HCS HNW hinl hbb hcap hm2 hz hcs hns
         go_wp2_with (first | ((with_reducible refine isLd 26 ?_); (refine L_fa H rfl 26 _ rfl 0 rfl rfl Try.underlying26 rfl (by kernel_rfl) ?_); simp only [pA]) | ((with_reducible refine isLd 23 ?_); (refine L_fv H rfl 23 _ rfl 2 rfl _ rfl _ rfl rfl Try.underlying23 rfl (by kernel_rfl) ?_); simp only [pA]) | (go_at_call 41; refine (HPM.out _ (H.out.sub (by (try simp only [List.cons_append, List.nil_append]); repeat (first | with_reducible exact List.Sublist.refl _ | with_reducible apply List.Sublist.cons)))).mono ?_; rintro e wa ⟨rfl, hx⟩; replace H := kp (H.out.ext hx); have HXC := kp hx; clear hx))
         subst h11
         refine region_z H 11 (by kernel_rfl) (by kernel_rfl) (by kernel_rfl) (by kernel_rfl) (by decide) (Nat.le_of_ble_eq_true (by kernel_rfl)) ?_
         apply Exists.intro
         refine ⟨fun xz8 => ?_, fun wz8 HXZ H => ?_⟩
         ·simp only [List.take_succ_cons, List.take_zero]
          unfold Cx
          repeat (first | ((with_reducible show wpQuiet _ _ _ _ (Oper.mk _ (Op.load 24 _) _ _ _ _ :: _) _); go_big_quiet_want; (refine qz_1 H 24 _ rfl 0 rfl _ rfl _ rfl _ rfl Try.underlying24 rfl ?_); simp only [pA]; go_big_quiet_on) | ((with_reducible show wpQuiet _ _ _ _ (Oper.mk _ (Op.load 3 _) _ _ _ _ :: _) _); go_big_quiet_want; refine qz_c 3 _ rfl _ _ rfl (.int .i64 s.seen) (fun W hW => ((H.out.ext hW).at 3 rfl : Lc W bb _ cs).cell HC10.out) Try.underlying3 rfl ?_; simp only [pA]; go_big_quiet_on) | go_big_quiet_step (fail))
          exact wpQuiet_nil rfl
         simp only [List.drop_succ_cons, List.drop_zero]
         rw [HMX.out]
         go_wp2_with ((with_reducible refine isSt 3 ?_); go_loud (refine L_cell H rfl rfl 3 _ _ rfl 3 rfl (i * 11 + 10) rfl (.int .i64 (max s.seen now)) rfl rfl (by kernel_rfl) HFT.out ns HNZ.out ?_); clear H; intro wq2 HWq H; simp only [ssA, szA] at H)
         rw [HNSD.out] at H
         have hS : St w.heap.size w wq2 g3 a ha (seenF l h.a2 now) [(g6, 26, cat (partsA as0 rfl none 0 0)), (g4, 31, cat (partsFr h ok fa fn fc))] := by rw [HSN.out]; exact St.end' (X := [(g6, 26, cat (partsA as0 rfl none 0 0)), (g4, 31, cat (partsFr h ok fa fn fc))]) HTB.out H.out
         exact CutP.of rfl (by kernel_rfl) hS
       rintro vs w8 hst
       simp only [putMany, List.setIfInBounds_toArray, List.set_cons_zero, List.set_cons_succ]
       clear HST H
       obtain ⟨ad4, n4, c4, tb, hT, H0⟩ := St.get [] hst
       have HS4 := kp hst
       have H := kp (show Loc w w8 (_ :: ([(g6, 26, cat (partsA as0 rfl none 0 0)), (g4, 31, cat (partsFr h ok fa fn fc))] ++ tb)) from H0.perm (List.Perm.cons _ List.perm_append_comm))
       simp only [List.cons_append, List.nil_append] at H
       clear hst H0 hT
       go_wp2_with fail
       have hnf := eq_fn
       subst h12
       have hnn := eq_nf
       go_wp2_with ((with_reducible refine isLd 5 ?_); (refine L_f1 H rfl 5 _ rfl 2 rfl _ rfl _ rfl _ rfl Try.underlying5 rfl ?_); simp only [pA])
       clear hk
       subst h14
       refine region_free H (tabS [(63, fun vQ wQ => HMap vQ wQ), (64, fun vQ _ => vQ = .pointer (some ⟨g4, 0, none⟩)), (65, fun vQ _ => vQ = .pointer (some ⟨g4, 1, none⟩)), (66, fun vQ _ => vQ = .int .u8 h.sub), (67, fun vQ _ => vQ = .nilFunc), (12, fun vQ _ => vQ = .nilFunc)]) [] (tabS_out _ _ (by simp only [List.forall_mem_cons, mono_eqO, true_and]; exact ⟨mono_HMap, by simp⟩)) 6 (by kernel_rfl) (by kernel_rfl) (by kernel_rfl) (by kernel_rfl) [] [] rfl rfl (by decide) (by decide) (by decide) trivial ?_
       simp only [List.take_succ_cons, List.take_zero]
       refine ⟨fun w_ o_ S_ => ?_, fun v63 => ?_⟩
       ·clear S_
        have H := kp (kK [0, 1, 2] H o_)
        have HOX := kp o_
        clear o_
        go_wp2_with fail
        refine (handlers_any _).mono ?_
        rintro e w2 ⟨v, rfl, hm, hx⟩
        have HM := kp hm
        have HXC := kp hx
        clear hm hx
        go_wp2_with fail
        exact ⟨rfl, _, rfl, fun d hd => by cases hd; exact HM.out, HXC.out⟩
       simp only [pA]
       refine ⟨fun w_ o_ S_ => ?_, fun v64 => ?_⟩
       ·clear S_
        clear o_
        go_wp2_with fail
        exact kso
       simp only [pA]
       refine ⟨fun w_ o_ S_ => ?_, fun v65 => ?_⟩
       ·obtain rfl : v64 = .pointer (some ⟨g4, 0, none⟩) := hsR S_ 64 rfl
        clear S_ o_
        go_wp2_with fail
        exact kso
       simp only [pA]
       refine ⟨fun w_ o_ S_ => ?_, fun v66 => ?_⟩
       ·obtain rfl : v65 = .pointer (some ⟨g4, 1, none⟩) := hsR S_ 65 rfl
        clear S_
        have H := kp (kK [0, 1, 2] H o_)
        have HOX := kp o_
        clear o_
        go_wp2_with ((with_reducible refine isLd 5 ?_); (refine L_f1 H rfl 5 _ rfl 2 rfl _ rfl _ rfl _ rfl Try.underlying5 rfl ?_); simp only [pA])
        exact kso
       simp only [pA]
       refine ⟨fun w_ o_ S_ => ?_, fun v67 => ?_⟩
       ·have h63 := kp (show HMap v63 w_ from hsR S_ 63 rfl)
        obtain rfl : v66 = .int .u8 h.sub := hsR S_ 66 rfl
        clear S_
        have H := kp (kK [0, 1, 2] H o_)
        have HOX := kp o_
        clear o_
        obtain ⟨m, rfl, hm⟩ := h63.out
        refine L_lk2 rfl _ _ _ _ rfl _ _ Try.underlying130 hm rfl (.int .u8 h.sub) rfl (fun _ _ => chk_u8 _ _ _) none (fun w => HLK.out w) .nilFunc (fun _ => by kernel_rfl) (.nilFunc) rfl ?_
        go_wp2_with fail
        exact kso
       simp only [pA]
       refine ⟨fun w_ o_ S_ => ?_, fun v12 => ?_⟩
       ·obtain rfl : v67 = .nilFunc := hsR S_ 67 rfl
        clear S_ o_
        go_wp2_with fail
        exact kso
       simp only [pA]
       clear H
       intro w8b HOX H hfin
       have F63 := kp (show HMap v63 w8b from hfin 63 (by decide))
       obtain rfl : v64 = .pointer (some ⟨g4, 0, none⟩) := hfin 64 (by decide)
       obtain rfl : v65 = .pointer (some ⟨g4, 1, none⟩) := hfin 65 (by decide)
       obtain rfl : v66 = .int .u8 h.sub := hfin 66 (by decide)
       obtain rfl : v67 = .nilFunc := hfin 67 (by decide)
       obtain rfl : v12 = .nilFunc := hfin 12 (by decide)
       clear hfin
       simp only [List.drop_succ_cons, List.drop_zero]
       simp only [applyS] at H
       have HXN := kp (HOX.out.ext (Ext.refl w8) (fun g hg => by cases hg))
       have HS5 := kp (HS4.out.ext HXN.out)
       clear HS4
       have HS4 := HS5
       clear HS5
       clear H
       obtain ⟨ad5, n5, c5, tb5, hT5, H0⟩ := St.get [] HS4.out
       have HT5 := kp hT5
       have H := kp (show Loc w w8b (_ :: ([(g6, 26, cat (partsA as0 rfl none 0 0)), (g4, 31, cat (partsFr h ok fa fn fc))] ++ tb5)) from H0.perm (List.Perm.cons _ List.perm_append_comm))
       simp only [List.cons_append, List.nil_append] at H
       clear hT5 H0
       go_wp2_with (first | ((with_reducible refine isLd 26 ?_); (refine L_fa H rfl 26 _ rfl 0 rfl rfl Try.underlying26 rfl (by kernel_rfl) ?_); simp only [pA]) | ((with_reducible refine isSt 26 ?_); ((with_reducible refine isSt 26 ?_); refine L_sa H rfl rfl 26 _ _ rfl 1 rfl rfl (partsA a ha ad5 n5 c5) rfl rfl (by kernel_rfl) ?_; clear H; intro wz9 HWwz9 H; simp only [ssA, szA] at H)))
       have HOO := HT5.out.own HS6.out (H.out.sub (by (try simp only [List.cons_append, List.nil_append]); repeat (first | with_reducible exact List.Sublist.refl _ | with_reducible apply List.Sublist.cons)))
       exact ret_f3 H Try.results29 1 rfl rfl _ _ rfl rfl Try.underlying26 rfl (by kernel_rfl) rfl (by rw [HR.out, HR0.out]; exact hanR_ok ha rfl HOO (FrS.nil _ _) H.out.1)
     ·have hr : handleF dA dJ dL a l h b now = dataF a (seenF l h.a2 now) h := by unfold handleF; rw [hv, HMM.out, hvh, had]; simp [hk]
      have HRL := kp (fun (_ : (dataF a (seenF l h.a2 now) h).2.2 = 0) => show L6 (dataF a (seenF l h.a2 now) h).1 by rw [data_list]; exact HS6.out)
      have HHC := kp (fun g rest => (fun w1 _ h2 _ => fr_cells h ok fa fn fc ▸ data_any a ha (seenF l h.a2 now) HS6.out (ok_len HSO.out) HSO.out.sorted h ok fa fn fc now w.heap.size g w w1 rest h2 : HC 70 w.heap.size w g a ha (seenF l h.a2 now) h ok fa fn fc b now rest (dataF a (seenF l h.a2 now) h)))
      rw [hr] at HRE0
      have HR := kp hr
      have HRE := kp (fun hx => (Prod.ext (HRE0.out hx).1 (Prod.ext (HRE0.out hx).2 rfl) : dataF a (seenF l h.a2 now) h = ([], [], (dataF a (seenF l h.a2 now) h).2.2)))
      generalize dataF a (seenF l h.a2 now) h = R at *
      clear hv hn hfn hfc hsb hm hvh had hr HRE0 hsnd
      go_enter Try.func29, Try.ntmps29
      generalize h11 : (Code.region 11 _ _ : Code) = R11
      generalize h9 : ((Code.region 9 _ _ : Code).seq _) = C9
      generalize h12 : (Code.region 12 _ _ : Code) = R12
      skip
      go_wp2_with (first | ((with_reducible refine isBx 3 26 ?_); (refine L_box H rfl 26 _ rfl (cat (partsA a ha ad n c)) rfl ?_); clear H; intro g3 w3 HGg3 HEg3 H; simp only [pA]) | ((with_reducible refine isBx 4 31 ?_); (refine L_box H rfl 31 _ rfl (cat (partsFr h ok fa fn fc)) rfl ?_); clear H; intro g4 w4 HGg4 HEg4 H; simp only [pA]) | ((with_reducible refine isAl 6 26 ?_); (refine L_alloc H rfl 26 rfl (cat (partsA as0 rfl none 0 0)) (fun _ _ => by kernel_rfl) ?_); clear H; intro g6 w6 HGg6 HEg6 H; simp only [pA]) | ((with_reducible refine isLd 26 ?_); (refine L_fa H rfl 26 _ rfl 2 rfl rfl Try.underlying26 rfl (by kernel_rfl) ?_); simp only [pA]) | (go_at_call 20; refine (HCH.out _ (HSL.out.ext H.out.1)).mono ?_; rintro e wa ⟨rfl, hx⟩; replace H := kp (H.out.ext hx); have HXC := kp hx; clear hx) | (go_at_call 56; refine (HMO.out _).mono ?_; rintro e wa ⟨rfl, hx⟩; replace H := kp (H.out.ext hx); have HXC := kp hx; clear hx) | ((with_reducible refine isLd 28 ?_); (refine L_fg H rfl 28 _ rfl 1 rfl _ rfl _ rfl (partsH h ok) rfl Try.underlying28 rfl (by kernel_rfl) ?_); simp only [pA]) | (go_at_call 27; refine (HCK.out _).mono ?_; rintro e wa ⟨rfl, hx⟩; replace H := kp (H.out.ext hx); have HXC := kp hx; clear hx) | (go_at_call 69; have HLT := kp H.out.allLt; have HSZ := kp H.out.1.size; refine (HTW.out _ (HSL.out.ext H.out.1)).mono ?_; rintro e wt ⟨ad2, n2, c2, rfl, ho, hx⟩; rw [cat_A a ha]; have HO := kp ho; clear ho; replace H := kp (H.out.ext hx); have HXC := kp hx; clear hx; have HG3 := kp (H.out.at 2 rfl)) | ((with_reducible show wpList _ _ _ (Oper.mk none (Op.store 26 (.tmp 3) _) _ _ _ _ :: _) _ _); ((with_reducible refine isSt 26 ?_); refine L_sa H rfl rfl 26 _ _ rfl 2 rfl rfl (partsA a ha ad2 n2 c2) rfl rfl (by kernel_rfl) ?_; clear H; intro w3b HWw3b H; simp only [ssA, szA] at H); have HOq := kp (owns_wroteT HO.out HWw3b.out HG3.out (show 39 ≠ 26 from by decide)); clear HO HG3 HWw3b; have HO := HOq; clear HOq) | (go_at_call 48; refine (HAD.out _ _ _ _).mono ?_; rintro e wa ⟨rfl, hx⟩; replace H := kp (H.out.ext hx); have HXC := kp hx; clear hx))
      have HST := kp (St.ofOwn (B := w.heap.size) (g := g3) (a := a) (ha := ha) (l := l) (rest := [(g6, 26, cat (partsA as0 rfl none 0 0)), (g4, 31, cat (partsFr h ok fa fn fc))]) (owns_weak (ownsT_ext HO.out HXC.out) HSZ.out) (Nat.le_refl _) (H.out.perm perm3) (fun z hz e => by have q1 := HLT.out z (perm3.map _ |>.mem_iff.2 hz); have q2 := ownsT_block HO.out z e; omega) (List.Sublist.refl _))
      clear HO
      subst h9
      refine wp_cut (10 :: 11 :: 37 :: 38 :: 39 :: 40 :: 41 :: 42 :: 43 :: 44 :: 45 :: 46 :: 47 :: 48 :: 49 :: 50 :: 51 :: 52 :: 53 :: 54 :: 55 :: 56 :: 57 :: 58 :: []) (fun _ w' => St w.heap.size w w' g3 a ha (seenF l h.a2 now) [(g6, 26, cat (partsA as0 rfl none 0 0)), (g4, 31, cat (partsFr h ok fa fn fc))]) ?_ ?_
      ·clear H
       obtain ⟨ad3, n3, c3, tb, hT, H0⟩ := HST.out
       have H := kp (show Loc w _ (_ :: ([(g6, 26, cat (partsA as0 rfl none 0 0)), (g4, 31, cat (partsFr h ok fa fn fc))] ++ tb)) from H0.perm (List.Perm.cons _ List.perm_append_comm))
       simp only [List.cons_append, List.nil_append] at H
       have HT := kp hT
       have hnl := hT.len
       have HPM := kp (HPL.out _ _ _ _ hT)
       clear H0 HST
       cases hc : lookF l h.a2 with
       | none =>
        have hpb : plB l h.a2 = false := by unfold plB; rw [hc]; rfl
        rw [hpb] at HPM
        have HSN := kp (seen_none (now := now) hc)
        clear hc hpb hT hnl hok hso hl hn64
        go_wp2_with (first | ((with_reducible refine isLd 26 ?_); (refine L_fa H rfl 26 _ rfl 0 rfl rfl Try.underlying26 rfl (by kernel_rfl) ?_); simp only [pA]) | ((with_reducible refine isLd 23 ?_); (refine L_fv H rfl 23 _ rfl 2 rfl _ rfl _ rfl rfl Try.underlying23 rfl (by kernel_rfl) ?_); simp only [pA]) | (go_at_call 41; refine (HPM.out _ (H.out.sub (by (try simp only [List.cons_append, List.nil_append]); repeat (first | with_reducible exact List.Sublist.refl _ | with_reducible apply List.Sublist.cons)))).mono ?_; rintro e wa ⟨rfl, hx⟩; replace H := kp (H.out.ext hx); have HXC := kp hx; clear hx))
        have hS : St w.heap.size w wa g3 a ha (seenF l h.a2 now) [(g6, 26, cat (partsA as0 rfl none 0 0)), (g4, 31, cat (partsFr h ok fa fn fc))] := by rw [HSN.out]; exact St.end' (X := [(g6, 26, cat (partsA as0 rfl none 0 0)), (g4, 31, cat (partsFr h ok fa fn fc))]) HT.out H.out
        exact CutP.of rfl (by kernel_rfl) hS
       | some s =>
        have hpb : plB l h.a2 = true := by unfold plB; rw [hc]; rfl
        rw [hpb] at HPM
        have hF := pl_found hso hl ok.l2 hc
        have hsa := hl s (List.mem_of_getElem? hF.2.1)
        have HSN := kp (show seenF l h.a2 now = l.set (plI l h.a2) { s with seen := max s.seen now } by rw [seen_some hc]; exact hF.2.2.2.1 { s with seen := max s.seen now } hF.2.2.1)
        have HCS := kp (fun zs => (flat_cell hl hF.2.1 zs 10 (by omega)).trans (cE hsa).2.2.2.2)
        have HNW := kp (fun zs => flat_setc hl hF.2.1 zs 10 (by omega) { s with seen := max s.seen now } hsa _ (cs_seen hsa (max s.seen now)))
        have hinl := hF.1
        have HMX := kp (show (if s.seen < now then now else s.seen) = max s.seen now by split <;> omega)
        generalize plI l h.a2 = i at *
        rcases hT with ⟨rfl, _⟩ | ⟨bb, zs, rfl, rfl, hbb, -, hcap, hm2, hz⟩
        ·cases hc
        have HTB := kp (TB.set (zs := zs) (c := c3) hl i { s with seen := max s.seen now } hsa hbb hnl hcap hm2 hz)
        have HC10 := kp (HCS.out zs)
        have HNZ := kp (HNW.out zs)
        have hin : i < n3 := by rw [hnl]; exact hinl
        have hn3 : n3 ≤ 64 := by omega
        have HFT := kp (show i * 11 + 10 < (l.flatMap cellsE ++ zs).length by rw [hz]; omega)
        obtain ⟨cs, hcs⟩ : ∃ cs, cs = l.flatMap cellsE ++ zs := ⟨_, rfl⟩
        rw [← hcs] at H HPM HC10 HNZ HFT HT
        obtain ⟨ns, hns⟩ : ∃ ns, ns = (l.set i { s with seen := max s.seen now }).flatMap cellsE ++ zs := ⟨_, rfl⟩
        have HNSD := kp hns
        rw [← hns] at HNZ
        clear hc hpb hnl hok hso hn64 hF HCS HNW hinl hbb hcap hm2 hz hcs hns
        go_wp2_with (first | ((with_reducible refine isLd 26 ?_); (refine L_fa H rfl 26 _ rfl 0 rfl rfl Try.underlying26 rfl (by kernel_rfl) ?_); simp only [pA]) | ((with_reducible refine isLd 23 ?_); (refine L_fv H rfl 23 _ rfl 2 rfl _ rfl _ rfl rfl Try.underlying23 rfl (by kernel_rfl) ?_); simp only [pA]) | (go_at_call 41; refine (HPM.out _ (H.out.sub (by (try simp only [List.cons_append, List.nil_append]); repeat (first | with_reducible exact List.Sublist.refl _ | with_reducible apply List.Sublist.cons)))).mono ?_; rintro e wa ⟨rfl, hx⟩; replace H := kp (H.out.ext hx); have HXC := kp hx; clear hx))
        subst h11
        refine region_z H 11 (by kernel_rfl) (by kernel_rfl) (by kernel_rfl) (by kernel_rfl) (by decide) (Nat.le_of_ble_eq_true (by kernel_rfl)) ?_
        apply Exists.intro
        refine ⟨fun xz10 => ?_, fun wz10 HXZ H => ?_⟩
        ·simp only [List.take_succ_cons, List.take_zero]
         unfold Cx
         repeat (first | ((with_reducible show wpQuiet _ _ _ _ (Oper.mk _ (Op.load 24 _) _ _ _ _ :: _) _); go_big_quiet_want; (refine qz_1 H 24 _ rfl 0 rfl _ rfl _ rfl _ rfl Try.underlying24 rfl ?_); simp only [pA]; go_big_quiet_on) | ((with_reducible show wpQuiet _ _ _ _ (Oper.mk _ (Op.load 3 _) _ _ _ _ :: _) _); go_big_quiet_want; refine qz_c 3 _ rfl _ _ rfl (.int .i64 s.seen) (fun W hW => ((H.out.ext hW).at 3 rfl : Lc W bb _ cs).cell HC10.out) Try.underlying3 rfl ?_; simp only [pA]; go_big_quiet_on) | go_big_quiet_step (fail))
         exact wpQuiet_nil rfl
        simp only [List.drop_succ_cons, List.drop_zero]
        rw [HMX.out]
        go_wp2_with ((with_reducible refine isSt 3 ?_); go_loud (refine L_cell H rfl rfl 3 _ _ rfl 3 rfl (i * 11 + 10) rfl (.int .i64 (max s.seen now)) rfl rfl (by kernel_rfl) HFT.out ns HNZ.out ?_); clear H; intro wq2 HWq H; simp only [ssA, szA] at H)
        rw [HNSD.out] at H
        have hS : St w.heap.size w wq2 g3 a ha (seenF l h.a2 now) [(g6, 26, cat (partsA as0 rfl none 0 0)), (g4, 31, cat (partsFr h ok fa fn fc))] := by rw [HSN.out]; exact St.end' (X := [(g6, 26, cat (partsA as0 rfl none 0 0)), (g4, 31, cat (partsFr h ok fa fn fc))]) HTB.out H.out
        exact CutP.of rfl (by kernel_rfl) hS
      rintro vs w8 hst
      simp only [putMany, List.setIfInBounds_toArray, List.set_cons_zero, List.set_cons_succ]
      clear HST H
      obtain ⟨ad4, n4, c4, tb, hT, H0⟩ := St.get [] hst
      have HS4 := kp hst
      have H := kp (show Loc w w8 (_ :: ([(g6, 26, cat (partsA as0 rfl none 0 0)), (g4, 31, cat (partsFr h ok fa fn fc))] ++ tb)) from H0.perm (List.Perm.cons _ List.perm_append_comm))
      simp only [List.cons_append, List.nil_append] at H
      clear hst H0 hT
      go_wp2_with fail
      have hnf := eq_fn
      subst h12
      go_wp2_with (first | ((with_reducible refine isLd 5 ?_); (refine L_f1 H rfl 5 _ rfl 2 rfl _ rfl _ rfl _ rfl Try.underlying5 rfl ?_); simp only [pA]) | ((with_reducible refine isLd 31 ?_); (refine L_fa H rfl 31 _ rfl 2 rfl rfl Try.underlying31 rfl (by kernel_rfl) ?_); simp only [pA]))
      refine (HHC.out g3 [(g6, 26, cat (partsA as0 rfl none 0 0)), (g4, 31, cat (partsFr h ok fa fn fc))] _ H.out.1.size HS4.out (HSB.out.ext H.out.1)).mono ?_
      have HG68 := kp (H.out.lt 1 rfl)
      have HSZ8 := kp H.out.1.size
      rintro e w9 ⟨v, l', rfl, hst, hl', hfr⟩
      have HFR := kp hfr
      have HL2 := kp hl'
      clear H HS4
      obtain ⟨ad5, n5, c5, tb5, hT5, H0⟩ := St.get [] hst
      have HT5 := kp hT5
      have H := kp (show Loc w w9 (_ :: ([(g6, 26, cat (partsA as0 rfl none 0 0)), (g4, 31, cat (partsFr h ok fa fn fc))] ++ tb5)) from H0.perm (List.Perm.cons _ List.perm_append_comm))
      simp only [List.cons_append, List.nil_append] at H
      clear hst H0 hT5 hfr hl'
      by_cases hE : R.2.2 = 0
      ·rw [hE]
       have HE := kp hE
       obtain rfl := HL2.out hE
       clear hE
       go_wp2_with (first | ((with_reducible refine isLd 26 ?_); (refine L_fa H rfl 26 _ rfl 0 rfl rfl Try.underlying26 rfl (by kernel_rfl) ?_); simp only [pA]) | ((with_reducible refine isSt 26 ?_); ((with_reducible refine isSt 26 ?_); refine L_sa H rfl rfl 26 _ _ rfl 1 rfl rfl (partsA a ha ad5 n5 c5) rfl rfl (by kernel_rfl) ?_; clear H; intro wz9 HWwz9 H; simp only [ssA, szA] at H)))
       have HOO := HT5.out.own (HRL.out HE.out) (H.out.sub (by (try simp only [List.cons_append, List.nil_append]); repeat (first | with_reducible exact List.Sublist.refl _ | with_reducible apply List.Sublist.cons)))
       exact ret_f3 H Try.results29 1 rfl rfl _ _ rfl rfl Try.underlying26 rfl (by kernel_rfl) rfl (by rw [HR.out]; exact hanR_ok ha HE.out HOO ((HFR.out.wrote HWwz9.out HG68.out).weak HSZ8.out) H.out.1)
      ·have HE := kp hE
       generalize hq : R.2.2 = E at *
       go_wp2_with (first | ((with_reducible show wpList _ _ _ (Oper.mk (some 80) (Op.build 26 _) _ _ _ _ :: _) _ _); (refine L_bd (by kernel_rfl) 26 _ rfl (#[]) (by kernel_rfl) (cat (partsA as0 rfl none 0 0)) (fun _ => by kernel_rfl) ?_); simp only [pA]) | ((with_reducible refine isSt 26 ?_); ((with_reducible refine isSt 26 ?_); refine L_sa H rfl rfl 26 _ _ rfl 1 rfl rfl (partsA as0 rfl none 0 0) rfl rfl (by kernel_rfl) ?_; clear H; intro wz9 HWwz9 H; simp only [ssA, szA] at H)))
       have HRQ : R = ([], [], E) := HRE.out HE.out
       exact ret_f3 H Try.results29 1 rfl rfl _ _ rfl rfl Try.underlying26 rfl (by kernel_rfl) rfl (by rw [HR.out]; exact hanR_err HRQ HE.out H.out.1)
end Go.Proofs.Ytfecopfofkdnpaa
