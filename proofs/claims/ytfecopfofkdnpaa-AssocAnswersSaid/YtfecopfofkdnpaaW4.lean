/- Texts of this proof, put together: Ans. -/
import Derived.Test.YtfecopfofkdnpaaW3
import Derived.Test.YtfecopfofkdnpaaS1
import Derived.Test.YtfecopfofkdnpaaS2
import Derived.Test.YtfecopfofkdnpaaS3
import Derived.Test.YtfecopfofkdnpaaS4
import Derived.Test.YtfecopfofkdnpaaS5
import Derived.Test.YtfecopfofkdnpaaS6
import Derived.Test.YtfecopfofkdnpaaS7
import Derived.Test.YtfecopfofkdnpaaS8
import Derived.Test.YtfecopfofkdnpaaS9
import Derived.Test.YtfecopfofkdnpaaS10
import Derived.Test.YtfecopfofkdnpaaS11
import Derived.Test.YtfecopfofkdnpaaS12
import Derived.Test.YtfecopfofkdnpaaS13
import Derived.Test.YtfecopfofkdnpaaS14
import Derived.Test.YtfecopfofkdnpaaS15
import Derived.Test.YtfecopfofkdnpaaS16
import Derived.Test.YtfecopfofkdnpaaS17
import Derived.Test.YtfecopfofkdnpaaS18
import Derived.Test.YtfecopfofkdnpaaS19
import Derived.Test.YtfecopfofkdnpaaS20
import Derived.Test.YtfecopfofkdnpaaS21
import Derived.Test.YtfecopfofkdnpaaS22
import Derived.Test.YtfecopfofkdnpaaS23
import Derived.Test.YtfecopfofkdnpaaS24
import Derived.Test.YtfecopfofkdnpaaS25
import Derived.Test.YtfecopfofkdnpaaS26
import Derived.Test.YtfecopfofkdnpaaS27
import Derived.Test.YtfecopfofkdnpaaS28
import Derived.Test.YtfecopfofkdnpaaS29
import Derived.Test.YtfecopfofkdnpaaS30
import Derived.Test.YtfecopfofkdnpaaW1
namespace Go.Proofs.Ytfecopfofkdnpaa
open Go.RowKit
def othE (t : By) (e : En) : Bool := !(e.addr == t)
def othN (l : List En) (t : By) : Nat := (l.filter (othE t)).length
theorem oth_del {l : List En} (hl : L6 l) {t : By} (ht : t.length = 6) : l.filter (othE t) = delF l t := by
 unfold delF
 refine List.filter_congr fun e he => ?_
 unfold othE neE
 by_cases h : e.addr = t
 ·simp [h]
 ·have : numF e.addr ≠ numF t := fun q => h (num_inj (by rw [hl e he, ht]) q)
  simp [h, this]
theorem oth_snoc {l : List En} {j : Nat} {x : En} (h : l[j]? = some x) (t : By) : othN (l.take (j + 1)) t = othN (l.take j) t + if othE t x then 1 else 0 := by
 unfold othN
 rw [fil_len h]
theorem ans_len {a : As} {l l' : List En} (h' : OkL a l') (hl : L6 l) (hl' : L6 l') {t : By} (ht : t.length = 6) (hd : delF l' t = delF l t) : l'.length = othN l t + if (lookF l' t).isSome then 1 else 0 := by
 unfold othN
 rw [oth_del hl ht, ← hd]
 cases hc : lookF l' t with
 | none => rw [del_none hl' ht hc]; rfl
 | some x => rw [del_len h'.sorted hc]; rfl
theorem find_oth {a : As} {l l' : List En} (h : OkL a l) (h' : OkL a l') (hl : L6 l) (hl' : L6 l') {t : By} (ht : t.length = 6) (hd : delF l' t = delF l t) {x : En} (hx : x ∈ l) (hne : x.addr ≠ t) : findE a l' x.addr = (x, true) := by
 rw [findE_look, (valid_iff a l').2 h', if_pos rfl, look_of_del h.sorted h'.sorted hl hl' ht hd hne, look_mem h.sorted hx]
theorem find_is {a : As} {l' : List En} (h' : OkL a l') (t : By) : (findE a l' t).2 = (lookF l' t).isSome := by
 rw [findE_look, (valid_iff a l').2 h', if_pos rfl]
 cases lookF l' t <;> rfl
theorem find_l6 {a : As} {l' : List En} (hl' : L6 l') (t : By) : (findE a l' t).1.addr.length = 6 := by
 rw [findE_look]
 split
 ·cases hc : lookF l' t with
  | none => rfl
  | some e => exact hl' e (look_some hc).1
 ·rfl
theorem same_nil : sameF as0 [] as0 [] = true := by decide
theorem L_neA {ops : Array Oper} {rest : List Oper} {o : Oper} {a : Act} {w : World} {Q : Exit → Act → World → Prop} (hgd : Region.wanted o (yielded ops a.tmps) = true) (x y : Operand) (ho : o.op = .binOp .neq 23 x y 23) (l m : By) (hl : l.length = 6) (hm : m.length = 6) (b : Bool) (hb : (l == m) = b)
  (hx : a.eval x = .agg (l.map V8).toArray) (hy : a.eval y = .agg (m.map V8).toArray) (h : wpList Try.prog ops Q rest (a.put o.dst (.bool (!b))) w) : wpList Try.prog ops Q (o :: rest) a w :=
 wpList_bin hgd .neq 23 23 x y ho _ _ _ hx hy (run_eqGuard_agg _ _ _ _ _ _ _ Try.eqGuardType23) (by rw [neAddr l m hl hm w, hb]) h
def AnsK1 (o : List Fm) (w w0 : World) (B : List Bk) (vs : Tmp → Value) (wr : World) : Prop := ∃ i : Nat, i ≤ o.length ∧ vs 11 = .int .i64 i ∧ Kp (Loc w wr B) ∧ Kp (Ext w0 wr)
def AnsK2 (l : List En) (t : By) (w w0 : World) (B : List Bk) (vs : Tmp → Value) (wr : World) : Prop := ∃ j : Nat, j ≤ l.length ∧ vs 16 = .int .i64 j ∧ vs 15 = .int .i64 (othN (l.take j) t : Nat) ∧ Kp (Loc w wr B) ∧ Kp (Ext w0 wr)
def AnsE1 (w w0 : World) (B : List Bk) (_ : Tmp → Value) (wr : World) : Prop := Kp (Loc w wr B) ∧ Kp (Ext w0 wr)
set_option maxRecDepth 10000 in
set_option maxHeartbeats 12800000 in
theorem assocAnswers_walk (a : As) (ha : a.own.length = 6) (v : Value) (l : List En) (hlo : ∀ x ∈ l, x.Ok) (hn : l.length ≤ 9223372036854775807) (h : Hd) (ok : h.Ok) (fa : Option Addr) (fc : Nat) (fb : By) (hfc : fb.length ≤ fc) (now : Int) (w : World) (hsl : SlT 11 cellsE w v l) (hsb : SlB w (.slice fa fb.length fc) fb) :
  Calls Try.prog 8 #[.agg (cellsA a v).toArray, .agg (cellsF h (.slice fa fb.length fc)).toArray, .int .i64 now] w fun e w' => e = .returned (.bool true) ∧ Ext w w' := by
 have HSL := kp hsl
 have HSB := kp hsb
 have HLO := kp hlo
 have OK := kp ok
 have HL6 := kp (show L6 l from fun x hx => (hlo x hx).l)
 have H := kp (Loc.start w)
 have HT0 := fun hn9 hfn w' hs hb => handle_any a ha v l HL6.out hn9 h ok fa fb.length fc fb hfn hfc now w' hs hb
 obtain ⟨ad, n, c, rfl, hnl, hcap, hat⟩ := hsl
 have HAT := kp hat; have HNL := kp hnl
 have hnn : n ≤ 9223372036854775807 := by omega
 have HGR := kp (fun w => great5_any h ok fa fb.length fc w)
 have ef : cellsF h (.slice fa fb.length fc) = cat (partsFr h ok fa fb.length fc) := cat_Fr h ok fa fb.length fc
 rw [cat_A a ha, ef] at HT0
 rw [ef] at HGR
 rw [cat_A a ha, ef]
 clear hat hlo hcap hsb ef
 by_cases h100 : n ≤ 100
 ·have hd1 : decide ((100 : Int) < (n : Int)) = false := decide_eq_false (by omega)
  by_cases hgf : 2400 < fb.length
  ·have hd2 : decide (2400 < fb.length) = true := decide_eq_true hgf
   rw [hd2] at HGR
   clear HT0 hnl hn hgf hd2 hfc
   go_enter Try.func8, Try.ntmps8
   go_wp2_with (first | ((with_reducible refine isBx 3 26 ?_); (refine L_box H rfl 26 _ rfl (cat (partsA a ha ad n c)) rfl ?_); clear H; intro g3 w3 HGg3 HEg3 H; refine unput (d := some _) ?_) | ((with_reducible refine isBx 4 31 ?_); (refine L_box H rfl 31 _ rfl (cat (partsFr h ok fa fb.length fc)) rfl ?_); clear H; intro g4 w4 HGg4 HEg4 H; refine unput (d := some _) ?_) | (go_at_call 21; refine (alive_any _).mono ?_; rintro e wv ⟨rfl, hx⟩; replace H := kp (H.out.ext hx); have HXC := kp hx; clear hx) | ((with_reducible refine isLd 24 ?_); (first | (refine L_f1 H rfl 24 _ rfl 0 rfl _ rfl _ rfl _ rfl Try.underlying24 rfl ?_) | (refine L_f1 H rfl 24 _ rfl 1 rfl _ rfl _ rfl _ rfl Try.underlying24 rfl ?_) | (refine L_f1 H rfl 24 _ rfl 2 rfl _ rfl _ rfl _ rfl Try.underlying24 rfl ?_) | (refine L_f1 H rfl 24 _ rfl 3 rfl _ rfl _ rfl _ rfl Try.underlying24 rfl ?_) | (refine L_f1 H rfl 24 _ rfl 4 rfl _ rfl _ rfl _ rfl Try.underlying24 rfl ?_) | (refine L_f1 H rfl 24 _ rfl 5 rfl _ rfl _ rfl _ rfl Try.underlying24 rfl ?_)); refine unput (d := some _) ?_) | ((with_reducible refine isLd 31 ?_); (first | (refine L_fa H rfl 31 _ rfl 0 rfl rfl Try.underlying31 rfl (by kernel_rfl) ?_) | (refine L_fa H rfl 31 _ rfl 1 rfl rfl Try.underlying31 rfl (by kernel_rfl) ?_) | (refine L_fa H rfl 31 _ rfl 2 rfl rfl Try.underlying31 rfl (by kernel_rfl) ?_) | (refine L_fa H rfl 31 _ rfl 3 rfl rfl Try.underlying31 rfl (by kernel_rfl) ?_) | (refine L_fa H rfl 31 _ rfl 4 rfl rfl Try.underlying31 rfl (by kernel_rfl) ?_) | (refine L_fa H rfl 31 _ rfl 5 rfl rfl Try.underlying31 rfl (by kernel_rfl) ?_)); refine unput (d := some _) ?_) | ((with_reducible refine isLd 26 ?_); (first | (refine L_fa H rfl 26 _ rfl 0 rfl rfl Try.underlying26 rfl (by kernel_rfl) ?_) | (refine L_fa H rfl 26 _ rfl 1 rfl rfl Try.underlying26 rfl (by kernel_rfl) ?_) | (refine L_fa H rfl 26 _ rfl 2 rfl rfl Try.underlying26 rfl (by kernel_rfl) ?_) | (refine L_fa H rfl 26 _ rfl 3 rfl rfl Try.underlying26 rfl (by kernel_rfl) ?_) | (refine L_fa H rfl 26 _ rfl 4 rfl rfl Try.underlying26 rfl (by kernel_rfl) ?_) | (refine L_fa H rfl 26 _ rfl 5 rfl rfl Try.underlying26 rfl (by kernel_rfl) ?_)); refine unput (d := some _) ?_) | (go_at_call 9; refine (HGR.out _).mono ?_; rintro e wg ⟨rfl, hx⟩; replace H := kp (H.out.ext hx); have HXC := kp hx; clear hx))
   go_ret
   exact ⟨rfl, H.out.1⟩
  ·have hd2 : decide (2400 < fb.length) = false := decide_eq_false hgf
   rw [hd2] at HGR
   have HT := kp (HT0 (by omega) (by omega))
   have HZR := kp (fun he => handle_zero a l h fb now he)
   have HEO := kp (fun he => handle_cases a l h fb now he)
   have HAN := kp (handle_ans a l h fb now)
   have HSO := kp (fun ho he => handle_ok (a := a) (hd := h) (b := fb) (now := now) ho HL6.out OK.out he)
   have HDL := kp (fun ho he => handle_del (a := a) (l := l) (hd := h) (b := fb) (now := now) ho he)
   generalize handleF dA dJ dL a l h fb now = r at *
   clear HT0 hnl hn hgf hd2 hfc
   by_cases he : r.2.2 = 0
   ·have hva := (valid_iff a l).1 (HEO.out he).1
    have HOK := kp hva
    have HSO1 := kp (HSO.out hva he)
    have HDL1 := kp (HDL.out hva he)
    have HRE := kp he
    obtain ⟨l', outs, r3⟩ := r
    obtain rfl : r3 = 0 := he
    have HL6' := kp (show L6 l' from HSO1.out.l6)
    have HOK' := kp (show OkL a l' from HSO1.out.ok)
    have HDD := kp (show delF l' h.a2 = delF l h.a2 from HDL1.out)
    have HAP := kp (show ∀ o ∈ outs, AnsP a h.a2 o from HAN.out.2)
    have ho1 : outs.length ≤ 1 := HAN.out.1
    have HGO := kp (ok_own hva)
    clear HRE HZR HEO HAN HSO HDL hva HSO1 HDL1
    go_enter Try.func8, Try.ntmps8
    generalize hr5 : (Code.region 5 _ _ : Code) = R5
    generalize hc9 : ((Code.region 9 _ _ : Code).seq _) = C9
    generalize hr16 : (Code.region 16 _ _ : Code) = R16
    generalize hr26 : (Code.region 26 _ _ : Code) = R26
    go_wp2_with (first | ((with_reducible refine isBx 3 26 ?_); (refine L_box H rfl 26 _ rfl (cat (partsA a ha ad n c)) rfl ?_); clear H; intro g3 w3 HGg3 HEg3 H; refine unput (d := some _) ?_) | ((with_reducible refine isBx 4 31 ?_); (refine L_box H rfl 31 _ rfl (cat (partsFr h ok fa fb.length fc)) rfl ?_); clear H; intro g4 w4 HGg4 HEg4 H; refine unput (d := some _) ?_) | (go_at_call 21; refine (alive_any _).mono ?_; rintro e wv ⟨rfl, hx⟩; replace H := kp (H.out.ext hx); have HXC := kp hx; clear hx) | ((with_reducible refine isLd 24 ?_); (first | (refine L_f1 H rfl 24 _ rfl 0 rfl _ rfl _ rfl _ rfl Try.underlying24 rfl ?_) | (refine L_f1 H rfl 24 _ rfl 1 rfl _ rfl _ rfl _ rfl Try.underlying24 rfl ?_) | (refine L_f1 H rfl 24 _ rfl 2 rfl _ rfl _ rfl _ rfl Try.underlying24 rfl ?_) | (refine L_f1 H rfl 24 _ rfl 3 rfl _ rfl _ rfl _ rfl Try.underlying24 rfl ?_) | (refine L_f1 H rfl 24 _ rfl 4 rfl _ rfl _ rfl _ rfl Try.underlying24 rfl ?_) | (refine L_f1 H rfl 24 _ rfl 5 rfl _ rfl _ rfl _ rfl Try.underlying24 rfl ?_)); refine unput (d := some _) ?_) | ((with_reducible refine isLd 31 ?_); (first | (refine L_fa H rfl 31 _ rfl 0 rfl rfl Try.underlying31 rfl (by kernel_rfl) ?_) | (refine L_fa H rfl 31 _ rfl 1 rfl rfl Try.underlying31 rfl (by kernel_rfl) ?_) | (refine L_fa H rfl 31 _ rfl 2 rfl rfl Try.underlying31 rfl (by kernel_rfl) ?_) | (refine L_fa H rfl 31 _ rfl 3 rfl rfl Try.underlying31 rfl (by kernel_rfl) ?_) | (refine L_fa H rfl 31 _ rfl 4 rfl rfl Try.underlying31 rfl (by kernel_rfl) ?_) | (refine L_fa H rfl 31 _ rfl 5 rfl rfl Try.underlying31 rfl (by kernel_rfl) ?_)); refine unput (d := some _) ?_) | ((with_reducible refine isLd 26 ?_); (first | (refine L_fa H rfl 26 _ rfl 0 rfl rfl Try.underlying26 rfl (by kernel_rfl) ?_) | (refine L_fa H rfl 26 _ rfl 1 rfl rfl Try.underlying26 rfl (by kernel_rfl) ?_) | (refine L_fa H rfl 26 _ rfl 2 rfl rfl Try.underlying26 rfl (by kernel_rfl) ?_) | (refine L_fa H rfl 26 _ rfl 3 rfl rfl Try.underlying26 rfl (by kernel_rfl) ?_) | (refine L_fa H rfl 26 _ rfl 4 rfl rfl Try.underlying26 rfl (by kernel_rfl) ?_) | (refine L_fa H rfl 26 _ rfl 5 rfl rfl Try.underlying26 rfl (by kernel_rfl) ?_)); refine unput (d := some _) ?_) | (go_at_call 9; refine (HGR.out _).mono ?_; rintro e wg ⟨rfl, hx⟩; replace H := kp (H.out.ext hx); have HXC := kp hx; clear hx) | (go_at_call 29; refine (HT.out _ (HSL.out.ext H.out.1) (HSB.out.ext H.out.1)).mono ?_; intro e wt hrr; obtain ⟨ad2, n2, c2, vo, rfl, ho, hf, hx⟩ := han1 (ha := ha) hrr; clear hrr; have HSZ := kp H.out.1.size; have HO := kp (owns_weak ho HSZ.out); have HF := kp (hf.weak HSZ.out); clear ho hf HSZ; replace H := kp (H.out.ext hx); have HXC := kp hx; clear hx) | ((with_reducible refine isAl 8 26 ?_); (refine L_alloc H rfl 26 rfl (cat (partsA as0 rfl none 0 0)) (fun _ _ => by kernel_rfl) ?_); clear H; intro g8 w8 HGg8 HEg8 H; refine unput (d := some _) ?_) | ((with_reducible show wpList _ _ _ (Oper.mk none (Op.store 26 (.tmp 8) _) _ _ _ _ :: _) _ _); ((with_reducible refine isSt 26 ?_); refine L_sa H rfl rfl 26 _ _ rfl 0 rfl rfl (partsA a ha ad2 n2 c2) rfl rfl (by kernel_rfl) ?_; clear H; intro w8b HWw8b H; simp only [szA] at H); have HE8 := kp (ext_wrote HEg8.out HWw8b.out (Nat.le_of_eq HGg8.out.symm))))
    have HOW := kp (show OwE w.heap.size w8b (.slice ad2 n2 c2) l' from ownsT_ext HO.out HE8.out)
    have HN2 := kp (owe_len HOW.out).2
    obtain ⟨va, vn, vc, rfl, hvn, hvc, hfr⟩ := frs_at (HF.out.ext HE8.out) (fun o ho => by
     obtain ⟨sub, hs, h2, h3⟩ := HAP.out o ho
     rw [h2]
     exact msg_ok ha OK.out.l2 (by rcases hs with h | h | h | h | h <;> omega) (by rcases hs with h | h | h | h | h <;> omega))
    have HVN := kp hvn; have HFR := kp hfr
    have hv1 : vn ≤ 1 := by rw [hvn]; exact ho1
    have hd5 : decide ((1 : Int) < (vn : Int)) = false := decide_eq_false (by omega)
    have HCH := kp (fun W (hW : Ext w8b W) => check_any a ha (.slice ad2 n2 c2) l' HL6'.out (Nat.le_trans (ok_len HOK'.out) (by decide)) W ((HOW.out.slt HL6'.out).ext hW))
    rw [chk_good ((valid_iff a l').2 HOK'.out), cat_A a ha] at HCH
    have HN64 := kp (ok_len HOK'.out)
    clear hfr hvn hvc HO HF ho1 HXC
    subst hr5
    go_wp2_with (first | ((with_reducible refine isLd 26 ?_); (first | (refine L_fa H rfl 26 _ rfl 0 rfl rfl Try.underlying26 rfl (by kernel_rfl) ?_) | (refine L_fa H rfl 26 _ rfl 1 rfl rfl Try.underlying26 rfl (by kernel_rfl) ?_) | (refine L_fa H rfl 26 _ rfl 2 rfl rfl Try.underlying26 rfl (by kernel_rfl) ?_) | (refine L_fa H rfl 26 _ rfl 3 rfl rfl Try.underlying26 rfl (by kernel_rfl) ?_) | (refine L_fa H rfl 26 _ rfl 4 rfl rfl Try.underlying26 rfl (by kernel_rfl) ?_) | (refine L_fa H rfl 26 _ rfl 5 rfl rfl Try.underlying26 rfl (by kernel_rfl) ?_)); refine unput (d := some _) ?_) | (go_at_call 20; refine (HCH.out _ (Ext.refl _)).mono ?_; rintro e wc ⟨rfl, hx⟩; replace H := kp (H.out.ext hx); have HXC := kp hx; clear hx))
    subst hc9
    have HXcc := kp HXC.out
    clear HXC HE8 HEg8 HWw8b HGg8
    refine wp_cutM [(false, 11), (true, 4), (false, 50), (true, 53), (false, 53)] (AnsE1 w wc [(g8, 26, cat (partsA a ha ad2 n2 c2)), (g4, 31, cat (partsFr h ok fa fb.length fc)), (g3, 26, cat (partsA a ha ad n c))]) ?_ ?_
    ·go_wp2_with fail
     refine wp_loopM [(false, 11), (true, 4), (false, 50), (true, 53), (false, 53)] (AnsK1 outs w wc [(g8, 26, cat (partsA a ha ad2 n2 c2)), (g4, 31, cat (partsFr h ok fa fb.length fc)), (g3, 26, cat (partsA a ha ad n c))]) (fun vs _ => vn - (intOf (vs 11)).toNat) (by kernel_rfl) ⟨0, Nat.zero_le _, rfl, H, kp (Ext.refl _)⟩ ?_
     clear H
     rintro vs wy ⟨i, hi, q11, H, HXT⟩
     simp only [mixF_t, mixF_f, mixF_t0, mixF_f0, mixF_e, Nat.reduceAdd]
     rw [q11]
     clear q11
     generalize hr14 : (Code.region 14 _ _ : Code) = R14
     by_cases hlt : i < vn
     ·obtain ⟨⟨oh, ob⟩, ho⟩ : ∃ o, outs[i]? = some o := ⟨outs[i]'(by rw [← HVN.out]; exact hlt), by simp⟩
      obtain ⟨bf, bd, bn, bc, rfl, hbf, hrf, hbo⟩ := HFR.out i _ ho
      obtain ⟨sub, hsb, hoh, hob⟩ := HAP.out _ (List.mem_of_getElem? ho)
      obtain rfl : oh = msgH a h.a2 sub := hoh
      have HSU := kp hsb
      have HRF := kp (fun W (hW : Ext w8b W) => show W.rangeAt bf (i * 41) (cat (partsG a ha h.a2 OK.out.l2 sub bd bn bc)) from by rw [← cat_G]; exact rangeAt_ext hrf hbf hW)
      have HRH := kp (fun W (hW : Ext w8b W) => range_M ha OK.out.l2 (rangeAt_ext hrf hbf hW))
      have HZH := kp (show (Try.prog.info? 28).map (·.size) = some (cat (partsM a ha h.a2 OK.out.l2 sub)).length by rw [cat_len]; kernel_rfl)
      have HZF := kp (show (Try.prog.info? 31).map (·.size) = some (cat (partsG a ha h.a2 OK.out.l2 sub bd bn bc)).length by rw [cat_len]; kernel_rfl)
      have HBO := kp hbo
      have HOL := kp (show ob.length ≤ 100 from Nat.le_trans hob (by decide))
      have HCK := kp (fun w => checkH_any (msgH a h.a2 sub) (msg_ok (sub := sub) ha OK.out.l2 (by rcases hsb with h | h | h | h | h <;> omega) (by rcases hsb with h | h | h | h | h <;> omega)) w)
      rw [checkF_good (valid_msg HGO.out hsb), cat_M a ha h.a2 OK.out.l2] at HCK
      have hkd : decide ((vn : Int) ≤ (i : Int)) = false := decide_eq_false (by omega)
      have hkd2 : decide (vn ≤ i) = false := decide_eq_false (by omega)
      clear hrf hbf hbo hob ho hsb
      go_wp2_with (first | ((with_reducible show wpList _ _ _ (Oper.mk (some 75) _ _ _ _ _ :: _) _ _); ((with_reducible refine isLd 28 ?_); (refine wpList_load_midG (by kernel_rfl) 28 _ rfl (bf) (i * 41) rfl (cat (partsM a ha h.a2 OK.out.l2 sub)) _ (HRH.out _ (HXcc.out.trans HXT.out)) Try.underlying28 rfl (HZH.out) ?_); refine unput (d := some _) ?_)) | ((with_reducible refine isAl 12 28 ?_); (refine L_alloc H rfl 28 rfl (cat (partsH hd0 hd0_ok)) (fun _ _ => by kernel_rfl) ?_); clear H; intro g12 w12 HGg12 HEg12 H; refine unput (d := some _) ?_) | ((with_reducible show wpList _ _ _ (Oper.mk none (Op.store 28 (.tmp 12) _) _ _ _ _ :: _) _ _); ((with_reducible refine isSt 28 ?_); refine L_sa H rfl rfl 28 _ _ rfl 0 rfl rfl (partsM a ha h.a2 OK.out.l2 sub) rfl rfl (by kernel_rfl) ?_; clear H; intro w12b HWw12b H; simp only [szA] at H); have HX12 := kp (HXT.out.trans (ext_wrote HEg12.out HWw12b.out (Nat.le_of_eq HGg12.out.symm)))) | ((with_reducible show wpList _ _ _ (Oper.mk (some 80) _ _ _ _ _ :: _) _ _); ((with_reducible refine isLd 31 ?_); (refine wpList_load_midG (by kernel_rfl) 31 _ rfl (bf) (i * 41) rfl (cat (partsG a ha h.a2 OK.out.l2 sub bd bn bc)) _ (HRF.out _ (HXcc.out.trans HX12.out)) Try.underlying31 rfl (HZF.out) ?_); refine unput (d := some _) ?_)) | (go_at_call 40; refine (encode_msg a ha HGO.out h.a2 OK.out.l2 sub HSU.out bd bn bc ob HOL.out _ (SlB.of_owns (owns_ext HBO.out (HXcc.out.trans HX12.out)))).mono ?_; rintro e we ⟨v9, rfl, hx⟩; replace H := kp (H.out.ext hx); have HXC := kp hx; clear hx; have HX13 := kp (HX12.out.trans HXC.out); clear HXC))
      subst hr14
      go_wp2_with (first | ((with_reducible refine isLd 28 ?_); refine L_fa H rfl 28 _ rfl 0 rfl rfl Try.underlying28 rfl (by kernel_rfl) ?_; refine unput (d := some _) ?_) | (go_at_call 27; refine (HCK.out _).mono ?_; rintro e wk ⟨rfl, hx⟩; replace H := kp (H.out.ext hx); have HXC := kp hx; clear hx; have HX14 := kp (HX13.out.trans HXC.out); clear HXC) | ((with_reducible refine isLd 5 ?_); (first | (refine L_f1 H rfl 5 _ rfl 0 rfl _ rfl _ rfl _ rfl Try.underlying5 rfl ?_) | (refine L_f1 H rfl 5 _ rfl 1 rfl _ rfl _ rfl _ rfl Try.underlying5 rfl ?_) | (refine L_f1 H rfl 5 _ rfl 2 rfl _ rfl _ rfl _ rfl Try.underlying5 rfl ?_) | (refine L_f1 H rfl 5 _ rfl 3 rfl _ rfl _ rfl _ rfl Try.underlying5 rfl ?_) | (refine L_f1 H rfl 5 _ rfl 4 rfl _ rfl _ rfl _ rfl Try.underlying5 rfl ?_) | (refine L_f1 H rfl 5 _ rfl 5 rfl _ rfl _ rfl _ rfl Try.underlying5 rfl ?_)); refine unput (d := some _) ?_) | ((with_reducible refine isLd 23 ?_); (first | (refine L_fv H rfl 23 _ rfl 0 rfl _ rfl _ rfl rfl Try.underlying23 rfl (by kernel_rfl) ?_) | (refine L_fv H rfl 23 _ rfl 1 rfl _ rfl _ rfl rfl Try.underlying23 rfl (by kernel_rfl) ?_) | (refine L_fv H rfl 23 _ rfl 2 rfl _ rfl _ rfl rfl Try.underlying23 rfl (by kernel_rfl) ?_) | (refine L_fv H rfl 23 _ rfl 3 rfl _ rfl _ rfl rfl Try.underlying23 rfl (by kernel_rfl) ?_) | (refine L_fv H rfl 23 _ rfl 4 rfl _ rfl _ rfl rfl Try.underlying23 rfl (by kernel_rfl) ?_) | (refine L_fv H rfl 23 _ rfl 5 rfl _ rfl _ rfl rfl Try.underlying23 rfl (by kernel_rfl) ?_)); refine unput (d := some _) ?_) | ((with_reducible show wpList _ _ _ (Oper.mk (some 102) (Op.binOp .neq 23 _ _ _) _ _ _ _ :: _) _ _); refine L_neA rfl _ _ rfl (h.a2) (h.a2) (OK.out.l2) (OK.out.l2) true (by simp) rfl rfl ?_; refine unput (d := some _) ?_) | ((with_reducible show wpList _ _ _ (Oper.mk (some 109) (Op.binOp .neq 23 _ _ _) _ _ _ _ :: _) _ _); refine L_neA rfl _ _ rfl (a.own) (a.own) (ha) (ha) true (by simp) rfl rfl ?_; refine unput (d := some _) ?_) | ((with_reducible show wpList _ _ _ (Oper.mk (some 116) (Op.binOp .neq 23 _ _ _) _ _ _ _ :: _) _ _); refine L_neA rfl _ _ rfl (a.own) (a.own) (ha) (ha) true (by simp) rfl rfl ?_; refine unput (d := some _) ?_))
      exact LoopQ.of rfl (by kernel_rfl) rfl ⟨i + 1, (by have q := HVN.out; omega), by simp, kp H.out.tail, HX14⟩ (by simp [intOf]; omega)
     ·go_wp2_with fail
      exact CutQ.of rfl (by kernel_rfl) rfl ⟨H, HXT⟩
    clear H
    rintro vs2 wl ⟨H, HXL⟩
    simp only [mixF_t, mixF_f, mixF_t0, mixF_f0, mixF_e, Nat.reduceAdd]
    go_wp2_with fail
    have HXcl := kp (HXcc.out.trans HXL.out)
    clear HXcc HXL HFR HCH
    subst hr16
    go_wp2_with fail
    refine wp_loopM [(false, 15), (true, 5), (false, 98), (true, 34), (false, 19)] (AnsK2 l h.a2 w wl [(g8, 26, cat (partsA a ha ad2 n2 c2)), (g4, 31, cat (partsFr h ok fa fb.length fc)), (g3, 26, cat (partsA a ha ad n c))]) (fun vs _ => n - (intOf (vs 16)).toNat) (by kernel_rfl) ⟨0, Nat.zero_le _, rfl, rfl, H, kp (Ext.refl _)⟩ ?_
    clear H
    rintro vs3 wr ⟨j, hj, q16, q15, H, HXT⟩
    simp only [mixF_t, mixF_f, mixF_t0, mixF_f0, mixF_e, Nat.reduceAdd]
    rw [q16, q15]
    clear q16 q15
    by_cases hlt : j < n
    ·obtain ⟨x, hx⟩ : ∃ x, l[j]? = some x := ⟨l[j]'(by rw [← HNL.out]; exact hlt), by simp⟩
     obtain ⟨b, off, rfl, hb, hr⟩ := HAT.out j x hx
     have hxm := List.mem_of_getElem? hx
     have HXA := kp (HL6.out x hxm)
     have HXO := kp (HLO.out x hxm)
     have HR3 := kp (show wr.rangeAt b (off + j * 11) (cat (partsE x HXA.out)) from cat_E x HXA.out ▸ rangeAt_ext hr hb H.out.1)
     have HZX := kp (show (Try.prog.info? 39).map (·.size) = some (cat (partsE x HXA.out)).length by rw [cat_len]; kernel_rfl)
     have HG := kp (oth_snoc hx h.a2)
     have HJ := kp (show othN (l.take j) h.a2 ≤ j from Nat.le_trans (List.length_filter_le _ _) (List.length_take_le _ _))
     have hkj := HJ.out
     generalize othN (l.take j) h.a2 = k at *
     have hkd : decide ((n : Int) ≤ (j : Int)) = false := decide_eq_false (by omega)
     have hkd2 : decide (n ≤ j) = false := decide_eq_false (by omega)
     cases heq : (x.addr == h.a2) with
     | true =>
      have HEQ := kp heq
      have HGV := kp (show othN (l.take (j + 1)) h.a2 = k from by rw [HG.out, show othE h.a2 x = false from by simp [othE, heq]]; simp)
      clear heq hb hr hx hxm HG
      go_wp2_with (first | ((with_reducible refine isLd 24 ?_); (first | (refine L_f1 H rfl 24 _ rfl 0 rfl _ rfl _ rfl _ rfl Try.underlying24 rfl ?_) | (refine L_f1 H rfl 24 _ rfl 1 rfl _ rfl _ rfl _ rfl Try.underlying24 rfl ?_) | (refine L_f1 H rfl 24 _ rfl 2 rfl _ rfl _ rfl _ rfl Try.underlying24 rfl ?_) | (refine L_f1 H rfl 24 _ rfl 3 rfl _ rfl _ rfl _ rfl Try.underlying24 rfl ?_) | (refine L_f1 H rfl 24 _ rfl 4 rfl _ rfl _ rfl _ rfl Try.underlying24 rfl ?_) | (refine L_f1 H rfl 24 _ rfl 5 rfl _ rfl _ rfl _ rfl Try.underlying24 rfl ?_)); refine unput (d := some _) ?_) | ((with_reducible show wpList _ _ _ (Oper.mk (some 129) _ _ _ _ _ :: _) _ _); ((with_reducible refine isLd 39 ?_); (refine wpList_load_midG (by kernel_rfl) 39 _ rfl (b) (off + j * 11) rfl (cat (partsE x HXA.out)) _ (HR3.out) Try.underlying39 rfl (HZX.out) ?_); refine unput (d := some _) ?_)) | ((with_reducible refine isAl 17 39 ?_); (refine L_alloc H rfl 39 rfl (cat (partsE en0 rfl)) (fun _ _ => by kernel_rfl) ?_); clear H; intro g17 w17 HGg17 HEg17 H; refine unput (d := some _) ?_) | ((with_reducible show wpList _ _ _ (Oper.mk none (Op.store 39 (.tmp 17) _) _ _ _ _ :: _) _ _); ((with_reducible refine isSt 39 ?_); refine L_sa H rfl rfl 39 _ _ rfl 0 rfl rfl (partsE x HXA.out) rfl rfl (by kernel_rfl) ?_; clear H; intro w17b HWw17b H; simp only [szA] at H); have HX17 := kp (HXT.out.trans (ext_wrote HEg17.out HWw17b.out (Nat.le_of_eq HGg17.out.symm)))) | ((with_reducible refine isLd 23 ?_); (first | (refine L_fv H rfl 23 _ rfl 0 rfl _ rfl _ rfl rfl Try.underlying23 rfl (by kernel_rfl) ?_) | (refine L_fv H rfl 23 _ rfl 1 rfl _ rfl _ rfl rfl Try.underlying23 rfl (by kernel_rfl) ?_) | (refine L_fv H rfl 23 _ rfl 2 rfl _ rfl _ rfl rfl Try.underlying23 rfl (by kernel_rfl) ?_) | (refine L_fv H rfl 23 _ rfl 3 rfl _ rfl _ rfl rfl Try.underlying23 rfl (by kernel_rfl) ?_) | (refine L_fv H rfl 23 _ rfl 4 rfl _ rfl _ rfl rfl Try.underlying23 rfl (by kernel_rfl) ?_) | (refine L_fv H rfl 23 _ rfl 5 rfl _ rfl _ rfl rfl Try.underlying23 rfl (by kernel_rfl) ?_)); refine unput (d := some _) ?_) | ((with_reducible show wpList _ _ _ (Oper.mk (some 135) (Op.binOp .eql 23 _ _ _) _ _ _ _ :: _) _ _); refine L_eqA rfl _ _ rfl (x.addr) (h.a2) (HXA.out) (OK.out.l2) _ (HEQ.out) rfl rfl ?_; refine unput (d := some _) ?_))
      exact LoopQ.of rfl (by kernel_rfl) rfl ⟨j + 1, (by have q := HNL.out; omega), by simp, congrArg (fun z : Nat => Value.int .i64 (z : Int)) HGV.out.symm, kp H.out.tail, HX17⟩ (by simp [intOf]; omega)
     | false =>
      have HEQ := kp heq
      have HGV := kp (show othN (l.take (j + 1)) h.a2 = k + 1 from by rw [HG.out, show othE h.a2 x = true from by simp [othE, heq]]; simp)
      have hne : x.addr ≠ h.a2 := by simpa using heq
      have HFD := kp (fun W (hW : Ext w8b W) => find_any a ha (.slice ad2 n2 c2) l' HL6'.out (Nat.le_trans HN64.out (by decide)) x.addr HXA.out W ((HOW.out.slt HL6'.out).ext hW))
      rw [cat_A a ha, find_oth HOK.out HOK'.out HL6.out HL6'.out OK.out.l2 HDD.out hxm hne, show cellsE (x, true).1 = cat (partsE x HXA.out) from cat_E x HXA.out] at HFD
      have HGT := kp Try.eqGuardType39
      have HEI := kp (fun w => neEnS w x HXO.out HXA.out)
      clear heq hne hb hr hx hxm HG
      go_wp2_with (first | ((with_reducible refine isLd 24 ?_); (first | (refine L_f1 H rfl 24 _ rfl 0 rfl _ rfl _ rfl _ rfl Try.underlying24 rfl ?_) | (refine L_f1 H rfl 24 _ rfl 1 rfl _ rfl _ rfl _ rfl Try.underlying24 rfl ?_) | (refine L_f1 H rfl 24 _ rfl 2 rfl _ rfl _ rfl _ rfl Try.underlying24 rfl ?_) | (refine L_f1 H rfl 24 _ rfl 3 rfl _ rfl _ rfl _ rfl Try.underlying24 rfl ?_) | (refine L_f1 H rfl 24 _ rfl 4 rfl _ rfl _ rfl _ rfl Try.underlying24 rfl ?_) | (refine L_f1 H rfl 24 _ rfl 5 rfl _ rfl _ rfl _ rfl Try.underlying24 rfl ?_)); refine unput (d := some _) ?_) | ((with_reducible show wpList _ _ _ (Oper.mk (some 129) _ _ _ _ _ :: _) _ _); ((with_reducible refine isLd 39 ?_); (refine wpList_load_midG (by kernel_rfl) 39 _ rfl (b) (off + j * 11) rfl (cat (partsE x HXA.out)) _ (HR3.out) Try.underlying39 rfl (HZX.out) ?_); refine unput (d := some _) ?_)) | ((with_reducible refine isAl 17 39 ?_); (refine L_alloc H rfl 39 rfl (cat (partsE en0 rfl)) (fun _ _ => by kernel_rfl) ?_); clear H; intro g17 w17 HGg17 HEg17 H; refine unput (d := some _) ?_) | ((with_reducible show wpList _ _ _ (Oper.mk none (Op.store 39 (.tmp 17) _) _ _ _ _ :: _) _ _); ((with_reducible refine isSt 39 ?_); refine L_sa H rfl rfl 39 _ _ rfl 0 rfl rfl (partsE x HXA.out) rfl rfl (by kernel_rfl) ?_; clear H; intro w17b HWw17b H; simp only [szA] at H); have HX17 := kp (HXT.out.trans (ext_wrote HEg17.out HWw17b.out (Nat.le_of_eq HGg17.out.symm)))) | ((with_reducible refine isLd 23 ?_); (first | (refine L_fv H rfl 23 _ rfl 0 rfl _ rfl _ rfl rfl Try.underlying23 rfl (by kernel_rfl) ?_) | (refine L_fv H rfl 23 _ rfl 1 rfl _ rfl _ rfl rfl Try.underlying23 rfl (by kernel_rfl) ?_) | (refine L_fv H rfl 23 _ rfl 2 rfl _ rfl _ rfl rfl Try.underlying23 rfl (by kernel_rfl) ?_) | (refine L_fv H rfl 23 _ rfl 3 rfl _ rfl _ rfl rfl Try.underlying23 rfl (by kernel_rfl) ?_) | (refine L_fv H rfl 23 _ rfl 4 rfl _ rfl _ rfl rfl Try.underlying23 rfl (by kernel_rfl) ?_) | (refine L_fv H rfl 23 _ rfl 5 rfl _ rfl _ rfl rfl Try.underlying23 rfl (by kernel_rfl) ?_)); refine unput (d := some _) ?_) | ((with_reducible show wpList _ _ _ (Oper.mk (some 135) (Op.binOp .eql 23 _ _ _) _ _ _ _ :: _) _ _); refine L_eqA rfl _ _ rfl (x.addr) (h.a2) (HXA.out) (OK.out.l2) _ (HEQ.out) rfl rfl ?_; refine unput (d := some _) ?_) | ((with_reducible refine isLd 26 ?_); (first | (refine L_fa H rfl 26 _ rfl 0 rfl rfl Try.underlying26 rfl (by kernel_rfl) ?_) | (refine L_fa H rfl 26 _ rfl 1 rfl rfl Try.underlying26 rfl (by kernel_rfl) ?_) | (refine L_fa H rfl 26 _ rfl 2 rfl rfl Try.underlying26 rfl (by kernel_rfl) ?_) | (refine L_fa H rfl 26 _ rfl 3 rfl rfl Try.underlying26 rfl (by kernel_rfl) ?_) | (refine L_fa H rfl 26 _ rfl 4 rfl rfl Try.underlying26 rfl (by kernel_rfl) ?_) | (refine L_fa H rfl 26 _ rfl 5 rfl rfl Try.underlying26 rfl (by kernel_rfl) ?_)); refine unput (d := some _) ?_) | (go_at_call 12; refine (HFD.out _ (HXcl.out.trans HX17.out)).mono ?_; rintro e wq ⟨rfl, hx⟩; replace H := kp (H.out.ext hx); have HXC := kp hx; clear hx) | ((with_reducible refine isAl 18 39 ?_); (refine L_alloc H rfl 39 rfl (cat (partsE en0 rfl)) (fun _ _ => by kernel_rfl) ?_); clear H; intro g18 w18 HGg18 HEg18 H; refine unput (d := some _) ?_) | ((with_reducible show wpList _ _ _ (Oper.mk none (Op.store 39 (.tmp 18) _) _ _ _ _ :: _) _ _); ((with_reducible refine isSt 39 ?_); refine L_sa H rfl rfl 39 _ _ rfl 0 rfl rfl (partsE x HXA.out) rfl rfl (by kernel_rfl) ?_; clear H; intro w18b HWw18b H; simp only [szA] at H); have HX18 := kp (HX17.out.trans (HXC.out.trans (ext_wrote HEg18.out HWw18b.out (Nat.le_of_eq HGg18.out.symm))))) | ((with_reducible refine isLd 39 ?_); (first | (refine L_fa H rfl 39 _ rfl 0 rfl rfl Try.underlying39 rfl (by kernel_rfl) ?_) | (refine L_fa H rfl 39 _ rfl 1 rfl rfl Try.underlying39 rfl (by kernel_rfl) ?_) | (refine L_fa H rfl 39 _ rfl 2 rfl rfl Try.underlying39 rfl (by kernel_rfl) ?_) | (refine L_fa H rfl 39 _ rfl 3 rfl rfl Try.underlying39 rfl (by kernel_rfl) ?_) | (refine L_fa H rfl 39 _ rfl 4 rfl rfl Try.underlying39 rfl (by kernel_rfl) ?_) | (refine L_fa H rfl 39 _ rfl 5 rfl rfl Try.underlying39 rfl (by kernel_rfl) ?_)); refine unput (d := some _) ?_) | ((with_reducible show wpList _ _ _ (Oper.mk (some 150) _ _ _ _ _ :: _) _ _); (refine wpList_bin (by kernel_rfl) .neq 39 39 (.tmp 148) (.tmp 149) rfl (.agg (cat (partsE x HXA.out)).toArray) (.agg (cat (partsE x HXA.out)).toArray) (.bool false) rfl rfl (run_eqGuard_agg _ _ _ _ _ _ _ HGT.out) (HEI.out _) ?_); refine unput (d := some _) ?_))
      exact LoopQ.of rfl (by kernel_rfl) rfl ⟨j + 1, (by have q := HNL.out; omega), by simp, (by rw [HGV.out]; simp), kp H.out.tail.tail, HX18⟩ (by simp [intOf]; omega)
    ·have HTL := kp (show l.take j = l from List.take_of_length_le (by rw [← HNL.out]; omega))
     rw [HTL.out]
     have HLE := kp (ans_len HOK'.out HL6.out HL6'.out OK.out.l2 HDD.out)
     have HF2 := kp (fun W (hW : Ext w8b W) => find_any a ha (.slice ad2 n2 c2) l' HL6'.out (Nat.le_trans HN64.out (by decide)) h.a2 OK.out.l2 W ((HOW.out.slt HL6'.out).ext hW))
     have HE6 := kp (find_l6 (a := a) HL6'.out h.a2)
     have hfi := find_is (a := a) HOK'.out h.a2
     rw [← hfi, ← HN2.out] at HLE
     rw [cat_A a ha] at HF2
     clear hfi
     generalize findE a l' h.a2 = fe at *
     obtain ⟨ee, eb⟩ := fe
     rw [show cellsE (ee, eb).1 = cat (partsE ee HE6.out) from cat_E ee HE6.out] at HF2
     have HLF := kp (show n2 = othN l h.a2 + if eb = true then 1 else 0 from HLE.out)
     have hk64 : othN l h.a2 ≤ 64 := by have := HN64.out; have h2 := HN2.out; have h3 := HLF.out; omega
     generalize othN l h.a2 = k at *
     go_wp2_with (first | ((with_reducible refine isLd 24 ?_); (first | (refine L_f1 H rfl 24 _ rfl 0 rfl _ rfl _ rfl _ rfl Try.underlying24 rfl ?_) | (refine L_f1 H rfl 24 _ rfl 1 rfl _ rfl _ rfl _ rfl Try.underlying24 rfl ?_) | (refine L_f1 H rfl 24 _ rfl 2 rfl _ rfl _ rfl _ rfl Try.underlying24 rfl ?_) | (refine L_f1 H rfl 24 _ rfl 3 rfl _ rfl _ rfl _ rfl Try.underlying24 rfl ?_) | (refine L_f1 H rfl 24 _ rfl 4 rfl _ rfl _ rfl _ rfl Try.underlying24 rfl ?_) | (refine L_f1 H rfl 24 _ rfl 5 rfl _ rfl _ rfl _ rfl Try.underlying24 rfl ?_)); refine unput (d := some _) ?_))
     subst hr26
     cases eb with
     | true =>
      obtain rfl : n2 = k + 1 := HLF.out
      go_wp2_with (first | ((with_reducible refine isLd 26 ?_); (first | (refine L_fa H rfl 26 _ rfl 0 rfl rfl Try.underlying26 rfl (by kernel_rfl) ?_) | (refine L_fa H rfl 26 _ rfl 1 rfl rfl Try.underlying26 rfl (by kernel_rfl) ?_) | (refine L_fa H rfl 26 _ rfl 2 rfl rfl Try.underlying26 rfl (by kernel_rfl) ?_) | (refine L_fa H rfl 26 _ rfl 3 rfl rfl Try.underlying26 rfl (by kernel_rfl) ?_) | (refine L_fa H rfl 26 _ rfl 4 rfl rfl Try.underlying26 rfl (by kernel_rfl) ?_) | (refine L_fa H rfl 26 _ rfl 5 rfl rfl Try.underlying26 rfl (by kernel_rfl) ?_)); refine unput (d := some _) ?_) | ((with_reducible refine isLd 23 ?_); (first | (refine L_fv H rfl 23 _ rfl 0 rfl _ rfl _ rfl rfl Try.underlying23 rfl (by kernel_rfl) ?_) | (refine L_fv H rfl 23 _ rfl 1 rfl _ rfl _ rfl rfl Try.underlying23 rfl (by kernel_rfl) ?_) | (refine L_fv H rfl 23 _ rfl 2 rfl _ rfl _ rfl rfl Try.underlying23 rfl (by kernel_rfl) ?_) | (refine L_fv H rfl 23 _ rfl 3 rfl _ rfl _ rfl rfl Try.underlying23 rfl (by kernel_rfl) ?_) | (refine L_fv H rfl 23 _ rfl 4 rfl _ rfl _ rfl rfl Try.underlying23 rfl (by kernel_rfl) ?_) | (refine L_fv H rfl 23 _ rfl 5 rfl _ rfl _ rfl rfl Try.underlying23 rfl (by kernel_rfl) ?_)); refine unput (d := some _) ?_) | (go_at_call 12; refine (HF2.out _ (HXcl.out.trans HXT.out)).mono ?_; rintro e wq ⟨rfl, hx⟩; replace H := kp (H.out.ext hx); have HXC := kp hx; clear hx) | ((with_reducible refine isAl 20 39 ?_); (refine L_alloc H rfl 39 rfl (cat (partsE en0 rfl)) (fun _ _ => by kernel_rfl) ?_); clear H; intro g20 w20 HGg20 HEg20 H; refine unput (d := some _) ?_) | ((with_reducible show wpList _ _ _ (Oper.mk none (Op.store 39 (.tmp 20) _) _ _ _ _ :: _) _ _); ((with_reducible refine isSt 39 ?_); refine L_sa H rfl rfl 39 _ _ rfl 0 rfl rfl (partsE ee HE6.out) rfl rfl (by kernel_rfl) ?_; clear H; intro w20b HWw20b H; simp only [szA] at H)) | ((with_reducible refine isLd 24 ?_); (first | (refine L_f1 H rfl 24 _ rfl 0 rfl _ rfl _ rfl _ rfl Try.underlying24 rfl ?_) | (refine L_f1 H rfl 24 _ rfl 1 rfl _ rfl _ rfl _ rfl Try.underlying24 rfl ?_) | (refine L_f1 H rfl 24 _ rfl 2 rfl _ rfl _ rfl _ rfl Try.underlying24 rfl ?_) | (refine L_f1 H rfl 24 _ rfl 3 rfl _ rfl _ rfl _ rfl Try.underlying24 rfl ?_) | (refine L_f1 H rfl 24 _ rfl 4 rfl _ rfl _ rfl _ rfl Try.underlying24 rfl ?_) | (refine L_f1 H rfl 24 _ rfl 5 rfl _ rfl _ rfl _ rfl Try.underlying24 rfl ?_)); refine unput (d := some _) ?_))
      go_ret
      exact ⟨rfl, H.out.1⟩
     | false =>
      obtain rfl : n2 = k := HLF.out
      go_wp2_with (first | ((with_reducible refine isLd 26 ?_); (first | (refine L_fa H rfl 26 _ rfl 0 rfl rfl Try.underlying26 rfl (by kernel_rfl) ?_) | (refine L_fa H rfl 26 _ rfl 1 rfl rfl Try.underlying26 rfl (by kernel_rfl) ?_) | (refine L_fa H rfl 26 _ rfl 2 rfl rfl Try.underlying26 rfl (by kernel_rfl) ?_) | (refine L_fa H rfl 26 _ rfl 3 rfl rfl Try.underlying26 rfl (by kernel_rfl) ?_) | (refine L_fa H rfl 26 _ rfl 4 rfl rfl Try.underlying26 rfl (by kernel_rfl) ?_) | (refine L_fa H rfl 26 _ rfl 5 rfl rfl Try.underlying26 rfl (by kernel_rfl) ?_)); refine unput (d := some _) ?_) | ((with_reducible refine isLd 23 ?_); (first | (refine L_fv H rfl 23 _ rfl 0 rfl _ rfl _ rfl rfl Try.underlying23 rfl (by kernel_rfl) ?_) | (refine L_fv H rfl 23 _ rfl 1 rfl _ rfl _ rfl rfl Try.underlying23 rfl (by kernel_rfl) ?_) | (refine L_fv H rfl 23 _ rfl 2 rfl _ rfl _ rfl rfl Try.underlying23 rfl (by kernel_rfl) ?_) | (refine L_fv H rfl 23 _ rfl 3 rfl _ rfl _ rfl rfl Try.underlying23 rfl (by kernel_rfl) ?_) | (refine L_fv H rfl 23 _ rfl 4 rfl _ rfl _ rfl rfl Try.underlying23 rfl (by kernel_rfl) ?_) | (refine L_fv H rfl 23 _ rfl 5 rfl _ rfl _ rfl rfl Try.underlying23 rfl (by kernel_rfl) ?_)); refine unput (d := some _) ?_) | (go_at_call 12; refine (HF2.out _ (HXcl.out.trans HXT.out)).mono ?_; rintro e wq ⟨rfl, hx⟩; replace H := kp (H.out.ext hx); have HXC := kp hx; clear hx) | ((with_reducible refine isAl 20 39 ?_); (refine L_alloc H rfl 39 rfl (cat (partsE en0 rfl)) (fun _ _ => by kernel_rfl) ?_); clear H; intro g20 w20 HGg20 HEg20 H; refine unput (d := some _) ?_) | ((with_reducible show wpList _ _ _ (Oper.mk none (Op.store 39 (.tmp 20) _) _ _ _ _ :: _) _ _); ((with_reducible refine isSt 39 ?_); refine L_sa H rfl rfl 39 _ _ rfl 0 rfl rfl (partsE ee HE6.out) rfl rfl (by kernel_rfl) ?_; clear H; intro w20b HWw20b H; simp only [szA] at H)) | ((with_reducible refine isLd 24 ?_); (first | (refine L_f1 H rfl 24 _ rfl 0 rfl _ rfl _ rfl _ rfl Try.underlying24 rfl ?_) | (refine L_f1 H rfl 24 _ rfl 1 rfl _ rfl _ rfl _ rfl Try.underlying24 rfl ?_) | (refine L_f1 H rfl 24 _ rfl 2 rfl _ rfl _ rfl _ rfl Try.underlying24 rfl ?_) | (refine L_f1 H rfl 24 _ rfl 3 rfl _ rfl _ rfl _ rfl Try.underlying24 rfl ?_) | (refine L_f1 H rfl 24 _ rfl 4 rfl _ rfl _ rfl _ rfl Try.underlying24 rfl ?_) | (refine L_f1 H rfl 24 _ rfl 5 rfl _ rfl _ rfl _ rfl Try.underlying24 rfl ?_)); refine unput (d := some _) ?_))
      go_ret
      exact ⟨rfl, H.out.1⟩
   ·obtain ⟨r1, r2, r3⟩ := r
    obtain ⟨rfl, rfl⟩ : r1 = [] ∧ r2 = [] := HZR.out he
    have he : r3 ≠ 0 := he
    have HE := kp he
    have hd3 : (r3 == 0) = false := by simpa using he
    have hd4 : decide (r3 = 0) = false := decide_eq_false he
    clear he HZR HEO HAN HSO HDL
    have HBZ := kp (show ∀ w, (Instr.build 26 #[]).run Try.prog w = .ok (.agg (cat (partsA as0 rfl none 0 0)).toArray) w by intro w; kernel_rfl)
    go_enter Try.func8, Try.ntmps8
    generalize hr5 : (Code.region 5 _ _ : Code) = R5
    go_wp2_with (first | ((with_reducible refine isBx 3 26 ?_); (refine L_box H rfl 26 _ rfl (cat (partsA a ha ad n c)) rfl ?_); clear H; intro g3 w3 HGg3 HEg3 H; refine unput (d := some _) ?_) | ((with_reducible refine isBx 4 31 ?_); (refine L_box H rfl 31 _ rfl (cat (partsFr h ok fa fb.length fc)) rfl ?_); clear H; intro g4 w4 HGg4 HEg4 H; refine unput (d := some _) ?_) | (go_at_call 21; refine (alive_any _).mono ?_; rintro e wv ⟨rfl, hx⟩; replace H := kp (H.out.ext hx); have HXC := kp hx; clear hx) | ((with_reducible refine isLd 24 ?_); (first | (refine L_f1 H rfl 24 _ rfl 0 rfl _ rfl _ rfl _ rfl Try.underlying24 rfl ?_) | (refine L_f1 H rfl 24 _ rfl 1 rfl _ rfl _ rfl _ rfl Try.underlying24 rfl ?_) | (refine L_f1 H rfl 24 _ rfl 2 rfl _ rfl _ rfl _ rfl Try.underlying24 rfl ?_) | (refine L_f1 H rfl 24 _ rfl 3 rfl _ rfl _ rfl _ rfl Try.underlying24 rfl ?_) | (refine L_f1 H rfl 24 _ rfl 4 rfl _ rfl _ rfl _ rfl Try.underlying24 rfl ?_) | (refine L_f1 H rfl 24 _ rfl 5 rfl _ rfl _ rfl _ rfl Try.underlying24 rfl ?_)); refine unput (d := some _) ?_) | ((with_reducible refine isLd 31 ?_); (first | (refine L_fa H rfl 31 _ rfl 0 rfl rfl Try.underlying31 rfl (by kernel_rfl) ?_) | (refine L_fa H rfl 31 _ rfl 1 rfl rfl Try.underlying31 rfl (by kernel_rfl) ?_) | (refine L_fa H rfl 31 _ rfl 2 rfl rfl Try.underlying31 rfl (by kernel_rfl) ?_) | (refine L_fa H rfl 31 _ rfl 3 rfl rfl Try.underlying31 rfl (by kernel_rfl) ?_) | (refine L_fa H rfl 31 _ rfl 4 rfl rfl Try.underlying31 rfl (by kernel_rfl) ?_) | (refine L_fa H rfl 31 _ rfl 5 rfl rfl Try.underlying31 rfl (by kernel_rfl) ?_)); refine unput (d := some _) ?_) | ((with_reducible refine isLd 26 ?_); (first | (refine L_fa H rfl 26 _ rfl 0 rfl rfl Try.underlying26 rfl (by kernel_rfl) ?_) | (refine L_fa H rfl 26 _ rfl 1 rfl rfl Try.underlying26 rfl (by kernel_rfl) ?_) | (refine L_fa H rfl 26 _ rfl 2 rfl rfl Try.underlying26 rfl (by kernel_rfl) ?_) | (refine L_fa H rfl 26 _ rfl 3 rfl rfl Try.underlying26 rfl (by kernel_rfl) ?_) | (refine L_fa H rfl 26 _ rfl 4 rfl rfl Try.underlying26 rfl (by kernel_rfl) ?_) | (refine L_fa H rfl 26 _ rfl 5 rfl rfl Try.underlying26 rfl (by kernel_rfl) ?_)); refine unput (d := some _) ?_) | (go_at_call 9; refine (HGR.out _).mono ?_; rintro e wg ⟨rfl, hx⟩; replace H := kp (H.out.ext hx); have HXC := kp hx; clear hx) | (go_at_call 29; refine (HT.out _ (HSL.out.ext H.out.1) (HSB.out.ext H.out.1)).mono ?_; intro e wt hrr; obtain ⟨ad2, n2, c2, va, vc, rfl, ho, hx⟩ := hanE HE.out hrr; have HO := kp ho; clear hrr ho; replace H := kp (H.out.ext hx); have HXC := kp hx; clear hx) | ((with_reducible refine isAl 8 26 ?_); (refine L_alloc H rfl 26 rfl (cat (partsA as0 rfl none 0 0)) (fun _ _ => by kernel_rfl) ?_); clear H; intro g8 w8 HGg8 HEg8 H; refine unput (d := some _) ?_) | ((with_reducible show wpList _ _ _ (Oper.mk none (Op.store 26 (.tmp 8) _) _ _ _ _ :: _) _ _); ((with_reducible refine isSt 26 ?_); refine L_sa H rfl rfl 26 _ _ rfl 0 rfl rfl (partsA as0 rfl ad2 n2 c2) rfl rfl (by kernel_rfl) ?_; clear H; intro w8b HWw8b H; simp only [szA] at H); have HE8 := kp (ext_wrote HEg8.out HWw8b.out (Nat.le_of_eq HGg8.out.symm))))
    have HS0 := kp (show SlT 11 cellsE w8b (.slice ad2 n2 c2) [] from ((HO.out.slt (fun e he => by cases he)).ext HE8.out))
    have HSM := kp (fun W (hW : Ext w8b W) => same_any as0 as0 rfl rfl (.slice ad2 n2 c2) (.slice none 0 0) [] [] (fun x hx => by cases hx) (fun x hx => by cases hx) (by decide) (by decide) W (HS0.out.ext hW) (OwE.nil 0 W |>.slt (fun e he => by cases he)))
    rw [same_nil, cat_A as0 rfl, cat_A as0 rfl] at HSM
    have HX8 := kp (Ext.refl w8b)
    subst hr5
    go_wp2_with (first | ((with_reducible refine isLd 26 ?_); (first | (refine L_fa H rfl 26 _ rfl 0 rfl rfl Try.underlying26 rfl (by kernel_rfl) ?_) | (refine L_fa H rfl 26 _ rfl 1 rfl rfl Try.underlying26 rfl (by kernel_rfl) ?_) | (refine L_fa H rfl 26 _ rfl 2 rfl rfl Try.underlying26 rfl (by kernel_rfl) ?_) | (refine L_fa H rfl 26 _ rfl 3 rfl rfl Try.underlying26 rfl (by kernel_rfl) ?_) | (refine L_fa H rfl 26 _ rfl 4 rfl rfl Try.underlying26 rfl (by kernel_rfl) ?_) | (refine L_fa H rfl 26 _ rfl 5 rfl rfl Try.underlying26 rfl (by kernel_rfl) ?_)); refine unput (d := some _) ?_) | ((with_reducible show wpList _ _ _ (Oper.mk (some 54) (Op.build 26 _) _ _ _ _ :: _) _ _); (refine L_bd (by kernel_rfl) 26 _ rfl (#[]) (by kernel_rfl) (cat (partsA as0 rfl none 0 0)) (HBZ.out) ?_); refine unput (d := some _) ?_) | (go_at_call 17; refine (HSM.out _ HX8.out).mono ?_; rintro e ws ⟨rfl, hx⟩; replace H := kp (H.out.ext hx); have HXC := kp hx; clear hx))
    go_ret
    exact ⟨rfl, H.out.1⟩
 ·have h101 : (100:Int) < n := by omega
  clear hn hnl HT0 h100 hfc
  go_enter Try.func8, Try.ntmps8
  go_wp2_with (first | ((with_reducible refine isBx 3 26 ?_); (refine L_box H rfl 26 _ rfl (cat (partsA a ha ad n c)) rfl ?_); clear H; intro g3 w3 HGg3 HEg3 H; refine unput (d := some _) ?_) | ((with_reducible refine isBx 4 31 ?_); (refine L_box H rfl 31 _ rfl (cat (partsFr h ok fa fb.length fc)) rfl ?_); clear H; intro g4 w4 HGg4 HEg4 H; refine unput (d := some _) ?_) | (go_at_call 21; refine (alive_any _).mono ?_; rintro e wv ⟨rfl, hx⟩; replace H := kp (H.out.ext hx); have HXC := kp hx; clear hx) | ((with_reducible refine isLd 24 ?_); (first | (refine L_f1 H rfl 24 _ rfl 0 rfl _ rfl _ rfl _ rfl Try.underlying24 rfl ?_) | (refine L_f1 H rfl 24 _ rfl 1 rfl _ rfl _ rfl _ rfl Try.underlying24 rfl ?_) | (refine L_f1 H rfl 24 _ rfl 2 rfl _ rfl _ rfl _ rfl Try.underlying24 rfl ?_) | (refine L_f1 H rfl 24 _ rfl 3 rfl _ rfl _ rfl _ rfl Try.underlying24 rfl ?_) | (refine L_f1 H rfl 24 _ rfl 4 rfl _ rfl _ rfl _ rfl Try.underlying24 rfl ?_) | (refine L_f1 H rfl 24 _ rfl 5 rfl _ rfl _ rfl _ rfl Try.underlying24 rfl ?_)); refine unput (d := some _) ?_) | ((with_reducible refine isLd 31 ?_); (first | (refine L_fa H rfl 31 _ rfl 0 rfl rfl Try.underlying31 rfl (by kernel_rfl) ?_) | (refine L_fa H rfl 31 _ rfl 1 rfl rfl Try.underlying31 rfl (by kernel_rfl) ?_) | (refine L_fa H rfl 31 _ rfl 2 rfl rfl Try.underlying31 rfl (by kernel_rfl) ?_) | (refine L_fa H rfl 31 _ rfl 3 rfl rfl Try.underlying31 rfl (by kernel_rfl) ?_) | (refine L_fa H rfl 31 _ rfl 4 rfl rfl Try.underlying31 rfl (by kernel_rfl) ?_) | (refine L_fa H rfl 31 _ rfl 5 rfl rfl Try.underlying31 rfl (by kernel_rfl) ?_)); refine unput (d := some _) ?_) | ((with_reducible refine isLd 26 ?_); (first | (refine L_fa H rfl 26 _ rfl 0 rfl rfl Try.underlying26 rfl (by kernel_rfl) ?_) | (refine L_fa H rfl 26 _ rfl 1 rfl rfl Try.underlying26 rfl (by kernel_rfl) ?_) | (refine L_fa H rfl 26 _ rfl 2 rfl rfl Try.underlying26 rfl (by kernel_rfl) ?_) | (refine L_fa H rfl 26 _ rfl 3 rfl rfl Try.underlying26 rfl (by kernel_rfl) ?_) | (refine L_fa H rfl 26 _ rfl 4 rfl rfl Try.underlying26 rfl (by kernel_rfl) ?_) | (refine L_fa H rfl 26 _ rfl 5 rfl rfl Try.underlying26 rfl (by kernel_rfl) ?_)); refine unput (d := some _) ?_) | (go_at_call 9; refine (HGR.out _).mono ?_; rintro e wg ⟨rfl, hx⟩; replace H := kp (H.out.ext hx); have HXC := kp hx; clear hx))
  go_ret
  exact ⟨rfl, H.out.1⟩
end Go.Proofs.Ytfecopfofkdnpaa
