/- Texts of this proof, put together: Place, Val30, Find, Same, New. -/
import Derived.Test.YtfecopfofkdnpaaS18
import Derived.Test.YtfecopfofkdnpaaS16
import Derived.Test.YtfecopfofkdnpaaS1
namespace Go.Proofs.Ytfecopfofkdnpaa
open Go.RowKit
theorem placeF_any (s : En) (hs : s.addr.length = 6) (t : List (BitVec 8)) (ht : t.length = 6) (w : World) :
  Calls Try.prog 81 #[.agg (cellsE s).toArray, .agg (t.map V8).toArray] w fun e w' => e = .returned (.int .i64 (cmpF s.addr t)) ∧ Ext w w' := by
 have H := kp (Loc.start w)
 have HC := kp (compareA_any s.addr t hs ht)
 have HP := kp (cE0 hs)
 have HZ := kp (sizeA8 hs)
 have HZT := kp (sizeA8a ht)
 clear hs ht
 go_enter Try.func81, Try.ntmps81
 go_wp2_with (first | ((with_reducible refine isBx 2 39 ?_); (with_reducible refine L_box H rfl 39 _ rfl (cellsE s) rfl ?_); clear H; intro g2 w2 HGg2 HEg2 H; simp only [pA]) | ((with_reducible refine isBx 3 23 ?_); (with_reducible refine L_box H rfl 23 _ rfl (t.map V8) rfl ?_); clear H; intro g3 w3 HGg3 HEg3 H; simp only [pA]) | ((with_reducible refine isLd 23 ?_); (refine L_subG H (by kernel_rfl) 23 _ rfl 1 rfl (0) rfl (s.addr.map V8) (HP.out) Try.underlying23 rfl (HZ.out) ?_); simp only [pA]) | ((with_reducible refine isLd 23 ?_); (refine wpList_load_rowG (by kernel_rfl) 23 _ rfl (g3) rfl 23 (t.map V8).toArray (0, 0) _ (H.out.at 0 rfl) Try.underlying23 rfl (HZT.out) ?_); simp only [pA]) | (go_at_call 54; refine (HC.out _).mono ?_; rintro e wa ⟨rfl, hx⟩; replace H := kp (H.out.ext hx); have HXC := kp hx; clear hx))
 go_ret
 exact ⟨rfl, H.out.1⟩
def SrP (l : List En) (t : List (BitVec 8)) (i j : Nat) : Prop := sortedF l → (∀ k, k < i → numF (enAt l k).addr < numF t) ∧ ∀ k, j ≤ k → k < l.length → numF t ≤ numF (enAt l k).addr
theorem SrP.up {l : List En} {t : List (BitVec 8)} {i j h : Nat} (p : SrP l t i j) (hh : h < l.length) (c : numF (enAt l h).addr < numF t) : SrP l t (h + 1) j := fun hs => by
 obtain ⟨h1, h2⟩ := p hs
 refine ⟨fun k hk => ?_, h2⟩
 rcases Nat.lt_succ_iff_lt_or_eq.1 hk with q | q
 ·exact Nat.lt_trans (sorted_lt hs q hh) c
 ·subst q; exact c
theorem SrP.down {l : List En} {t : List (BitVec 8)} {i j h : Nat} (p : SrP l t i j) (c : numF t ≤ numF (enAt l h).addr) : SrP l t i h := fun hs => by
 obtain ⟨h1, h2⟩ := p hs
 refine ⟨h1, fun k hk hl => ?_⟩
 rcases Nat.lt_or_eq_of_le hk with q | q
 ·exact Nat.le_of_lt (Nat.lt_of_le_of_lt c (sorted_lt hs q hl))
 ·subst q; exact c
set_option maxHeartbeats 6400000 in
theorem search_any (v : Value) (l : List En) (hl : ∀ x ∈ l, x.addr.length = 6) (hn : l.length ≤ 100000) (t : List (BitVec 8)) (ht : t.length = 6) (w : World) (hs : SlT 11 cellsE w v l) :
  Calls Try.prog 80 #[v, .agg (t.map V8).toArray, .func (.func 81) #[] #[]] w fun e w' => ∃ (i : Nat) (found : Bool), PlaceP l t i found ∧ e = .returned (.tuple #[.int .i64 i, .bool found]) ∧ Ext w w' := by
 obtain ⟨ad, n, c, rfl, hnl, hcap, hat⟩ := hs
 have HAT := kp hat; have HNL := kp hnl; have HLK := kp hl; have H := kp (Loc.start w); have hn2 : n ≤ 100000 := by omega
 have HTK := kp ht
 have HZT := kp (sizeA8a ht)
 clear hat hl hnl hcap hn ht
 go_enter Try.func80, Try.ntmps80
 go_wp2_with ((with_reducible refine isBx 4 23 ?_); (with_reducible refine L_box H rfl 23 _ rfl (t.map V8) rfl ?_); clear H; intro g4 w4 HGg4 HEg4 H; simp only [pA])
 go_loopw [9, 10] (fun i j wr => ∃ p q : Nat, p ≤ q ∧ q ≤ n ∧ i = .int .i64 p ∧ j = .int .i64 q ∧ Kp (SrP l t p q) ∧ Kp (Loc w wr [(g4, 23, t.map V8)])) (fun i j _ => (intOf j).toNat - (intOf i).toNat)
 case atStart => exact ⟨0, n, by omega, Nat.le_refl _, rfl, rfl, kp (fun _ => ⟨fun k hk => by omega, fun k hk hl => by have := HNL.out; omega⟩), H⟩
 case round =>
  obtain ⟨p, q, hpq, hqn, rfl, rfl, HS, H⟩ := hrel
  by_cases hlt : p < q
  ·go_wp2_with fail
   obtain ⟨h, hh⟩ : ∃ h : Nat, h = (p + q) / 2 := ⟨_, rfl⟩
   have eh : ((p : Int) + (q : Int)) / 2 = (h : Nat) := by omega
   have hph : p ≤ h := by omega
   have hhq : h < q := by omega
   have HHL := kp (show h < l.length by have := HNL.out; omega)
   obtain ⟨x, hx⟩ : ∃ x, l[h]? = some x := ⟨l[h]'HHL.out, by simp⟩
   obtain ⟨b, off, rfl, hb, hr⟩ := HAT.out h x hx
   have HB := kp hb
   have HR := kp hr
   have HXA := kp (enAt_some hx)
   have HXK := kp (HLK.out x (List.mem_of_getElem? hx))
   clear hb hr hx
   have HZX := kp (sizeE HXK.out)
   have HPF := kp (placeF_any x HXK.out t HTK.out)
   rw [eh]
   clear eh hh
   refine region_free H (tabS [(24, fun vQ _ => vQ = .func (.func 81) #[] #[]), (25, fun vQ _ => vQ = .slice (some ⟨b, off, none⟩) n c), (26, fun vQ _ => vQ = .int .i64 h), (27, fun vQ _ => vQ = .pointer (some ⟨b, off + h * 11, none⟩)), (28, fun vQ _ => vQ = .agg (cellsE x).toArray), (29, fun vQ _ => vQ = .agg (t.map V8).toArray), (30, fun vQ _ => vQ = .int .i64 (cmpF x.addr t)), (31, fun vQ _ => vQ = .bool (decide (cmpF x.addr t < 0)))]) [] (tabS_out _ _ (by simp only [List.forall_mem_cons, mono_eqO, true_and]; simp)) 8 (by kernel_rfl) (by kernel_rfl) (by kernel_rfl) (by kernel_rfl) [] [] rfl rfl (by decide) (by decide) (by decide) trivial ?_
   simp only [List.take_succ_cons, List.take_zero]
   refine ⟨fun w_ o_ S_ => ?_, fun v24 => ?_⟩
   ·clear S_
    clear o_
    go_wp2_with fail
    exact kso
   simp only [pA]
   refine ⟨fun w_ o_ S_ => ?_, fun v25 => ?_⟩
   ·clear S_
    clear o_
    go_wp2_with fail
    exact kso
   simp only [pA]
   refine ⟨fun w_ o_ S_ => ?_, fun v26 => ?_⟩
   ·clear S_
    clear o_
    go_wp2_with fail
    exact kso
   simp only [pA]
   refine ⟨fun w_ o_ S_ => ?_, fun v27 => ?_⟩
   ·obtain rfl : v25 = .slice (some ⟨b, off, none⟩) n c := hsR S_ 25 rfl
    obtain rfl : v26 = .int .i64 h := hsR S_ 26 rfl
    clear S_ o_
    go_wp2_with fail
    exact kso
   simp only [pA]
   refine ⟨fun w_ o_ S_ => ?_, fun v28 => ?_⟩
   ·obtain rfl : v27 = .pointer (some ⟨b, off + h * 11, none⟩) := hsR S_ 27 rfl
    clear S_
    have H := kp (kK [0] H o_)
    have HOX := kp o_
    clear o_
    go_wp2_with ((with_reducible refine isLd 39 ?_); (refine wpList_load_midG (by kernel_rfl) 39 _ rfl (b) (off + h * 11) rfl (cellsE x) _ ((rangeAt_ext HR.out HB.out H.out.1)) Try.underlying39 rfl (HZX.out) ?_); simp only [pA])
    exact kso
   simp only [pA]
   refine ⟨fun w_ o_ S_ => ?_, fun v29 => ?_⟩
   ·clear S_
    have H := kp (kK [0] H o_)
    have HOX := kp o_
    clear o_
    go_wp2_with ((with_reducible refine isLd 23 ?_); (refine L_load H rfl 23 _ rfl 0 rfl rfl Try.underlying23 rfl (HZT.out) ?_); simp only [pA])
    exact kso
   simp only [pA]
   refine ⟨fun w_ o_ S_ => ?_, fun v30 => ?_⟩
   ·obtain rfl : v24 = .func (.func 81) #[] #[] := hsR S_ 24 rfl
    obtain rfl : v28 = .agg (cellsE x).toArray := hsR S_ 28 rfl
    obtain rfl : v29 = .agg (t.map V8).toArray := hsR S_ 29 rfl
    clear S_
    have H := kp (kK [0] H o_)
    have HOX := kp o_
    clear o_
    go_wp2_with fail
    refine (HPF.out _).mono ?_
    rintro e w2 ⟨rfl, hx⟩
    have HXW := kp hx
    clear hx
    go_wp2_with fail
    exact ⟨rfl, _, rfl, fun d hd => by cases hd; exact rfl, HXW.out⟩
   simp only [pA]
   refine ⟨fun w_ o_ S_ => ?_, fun v31 => ?_⟩
   ·obtain rfl : v30 = .int .i64 (cmpF x.addr t) := hsR S_ 30 rfl
    clear S_ o_
    go_wp2_with fail
    exact kso
   simp only [pA]
   clear H
   intro w5 HOX H hfin
   obtain rfl : v24 = .func (.func 81) #[] #[] := hfin 24 (by decide)
   obtain rfl : v25 = .slice (some ⟨b, off, none⟩) n c := hfin 25 (by decide)
   obtain rfl : v26 = .int .i64 h := hfin 26 (by decide)
   obtain rfl : v27 = .pointer (some ⟨b, off + h * 11, none⟩) := hfin 27 (by decide)
   obtain rfl : v28 = .agg (cellsE x).toArray := hfin 28 (by decide)
   obtain rfl : v29 = .agg (t.map V8).toArray := hfin 29 (by decide)
   obtain rfl : v30 = .int .i64 (cmpF x.addr t) := hfin 30 (by decide)
   obtain rfl : v31 = .bool (decide (cmpF x.addr t < 0)) := hfin 31 (by decide)
   clear hfin
   simp only [List.drop_succ_cons, List.drop_zero]
   simp only [applyS] at H
   have HXN := kp (HOX.out.ext (Ext.refl wr) (fun g hg => by cases hg))
   cases hc : decide (cmpF x.addr t < 0) with
   | true =>
    have HC := kp (HS.out.up HHL.out (by rw [HXA.out]; exact cmp_neg.1 (of_decide_eq_true hc)))
    clear hc
    go_wp2_with fail
    go_roundw
    case rel => exact ⟨h + 1, q, by omega, hqn, by go_num, rfl, HC, H⟩
    case measure => simp [intOf]; omega
   | false =>
    have HC := kp (HS.out.down (h := h) (by rw [HXA.out]; have := of_decide_eq_false hc; rw [cmp_neg] at this; omega))
    clear hc
    go_wp2_with fail
    go_roundw
    case rel => exact ⟨p, h, hph, by omega, rfl, by go_num, HC, H⟩
    case measure => simp [intOf]; omega
  ·obtain rfl : p = q := by omega
   by_cases hpn : p < n
   ·have HHL := kp (show p < l.length by have := HNL.out; omega)
    obtain ⟨x, hx⟩ : ∃ x, l[p]? = some x := ⟨l[p]'HHL.out, by simp⟩
    obtain ⟨b, off, rfl, hb, hr⟩ := HAT.out p x hx
    have HB := kp hb
    have HR := kp hr
    have HXA := kp (enAt_some hx)
    have HXK := kp (HLK.out x (List.mem_of_getElem? hx))
    clear hb hr hx
    have HZX := kp (sizeE HXK.out)
    have HPF := kp (placeF_any x HXK.out t HTK.out)
    have HPP := kp (show PlaceP l t p (cmpF x.addr t == 0) from ⟨Nat.le_of_lt HHL.out, by rw [HXA.out, decide_eq_true HHL.out]; refine Bool.eq_iff_iff.2 ?_; simp [cmp_zero], HS.out⟩)
    go_wp2_with fail
    refine region_free H (tabS [(35, fun vQ _ => vQ = .int .i64 p), (36, fun vQ _ => vQ = .int .i64 p), (37, fun vQ _ => vQ = .int .i64 n), (38, fun vQ _ => vQ = .bool true), (39, fun vQ _ => vQ = .bool true), (40, fun vQ _ => vQ = .func (.func 81) #[] #[]), (41, fun vQ _ => vQ = .slice (some ⟨b, off, none⟩) n c), (42, fun vQ _ => vQ = .int .i64 p), (43, fun vQ _ => vQ = .pointer (some ⟨b, off + p * 11, none⟩)), (44, fun vQ _ => vQ = .agg (cellsE x).toArray), (45, fun vQ _ => vQ = .agg (t.map V8).toArray), (46, fun vQ _ => vQ = .int .i64 (cmpF x.addr t)), (47, fun vQ _ => vQ = .bool (cmpF x.addr t == 0)), (48, fun vQ _ => vQ = .bool (cmpF x.addr t == 0)), (6, fun vQ _ => vQ = .int .i64 p), (7, fun vQ _ => vQ = .bool (cmpF x.addr t == 0))]) [] (tabS_out _ _ (by simp only [List.forall_mem_cons, mono_eqO, true_and]; simp)) 16 (by kernel_rfl) (by kernel_rfl) (by kernel_rfl) (by kernel_rfl) [] [] rfl rfl (by decide) (by decide) (by decide) trivial ?_
    simp only [List.take_succ_cons, List.take_zero]
    refine ⟨fun w_ o_ S_ => ?_, fun v35 => ?_⟩
    ·clear S_
     clear o_
     go_wp2_with fail
     exact kso
    simp only [pA]
    refine ⟨fun w_ o_ S_ => ?_, fun v36 => ?_⟩
    ·clear S_
     clear o_
     go_wp2_with fail
     exact kso
    simp only [pA]
    refine ⟨fun w_ o_ S_ => ?_, fun v37 => ?_⟩
    ·clear S_
     clear o_
     go_wp2_with fail
     exact kso
    simp only [pA]
    refine ⟨fun w_ o_ S_ => ?_, fun v38 => ?_⟩
    ·obtain rfl : v36 = .int .i64 p := hsR S_ 36 rfl
     obtain rfl : v37 = .int .i64 n := hsR S_ 37 rfl
     clear S_ o_
     go_wp2_with fail
     exact kso
    simp only [pA]
    refine ⟨fun w_ o_ S_ => ?_, fun v39 => ?_⟩
    ·obtain rfl : v38 = .bool true := hsR S_ 38 rfl
     clear S_ o_
     go_wp2_with fail
     exact kso
    simp only [pA]
    refine ⟨fun w_ o_ S_ => ?_, fun v40 => ?_⟩
    ·obtain rfl : v39 = .bool true := hsR S_ 39 rfl
     clear S_ o_
     go_wp2_with fail
     exact kso
    simp only [pA]
    refine ⟨fun w_ o_ S_ => ?_, fun v41 => ?_⟩
    ·obtain rfl : v39 = .bool true := hsR S_ 39 rfl
     clear S_ o_
     go_wp2_with fail
     exact kso
    simp only [pA]
    refine ⟨fun w_ o_ S_ => ?_, fun v42 => ?_⟩
    ·obtain rfl : v39 = .bool true := hsR S_ 39 rfl
     clear S_ o_
     go_wp2_with fail
     exact kso
    simp only [pA]
    refine ⟨fun w_ o_ S_ => ?_, fun v43 => ?_⟩
    ·obtain rfl : v39 = .bool true := hsR S_ 39 rfl
     obtain rfl : v41 = .slice (some ⟨b, off, none⟩) n c := hsR S_ 41 rfl
     obtain rfl : v42 = .int .i64 p := hsR S_ 42 rfl
     clear S_ o_
     go_wp2_with fail
     exact kso
    simp only [pA]
    refine ⟨fun w_ o_ S_ => ?_, fun v44 => ?_⟩
    ·obtain rfl : v39 = .bool true := hsR S_ 39 rfl
     obtain rfl : v43 = .pointer (some ⟨b, off + p * 11, none⟩) := hsR S_ 43 rfl
     clear S_
     have H := kp (kK [0] H o_)
     have HOX := kp o_
     clear o_
     go_wp2_with ((with_reducible refine isLd 39 ?_); (refine wpList_load_midG (by kernel_rfl) 39 _ rfl (b) (off + p * 11) rfl (cellsE x) _ ((rangeAt_ext HR.out HB.out H.out.1)) Try.underlying39 rfl (HZX.out) ?_); simp only [pA])
     exact kso
    simp only [pA]
    refine ⟨fun w_ o_ S_ => ?_, fun v45 => ?_⟩
    ·obtain rfl : v39 = .bool true := hsR S_ 39 rfl
     clear S_
     have H := kp (kK [0] H o_)
     have HOX := kp o_
     clear o_
     go_wp2_with ((with_reducible refine isLd 23 ?_); (refine L_loadG H (by kernel_rfl) 23 _ rfl 0 rfl rfl Try.underlying23 rfl (HZT.out) ?_); simp only [pA])
     exact kso
    simp only [pA]
    refine ⟨fun w_ o_ S_ => ?_, fun v46 => ?_⟩
    ·obtain rfl : v39 = .bool true := hsR S_ 39 rfl
     obtain rfl : v40 = .func (.func 81) #[] #[] := hsR S_ 40 rfl
     obtain rfl : v44 = .agg (cellsE x).toArray := hsR S_ 44 rfl
     obtain rfl : v45 = .agg (t.map V8).toArray := hsR S_ 45 rfl
     clear S_
     have H := kp (kK [0] H o_)
     have HOX := kp o_
     clear o_
     go_wp2_with fail
     refine (HPF.out _).mono ?_
     rintro e w2 ⟨rfl, hx⟩
     have HXW := kp hx
     clear hx
     go_wp2_with fail
     exact ⟨rfl, _, rfl, fun d hd => by cases hd; exact rfl, HXW.out⟩
    simp only [pA]
    refine ⟨fun w_ o_ S_ => ?_, fun v47 => ?_⟩
    ·obtain rfl : v39 = .bool true := hsR S_ 39 rfl
     obtain rfl : v46 = .int .i64 (cmpF x.addr t) := hsR S_ 46 rfl
     clear S_ o_
     go_wp2_with fail
     exact kso
    simp only [pA]
    refine ⟨fun w_ o_ S_ => ?_, fun v48 => ?_⟩
    ·obtain rfl : v39 = .bool true := hsR S_ 39 rfl
     obtain rfl : v47 = .bool (cmpF x.addr t == 0) := hsR S_ 47 rfl
     clear S_ o_
     go_wp2_with fail
     exact kso
    simp only [pA]
    refine ⟨fun w_ o_ S_ => ?_, fun v6 => ?_⟩
    ·obtain rfl : v35 = .int .i64 p := hsR S_ 35 rfl
     clear S_ o_
     go_wp2_with fail
     exact kso
    simp only [pA]
    refine ⟨fun w_ o_ S_ => ?_, fun v7 => ?_⟩
    ·obtain rfl : v48 = .bool (cmpF x.addr t == 0) := hsR S_ 48 rfl
     clear S_ o_
     go_wp2_with fail
     exact kso
    simp only [pA]
    clear H
    intro w5 HOX H hfin
    obtain rfl : v35 = .int .i64 p := hfin 35 (by decide)
    obtain rfl : v36 = .int .i64 p := hfin 36 (by decide)
    obtain rfl : v37 = .int .i64 n := hfin 37 (by decide)
    obtain rfl : v38 = .bool true := hfin 38 (by decide)
    obtain rfl : v39 = .bool true := hfin 39 (by decide)
    obtain rfl : v40 = .func (.func 81) #[] #[] := hfin 40 (by decide)
    obtain rfl : v41 = .slice (some ⟨b, off, none⟩) n c := hfin 41 (by decide)
    obtain rfl : v42 = .int .i64 p := hfin 42 (by decide)
    obtain rfl : v43 = .pointer (some ⟨b, off + p * 11, none⟩) := hfin 43 (by decide)
    obtain rfl : v44 = .agg (cellsE x).toArray := hfin 44 (by decide)
    obtain rfl : v45 = .agg (t.map V8).toArray := hfin 45 (by decide)
    obtain rfl : v46 = .int .i64 (cmpF x.addr t) := hfin 46 (by decide)
    obtain rfl : v47 = .bool (cmpF x.addr t == 0) := hfin 47 (by decide)
    obtain rfl : v48 = .bool (cmpF x.addr t == 0) := hfin 48 (by decide)
    obtain rfl : v6 = .int .i64 p := hfin 6 (by decide)
    obtain rfl : v7 = .bool (cmpF x.addr t == 0) := hfin 7 (by decide)
    clear hfin
    simp only [List.drop_succ_cons, List.drop_zero]
    simp only [applyS] at H
    have HXN := kp (HOX.out.ext (Ext.refl wr) (fun g hg => by cases hg))
    go_wp2_with fail
    go_ret2
    exact ⟨p, _, HPP.out, rfl, H.out.1⟩
   ·have HPP := kp (show PlaceP l t p false from ⟨by have := HNL.out; omega, by rw [decide_eq_false (by have := HNL.out; omega)]; rfl, HS.out⟩)
    go_wp2_with fail
    refine region_free H (tabS [(35, fun vQ _ => vQ = .int .i64 p), (36, fun vQ _ => vQ = .int .i64 p), (37, fun vQ _ => vQ = .int .i64 n), (38, fun vQ _ => vQ = .bool false), (39, fun vQ _ => vQ = .bool false), (40, fun vQ _ => vQ = undef), (41, fun vQ _ => vQ = undef), (42, fun vQ _ => vQ = undef), (43, fun vQ _ => vQ = undef), (44, fun vQ _ => vQ = undef), (45, fun vQ _ => vQ = undef), (46, fun vQ _ => vQ = undef), (47, fun vQ _ => vQ = undef), (48, fun vQ _ => vQ = .bool false), (6, fun vQ _ => vQ = .int .i64 p), (7, fun vQ _ => vQ = .bool false)]) [] (tabS_out _ _ (by simp only [List.forall_mem_cons, mono_eqO, true_and]; simp)) 16 (by kernel_rfl) (by kernel_rfl) (by kernel_rfl) (by kernel_rfl) [] [] rfl rfl (by decide) (by decide) (by decide) trivial ?_
    simp only [List.take_succ_cons, List.take_zero]
    refine ⟨fun w_ o_ S_ => ?_, fun v35 => ?_⟩
    ·clear S_
     clear o_
     go_wp2_with fail
     exact kso
    simp only [pA]
    refine ⟨fun w_ o_ S_ => ?_, fun v36 => ?_⟩
    ·clear S_
     clear o_
     go_wp2_with fail
     exact kso
    simp only [pA]
    refine ⟨fun w_ o_ S_ => ?_, fun v37 => ?_⟩
    ·clear S_
     clear o_
     go_wp2_with fail
     exact kso
    simp only [pA]
    refine ⟨fun w_ o_ S_ => ?_, fun v38 => ?_⟩
    ·obtain rfl : v36 = .int .i64 p := hsR S_ 36 rfl
     obtain rfl : v37 = .int .i64 n := hsR S_ 37 rfl
     clear S_ o_
     go_wp2_with fail
     exact kso
    simp only [pA]
    refine ⟨fun w_ o_ S_ => ?_, fun v39 => ?_⟩
    ·obtain rfl : v38 = .bool false := hsR S_ 38 rfl
     clear S_ o_
     go_wp2_with fail
     exact kso
    simp only [pA]
    refine ⟨fun w_ o_ S_ => ?_, fun v40 => ?_⟩
    ·obtain rfl : v39 = .bool false := hsR S_ 39 rfl
     clear S_ o_
     go_wp2_with fail
     exact kso
    simp only [pA]
    refine ⟨fun w_ o_ S_ => ?_, fun v41 => ?_⟩
    ·obtain rfl : v39 = .bool false := hsR S_ 39 rfl
     clear S_ o_
     go_wp2_with fail
     exact kso
    simp only [pA]
    refine ⟨fun w_ o_ S_ => ?_, fun v42 => ?_⟩
    ·obtain rfl : v39 = .bool false := hsR S_ 39 rfl
     clear S_ o_
     go_wp2_with fail
     exact kso
    simp only [pA]
    refine ⟨fun w_ o_ S_ => ?_, fun v43 => ?_⟩
    ·obtain rfl : v39 = .bool false := hsR S_ 39 rfl
     clear S_ o_
     go_wp2_with fail
     exact kso
    simp only [pA]
    refine ⟨fun w_ o_ S_ => ?_, fun v44 => ?_⟩
    ·obtain rfl : v39 = .bool false := hsR S_ 39 rfl
     clear S_ o_
     go_wp2_with fail
     exact kso
    simp only [pA]
    refine ⟨fun w_ o_ S_ => ?_, fun v45 => ?_⟩
    ·obtain rfl : v39 = .bool false := hsR S_ 39 rfl
     clear S_ o_
     go_wp2_with fail
     exact kso
    simp only [pA]
    refine ⟨fun w_ o_ S_ => ?_, fun v46 => ?_⟩
    ·obtain rfl : v39 = .bool false := hsR S_ 39 rfl
     clear S_ o_
     go_wp2_with fail
     exact kso
    simp only [pA]
    refine ⟨fun w_ o_ S_ => ?_, fun v47 => ?_⟩
    ·obtain rfl : v39 = .bool false := hsR S_ 39 rfl
     clear S_ o_
     go_wp2_with fail
     exact kso
    simp only [pA]
    refine ⟨fun w_ o_ S_ => ?_, fun v48 => ?_⟩
    ·obtain rfl : v39 = .bool false := hsR S_ 39 rfl
     obtain rfl : v47 = undef := hsR S_ 47 rfl
     clear S_ o_
     go_wp2_with fail
     exact kso
    simp only [pA]
    refine ⟨fun w_ o_ S_ => ?_, fun v6 => ?_⟩
    ·obtain rfl : v35 = .int .i64 p := hsR S_ 35 rfl
     clear S_ o_
     go_wp2_with fail
     exact kso
    simp only [pA]
    refine ⟨fun w_ o_ S_ => ?_, fun v7 => ?_⟩
    ·obtain rfl : v48 = .bool false := hsR S_ 48 rfl
     clear S_ o_
     go_wp2_with fail
     exact kso
    simp only [pA]
    clear H
    intro w5 HOX H hfin
    obtain rfl : v35 = .int .i64 p := hfin 35 (by decide)
    obtain rfl : v36 = .int .i64 p := hfin 36 (by decide)
    obtain rfl : v37 = .int .i64 n := hfin 37 (by decide)
    obtain rfl : v38 = .bool false := hfin 38 (by decide)
    obtain rfl : v39 = .bool false := hfin 39 (by decide)
    obtain rfl : v40 = undef := hfin 40 (by decide)
    obtain rfl : v41 = undef := hfin 41 (by decide)
    obtain rfl : v42 = undef := hfin 42 (by decide)
    obtain rfl : v43 = undef := hfin 43 (by decide)
    obtain rfl : v44 = undef := hfin 44 (by decide)
    obtain rfl : v45 = undef := hfin 45 (by decide)
    obtain rfl : v46 = undef := hfin 46 (by decide)
    obtain rfl : v47 = undef := hfin 47 (by decide)
    obtain rfl : v48 = .bool false := hfin 48 (by decide)
    obtain rfl : v6 = .int .i64 p := hfin 6 (by decide)
    obtain rfl : v7 = .bool false := hfin 7 (by decide)
    clear hfin
    simp only [List.drop_succ_cons, List.drop_zero]
    simp only [applyS] at H
    have HXN := kp (HOX.out.ext (Ext.refl wr) (fun g hg => by cases hg))
    go_wp2_with fail
    go_ret2
    exact ⟨p, _, HPP.out, rfl, H.out.1⟩
theorem place_any (a : As) (ha : a.own.length = 6) (v : Value) (l : List En) (hl : ∀ x ∈ l, x.addr.length = 6) (hn : l.length ≤ 100000) (t : List (BitVec 8)) (ht : t.length = 6) (w : World) (hs : SlT 11 cellsE w v l) :
  Calls Try.prog 41 #[.agg (cellsA a v).toArray, .agg (t.map V8).toArray] w fun e w' => ∃ (i : Nat) (found : Bool), PlaceP l t i found ∧ e = .returned (.tuple #[.int .i64 i, .bool found]) ∧ Ext w w' := by
 have H := kp (Loc.start w)
 have HSL := kp hs
 have HC9 := kp (cA9 (a := a) v ha)
 have HZT := kp (sizeA8a ht)
 have HSE := kp (fun w' hx => search_any v l hl hn t ht w' (HSL.out.ext hx))
 clear hs hl hn ha ht
 go_enter Try.func41, Try.ntmps41
 go_wp2_with (first | ((with_reducible refine isBx 2 26 ?_); (with_reducible refine L_box H rfl 26 _ rfl (cellsA a v) rfl ?_); clear H; intro g2 w2 HGg2 HEg2 H; simp only [pA]) | (((with_reducible refine isBx 3 23 ?_); (with_reducible refine L_box H rfl 23 _ rfl (t.map V8) rfl ?_); clear H; intro g3 w3 HGg3 HEg3 H; simp only [pA]); have hc9 := run_load_cell H.out 1 rfl _ _ HC9.out) | ((with_reducible refine isLd 23 ?_); (refine wpList_load_rowG (by kernel_rfl) 23 _ rfl (g3) rfl 23 (t.map V8).toArray (0, 0) _ (H.out.at 0 rfl) Try.underlying23 rfl (HZT.out) ?_); simp only [pA]) | (go_at_call 80; refine (HSE.out _ H.out.1).mono ?_; rintro e wa ⟨i, found, hp, rfl, hx⟩; have HPP := kp hp; clear hp; replace H := kp (H.out.ext hx); have HXC := kp hx; clear hx))
 go_ret2
 exact ⟨i, found, HPP.out, rfl, H.out.1⟩
theorem findE_bad {a : As} {l : List En} {t : List (BitVec 8)} (h : validA a l = false) : findE a l t = (en0, false) := by simp [findE, h]
theorem findE_of {a : As} {l : List En} {t : List (BitVec 8)} {i : Nat} {found : Bool} (hv : validA a l = true) (hl : ∀ e ∈ l, e.addr.length = 6) (ht : t.length = 6) (h : PlaceP l t i found) : findE a l t = (if found then (enAt l i, true) else (en0, false)) ∧ (found = true → i < l.length) := by
 obtain ⟨h1, h2⟩ := place_find h (sorted_of_valid hv) hl ht
 unfold findE
 cases found with
 | true =>
  obtain ⟨h3, h4⟩ := h2 rfl
  rw [hv, ← h1, h3]
  exact ⟨by simp, fun _ => h4⟩
 | false =>
  rw [hv, ← h1]
  exact ⟨by simp, fun h => by cases h⟩
set_option maxHeartbeats 6400000 in
theorem find_any (a : As) (ha : a.own.length = 6) (v : Value) (l : List En) (hl : ∀ x ∈ l, x.addr.length = 6) (hn : l.length ≤ 100000) (t : List (BitVec 8)) (ht : t.length = 6) (w : World) (hs : SlT 11 cellsE w v l) :
  Calls Try.prog 12 #[.agg (cellsA a v).toArray, .agg (t.map V8).toArray] w fun e w' => e = .returned (.tuple #[.agg (cellsE (findE a l t).1).toArray, .bool (findE a l t).2]) ∧ Ext w w' := by
 have HSL := kp hs
 have HCH := kp (fun w' hx => check_any a ha v l hl hn w' (HSL.out.ext hx))
 have HPL := kp (fun w' hx => place_any a ha v l hl hn t ht w' (HSL.out.ext hx))
 obtain ⟨ad, n, c, rfl, hnl, hcap, hat⟩ := hs
 have HAT := kp hat; have HNL := kp hnl; have HLK := kp hl; have H := kp (Loc.start w); have hn2 : n ≤ 100000 := by omega
 have HTK := kp ht
 have HC9 := kp (cA9 (a := a) (.slice ad n c) ha)
 have HZA := kp (sizeAs (a := a) (.slice ad n c) ha)
 have HZT := kp (sizeA8a ht)
 have HZE0 := kp (show (Try.prog.info? 39).map (·.size) = some (cellsE en0).toArray.size by kernel_rfl)
 have HOE := kp one_cellsE
 clear hat hl hnl hcap hn ht ha
 go_enter Try.func12, Try.ntmps12
 generalize h2 : ((Code.region 2 _ _ : Code).seq _) = C2
 go_wp2_with (first | ((with_reducible refine isBx 2 26 ?_); (with_reducible refine L_box H rfl 26 _ rfl (cellsA a (.slice ad n c)) rfl ?_); clear H; intro g2 w2 HGg2 HEg2 H; simp only [pA]) | ((with_reducible refine isBx 3 23 ?_); (with_reducible refine L_box H rfl 23 _ rfl (t.map V8) rfl ?_); clear H; intro g3 w3 HGg3 HEg3 H; simp only [pA]) | ((with_reducible refine isAl 4 39 ?_); (with_reducible refine L_alloc H rfl 39 rfl (cellsE en0) (fun _ _ => by kernel_rfl) ?_); clear H; intro g4 w4 HGg4 HEg4 H; simp only [pA]) | ((with_reducible refine isLd 26 ?_); (refine wpList_load_rowG (by kernel_rfl) 26 _ rfl (g2) rfl 26 (cellsA a (.slice ad n c)).toArray (0, 0) _ (H.out.at 2 rfl) Try.underlying26 rfl (HZA.out) ?_); simp only [pA]) | ((with_reducible refine isLd 23 ?_); (refine wpList_load_rowG (by kernel_rfl) 23 _ rfl (g3) rfl 23 (t.map V8).toArray (0, 0) _ (H.out.at 1 rfl) Try.underlying23 rfl (HZT.out) ?_); simp only [pA]) | (go_at_call 41; refine (HPL.out _ H.out.1).mono ?_; rintro e wa ⟨i, found, hp, rfl, hx⟩; have HPP := kp hp; clear hp; replace H := kp (H.out.ext hx); have HXC := kp hx; clear hx))
 subst h2
 cases hv : validA a l with
 | false =>
  have HCC := kp (chk_bad hv)
  have HF := kp (findE_bad (t := t) hv)
  clear hv
  rw [HCC.out] at HCH
  go_wp2_with (first | ((with_reducible refine isLd 26 ?_); (refine wpList_load_rowG (by kernel_rfl) 26 _ rfl (g2) rfl 26 (cellsA a (.slice ad n c)).toArray (0, 0) _ (H.out.at 2 rfl) Try.underlying26 rfl (HZA.out) ?_); simp only [pA]) | (go_at_call 20; refine (HCH.out _ H.out.1).mono ?_; rintro e wa ⟨rfl, hx⟩; replace H := kp (H.out.ext hx); have HXC := kp hx; clear hx) | ((with_reducible show wpList _ _ _ (Oper.mk (some 21) (Op.build 39 _) _ _ _ _ :: _) _ _); (refine L_bd (by kernel_rfl) 39 _ rfl (#[]) (by kernel_rfl) (cellsE en0) (fun _ => by kernel_rfl) ?_); simp only [pA]) | ((with_reducible refine isSt 39 ?_); (first | (refine L_store H rfl rfl 39 _ _ rfl 0 rfl rfl (cellsE en0) rfl (HZE0.out) (rfl) (HOE.out _) ?_; clear H; intro w9 HWw9 H; simp only [szA] at H) | (refine L_store H rfl rfl 39 _ _ rfl 1 rfl rfl (cellsE en0) rfl (HZE0.out) (rfl) (HOE.out _) ?_; clear H; intro w9 HWw9 H; simp only [ssA, szA] at H) | (refine L_store H rfl rfl 39 _ _ rfl 2 rfl rfl (cellsE en0) rfl (HZE0.out) (rfl) (HOE.out _) ?_; clear H; intro w9 HWw9 H; simp only [ssA, szA] at H) | (refine L_store H rfl rfl 39 _ _ rfl 3 rfl rfl (cellsE en0) rfl (HZE0.out) (rfl) (HOE.out _) ?_; clear H; intro w9 HWw9 H; simp only [ssA, szA] at H) | (refine L_store H rfl rfl 39 _ _ rfl 4 rfl rfl (cellsE en0) rfl (HZE0.out) (rfl) (HOE.out _) ?_; clear H; intro w9 HWw9 H; simp only [ssA, szA] at H) | (refine L_store H rfl rfl 39 _ _ rfl 5 rfl rfl (cellsE en0) rfl (HZE0.out) (rfl) (HOE.out _) ?_; clear H; intro w9 HWw9 H; simp only [ssA, szA] at H))))
  rw [HF.out]
  exact ret_row2 Try.results12 _ _ _ (0, 0) _ rfl _ rfl (H.out.at 0 rfl) Try.underlying39 rfl (HZE0.out) rfl ⟨rfl, H.out.1⟩
 | true =>
  have HCC := kp (chk_good hv)
  have HF := kp (findE_of hv HLK.out HTK.out HPP.out)
  clear hv
  rw [HCC.out] at HCH
  cases found with
  | false =>
   have HF := kp HF.out.1
   go_wp2_with (first | ((with_reducible refine isLd 26 ?_); (refine wpList_load_rowG (by kernel_rfl) 26 _ rfl (g2) rfl 26 (cellsA a (.slice ad n c)).toArray (0, 0) _ (H.out.at 2 rfl) Try.underlying26 rfl (HZA.out) ?_); simp only [pA]) | (go_at_call 20; refine (HCH.out _ H.out.1).mono ?_; rintro e wa ⟨rfl, hx⟩; replace H := kp (H.out.ext hx); have HXC := kp hx; clear hx) | ((with_reducible show wpList _ _ _ (Oper.mk (some 21) (Op.build 39 _) _ _ _ _ :: _) _ _); (refine L_bd (by kernel_rfl) 39 _ rfl (#[]) (by kernel_rfl) (cellsE en0) (fun _ => by kernel_rfl) ?_); simp only [pA]) | ((with_reducible refine isSt 39 ?_); (first | (refine L_store H rfl rfl 39 _ _ rfl 0 rfl rfl (cellsE en0) rfl (HZE0.out) (rfl) (HOE.out _) ?_; clear H; intro w9 HWw9 H; simp only [szA] at H) | (refine L_store H rfl rfl 39 _ _ rfl 1 rfl rfl (cellsE en0) rfl (HZE0.out) (rfl) (HOE.out _) ?_; clear H; intro w9 HWw9 H; simp only [ssA, szA] at H) | (refine L_store H rfl rfl 39 _ _ rfl 2 rfl rfl (cellsE en0) rfl (HZE0.out) (rfl) (HOE.out _) ?_; clear H; intro w9 HWw9 H; simp only [ssA, szA] at H) | (refine L_store H rfl rfl 39 _ _ rfl 3 rfl rfl (cellsE en0) rfl (HZE0.out) (rfl) (HOE.out _) ?_; clear H; intro w9 HWw9 H; simp only [ssA, szA] at H) | (refine L_store H rfl rfl 39 _ _ rfl 4 rfl rfl (cellsE en0) rfl (HZE0.out) (rfl) (HOE.out _) ?_; clear H; intro w9 HWw9 H; simp only [ssA, szA] at H) | (refine L_store H rfl rfl 39 _ _ rfl 5 rfl rfl (cellsE en0) rfl (HZE0.out) (rfl) (HOE.out _) ?_; clear H; intro w9 HWw9 H; simp only [ssA, szA] at H))))
   rw [show findE a l t = (en0, false) from HF.out]
   exact ret_row2 Try.results12 _ _ _ (0, 0) _ rfl _ rfl (H.out.at 0 rfl) Try.underlying39 rfl (HZE0.out) rfl ⟨rfl, H.out.1⟩
  | true =>
   have HIL := kp (HF.out.2 rfl)
   have HF := kp HF.out.1
   obtain ⟨x, hx⟩ : ∃ x, l[i]? = some x := ⟨l[i]'HIL.out, by simp⟩
   obtain ⟨b, off, rfl, hb, hr⟩ := HAT.out i x hx
   have HB := kp hb
   have HR := kp hr
   have HXA := kp (enAt_some hx)
   have HXK := kp (HLK.out x (List.mem_of_getElem? hx))
   have hin : i < n := by rw [HNL.out]; exact HIL.out
   clear hb hr hx
   have HZX := kp (sizeE HXK.out)
   have HZXa := kp (sizeEa HXK.out)
   have HLE := kp (show (cellsE en0).length = (cellsE x).length by rw [cellsE_len HXK.out]; rfl)
   go_wp2_with (first | ((with_reducible refine isLd 26 ?_); (refine wpList_load_rowG (by kernel_rfl) 26 _ rfl (g2) rfl 26 (cellsA a (.slice (some ⟨b, off, none⟩) n c)).toArray (0, 0) _ (H.out.at 2 rfl) Try.underlying26 rfl (HZA.out) ?_); simp only [pA]) | (go_at_call 20; refine (HCH.out _ H.out.1).mono ?_; rintro e wa ⟨rfl, hx⟩; replace H := kp (H.out.ext hx); have HXC := kp hx; clear hx; have hc9 := run_load_cell H.out 2 rfl _ _ HC9.out; have HR3 := kp (rangeAt_ext HR.out HB.out H.out.1)) | ((with_reducible refine isLd 39 ?_); (refine wpList_load_midG (by kernel_rfl) 39 _ rfl (b) (off + i * 11) rfl (cellsE x) _ (HR3.out) Try.underlying39 rfl (HZX.out) ?_); simp only [pA]) | ((with_reducible refine isSt 39 ?_); (first | (refine L_store H rfl rfl 39 _ _ rfl 0 rfl rfl (cellsE x) rfl (HZXa.out) (HLE.out) (HOE.out _) ?_; clear H; intro w9 HWw9 H; simp only [szA] at H) | (refine L_store H rfl rfl 39 _ _ rfl 1 rfl rfl (cellsE x) rfl (HZXa.out) (HLE.out) (HOE.out _) ?_; clear H; intro w9 HWw9 H; simp only [ssA, szA] at H) | (refine L_store H rfl rfl 39 _ _ rfl 2 rfl rfl (cellsE x) rfl (HZXa.out) (HLE.out) (HOE.out _) ?_; clear H; intro w9 HWw9 H; simp only [ssA, szA] at H) | (refine L_store H rfl rfl 39 _ _ rfl 3 rfl rfl (cellsE x) rfl (HZXa.out) (HLE.out) (HOE.out _) ?_; clear H; intro w9 HWw9 H; simp only [ssA, szA] at H) | (refine L_store H rfl rfl 39 _ _ rfl 4 rfl rfl (cellsE x) rfl (HZXa.out) (HLE.out) (HOE.out _) ?_; clear H; intro w9 HWw9 H; simp only [ssA, szA] at H) | (refine L_store H rfl rfl 39 _ _ rfl 5 rfl rfl (cellsE x) rfl (HZXa.out) (HLE.out) (HOE.out _) ?_; clear H; intro w9 HWw9 H; simp only [ssA, szA] at H))))
   rw [show findE a l t = (enAt l i, true) from HF.out, HXA.out]
   exact ret_row2 Try.results12 _ _ _ (0, 0) _ rfl _ rfl (H.out.at 0 rfl) Try.underlying39 rfl (HZXa.out) rfl ⟨rfl, H.out.1⟩
def nilV : Value := .slice none 0 0
def as0 : As := ⟨zero6, 0, 0, 0⟩
def newA (a : As) : As := if validA a [] then a else as0
def newE (a : As) : Int := if validA a [] then 0 else 2
theorem nil_ok : ∀ x ∈ ([] : List En), x.addr.length = 6 := fun x hx => by cases hx
theorem new_good {a : As} (h : validA a [] = true) : newA a = a ∧ newE a = 0 := by simp [newA, newE, h]
theorem new_bad {a : As} (h : validA a [] = false) : newA a = as0 ∧ newE a = 2 := by simp [newA, newE, h]
theorem one_cellsA (a : As) : (cellsA a nilV).toArray.all (·.oneCell') = true := by
 simp [cellsA, nilV, Value.oneCell', List.all_map]
theorem build_as (a : As) (ha : a.own.length = 6) (w : World) : (Instr.build 26 #[(0, .agg (a.own.map V8).toArray), (1, .int .i64 a.caps), (2, .int .i64 a.limit), (3, .int .i64 a.idle)]).run Try.prog w = .ok (.agg (cellsA a nilV).toArray) w := by
 obtain ⟨own, ca, li, id⟩ := a
 dsimp only at ha
 obtain ⟨_, _, _, _, _, _, rfl⟩ := six ha
 kernel_rfl
set_option maxHeartbeats 1600000 in
theorem new_any (a : As) (ha : a.own.length = 6) (w : World) :
  Calls Try.prog 10 #[.agg (a.own.map V8).toArray, .int .i64 a.caps, .int .i64 a.limit, .int .i64 a.idle] w fun e w' => e = .returned (.tuple #[.agg (cellsA (newA a) nilV).toArray, .int .i64 (newE a)]) ∧ Ext w w' := by
 have H := kp (Loc.start w)
 have HCH := kp (fun w' => check_any a ha nilV [] nil_ok (by simp) w' (SlT.nil w'))
 have HZ8 := kp (sizeA8a ha)
 have HZA := kp (sizeAs (a := a) nilV ha)
 have HZ0 := kp (sizeAs (a := as0) nilV rfl)
 have HLE := kp (show (cellsA as0 nilV).length = (cellsA a nilV).length by rw [cellsA_len _ ha]; rfl)
 have HOA := kp one_cellsA
 have HBD := kp (build_as a ha)
 clear ha
 go_enter Try.func10, Try.ntmps10
 generalize h2 : ((Code.region 2 _ _ : Code).seq _) = C2
 go_wp2_with (first | ((with_reducible refine isBx 4 23 ?_); (with_reducible refine L_box H rfl 23 _ rfl (a.own.map V8) rfl ?_); clear H; intro g4 w4 HGg4 HEg4 H; simp only [pA]) | ((with_reducible refine isAl 8 26 ?_); (with_reducible refine L_alloc H rfl 26 rfl (cellsA as0 nilV) (fun _ _ => by kernel_rfl) ?_); clear H; intro g8 w8 HGg8 HEg8 H; simp only [pA]) | ((with_reducible refine isLd 23 ?_); (refine wpList_load_rowG (by kernel_rfl) 23 _ rfl (g4) rfl 23 (a.own.map V8).toArray (0, 0) _ (H.out.at 1 rfl) Try.underlying23 rfl (HZ8.out) ?_); simp only [pA]) | ((with_reducible show wpList _ _ _ (Oper.mk (some 15) (Op.build 26 _) _ _ _ _ :: _) _ _); (refine L_bd (by kernel_rfl) 26 _ rfl (#[(0, .agg (a.own.map V8).toArray), (1, .int .i64 a.caps), (2, .int .i64 a.limit), (3, .int .i64 a.idle)]) (by kernel_rfl) (cellsA a nilV) (fun w => HBD.out w) ?_); simp only [pA]) | ((with_reducible refine isAl 10 26 ?_); (with_reducible refine L_alloc H rfl 26 rfl (cellsA as0 nilV) (fun _ _ => by kernel_rfl) ?_); clear H; intro g10 w10 HGg10 HEg10 H; simp only [pA]) | ((with_reducible refine isSt 26 ?_); (first | (refine L_store H rfl rfl 26 _ _ rfl 0 rfl rfl (cellsA a nilV) rfl (HZA.out) (HLE.out) (HOA.out _) ?_; clear H; intro w11 HWw11 H; simp only [szA] at H) | (refine L_store H rfl rfl 26 _ _ rfl 1 rfl rfl (cellsA a nilV) rfl (HZA.out) (HLE.out) (HOA.out _) ?_; clear H; intro w11 HWw11 H; simp only [ssA, szA] at H) | (refine L_store H rfl rfl 26 _ _ rfl 2 rfl rfl (cellsA a nilV) rfl (HZA.out) (HLE.out) (HOA.out _) ?_; clear H; intro w11 HWw11 H; simp only [ssA, szA] at H) | (refine L_store H rfl rfl 26 _ _ rfl 3 rfl rfl (cellsA a nilV) rfl (HZA.out) (HLE.out) (HOA.out _) ?_; clear H; intro w11 HWw11 H; simp only [ssA, szA] at H) | (refine L_store H rfl rfl 26 _ _ rfl 4 rfl rfl (cellsA a nilV) rfl (HZA.out) (HLE.out) (HOA.out _) ?_; clear H; intro w11 HWw11 H; simp only [ssA, szA] at H) | (refine L_store H rfl rfl 26 _ _ rfl 5 rfl rfl (cellsA a nilV) rfl (HZA.out) (HLE.out) (HOA.out _) ?_; clear H; intro w11 HWw11 H; simp only [ssA, szA] at H))))
 subst h2
 cases hv : validA a [] with
 | false =>
  have HN := kp (new_bad hv)
  have HCC := kp (chk_bad hv)
  clear hv
  rw [HCC.out] at HCH
  go_wp2_with (first | ((with_reducible refine isLd 26 ?_); (refine wpList_load_rowG (by kernel_rfl) 26 _ rfl (g10) rfl 26 (cellsA a nilV).toArray (0, 0) _ (H.out.at 0 rfl) Try.underlying26 rfl (HZA.out) ?_); simp only [pA]) | (go_at_call 20; refine (HCH.out _).mono ?_; rintro e wa ⟨rfl, hx⟩; replace H := kp (H.out.ext hx); have HXC := kp hx; clear hx) | ((with_reducible show wpList _ _ _ (Oper.mk (some 19) (Op.build 26 _) _ _ _ _ :: _) _ _); (refine L_bd (by kernel_rfl) 26 _ rfl (#[]) (by kernel_rfl) (cellsA as0 nilV) (fun _ => by kernel_rfl) ?_); simp only [pA]) | ((with_reducible refine isSt 26 ?_); (first | (refine L_store H rfl rfl 26 _ _ rfl 0 rfl rfl (cellsA as0 nilV) rfl (HZ0.out) (rfl) (HOA.out _) ?_; clear H; intro w12 HWw12 H; simp only [szA] at H) | (refine L_store H rfl rfl 26 _ _ rfl 1 rfl rfl (cellsA as0 nilV) rfl (HZ0.out) (rfl) (HOA.out _) ?_; clear H; intro w12 HWw12 H; simp only [ssA, szA] at H) | (refine L_store H rfl rfl 26 _ _ rfl 2 rfl rfl (cellsA as0 nilV) rfl (HZ0.out) (rfl) (HOA.out _) ?_; clear H; intro w12 HWw12 H; simp only [ssA, szA] at H) | (refine L_store H rfl rfl 26 _ _ rfl 3 rfl rfl (cellsA as0 nilV) rfl (HZ0.out) (rfl) (HOA.out _) ?_; clear H; intro w12 HWw12 H; simp only [ssA, szA] at H) | (refine L_store H rfl rfl 26 _ _ rfl 4 rfl rfl (cellsA as0 nilV) rfl (HZ0.out) (rfl) (HOA.out _) ?_; clear H; intro w12 HWw12 H; simp only [ssA, szA] at H) | (refine L_store H rfl rfl 26 _ _ rfl 5 rfl rfl (cellsA as0 nilV) rfl (HZ0.out) (rfl) (HOA.out _) ?_; clear H; intro w12 HWw12 H; simp only [ssA, szA] at H))))
  rw [HN.out.1, HN.out.2]
  exact ret_row2 Try.results10 _ _ _ (0, 0) _ rfl _ rfl (H.out.at 1 rfl) Try.underlying26 rfl (HZ0.out) rfl ⟨rfl, H.out.1⟩
 | true =>
  have HN := kp (new_good hv)
  have HCC := kp (chk_good hv)
  clear hv
  rw [HCC.out] at HCH
  go_wp2_with (first | ((with_reducible refine isLd 26 ?_); (refine wpList_load_rowG (by kernel_rfl) 26 _ rfl (g10) rfl 26 (cellsA a nilV).toArray (0, 0) _ (H.out.at 0 rfl) Try.underlying26 rfl (HZA.out) ?_); simp only [pA]) | (go_at_call 20; refine (HCH.out _).mono ?_; rintro e wa ⟨rfl, hx⟩; replace H := kp (H.out.ext hx); have HXC := kp hx; clear hx) | ((with_reducible refine isSt 26 ?_); (first | (refine L_store H rfl rfl 26 _ _ rfl 0 rfl rfl (cellsA a nilV) rfl (HZA.out) (HLE.out) (HOA.out _) ?_; clear H; intro w12 HWw12 H; simp only [szA] at H) | (refine L_store H rfl rfl 26 _ _ rfl 1 rfl rfl (cellsA a nilV) rfl (HZA.out) (HLE.out) (HOA.out _) ?_; clear H; intro w12 HWw12 H; simp only [ssA, szA] at H) | (refine L_store H rfl rfl 26 _ _ rfl 2 rfl rfl (cellsA a nilV) rfl (HZA.out) (HLE.out) (HOA.out _) ?_; clear H; intro w12 HWw12 H; simp only [ssA, szA] at H) | (refine L_store H rfl rfl 26 _ _ rfl 3 rfl rfl (cellsA a nilV) rfl (HZA.out) (HLE.out) (HOA.out _) ?_; clear H; intro w12 HWw12 H; simp only [ssA, szA] at H) | (refine L_store H rfl rfl 26 _ _ rfl 4 rfl rfl (cellsA a nilV) rfl (HZA.out) (HLE.out) (HOA.out _) ?_; clear H; intro w12 HWw12 H; simp only [ssA, szA] at H) | (refine L_store H rfl rfl 26 _ _ rfl 5 rfl rfl (cellsA a nilV) rfl (HZA.out) (HLE.out) (HOA.out _) ?_; clear H; intro w12 HWw12 H; simp only [ssA, szA] at H))))
  rw [HN.out.1, HN.out.2]
  exact ret_row2 Try.results10 _ _ _ (0, 0) _ rfl _ rfl (H.out.at 1 rfl) Try.underlying26 rfl (HZA.out) rfl ⟨rfl, H.out.1⟩
end Go.Proofs.Ytfecopfofkdnpaa
