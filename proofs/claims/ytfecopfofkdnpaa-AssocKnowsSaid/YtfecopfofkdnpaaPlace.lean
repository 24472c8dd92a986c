/- Searching: place, Find of both, ByAid. -/
import Derived.Test.YtfecopfofkdnpaaChk
namespace Go.Proofs.Ytfecopfofkdnpaa
open Go.RowKit
theorem placeF_any (s : En) (hs : s.addr.length = 6) (t : List (BitVec 8)) (ht : t.length = 6) (w : World) :
    Calls Try.prog 81 #[.agg (cellsE s).toArray, .agg (t.map V8).toArray] w fun e w' => e = .returned (.int .i64 (cmpF s.addr t)) ∧ Ext w w' := by
  have H := kp (Loc.start w)
  have HC := kp (compareA_any s.addr t hs ht)
  have HP := kp (cE0 hs)
  have HZ := kp (sizeA8 hs)
  have HZT := kp (sizeA8a ht)
  clear hs ht
  go_enter Try.func81, Try.ntmps81
  go_wp2_with (first | ((with_reducible show wpList _ _ _ (Oper.mk (some 2) (Op.box 39 _) _ _ _ _ :: _) _ _); (with_reducible refine L_box H rfl 39 _ rfl (cellsE s) rfl ?_); clear H; intro g2 w2 HGg2 HEg2 H; simp only [Act.put, List.setIfInBounds_toArray, List.set_cons_zero, List.set_cons_succ]) | ((with_reducible show wpList _ _ _ (Oper.mk (some 3) (Op.box 23 _) _ _ _ _ :: _) _ _); (with_reducible refine L_box H rfl 23 _ rfl (t.map V8) rfl ?_); clear H; intro g3 w3 HGg3 HEg3 H; simp only [Act.put, List.setIfInBounds_toArray, List.set_cons_zero, List.set_cons_succ]) | ((with_reducible show wpList _ _ _ (Oper.mk _ (Op.load 23 _) _ _ _ _ :: _) _ _); (first | (refine L_subG H (by kernel_rfl) 23 _ rfl 0 rfl (0) rfl (s.addr.map V8) (HP.out) Try.underlying23 rfl (HZ.out) ?_) | (refine L_subG H (by kernel_rfl) 23 _ rfl 1 rfl (0) rfl (s.addr.map V8) (HP.out) Try.underlying23 rfl (HZ.out) ?_) | (refine L_subG H (by kernel_rfl) 23 _ rfl 2 rfl (0) rfl (s.addr.map V8) (HP.out) Try.underlying23 rfl (HZ.out) ?_) | (refine L_subG H (by kernel_rfl) 23 _ rfl 3 rfl (0) rfl (s.addr.map V8) (HP.out) Try.underlying23 rfl (HZ.out) ?_) | (refine L_subG H (by kernel_rfl) 23 _ rfl 4 rfl (0) rfl (s.addr.map V8) (HP.out) Try.underlying23 rfl (HZ.out) ?_) | (refine L_subG H (by kernel_rfl) 23 _ rfl 5 rfl (0) rfl (s.addr.map V8) (HP.out) Try.underlying23 rfl (HZ.out) ?_)); simp only [Act.put, List.setIfInBounds_toArray, List.set_cons_zero, List.set_cons_succ]) | ((with_reducible show wpList _ _ _ (Oper.mk _ (Op.load 23 _) _ _ _ _ :: _) _ _); (refine wpList_load_rowG (by kernel_rfl) 23 _ rfl (g3) rfl 23 (t.map V8).toArray (0, 0) _ (H.out.at 0 rfl) Try.underlying23 rfl (HZT.out) ?_); simp only [Act.put, List.setIfInBounds_toArray, List.set_cons_zero, List.set_cons_succ]) | (go_at_call 54; refine (HC.out _).mono ?_; rintro e wa ⟨rfl, hx⟩; have H2 := kp (H.out.ext hx); have HXC := kp hx; clear H hx; have H := H2; clear H2))
  go_ret
  exact ⟨rfl, H.out.1⟩
/-- What the search knows of its bounds. -/
def SrP (l : List En) (t : List (BitVec 8)) (i j : Nat) : Prop := sortedF l → (∀ k, k < i → numF (enAt l k).addr < numF t) ∧ ∀ k, j ≤ k → k < l.length → numF t ≤ numF (enAt l k).addr
theorem SrP.up {l : List En} {t : List (BitVec 8)} {i j h : Nat} (p : SrP l t i j) (hh : h < l.length) (c : numF (enAt l h).addr < numF t) : SrP l t (h + 1) j := fun hs => by
  obtain ⟨h1, h2⟩ := p hs
  refine ⟨fun k hk => ?_, h2⟩
  rcases Nat.lt_succ_iff_lt_or_eq.1 hk with q | q
  · exact Nat.lt_trans (sorted_lt hs q hh) c
  · subst q; exact c
theorem SrP.down {l : List En} {t : List (BitVec 8)} {i j h : Nat} (p : SrP l t i j) (c : numF t ≤ numF (enAt l h).addr) : SrP l t i h := fun hs => by
  obtain ⟨h1, h2⟩ := p hs
  refine ⟨h1, fun k hk hl => ?_⟩
  rcases Nat.lt_or_eq_of_le hk with q | q
  · exact Nat.le_of_lt (Nat.lt_of_le_of_lt c (sorted_lt hs q hl))
  · subst q; exact c
set_option maxHeartbeats 6400000 in
theorem search_any (v : Value) (l : List En) (hl : ∀ x ∈ l, x.addr.length = 6) (hn : l.length ≤ 100000) (t : List (BitVec 8)) (ht : t.length = 6) (w : World) (hs : SlT 11 cellsE w v l) :
    Calls Try.prog 80 #[v, .agg (t.map V8).toArray, .func (.func 81) #[] #[]] w fun e w' => ∃ (i : Nat) (found : Bool), PlaceP l t i found ∧ e = .returned (.tuple #[.int .i64 i, .bool found]) ∧ Ext w w' := by
  obtain ⟨ad, n, c, rfl, hnl, hcap, hat⟩ := hs
  have HAT := kp hat; have HNL := kp hnl; have HLK := kp hl; have H := kp (Loc.start w); have hn2 : n ≤ 100000 := by omega
  have HTK := kp ht
  have HZT := kp (sizeA8a ht)
  clear hat hl hnl hcap hn ht
  go_enter Try.func80, Try.ntmps80
  go_wp2_with (first | ((with_reducible show wpList _ _ _ (Oper.mk (some 4) (Op.box 23 _) _ _ _ _ :: _) _ _); (with_reducible refine L_box H rfl 23 _ rfl (t.map V8) rfl ?_); clear H; intro g4 w4 HGg4 HEg4 H; simp only [Act.put, List.setIfInBounds_toArray, List.set_cons_zero, List.set_cons_succ]))
  go_loopw [9, 10] (fun i j wr => ∃ p q : Nat, p ≤ q ∧ q ≤ n ∧ i = .int .i64 p ∧ j = .int .i64 q ∧ Kp (SrP l t p q) ∧ Kp (Loc w wr [(g4, 23, t.map V8)])) (fun i j _ => (intOf j).toNat - (intOf i).toNat)
  case atStart => exact ⟨0, n, by omega, Nat.le_refl _, rfl, rfl, kp (fun _ => ⟨fun k hk => by omega, fun k hk hl => by have := HNL.out; omega⟩), H⟩
  case round =>
    obtain ⟨p, q, hpq, hqn, rfl, rfl, HS, H⟩ := hrel
    by_cases hlt : p < q
    · go_wp2_with fail
      obtain ⟨h, hh⟩ : ∃ h : Nat, h = (p + q) / 2 := ⟨_, rfl⟩
      have eh : ((p : Int) + (q : Int)) / 2 = (h : Nat) := by omega
      have hph : p ≤ h := by omega
      have hhq : h < q := by omega
      have HHL := kp (show h < l.length by have := HNL.out; omega)
      obtain ⟨x, hx⟩ : ∃ x, l[h]? = some x := ⟨l[h]'HHL.out, by simp⟩
      obtain ⟨b, off, rfl, hb, hr⟩ := HAT.out h x hx
      have HB := kp hb
      have HR := kp hr
      have HXA := kp (enAt_some hx)
      have HXK := kp (HLK.out x (List.mem_of_getElem? hx))
      clear hb hr hx
      have HZX := kp (sizeE HXK.out)
      have HPF := kp (placeF_any x HXK.out t HTK.out)
      rw [eh]
      clear eh hh
      refine region_free H (tabS [(24, fun zv _ => zv = .func (.func 81) #[] #[]), (25, fun zv _ => zv = .slice (some ⟨b, off, none⟩) n c), (26, fun zv _ => zv = .int .i64 h), (27, fun zv _ => zv = .pointer (some ⟨b, off + h * 11, none⟩)), (28, fun zv _ => zv = .agg (cellsE x).toArray), (29, fun zv _ => zv = .agg (t.map V8).toArray), (30, fun zv _ => zv = .int .i64 (cmpF x.addr t)), (31, fun zv _ => zv = .bool (decide (cmpF x.addr t < 0)))]) [] (tabS_out _ _ (by simp only [List.forall_mem_cons]; exact ⟨mono_eqO _ _, mono_eqO _ _, mono_eqO _ _, mono_eqO _ _, mono_eqO _ _, mono_eqO _ _, mono_eqO _ _, mono_eqO _ _, by simp⟩)) 8 (by kernel_rfl) (by kernel_rfl) (by kernel_rfl) (by kernel_rfl) [] [] rfl rfl (by decide) (by decide) (by decide) trivial ?_
      simp only [List.take_succ_cons, List.take_zero]
      refine ⟨fun wv24 hov24 hSv24 => ?_, fun v24 => ?_⟩
      · clear hSv24
        clear hov24
        go_wp2_with fail
        exact ⟨rfl, _, rfl, fun d hd => by cases hd; exact rfl, Ext.refl _⟩
      simp only [Act.put, List.setIfInBounds_toArray, List.set_cons_zero, List.set_cons_succ]
      refine ⟨fun wv25 hov25 hSv25 => ?_, fun v25 => ?_⟩
      · clear hSv25
        clear hov25
        go_wp2_with fail
        exact ⟨rfl, _, rfl, fun d hd => by cases hd; exact rfl, Ext.refl _⟩
      simp only [Act.put, List.setIfInBounds_toArray, List.set_cons_zero, List.set_cons_succ]
      refine ⟨fun wv26 hov26 hSv26 => ?_, fun v26 => ?_⟩
      · clear hSv26
        clear hov26
        go_wp2_with fail
        exact ⟨rfl, _, rfl, fun d hd => by cases hd; exact rfl, Ext.refl _⟩
      simp only [Act.put, List.setIfInBounds_toArray, List.set_cons_zero, List.set_cons_succ]
      refine ⟨fun wv27 hov27 hSv27 => ?_, fun v27 => ?_⟩
      · obtain rfl : v25 = .slice (some ⟨b, off, none⟩) n c := hSv27 25 (by decide) (by decide)
        obtain rfl : v26 = .int .i64 h := hSv27 26 (by decide) (by decide)
        clear hSv27
        clear hov27
        go_wp2_with fail
        exact ⟨rfl, _, rfl, fun d hd => by cases hd; exact rfl, Ext.refl _⟩
      simp only [Act.put, List.setIfInBounds_toArray, List.set_cons_zero, List.set_cons_succ]
      refine ⟨fun wv28 hov28 hSv28 => ?_, fun v28 => ?_⟩
      · obtain rfl : v27 = .pointer (some ⟨b, off + h * 11, none⟩) := hSv28 27 (by decide) (by decide)
        clear hSv28
        have H := kp (H.out.keep [0] (St := []) trivial hov28 (by decide) (by kernel_rfl))
        have HOX := kp hov28
        clear hov28
        go_wp2_with ((with_reducible show wpList _ _ _ (Oper.mk _ (Op.load 39 _) _ _ _ _ :: _) _ _); (refine wpList_load_midG (by kernel_rfl) 39 _ rfl (b) (off + h * 11) rfl (cellsE x) _ ((rangeAt_ext HR.out HB.out H.out.1)) Try.underlying39 rfl (HZX.out) ?_); simp only [Act.put, List.setIfInBounds_toArray, List.set_cons_zero, List.set_cons_succ])
        exact ⟨rfl, _, rfl, fun d hd => by cases hd; exact rfl, Ext.refl _⟩
      simp only [Act.put, List.setIfInBounds_toArray, List.set_cons_zero, List.set_cons_succ]
      refine ⟨fun wv29 hov29 hSv29 => ?_, fun v29 => ?_⟩
      · clear hSv29
        have H := kp (H.out.keep [0] (St := []) trivial hov29 (by decide) (by kernel_rfl))
        have HOX := kp hov29
        clear hov29
        go_wp2_with ((with_reducible show wpList _ _ _ (Oper.mk _ (Op.load 23 _) _ _ _ _ :: _) _ _); (first | (refine L_load H rfl 23 _ rfl 0 rfl rfl Try.underlying23 rfl (HZT.out) ?_) | (refine L_load H rfl 23 _ rfl 1 rfl rfl Try.underlying23 rfl (HZT.out) ?_) | (refine L_load H rfl 23 _ rfl 2 rfl rfl Try.underlying23 rfl (HZT.out) ?_) | (refine L_load H rfl 23 _ rfl 3 rfl rfl Try.underlying23 rfl (HZT.out) ?_) | (refine L_load H rfl 23 _ rfl 4 rfl rfl Try.underlying23 rfl (HZT.out) ?_) | (refine L_load H rfl 23 _ rfl 5 rfl rfl Try.underlying23 rfl (HZT.out) ?_)); simp only [Act.put, List.setIfInBounds_toArray, List.set_cons_zero, List.set_cons_succ])
        exact ⟨rfl, _, rfl, fun d hd => by cases hd; exact rfl, Ext.refl _⟩
      simp only [Act.put, List.setIfInBounds_toArray, List.set_cons_zero, List.set_cons_succ]
      refine ⟨fun wv30 hov30 hSv30 => ?_, fun v30 => ?_⟩
      · obtain rfl : v24 = .func (.func 81) #[] #[] := hSv30 24 (by decide) (by decide)
        obtain rfl : v28 = .agg (cellsE x).toArray := hSv30 28 (by decide) (by decide)
        obtain rfl : v29 = .agg (t.map V8).toArray := hSv30 29 (by decide) (by decide)
        clear hSv30
        have H := kp (H.out.keep [0] (St := []) trivial hov30 (by decide) (by kernel_rfl))
        have HOX := kp hov30
        clear hov30
        go_wp2_with fail
        refine (HPF.out _).mono ?_
        rintro e w2 ⟨rfl, hx⟩
        have HXW := kp hx
        clear hx
        go_wp2_with fail
        exact ⟨rfl, _, rfl, fun d hd => by cases hd; exact rfl, HXW.out⟩
      simp only [Act.put, List.setIfInBounds_toArray, List.set_cons_zero, List.set_cons_succ]
      refine ⟨fun wv31 hov31 hSv31 => ?_, fun v31 => ?_⟩
      · obtain rfl : v30 = .int .i64 (cmpF x.addr t) := hSv31 30 (by decide) (by decide)
        clear hSv31
        clear hov31
        go_wp2_with fail
        exact ⟨rfl, _, rfl, fun d hd => by cases hd; exact rfl, Ext.refl _⟩
      simp only [Act.put, List.setIfInBounds_toArray, List.set_cons_zero, List.set_cons_succ]
      clear H
      intro w5 HOX H hfin
      obtain rfl : v24 = .func (.func 81) #[] #[] := hfin 24 (by decide)
      obtain rfl : v25 = .slice (some ⟨b, off, none⟩) n c := hfin 25 (by decide)
      obtain rfl : v26 = .int .i64 h := hfin 26 (by decide)
      obtain rfl : v27 = .pointer (some ⟨b, off + h * 11, none⟩) := hfin 27 (by decide)
      obtain rfl : v28 = .agg (cellsE x).toArray := hfin 28 (by decide)
      obtain rfl : v29 = .agg (t.map V8).toArray := hfin 29 (by decide)
      obtain rfl : v30 = .int .i64 (cmpF x.addr t) := hfin 30 (by decide)
      obtain rfl : v31 = .bool (decide (cmpF x.addr t < 0)) := hfin 31 (by decide)
      clear hfin
      simp only [List.drop_succ_cons, List.drop_zero]
      simp only [applyS] at H
      have HXN := kp (HOX.out.ext (Ext.refl wr) (fun g hg => by cases hg))
      cases hc : decide (cmpF x.addr t < 0) with
      | true =>
        have HC := kp (HS.out.up HHL.out (by rw [HXA.out]; exact cmp_neg.1 (of_decide_eq_true hc)))
        clear hc
        go_wp2_with fail
        go_roundw
        case rel => exact ⟨h + 1, q, by omega, hqn, by go_num, rfl, HC, H⟩
        case measure => simp [intOf]; omega
      | false =>
        have HC := kp (HS.out.down (h := h) (by rw [HXA.out]; have := of_decide_eq_false hc; rw [cmp_neg] at this; omega))
        clear hc
        go_wp2_with fail
        go_roundw
        case rel => exact ⟨p, h, hph, by omega, rfl, by go_num, HC, H⟩
        case measure => simp [intOf]; omega
    · obtain rfl : p = q := by omega
      by_cases hpn : p < n
      · have HHL := kp (show p < l.length by have := HNL.out; omega)
        obtain ⟨x, hx⟩ : ∃ x, l[p]? = some x := ⟨l[p]'HHL.out, by simp⟩
        obtain ⟨b, off, rfl, hb, hr⟩ := HAT.out p x hx
        have HB := kp hb
        have HR := kp hr
        have HXA := kp (enAt_some hx)
        have HXK := kp (HLK.out x (List.mem_of_getElem? hx))
        clear hb hr hx
        have HZX := kp (sizeE HXK.out)
        have HPF := kp (placeF_any x HXK.out t HTK.out)
        have HPP := kp (show PlaceP l t p (cmpF x.addr t == 0) from ⟨Nat.le_of_lt HHL.out, by rw [HXA.out, decide_eq_true HHL.out]; refine Bool.eq_iff_iff.2 ?_; simp [cmp_zero], HS.out⟩)
        go_wp2_with fail
        refine region_free H (tabS [(35, fun zv _ => zv = .int .i64 p), (36, fun zv _ => zv = .int .i64 p), (37, fun zv _ => zv = .int .i64 n), (38, fun zv _ => zv = .bool true), (39, fun zv _ => zv = .bool true), (40, fun zv _ => zv = .func (.func 81) #[] #[]), (41, fun zv _ => zv = .slice (some ⟨b, off, none⟩) n c), (42, fun zv _ => zv = .int .i64 p), (43, fun zv _ => zv = .pointer (some ⟨b, off + p * 11, none⟩)), (44, fun zv _ => zv = .agg (cellsE x).toArray), (45, fun zv _ => zv = .agg (t.map V8).toArray), (46, fun zv _ => zv = .int .i64 (cmpF x.addr t)), (47, fun zv _ => zv = .bool (cmpF x.addr t == 0)), (48, fun zv _ => zv = .bool (cmpF x.addr t == 0)), (6, fun zv _ => zv = .int .i64 p), (7, fun zv _ => zv = .bool (cmpF x.addr t == 0))]) [] (tabS_out _ _ (by simp only [List.forall_mem_cons]; exact ⟨mono_eqO _ _, mono_eqO _ _, mono_eqO _ _, mono_eqO _ _, mono_eqO _ _, mono_eqO _ _, mono_eqO _ _, mono_eqO _ _, mono_eqO _ _, mono_eqO _ _, mono_eqO _ _, mono_eqO _ _, mono_eqO _ _, mono_eqO _ _, mono_eqO _ _, mono_eqO _ _, by simp⟩)) 16 (by kernel_rfl) (by kernel_rfl) (by kernel_rfl) (by kernel_rfl) [] [] rfl rfl (by decide) (by decide) (by decide) trivial ?_
        simp only [List.take_succ_cons, List.take_zero]
        refine ⟨fun wv35 hov35 hSv35 => ?_, fun v35 => ?_⟩
        · clear hSv35
          clear hov35
          go_wp2_with fail
          exact ⟨rfl, _, rfl, fun d hd => by cases hd; exact rfl, Ext.refl _⟩
        simp only [Act.put, List.setIfInBounds_toArray, List.set_cons_zero, List.set_cons_succ]
        refine ⟨fun wv36 hov36 hSv36 => ?_, fun v36 => ?_⟩
        · clear hSv36
          clear hov36
          go_wp2_with fail
          exact ⟨rfl, _, rfl, fun d hd => by cases hd; exact rfl, Ext.refl _⟩
        simp only [Act.put, List.setIfInBounds_toArray, List.set_cons_zero, List.set_cons_succ]
        refine ⟨fun wv37 hov37 hSv37 => ?_, fun v37 => ?_⟩
        · clear hSv37
          clear hov37
          go_wp2_with fail
          exact ⟨rfl, _, rfl, fun d hd => by cases hd; exact rfl, Ext.refl _⟩
        simp only [Act.put, List.setIfInBounds_toArray, List.set_cons_zero, List.set_cons_succ]
        refine ⟨fun wv38 hov38 hSv38 => ?_, fun v38 => ?_⟩
        · obtain rfl : v36 = .int .i64 p := hSv38 36 (by decide) (by decide)
          obtain rfl : v37 = .int .i64 n := hSv38 37 (by decide) (by decide)
          clear hSv38
          clear hov38
          go_wp2_with fail
          exact ⟨rfl, _, rfl, fun d hd => by cases hd; exact rfl, Ext.refl _⟩
        simp only [Act.put, List.setIfInBounds_toArray, List.set_cons_zero, List.set_cons_succ]
        refine ⟨fun wv39 hov39 hSv39 => ?_, fun v39 => ?_⟩
        · obtain rfl : v38 = .bool true := hSv39 38 (by decide) (by decide)
          clear hSv39
          clear hov39
          go_wp2_with fail
          exact ⟨rfl, _, rfl, fun d hd => by cases hd; exact rfl, Ext.refl _⟩
        simp only [Act.put, List.setIfInBounds_toArray, List.set_cons_zero, List.set_cons_succ]
        refine ⟨fun wv40 hov40 hSv40 => ?_, fun v40 => ?_⟩
        · obtain rfl : v39 = .bool true := hSv40 39 (by decide) (by decide)
          clear hSv40
          clear hov40
          go_wp2_with fail
          exact ⟨rfl, _, rfl, fun d hd => by cases hd; exact rfl, Ext.refl _⟩
        simp only [Act.put, List.setIfInBounds_toArray, List.set_cons_zero, List.set_cons_succ]
        refine ⟨fun wv41 hov41 hSv41 => ?_, fun v41 => ?_⟩
        · obtain rfl : v39 = .bool true := hSv41 39 (by decide) (by decide)
          clear hSv41
          clear hov41
          go_wp2_with fail
          exact ⟨rfl, _, rfl, fun d hd => by cases hd; exact rfl, Ext.refl _⟩
        simp only [Act.put, List.setIfInBounds_toArray, List.set_cons_zero, List.set_cons_succ]
        refine ⟨fun wv42 hov42 hSv42 => ?_, fun v42 => ?_⟩
        · obtain rfl : v39 = .bool true := hSv42 39 (by decide) (by decide)
          clear hSv42
          clear hov42
          go_wp2_with fail
          exact ⟨rfl, _, rfl, fun d hd => by cases hd; exact rfl, Ext.refl _⟩
        simp only [Act.put, List.setIfInBounds_toArray, List.set_cons_zero, List.set_cons_succ]
        refine ⟨fun wv43 hov43 hSv43 => ?_, fun v43 => ?_⟩
        · obtain rfl : v39 = .bool true := hSv43 39 (by decide) (by decide)
          obtain rfl : v41 = .slice (some ⟨b, off, none⟩) n c := hSv43 41 (by decide) (by decide)
          obtain rfl : v42 = .int .i64 p := hSv43 42 (by decide) (by decide)
          clear hSv43
          clear hov43
          go_wp2_with fail
          exact ⟨rfl, _, rfl, fun d hd => by cases hd; exact rfl, Ext.refl _⟩
        simp only [Act.put, List.setIfInBounds_toArray, List.set_cons_zero, List.set_cons_succ]
        refine ⟨fun wv44 hov44 hSv44 => ?_, fun v44 => ?_⟩
        · obtain rfl : v39 = .bool true := hSv44 39 (by decide) (by decide)
          obtain rfl : v43 = .pointer (some ⟨b, off + p * 11, none⟩) := hSv44 43 (by decide) (by decide)
          clear hSv44
          have H := kp (H.out.keep [0] (St := []) trivial hov44 (by decide) (by kernel_rfl))
          have HOX := kp hov44
          clear hov44
          go_wp2_with ((with_reducible show wpList _ _ _ (Oper.mk _ (Op.load 39 _) _ _ _ _ :: _) _ _); (refine wpList_load_midG (by kernel_rfl) 39 _ rfl (b) (off + p * 11) rfl (cellsE x) _ ((rangeAt_ext HR.out HB.out H.out.1)) Try.underlying39 rfl (HZX.out) ?_); simp only [Act.put, List.setIfInBounds_toArray, List.set_cons_zero, List.set_cons_succ])
          exact ⟨rfl, _, rfl, fun d hd => by cases hd; exact rfl, Ext.refl _⟩
        simp only [Act.put, List.setIfInBounds_toArray, List.set_cons_zero, List.set_cons_succ]
        refine ⟨fun wv45 hov45 hSv45 => ?_, fun v45 => ?_⟩
        · obtain rfl : v39 = .bool true := hSv45 39 (by decide) (by decide)
          clear hSv45
          have H := kp (H.out.keep [0] (St := []) trivial hov45 (by decide) (by kernel_rfl))
          have HOX := kp hov45
          clear hov45
          go_wp2_with ((with_reducible show wpList _ _ _ (Oper.mk _ (Op.load 23 _) _ _ _ _ :: _) _ _); (first | (refine L_loadG H (by kernel_rfl) 23 _ rfl 0 rfl rfl Try.underlying23 rfl (HZT.out) ?_) | (refine L_loadG H (by kernel_rfl) 23 _ rfl 1 rfl rfl Try.underlying23 rfl (HZT.out) ?_) | (refine L_loadG H (by kernel_rfl) 23 _ rfl 2 rfl rfl Try.underlying23 rfl (HZT.out) ?_) | (refine L_loadG H (by kernel_rfl) 23 _ rfl 3 rfl rfl Try.underlying23 rfl (HZT.out) ?_) | (refine L_loadG H (by kernel_rfl) 23 _ rfl 4 rfl rfl Try.underlying23 rfl (HZT.out) ?_) | (refine L_loadG H (by kernel_rfl) 23 _ rfl 5 rfl rfl Try.underlying23 rfl (HZT.out) ?_)); simp only [Act.put, List.setIfInBounds_toArray, List.set_cons_zero, List.set_cons_succ])
          exact ⟨rfl, _, rfl, fun d hd => by cases hd; exact rfl, Ext.refl _⟩
        simp only [Act.put, List.setIfInBounds_toArray, List.set_cons_zero, List.set_cons_succ]
        refine ⟨fun wv46 hov46 hSv46 => ?_, fun v46 => ?_⟩
        · obtain rfl : v39 = .bool true := hSv46 39 (by decide) (by decide)
          obtain rfl : v40 = .func (.func 81) #[] #[] := hSv46 40 (by decide) (by decide)
          obtain rfl : v44 = .agg (cellsE x).toArray := hSv46 44 (by decide) (by decide)
          obtain rfl : v45 = .agg (t.map V8).toArray := hSv46 45 (by decide) (by decide)
          clear hSv46
          have H := kp (H.out.keep [0] (St := []) trivial hov46 (by decide) (by kernel_rfl))
          have HOX := kp hov46
          clear hov46
          go_wp2_with fail
          refine (HPF.out _).mono ?_
          rintro e w2 ⟨rfl, hx⟩
          have HXW := kp hx
          clear hx
          go_wp2_with fail
          exact ⟨rfl, _, rfl, fun d hd => by cases hd; exact rfl, HXW.out⟩
        simp only [Act.put, List.setIfInBounds_toArray, List.set_cons_zero, List.set_cons_succ]
        refine ⟨fun wv47 hov47 hSv47 => ?_, fun v47 => ?_⟩
        · obtain rfl : v39 = .bool true := hSv47 39 (by decide) (by decide)
          obtain rfl : v46 = .int .i64 (cmpF x.addr t) := hSv47 46 (by decide) (by decide)
          clear hSv47
          clear hov47
          go_wp2_with fail
          exact ⟨rfl, _, rfl, fun d hd => by cases hd; exact rfl, Ext.refl _⟩
        simp only [Act.put, List.setIfInBounds_toArray, List.set_cons_zero, List.set_cons_succ]
        refine ⟨fun wv48 hov48 hSv48 => ?_, fun v48 => ?_⟩
        · obtain rfl : v39 = .bool true := hSv48 39 (by decide) (by decide)
          obtain rfl : v47 = .bool (cmpF x.addr t == 0) := hSv48 47 (by decide) (by decide)
          clear hSv48
          clear hov48
          go_wp2_with fail
          exact ⟨rfl, _, rfl, fun d hd => by cases hd; exact rfl, Ext.refl _⟩
        simp only [Act.put, List.setIfInBounds_toArray, List.set_cons_zero, List.set_cons_succ]
        refine ⟨fun wv6 hov6 hSv6 => ?_, fun v6 => ?_⟩
        · obtain rfl : v35 = .int .i64 p := hSv6 35 (by decide) (by decide)
          clear hSv6
          clear hov6
          go_wp2_with fail
          exact ⟨rfl, _, rfl, fun d hd => by cases hd; exact rfl, Ext.refl _⟩
        simp only [Act.put, List.setIfInBounds_toArray, List.set_cons_zero, List.set_cons_succ]
        refine ⟨fun wv7 hov7 hSv7 => ?_, fun v7 => ?_⟩
        · obtain rfl : v48 = .bool (cmpF x.addr t == 0) := hSv7 48 (by decide) (by decide)
          clear hSv7
          clear hov7
          go_wp2_with fail
          exact ⟨rfl, _, rfl, fun d hd => by cases hd; exact rfl, Ext.refl _⟩
        simp only [Act.put, List.setIfInBounds_toArray, List.set_cons_zero, List.set_cons_succ]
        clear H
        intro w5 HOX H hfin
        obtain rfl : v35 = .int .i64 p := hfin 35 (by decide)
        obtain rfl : v36 = .int .i64 p := hfin 36 (by decide)
        obtain rfl : v37 = .int .i64 n := hfin 37 (by decide)
        obtain rfl : v38 = .bool true := hfin 38 (by decide)
        obtain rfl : v39 = .bool true := hfin 39 (by decide)
        obtain rfl : v40 = .func (.func 81) #[] #[] := hfin 40 (by decide)
        obtain rfl : v41 = .slice (some ⟨b, off, none⟩) n c := hfin 41 (by decide)
        obtain rfl : v42 = .int .i64 p := hfin 42 (by decide)
        obtain rfl : v43 = .pointer (some ⟨b, off + p * 11, none⟩) := hfin 43 (by decide)
        obtain rfl : v44 = .agg (cellsE x).toArray := hfin 44 (by decide)
        obtain rfl : v45 = .agg (t.map V8).toArray := hfin 45 (by decide)
        obtain rfl : v46 = .int .i64 (cmpF x.addr t) := hfin 46 (by decide)
        obtain rfl : v47 = .bool (cmpF x.addr t == 0) := hfin 47 (by decide)
        obtain rfl : v48 = .bool (cmpF x.addr t == 0) := hfin 48 (by decide)
        obtain rfl : v6 = .int .i64 p := hfin 6 (by decide)
        obtain rfl : v7 = .bool (cmpF x.addr t == 0) := hfin 7 (by decide)
        clear hfin
        simp only [List.drop_succ_cons, List.drop_zero]
        simp only [applyS] at H
        have HXN := kp (HOX.out.ext (Ext.refl wr) (fun g hg => by cases hg))
        go_wp2_with fail
        go_ret2
        exact ⟨p, _, HPP.out, rfl, H.out.1⟩
      · have HPP := kp (show PlaceP l t p false from ⟨by have := HNL.out; omega, by rw [decide_eq_false (by have := HNL.out; omega)]; rfl, HS.out⟩)
        go_wp2_with fail
        refine region_free H (tabS [(35, fun zv _ => zv = .int .i64 p), (36, fun zv _ => zv = .int .i64 p), (37, fun zv _ => zv = .int .i64 n), (38, fun zv _ => zv = .bool false), (39, fun zv _ => zv = .bool false), (40, fun zv _ => zv = undef), (41, fun zv _ => zv = undef), (42, fun zv _ => zv = undef), (43, fun zv _ => zv = undef), (44, fun zv _ => zv = undef), (45, fun zv _ => zv = undef), (46, fun zv _ => zv = undef), (47, fun zv _ => zv = undef), (48, fun zv _ => zv = .bool false), (6, fun zv _ => zv = .int .i64 p), (7, fun zv _ => zv = .bool false)]) [] (tabS_out _ _ (by simp only [List.forall_mem_cons]; exact ⟨mono_eqO _ _, mono_eqO _ _, mono_eqO _ _, mono_eqO _ _, mono_eqO _ _, mono_eqO _ _, mono_eqO _ _, mono_eqO _ _, mono_eqO _ _, mono_eqO _ _, mono_eqO _ _, mono_eqO _ _, mono_eqO _ _, mono_eqO _ _, mono_eqO _ _, mono_eqO _ _, by simp⟩)) 16 (by kernel_rfl) (by kernel_rfl) (by kernel_rfl) (by kernel_rfl) [] [] rfl rfl (by decide) (by decide) (by decide) trivial ?_
        simp only [List.take_succ_cons, List.take_zero]
        refine ⟨fun wv35 hov35 hSv35 => ?_, fun v35 => ?_⟩
        · clear hSv35
          clear hov35
          go_wp2_with fail
          exact ⟨rfl, _, rfl, fun d hd => by cases hd; exact rfl, Ext.refl _⟩
        simp only [Act.put, List.setIfInBounds_toArray, List.set_cons_zero, List.set_cons_succ]
        refine ⟨fun wv36 hov36 hSv36 => ?_, fun v36 => ?_⟩
        · clear hSv36
          clear hov36
          go_wp2_with fail
          exact ⟨rfl, _, rfl, fun d hd => by cases hd; exact rfl, Ext.refl _⟩
        simp only [Act.put, List.setIfInBounds_toArray, List.set_cons_zero, List.set_cons_succ]
        refine ⟨fun wv37 hov37 hSv37 => ?_, fun v37 => ?_⟩
        · clear hSv37
          clear hov37
          go_wp2_with fail
          exact ⟨rfl, _, rfl, fun d hd => by cases hd; exact rfl, Ext.refl _⟩
        simp only [Act.put, List.setIfInBounds_toArray, List.set_cons_zero, List.set_cons_succ]
        refine ⟨fun wv38 hov38 hSv38 => ?_, fun v38 => ?_⟩
        · obtain rfl : v36 = .int .i64 p := hSv38 36 (by decide) (by decide)
          obtain rfl : v37 = .int .i64 n := hSv38 37 (by decide) (by decide)
          clear hSv38
          clear hov38
          go_wp2_with fail
          exact ⟨rfl, _, rfl, fun d hd => by cases hd; exact rfl, Ext.refl _⟩
        simp only [Act.put, List.setIfInBounds_toArray, List.set_cons_zero, List.set_cons_succ]
        refine ⟨fun wv39 hov39 hSv39 => ?_, fun v39 => ?_⟩
        · obtain rfl : v38 = .bool false := hSv39 38 (by decide) (by decide)
          clear hSv39
          clear hov39
          go_wp2_with fail
          exact ⟨rfl, _, rfl, fun d hd => by cases hd; exact rfl, Ext.refl _⟩
        simp only [Act.put, List.setIfInBounds_toArray, List.set_cons_zero, List.set_cons_succ]
        refine ⟨fun wv40 hov40 hSv40 => ?_, fun v40 => ?_⟩
        · obtain rfl : v39 = .bool false := hSv40 39 (by decide) (by decide)
          clear hSv40
          clear hov40
          go_wp2_with fail
          exact ⟨rfl, _, rfl, fun d hd => by cases hd; exact rfl, Ext.refl _⟩
        simp only [Act.put, List.setIfInBounds_toArray, List.set_cons_zero, List.set_cons_succ]
        refine ⟨fun wv41 hov41 hSv41 => ?_, fun v41 => ?_⟩
        · obtain rfl : v39 = .bool false := hSv41 39 (by decide) (by decide)
          clear hSv41
          clear hov41
          go_wp2_with fail
          exact ⟨rfl, _, rfl, fun d hd => by cases hd; exact rfl, Ext.refl _⟩
        simp only [Act.put, List.setIfInBounds_toArray, List.set_cons_zero, List.set_cons_succ]
        refine ⟨fun wv42 hov42 hSv42 => ?_, fun v42 => ?_⟩
        · obtain rfl : v39 = .bool false := hSv42 39 (by decide) (by decide)
          clear hSv42
          clear hov42
          go_wp2_with fail
          exact ⟨rfl, _, rfl, fun d hd => by cases hd; exact rfl, Ext.refl _⟩
        simp only [Act.put, List.setIfInBounds_toArray, List.set_cons_zero, List.set_cons_succ]
        refine ⟨fun wv43 hov43 hSv43 => ?_, fun v43 => ?_⟩
        · obtain rfl : v39 = .bool false := hSv43 39 (by decide) (by decide)
          clear hSv43
          clear hov43
          go_wp2_with fail
          exact ⟨rfl, _, rfl, fun d hd => by cases hd; exact rfl, Ext.refl _⟩
        simp only [Act.put, List.setIfInBounds_toArray, List.set_cons_zero, List.set_cons_succ]
        refine ⟨fun wv44 hov44 hSv44 => ?_, fun v44 => ?_⟩
        · obtain rfl : v39 = .bool false := hSv44 39 (by decide) (by decide)
          clear hSv44
          clear hov44
          go_wp2_with fail
          exact ⟨rfl, _, rfl, fun d hd => by cases hd; exact rfl, Ext.refl _⟩
        simp only [Act.put, List.setIfInBounds_toArray, List.set_cons_zero, List.set_cons_succ]
        refine ⟨fun wv45 hov45 hSv45 => ?_, fun v45 => ?_⟩
        · obtain rfl : v39 = .bool false := hSv45 39 (by decide) (by decide)
          clear hSv45
          clear hov45
          go_wp2_with fail
          exact ⟨rfl, _, rfl, fun d hd => by cases hd; exact rfl, Ext.refl _⟩
        simp only [Act.put, List.setIfInBounds_toArray, List.set_cons_zero, List.set_cons_succ]
        refine ⟨fun wv46 hov46 hSv46 => ?_, fun v46 => ?_⟩
        · obtain rfl : v39 = .bool false := hSv46 39 (by decide) (by decide)
          clear hSv46
          clear hov46
          go_wp2_with fail
          exact ⟨rfl, _, rfl, fun d hd => by cases hd; exact rfl, Ext.refl _⟩
        simp only [Act.put, List.setIfInBounds_toArray, List.set_cons_zero, List.set_cons_succ]
        refine ⟨fun wv47 hov47 hSv47 => ?_, fun v47 => ?_⟩
        · obtain rfl : v39 = .bool false := hSv47 39 (by decide) (by decide)
          clear hSv47
          clear hov47
          go_wp2_with fail
          exact ⟨rfl, _, rfl, fun d hd => by cases hd; exact rfl, Ext.refl _⟩
        simp only [Act.put, List.setIfInBounds_toArray, List.set_cons_zero, List.set_cons_succ]
        refine ⟨fun wv48 hov48 hSv48 => ?_, fun v48 => ?_⟩
        · obtain rfl : v39 = .bool false := hSv48 39 (by decide) (by decide)
          obtain rfl : v47 = undef := hSv48 47 (by decide) (by decide)
          clear hSv48
          clear hov48
          go_wp2_with fail
          exact ⟨rfl, _, rfl, fun d hd => by cases hd; exact rfl, Ext.refl _⟩
        simp only [Act.put, List.setIfInBounds_toArray, List.set_cons_zero, List.set_cons_succ]
        refine ⟨fun wv6 hov6 hSv6 => ?_, fun v6 => ?_⟩
        · obtain rfl : v35 = .int .i64 p := hSv6 35 (by decide) (by decide)
          clear hSv6
          clear hov6
          go_wp2_with fail
          exact ⟨rfl, _, rfl, fun d hd => by cases hd; exact rfl, Ext.refl _⟩
        simp only [Act.put, List.setIfInBounds_toArray, List.set_cons_zero, List.set_cons_succ]
        refine ⟨fun wv7 hov7 hSv7 => ?_, fun v7 => ?_⟩
        · obtain rfl : v48 = .bool false := hSv7 48 (by decide) (by decide)
          clear hSv7
          clear hov7
          go_wp2_with fail
          exact ⟨rfl, _, rfl, fun d hd => by cases hd; exact rfl, Ext.refl _⟩
        simp only [Act.put, List.setIfInBounds_toArray, List.set_cons_zero, List.set_cons_succ]
        clear H
        intro w5 HOX H hfin
        obtain rfl : v35 = .int .i64 p := hfin 35 (by decide)
        obtain rfl : v36 = .int .i64 p := hfin 36 (by decide)
        obtain rfl : v37 = .int .i64 n := hfin 37 (by decide)
        obtain rfl : v38 = .bool false := hfin 38 (by decide)
        obtain rfl : v39 = .bool false := hfin 39 (by decide)
        obtain rfl : v40 = undef := hfin 40 (by decide)
        obtain rfl : v41 = undef := hfin 41 (by decide)
        obtain rfl : v42 = undef := hfin 42 (by decide)
        obtain rfl : v43 = undef := hfin 43 (by decide)
        obtain rfl : v44 = undef := hfin 44 (by decide)
        obtain rfl : v45 = undef := hfin 45 (by decide)
        obtain rfl : v46 = undef := hfin 46 (by decide)
        obtain rfl : v47 = undef := hfin 47 (by decide)
        obtain rfl : v48 = .bool false := hfin 48 (by decide)
        obtain rfl : v6 = .int .i64 p := hfin 6 (by decide)
        obtain rfl : v7 = .bool false := hfin 7 (by decide)
        clear hfin
        simp only [List.drop_succ_cons, List.drop_zero]
        simp only [applyS] at H
        have HXN := kp (HOX.out.ext (Ext.refl wr) (fun g hg => by cases hg))
        go_wp2_with fail
        go_ret2
        exact ⟨p, _, HPP.out, rfl, H.out.1⟩
theorem place_any (a : As) (ha : a.own.length = 6) (v : Value) (l : List En) (hl : ∀ x ∈ l, x.addr.length = 6) (hn : l.length ≤ 100000) (t : List (BitVec 8)) (ht : t.length = 6) (w : World) (hs : SlT 11 cellsE w v l) :
    Calls Try.prog 41 #[.agg (cellsA a v).toArray, .agg (t.map V8).toArray] w fun e w' => ∃ (i : Nat) (found : Bool), PlaceP l t i found ∧ e = .returned (.tuple #[.int .i64 i, .bool found]) ∧ Ext w w' := by
  have H := kp (Loc.start w)
  have HSL := kp hs
  have HC9 := kp (cA9 (a := a) v ha)
  have HZT := kp (sizeA8a ht)
  have HSE := kp (fun w' hx => search_any v l hl hn t ht w' (HSL.out.ext hx))
  clear hs hl hn ha ht
  go_enter Try.func41, Try.ntmps41
  go_wp2_with (first | ((with_reducible show wpList _ _ _ (Oper.mk (some 2) (Op.box 26 _) _ _ _ _ :: _) _ _); (with_reducible refine L_box H rfl 26 _ rfl (cellsA a v) rfl ?_); clear H; intro g2 w2 HGg2 HEg2 H; simp only [Act.put, List.setIfInBounds_toArray, List.set_cons_zero, List.set_cons_succ]) | (((with_reducible show wpList _ _ _ (Oper.mk (some 3) (Op.box 23 _) _ _ _ _ :: _) _ _); (with_reducible refine L_box H rfl 23 _ rfl (t.map V8) rfl ?_); clear H; intro g3 w3 HGg3 HEg3 H; simp only [Act.put, List.setIfInBounds_toArray, List.set_cons_zero, List.set_cons_succ]); have hc9 := run_load_cell H.out 1 rfl _ _ HC9.out) | ((with_reducible show wpList _ _ _ (Oper.mk _ (Op.load 23 _) _ _ _ _ :: _) _ _); (refine wpList_load_rowG (by kernel_rfl) 23 _ rfl (g3) rfl 23 (t.map V8).toArray (0, 0) _ (H.out.at 0 rfl) Try.underlying23 rfl (HZT.out) ?_); simp only [Act.put, List.setIfInBounds_toArray, List.set_cons_zero, List.set_cons_succ]) | (go_at_call 80; refine (HSE.out _ H.out.1).mono ?_; rintro e wa ⟨i, found, hp, rfl, hx⟩; have HPP := kp hp; clear hp; have H2 := kp (H.out.ext hx); have HXC := kp hx; clear H hx; have H := H2; clear H2))
  go_ret2
  exact ⟨i, found, HPP.out, rfl, H.out.1⟩
end Go.Proofs.Ytfecopfofkdnpaa
