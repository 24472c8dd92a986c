/- Same, Great. -/
import Derived.Test.YtfecopfofkdnpaaFind
import Derived.Test.YtfecopfofkdnpaaOpn30
namespace Go.Proofs.Ytfecopfofkdnpaa
open Go.RowKit
theorem cF40 {h : Hd} (ok : h.Ok) (v : Value) : (cellsF h v)[40]? = some v := by
  rw [cellsF, List.getElem?_append_right (by rw [cellsH_len ok]; exact Nat.le_refl _), cellsH_len ok]; rfl
theorem cF_at {h : Hd} (ok : h.Ok) (v : Value) (i : Nat) (hi : i < 40) : (cellsF h v)[i]? = (cellsH h)[i]? := by
  rw [cellsF, List.getElem?_append_left (by rw [cellsH_len ok]; exact hi)]
theorem cF_head {h : Hd} (_ : h.Ok) (v : Value) : ((cellsF h v).drop 0).take (cellsH h).length = cellsH h := by
  rw [List.drop_zero, cellsF, List.take_append_of_le_length (Nat.le_refl _), List.take_of_length_le (Nat.le_refl _)]
theorem cF_a2 {h : Hd} (ok : h.Ok) (v : Value) : ((cellsF h v).drop 16).take (h.a2.map V8).length = h.a2.map V8 := by
  have hp := pH2 ok
  rw [cellsF, List.drop_append_of_le_length (by rw [cellsH_len ok]; decide), List.take_append_of_le_length (by rw [List.length_drop, cellsH_len ok, List.length_map, ok.l2]; decide)]
  exact hp
theorem sizeF {h : Hd} (ok : h.Ok) (v : Value) : (Try.prog.info? 31).map (·.size) = some (cellsF h v).toArray.size := by
  rw [List.size_toArray, cellsF, List.length_append, cellsH_len ok]; kernel_rfl
theorem sizeHl {h : Hd} (ok : h.Ok) : (Try.prog.info? 28).map (·.size) = some (cellsH h).length := by
  rw [cellsH_len ok]; kernel_rfl
theorem great5_any (h : Hd) (ok : h.Ok) (ad : Option Addr) (n c : Nat) (w : World) :
    Calls Try.prog 9 #[.agg (cellsF h (.slice ad n c)).toArray] w fun e w' => e = .returned (.bool (decide (2400 < n))) ∧ Ext w w' := by
  have H := kp (Loc.start w)
  have H40 := kp (cF40 ok (.slice ad n c))
  clear ok
  go_enter Try.func9, Try.ntmps9
  go_wp2_with (first | (((with_reducible show wpList _ _ _ (Oper.mk (some 1) (Op.box 31 _) _ _ _ _ :: _) _ _); (with_reducible refine L_box H rfl 31 _ rfl (cellsF h (.slice ad n c)) rfl ?_); clear H; intro g1 w1 HGg1 HEg1 H; simp only [Act.put, List.setIfInBounds_toArray, List.set_cons_zero, List.set_cons_succ]); have hc := run_load_cell H.out 0 rfl _ _ H40.out))
  go_ret
  exact ⟨congrArg (fun z => Ending.returned (.bool z)) (by refine Bool.eq_iff_iff.2 ?_; simp; omega), H.out.1⟩
def sameH (a b : As) : Bool := a.own == b.own && a.caps == b.caps && a.limit == b.limit && a.idle == b.idle
def sameF (a : As) (l : List En) (b : As) (m : List En) : Bool := sameH a b && decide (l = m)
theorem same_no {a b : As} {l m : List En} (j : Nat) (x y : En) (hx : l[j]? = some x) (hy : m[j]? = some y) (h : x ≠ y) : sameF a l b m = false := by
  have : l ≠ m := fun e => by rw [e, hy] at hx; exact h (Option.some.inj hx).symm
  simp [sameF, this]
theorem same_take {l m : List En} {j : Nat} {x : En} (hx : l[j]? = some x) (hy : m[j]? = some x) (h : l.take j = m.take j) : l.take (j + 1) = m.take (j + 1) := by
  rw [List.take_add_one, List.take_add_one, hx, hy, h]
set_option maxHeartbeats 6400000 in
theorem same_any (a b : As) (ha : a.own.length = 6) (hb : b.own.length = 6) (v u : Value) (l m : List En) (hl : ∀ x ∈ l, x.Ok) (hm : ∀ x ∈ m, x.Ok) (hn : l.length ≤ 100000) (hn' : m.length ≤ 100000) (w : World) (hs : SlT 11 cellsE w v l) (hs' : SlT 11 cellsE w u m) :
    Calls Try.prog 17 #[.agg (cellsA a v).toArray, .agg (cellsA b u).toArray] w fun e w' => e = .returned (.bool (sameF a l b m)) ∧ Ext w w' := by
  obtain ⟨ad, n, c, rfl, hnl, hcap, hat⟩ := hs
  obtain ⟨ad', n', c', rfl, hnl', hcap', hat'⟩ := hs'
  have HAT := kp hat; have HNL := kp hnl; have HLK := kp hl; have H := kp (Loc.start w); have hn2 : n ≤ 100000 := by omega
  have HAT' := kp hat'; have HNL' := kp hnl'; have HLK' := kp hm; have hn2' : n' ≤ 100000 := by omega
  have A6 := kp (cA6 (a := a) (.slice ad n c) ha)
  have A7 := kp (cA7 (a := a) (.slice ad n c) ha)
  have A8 := kp (cA8 (a := a) (.slice ad n c) ha)
  have A9 := kp (cA9 (a := a) (.slice ad n c) ha)
  have B6 := kp (cA6 (a := b) (.slice ad' n' c') hb)
  have B7 := kp (cA7 (a := b) (.slice ad' n' c') hb)
  have B8 := kp (cA8 (a := b) (.slice ad' n' c') hb)
  have B9 := kp (cA9 (a := b) (.slice ad' n' c') hb)
  have HOW := kp (cellsA_own (a := a) (.slice ad n c) ha)
  have HOW' := kp (cellsA_own (a := b) (.slice ad' n' c') hb)
  have HZO := kp (sizeA8 ha)
  have HZO' := kp (sizeA8 hb)
  have hne := fun w => neAddr a.own b.own ha hb w
  have HGT := kp Try.eqGuardType39
  have HSH := kp (show sameH a b = (a.own == b.own && a.caps == b.caps && a.limit == b.limit && a.idle == b.idle) from rfl)
  have HSF := kp (show sameF a l b m = (sameH a b && decide (l = m)) from rfl)
  clear hat hat' hl hm hnl hnl' hcap hcap' hn hn' ha hb
  go_enter Try.func17, Try.ntmps17
  generalize h1 : (Code.region 1 _ _ : Code) = R1
  go_wp2_with (first | ((with_reducible show wpList _ _ _ (Oper.mk (some 2) (Op.box 26 _) _ _ _ _ :: _) _ _); (with_reducible refine L_box H rfl 26 _ rfl (cellsA a (.slice ad n c)) rfl ?_); clear H; intro g2 w2 HGg2 HEg2 H; simp only [Act.put, List.setIfInBounds_toArray, List.set_cons_zero, List.set_cons_succ]) | ((with_reducible show wpList _ _ _ (Oper.mk (some 3) (Op.box 26 _) _ _ _ _ :: _) _ _); (with_reducible refine L_box H rfl 26 _ rfl (cellsA b (.slice ad' n' c')) rfl ?_); clear H; intro g3 w3 HGg3 HEg3 H; simp only [Act.put, List.setIfInBounds_toArray, List.set_cons_zero, List.set_cons_succ]))
  subst h1
  refine wp_cut [6, 7, 8, 9, 10, 11, 12, 13, 14, 15, 16, 17, 18, 19, 20, 21, 22, 23, 24, 25, 26, 27, 28, 29, 30, 31, 32, 33, 34, 35, 36, 37, 38, 39, 40] (fun vs w' => Kp (Loc w w' [(g3, 26, cellsA b (.slice ad' n' c')), (g2, 26, cellsA a (.slice ad n c))]) ∧ vs 40 = .bool (!(sameH a b && decide (n = n')))) ?_ ?_
  · rw [HSH.out]
    have a6 := run_load_cell H.out 1 rfl _ _ A6.out; have a7 := run_load_cell H.out 1 rfl _ _ A7.out; have a8 := run_load_cell H.out 1 rfl _ _ A8.out; have a9 := run_load_cell H.out 1 rfl _ _ A9.out
    have b6 := run_load_cell H.out 0 rfl _ _ B6.out; have b7 := run_load_cell H.out 0 rfl _ _ B7.out; have b8 := run_load_cell H.out 0 rfl _ _ B8.out; have b9 := run_load_cell H.out 0 rfl _ _ B9.out
    generalize (a.own == b.own) = eo at *
    go_wp2_with (first | ((with_reducible show wpList _ _ _ (Oper.mk _ (Op.load 23 _) _ _ _ _ :: _) _ _); (first | (refine L_subG H (by kernel_rfl) 23 _ rfl 0 rfl (0) rfl (a.own.map V8) (HOW.out) Try.underlying23 rfl (HZO.out) ?_) | (refine L_subG H (by kernel_rfl) 23 _ rfl 1 rfl (0) rfl (a.own.map V8) (HOW.out) Try.underlying23 rfl (HZO.out) ?_) | (refine L_subG H (by kernel_rfl) 23 _ rfl 2 rfl (0) rfl (a.own.map V8) (HOW.out) Try.underlying23 rfl (HZO.out) ?_) | (refine L_subG H (by kernel_rfl) 23 _ rfl 3 rfl (0) rfl (a.own.map V8) (HOW.out) Try.underlying23 rfl (HZO.out) ?_) | (refine L_subG H (by kernel_rfl) 23 _ rfl 4 rfl (0) rfl (a.own.map V8) (HOW.out) Try.underlying23 rfl (HZO.out) ?_) | (refine L_subG H (by kernel_rfl) 23 _ rfl 5 rfl (0) rfl (a.own.map V8) (HOW.out) Try.underlying23 rfl (HZO.out) ?_)); simp only [Act.put, List.setIfInBounds_toArray, List.set_cons_zero, List.set_cons_succ]) | ((with_reducible show wpList _ _ _ (Oper.mk _ (Op.load 23 _) _ _ _ _ :: _) _ _); (first | (refine L_subG H (by kernel_rfl) 23 _ rfl 0 rfl (0) rfl (b.own.map V8) (HOW'.out) Try.underlying23 rfl (HZO'.out) ?_) | (refine L_subG H (by kernel_rfl) 23 _ rfl 1 rfl (0) rfl (b.own.map V8) (HOW'.out) Try.underlying23 rfl (HZO'.out) ?_) | (refine L_subG H (by kernel_rfl) 23 _ rfl 2 rfl (0) rfl (b.own.map V8) (HOW'.out) Try.underlying23 rfl (HZO'.out) ?_) | (refine L_subG H (by kernel_rfl) 23 _ rfl 3 rfl (0) rfl (b.own.map V8) (HOW'.out) Try.underlying23 rfl (HZO'.out) ?_) | (refine L_subG H (by kernel_rfl) 23 _ rfl 4 rfl (0) rfl (b.own.map V8) (HOW'.out) Try.underlying23 rfl (HZO'.out) ?_) | (refine L_subG H (by kernel_rfl) 23 _ rfl 5 rfl (0) rfl (b.own.map V8) (HOW'.out) Try.underlying23 rfl (HZO'.out) ?_)); simp only [Act.put, List.setIfInBounds_toArray, List.set_cons_zero, List.set_cons_succ]))
    all_goals exact CutP.of rfl (by kernel_rfl) ⟨H, congrArg Value.bool (by first | (simp [*]; done) | (simp [bne, *]; done) | (simp [bne, *]; refine Bool.eq_iff_iff.2 ?_; simp; done) | (simp [bne, *]; refine Bool.eq_iff_iff.2 ?_; simp; omega))⟩
  rintro vs w4 ⟨H, e40⟩
  simp only [putMany, List.setIfInBounds_toArray, List.set_cons_zero, List.set_cons_succ]
  rw [e40]
  clear e40 hne
  cases hh : (sameH a b && decide (n = n')) with
  | false =>
    have HK := kp (show sameF a l b m = false by
      rw [HSF.out]
      have h1 : sameH a b = false ∨ n ≠ n' := by
        cases hq : sameH a b
        · exact .inl rfl
        · rw [hq] at hh; exact .inr (by simpa using hh)
      rcases h1 with q | q
      · rw [q]; rfl
      · rw [decide_eq_false (fun e => q (by rw [HNL.out, HNL'.out, e])), Bool.and_false])
    clear hh
    go_wp2_with fail
    go_ret
    exact ⟨congrArg (fun z => Ending.returned (.bool z)) HK.out.symm, H.out.1⟩
  | true =>
    have HQ := kp (show sameH a b = true ∧ n = n' by simpa using hh)
    clear hh
    obtain rfl : n = n' := HQ.out.2
    go_wp2_with fail
    go_loopw [5] (fun i wr => ∃ j : Nat, j ≤ n ∧ i = .int .i64 j ∧ Kp (l.take j = m.take j) ∧ Kp (Loc w wr [(g3, 26, cellsA b (.slice ad' n c')), (g2, 26, cellsA a (.slice ad n c))])) (fun i _ => n - (intOf i).toNat)
    case atStart => exact ⟨0, by omega, rfl, kp rfl, H⟩
    case round =>
      obtain ⟨j, hj, rfl, HT, H⟩ := hrel
      have hc9 := run_load_cell H.out 1 rfl _ _ A9.out
      by_cases hlt : j < n
      · go_wp2_with fail
        clear hc9
        obtain ⟨x, hx⟩ : ∃ x, l[j]? = some x := ⟨l[j]'(by rw [← HNL.out]; omega), by simp⟩
        obtain ⟨y, hy⟩ : ∃ y, m[j]? = some y := ⟨m[j]'(by rw [← HNL'.out]; omega), by simp⟩
        obtain ⟨b1, off1, rfl, hb, hr⟩ := HAT.out j x hx
        obtain ⟨b2, off2, rfl, hb', hr'⟩ := HAT'.out j y hy
        have HB := kp hb; have HR := kp hr; have HX := kp hx; have HXK := kp (HLK.out x (List.mem_of_getElem? hx))
        have HB' := kp hb'; have HR' := kp hr'; have HY := kp hy; have HYK := kp (HLK'.out y (List.mem_of_getElem? hy))
        clear hb hr hx hb' hr' hy
        have HZX := kp (sizeE HXK.out.l)
        have HZY := kp (sizeE HYK.out.l)
        have HNE := kp (fun w => neEn w x y HXK.out HYK.out)
        generalize he : decide (x = y) = eb at *
        refine region_free H (tabS [(48, fun zv _ => zv = .pointer (some ⟨g2, 9, none⟩)), (49, fun zv _ => zv = .slice (some ⟨b1, off1, none⟩) n c), (50, fun zv _ => zv = .int .i64 j), (51, fun zv _ => zv = .pointer (some ⟨b1, off1 + j * 11, none⟩)), (52, fun zv _ => zv = .agg (cellsE x).toArray), (53, fun zv _ => zv = .pointer (some ⟨g3, 9, none⟩)), (54, fun zv _ => zv = .slice (some ⟨b2, off2, none⟩) n c'), (55, fun zv _ => zv = .int .i64 j), (56, fun zv _ => zv = .pointer (some ⟨b2, off2 + j * 11, none⟩)), (57, fun zv _ => zv = .agg (cellsE y).toArray), (58, fun zv _ => zv = .bool (!eb))]) [] (tabS_out _ _ (by simp only [List.forall_mem_cons]; exact ⟨mono_eqO _ _, mono_eqO _ _, mono_eqO _ _, mono_eqO _ _, mono_eqO _ _, mono_eqO _ _, mono_eqO _ _, mono_eqO _ _, mono_eqO _ _, mono_eqO _ _, mono_eqO _ _, by simp⟩)) 11 (by kernel_rfl) (by kernel_rfl) (by kernel_rfl) (by kernel_rfl) [] [] rfl rfl (by decide) (by decide) (by decide) trivial ?_
        simp only [List.take_succ_cons, List.take_zero]
        refine ⟨fun wv48 hov48 hSv48 => ?_, fun v48 => ?_⟩
        · clear hSv48
          clear hov48
          go_wp2_with fail
          exact ⟨rfl, _, rfl, fun d hd => by cases hd; exact rfl, Ext.refl _⟩
        simp only [Act.put, List.setIfInBounds_toArray, List.set_cons_zero, List.set_cons_succ]
        refine ⟨fun wv49 hov49 hSv49 => ?_, fun v49 => ?_⟩
        · obtain rfl : v48 = .pointer (some ⟨g2, 9, none⟩) := hSv49 48 (by decide) (by decide)
          clear hSv49
          have H := kp (H.out.keep [0, 1] (St := []) trivial hov49 (by decide) (by kernel_rfl))
          have HOX := kp hov49
          clear hov49
          have hc := run_load_cell H.out 1 rfl _ _ A9.out
          go_wp2_with fail
          exact ⟨rfl, _, rfl, fun d hd => by cases hd; exact rfl, Ext.refl _⟩
        simp only [Act.put, List.setIfInBounds_toArray, List.set_cons_zero, List.set_cons_succ]
        refine ⟨fun wv50 hov50 hSv50 => ?_, fun v50 => ?_⟩
        · clear hSv50
          clear hov50
          go_wp2_with fail
          exact ⟨rfl, _, rfl, fun d hd => by cases hd; exact rfl, Ext.refl _⟩
        simp only [Act.put, List.setIfInBounds_toArray, List.set_cons_zero, List.set_cons_succ]
        refine ⟨fun wv51 hov51 hSv51 => ?_, fun v51 => ?_⟩
        · obtain rfl : v49 = .slice (some ⟨b1, off1, none⟩) n c := hSv51 49 (by decide) (by decide)
          obtain rfl : v50 = .int .i64 j := hSv51 50 (by decide) (by decide)
          clear hSv51
          clear hov51
          go_wp2_with fail
          exact ⟨rfl, _, rfl, fun d hd => by cases hd; exact rfl, Ext.refl _⟩
        simp only [Act.put, List.setIfInBounds_toArray, List.set_cons_zero, List.set_cons_succ]
        refine ⟨fun wv52 hov52 hSv52 => ?_, fun v52 => ?_⟩
        · obtain rfl : v51 = .pointer (some ⟨b1, off1 + j * 11, none⟩) := hSv52 51 (by decide) (by decide)
          clear hSv52
          have H := kp (H.out.keep [0, 1] (St := []) trivial hov52 (by decide) (by kernel_rfl))
          have HOX := kp hov52
          clear hov52
          go_wp2_with ((with_reducible show wpList _ _ _ (Oper.mk _ (Op.load 39 _) _ _ _ _ :: _) _ _); (refine wpList_load_midG (by kernel_rfl) 39 _ rfl (b1) (off1 + j * 11) rfl (cellsE x) _ ((rangeAt_ext HR.out HB.out H.out.1)) Try.underlying39 rfl (HZX.out) ?_); simp only [Act.put, List.setIfInBounds_toArray, List.set_cons_zero, List.set_cons_succ])
          exact ⟨rfl, _, rfl, fun d hd => by cases hd; exact rfl, Ext.refl _⟩
        simp only [Act.put, List.setIfInBounds_toArray, List.set_cons_zero, List.set_cons_succ]
        refine ⟨fun wv53 hov53 hSv53 => ?_, fun v53 => ?_⟩
        · clear hSv53
          clear hov53
          go_wp2_with fail
          exact ⟨rfl, _, rfl, fun d hd => by cases hd; exact rfl, Ext.refl _⟩
        simp only [Act.put, List.setIfInBounds_toArray, List.set_cons_zero, List.set_cons_succ]
        refine ⟨fun wv54 hov54 hSv54 => ?_, fun v54 => ?_⟩
        · obtain rfl : v53 = .pointer (some ⟨g3, 9, none⟩) := hSv54 53 (by decide) (by decide)
          clear hSv54
          have H := kp (H.out.keep [0, 1] (St := []) trivial hov54 (by decide) (by kernel_rfl))
          have HOX := kp hov54
          clear hov54
          have hc := run_load_cell H.out 0 rfl _ _ B9.out
          go_wp2_with fail
          exact ⟨rfl, _, rfl, fun d hd => by cases hd; exact rfl, Ext.refl _⟩
        simp only [Act.put, List.setIfInBounds_toArray, List.set_cons_zero, List.set_cons_succ]
        refine ⟨fun wv55 hov55 hSv55 => ?_, fun v55 => ?_⟩
        · clear hSv55
          clear hov55
          go_wp2_with fail
          exact ⟨rfl, _, rfl, fun d hd => by cases hd; exact rfl, Ext.refl _⟩
        simp only [Act.put, List.setIfInBounds_toArray, List.set_cons_zero, List.set_cons_succ]
        refine ⟨fun wv56 hov56 hSv56 => ?_, fun v56 => ?_⟩
        · obtain rfl : v54 = .slice (some ⟨b2, off2, none⟩) n c' := hSv56 54 (by decide) (by decide)
          obtain rfl : v55 = .int .i64 j := hSv56 55 (by decide) (by decide)
          clear hSv56
          clear hov56
          go_wp2_with fail
          exact ⟨rfl, _, rfl, fun d hd => by cases hd; exact rfl, Ext.refl _⟩
        simp only [Act.put, List.setIfInBounds_toArray, List.set_cons_zero, List.set_cons_succ]
        refine ⟨fun wv57 hov57 hSv57 => ?_, fun v57 => ?_⟩
        · obtain rfl : v56 = .pointer (some ⟨b2, off2 + j * 11, none⟩) := hSv57 56 (by decide) (by decide)
          clear hSv57
          have H := kp (H.out.keep [0, 1] (St := []) trivial hov57 (by decide) (by kernel_rfl))
          have HOX := kp hov57
          clear hov57
          go_wp2_with ((with_reducible show wpList _ _ _ (Oper.mk _ (Op.load 39 _) _ _ _ _ :: _) _ _); (refine wpList_load_midG (by kernel_rfl) 39 _ rfl (b2) (off2 + j * 11) rfl (cellsE y) _ ((rangeAt_ext HR'.out HB'.out H.out.1)) Try.underlying39 rfl (HZY.out) ?_); simp only [Act.put, List.setIfInBounds_toArray, List.set_cons_zero, List.set_cons_succ])
          exact ⟨rfl, _, rfl, fun d hd => by cases hd; exact rfl, Ext.refl _⟩
        simp only [Act.put, List.setIfInBounds_toArray, List.set_cons_zero, List.set_cons_succ]
        refine ⟨fun wv58 hov58 hSv58 => ?_, fun v58 => ?_⟩
        · obtain rfl : v52 = .agg (cellsE x).toArray := hSv58 52 (by decide) (by decide)
          obtain rfl : v57 = .agg (cellsE y).toArray := hSv58 57 (by decide) (by decide)
          clear hSv58
          have H := kp (H.out.keep [0, 1] (St := []) trivial hov58 (by decide) (by kernel_rfl))
          have HOX := kp hov58
          clear hov58
          refine wpList_bin (by kernel_rfl) .neq 39 39 (.tmp 52) (.tmp 57) rfl (.agg (cellsE x).toArray) (.agg (cellsE y).toArray) (.bool (!eb)) rfl rfl (run_eqGuard_agg _ _ _ _ _ _ _ HGT.out) (HNE.out _) ?_
          go_wp2_with fail
          exact ⟨rfl, _, rfl, fun d hd => by cases hd; exact rfl, Ext.refl _⟩
        simp only [Act.put, List.setIfInBounds_toArray, List.set_cons_zero, List.set_cons_succ]
        clear H
        intro w7 HOX H hfin
        obtain rfl : v48 = .pointer (some ⟨g2, 9, none⟩) := hfin 48 (by decide)
        obtain rfl : v49 = .slice (some ⟨b1, off1, none⟩) n c := hfin 49 (by decide)
        obtain rfl : v50 = .int .i64 j := hfin 50 (by decide)
        obtain rfl : v51 = .pointer (some ⟨b1, off1 + j * 11, none⟩) := hfin 51 (by decide)
        obtain rfl : v52 = .agg (cellsE x).toArray := hfin 52 (by decide)
        obtain rfl : v53 = .pointer (some ⟨g3, 9, none⟩) := hfin 53 (by decide)
        obtain rfl : v54 = .slice (some ⟨b2, off2, none⟩) n c' := hfin 54 (by decide)
        obtain rfl : v55 = .int .i64 j := hfin 55 (by decide)
        obtain rfl : v56 = .pointer (some ⟨b2, off2 + j * 11, none⟩) := hfin 56 (by decide)
        obtain rfl : v57 = .agg (cellsE y).toArray := hfin 57 (by decide)
        obtain rfl : v58 = .bool (!eb) := hfin 58 (by decide)
        clear hfin
        simp only [List.drop_succ_cons, List.drop_zero]
        simp only [applyS] at H
        have HXN := kp (HOX.out.ext (Ext.refl wr) (fun g hg => by cases hg))
        cases eb with
        | false =>
          have HK := kp (same_no (a := a) (b := b) j x y HX.out HY.out (of_decide_eq_false he))
          clear he
          go_wp2_with fail
          go_ret
          exact ⟨congrArg (fun z => Ending.returned (.bool z)) HK.out.symm, H.out.1⟩
        | true =>
          have HK := kp (same_take HX.out (by rw [HY.out, of_decide_eq_true he]) HT.out)
          clear he
          go_wp2_with fail
          go_roundw
          case rel => exact ⟨j + 1, by omega, by go_num, HK, H⟩
          case measure => simp [intOf]; omega
      · obtain rfl : j = n := by omega
        have HK := kp (show sameF a l b m = true by
          have h := HT.out
          rw [List.take_of_length_le (by rw [HNL.out]; exact Nat.le_refl _), List.take_of_length_le (by rw [HNL'.out]; exact Nat.le_refl _)] at h
          rw [HSF.out, HQ.out.1, decide_eq_true h]; rfl)
        go_wp2_with fail
        go_ret
        exact ⟨congrArg (fun z => Ending.returned (.bool z)) HK.out.symm, H.out.1⟩
end Go.Proofs.Ytfecopfofkdnpaa
