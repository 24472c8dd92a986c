/- Allowed of both. -/
import Derived.Test.YtfecopfofkdnpaaNew
import Derived.Test.YtfecopfofkdnpaaVal5b
namespace Go.Proofs.Ytfecopfofkdnpaa
open Go.RowKit
def allowR (k s : Int) (mem has : Bool) : Bool := if k = 2 then mem else if subsB s then true else if s = 13 then mem else has
theorem allow_r (a : As) (l : List En) (h : Hd) : allowF a l h = (validA a l && validH h && addrF a h && allowR h.kind h.sub ((findE a l h.a2).1.state == 2) (findE a l h.a2).2) := rfl
theorem allow30_r (a : As) (l : List En) (h : Hd) : allow30F a l h = (valid30F a l && valid5F h && addrF a h && allowR h.kind h.sub (memF l h.a2) (decide (0 ≤ findI l h.a2))) := rfl
theorem findE_len (a : As) (l : List En) (hl : ∀ x ∈ l, x.addr.length = 6) (t : List (BitVec 8)) : (findE a l t).1.addr.length = 6 := by
  unfold findE
  split
  · rcases findI_cases l t with c | ⟨i, hi, c⟩
    · rename_i h; rw [c] at h; simp at h
    · rw [c]
      show (enAt l i).addr.length = 6
      rw [enAt_get hi]; exact hl _ (List.getElem_mem hi)
  · rfl
theorem checkF_good {h : Hd} (e : validH h = true) : checkF h = 0 := by simp [checkF, e]
theorem checkF_bad {h : Hd} (e : validH h = false) : checkF h = 8 := by simp [checkF, e]
set_option maxHeartbeats 6400000 in
theorem allowed_any (a : As) (ha : a.own.length = 6) (v : Value) (l : List En) (hl : ∀ x ∈ l, x.addr.length = 6) (hn : l.length ≤ 100000) (h : Hd) (ok : h.Ok) (u : Value) (w : World) (hs : SlT 11 cellsE w v l) :
    Calls Try.prog 18 #[.agg (cellsA a v).toArray, .agg (cellsF h u).toArray] w fun e w' => e = .returned (.bool (allowF a l h)) ∧ Ext w w' := by
  have HSL := kp hs
  have HCH := kp (fun w' hx => check_any a ha v l hl hn w' (HSL.out.ext hx))
  have HFI := kp (fun w' hx => find_any a ha v l hl hn h.a2 ok.l2 w' (HSL.out.ext hx))
  have HHC := kp (checkH_any h ok)
  have HAD := kp (addressed_any a v ha h ok)
  have H := kp (Loc.start w)
  have HZA := kp (sizeAs (a := a) v ha)
  have HZH := kp (sizeHl ok)
  have HZ2 := kp (sizeA8 ok.l2)
  have HPH := kp (cF_head ok u)
  have HP2 := kp (cF_a2 ok u)
  have HC0 := kp (show (cellsF h u)[0]? = some (.int .u8 h.kind) by rw [cF_at ok u 0 (by decide)]; rfl)
  have HC1 := kp (show (cellsF h u)[1]? = some (.int .u8 h.sub) by rw [cF_at ok u 1 (by decide)]; rfl)
  have HXL := kp (findE_len a l hl h.a2)
  have HAW := kp (allow_r a l h)
  have HOE := kp one_cellsE
  clear hs hl hn ha ok
  generalize hq : findE a l h.a2 = q at *
  obtain ⟨x, fd⟩ := q
  clear hq
  have HZX := kp (sizeEa HXL.out)
  have HLE := kp (show (cellsE en0).length = (cellsE x).length by rw [cellsE_len HXL.out]; rfl)
  have H6 := kp (cE6 HXL.out)
  go_enter Try.func18, Try.ntmps18
  generalize h1 : (Code.region 1 _ _ : Code) = R1
  go_wp2_with (first | ((with_reducible show wpList _ _ _ (Oper.mk (some 2) (Op.box 26 _) _ _ _ _ :: _) _ _); (with_reducible refine L_box H rfl 26 _ rfl (cellsA a v) rfl ?_); clear H; intro g2 w2 HGg2 HEg2 H; simp only [Act.put, List.setIfInBounds_toArray, List.set_cons_zero, List.set_cons_succ]) | ((with_reducible show wpList _ _ _ (Oper.mk (some 3) (Op.box 31 _) _ _ _ _ :: _) _ _); (with_reducible refine L_box H rfl 31 _ rfl (cellsF h u) rfl ?_); clear H; intro g3 w3 HGg3 HEg3 H; simp only [Act.put, List.setIfInBounds_toArray, List.set_cons_zero, List.set_cons_succ]))
  subst h1
  refine wp_cut [7, 8, 9, 10, 11, 12, 13, 14, 15, 16, 17, 18, 19, 20, 21, 22] (fun vs w' => Kp (Loc w w' [(g3, 31, cellsF h u), (g2, 26, cellsA a v)]) ∧ vs 22 = .bool (!(validA a l && validH h && addrF a h))) ?_ ?_
  · cases hv : validA a l with
    | false =>
      have HCC := kp (chk_bad hv)
      clear hv
      rw [HCC.out] at HCH
      go_wp2_with (first | ((with_reducible show wpList _ _ _ (Oper.mk _ (Op.load 26 _) _ _ _ _ :: _) _ _); (first | (refine L_load H rfl 26 _ rfl 0 rfl rfl Try.underlying26 rfl (HZA.out) ?_) | (refine L_load H rfl 26 _ rfl 1 rfl rfl Try.underlying26 rfl (HZA.out) ?_) | (refine L_load H rfl 26 _ rfl 2 rfl rfl Try.underlying26 rfl (HZA.out) ?_) | (refine L_load H rfl 26 _ rfl 3 rfl rfl Try.underlying26 rfl (HZA.out) ?_) | (refine L_load H rfl 26 _ rfl 4 rfl rfl Try.underlying26 rfl (HZA.out) ?_) | (refine L_load H rfl 26 _ rfl 5 rfl rfl Try.underlying26 rfl (HZA.out) ?_)); simp only [Act.put, List.setIfInBounds_toArray, List.set_cons_zero, List.set_cons_succ]) | (go_at_call 20; refine (HCH.out _ H.out.1).mono ?_; rintro e wa ⟨rfl, hx⟩; have H2 := kp (H.out.ext hx); have HXC := kp hx; clear H hx; have H := H2; clear H2))
      exact CutP.of rfl (by kernel_rfl) ⟨H, rfl⟩
    | true =>
      have HCC := kp (chk_good hv)
      clear hv
      rw [HCC.out] at HCH
      cases hv2 : validH h with
      | false =>
        have HCD := kp (checkF_bad hv2)
        clear hv2
        rw [HCD.out] at HHC
        go_wp2_with (first | ((with_reducible show wpList _ _ _ (Oper.mk _ (Op.load 26 _) _ _ _ _ :: _) _ _); (first | (refine L_load H rfl 26 _ rfl 0 rfl rfl Try.underlying26 rfl (HZA.out) ?_) | (refine L_load H rfl 26 _ rfl 1 rfl rfl Try.underlying26 rfl (HZA.out) ?_) | (refine L_load H rfl 26 _ rfl 2 rfl rfl Try.underlying26 rfl (HZA.out) ?_) | (refine L_load H rfl 26 _ rfl 3 rfl rfl Try.underlying26 rfl (HZA.out) ?_) | (refine L_load H rfl 26 _ rfl 4 rfl rfl Try.underlying26 rfl (HZA.out) ?_) | (refine L_load H rfl 26 _ rfl 5 rfl rfl Try.underlying26 rfl (HZA.out) ?_)); simp only [Act.put, List.setIfInBounds_toArray, List.set_cons_zero, List.set_cons_succ]) | (go_at_call 20; refine (HCH.out _ H.out.1).mono ?_; rintro e wa ⟨rfl, hx⟩; have H2 := kp (H.out.ext hx); have HXC := kp hx; clear H hx; have H := H2; clear H2) | ((with_reducible show wpList _ _ _ (Oper.mk (some 12) _ _ _ _ _ :: _) _ _); refine L_subG H (by kernel_rfl) 28 _ rfl 0 rfl (0) rfl (cellsH h) (HPH.out) Try.underlying28 rfl (HZH.out) ?_; simp only [Act.put, List.setIfInBounds_toArray, List.set_cons_zero, List.set_cons_succ]) | (go_at_call 27; refine (HHC.out _).mono ?_; rintro e wa ⟨rfl, hx⟩; have H2 := kp (H.out.ext hx); have HXC := kp hx; clear H hx; have H := H2; clear H2))
        exact CutP.of rfl (by kernel_rfl) ⟨H, rfl⟩
      | true =>
        have HCD := kp (checkF_good hv2)
        clear hv2
        rw [HCD.out] at HHC
        go_wp2_with (first | ((with_reducible show wpList _ _ _ (Oper.mk _ (Op.load 26 _) _ _ _ _ :: _) _ _); (refine wpList_load_rowG (by kernel_rfl) 26 _ rfl (g2) rfl 26 (cellsA a v).toArray (0, 0) _ (H.out.at 1 rfl) Try.underlying26 rfl (HZA.out) ?_); simp only [Act.put, List.setIfInBounds_toArray, List.set_cons_zero, List.set_cons_succ]) | ((with_reducible show wpList _ _ _ (Oper.mk _ (Op.load 28 _) _ _ _ _ :: _) _ _); (first | (refine L_subG H (by kernel_rfl) 28 _ rfl 0 rfl (0) rfl (cellsH h) (HPH.out) Try.underlying28 rfl (HZH.out) ?_) | (refine L_subG H (by kernel_rfl) 28 _ rfl 1 rfl (0) rfl (cellsH h) (HPH.out) Try.underlying28 rfl (HZH.out) ?_) | (refine L_subG H (by kernel_rfl) 28 _ rfl 2 rfl (0) rfl (cellsH h) (HPH.out) Try.underlying28 rfl (HZH.out) ?_) | (refine L_subG H (by kernel_rfl) 28 _ rfl 3 rfl (0) rfl (cellsH h) (HPH.out) Try.underlying28 rfl (HZH.out) ?_) | (refine L_subG H (by kernel_rfl) 28 _ rfl 4 rfl (0) rfl (cellsH h) (HPH.out) Try.underlying28 rfl (HZH.out) ?_) | (refine L_subG H (by kernel_rfl) 28 _ rfl 5 rfl (0) rfl (cellsH h) (HPH.out) Try.underlying28 rfl (HZH.out) ?_)); simp only [Act.put, List.setIfInBounds_toArray, List.set_cons_zero, List.set_cons_succ]) | (go_at_call 20; refine (HCH.out _ H.out.1).mono ?_; rintro e wa ⟨rfl, hx⟩; have H2 := kp (H.out.ext hx); have HXC := kp hx; clear H hx; have H := H2; clear H2) | (go_at_call 27; refine (HHC.out _).mono ?_; rintro e wa ⟨rfl, hx⟩; have H2 := kp (H.out.ext hx); have HXC := kp hx; clear H hx; have H := H2; clear H2) | (go_at_call 48; refine (HAD.out _).mono ?_; rintro e wa ⟨rfl, hx⟩; have H2 := kp (H.out.ext hx); have HXC := kp hx; clear H hx; have H := H2; clear H2))
        exact CutP.of rfl (by kernel_rfl) ⟨H, by simp⟩
  rintro vs w4 ⟨H, e22⟩
  simp only [putMany, List.setIfInBounds_toArray, List.set_cons_zero, List.set_cons_succ]
  rw [e22]
  clear e22
  cases hb : (validA a l && validH h && addrF a h) with
  | false =>
    have HK := kp (show allowF a l h = false by rw [HAW.out, hb]; rfl)
    clear hb
    go_wp2_with fail
    go_ret
    exact ⟨congrArg (fun z => Ending.returned (.bool z)) HK.out.symm, H.out.1⟩
  | true =>
    have HK := kp (show allowF a l h = allowR h.kind h.sub (x.state == 2) fd by rw [HAW.out, hb]; rfl)
    clear hb
    have HRR := kp (show allowR h.kind h.sub (x.state == 2) fd = (if h.kind = 2 then (x.state == 2) else if (h.sub == 11 || h.sub == 12 || h.sub == 4 || h.sub == 5 || h.sub == 8) then true else if h.sub = 13 then (x.state == 2) else fd) from rfl)
    go_wp2_with (first | ((with_reducible show wpList _ _ _ (Oper.mk _ (Op.load 26 _) _ _ _ _ :: _) _ _); (refine wpList_load_rowG (by kernel_rfl) 26 _ rfl (g2) rfl 26 (cellsA a v).toArray (0, 0) _ (H.out.at 1 rfl) Try.underlying26 rfl (HZA.out) ?_); simp only [Act.put, List.setIfInBounds_toArray, List.set_cons_zero, List.set_cons_succ]) | ((with_reducible show wpList _ _ _ (Oper.mk _ (Op.load 23 _) _ _ _ _ :: _) _ _); (first | (refine L_subG H (by kernel_rfl) 23 _ rfl 0 rfl (16) rfl (h.a2.map V8) (HP2.out) Try.underlying23 rfl (HZ2.out) ?_) | (refine L_subG H (by kernel_rfl) 23 _ rfl 1 rfl (16) rfl (h.a2.map V8) (HP2.out) Try.underlying23 rfl (HZ2.out) ?_) | (refine L_subG H (by kernel_rfl) 23 _ rfl 2 rfl (16) rfl (h.a2.map V8) (HP2.out) Try.underlying23 rfl (HZ2.out) ?_) | (refine L_subG H (by kernel_rfl) 23 _ rfl 3 rfl (16) rfl (h.a2.map V8) (HP2.out) Try.underlying23 rfl (HZ2.out) ?_) | (refine L_subG H (by kernel_rfl) 23 _ rfl 4 rfl (16) rfl (h.a2.map V8) (HP2.out) Try.underlying23 rfl (HZ2.out) ?_) | (refine L_subG H (by kernel_rfl) 23 _ rfl 5 rfl (16) rfl (h.a2.map V8) (HP2.out) Try.underlying23 rfl (HZ2.out) ?_)); simp only [Act.put, List.setIfInBounds_toArray, List.set_cons_zero, List.set_cons_succ]) | (go_at_call 12; refine (HFI.out _ H.out.1).mono ?_; rintro e wa ⟨rfl, hx⟩; have H2 := kp (H.out.ext hx); have HXC := kp hx; clear H hx; have H := H2; clear H2) | ((with_reducible show wpList _ _ _ (Oper.mk (some 5) (Op.alloc 39) _ _ _ _ :: _) _ _); (with_reducible refine L_alloc H rfl 39 rfl (cellsE en0) (fun _ _ => by kernel_rfl) ?_); clear H; intro g5 w5 HGg5 HEg5 H; simp only [Act.put, List.setIfInBounds_toArray, List.set_cons_zero, List.set_cons_succ]) | (((with_reducible show wpList _ _ _ (Oper.mk none (Op.store 39 _ _) _ _ _ _ :: _) _ _); (first | (refine L_store H rfl rfl 39 _ _ rfl 0 rfl rfl (cellsE x) rfl (HZX.out) (HLE.out) (HOE.out _) ?_; clear H; intro w6 HWw6 H; simp only [List.set_cons_zero] at H) | (refine L_store H rfl rfl 39 _ _ rfl 1 rfl rfl (cellsE x) rfl (HZX.out) (HLE.out) (HOE.out _) ?_; clear H; intro w6 HWw6 H; simp only [List.set_cons_succ, List.set_cons_zero] at H) | (refine L_store H rfl rfl 39 _ _ rfl 2 rfl rfl (cellsE x) rfl (HZX.out) (HLE.out) (HOE.out _) ?_; clear H; intro w6 HWw6 H; simp only [List.set_cons_succ, List.set_cons_zero] at H) | (refine L_store H rfl rfl 39 _ _ rfl 3 rfl rfl (cellsE x) rfl (HZX.out) (HLE.out) (HOE.out _) ?_; clear H; intro w6 HWw6 H; simp only [List.set_cons_succ, List.set_cons_zero] at H) | (refine L_store H rfl rfl 39 _ _ rfl 4 rfl rfl (cellsE x) rfl (HZX.out) (HLE.out) (HOE.out _) ?_; clear H; intro w6 HWw6 H; simp only [List.set_cons_succ, List.set_cons_zero] at H) | (refine L_store H rfl rfl 39 _ _ rfl 5 rfl rfl (cellsE x) rfl (HZX.out) (HLE.out) (HOE.out _) ?_; clear H; intro w6 HWw6 H; simp only [List.set_cons_succ, List.set_cons_zero] at H))); have hc0 := run_load_cell H.out 1 rfl _ _ HC0.out; have hc1 := run_load_cell H.out 1 rfl _ _ HC1.out; have hc6 := run_load_cell H.out 0 rfl _ _ H6.out))
    all_goals (go_ret; exact ⟨congrArg (fun z => Ending.returned (.bool z)) (by rw [HK.out, HRR.out]; first | (simp [*]; done) | simp_all), H.out.1⟩)
set_option maxHeartbeats 6400000 in
theorem allowed30_any (a : As) (ha : a.own.length = 6) (v : Value) (l : List En) (hl : ∀ x ∈ l, x.addr.length = 6) (hn : l.length ≤ 100000) (h : Hd) (ok : h.Ok) (u : Value) (w : World) (hs : SlT 11 cellsE w v l) :
    Calls Try.prog 19 #[.agg (cellsA a v).toArray, .agg (cellsF h u).toArray] w fun e w' => e = .returned (.bool (allow30F a l h)) ∧ Ext w w' := by
  have HSL := kp hs
  have HCH := kp (fun w' hx => valid30_any a ha v l hl hn w' (HSL.out.ext hx))
  have HFI := kp (fun w' hx => find30_any a ha v l hl hn h.a2 ok.l2 w' (HSL.out.ext hx))
  have HHC := kp (valid5_any h ok)
  have HAD := kp (addressed30_any a v ha h ok)
  obtain ⟨ad, n, c, rfl, hnl, hcap, hat⟩ := hs
  have HAT := kp hat; have HNL := kp hnl; have HLK := kp hl; have H := kp (Loc.start w); have hn2 : n ≤ 100000 := by omega
  have HC9 := kp (cA9 (a := a) (.slice ad n c) ha)
  have HZA := kp (sizeAs (a := a) (.slice ad n c) ha)
  have HZH := kp (sizeHl ok)
  have HZ2 := kp (sizeA8 ok.l2)
  have HPH := kp (cF_head ok u)
  have HP2 := kp (cF_a2 ok u)
  have HC0 := kp (show (cellsF h u)[0]? = some (.int .u8 h.kind) by rw [cF_at ok u 0 (by decide)]; rfl)
  have HC1 := kp (show (cellsF h u)[1]? = some (.int .u8 h.sub) by rw [cF_at ok u 1 (by decide)]; rfl)
  have HAW := kp (allow30_r a l h)
  clear hat hl hnl hcap hn ha ok
  go_enter Try.func19, Try.ntmps19
  generalize h1 : (Code.region 1 _ _ : Code) = R1
  generalize h4 : (Code.region 4 _ _ : Code) = R4
  go_wp2_with (first | ((with_reducible show wpList _ _ _ (Oper.mk (some 2) (Op.box 26 _) _ _ _ _ :: _) _ _); (with_reducible refine L_box H rfl 26 _ rfl (cellsA a (.slice ad n c)) rfl ?_); clear H; intro g2 w2 HGg2 HEg2 H; simp only [Act.put, List.setIfInBounds_toArray, List.set_cons_zero, List.set_cons_succ]) | ((with_reducible show wpList _ _ _ (Oper.mk (some 3) (Op.box 31 _) _ _ _ _ :: _) _ _); (with_reducible refine L_box H rfl 31 _ rfl (cellsF h u) rfl ?_); clear H; intro g3 w3 HGg3 HEg3 H; simp only [Act.put, List.setIfInBounds_toArray, List.set_cons_zero, List.set_cons_succ]))
  subst h1
  refine wp_cut [7, 8, 9, 10, 11, 12, 13, 14, 15, 16, 17, 18, 19, 20, 21, 22] (fun vs w' => Kp (Loc w w' [(g3, 31, cellsF h u), (g2, 26, cellsA a (.slice ad n c))]) ∧ vs 22 = .bool (!(valid30F a l && valid5F h && addrF a h))) ?_ ?_
  · cases hv : valid30F a l with
    | false =>
      rw [hv] at HCH
      clear hv
      go_wp2_with (first | ((with_reducible show wpList _ _ _ (Oper.mk _ (Op.load 26 _) _ _ _ _ :: _) _ _); (first | (refine L_load H rfl 26 _ rfl 0 rfl rfl Try.underlying26 rfl (HZA.out) ?_) | (refine L_load H rfl 26 _ rfl 1 rfl rfl Try.underlying26 rfl (HZA.out) ?_) | (refine L_load H rfl 26 _ rfl 2 rfl rfl Try.underlying26 rfl (HZA.out) ?_) | (refine L_load H rfl 26 _ rfl 3 rfl rfl Try.underlying26 rfl (HZA.out) ?_) | (refine L_load H rfl 26 _ rfl 4 rfl rfl Try.underlying26 rfl (HZA.out) ?_) | (refine L_load H rfl 26 _ rfl 5 rfl rfl Try.underlying26 rfl (HZA.out) ?_)); simp only [Act.put, List.setIfInBounds_toArray, List.set_cons_zero, List.set_cons_succ]) | (go_at_call 14; refine (HCH.out _ H.out.1).mono ?_; rintro e wa ⟨rfl, hx⟩; have H2 := kp (H.out.ext hx); have HXC := kp hx; clear H hx; have H := H2; clear H2))
      exact CutP.of rfl (by kernel_rfl) ⟨H, rfl⟩
    | true =>
      rw [hv] at HCH
      clear hv
      cases hv2 : valid5F h with
      | false =>
        rw [hv2] at HHC
        clear hv2
        go_wp2_with (first | ((with_reducible show wpList _ _ _ (Oper.mk _ (Op.load 26 _) _ _ _ _ :: _) _ _); (first | (refine L_load H rfl 26 _ rfl 0 rfl rfl Try.underlying26 rfl (HZA.out) ?_) | (refine L_load H rfl 26 _ rfl 1 rfl rfl Try.underlying26 rfl (HZA.out) ?_) | (refine L_load H rfl 26 _ rfl 2 rfl rfl Try.underlying26 rfl (HZA.out) ?_) | (refine L_load H rfl 26 _ rfl 3 rfl rfl Try.underlying26 rfl (HZA.out) ?_) | (refine L_load H rfl 26 _ rfl 4 rfl rfl Try.underlying26 rfl (HZA.out) ?_) | (refine L_load H rfl 26 _ rfl 5 rfl rfl Try.underlying26 rfl (HZA.out) ?_)); simp only [Act.put, List.setIfInBounds_toArray, List.set_cons_zero, List.set_cons_succ]) | (go_at_call 14; refine (HCH.out _ H.out.1).mono ?_; rintro e wa ⟨rfl, hx⟩; have H2 := kp (H.out.ext hx); have HXC := kp hx; clear H hx; have H := H2; clear H2) | ((with_reducible show wpList _ _ _ (Oper.mk (some 12) _ _ _ _ _ :: _) _ _); refine L_subG H (by kernel_rfl) 28 _ rfl 0 rfl (0) rfl (cellsH h) (HPH.out) Try.underlying28 rfl (HZH.out) ?_; simp only [Act.put, List.setIfInBounds_toArray, List.set_cons_zero, List.set_cons_succ]) | (go_at_call 49; refine (HHC.out _).mono ?_; rintro e wa ⟨rfl, hx⟩; have H2 := kp (H.out.ext hx); have HXC := kp hx; clear H hx; have H := H2; clear H2))
        exact CutP.of rfl (by kernel_rfl) ⟨H, rfl⟩
      | true =>
        rw [hv2] at HHC
        clear hv2
        go_wp2_with (first | ((with_reducible show wpList _ _ _ (Oper.mk _ (Op.load 26 _) _ _ _ _ :: _) _ _); (refine wpList_load_rowG (by kernel_rfl) 26 _ rfl (g2) rfl 26 (cellsA a (.slice ad n c)).toArray (0, 0) _ (H.out.at 1 rfl) Try.underlying26 rfl (HZA.out) ?_); simp only [Act.put, List.setIfInBounds_toArray, List.set_cons_zero, List.set_cons_succ]) | ((with_reducible show wpList _ _ _ (Oper.mk _ (Op.load 28 _) _ _ _ _ :: _) _ _); (first | (refine L_subG H (by kernel_rfl) 28 _ rfl 0 rfl (0) rfl (cellsH h) (HPH.out) Try.underlying28 rfl (HZH.out) ?_) | (refine L_subG H (by kernel_rfl) 28 _ rfl 1 rfl (0) rfl (cellsH h) (HPH.out) Try.underlying28 rfl (HZH.out) ?_) | (refine L_subG H (by kernel_rfl) 28 _ rfl 2 rfl (0) rfl (cellsH h) (HPH.out) Try.underlying28 rfl (HZH.out) ?_) | (refine L_subG H (by kernel_rfl) 28 _ rfl 3 rfl (0) rfl (cellsH h) (HPH.out) Try.underlying28 rfl (HZH.out) ?_) | (refine L_subG H (by kernel_rfl) 28 _ rfl 4 rfl (0) rfl (cellsH h) (HPH.out) Try.underlying28 rfl (HZH.out) ?_) | (refine L_subG H (by kernel_rfl) 28 _ rfl 5 rfl (0) rfl (cellsH h) (HPH.out) Try.underlying28 rfl (HZH.out) ?_)); simp only [Act.put, List.setIfInBounds_toArray, List.set_cons_zero, List.set_cons_succ]) | (go_at_call 14; refine (HCH.out _ H.out.1).mono ?_; rintro e wa ⟨rfl, hx⟩; have H2 := kp (H.out.ext hx); have HXC := kp hx; clear H hx; have H := H2; clear H2) | (go_at_call 49; refine (HHC.out _).mono ?_; rintro e wa ⟨rfl, hx⟩; have H2 := kp (H.out.ext hx); have HXC := kp hx; clear H hx; have H := H2; clear H2) | (go_at_call 50; refine (HAD.out _).mono ?_; rintro e wa ⟨rfl, hx⟩; have H2 := kp (H.out.ext hx); have HXC := kp hx; clear H hx; have H := H2; clear H2))
        exact CutP.of rfl (by kernel_rfl) ⟨H, by simp⟩
  rintro vs w4 ⟨H, e22⟩
  simp only [putMany, List.setIfInBounds_toArray, List.set_cons_zero, List.set_cons_succ]
  rw [e22]
  clear e22
  cases hb : (valid30F a l && valid5F h && addrF a h) with
  | false =>
    have HK := kp (show allow30F a l h = false by rw [HAW.out, hb]; rfl)
    clear hb
    go_wp2_with fail
    go_ret
    exact ⟨congrArg (fun z => Ending.returned (.bool z)) HK.out.symm, H.out.1⟩
  | true =>
    have HK := kp (show allow30F a l h = allowR h.kind h.sub (memF l h.a2) (decide (0 ≤ findI l h.a2)) by rw [HAW.out, hb]; rfl)
    clear hb
    have HRR := kp (fun m : Bool => fun s : Bool => show allowR h.kind h.sub m s = (if h.kind = 2 then m else if (h.sub == 11 || h.sub == 12 || h.sub == 4 || h.sub == 5 || h.sub == 8) then true else if h.sub = 13 then m else s) from rfl)
    rcases findI_cases l h.a2 with hd | ⟨i, hi, hd⟩
    · have HK := kp (show allow30F a l h = allowR h.kind h.sub false false by rw [HK.out, hd, memF, hd]; rfl)
      rw [hd] at HFI
      clear hd
      go_wp2_with (first | ((with_reducible show wpList _ _ _ (Oper.mk _ (Op.load 26 _) _ _ _ _ :: _) _ _); (refine wpList_load_rowG (by kernel_rfl) 26 _ rfl (g2) rfl 26 (cellsA a (.slice ad n c)).toArray (0, 0) _ (H.out.at 1 rfl) Try.underlying26 rfl (HZA.out) ?_); simp only [Act.put, List.setIfInBounds_toArray, List.set_cons_zero, List.set_cons_succ]) | ((with_reducible show wpList _ _ _ (Oper.mk _ (Op.load 23 _) _ _ _ _ :: _) _ _); (first | (refine L_subG H (by kernel_rfl) 23 _ rfl 0 rfl (16) rfl (h.a2.map V8) (HP2.out) Try.underlying23 rfl (HZ2.out) ?_) | (refine L_subG H (by kernel_rfl) 23 _ rfl 1 rfl (16) rfl (h.a2.map V8) (HP2.out) Try.underlying23 rfl (HZ2.out) ?_) | (refine L_subG H (by kernel_rfl) 23 _ rfl 2 rfl (16) rfl (h.a2.map V8) (HP2.out) Try.underlying23 rfl (HZ2.out) ?_) | (refine L_subG H (by kernel_rfl) 23 _ rfl 3 rfl (16) rfl (h.a2.map V8) (HP2.out) Try.underlying23 rfl (HZ2.out) ?_) | (refine L_subG H (by kernel_rfl) 23 _ rfl 4 rfl (16) rfl (h.a2.map V8) (HP2.out) Try.underlying23 rfl (HZ2.out) ?_) | (refine L_subG H (by kernel_rfl) 23 _ rfl 5 rfl (16) rfl (h.a2.map V8) (HP2.out) Try.underlying23 rfl (HZ2.out) ?_)); simp only [Act.put, List.setIfInBounds_toArray, List.set_cons_zero, List.set_cons_succ]) | (go_at_call 15; refine (HFI.out _ H.out.1).mono ?_; rintro e wa ⟨rfl, hx⟩; have H2 := kp (H.out.ext hx); have HXC := kp hx; clear H hx; have H := H2; clear H2; have hc0 := run_load_cell H.out 0 rfl _ _ HC0.out; have hc1 := run_load_cell H.out 0 rfl _ _ HC1.out))
      subst h4
      go_wp2_with fail
      all_goals (go_ret; exact ⟨congrArg (fun z => Ending.returned (.bool z)) (by rw [HK.out, HRR.out]; first | (simp [*]; done) | simp_all), H.out.1⟩)
    · have hmm : memF l h.a2 = ((enAt l i).state == 2) := by rw [memF, hd]; simp
      obtain ⟨x, hx⟩ : ∃ x, l[i]? = some x := ⟨l[i]'hi, by simp⟩
      obtain ⟨b, off, rfl, hb, hr⟩ := HAT.out i x hx
      have HK := kp (show allow30F a l h = allowR h.kind h.sub (x.state == 2) true by rw [HK.out, hmm, hd, enAt_some hx]; simp)
      have HB := kp hb
      have HR := kp hr
      have HXK := kp (HLK.out x (List.mem_of_getElem? hx))
      have hin : i < n := by rw [HNL.out]; exact hi
      rw [hd] at HFI
      clear hb hr hx hi hd hmm
      have H6 := kp (cE6 HXK.out)
      go_wp2_with (first | ((with_reducible show wpList _ _ _ (Oper.mk _ (Op.load 26 _) _ _ _ _ :: _) _ _); (refine wpList_load_rowG (by kernel_rfl) 26 _ rfl (g2) rfl 26 (cellsA a (.slice (some ⟨b, off, none⟩) n c)).toArray (0, 0) _ (H.out.at 1 rfl) Try.underlying26 rfl (HZA.out) ?_); simp only [Act.put, List.setIfInBounds_toArray, List.set_cons_zero, List.set_cons_succ]) | ((with_reducible show wpList _ _ _ (Oper.mk _ (Op.load 23 _) _ _ _ _ :: _) _ _); (first | (refine L_subG H (by kernel_rfl) 23 _ rfl 0 rfl (16) rfl (h.a2.map V8) (HP2.out) Try.underlying23 rfl (HZ2.out) ?_) | (refine L_subG H (by kernel_rfl) 23 _ rfl 1 rfl (16) rfl (h.a2.map V8) (HP2.out) Try.underlying23 rfl (HZ2.out) ?_) | (refine L_subG H (by kernel_rfl) 23 _ rfl 2 rfl (16) rfl (h.a2.map V8) (HP2.out) Try.underlying23 rfl (HZ2.out) ?_) | (refine L_subG H (by kernel_rfl) 23 _ rfl 3 rfl (16) rfl (h.a2.map V8) (HP2.out) Try.underlying23 rfl (HZ2.out) ?_) | (refine L_subG H (by kernel_rfl) 23 _ rfl 4 rfl (16) rfl (h.a2.map V8) (HP2.out) Try.underlying23 rfl (HZ2.out) ?_) | (refine L_subG H (by kernel_rfl) 23 _ rfl 5 rfl (16) rfl (h.a2.map V8) (HP2.out) Try.underlying23 rfl (HZ2.out) ?_)); simp only [Act.put, List.setIfInBounds_toArray, List.set_cons_zero, List.set_cons_succ]) | (go_at_call 15; refine (HFI.out _ H.out.1).mono ?_; rintro e wa ⟨rfl, hx⟩; have H2 := kp (H.out.ext hx); have HXC := kp hx; clear H hx; have H := H2; clear H2; have hc0 := run_load_cell H.out 0 rfl _ _ HC0.out; have hc1 := run_load_cell H.out 0 rfl _ _ HC1.out; have hc9 := run_load_cell H.out 1 rfl _ _ HC9.out; have HR3 := rangeAt_ext HR.out HB.out H.out.1; have hc6 := HR3 6 _ H6.out; clear HR3))
      subst h4
      cases hst : (x.state == 2) with
      | true =>
        rw [hst] at HK
        go_wp2_with fail
        all_goals (go_ret; exact ⟨congrArg (fun z => Ending.returned (.bool z)) (by rw [HK.out, HRR.out]; first | (simp [*]; done) | simp_all), H.out.1⟩)
      | false =>
        rw [hst] at HK
        go_wp2_with fail
        all_goals (go_ret; exact ⟨congrArg (fun z => Ending.returned (.bool z)) (by rw [HK.out, HRR.out]; first | (simp [*]; done) | simp_all), H.out.1⟩)
end Go.Proofs.Ytfecopfofkdnpaa
