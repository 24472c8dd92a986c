/- The statement AssocKnows: the walk. -/
import Derived.Test.YtfecopfofkdnpaaAlw
namespace Go.Proofs.Ytfecopfofkdnpaa
open Go.RowKit
def iF (a : As) (l : List En) (t : List (BitVec 8)) : Int := if validA a l then findI l t else -1
def kF (a : As) (l : List En) (aid : Int) : Int := if validA a l then holderF l aid else -1
def atF (l : List En) (i : Int) : En := if 0 ≤ i then enAt l i.toNat else en0
theorem iF_cases (a : As) (l : List En) (t : List (BitVec 8)) : iF a l t = -1 ∨ ∃ i : Nat, i < l.length ∧ iF a l t = i := by
  unfold iF; split
  · exact findI_cases l t
  · exact .inl rfl
theorem kF_cases (a : As) (l : List En) (t : Int) : kF a l t = -1 ∨ ∃ i : Nat, i < l.length ∧ kF a l t = i := by
  unfold kF; split
  · exact holder_cases l t
  · exact .inl rfl
theorem findE_eq (a : As) (l : List En) (t : List (BitVec 8)) : findE a l t = (atF l (iF a l t), decide (0 ≤ iF a l t)) := by
  unfold findE iF atF
  cases validA a l with
  | false => simp
  | true =>
    by_cases h : 0 ≤ findI l t
    · simp [h]
    · simp [h]
theorem byE_eq (a : As) (l : List En) (t : Int) : byE a l t = (atF l (kF a l t), decide (0 ≤ kF a l t)) := by
  unfold byE kF atF
  cases validA a l with
  | false => simp
  | true =>
    by_cases h : 0 ≤ holderF l t
    · simp [h]
    · simp [h]
theorem atF_len (l : List En) (hl : ∀ x ∈ l, x.Ok) (i : Int) (h : i = -1 ∨ ∃ j : Nat, j < l.length ∧ i = j) : (atF l i).Ok := by
  have h0 : en0.Ok := ⟨rfl, by decide, by decide⟩
  unfold atF
  split
  · rcases h with h | ⟨j, hj, h⟩
    · rename_i q; rw [h] at q; exact absurd q (by decide)
    · rw [h]
      show (enAt l j).Ok
      rw [enAt_get hj]; exact hl _ (List.getElem_mem hj)
  · exact h0
theorem same_self (a : As) (l : List En) : sameF a l a l = true := by simp [sameF, sameH]
set_option maxRecDepth 10000 in
set_option maxHeartbeats 12800000 in
theorem assocKnows_walk (a : As) (ha : a.own.length = 6) (v : Value) (l : List En) (hl : ∀ x ∈ l, x.Ok) (hn : l.length ≤ 9223372036854775807) (sta : List (BitVec 8)) (hs : sta.length = 6) (aid limit : Int) (h : Hd) (ok : h.Ok) (ad2 : Option Addr) (n2 c2 : Nat) (w : World) (hsl : SlT 11 cellsE w v l) :
    Calls Try.prog 3 #[.agg (cellsA a v).toArray, .agg (sta.map V8).toArray, .int .i64 aid, .int .i64 limit, .agg (cellsF h (.slice ad2 n2 c2)).toArray] w fun e w' => e = .returned (.bool true) ∧ Ext w w' := by
  have HSL := kp hsl
  have HLO := kp (fun x hx => (hl x hx).l)
  obtain ⟨ad, n, c, rfl, hnl, hcap, hat⟩ := hsl
  have HAT := kp hat; have HNL := kp hnl; have HLK := kp hl; have H := kp (Loc.start w)
  have hnn : n ≤ 9223372036854775807 := by omega
  have HC6 := kp (cA6 (a := a) (.slice ad n c) ha)
  have HC8 := kp (cA8 (a := a) (.slice ad n c) ha)
  have HC9 := kp (cA9 (a := a) (.slice ad n c) ha)
  have HZA := kp (sizeAs (a := a) (.slice ad n c) ha)
  have HZS := kp (sizeA8a hs)
  have HZF := kp (sizeF ok (.slice ad2 n2 c2))
  have HGR := kp (great5_any h ok ad2 n2 c2)
  have HOK := kp ok
  have HOW := kp ha
  have HST := kp hs
  clear hat hl hnl hcap hn ha hs ok
  go_enter Try.func3, Try.ntmps3
  generalize hh3 : (Code.region 3 _ _ : Code) = R3
  generalize hh8 : ((Code.region 8 _ _ : Code).seq _) = C8
  generalize hh10 : (Code.region 10 _ _ : Code) = R10
  generalize hh11 : ((Code.region 11 _ _ : Code).seq _) = C11
  generalize hh13 : ((Code.region 13 _ _ : Code).seq _) = C13
  generalize hh15 : (Code.region 15 _ _ : Code) = R15
  by_cases h100 : 100 < n
  · go_wp2_with (first | ((with_reducible show wpList _ _ _ (Oper.mk (some 5) (Op.box 26 _) _ _ _ _ :: _) _ _); (with_reducible refine L_box H rfl 26 _ rfl (cellsA a (.slice ad n c)) rfl ?_); clear H; intro g5 w5 HGg5 HEg5 H; simp only [Act.put, List.setIfInBounds_toArray, List.set_cons_zero, List.set_cons_succ]) | ((with_reducible show wpList _ _ _ (Oper.mk (some 6) (Op.box 23 _) _ _ _ _ :: _) _ _); (with_reducible refine L_box H rfl 23 _ rfl (sta.map V8) rfl ?_); clear H; intro g6 w6 HGg6 HEg6 H; simp only [Act.put, List.setIfInBounds_toArray, List.set_cons_zero, List.set_cons_succ]) | (((with_reducible show wpList _ _ _ (Oper.mk (some 9) (Op.box 31 _) _ _ _ _ :: _) _ _); (with_reducible refine L_box H rfl 31 _ rfl (cellsF h (.slice ad2 n2 c2)) rfl ?_); clear H; intro g9 w9 HGg9 HEg9 H; simp only [Act.put, List.setIfInBounds_toArray, List.set_cons_zero, List.set_cons_succ]); have hc9 := run_load_cell H.out 2 rfl _ _ HC9.out))
    go_ret
    exact ⟨rfl, H.out.1⟩
  have h1d := kp (show decide ((100:Int) < (n:Int)) = false from decide_eq_false (by omega))
  cases hg : decide (2400 < n2) with
  | true =>
    rw [hg] at HGR
    clear hg
    go_wp2_with (first | ((with_reducible show wpList _ _ _ (Oper.mk (some 5) (Op.box 26 _) _ _ _ _ :: _) _ _); (with_reducible refine L_box H rfl 26 _ rfl (cellsA a (.slice ad n c)) rfl ?_); clear H; intro g5 w5 HGg5 HEg5 H; simp only [Act.put, List.setIfInBounds_toArray, List.set_cons_zero, List.set_cons_succ]) | ((with_reducible show wpList _ _ _ (Oper.mk (some 6) (Op.box 23 _) _ _ _ _ :: _) _ _); (with_reducible refine L_box H rfl 23 _ rfl (sta.map V8) rfl ?_); clear H; intro g6 w6 HGg6 HEg6 H; simp only [Act.put, List.setIfInBounds_toArray, List.set_cons_zero, List.set_cons_succ]) | (((with_reducible show wpList _ _ _ (Oper.mk (some 9) (Op.box 31 _) _ _ _ _ :: _) _ _); (with_reducible refine L_box H rfl 31 _ rfl (cellsF h (.slice ad2 n2 c2)) rfl ?_); clear H; intro g9 w9 HGg9 HEg9 H; simp only [Act.put, List.setIfInBounds_toArray, List.set_cons_zero, List.set_cons_succ]); have hc9 := run_load_cell H.out 2 rfl _ _ HC9.out) | ((with_reducible show wpList _ _ _ (Oper.mk (some 28) _ _ _ _ _ :: _) _ _); (refine wpList_load_rowG (by simp only [h1d.out]; kernel_rfl) 31 _ rfl (g9) rfl 31 (cellsF h (.slice ad2 n2 c2)).toArray (0, 0) _ (H.out.at 0 rfl) Try.underlying31 rfl (HZF.out) ?_); simp only [Act.put, List.setIfInBounds_toArray, List.set_cons_zero, List.set_cons_succ]) | (go_at_call 9; refine (HGR.out _).mono ?_; rintro e wa ⟨rfl, hx⟩; have H2 := kp (H.out.ext hx); have HXC := kp hx; clear H hx; have H := H2; clear H2))
    go_ret
    exact ⟨rfl, H.out.1⟩
  | false =>
    rw [hg] at HGR
    clear hg
    go_wp2_with (first | ((with_reducible show wpList _ _ _ (Oper.mk (some 5) (Op.box 26 _) _ _ _ _ :: _) _ _); (with_reducible refine L_box H rfl 26 _ rfl (cellsA a (.slice ad n c)) rfl ?_); clear H; intro g5 w5 HGg5 HEg5 H; simp only [Act.put, List.setIfInBounds_toArray, List.set_cons_zero, List.set_cons_succ]) | ((with_reducible show wpList _ _ _ (Oper.mk (some 6) (Op.box 23 _) _ _ _ _ :: _) _ _); (with_reducible refine L_box H rfl 23 _ rfl (sta.map V8) rfl ?_); clear H; intro g6 w6 HGg6 HEg6 H; simp only [Act.put, List.setIfInBounds_toArray, List.set_cons_zero, List.set_cons_succ]) | (((with_reducible show wpList _ _ _ (Oper.mk (some 9) (Op.box 31 _) _ _ _ _ :: _) _ _); (with_reducible refine L_box H rfl 31 _ rfl (cellsF h (.slice ad2 n2 c2)) rfl ?_); clear H; intro g9 w9 HGg9 HEg9 H; simp only [Act.put, List.setIfInBounds_toArray, List.set_cons_zero, List.set_cons_succ]); have hc9 := run_load_cell H.out 2 rfl _ _ HC9.out) | ((with_reducible show wpList _ _ _ (Oper.mk (some 28) _ _ _ _ _ :: _) _ _); (refine wpList_load_rowG (by simp only [h1d.out]; kernel_rfl) 31 _ rfl (g9) rfl 31 (cellsF h (.slice ad2 n2 c2)).toArray (0, 0) _ (H.out.at 0 rfl) Try.underlying31 rfl (HZF.out) ?_); simp only [Act.put, List.setIfInBounds_toArray, List.set_cons_zero, List.set_cons_succ]) | (go_at_call 9; refine (HGR.out _).mono ?_; rintro e wa ⟨rfl, hx⟩; clear hc9; have H2 := kp (H.out.ext hx); have HXC := kp hx; clear H hx; have H := H2; clear H2))
    have HLN := kp (show l.length ≤ 100000 by rw [← HNL.out]; omega)
    have HFI := kp (fun w' hx => find_any a HOW.out (.slice ad n c) l HLO.out HLN.out sta HST.out w' (HSL.out.ext hx))
    have HBY := kp (fun w' hx => byAid_any a HOW.out (.slice ad n c) l HLO.out HLN.out aid w' (HSL.out.ext hx))
    have HF3 := kp (fun w' hx => find30_any a HOW.out (.slice ad n c) l HLO.out HLN.out sta HST.out w' (HSL.out.ext hx))
    have HHO := kp (fun w' hx => holder_any (.slice ad n c) l HLO.out HLN.out aid w' (HSL.out.ext hx))
    have HCH := kp (fun w' hx => check_any a HOW.out (.slice ad n c) l HLO.out HLN.out w' (HSL.out.ext hx))
    have HVA := kp (fun w' hx => valid30_any a HOW.out (.slice ad n c) l HLO.out HLN.out w' (HSL.out.ext hx))
    have HA1 := kp (fun w' hx => allowed_any a HOW.out (.slice ad n c) l HLO.out HLN.out h HOK.out (.slice ad2 n2 c2) w' (HSL.out.ext hx))
    have HA2 := kp (fun w' hx => allowed30_any a HOW.out (.slice ad n c) l HLO.out HLN.out h HOK.out (.slice ad2 n2 c2) w' (HSL.out.ext hx))
    rw [allow_eq a l h HOK.out] at HA2
    generalize allowF a l h = alF at HA1 HA2
    rw [valid30_eq] at HVA
    rw [findE_eq] at HFI
    rw [byE_eq] at HBY
    have HNW := kp (new_any ⟨sta, a.caps, limit, a.idle⟩ HST.out)
    have HNR := kp (new30_any ⟨sta, a.caps, limit, a.idle⟩ HST.out)
    have HNO := kp (newA_len (a := ⟨sta, a.caps, limit, a.idle⟩) HST.out)
    generalize newA ⟨sta, a.caps, limit, a.idle⟩ = nA at HNW HNR HNO
    generalize newE ⟨sta, a.caps, limit, a.idle⟩ = nE at HNW HNR
    have HIC := kp (iF_cases a l sta)
    have HKC := kp (kF_cases a l aid)
    have HIO := kp (atF_len l HLK.out (iF a l sta) HIC.out)
    have HKO := kp (atF_len l HLK.out (kF a l aid) HKC.out)
    have HID := kp (show iF a l sta = if validA a l then findI l sta else -1 from rfl)
    have HKD := kp (show kF a l aid = if validA a l then holderF l aid else -1 from rfl)
    generalize iF a l sta = i0 at HFI HIC HIO HID
    generalize kF a l aid = k0 at HBY HKC HKO HKD
    have HSM := kp (fun w' => same_any nA nA HNO.out HNO.out nilV nilV [] [] (fun x hx => by cases hx) (fun x hx => by cases hx) (by simp) (by simp) w' (SlT.nil w') (SlT.nil w'))
    rw [same_self] at HSM
    have HZN := kp (sizeAs (a := nA) nilV HNO.out)
    have HLN0 := kp (show (cellsA as0 nilV).length = (cellsA nA nilV).length by rw [cellsA_len _ HNO.out]; rfl)
    have HZI := kp (sizeEa HIO.out.l)
    have HZK := kp (sizeEa HKO.out.l)
    have HLI := kp (show (cellsE en0).length = (cellsE (atF l i0)).length by rw [cellsE_len HIO.out.l]; rfl)
    have HLK0 := kp (show (cellsE en0).length = (cellsE (atF l k0)).length by rw [cellsE_len HKO.out.l]; rfl)
    have HOE := kp one_cellsE
    have HOA := kp one_cellsA
    have HGT := kp Try.eqGuardType39
    have HEI := kp (fun w => eqEn w (atF l i0) (atF l i0) HIO.out HIO.out)
    have HEK := kp (fun w => eqEn w (atF l k0) (atF l k0) HKO.out HKO.out)
    rw [decide_eq_true (rfl : atF l i0 = atF l i0)] at HEI
    rw [decide_eq_true (rfl : atF l k0 = atF l k0)] at HEK
    have HZE0 := kp (show (Try.prog.info? 39).map (·.size) = some (cellsE en0).toArray.size by kernel_rfl)
    subst hh3
    have hc6 := run_load_cell H.out 2 rfl _ _ HC6.out
    have hc8 := run_load_cell H.out 2 rfl _ _ HC8.out
    go_wp2_with (first | ((with_reducible show wpList _ _ _ (Oper.mk _ (Op.load 23 _) _ _ _ _ :: _) _ _); (refine wpList_load_rowG (by kernel_rfl) 23 _ rfl (g6) rfl 23 (sta.map V8).toArray (0, 0) _ (H.out.at 1 rfl) Try.underlying23 rfl (HZS.out) ?_); simp only [Act.put, List.setIfInBounds_toArray, List.set_cons_zero, List.set_cons_succ]) | ((with_reducible show wpList _ _ _ (Oper.mk _ (Op.load 23 _) _ _ _ _ :: _) _ _); (refine wpList_load_rowG (by kernel_rfl) 23 _ rfl (g6) rfl 23 (sta.map V8).toArray (0, 0) _ (H.out.at 2 rfl) Try.underlying23 rfl (HZS.out) ?_); simp only [Act.put, List.setIfInBounds_toArray, List.set_cons_zero, List.set_cons_succ]) | ((with_reducible show wpList _ _ _ (Oper.mk _ (Op.load 23 _) _ _ _ _ :: _) _ _); (refine wpList_load_rowG (by kernel_rfl) 23 _ rfl (g6) rfl 23 (sta.map V8).toArray (0, 0) _ (H.out.at 3 rfl) Try.underlying23 rfl (HZS.out) ?_); simp only [Act.put, List.setIfInBounds_toArray, List.set_cons_zero, List.set_cons_succ]) | ((with_reducible show wpList _ _ _ (Oper.mk _ (Op.load 26 _) _ _ _ _ :: _) _ _); (refine wpList_load_rowG (by kernel_rfl) 26 _ rfl (g5) rfl 26 (cellsA a (.slice ad n c)).toArray (0, 0) _ (H.out.at 4 rfl) Try.underlying26 rfl (HZA.out) ?_); simp only [Act.put, List.setIfInBounds_toArray, List.set_cons_zero, List.set_cons_succ]) | ((with_reducible show wpList _ _ _ (Oper.mk _ (Op.load 26 _) _ _ _ _ :: _) _ _); (refine wpList_load_rowG (by kernel_rfl) 26 _ rfl (g5) rfl 26 (cellsA a (.slice ad n c)).toArray (0, 0) _ (H.out.at 5 rfl) Try.underlying26 rfl (HZA.out) ?_); simp only [Act.put, List.setIfInBounds_toArray, List.set_cons_zero, List.set_cons_succ]) | (go_at_call 10; refine (HNW.out _).mono ?_; rintro e wa ⟨rfl, hx⟩; clear hc6 hc8; have H2 := kp (H.out.ext hx); have HXC := kp hx; clear H hx; have H := H2; clear H2) | (go_at_call 11; refine (HNR.out _).mono ?_; rintro e wa ⟨rfl, hx⟩; clear hc6 hc8; have H2 := kp (H.out.ext hx); have HXC := kp hx; clear H hx; have H := H2; clear H2) | (go_at_call 12; refine (HFI.out _ H.out.1).mono ?_; rintro e wa ⟨rfl, hx⟩; have H2 := kp (H.out.ext hx); have HXC := kp hx; clear H hx; have H := H2; clear H2) | (go_at_call 13; refine (HBY.out _ H.out.1).mono ?_; rintro e wa ⟨rfl, hx⟩; have H2 := kp (H.out.ext hx); have HXC := kp hx; clear H hx; have H := H2; clear H2) | ((with_reducible show wpList _ _ _ (Oper.mk (some 11) (Op.alloc 26) _ _ _ _ :: _) _ _); (with_reducible refine L_alloc H rfl 26 rfl (cellsA as0 nilV) (fun _ _ => by kernel_rfl) ?_); clear H; intro g11 w11 HGg11 HEg11 H; simp only [Act.put, List.setIfInBounds_toArray, List.set_cons_zero, List.set_cons_succ]) | ((with_reducible show wpList _ _ _ (Oper.mk (some 13) (Op.alloc 26) _ _ _ _ :: _) _ _); (with_reducible refine L_alloc H rfl 26 rfl (cellsA as0 nilV) (fun _ _ => by kernel_rfl) ?_); clear H; intro g13 w13 HGg13 HEg13 H; simp only [Act.put, List.setIfInBounds_toArray, List.set_cons_zero, List.set_cons_succ]) | ((with_reducible show wpList _ _ _ (Oper.mk (some 15) (Op.alloc 39) _ _ _ _ :: _) _ _); (with_reducible refine L_alloc H rfl 39 rfl (cellsE en0) (fun _ _ => by kernel_rfl) ?_); clear H; intro g15 w15 HGg15 HEg15 H; simp only [Act.put, List.setIfInBounds_toArray, List.set_cons_zero, List.set_cons_succ]) | ((with_reducible show wpList _ _ _ (Oper.mk (some 17) (Op.alloc 39) _ _ _ _ :: _) _ _); (with_reducible refine L_alloc H rfl 39 rfl (cellsE en0) (fun _ _ => by kernel_rfl) ?_); clear H; intro g17 w17 HGg17 HEg17 H; simp only [Act.put, List.setIfInBounds_toArray, List.set_cons_zero, List.set_cons_succ]) | (((with_reducible show wpList _ _ _ (Oper.mk none (Op.store 26 _ _) _ _ _ _ :: _) _ _); (first | (refine L_store H rfl rfl 26 _ _ rfl 0 rfl rfl (cellsA nA nilV) rfl (HZN.out) (HLN0.out) (HOA.out _) ?_; clear H; intro wz HWwz H; simp only [List.set_cons_zero] at H) | (refine L_store H rfl rfl 26 _ _ rfl 1 rfl rfl (cellsA nA nilV) rfl (HZN.out) (HLN0.out) (HOA.out _) ?_; clear H; intro wz HWwz H; simp only [List.set_cons_succ, List.set_cons_zero] at H) | (refine L_store H rfl rfl 26 _ _ rfl 2 rfl rfl (cellsA nA nilV) rfl (HZN.out) (HLN0.out) (HOA.out _) ?_; clear H; intro wz HWwz H; simp only [List.set_cons_succ, List.set_cons_zero] at H) | (refine L_store H rfl rfl 26 _ _ rfl 3 rfl rfl (cellsA nA nilV) rfl (HZN.out) (HLN0.out) (HOA.out _) ?_; clear H; intro wz HWwz H; simp only [List.set_cons_succ, List.set_cons_zero] at H) | (refine L_store H rfl rfl 26 _ _ rfl 4 rfl rfl (cellsA nA nilV) rfl (HZN.out) (HLN0.out) (HOA.out _) ?_; clear H; intro wz HWwz H; simp only [List.set_cons_succ, List.set_cons_zero] at H) | (refine L_store H rfl rfl 26 _ _ rfl 5 rfl rfl (cellsA nA nilV) rfl (HZN.out) (HLN0.out) (HOA.out _) ?_; clear H; intro wz HWwz H; simp only [List.set_cons_succ, List.set_cons_zero] at H))); (try (have hc6 := run_load_cell H.out 3 rfl _ _ HC6.out; have hc8 := run_load_cell H.out 3 rfl _ _ HC8.out))) | ((with_reducible show wpList _ _ _ (Oper.mk none (Op.store 39 _ _) _ _ _ _ :: _) _ _); (first | (refine L_store H rfl rfl 39 _ _ rfl 0 rfl rfl (cellsE (atF l i0)) rfl (HZI.out) (HLI.out) (HOE.out _) ?_; clear H; intro wy HWwy H; simp only [List.set_cons_zero] at H) | (refine L_store H rfl rfl 39 _ _ rfl 1 rfl rfl (cellsE (atF l i0)) rfl (HZI.out) (HLI.out) (HOE.out _) ?_; clear H; intro wy HWwy H; simp only [List.set_cons_succ, List.set_cons_zero] at H) | (refine L_store H rfl rfl 39 _ _ rfl 2 rfl rfl (cellsE (atF l i0)) rfl (HZI.out) (HLI.out) (HOE.out _) ?_; clear H; intro wy HWwy H; simp only [List.set_cons_succ, List.set_cons_zero] at H) | (refine L_store H rfl rfl 39 _ _ rfl 3 rfl rfl (cellsE (atF l i0)) rfl (HZI.out) (HLI.out) (HOE.out _) ?_; clear H; intro wy HWwy H; simp only [List.set_cons_succ, List.set_cons_zero] at H) | (refine L_store H rfl rfl 39 _ _ rfl 4 rfl rfl (cellsE (atF l i0)) rfl (HZI.out) (HLI.out) (HOE.out _) ?_; clear H; intro wy HWwy H; simp only [List.set_cons_succ, List.set_cons_zero] at H) | (refine L_store H rfl rfl 39 _ _ rfl 5 rfl rfl (cellsE (atF l i0)) rfl (HZI.out) (HLI.out) (HOE.out _) ?_; clear H; intro wy HWwy H; simp only [List.set_cons_succ, List.set_cons_zero] at H))) | ((with_reducible show wpList _ _ _ (Oper.mk none (Op.store 39 _ _) _ _ _ _ :: _) _ _); (first | (refine L_store H rfl rfl 39 _ _ rfl 0 rfl rfl (cellsE (atF l k0)) rfl (HZK.out) (HLK0.out) (HOE.out _) ?_; clear H; intro wx HWwx H; simp only [List.set_cons_zero] at H) | (refine L_store H rfl rfl 39 _ _ rfl 1 rfl rfl (cellsE (atF l k0)) rfl (HZK.out) (HLK0.out) (HOE.out _) ?_; clear H; intro wx HWwx H; simp only [List.set_cons_succ, List.set_cons_zero] at H) | (refine L_store H rfl rfl 39 _ _ rfl 2 rfl rfl (cellsE (atF l k0)) rfl (HZK.out) (HLK0.out) (HOE.out _) ?_; clear H; intro wx HWwx H; simp only [List.set_cons_succ, List.set_cons_zero] at H) | (refine L_store H rfl rfl 39 _ _ rfl 3 rfl rfl (cellsE (atF l k0)) rfl (HZK.out) (HLK0.out) (HOE.out _) ?_; clear H; intro wx HWwx H; simp only [List.set_cons_succ, List.set_cons_zero] at H) | (refine L_store H rfl rfl 39 _ _ rfl 4 rfl rfl (cellsE (atF l k0)) rfl (HZK.out) (HLK0.out) (HOE.out _) ?_; clear H; intro wx HWwx H; simp only [List.set_cons_succ, List.set_cons_zero] at H) | (refine L_store H rfl rfl 39 _ _ rfl 5 rfl rfl (cellsE (atF l k0)) rfl (HZK.out) (HLK0.out) (HOE.out _) ?_; clear H; intro wx HWwx H; simp only [List.set_cons_succ, List.set_cons_zero] at H))))
    subst hh8
    refine wp_cut [63, 64, 65, 66, 67, 68, 69, 70, 71, 19, 20] (fun vs w' => Kp (Loc w w' [(g17, 39, cellsE (atF l k0)), (g15, 39, cellsE (atF l i0)), (g13, 26, cellsA nA nilV), (g11, 26, cellsA nA nilV), (g9, 31, cellsF h (.slice ad2 n2 c2)), (g6, 23, sta.map V8), (g5, 26, cellsA a (.slice ad n c))]) ∧ vs 19 = .int .i64 i0 ∧ vs 20 = .int .i64 k0) ?_ ?_
    · cases hv : validA a l with
      | false =>
        rw [hv] at HVA
        have HI := kp (show i0 = -1 by rw [HID.out, hv]; rfl)
        have HK := kp (show k0 = -1 by rw [HKD.out, hv]; rfl)
        clear hv
        go_wp2_with (first | ((with_reducible show wpList _ _ _ (Oper.mk _ (Op.load 26 _) _ _ _ _ :: _) _ _); (refine wpList_load_rowG (by kernel_rfl) 26 _ rfl (g5) rfl 26 (cellsA a (.slice ad n c)).toArray (0, 0) _ (H.out.at 6 rfl) Try.underlying26 rfl (HZA.out) ?_); simp only [Act.put, List.setIfInBounds_toArray, List.set_cons_zero, List.set_cons_succ]) | (go_at_call 14; refine (HVA.out _ H.out.1).mono ?_; rintro e wa ⟨rfl, hx⟩; have H2 := kp (H.out.ext hx); have HXC := kp hx; clear H hx; have H := H2; clear H2))
        exact CutP.of rfl (by kernel_rfl) ⟨H, congrArg (Value.int .i64) HI.out.symm, congrArg (Value.int .i64) HK.out.symm⟩
      | true =>
        rw [hv] at HVA
        have HI := kp (show findI l sta = i0 by rw [HID.out, hv]; rfl)
        have HK := kp (show holderF l aid = k0 by rw [HKD.out, hv]; rfl)
        clear hv
        rw [HI.out] at HF3
        rw [HK.out] at HHO
        go_wp2_with (first | ((with_reducible show wpList _ _ _ (Oper.mk _ (Op.load 26 _) _ _ _ _ :: _) _ _); (refine wpList_load_rowG (by kernel_rfl) 26 _ rfl (g5) rfl 26 (cellsA a (.slice ad n c)).toArray (0, 0) _ (H.out.at 6 rfl) Try.underlying26 rfl (HZA.out) ?_); simp only [Act.put, List.setIfInBounds_toArray, List.set_cons_zero, List.set_cons_succ]) | (go_at_call 14; refine (HVA.out _ H.out.1).mono ?_; rintro e wa ⟨rfl, hx⟩; have H2 := kp (H.out.ext hx); have HXC := kp hx; clear H hx; have H := H2; clear H2))
        refine region_free H (tabS [(65, fun zv _ => zv = .agg (cellsA a (.slice ad n c)).toArray), (66, fun zv _ => zv = .agg (sta.map V8).toArray), (67, fun zv _ => zv = .int .i64 i0), (68, fun zv _ => zv = .pointer (some ⟨g5, 9, none⟩)), (69, fun zv _ => zv = .slice ad n c), (70, fun zv _ => zv = .int .i64 aid), (71, fun zv _ => zv = .int .i64 k0), (19, fun zv _ => zv = .int .i64 i0), (20, fun zv _ => zv = .int .i64 k0)]) [] (tabS_out _ _ (by simp only [List.forall_mem_cons]; exact ⟨mono_eqO _ _, mono_eqO _ _, mono_eqO _ _, mono_eqO _ _, mono_eqO _ _, mono_eqO _ _, mono_eqO _ _, mono_eqO _ _, mono_eqO _ _, by simp⟩)) 9 (by kernel_rfl) (by kernel_rfl) (by kernel_rfl) (by kernel_rfl) [] [] rfl rfl (by decide) (by decide) (by decide) trivial ?_
        simp only [List.take_succ_cons, List.take_zero]
        refine ⟨fun wv65 hov65 hSv65 => ?_, fun v65 => ?_⟩
        · clear hSv65
          have H := kp (H.out.keep [0, 1, 2, 3, 4, 5, 6] (St := []) trivial hov65 (by decide) (by kernel_rfl))
          have HOX := kp hov65
          clear hov65
          go_wp2_with ((with_reducible show wpList _ _ _ (Oper.mk _ (Op.load 26 _) _ _ _ _ :: _) _ _); (refine wpList_load_rowG (by kernel_rfl) 26 _ rfl (g5) rfl 26 (cellsA a (.slice ad n c)).toArray (0, 0) _ (H.out.at 6 rfl) Try.underlying26 rfl (HZA.out) ?_); simp only [Act.put, List.setIfInBounds_toArray, List.set_cons_zero, List.set_cons_succ])
          exact ⟨rfl, _, rfl, fun d hd => by cases hd; exact rfl, Ext.refl _⟩
        simp only [Act.put, List.setIfInBounds_toArray, List.set_cons_zero, List.set_cons_succ]
        refine ⟨fun wv66 hov66 hSv66 => ?_, fun v66 => ?_⟩
        · clear hSv66
          have H := kp (H.out.keep [0, 1, 2, 3, 4, 5, 6] (St := []) trivial hov66 (by decide) (by kernel_rfl))
          have HOX := kp hov66
          clear hov66
          go_wp2_with ((with_reducible show wpList _ _ _ (Oper.mk _ (Op.load 23 _) _ _ _ _ :: _) _ _); (refine wpList_load_rowG (by kernel_rfl) 23 _ rfl (g6) rfl 23 (sta.map V8).toArray (0, 0) _ (H.out.at 5 rfl) Try.underlying23 rfl (HZS.out) ?_); simp only [Act.put, List.setIfInBounds_toArray, List.set_cons_zero, List.set_cons_succ])
          exact ⟨rfl, _, rfl, fun d hd => by cases hd; exact rfl, Ext.refl _⟩
        simp only [Act.put, List.setIfInBounds_toArray, List.set_cons_zero, List.set_cons_succ]
        refine ⟨fun wv67 hov67 hSv67 => ?_, fun v67 => ?_⟩
        · obtain rfl : v65 = .agg (cellsA a (.slice ad n c)).toArray := hSv67 65 (by decide) (by decide)
          obtain rfl : v66 = .agg (sta.map V8).toArray := hSv67 66 (by decide) (by decide)
          clear hSv67
          have H := kp (H.out.keep [0, 1, 2, 3, 4, 5, 6] (St := []) trivial hov67 (by decide) (by kernel_rfl))
          have HOX := kp hov67
          clear hov67
          go_wp2_with fail
          refine (HF3.out _ H.out.1).mono ?_
          rintro e w2 ⟨rfl, hx⟩
          have HXW := kp hx
          clear hx
          go_wp2_with fail
          exact ⟨rfl, _, rfl, fun d hd => by cases hd; exact rfl, HXW.out⟩
        simp only [Act.put, List.setIfInBounds_toArray, List.set_cons_zero, List.set_cons_succ]
        refine ⟨fun wv68 hov68 hSv68 => ?_, fun v68 => ?_⟩
        · clear hSv68
          clear hov68
          go_wp2_with fail
          exact ⟨rfl, _, rfl, fun d hd => by cases hd; exact rfl, Ext.refl _⟩
        simp only [Act.put, List.setIfInBounds_toArray, List.set_cons_zero, List.set_cons_succ]
        refine ⟨fun wv69 hov69 hSv69 => ?_, fun v69 => ?_⟩
        · obtain rfl : v68 = .pointer (some ⟨g5, 9, none⟩) := hSv69 68 (by decide) (by decide)
          clear hSv69
          have H := kp (H.out.keep [0, 1, 2, 3, 4, 5, 6] (St := []) trivial hov69 (by decide) (by kernel_rfl))
          have HOX := kp hov69
          clear hov69
          have hc := run_load_cell H.out 6 rfl _ _ HC9.out
          go_wp2_with fail
          exact ⟨rfl, _, rfl, fun d hd => by cases hd; exact rfl, Ext.refl _⟩
        simp only [Act.put, List.setIfInBounds_toArray, List.set_cons_zero, List.set_cons_succ]
        refine ⟨fun wv70 hov70 hSv70 => ?_, fun v70 => ?_⟩
        · clear hSv70
          clear hov70
          go_wp2_with fail
          exact ⟨rfl, _, rfl, fun d hd => by cases hd; exact rfl, Ext.refl _⟩
        simp only [Act.put, List.setIfInBounds_toArray, List.set_cons_zero, List.set_cons_succ]
        refine ⟨fun wv71 hov71 hSv71 => ?_, fun v71 => ?_⟩
        · obtain rfl : v69 = .slice ad n c := hSv71 69 (by decide) (by decide)
          obtain rfl : v70 = .int .i64 aid := hSv71 70 (by decide) (by decide)
          clear hSv71
          have H := kp (H.out.keep [0, 1, 2, 3, 4, 5, 6] (St := []) trivial hov71 (by decide) (by kernel_rfl))
          have HOX := kp hov71
          clear hov71
          go_wp2_with fail
          refine (HHO.out _ H.out.1).mono ?_
          rintro e w2 ⟨rfl, hx⟩
          have HXW := kp hx
          clear hx
          go_wp2_with fail
          exact ⟨rfl, _, rfl, fun d hd => by cases hd; exact rfl, HXW.out⟩
        simp only [Act.put, List.setIfInBounds_toArray, List.set_cons_zero, List.set_cons_succ]
        refine ⟨fun wv19 hov19 hSv19 => ?_, fun v19 => ?_⟩
        · obtain rfl : v67 = .int .i64 i0 := hSv19 67 (by decide) (by decide)
          clear hSv19
          clear hov19
          go_wp2_with fail
          exact ⟨rfl, _, rfl, fun d hd => by cases hd; exact rfl, Ext.refl _⟩
        simp only [Act.put, List.setIfInBounds_toArray, List.set_cons_zero, List.set_cons_succ]
        refine ⟨fun wv20 hov20 hSv20 => ?_, fun v20 => ?_⟩
        · obtain rfl : v71 = .int .i64 k0 := hSv20 71 (by decide) (by decide)
          clear hSv20
          clear hov20
          go_wp2_with fail
          exact ⟨rfl, _, rfl, fun d hd => by cases hd; exact rfl, Ext.refl _⟩
        simp only [Act.put, List.setIfInBounds_toArray, List.set_cons_zero, List.set_cons_succ]
        clear H
        intro wb HOX H hfin
        obtain rfl : v65 = .agg (cellsA a (.slice ad n c)).toArray := hfin 65 (by decide)
        obtain rfl : v66 = .agg (sta.map V8).toArray := hfin 66 (by decide)
        obtain rfl : v67 = .int .i64 i0 := hfin 67 (by decide)
        obtain rfl : v68 = .pointer (some ⟨g5, 9, none⟩) := hfin 68 (by decide)
        obtain rfl : v69 = .slice ad n c := hfin 69 (by decide)
        obtain rfl : v70 = .int .i64 aid := hfin 70 (by decide)
        obtain rfl : v71 = .int .i64 k0 := hfin 71 (by decide)
        obtain rfl : v19 = .int .i64 i0 := hfin 19 (by decide)
        obtain rfl : v20 = .int .i64 k0 := hfin 20 (by decide)
        clear hfin
        simp only [List.drop_succ_cons, List.drop_zero]
        simp only [applyS] at H
        have HXN := kp (HOX.out.ext (Ext.refl wa) (fun g hg => by cases hg))
        go_wp2_with fail
        exact CutP.of rfl (by kernel_rfl) ⟨H, rfl, rfl⟩
    rintro vs w8 ⟨H, e19, e20⟩
    simp only [putMany, List.setIfInBounds_toArray, List.set_cons_zero, List.set_cons_succ]
    rw [e19, e20]
    clear e19 e20
    go_wp2_with fail
    subst hh10
    go_wp2_with (first | ((with_reducible show wpList _ _ _ (Oper.mk (some 72) (Op.build 39 _) _ _ _ _ :: _) _ _); (refine L_bd (by kernel_rfl) 39 _ rfl (#[]) (by kernel_rfl) (cellsE en0) (fun _ => by kernel_rfl) ?_); simp only [Act.put, List.setIfInBounds_toArray, List.set_cons_zero, List.set_cons_succ]) | ((with_reducible show wpList _ _ _ (Oper.mk (some 73) (Op.build 39 _) _ _ _ _ :: _) _ _); (refine L_bd (by kernel_rfl) 39 _ rfl (#[]) (by kernel_rfl) (cellsE en0) (fun _ => by kernel_rfl) ?_); simp only [Act.put, List.setIfInBounds_toArray, List.set_cons_zero, List.set_cons_succ]) | ((with_reducible show wpList _ _ _ (Oper.mk (some 21) (Op.alloc 39) _ _ _ _ :: _) _ _); (with_reducible refine L_alloc H rfl 39 rfl (cellsE en0) (fun _ _ => by kernel_rfl) ?_); clear H; intro g21 w21 HGg21 HEg21 H; simp only [Act.put, List.setIfInBounds_toArray, List.set_cons_zero, List.set_cons_succ]) | ((with_reducible show wpList _ _ _ (Oper.mk (some 22) (Op.alloc 39) _ _ _ _ :: _) _ _); (with_reducible refine L_alloc H rfl 39 rfl (cellsE en0) (fun _ _ => by kernel_rfl) ?_); clear H; intro g22 w22 HGg22 HEg22 H; simp only [Act.put, List.setIfInBounds_toArray, List.set_cons_zero, List.set_cons_succ]) | ((with_reducible show wpList _ _ _ (Oper.mk none (Op.store 39 _ _) _ _ _ _ :: _) _ _); (first | (refine L_store H rfl rfl 39 _ _ rfl 0 rfl rfl (cellsE en0) rfl (HZE0.out) (rfl) (HOE.out _) ?_; clear H; intro wy HWwy H; simp only [List.set_cons_zero] at H) | (refine L_store H rfl rfl 39 _ _ rfl 1 rfl rfl (cellsE en0) rfl (HZE0.out) (rfl) (HOE.out _) ?_; clear H; intro wy HWwy H; simp only [List.set_cons_succ, List.set_cons_zero] at H) | (refine L_store H rfl rfl 39 _ _ rfl 2 rfl rfl (cellsE en0) rfl (HZE0.out) (rfl) (HOE.out _) ?_; clear H; intro wy HWwy H; simp only [List.set_cons_succ, List.set_cons_zero] at H) | (refine L_store H rfl rfl 39 _ _ rfl 3 rfl rfl (cellsE en0) rfl (HZE0.out) (rfl) (HOE.out _) ?_; clear H; intro wy HWwy H; simp only [List.set_cons_succ, List.set_cons_zero] at H) | (refine L_store H rfl rfl 39 _ _ rfl 4 rfl rfl (cellsE en0) rfl (HZE0.out) (rfl) (HOE.out _) ?_; clear H; intro wy HWwy H; simp only [List.set_cons_succ, List.set_cons_zero] at H) | (refine L_store H rfl rfl 39 _ _ rfl 5 rfl rfl (cellsE en0) rfl (HZE0.out) (rfl) (HOE.out _) ?_; clear H; intro wy HWwy H; simp only [List.set_cons_succ, List.set_cons_zero] at H))))
    subst hh11
    refine wp_cut [74, 75, 76, 77, 78, 79, 80] (fun vs w' => Kp (Loc w w' [(g22, 39, cellsE en0), (g21, 39, cellsE (atF l i0)), (g17, 39, cellsE (atF l k0)), (g15, 39, cellsE (atF l i0)), (g13, 26, cellsA nA nilV), (g11, 26, cellsA nA nilV), (g9, 31, cellsF h (.slice ad2 n2 c2)), (g6, 23, sta.map V8), (g5, 26, cellsA a (.slice ad n c))])) ?_ ?_
    · rcases HIC.out with hd | ⟨i, hi, hd⟩
      · have he0 : atF l i0 = en0 := by rw [hd]; rfl
        have H2 := kp (show Loc w wy [(g22, 39, cellsE en0), (g21, 39, cellsE (atF l i0)), (g17, 39, cellsE (atF l k0)), (g15, 39, cellsE (atF l i0)), (g13, 26, cellsA nA nilV), (g11, 26, cellsA nA nilV), (g9, 31, cellsF h (.slice ad2 n2 c2)), (g6, 23, sta.map V8), (g5, 26, cellsA a (.slice ad n c))] by
          have h := H.out
          rw [he0] at h ⊢
          exact h)
        clear H
        have H := H2
        clear H2 he0
        have HD := kp hd
        rw [hd]
        clear hd
        go_wp2_with fail
        exact CutP.of rfl (by kernel_rfl) (by have h := H; rw [HD.out] at h; exact h)
      · obtain ⟨x, hx⟩ : ∃ x, l[i]? = some x := ⟨l[i]'hi, by simp⟩
        obtain ⟨b, off, rfl, hb, hr⟩ := HAT.out i x hx
        have hat : atF l i0 = x := by rw [hd]; show enAt l i = x; exact enAt_some hx
        have HB := kp hb
        have HR := kp (show w.rangeAt b (off + i * 11) (cellsE (atF l i0)) by rw [hat]; exact hr)
        have HZX := kp (sizeE HIO.out.l)
        have hin : i < n := by rw [HNL.out]; exact hi
        have h0i : (0:Int) ≤ i0 := by rw [hd]; omega
        clear hb hr hx hi hat
        have HR3 := kp (rangeAt_ext HR.out HB.out H.out.1)
        have hc9 := run_load_cell H.out 8 rfl _ _ HC9.out
        have HOC := kp (one_cellsE (atF l i0))
        have hen : cellsE (atF l i0) = cellsE (atF l i0) := rfl
        clear hen
        have HD := kp hd
        rw [hd]
        clear hd h0i
        go_wp2_with (first | ((with_reducible show wpList _ _ _ (Oper.mk _ (Op.load 39 _) _ _ _ _ :: _) _ _); (refine wpList_load_midG (by kernel_rfl) 39 _ rfl (b) (off + i * 11) rfl (cellsE (atF l i0)) _ (HR3.out) Try.underlying39 rfl (HZX.out) ?_); simp only [Act.put, List.setIfInBounds_toArray, List.set_cons_zero, List.set_cons_succ]) | ((with_reducible show wpList _ _ _ (Oper.mk none (Op.store _ _ _) _ _ _ _ :: _) _ _); refine L_store H rfl rfl 39 _ _ rfl 1 rfl rfl (cellsE (atF l i0)) rfl (HZI.out) (HLI.out) (HOC.out) ?_; clear H; intro wq HWq H; simp only [List.set_cons_succ, List.set_cons_zero] at H))
        exact CutP.of rfl (by kernel_rfl) (by have h := H; rw [HD.out] at h; exact h)
    rintro vs w8b H
    simp only [putMany, List.setIfInBounds_toArray, List.set_cons_zero, List.set_cons_succ]
    go_wp2_with fail
    subst hh13
    refine wp_cut [81, 82, 83, 84, 85, 86, 87] (fun vs w' => Kp (Loc w w' [(g22, 39, cellsE (atF l k0)), (g21, 39, cellsE (atF l i0)), (g17, 39, cellsE (atF l k0)), (g15, 39, cellsE (atF l i0)), (g13, 26, cellsA nA nilV), (g11, 26, cellsA nA nilV), (g9, 31, cellsF h (.slice ad2 n2 c2)), (g6, 23, sta.map V8), (g5, 26, cellsA a (.slice ad n c))])) ?_ ?_
    · rcases HKC.out with hd | ⟨i, hi, hd⟩
      · have he0 : atF l k0 = en0 := by rw [hd]; rfl
        have H2 := kp (show Loc w w8b [(g22, 39, cellsE (atF l k0)), (g21, 39, cellsE (atF l i0)), (g17, 39, cellsE (atF l k0)), (g15, 39, cellsE (atF l i0)), (g13, 26, cellsA nA nilV), (g11, 26, cellsA nA nilV), (g9, 31, cellsF h (.slice ad2 n2 c2)), (g6, 23, sta.map V8), (g5, 26, cellsA a (.slice ad n c))] by
          have h := H.out
          rw [he0] at h ⊢
          exact h)
        clear H
        have H := H2
        clear H2 he0
        have HD := kp hd
        rw [hd]
        clear hd
        go_wp2_with fail
        exact CutP.of rfl (by kernel_rfl) (by have h := H; rw [HD.out] at h; exact h)
      · obtain ⟨x, hx⟩ : ∃ x, l[i]? = some x := ⟨l[i]'hi, by simp⟩
        obtain ⟨b, off, rfl, hb, hr⟩ := HAT.out i x hx
        have hat : atF l k0 = x := by rw [hd]; show enAt l i = x; exact enAt_some hx
        have HB := kp hb
        have HR := kp (show w.rangeAt b (off + i * 11) (cellsE (atF l k0)) by rw [hat]; exact hr)
        have HZX := kp (sizeE HKO.out.l)
        have hin : i < n := by rw [HNL.out]; exact hi
        have h0i : (0:Int) ≤ k0 := by rw [hd]; omega
        clear hb hr hx hi hat
        have HR3 := kp (rangeAt_ext HR.out HB.out H.out.1)
        have hc9 := run_load_cell H.out 8 rfl _ _ HC9.out
        have HOC := kp (one_cellsE (atF l k0))
        have hen : cellsE (atF l k0) = cellsE (atF l k0) := rfl
        clear hen
        have HD := kp hd
        rw [hd]
        clear hd h0i
        go_wp2_with (first | ((with_reducible show wpList _ _ _ (Oper.mk _ (Op.load 39 _) _ _ _ _ :: _) _ _); (refine wpList_load_midG (by kernel_rfl) 39 _ rfl (b) (off + i * 11) rfl (cellsE (atF l k0)) _ (HR3.out) Try.underlying39 rfl (HZX.out) ?_); simp only [Act.put, List.setIfInBounds_toArray, List.set_cons_zero, List.set_cons_succ]) | ((with_reducible show wpList _ _ _ (Oper.mk none (Op.store _ _ _) _ _ _ _ :: _) _ _); refine L_store H rfl rfl 39 _ _ rfl 0 rfl rfl (cellsE (atF l k0)) rfl (HZK.out) (HLK0.out) (HOC.out) ?_; clear H; intro wq HWq H; simp only [List.set_cons_zero] at H))
        exact CutP.of rfl (by kernel_rfl) (by have h := H; rw [HD.out] at h; exact h)
    rintro vs w9b H
    simp only [putMany, List.setIfInBounds_toArray, List.set_cons_zero, List.set_cons_succ]
    go_wp2_with fail
    subst hh15
    cases hv : validA a l with
    | false =>
      have HCC := kp (chk_bad hv)
      rw [hv] at HVA
      rw [HCC.out] at HCH
      clear hv
      refine region_free H (tabS [(88, fun zv _ => zv = .agg (cellsA nA nilV).toArray), (89, fun zv _ => zv = .agg (cellsA nA nilV).toArray), (90, fun zv _ => zv = .bool true), (91, fun zv _ => zv = .bool true), (92, fun zv _ => zv = .int .i64 nE), (93, fun zv _ => zv = .int .i64 nE), (94, fun zv _ => zv = .bool true), (95, fun zv _ => zv = .bool true), (96, fun zv _ => zv = .bool true), (97, fun zv _ => zv = .agg (cellsE (atF l i0)).toArray), (98, fun zv _ => zv = .agg (cellsE (atF l i0)).toArray), (99, fun zv _ => zv = .bool true), (100, fun zv _ => zv = .bool true), (101, fun zv _ => zv = .bool true), (102, fun zv _ => zv = .bool (decide (0 ≤ i0))), (103, fun zv _ => zv = .int .i64 i0), (104, fun zv _ => zv = .bool (decide (0 ≤ i0))), (105, fun zv _ => zv = .bool true), (106, fun zv _ => zv = .bool true), (107, fun zv _ => zv = .bool true), (108, fun zv _ => zv = .agg (cellsE (atF l k0)).toArray), (109, fun zv _ => zv = .agg (cellsE (atF l k0)).toArray), (110, fun zv _ => zv = .bool true), (111, fun zv _ => zv = .bool true), (112, fun zv _ => zv = .bool true), (113, fun zv _ => zv = .bool (decide (0 ≤ k0))), (114, fun zv _ => zv = .int .i64 k0), (115, fun zv _ => zv = .bool (decide (0 ≤ k0))), (116, fun zv _ => zv = .bool true), (117, fun zv _ => zv = .bool true), (118, fun zv _ => zv = .bool true), (119, fun zv _ => zv = .agg (cellsA a (.slice ad n c)).toArray), (120, fun zv _ => zv = .agg (cellsF h (.slice ad2 n2 c2)).toArray), (121, fun zv _ => zv = .bool alF), (122, fun zv _ => zv = .agg (cellsA a (.slice ad n c)).toArray), (123, fun zv _ => zv = .agg (cellsF h (.slice ad2 n2 c2)).toArray), (124, fun zv _ => zv = .bool alF), (125, fun zv _ => zv = .bool true), (126, fun zv _ => zv = .bool true), (127, fun zv _ => zv = .bool true), (128, fun zv _ => zv = .agg (cellsA a (.slice ad n c)).toArray), (129, fun zv _ => zv = .int .i64 8), (130, fun zv _ => zv = .bool false), (131, fun zv _ => zv = .agg (cellsA a (.slice ad n c)).toArray), (132, fun zv _ => zv = .bool false), (133, fun zv _ => zv = .bool true), (134, fun zv _ => zv = .bool true), (10, fun zv _ => zv = .bool true)]) [] (tabS_out _ _ (by simp only [List.forall_mem_cons]; exact ⟨mono_eqO _ _, mono_eqO _ _, mono_eqO _ _, mono_eqO _ _, mono_eqO _ _, mono_eqO _ _, mono_eqO _ _, mono_eqO _ _, mono_eqO _ _, mono_eqO _ _, mono_eqO _ _, mono_eqO _ _, mono_eqO _ _, mono_eqO _ _, mono_eqO _ _, mono_eqO _ _, mono_eqO _ _, mono_eqO _ _, mono_eqO _ _, mono_eqO _ _, mono_eqO _ _, mono_eqO _ _, mono_eqO _ _, mono_eqO _ _, mono_eqO _ _, mono_eqO _ _, mono_eqO _ _, mono_eqO _ _, mono_eqO _ _, mono_eqO _ _, mono_eqO _ _, mono_eqO _ _, mono_eqO _ _, mono_eqO _ _, mono_eqO _ _, mono_eqO _ _, mono_eqO _ _, mono_eqO _ _, mono_eqO _ _, mono_eqO _ _, mono_eqO _ _, mono_eqO _ _, mono_eqO _ _, mono_eqO _ _, mono_eqO _ _, mono_eqO _ _, mono_eqO _ _, mono_eqO _ _, by simp⟩)) 48 (by kernel_rfl) (by kernel_rfl) (by kernel_rfl) (by kernel_rfl) [] [] rfl rfl (by decide) (by decide) (by decide) trivial ?_
      simp only [List.take_succ_cons, List.take_zero]
      refine ⟨fun wv88 hov88 hSv88 => ?_, fun v88 => ?_⟩
      · clear hSv88
        have H := kp (H.out.keep [0, 1, 2, 3, 4, 5, 6, 7, 8] (St := []) trivial hov88 (by decide) (by kernel_rfl))
        have HOX := kp hov88
        clear hov88
        go_wp2_with ((with_reducible show wpList _ _ _ (Oper.mk _ (Op.load 26 _) _ _ _ _ :: _) _ _); (refine wpList_load_rowG (by kernel_rfl) 26 _ rfl (g11) rfl 26 (cellsA nA nilV).toArray (0, 0) _ (H.out.at 5 rfl) Try.underlying26 rfl (HZN.out) ?_); simp only [Act.put, List.setIfInBounds_toArray, List.set_cons_zero, List.set_cons_succ])
        exact ⟨rfl, _, rfl, fun d hd => by cases hd; exact rfl, Ext.refl _⟩
      simp only [Act.put, List.setIfInBounds_toArray, List.set_cons_zero, List.set_cons_succ]
      refine ⟨fun wv89 hov89 hSv89 => ?_, fun v89 => ?_⟩
      · clear hSv89
        have H := kp (H.out.keep [0, 1, 2, 3, 4, 5, 6, 7, 8] (St := []) trivial hov89 (by decide) (by kernel_rfl))
        have HOX := kp hov89
        clear hov89
        go_wp2_with ((with_reducible show wpList _ _ _ (Oper.mk _ (Op.load 26 _) _ _ _ _ :: _) _ _); (refine wpList_load_rowG (by kernel_rfl) 26 _ rfl (g13) rfl 26 (cellsA nA nilV).toArray (0, 0) _ (H.out.at 4 rfl) Try.underlying26 rfl (HZN.out) ?_); simp only [Act.put, List.setIfInBounds_toArray, List.set_cons_zero, List.set_cons_succ])
        exact ⟨rfl, _, rfl, fun d hd => by cases hd; exact rfl, Ext.refl _⟩
      simp only [Act.put, List.setIfInBounds_toArray, List.set_cons_zero, List.set_cons_succ]
      refine ⟨fun wv90 hov90 hSv90 => ?_, fun v90 => ?_⟩
      · obtain rfl : v88 = .agg (cellsA nA nilV).toArray := hSv90 88 (by decide) (by decide)
        obtain rfl : v89 = .agg (cellsA nA nilV).toArray := hSv90 89 (by decide) (by decide)
        clear hSv90
        have H := kp (H.out.keep [0, 1, 2, 3, 4, 5, 6, 7, 8] (St := []) trivial hov90 (by decide) (by kernel_rfl))
        have HOX := kp hov90
        clear hov90
        go_wp2_with fail
        refine (HSM.out _).mono ?_
        rintro e w2 ⟨rfl, hx⟩
        have HXW := kp hx
        clear hx
        go_wp2_with fail
        exact ⟨rfl, _, rfl, fun d hd => by cases hd; exact rfl, HXW.out⟩
      simp only [Act.put, List.setIfInBounds_toArray, List.set_cons_zero, List.set_cons_succ]
      refine ⟨fun wv91 hov91 hSv91 => ?_, fun v91 => ?_⟩
      · obtain rfl : v90 = .bool true := hSv91 90 (by decide) (by decide)
        clear hSv91
        clear hov91
        go_wp2_with fail
        exact ⟨rfl, _, rfl, fun d hd => by cases hd; exact rfl, Ext.refl _⟩
      simp only [Act.put, List.setIfInBounds_toArray, List.set_cons_zero, List.set_cons_succ]
      refine ⟨fun wv92 hov92 hSv92 => ?_, fun v92 => ?_⟩
      · obtain rfl : v91 = .bool true := hSv92 91 (by decide) (by decide)
        clear hSv92
        clear hov92
        go_wp2_with fail
        exact ⟨rfl, _, rfl, fun d hd => by cases hd; exact rfl, Ext.refl _⟩
      simp only [Act.put, List.setIfInBounds_toArray, List.set_cons_zero, List.set_cons_succ]
      refine ⟨fun wv93 hov93 hSv93 => ?_, fun v93 => ?_⟩
      · obtain rfl : v91 = .bool true := hSv93 91 (by decide) (by decide)
        clear hSv93
        clear hov93
        go_wp2_with fail
        exact ⟨rfl, _, rfl, fun d hd => by cases hd; exact rfl, Ext.refl _⟩
      simp only [Act.put, List.setIfInBounds_toArray, List.set_cons_zero, List.set_cons_succ]
      refine ⟨fun wv94 hov94 hSv94 => ?_, fun v94 => ?_⟩
      · obtain rfl : v91 = .bool true := hSv94 91 (by decide) (by decide)
        obtain rfl : v92 = .int .i64 nE := hSv94 92 (by decide) (by decide)
        obtain rfl : v93 = .int .i64 nE := hSv94 93 (by decide) (by decide)
        clear hSv94
        clear hov94
        go_wp2_with fail
        exact ⟨rfl, _, rfl, fun d hd => by cases hd; exact rfl, Ext.refl _⟩
      simp only [Act.put, List.setIfInBounds_toArray, List.set_cons_zero, List.set_cons_succ]
      refine ⟨fun wv95 hov95 hSv95 => ?_, fun v95 => ?_⟩
      · obtain rfl : v91 = .bool true := hSv95 91 (by decide) (by decide)
        obtain rfl : v94 = .bool true := hSv95 94 (by decide) (by decide)
        clear hSv95
        clear hov95
        go_wp2_with fail
        exact ⟨rfl, _, rfl, fun d hd => by cases hd; exact rfl, Ext.refl _⟩
      simp only [Act.put, List.setIfInBounds_toArray, List.set_cons_zero, List.set_cons_succ]
      refine ⟨fun wv96 hov96 hSv96 => ?_, fun v96 => ?_⟩
      · obtain rfl : v95 = .bool true := hSv96 95 (by decide) (by decide)
        clear hSv96
        clear hov96
        go_wp2_with fail
        exact ⟨rfl, _, rfl, fun d hd => by cases hd; exact rfl, Ext.refl _⟩
      simp only [Act.put, List.setIfInBounds_toArray, List.set_cons_zero, List.set_cons_succ]
      refine ⟨fun wv97 hov97 hSv97 => ?_, fun v97 => ?_⟩
      · obtain rfl : v96 = .bool true := hSv97 96 (by decide) (by decide)
        clear hSv97
        have H := kp (H.out.keep [0, 1, 2, 3, 4, 5, 6, 7, 8] (St := []) trivial hov97 (by decide) (by kernel_rfl))
        have HOX := kp hov97
        clear hov97
        go_wp2_with ((with_reducible show wpList _ _ _ (Oper.mk _ (Op.load 39 _) _ _ _ _ :: _) _ _); (refine wpList_load_rowG (by kernel_rfl) 39 _ rfl (g15) rfl 39 (cellsE (atF l i0)).toArray (0, 0) _ (H.out.at 3 rfl) Try.underlying39 rfl (HZI.out) ?_); simp only [Act.put, List.setIfInBounds_toArray, List.set_cons_zero, List.set_cons_succ])
        exact ⟨rfl, _, rfl, fun d hd => by cases hd; exact rfl, Ext.refl _⟩
      simp only [Act.put, List.setIfInBounds_toArray, List.set_cons_zero, List.set_cons_succ]
      refine ⟨fun wv98 hov98 hSv98 => ?_, fun v98 => ?_⟩
      · obtain rfl : v96 = .bool true := hSv98 96 (by decide) (by decide)
        clear hSv98
        have H := kp (H.out.keep [0, 1, 2, 3, 4, 5, 6, 7, 8] (St := []) trivial hov98 (by decide) (by kernel_rfl))
        have HOX := kp hov98
        clear hov98
        go_wp2_with ((with_reducible show wpList _ _ _ (Oper.mk _ (Op.load 39 _) _ _ _ _ :: _) _ _); (refine wpList_load_rowG (by kernel_rfl) 39 _ rfl (g21) rfl 39 (cellsE (atF l i0)).toArray (0, 0) _ (H.out.at 1 rfl) Try.underlying39 rfl (HZI.out) ?_); simp only [Act.put, List.setIfInBounds_toArray, List.set_cons_zero, List.set_cons_succ])
        exact ⟨rfl, _, rfl, fun d hd => by cases hd; exact rfl, Ext.refl _⟩
      simp only [Act.put, List.setIfInBounds_toArray, List.set_cons_zero, List.set_cons_succ]
      refine ⟨fun wv99 hov99 hSv99 => ?_, fun v99 => ?_⟩
      · obtain rfl : v96 = .bool true := hSv99 96 (by decide) (by decide)
        obtain rfl : v97 = .agg (cellsE (atF l i0)).toArray := hSv99 97 (by decide) (by decide)
        obtain rfl : v98 = .agg (cellsE (atF l i0)).toArray := hSv99 98 (by decide) (by decide)
        clear hSv99
        have H := kp (H.out.keep [0, 1, 2, 3, 4, 5, 6, 7, 8] (St := []) trivial hov99 (by decide) (by kernel_rfl))
        have HOX := kp hov99
        clear hov99
        refine wpList_bin (by kernel_rfl) .eql 39 39 (.tmp 97) (.tmp 98) rfl (.agg (cellsE (atF l i0)).toArray) (.agg (cellsE (atF l i0)).toArray) (.bool true) rfl rfl (run_eqGuard_agg _ _ _ _ _ _ _ HGT.out) (HEI.out _) ?_
        go_wp2_with fail
        exact ⟨rfl, _, rfl, fun d hd => by cases hd; exact rfl, Ext.refl _⟩
      simp only [Act.put, List.setIfInBounds_toArray, List.set_cons_zero, List.set_cons_succ]
      refine ⟨fun wv100 hov100 hSv100 => ?_, fun v100 => ?_⟩
      · obtain rfl : v96 = .bool true := hSv100 96 (by decide) (by decide)
        obtain rfl : v99 = .bool true := hSv100 99 (by decide) (by decide)
        clear hSv100
        clear hov100
        go_wp2_with fail
        exact ⟨rfl, _, rfl, fun d hd => by cases hd; exact rfl, Ext.refl _⟩
      simp only [Act.put, List.setIfInBounds_toArray, List.set_cons_zero, List.set_cons_succ]
      refine ⟨fun wv101 hov101 hSv101 => ?_, fun v101 => ?_⟩
      · obtain rfl : v100 = .bool true := hSv101 100 (by decide) (by decide)
        clear hSv101
        clear hov101
        go_wp2_with fail
        exact ⟨rfl, _, rfl, fun d hd => by cases hd; exact rfl, Ext.refl _⟩
      simp only [Act.put, List.setIfInBounds_toArray, List.set_cons_zero, List.set_cons_succ]
      refine ⟨fun wv102 hov102 hSv102 => ?_, fun v102 => ?_⟩
      · obtain rfl : v101 = .bool true := hSv102 101 (by decide) (by decide)
        clear hSv102
        clear hov102
        go_wp2_with fail
        exact ⟨rfl, _, rfl, fun d hd => by cases hd; exact rfl, Ext.refl _⟩
      simp only [Act.put, List.setIfInBounds_toArray, List.set_cons_zero, List.set_cons_succ]
      refine ⟨fun wv103 hov103 hSv103 => ?_, fun v103 => ?_⟩
      · obtain rfl : v101 = .bool true := hSv103 101 (by decide) (by decide)
        clear hSv103
        clear hov103
        go_wp2_with fail
        exact ⟨rfl, _, rfl, fun d hd => by cases hd; exact rfl, Ext.refl _⟩
      simp only [Act.put, List.setIfInBounds_toArray, List.set_cons_zero, List.set_cons_succ]
      refine ⟨fun wv104 hov104 hSv104 => ?_, fun v104 => ?_⟩
      · obtain rfl : v101 = .bool true := hSv104 101 (by decide) (by decide)
        obtain rfl : v103 = .int .i64 i0 := hSv104 103 (by decide) (by decide)
        clear hSv104
        clear hov104
        go_wp2_with fail
        exact ⟨rfl, _, rfl, fun d hd => by cases hd; exact rfl, Ext.refl _⟩
      simp only [Act.put, List.setIfInBounds_toArray, List.set_cons_zero, List.set_cons_succ]
      refine ⟨fun wv105 hov105 hSv105 => ?_, fun v105 => ?_⟩
      · obtain rfl : v101 = .bool true := hSv105 101 (by decide) (by decide)
        obtain rfl : v102 = .bool (decide (0 ≤ i0)) := hSv105 102 (by decide) (by decide)
        obtain rfl : v104 = .bool (decide (0 ≤ i0)) := hSv105 104 (by decide) (by decide)
        clear hSv105
        clear hov105
        go_wp2_with fail
        exact ⟨rfl, _, rfl, fun d hd => by cases hd; exact rfl, Ext.refl _⟩
      simp only [Act.put, List.setIfInBounds_toArray, List.set_cons_zero, List.set_cons_succ]
      refine ⟨fun wv106 hov106 hSv106 => ?_, fun v106 => ?_⟩
      · obtain rfl : v101 = .bool true := hSv106 101 (by decide) (by decide)
        obtain rfl : v105 = .bool true := hSv106 105 (by decide) (by decide)
        clear hSv106
        clear hov106
        go_wp2_with fail
        exact ⟨rfl, _, rfl, fun d hd => by cases hd; exact rfl, Ext.refl _⟩
      simp only [Act.put, List.setIfInBounds_toArray, List.set_cons_zero, List.set_cons_succ]
      refine ⟨fun wv107 hov107 hSv107 => ?_, fun v107 => ?_⟩
      · obtain rfl : v106 = .bool true := hSv107 106 (by decide) (by decide)
        clear hSv107
        clear hov107
        go_wp2_with fail
        exact ⟨rfl, _, rfl, fun d hd => by cases hd; exact rfl, Ext.refl _⟩
      simp only [Act.put, List.setIfInBounds_toArray, List.set_cons_zero, List.set_cons_succ]
      refine ⟨fun wv108 hov108 hSv108 => ?_, fun v108 => ?_⟩
      · obtain rfl : v107 = .bool true := hSv108 107 (by decide) (by decide)
        clear hSv108
        have H := kp (H.out.keep [0, 1, 2, 3, 4, 5, 6, 7, 8] (St := []) trivial hov108 (by decide) (by kernel_rfl))
        have HOX := kp hov108
        clear hov108
        go_wp2_with ((with_reducible show wpList _ _ _ (Oper.mk _ (Op.load 39 _) _ _ _ _ :: _) _ _); (refine wpList_load_rowG (by kernel_rfl) 39 _ rfl (g17) rfl 39 (cellsE (atF l k0)).toArray (0, 0) _ (H.out.at 2 rfl) Try.underlying39 rfl (HZK.out) ?_); simp only [Act.put, List.setIfInBounds_toArray, List.set_cons_zero, List.set_cons_succ])
        exact ⟨rfl, _, rfl, fun d hd => by cases hd; exact rfl, Ext.refl _⟩
      simp only [Act.put, List.setIfInBounds_toArray, List.set_cons_zero, List.set_cons_succ]
      refine ⟨fun wv109 hov109 hSv109 => ?_, fun v109 => ?_⟩
      · obtain rfl : v107 = .bool true := hSv109 107 (by decide) (by decide)
        clear hSv109
        have H := kp (H.out.keep [0, 1, 2, 3, 4, 5, 6, 7, 8] (St := []) trivial hov109 (by decide) (by kernel_rfl))
        have HOX := kp hov109
        clear hov109
        go_wp2_with ((with_reducible show wpList _ _ _ (Oper.mk _ (Op.load 39 _) _ _ _ _ :: _) _ _); (refine wpList_load_rowG (by kernel_rfl) 39 _ rfl (g22) rfl 39 (cellsE (atF l k0)).toArray (0, 0) _ (H.out.at 0 rfl) Try.underlying39 rfl (HZK.out) ?_); simp only [Act.put, List.setIfInBounds_toArray, List.set_cons_zero, List.set_cons_succ])
        exact ⟨rfl, _, rfl, fun d hd => by cases hd; exact rfl, Ext.refl _⟩
      simp only [Act.put, List.setIfInBounds_toArray, List.set_cons_zero, List.set_cons_succ]
      refine ⟨fun wv110 hov110 hSv110 => ?_, fun v110 => ?_⟩
      · obtain rfl : v107 = .bool true := hSv110 107 (by decide) (by decide)
        obtain rfl : v108 = .agg (cellsE (atF l k0)).toArray := hSv110 108 (by decide) (by decide)
        obtain rfl : v109 = .agg (cellsE (atF l k0)).toArray := hSv110 109 (by decide) (by decide)
        clear hSv110
        have H := kp (H.out.keep [0, 1, 2, 3, 4, 5, 6, 7, 8] (St := []) trivial hov110 (by decide) (by kernel_rfl))
        have HOX := kp hov110
        clear hov110
        refine wpList_bin (by kernel_rfl) .eql 39 39 (.tmp 108) (.tmp 109) rfl (.agg (cellsE (atF l k0)).toArray) (.agg (cellsE (atF l k0)).toArray) (.bool true) rfl rfl (run_eqGuard_agg _ _ _ _ _ _ _ HGT.out) (HEK.out _) ?_
        go_wp2_with fail
        exact ⟨rfl, _, rfl, fun d hd => by cases hd; exact rfl, Ext.refl _⟩
      simp only [Act.put, List.setIfInBounds_toArray, List.set_cons_zero, List.set_cons_succ]
      refine ⟨fun wv111 hov111 hSv111 => ?_, fun v111 => ?_⟩
      · obtain rfl : v107 = .bool true := hSv111 107 (by decide) (by decide)
        obtain rfl : v110 = .bool true := hSv111 110 (by decide) (by decide)
        clear hSv111
        clear hov111
        go_wp2_with fail
        exact ⟨rfl, _, rfl, fun d hd => by cases hd; exact rfl, Ext.refl _⟩
      simp only [Act.put, List.setIfInBounds_toArray, List.set_cons_zero, List.set_cons_succ]
      refine ⟨fun wv112 hov112 hSv112 => ?_, fun v112 => ?_⟩
      · obtain rfl : v111 = .bool true := hSv112 111 (by decide) (by decide)
        clear hSv112
        clear hov112
        go_wp2_with fail
        exact ⟨rfl, _, rfl, fun d hd => by cases hd; exact rfl, Ext.refl _⟩
      simp only [Act.put, List.setIfInBounds_toArray, List.set_cons_zero, List.set_cons_succ]
      refine ⟨fun wv113 hov113 hSv113 => ?_, fun v113 => ?_⟩
      · obtain rfl : v112 = .bool true := hSv113 112 (by decide) (by decide)
        clear hSv113
        clear hov113
        go_wp2_with fail
        exact ⟨rfl, _, rfl, fun d hd => by cases hd; exact rfl, Ext.refl _⟩
      simp only [Act.put, List.setIfInBounds_toArray, List.set_cons_zero, List.set_cons_succ]
      refine ⟨fun wv114 hov114 hSv114 => ?_, fun v114 => ?_⟩
      · obtain rfl : v112 = .bool true := hSv114 112 (by decide) (by decide)
        clear hSv114
        clear hov114
        go_wp2_with fail
        exact ⟨rfl, _, rfl, fun d hd => by cases hd; exact rfl, Ext.refl _⟩
      simp only [Act.put, List.setIfInBounds_toArray, List.set_cons_zero, List.set_cons_succ]
      refine ⟨fun wv115 hov115 hSv115 => ?_, fun v115 => ?_⟩
      · obtain rfl : v112 = .bool true := hSv115 112 (by decide) (by decide)
        obtain rfl : v114 = .int .i64 k0 := hSv115 114 (by decide) (by decide)
        clear hSv115
        clear hov115
        go_wp2_with fail
        exact ⟨rfl, _, rfl, fun d hd => by cases hd; exact rfl, Ext.refl _⟩
      simp only [Act.put, List.setIfInBounds_toArray, List.set_cons_zero, List.set_cons_succ]
      refine ⟨fun wv116 hov116 hSv116 => ?_, fun v116 => ?_⟩
      · obtain rfl : v112 = .bool true := hSv116 112 (by decide) (by decide)
        obtain rfl : v113 = .bool (decide (0 ≤ k0)) := hSv116 113 (by decide) (by decide)
        obtain rfl : v115 = .bool (decide (0 ≤ k0)) := hSv116 115 (by decide) (by decide)
        clear hSv116
        clear hov116
        go_wp2_with fail
        exact ⟨rfl, _, rfl, fun d hd => by cases hd; exact rfl, Ext.refl _⟩
      simp only [Act.put, List.setIfInBounds_toArray, List.set_cons_zero, List.set_cons_succ]
      refine ⟨fun wv117 hov117 hSv117 => ?_, fun v117 => ?_⟩
      · obtain rfl : v112 = .bool true := hSv117 112 (by decide) (by decide)
        obtain rfl : v116 = .bool true := hSv117 116 (by decide) (by decide)
        clear hSv117
        clear hov117
        go_wp2_with fail
        exact ⟨rfl, _, rfl, fun d hd => by cases hd; exact rfl, Ext.refl _⟩
      simp only [Act.put, List.setIfInBounds_toArray, List.set_cons_zero, List.set_cons_succ]
      refine ⟨fun wv118 hov118 hSv118 => ?_, fun v118 => ?_⟩
      · obtain rfl : v117 = .bool true := hSv118 117 (by decide) (by decide)
        clear hSv118
        clear hov118
        go_wp2_with fail
        exact ⟨rfl, _, rfl, fun d hd => by cases hd; exact rfl, Ext.refl _⟩
      simp only [Act.put, List.setIfInBounds_toArray, List.set_cons_zero, List.set_cons_succ]
      refine ⟨fun wv119 hov119 hSv119 => ?_, fun v119 => ?_⟩
      · obtain rfl : v118 = .bool true := hSv119 118 (by decide) (by decide)
        clear hSv119
        have H := kp (H.out.keep [0, 1, 2, 3, 4, 5, 6, 7, 8] (St := []) trivial hov119 (by decide) (by kernel_rfl))
        have HOX := kp hov119
        clear hov119
        go_wp2_with ((with_reducible show wpList _ _ _ (Oper.mk _ (Op.load 26 _) _ _ _ _ :: _) _ _); (refine wpList_load_rowG (by kernel_rfl) 26 _ rfl (g5) rfl 26 (cellsA a (.slice ad n c)).toArray (0, 0) _ (H.out.at 8 rfl) Try.underlying26 rfl (HZA.out) ?_); simp only [Act.put, List.setIfInBounds_toArray, List.set_cons_zero, List.set_cons_succ])
        exact ⟨rfl, _, rfl, fun d hd => by cases hd; exact rfl, Ext.refl _⟩
      simp only [Act.put, List.setIfInBounds_toArray, List.set_cons_zero, List.set_cons_succ]
      refine ⟨fun wv120 hov120 hSv120 => ?_, fun v120 => ?_⟩
      · obtain rfl : v118 = .bool true := hSv120 118 (by decide) (by decide)
        clear hSv120
        have H := kp (H.out.keep [0, 1, 2, 3, 4, 5, 6, 7, 8] (St := []) trivial hov120 (by decide) (by kernel_rfl))
        have HOX := kp hov120
        clear hov120
        go_wp2_with ((with_reducible show wpList _ _ _ (Oper.mk _ (Op.load 31 _) _ _ _ _ :: _) _ _); (refine wpList_load_rowG (by kernel_rfl) 31 _ rfl (g9) rfl 31 (cellsF h (.slice ad2 n2 c2)).toArray (0, 0) _ (H.out.at 6 rfl) Try.underlying31 rfl (HZF.out) ?_); simp only [Act.put, List.setIfInBounds_toArray, List.set_cons_zero, List.set_cons_succ])
        exact ⟨rfl, _, rfl, fun d hd => by cases hd; exact rfl, Ext.refl _⟩
      simp only [Act.put, List.setIfInBounds_toArray, List.set_cons_zero, List.set_cons_succ]
      refine ⟨fun wv121 hov121 hSv121 => ?_, fun v121 => ?_⟩
      · obtain rfl : v118 = .bool true := hSv121 118 (by decide) (by decide)
        obtain rfl : v119 = .agg (cellsA a (.slice ad n c)).toArray := hSv121 119 (by decide) (by decide)
        obtain rfl : v120 = .agg (cellsF h (.slice ad2 n2 c2)).toArray := hSv121 120 (by decide) (by decide)
        clear hSv121
        have H := kp (H.out.keep [0, 1, 2, 3, 4, 5, 6, 7, 8] (St := []) trivial hov121 (by decide) (by kernel_rfl))
        have HOX := kp hov121
        clear hov121
        go_wp2_with fail
        refine (HA1.out _ H.out.1).mono ?_
        rintro e w2 ⟨rfl, hx⟩
        have HXW := kp hx
        clear hx
        go_wp2_with fail
        exact ⟨rfl, _, rfl, fun d hd => by cases hd; exact rfl, HXW.out⟩
      simp only [Act.put, List.setIfInBounds_toArray, List.set_cons_zero, List.set_cons_succ]
      refine ⟨fun wv122 hov122 hSv122 => ?_, fun v122 => ?_⟩
      · obtain rfl : v118 = .bool true := hSv122 118 (by decide) (by decide)
        clear hSv122
        have H := kp (H.out.keep [0, 1, 2, 3, 4, 5, 6, 7, 8] (St := []) trivial hov122 (by decide) (by kernel_rfl))
        have HOX := kp hov122
        clear hov122
        go_wp2_with ((with_reducible show wpList _ _ _ (Oper.mk _ (Op.load 26 _) _ _ _ _ :: _) _ _); (refine wpList_load_rowG (by kernel_rfl) 26 _ rfl (g5) rfl 26 (cellsA a (.slice ad n c)).toArray (0, 0) _ (H.out.at 8 rfl) Try.underlying26 rfl (HZA.out) ?_); simp only [Act.put, List.setIfInBounds_toArray, List.set_cons_zero, List.set_cons_succ])
        exact ⟨rfl, _, rfl, fun d hd => by cases hd; exact rfl, Ext.refl _⟩
      simp only [Act.put, List.setIfInBounds_toArray, List.set_cons_zero, List.set_cons_succ]
      refine ⟨fun wv123 hov123 hSv123 => ?_, fun v123 => ?_⟩
      · obtain rfl : v118 = .bool true := hSv123 118 (by decide) (by decide)
        clear hSv123
        have H := kp (H.out.keep [0, 1, 2, 3, 4, 5, 6, 7, 8] (St := []) trivial hov123 (by decide) (by kernel_rfl))
        have HOX := kp hov123
        clear hov123
        go_wp2_with ((with_reducible show wpList _ _ _ (Oper.mk _ (Op.load 31 _) _ _ _ _ :: _) _ _); (refine wpList_load_rowG (by kernel_rfl) 31 _ rfl (g9) rfl 31 (cellsF h (.slice ad2 n2 c2)).toArray (0, 0) _ (H.out.at 6 rfl) Try.underlying31 rfl (HZF.out) ?_); simp only [Act.put, List.setIfInBounds_toArray, List.set_cons_zero, List.set_cons_succ])
        exact ⟨rfl, _, rfl, fun d hd => by cases hd; exact rfl, Ext.refl _⟩
      simp only [Act.put, List.setIfInBounds_toArray, List.set_cons_zero, List.set_cons_succ]
      refine ⟨fun wv124 hov124 hSv124 => ?_, fun v124 => ?_⟩
      · obtain rfl : v118 = .bool true := hSv124 118 (by decide) (by decide)
        obtain rfl : v122 = .agg (cellsA a (.slice ad n c)).toArray := hSv124 122 (by decide) (by decide)
        obtain rfl : v123 = .agg (cellsF h (.slice ad2 n2 c2)).toArray := hSv124 123 (by decide) (by decide)
        clear hSv124
        have H := kp (H.out.keep [0, 1, 2, 3, 4, 5, 6, 7, 8] (St := []) trivial hov124 (by decide) (by kernel_rfl))
        have HOX := kp hov124
        clear hov124
        go_wp2_with fail
        refine (HA2.out _ H.out.1).mono ?_
        rintro e w2 ⟨rfl, hx⟩
        have HXW := kp hx
        clear hx
        go_wp2_with fail
        exact ⟨rfl, _, rfl, fun d hd => by cases hd; exact rfl, HXW.out⟩
      simp only [Act.put, List.setIfInBounds_toArray, List.set_cons_zero, List.set_cons_succ]
      refine ⟨fun wv125 hov125 hSv125 => ?_, fun v125 => ?_⟩
      · obtain rfl : v118 = .bool true := hSv125 118 (by decide) (by decide)
        obtain rfl : v121 = .bool alF := hSv125 121 (by decide) (by decide)
        obtain rfl : v124 = .bool alF := hSv125 124 (by decide) (by decide)
        clear hSv125
        clear hov125
        go_wp2_with fail
        exact ⟨rfl, _, rfl, fun d hd => by cases hd; exact rfl, Ext.refl _⟩
      simp only [Act.put, List.setIfInBounds_toArray, List.set_cons_zero, List.set_cons_succ]
      refine ⟨fun wv126 hov126 hSv126 => ?_, fun v126 => ?_⟩
      · obtain rfl : v118 = .bool true := hSv126 118 (by decide) (by decide)
        obtain rfl : v125 = .bool true := hSv126 125 (by decide) (by decide)
        clear hSv126
        clear hov126
        go_wp2_with fail
        exact ⟨rfl, _, rfl, fun d hd => by cases hd; exact rfl, Ext.refl _⟩
      simp only [Act.put, List.setIfInBounds_toArray, List.set_cons_zero, List.set_cons_succ]
      refine ⟨fun wv127 hov127 hSv127 => ?_, fun v127 => ?_⟩
      · obtain rfl : v126 = .bool true := hSv127 126 (by decide) (by decide)
        clear hSv127
        clear hov127
        go_wp2_with fail
        exact ⟨rfl, _, rfl, fun d hd => by cases hd; exact rfl, Ext.refl _⟩
      simp only [Act.put, List.setIfInBounds_toArray, List.set_cons_zero, List.set_cons_succ]
      refine ⟨fun wv128 hov128 hSv128 => ?_, fun v128 => ?_⟩
      · obtain rfl : v127 = .bool true := hSv128 127 (by decide) (by decide)
        clear hSv128
        have H := kp (H.out.keep [0, 1, 2, 3, 4, 5, 6, 7, 8] (St := []) trivial hov128 (by decide) (by kernel_rfl))
        have HOX := kp hov128
        clear hov128
        go_wp2_with ((with_reducible show wpList _ _ _ (Oper.mk _ (Op.load 26 _) _ _ _ _ :: _) _ _); (refine wpList_load_rowG (by kernel_rfl) 26 _ rfl (g5) rfl 26 (cellsA a (.slice ad n c)).toArray (0, 0) _ (H.out.at 8 rfl) Try.underlying26 rfl (HZA.out) ?_); simp only [Act.put, List.setIfInBounds_toArray, List.set_cons_zero, List.set_cons_succ])
        exact ⟨rfl, _, rfl, fun d hd => by cases hd; exact rfl, Ext.refl _⟩
      simp only [Act.put, List.setIfInBounds_toArray, List.set_cons_zero, List.set_cons_succ]
      refine ⟨fun wv129 hov129 hSv129 => ?_, fun v129 => ?_⟩
      · obtain rfl : v127 = .bool true := hSv129 127 (by decide) (by decide)
        obtain rfl : v128 = .agg (cellsA a (.slice ad n c)).toArray := hSv129 128 (by decide) (by decide)
        clear hSv129
        have H := kp (H.out.keep [0, 1, 2, 3, 4, 5, 6, 7, 8] (St := []) trivial hov129 (by decide) (by kernel_rfl))
        have HOX := kp hov129
        clear hov129
        go_wp2_with fail
        refine (HCH.out _ H.out.1).mono ?_
        rintro e w2 ⟨rfl, hx⟩
        have HXW := kp hx
        clear hx
        go_wp2_with fail
        exact ⟨rfl, _, rfl, fun d hd => by cases hd; exact rfl, HXW.out⟩
      simp only [Act.put, List.setIfInBounds_toArray, List.set_cons_zero, List.set_cons_succ]
      refine ⟨fun wv130 hov130 hSv130 => ?_, fun v130 => ?_⟩
      · obtain rfl : v127 = .bool true := hSv130 127 (by decide) (by decide)
        obtain rfl : v129 = .int .i64 8 := hSv130 129 (by decide) (by decide)
        clear hSv130
        clear hov130
        go_wp2_with fail
        exact ⟨rfl, _, rfl, fun d hd => by cases hd; exact rfl, Ext.refl _⟩
      simp only [Act.put, List.setIfInBounds_toArray, List.set_cons_zero, List.set_cons_succ]
      refine ⟨fun wv131 hov131 hSv131 => ?_, fun v131 => ?_⟩
      · obtain rfl : v127 = .bool true := hSv131 127 (by decide) (by decide)
        clear hSv131
        have H := kp (H.out.keep [0, 1, 2, 3, 4, 5, 6, 7, 8] (St := []) trivial hov131 (by decide) (by kernel_rfl))
        have HOX := kp hov131
        clear hov131
        go_wp2_with ((with_reducible show wpList _ _ _ (Oper.mk _ (Op.load 26 _) _ _ _ _ :: _) _ _); (refine wpList_load_rowG (by kernel_rfl) 26 _ rfl (g5) rfl 26 (cellsA a (.slice ad n c)).toArray (0, 0) _ (H.out.at 8 rfl) Try.underlying26 rfl (HZA.out) ?_); simp only [Act.put, List.setIfInBounds_toArray, List.set_cons_zero, List.set_cons_succ])
        exact ⟨rfl, _, rfl, fun d hd => by cases hd; exact rfl, Ext.refl _⟩
      simp only [Act.put, List.setIfInBounds_toArray, List.set_cons_zero, List.set_cons_succ]
      refine ⟨fun wv132 hov132 hSv132 => ?_, fun v132 => ?_⟩
      · obtain rfl : v127 = .bool true := hSv132 127 (by decide) (by decide)
        obtain rfl : v131 = .agg (cellsA a (.slice ad n c)).toArray := hSv132 131 (by decide) (by decide)
        clear hSv132
        have H := kp (H.out.keep [0, 1, 2, 3, 4, 5, 6, 7, 8] (St := []) trivial hov132 (by decide) (by kernel_rfl))
        have HOX := kp hov132
        clear hov132
        go_wp2_with fail
        refine (HVA.out _ H.out.1).mono ?_
        rintro e w2 ⟨rfl, hx⟩
        have HXW := kp hx
        clear hx
        go_wp2_with fail
        exact ⟨rfl, _, rfl, fun d hd => by cases hd; exact rfl, HXW.out⟩
      simp only [Act.put, List.setIfInBounds_toArray, List.set_cons_zero, List.set_cons_succ]
      refine ⟨fun wv133 hov133 hSv133 => ?_, fun v133 => ?_⟩
      · obtain rfl : v127 = .bool true := hSv133 127 (by decide) (by decide)
        obtain rfl : v130 = .bool false := hSv133 130 (by decide) (by decide)
        obtain rfl : v132 = .bool false := hSv133 132 (by decide) (by decide)
        clear hSv133
        clear hov133
        go_wp2_with fail
        exact ⟨rfl, _, rfl, fun d hd => by cases hd; exact rfl, Ext.refl _⟩
      simp only [Act.put, List.setIfInBounds_toArray, List.set_cons_zero, List.set_cons_succ]
      refine ⟨fun wv134 hov134 hSv134 => ?_, fun v134 => ?_⟩
      · obtain rfl : v127 = .bool true := hSv134 127 (by decide) (by decide)
        obtain rfl : v133 = .bool true := hSv134 133 (by decide) (by decide)
        clear hSv134
        clear hov134
        go_wp2_with fail
        exact ⟨rfl, _, rfl, fun d hd => by cases hd; exact rfl, Ext.refl _⟩
      simp only [Act.put, List.setIfInBounds_toArray, List.set_cons_zero, List.set_cons_succ]
      refine ⟨fun wv10 hov10 hSv10 => ?_, fun v10 => ?_⟩
      · obtain rfl : v134 = .bool true := hSv10 134 (by decide) (by decide)
        clear hSv10
        clear hov10
        go_wp2_with fail
        exact ⟨rfl, _, rfl, fun d hd => by cases hd; exact rfl, Ext.refl _⟩
      simp only [Act.put, List.setIfInBounds_toArray, List.set_cons_zero, List.set_cons_succ]
      clear H
      intro w10 HOX H hfin
      obtain rfl : v88 = .agg (cellsA nA nilV).toArray := hfin 88 (by decide)
      obtain rfl : v89 = .agg (cellsA nA nilV).toArray := hfin 89 (by decide)
      obtain rfl : v90 = .bool true := hfin 90 (by decide)
      obtain rfl : v91 = .bool true := hfin 91 (by decide)
      obtain rfl : v92 = .int .i64 nE := hfin 92 (by decide)
      obtain rfl : v93 = .int .i64 nE := hfin 93 (by decide)
      obtain rfl : v94 = .bool true := hfin 94 (by decide)
      obtain rfl : v95 = .bool true := hfin 95 (by decide)
      obtain rfl : v96 = .bool true := hfin 96 (by decide)
      obtain rfl : v97 = .agg (cellsE (atF l i0)).toArray := hfin 97 (by decide)
      obtain rfl : v98 = .agg (cellsE (atF l i0)).toArray := hfin 98 (by decide)
      obtain rfl : v99 = .bool true := hfin 99 (by decide)
      obtain rfl : v100 = .bool true := hfin 100 (by decide)
      obtain rfl : v101 = .bool true := hfin 101 (by decide)
      obtain rfl : v102 = .bool (decide (0 ≤ i0)) := hfin 102 (by decide)
      obtain rfl : v103 = .int .i64 i0 := hfin 103 (by decide)
      obtain rfl : v104 = .bool (decide (0 ≤ i0)) := hfin 104 (by decide)
      obtain rfl : v105 = .bool true := hfin 105 (by decide)
      obtain rfl : v106 = .bool true := hfin 106 (by decide)
      obtain rfl : v107 = .bool true := hfin 107 (by decide)
      obtain rfl : v108 = .agg (cellsE (atF l k0)).toArray := hfin 108 (by decide)
      obtain rfl : v109 = .agg (cellsE (atF l k0)).toArray := hfin 109 (by decide)
      obtain rfl : v110 = .bool true := hfin 110 (by decide)
      obtain rfl : v111 = .bool true := hfin 111 (by decide)
      obtain rfl : v112 = .bool true := hfin 112 (by decide)
      obtain rfl : v113 = .bool (decide (0 ≤ k0)) := hfin 113 (by decide)
      obtain rfl : v114 = .int .i64 k0 := hfin 114 (by decide)
      obtain rfl : v115 = .bool (decide (0 ≤ k0)) := hfin 115 (by decide)
      obtain rfl : v116 = .bool true := hfin 116 (by decide)
      obtain rfl : v117 = .bool true := hfin 117 (by decide)
      obtain rfl : v118 = .bool true := hfin 118 (by decide)
      obtain rfl : v119 = .agg (cellsA a (.slice ad n c)).toArray := hfin 119 (by decide)
      obtain rfl : v120 = .agg (cellsF h (.slice ad2 n2 c2)).toArray := hfin 120 (by decide)
      obtain rfl : v121 = .bool alF := hfin 121 (by decide)
      obtain rfl : v122 = .agg (cellsA a (.slice ad n c)).toArray := hfin 122 (by decide)
      obtain rfl : v123 = .agg (cellsF h (.slice ad2 n2 c2)).toArray := hfin 123 (by decide)
      obtain rfl : v124 = .bool alF := hfin 124 (by decide)
      obtain rfl : v125 = .bool true := hfin 125 (by decide)
      obtain rfl : v126 = .bool true := hfin 126 (by decide)
      obtain rfl : v127 = .bool true := hfin 127 (by decide)
      obtain rfl : v128 = .agg (cellsA a (.slice ad n c)).toArray := hfin 128 (by decide)
      obtain rfl : v129 = .int .i64 8 := hfin 129 (by decide)
      obtain rfl : v130 = .bool false := hfin 130 (by decide)
      obtain rfl : v131 = .agg (cellsA a (.slice ad n c)).toArray := hfin 131 (by decide)
      obtain rfl : v132 = .bool false := hfin 132 (by decide)
      obtain rfl : v133 = .bool true := hfin 133 (by decide)
      obtain rfl : v134 = .bool true := hfin 134 (by decide)
      obtain rfl : v10 = .bool true := hfin 10 (by decide)
      clear hfin
      simp only [List.drop_succ_cons, List.drop_zero]
      simp only [applyS] at H
      have HXN := kp (HOX.out.ext (Ext.refl w9b) (fun g hg => by cases hg))
      go_wp2_with fail
      go_ret
      exact ⟨rfl, H.out.1⟩
    | true =>
      have HCC := kp (chk_good hv)
      rw [hv] at HVA
      rw [HCC.out] at HCH
      clear hv
      refine region_free H (tabS [(88, fun zv _ => zv = .agg (cellsA nA nilV).toArray), (89, fun zv _ => zv = .agg (cellsA nA nilV).toArray), (90, fun zv _ => zv = .bool true), (91, fun zv _ => zv = .bool true), (92, fun zv _ => zv = .int .i64 nE), (93, fun zv _ => zv = .int .i64 nE), (94, fun zv _ => zv = .bool true), (95, fun zv _ => zv = .bool true), (96, fun zv _ => zv = .bool true), (97, fun zv _ => zv = .agg (cellsE (atF l i0)).toArray), (98, fun zv _ => zv = .agg (cellsE (atF l i0)).toArray), (99, fun zv _ => zv = .bool true), (100, fun zv _ => zv = .bool true), (101, fun zv _ => zv = .bool true), (102, fun zv _ => zv = .bool (decide (0 ≤ i0))), (103, fun zv _ => zv = .int .i64 i0), (104, fun zv _ => zv = .bool (decide (0 ≤ i0))), (105, fun zv _ => zv = .bool true), (106, fun zv _ => zv = .bool true), (107, fun zv _ => zv = .bool true), (108, fun zv _ => zv = .agg (cellsE (atF l k0)).toArray), (109, fun zv _ => zv = .agg (cellsE (atF l k0)).toArray), (110, fun zv _ => zv = .bool true), (111, fun zv _ => zv = .bool true), (112, fun zv _ => zv = .bool true), (113, fun zv _ => zv = .bool (decide (0 ≤ k0))), (114, fun zv _ => zv = .int .i64 k0), (115, fun zv _ => zv = .bool (decide (0 ≤ k0))), (116, fun zv _ => zv = .bool true), (117, fun zv _ => zv = .bool true), (118, fun zv _ => zv = .bool true), (119, fun zv _ => zv = .agg (cellsA a (.slice ad n c)).toArray), (120, fun zv _ => zv = .agg (cellsF h (.slice ad2 n2 c2)).toArray), (121, fun zv _ => zv = .bool alF), (122, fun zv _ => zv = .agg (cellsA a (.slice ad n c)).toArray), (123, fun zv _ => zv = .agg (cellsF h (.slice ad2 n2 c2)).toArray), (124, fun zv _ => zv = .bool alF), (125, fun zv _ => zv = .bool true), (126, fun zv _ => zv = .bool true), (127, fun zv _ => zv = .bool true), (128, fun zv _ => zv = .agg (cellsA a (.slice ad n c)).toArray), (129, fun zv _ => zv = .int .i64 0), (130, fun zv _ => zv = .bool true), (131, fun zv _ => zv = .agg (cellsA a (.slice ad n c)).toArray), (132, fun zv _ => zv = .bool true), (133, fun zv _ => zv = .bool true), (134, fun zv _ => zv = .bool true), (10, fun zv _ => zv = .bool true)]) [] (tabS_out _ _ (by simp only [List.forall_mem_cons]; exact ⟨mono_eqO _ _, mono_eqO _ _, mono_eqO _ _, mono_eqO _ _, mono_eqO _ _, mono_eqO _ _, mono_eqO _ _, mono_eqO _ _, mono_eqO _ _, mono_eqO _ _, mono_eqO _ _, mono_eqO _ _, mono_eqO _ _, mono_eqO _ _, mono_eqO _ _, mono_eqO _ _, mono_eqO _ _, mono_eqO _ _, mono_eqO _ _, mono_eqO _ _, mono_eqO _ _, mono_eqO _ _, mono_eqO _ _, mono_eqO _ _, mono_eqO _ _, mono_eqO _ _, mono_eqO _ _, mono_eqO _ _, mono_eqO _ _, mono_eqO _ _, mono_eqO _ _, mono_eqO _ _, mono_eqO _ _, mono_eqO _ _, mono_eqO _ _, mono_eqO _ _, mono_eqO _ _, mono_eqO _ _, mono_eqO _ _, mono_eqO _ _, mono_eqO _ _, mono_eqO _ _, mono_eqO _ _, mono_eqO _ _, mono_eqO _ _, mono_eqO _ _, mono_eqO _ _, mono_eqO _ _, by simp⟩)) 48 (by kernel_rfl) (by kernel_rfl) (by kernel_rfl) (by kernel_rfl) [] [] rfl rfl (by decide) (by decide) (by decide) trivial ?_
      simp only [List.take_succ_cons, List.take_zero]
      refine ⟨fun wv88 hov88 hSv88 => ?_, fun v88 => ?_⟩
      · clear hSv88
        have H := kp (H.out.keep [0, 1, 2, 3, 4, 5, 6, 7, 8] (St := []) trivial hov88 (by decide) (by kernel_rfl))
        have HOX := kp hov88
        clear hov88
        go_wp2_with ((with_reducible show wpList _ _ _ (Oper.mk _ (Op.load 26 _) _ _ _ _ :: _) _ _); (refine wpList_load_rowG (by kernel_rfl) 26 _ rfl (g11) rfl 26 (cellsA nA nilV).toArray (0, 0) _ (H.out.at 5 rfl) Try.underlying26 rfl (HZN.out) ?_); simp only [Act.put, List.setIfInBounds_toArray, List.set_cons_zero, List.set_cons_succ])
        exact ⟨rfl, _, rfl, fun d hd => by cases hd; exact rfl, Ext.refl _⟩
      simp only [Act.put, List.setIfInBounds_toArray, List.set_cons_zero, List.set_cons_succ]
      refine ⟨fun wv89 hov89 hSv89 => ?_, fun v89 => ?_⟩
      · clear hSv89
        have H := kp (H.out.keep [0, 1, 2, 3, 4, 5, 6, 7, 8] (St := []) trivial hov89 (by decide) (by kernel_rfl))
        have HOX := kp hov89
        clear hov89
        go_wp2_with ((with_reducible show wpList _ _ _ (Oper.mk _ (Op.load 26 _) _ _ _ _ :: _) _ _); (refine wpList_load_rowG (by kernel_rfl) 26 _ rfl (g13) rfl 26 (cellsA nA nilV).toArray (0, 0) _ (H.out.at 4 rfl) Try.underlying26 rfl (HZN.out) ?_); simp only [Act.put, List.setIfInBounds_toArray, List.set_cons_zero, List.set_cons_succ])
        exact ⟨rfl, _, rfl, fun d hd => by cases hd; exact rfl, Ext.refl _⟩
      simp only [Act.put, List.setIfInBounds_toArray, List.set_cons_zero, List.set_cons_succ]
      refine ⟨fun wv90 hov90 hSv90 => ?_, fun v90 => ?_⟩
      · obtain rfl : v88 = .agg (cellsA nA nilV).toArray := hSv90 88 (by decide) (by decide)
        obtain rfl : v89 = .agg (cellsA nA nilV).toArray := hSv90 89 (by decide) (by decide)
        clear hSv90
        have H := kp (H.out.keep [0, 1, 2, 3, 4, 5, 6, 7, 8] (St := []) trivial hov90 (by decide) (by kernel_rfl))
        have HOX := kp hov90
        clear hov90
        go_wp2_with fail
        refine (HSM.out _).mono ?_
        rintro e w2 ⟨rfl, hx⟩
        have HXW := kp hx
        clear hx
        go_wp2_with fail
        exact ⟨rfl, _, rfl, fun d hd => by cases hd; exact rfl, HXW.out⟩
      simp only [Act.put, List.setIfInBounds_toArray, List.set_cons_zero, List.set_cons_succ]
      refine ⟨fun wv91 hov91 hSv91 => ?_, fun v91 => ?_⟩
      · obtain rfl : v90 = .bool true := hSv91 90 (by decide) (by decide)
        clear hSv91
        clear hov91
        go_wp2_with fail
        exact ⟨rfl, _, rfl, fun d hd => by cases hd; exact rfl, Ext.refl _⟩
      simp only [Act.put, List.setIfInBounds_toArray, List.set_cons_zero, List.set_cons_succ]
      refine ⟨fun wv92 hov92 hSv92 => ?_, fun v92 => ?_⟩
      · obtain rfl : v91 = .bool true := hSv92 91 (by decide) (by decide)
        clear hSv92
        clear hov92
        go_wp2_with fail
        exact ⟨rfl, _, rfl, fun d hd => by cases hd; exact rfl, Ext.refl _⟩
      simp only [Act.put, List.setIfInBounds_toArray, List.set_cons_zero, List.set_cons_succ]
      refine ⟨fun wv93 hov93 hSv93 => ?_, fun v93 => ?_⟩
      · obtain rfl : v91 = .bool true := hSv93 91 (by decide) (by decide)
        clear hSv93
        clear hov93
        go_wp2_with fail
        exact ⟨rfl, _, rfl, fun d hd => by cases hd; exact rfl, Ext.refl _⟩
      simp only [Act.put, List.setIfInBounds_toArray, List.set_cons_zero, List.set_cons_succ]
      refine ⟨fun wv94 hov94 hSv94 => ?_, fun v94 => ?_⟩
      · obtain rfl : v91 = .bool true := hSv94 91 (by decide) (by decide)
        obtain rfl : v92 = .int .i64 nE := hSv94 92 (by decide) (by decide)
        obtain rfl : v93 = .int .i64 nE := hSv94 93 (by decide) (by decide)
        clear hSv94
        clear hov94
        go_wp2_with fail
        exact ⟨rfl, _, rfl, fun d hd => by cases hd; exact rfl, Ext.refl _⟩
      simp only [Act.put, List.setIfInBounds_toArray, List.set_cons_zero, List.set_cons_succ]
      refine ⟨fun wv95 hov95 hSv95 => ?_, fun v95 => ?_⟩
      · obtain rfl : v91 = .bool true := hSv95 91 (by decide) (by decide)
        obtain rfl : v94 = .bool true := hSv95 94 (by decide) (by decide)
        clear hSv95
        clear hov95
        go_wp2_with fail
        exact ⟨rfl, _, rfl, fun d hd => by cases hd; exact rfl, Ext.refl _⟩
      simp only [Act.put, List.setIfInBounds_toArray, List.set_cons_zero, List.set_cons_succ]
      refine ⟨fun wv96 hov96 hSv96 => ?_, fun v96 => ?_⟩
      · obtain rfl : v95 = .bool true := hSv96 95 (by decide) (by decide)
        clear hSv96
        clear hov96
        go_wp2_with fail
        exact ⟨rfl, _, rfl, fun d hd => by cases hd; exact rfl, Ext.refl _⟩
      simp only [Act.put, List.setIfInBounds_toArray, List.set_cons_zero, List.set_cons_succ]
      refine ⟨fun wv97 hov97 hSv97 => ?_, fun v97 => ?_⟩
      · obtain rfl : v96 = .bool true := hSv97 96 (by decide) (by decide)
        clear hSv97
        have H := kp (H.out.keep [0, 1, 2, 3, 4, 5, 6, 7, 8] (St := []) trivial hov97 (by decide) (by kernel_rfl))
        have HOX := kp hov97
        clear hov97
        go_wp2_with ((with_reducible show wpList _ _ _ (Oper.mk _ (Op.load 39 _) _ _ _ _ :: _) _ _); (refine wpList_load_rowG (by kernel_rfl) 39 _ rfl (g15) rfl 39 (cellsE (atF l i0)).toArray (0, 0) _ (H.out.at 3 rfl) Try.underlying39 rfl (HZI.out) ?_); simp only [Act.put, List.setIfInBounds_toArray, List.set_cons_zero, List.set_cons_succ])
        exact ⟨rfl, _, rfl, fun d hd => by cases hd; exact rfl, Ext.refl _⟩
      simp only [Act.put, List.setIfInBounds_toArray, List.set_cons_zero, List.set_cons_succ]
      refine ⟨fun wv98 hov98 hSv98 => ?_, fun v98 => ?_⟩
      · obtain rfl : v96 = .bool true := hSv98 96 (by decide) (by decide)
        clear hSv98
        have H := kp (H.out.keep [0, 1, 2, 3, 4, 5, 6, 7, 8] (St := []) trivial hov98 (by decide) (by kernel_rfl))
        have HOX := kp hov98
        clear hov98
        go_wp2_with ((with_reducible show wpList _ _ _ (Oper.mk _ (Op.load 39 _) _ _ _ _ :: _) _ _); (refine wpList_load_rowG (by kernel_rfl) 39 _ rfl (g21) rfl 39 (cellsE (atF l i0)).toArray (0, 0) _ (H.out.at 1 rfl) Try.underlying39 rfl (HZI.out) ?_); simp only [Act.put, List.setIfInBounds_toArray, List.set_cons_zero, List.set_cons_succ])
        exact ⟨rfl, _, rfl, fun d hd => by cases hd; exact rfl, Ext.refl _⟩
      simp only [Act.put, List.setIfInBounds_toArray, List.set_cons_zero, List.set_cons_succ]
      refine ⟨fun wv99 hov99 hSv99 => ?_, fun v99 => ?_⟩
      · obtain rfl : v96 = .bool true := hSv99 96 (by decide) (by decide)
        obtain rfl : v97 = .agg (cellsE (atF l i0)).toArray := hSv99 97 (by decide) (by decide)
        obtain rfl : v98 = .agg (cellsE (atF l i0)).toArray := hSv99 98 (by decide) (by decide)
        clear hSv99
        have H := kp (H.out.keep [0, 1, 2, 3, 4, 5, 6, 7, 8] (St := []) trivial hov99 (by decide) (by kernel_rfl))
        have HOX := kp hov99
        clear hov99
        refine wpList_bin (by kernel_rfl) .eql 39 39 (.tmp 97) (.tmp 98) rfl (.agg (cellsE (atF l i0)).toArray) (.agg (cellsE (atF l i0)).toArray) (.bool true) rfl rfl (run_eqGuard_agg _ _ _ _ _ _ _ HGT.out) (HEI.out _) ?_
        go_wp2_with fail
        exact ⟨rfl, _, rfl, fun d hd => by cases hd; exact rfl, Ext.refl _⟩
      simp only [Act.put, List.setIfInBounds_toArray, List.set_cons_zero, List.set_cons_succ]
      refine ⟨fun wv100 hov100 hSv100 => ?_, fun v100 => ?_⟩
      · obtain rfl : v96 = .bool true := hSv100 96 (by decide) (by decide)
        obtain rfl : v99 = .bool true := hSv100 99 (by decide) (by decide)
        clear hSv100
        clear hov100
        go_wp2_with fail
        exact ⟨rfl, _, rfl, fun d hd => by cases hd; exact rfl, Ext.refl _⟩
      simp only [Act.put, List.setIfInBounds_toArray, List.set_cons_zero, List.set_cons_succ]
      refine ⟨fun wv101 hov101 hSv101 => ?_, fun v101 => ?_⟩
      · obtain rfl : v100 = .bool true := hSv101 100 (by decide) (by decide)
        clear hSv101
        clear hov101
        go_wp2_with fail
        exact ⟨rfl, _, rfl, fun d hd => by cases hd; exact rfl, Ext.refl _⟩
      simp only [Act.put, List.setIfInBounds_toArray, List.set_cons_zero, List.set_cons_succ]
      refine ⟨fun wv102 hov102 hSv102 => ?_, fun v102 => ?_⟩
      · obtain rfl : v101 = .bool true := hSv102 101 (by decide) (by decide)
        clear hSv102
        clear hov102
        go_wp2_with fail
        exact ⟨rfl, _, rfl, fun d hd => by cases hd; exact rfl, Ext.refl _⟩
      simp only [Act.put, List.setIfInBounds_toArray, List.set_cons_zero, List.set_cons_succ]
      refine ⟨fun wv103 hov103 hSv103 => ?_, fun v103 => ?_⟩
      · obtain rfl : v101 = .bool true := hSv103 101 (by decide) (by decide)
        clear hSv103
        clear hov103
        go_wp2_with fail
        exact ⟨rfl, _, rfl, fun d hd => by cases hd; exact rfl, Ext.refl _⟩
      simp only [Act.put, List.setIfInBounds_toArray, List.set_cons_zero, List.set_cons_succ]
      refine ⟨fun wv104 hov104 hSv104 => ?_, fun v104 => ?_⟩
      · obtain rfl : v101 = .bool true := hSv104 101 (by decide) (by decide)
        obtain rfl : v103 = .int .i64 i0 := hSv104 103 (by decide) (by decide)
        clear hSv104
        clear hov104
        go_wp2_with fail
        exact ⟨rfl, _, rfl, fun d hd => by cases hd; exact rfl, Ext.refl _⟩
      simp only [Act.put, List.setIfInBounds_toArray, List.set_cons_zero, List.set_cons_succ]
      refine ⟨fun wv105 hov105 hSv105 => ?_, fun v105 => ?_⟩
      · obtain rfl : v101 = .bool true := hSv105 101 (by decide) (by decide)
        obtain rfl : v102 = .bool (decide (0 ≤ i0)) := hSv105 102 (by decide) (by decide)
        obtain rfl : v104 = .bool (decide (0 ≤ i0)) := hSv105 104 (by decide) (by decide)
        clear hSv105
        clear hov105
        go_wp2_with fail
        exact ⟨rfl, _, rfl, fun d hd => by cases hd; exact rfl, Ext.refl _⟩
      simp only [Act.put, List.setIfInBounds_toArray, List.set_cons_zero, List.set_cons_succ]
      refine ⟨fun wv106 hov106 hSv106 => ?_, fun v106 => ?_⟩
      · obtain rfl : v101 = .bool true := hSv106 101 (by decide) (by decide)
        obtain rfl : v105 = .bool true := hSv106 105 (by decide) (by decide)
        clear hSv106
        clear hov106
        go_wp2_with fail
        exact ⟨rfl, _, rfl, fun d hd => by cases hd; exact rfl, Ext.refl _⟩
      simp only [Act.put, List.setIfInBounds_toArray, List.set_cons_zero, List.set_cons_succ]
      refine ⟨fun wv107 hov107 hSv107 => ?_, fun v107 => ?_⟩
      · obtain rfl : v106 = .bool true := hSv107 106 (by decide) (by decide)
        clear hSv107
        clear hov107
        go_wp2_with fail
        exact ⟨rfl, _, rfl, fun d hd => by cases hd; exact rfl, Ext.refl _⟩
      simp only [Act.put, List.setIfInBounds_toArray, List.set_cons_zero, List.set_cons_succ]
      refine ⟨fun wv108 hov108 hSv108 => ?_, fun v108 => ?_⟩
      · obtain rfl : v107 = .bool true := hSv108 107 (by decide) (by decide)
        clear hSv108
        have H := kp (H.out.keep [0, 1, 2, 3, 4, 5, 6, 7, 8] (St := []) trivial hov108 (by decide) (by kernel_rfl))
        have HOX := kp hov108
        clear hov108
        go_wp2_with ((with_reducible show wpList _ _ _ (Oper.mk _ (Op.load 39 _) _ _ _ _ :: _) _ _); (refine wpList_load_rowG (by kernel_rfl) 39 _ rfl (g17) rfl 39 (cellsE (atF l k0)).toArray (0, 0) _ (H.out.at 2 rfl) Try.underlying39 rfl (HZK.out) ?_); simp only [Act.put, List.setIfInBounds_toArray, List.set_cons_zero, List.set_cons_succ])
        exact ⟨rfl, _, rfl, fun d hd => by cases hd; exact rfl, Ext.refl _⟩
      simp only [Act.put, List.setIfInBounds_toArray, List.set_cons_zero, List.set_cons_succ]
      refine ⟨fun wv109 hov109 hSv109 => ?_, fun v109 => ?_⟩
      · obtain rfl : v107 = .bool true := hSv109 107 (by decide) (by decide)
        clear hSv109
        have H := kp (H.out.keep [0, 1, 2, 3, 4, 5, 6, 7, 8] (St := []) trivial hov109 (by decide) (by kernel_rfl))
        have HOX := kp hov109
        clear hov109
        go_wp2_with ((with_reducible show wpList _ _ _ (Oper.mk _ (Op.load 39 _) _ _ _ _ :: _) _ _); (refine wpList_load_rowG (by kernel_rfl) 39 _ rfl (g22) rfl 39 (cellsE (atF l k0)).toArray (0, 0) _ (H.out.at 0 rfl) Try.underlying39 rfl (HZK.out) ?_); simp only [Act.put, List.setIfInBounds_toArray, List.set_cons_zero, List.set_cons_succ])
        exact ⟨rfl, _, rfl, fun d hd => by cases hd; exact rfl, Ext.refl _⟩
      simp only [Act.put, List.setIfInBounds_toArray, List.set_cons_zero, List.set_cons_succ]
      refine ⟨fun wv110 hov110 hSv110 => ?_, fun v110 => ?_⟩
      · obtain rfl : v107 = .bool true := hSv110 107 (by decide) (by decide)
        obtain rfl : v108 = .agg (cellsE (atF l k0)).toArray := hSv110 108 (by decide) (by decide)
        obtain rfl : v109 = .agg (cellsE (atF l k0)).toArray := hSv110 109 (by decide) (by decide)
        clear hSv110
        have H := kp (H.out.keep [0, 1, 2, 3, 4, 5, 6, 7, 8] (St := []) trivial hov110 (by decide) (by kernel_rfl))
        have HOX := kp hov110
        clear hov110
        refine wpList_bin (by kernel_rfl) .eql 39 39 (.tmp 108) (.tmp 109) rfl (.agg (cellsE (atF l k0)).toArray) (.agg (cellsE (atF l k0)).toArray) (.bool true) rfl rfl (run_eqGuard_agg _ _ _ _ _ _ _ HGT.out) (HEK.out _) ?_
        go_wp2_with fail
        exact ⟨rfl, _, rfl, fun d hd => by cases hd; exact rfl, Ext.refl _⟩
      simp only [Act.put, List.setIfInBounds_toArray, List.set_cons_zero, List.set_cons_succ]
      refine ⟨fun wv111 hov111 hSv111 => ?_, fun v111 => ?_⟩
      · obtain rfl : v107 = .bool true := hSv111 107 (by decide) (by decide)
        obtain rfl : v110 = .bool true := hSv111 110 (by decide) (by decide)
        clear hSv111
        clear hov111
        go_wp2_with fail
        exact ⟨rfl, _, rfl, fun d hd => by cases hd; exact rfl, Ext.refl _⟩
      simp only [Act.put, List.setIfInBounds_toArray, List.set_cons_zero, List.set_cons_succ]
      refine ⟨fun wv112 hov112 hSv112 => ?_, fun v112 => ?_⟩
      · obtain rfl : v111 = .bool true := hSv112 111 (by decide) (by decide)
        clear hSv112
        clear hov112
        go_wp2_with fail
        exact ⟨rfl, _, rfl, fun d hd => by cases hd; exact rfl, Ext.refl _⟩
      simp only [Act.put, List.setIfInBounds_toArray, List.set_cons_zero, List.set_cons_succ]
      refine ⟨fun wv113 hov113 hSv113 => ?_, fun v113 => ?_⟩
      · obtain rfl : v112 = .bool true := hSv113 112 (by decide) (by decide)
        clear hSv113
        clear hov113
        go_wp2_with fail
        exact ⟨rfl, _, rfl, fun d hd => by cases hd; exact rfl, Ext.refl _⟩
      simp only [Act.put, List.setIfInBounds_toArray, List.set_cons_zero, List.set_cons_succ]
      refine ⟨fun wv114 hov114 hSv114 => ?_, fun v114 => ?_⟩
      · obtain rfl : v112 = .bool true := hSv114 112 (by decide) (by decide)
        clear hSv114
        clear hov114
        go_wp2_with fail
        exact ⟨rfl, _, rfl, fun d hd => by cases hd; exact rfl, Ext.refl _⟩
      simp only [Act.put, List.setIfInBounds_toArray, List.set_cons_zero, List.set_cons_succ]
      refine ⟨fun wv115 hov115 hSv115 => ?_, fun v115 => ?_⟩
      · obtain rfl : v112 = .bool true := hSv115 112 (by decide) (by decide)
        obtain rfl : v114 = .int .i64 k0 := hSv115 114 (by decide) (by decide)
        clear hSv115
        clear hov115
        go_wp2_with fail
        exact ⟨rfl, _, rfl, fun d hd => by cases hd; exact rfl, Ext.refl _⟩
      simp only [Act.put, List.setIfInBounds_toArray, List.set_cons_zero, List.set_cons_succ]
      refine ⟨fun wv116 hov116 hSv116 => ?_, fun v116 => ?_⟩
      · obtain rfl : v112 = .bool true := hSv116 112 (by decide) (by decide)
        obtain rfl : v113 = .bool (decide (0 ≤ k0)) := hSv116 113 (by decide) (by decide)
        obtain rfl : v115 = .bool (decide (0 ≤ k0)) := hSv116 115 (by decide) (by decide)
        clear hSv116
        clear hov116
        go_wp2_with fail
        exact ⟨rfl, _, rfl, fun d hd => by cases hd; exact rfl, Ext.refl _⟩
      simp only [Act.put, List.setIfInBounds_toArray, List.set_cons_zero, List.set_cons_succ]
      refine ⟨fun wv117 hov117 hSv117 => ?_, fun v117 => ?_⟩
      · obtain rfl : v112 = .bool true := hSv117 112 (by decide) (by decide)
        obtain rfl : v116 = .bool true := hSv117 116 (by decide) (by decide)
        clear hSv117
        clear hov117
        go_wp2_with fail
        exact ⟨rfl, _, rfl, fun d hd => by cases hd; exact rfl, Ext.refl _⟩
      simp only [Act.put, List.setIfInBounds_toArray, List.set_cons_zero, List.set_cons_succ]
      refine ⟨fun wv118 hov118 hSv118 => ?_, fun v118 => ?_⟩
      · obtain rfl : v117 = .bool true := hSv118 117 (by decide) (by decide)
        clear hSv118
        clear hov118
        go_wp2_with fail
        exact ⟨rfl, _, rfl, fun d hd => by cases hd; exact rfl, Ext.refl _⟩
      simp only [Act.put, List.setIfInBounds_toArray, List.set_cons_zero, List.set_cons_succ]
      refine ⟨fun wv119 hov119 hSv119 => ?_, fun v119 => ?_⟩
      · obtain rfl : v118 = .bool true := hSv119 118 (by decide) (by decide)
        clear hSv119
        have H := kp (H.out.keep [0, 1, 2, 3, 4, 5, 6, 7, 8] (St := []) trivial hov119 (by decide) (by kernel_rfl))
        have HOX := kp hov119
        clear hov119
        go_wp2_with ((with_reducible show wpList _ _ _ (Oper.mk _ (Op.load 26 _) _ _ _ _ :: _) _ _); (refine wpList_load_rowG (by kernel_rfl) 26 _ rfl (g5) rfl 26 (cellsA a (.slice ad n c)).toArray (0, 0) _ (H.out.at 8 rfl) Try.underlying26 rfl (HZA.out) ?_); simp only [Act.put, List.setIfInBounds_toArray, List.set_cons_zero, List.set_cons_succ])
        exact ⟨rfl, _, rfl, fun d hd => by cases hd; exact rfl, Ext.refl _⟩
      simp only [Act.put, List.setIfInBounds_toArray, List.set_cons_zero, List.set_cons_succ]
      refine ⟨fun wv120 hov120 hSv120 => ?_, fun v120 => ?_⟩
      · obtain rfl : v118 = .bool true := hSv120 118 (by decide) (by decide)
        clear hSv120
        have H := kp (H.out.keep [0, 1, 2, 3, 4, 5, 6, 7, 8] (St := []) trivial hov120 (by decide) (by kernel_rfl))
        have HOX := kp hov120
        clear hov120
        go_wp2_with ((with_reducible show wpList _ _ _ (Oper.mk _ (Op.load 31 _) _ _ _ _ :: _) _ _); (refine wpList_load_rowG (by kernel_rfl) 31 _ rfl (g9) rfl 31 (cellsF h (.slice ad2 n2 c2)).toArray (0, 0) _ (H.out.at 6 rfl) Try.underlying31 rfl (HZF.out) ?_); simp only [Act.put, List.setIfInBounds_toArray, List.set_cons_zero, List.set_cons_succ])
        exact ⟨rfl, _, rfl, fun d hd => by cases hd; exact rfl, Ext.refl _⟩
      simp only [Act.put, List.setIfInBounds_toArray, List.set_cons_zero, List.set_cons_succ]
      refine ⟨fun wv121 hov121 hSv121 => ?_, fun v121 => ?_⟩
      · obtain rfl : v118 = .bool true := hSv121 118 (by decide) (by decide)
        obtain rfl : v119 = .agg (cellsA a (.slice ad n c)).toArray := hSv121 119 (by decide) (by decide)
        obtain rfl : v120 = .agg (cellsF h (.slice ad2 n2 c2)).toArray := hSv121 120 (by decide) (by decide)
        clear hSv121
        have H := kp (H.out.keep [0, 1, 2, 3, 4, 5, 6, 7, 8] (St := []) trivial hov121 (by decide) (by kernel_rfl))
        have HOX := kp hov121
        clear hov121
        go_wp2_with fail
        refine (HA1.out _ H.out.1).mono ?_
        rintro e w2 ⟨rfl, hx⟩
        have HXW := kp hx
        clear hx
        go_wp2_with fail
        exact ⟨rfl, _, rfl, fun d hd => by cases hd; exact rfl, HXW.out⟩
      simp only [Act.put, List.setIfInBounds_toArray, List.set_cons_zero, List.set_cons_succ]
      refine ⟨fun wv122 hov122 hSv122 => ?_, fun v122 => ?_⟩
      · obtain rfl : v118 = .bool true := hSv122 118 (by decide) (by decide)
        clear hSv122
        have H := kp (H.out.keep [0, 1, 2, 3, 4, 5, 6, 7, 8] (St := []) trivial hov122 (by decide) (by kernel_rfl))
        have HOX := kp hov122
        clear hov122
        go_wp2_with ((with_reducible show wpList _ _ _ (Oper.mk _ (Op.load 26 _) _ _ _ _ :: _) _ _); (refine wpList_load_rowG (by kernel_rfl) 26 _ rfl (g5) rfl 26 (cellsA a (.slice ad n c)).toArray (0, 0) _ (H.out.at 8 rfl) Try.underlying26 rfl (HZA.out) ?_); simp only [Act.put, List.setIfInBounds_toArray, List.set_cons_zero, List.set_cons_succ])
        exact ⟨rfl, _, rfl, fun d hd => by cases hd; exact rfl, Ext.refl _⟩
      simp only [Act.put, List.setIfInBounds_toArray, List.set_cons_zero, List.set_cons_succ]
      refine ⟨fun wv123 hov123 hSv123 => ?_, fun v123 => ?_⟩
      · obtain rfl : v118 = .bool true := hSv123 118 (by decide) (by decide)
        clear hSv123
        have H := kp (H.out.keep [0, 1, 2, 3, 4, 5, 6, 7, 8] (St := []) trivial hov123 (by decide) (by kernel_rfl))
        have HOX := kp hov123
        clear hov123
        go_wp2_with ((with_reducible show wpList _ _ _ (Oper.mk _ (Op.load 31 _) _ _ _ _ :: _) _ _); (refine wpList_load_rowG (by kernel_rfl) 31 _ rfl (g9) rfl 31 (cellsF h (.slice ad2 n2 c2)).toArray (0, 0) _ (H.out.at 6 rfl) Try.underlying31 rfl (HZF.out) ?_); simp only [Act.put, List.setIfInBounds_toArray, List.set_cons_zero, List.set_cons_succ])
        exact ⟨rfl, _, rfl, fun d hd => by cases hd; exact rfl, Ext.refl _⟩
      simp only [Act.put, List.setIfInBounds_toArray, List.set_cons_zero, List.set_cons_succ]
      refine ⟨fun wv124 hov124 hSv124 => ?_, fun v124 => ?_⟩
      · obtain rfl : v118 = .bool true := hSv124 118 (by decide) (by decide)
        obtain rfl : v122 = .agg (cellsA a (.slice ad n c)).toArray := hSv124 122 (by decide) (by decide)
        obtain rfl : v123 = .agg (cellsF h (.slice ad2 n2 c2)).toArray := hSv124 123 (by decide) (by decide)
        clear hSv124
        have H := kp (H.out.keep [0, 1, 2, 3, 4, 5, 6, 7, 8] (St := []) trivial hov124 (by decide) (by kernel_rfl))
        have HOX := kp hov124
        clear hov124
        go_wp2_with fail
        refine (HA2.out _ H.out.1).mono ?_
        rintro e w2 ⟨rfl, hx⟩
        have HXW := kp hx
        clear hx
        go_wp2_with fail
        exact ⟨rfl, _, rfl, fun d hd => by cases hd; exact rfl, HXW.out⟩
      simp only [Act.put, List.setIfInBounds_toArray, List.set_cons_zero, List.set_cons_succ]
      refine ⟨fun wv125 hov125 hSv125 => ?_, fun v125 => ?_⟩
      · obtain rfl : v118 = .bool true := hSv125 118 (by decide) (by decide)
        obtain rfl : v121 = .bool alF := hSv125 121 (by decide) (by decide)
        obtain rfl : v124 = .bool alF := hSv125 124 (by decide) (by decide)
        clear hSv125
        clear hov125
        go_wp2_with fail
        exact ⟨rfl, _, rfl, fun d hd => by cases hd; exact rfl, Ext.refl _⟩
      simp only [Act.put, List.setIfInBounds_toArray, List.set_cons_zero, List.set_cons_succ]
      refine ⟨fun wv126 hov126 hSv126 => ?_, fun v126 => ?_⟩
      · obtain rfl : v118 = .bool true := hSv126 118 (by decide) (by decide)
        obtain rfl : v125 = .bool true := hSv126 125 (by decide) (by decide)
        clear hSv126
        clear hov126
        go_wp2_with fail
        exact ⟨rfl, _, rfl, fun d hd => by cases hd; exact rfl, Ext.refl _⟩
      simp only [Act.put, List.setIfInBounds_toArray, List.set_cons_zero, List.set_cons_succ]
      refine ⟨fun wv127 hov127 hSv127 => ?_, fun v127 => ?_⟩
      · obtain rfl : v126 = .bool true := hSv127 126 (by decide) (by decide)
        clear hSv127
        clear hov127
        go_wp2_with fail
        exact ⟨rfl, _, rfl, fun d hd => by cases hd; exact rfl, Ext.refl _⟩
      simp only [Act.put, List.setIfInBounds_toArray, List.set_cons_zero, List.set_cons_succ]
      refine ⟨fun wv128 hov128 hSv128 => ?_, fun v128 => ?_⟩
      · obtain rfl : v127 = .bool true := hSv128 127 (by decide) (by decide)
        clear hSv128
        have H := kp (H.out.keep [0, 1, 2, 3, 4, 5, 6, 7, 8] (St := []) trivial hov128 (by decide) (by kernel_rfl))
        have HOX := kp hov128
        clear hov128
        go_wp2_with ((with_reducible show wpList _ _ _ (Oper.mk _ (Op.load 26 _) _ _ _ _ :: _) _ _); (refine wpList_load_rowG (by kernel_rfl) 26 _ rfl (g5) rfl 26 (cellsA a (.slice ad n c)).toArray (0, 0) _ (H.out.at 8 rfl) Try.underlying26 rfl (HZA.out) ?_); simp only [Act.put, List.setIfInBounds_toArray, List.set_cons_zero, List.set_cons_succ])
        exact ⟨rfl, _, rfl, fun d hd => by cases hd; exact rfl, Ext.refl _⟩
      simp only [Act.put, List.setIfInBounds_toArray, List.set_cons_zero, List.set_cons_succ]
      refine ⟨fun wv129 hov129 hSv129 => ?_, fun v129 => ?_⟩
      · obtain rfl : v127 = .bool true := hSv129 127 (by decide) (by decide)
        obtain rfl : v128 = .agg (cellsA a (.slice ad n c)).toArray := hSv129 128 (by decide) (by decide)
        clear hSv129
        have H := kp (H.out.keep [0, 1, 2, 3, 4, 5, 6, 7, 8] (St := []) trivial hov129 (by decide) (by kernel_rfl))
        have HOX := kp hov129
        clear hov129
        go_wp2_with fail
        refine (HCH.out _ H.out.1).mono ?_
        rintro e w2 ⟨rfl, hx⟩
        have HXW := kp hx
        clear hx
        go_wp2_with fail
        exact ⟨rfl, _, rfl, fun d hd => by cases hd; exact rfl, HXW.out⟩
      simp only [Act.put, List.setIfInBounds_toArray, List.set_cons_zero, List.set_cons_succ]
      refine ⟨fun wv130 hov130 hSv130 => ?_, fun v130 => ?_⟩
      · obtain rfl : v127 = .bool true := hSv130 127 (by decide) (by decide)
        obtain rfl : v129 = .int .i64 0 := hSv130 129 (by decide) (by decide)
        clear hSv130
        clear hov130
        go_wp2_with fail
        exact ⟨rfl, _, rfl, fun d hd => by cases hd; exact rfl, Ext.refl _⟩
      simp only [Act.put, List.setIfInBounds_toArray, List.set_cons_zero, List.set_cons_succ]
      refine ⟨fun wv131 hov131 hSv131 => ?_, fun v131 => ?_⟩
      · obtain rfl : v127 = .bool true := hSv131 127 (by decide) (by decide)
        clear hSv131
        have H := kp (H.out.keep [0, 1, 2, 3, 4, 5, 6, 7, 8] (St := []) trivial hov131 (by decide) (by kernel_rfl))
        have HOX := kp hov131
        clear hov131
        go_wp2_with ((with_reducible show wpList _ _ _ (Oper.mk _ (Op.load 26 _) _ _ _ _ :: _) _ _); (refine wpList_load_rowG (by kernel_rfl) 26 _ rfl (g5) rfl 26 (cellsA a (.slice ad n c)).toArray (0, 0) _ (H.out.at 8 rfl) Try.underlying26 rfl (HZA.out) ?_); simp only [Act.put, List.setIfInBounds_toArray, List.set_cons_zero, List.set_cons_succ])
        exact ⟨rfl, _, rfl, fun d hd => by cases hd; exact rfl, Ext.refl _⟩
      simp only [Act.put, List.setIfInBounds_toArray, List.set_cons_zero, List.set_cons_succ]
      refine ⟨fun wv132 hov132 hSv132 => ?_, fun v132 => ?_⟩
      · obtain rfl : v127 = .bool true := hSv132 127 (by decide) (by decide)
        obtain rfl : v131 = .agg (cellsA a (.slice ad n c)).toArray := hSv132 131 (by decide) (by decide)
        clear hSv132
        have H := kp (H.out.keep [0, 1, 2, 3, 4, 5, 6, 7, 8] (St := []) trivial hov132 (by decide) (by kernel_rfl))
        have HOX := kp hov132
        clear hov132
        go_wp2_with fail
        refine (HVA.out _ H.out.1).mono ?_
        rintro e w2 ⟨rfl, hx⟩
        have HXW := kp hx
        clear hx
        go_wp2_with fail
        exact ⟨rfl, _, rfl, fun d hd => by cases hd; exact rfl, HXW.out⟩
      simp only [Act.put, List.setIfInBounds_toArray, List.set_cons_zero, List.set_cons_succ]
      refine ⟨fun wv133 hov133 hSv133 => ?_, fun v133 => ?_⟩
      · obtain rfl : v127 = .bool true := hSv133 127 (by decide) (by decide)
        obtain rfl : v130 = .bool true := hSv133 130 (by decide) (by decide)
        obtain rfl : v132 = .bool true := hSv133 132 (by decide) (by decide)
        clear hSv133
        clear hov133
        go_wp2_with fail
        exact ⟨rfl, _, rfl, fun d hd => by cases hd; exact rfl, Ext.refl _⟩
      simp only [Act.put, List.setIfInBounds_toArray, List.set_cons_zero, List.set_cons_succ]
      refine ⟨fun wv134 hov134 hSv134 => ?_, fun v134 => ?_⟩
      · obtain rfl : v127 = .bool true := hSv134 127 (by decide) (by decide)
        obtain rfl : v133 = .bool true := hSv134 133 (by decide) (by decide)
        clear hSv134
        clear hov134
        go_wp2_with fail
        exact ⟨rfl, _, rfl, fun d hd => by cases hd; exact rfl, Ext.refl _⟩
      simp only [Act.put, List.setIfInBounds_toArray, List.set_cons_zero, List.set_cons_succ]
      refine ⟨fun wv10 hov10 hSv10 => ?_, fun v10 => ?_⟩
      · obtain rfl : v134 = .bool true := hSv10 134 (by decide) (by decide)
        clear hSv10
        clear hov10
        go_wp2_with fail
        exact ⟨rfl, _, rfl, fun d hd => by cases hd; exact rfl, Ext.refl _⟩
      simp only [Act.put, List.setIfInBounds_toArray, List.set_cons_zero, List.set_cons_succ]
      clear H
      intro w10 HOX H hfin
      obtain rfl : v88 = .agg (cellsA nA nilV).toArray := hfin 88 (by decide)
      obtain rfl : v89 = .agg (cellsA nA nilV).toArray := hfin 89 (by decide)
      obtain rfl : v90 = .bool true := hfin 90 (by decide)
      obtain rfl : v91 = .bool true := hfin 91 (by decide)
      obtain rfl : v92 = .int .i64 nE := hfin 92 (by decide)
      obtain rfl : v93 = .int .i64 nE := hfin 93 (by decide)
      obtain rfl : v94 = .bool true := hfin 94 (by decide)
      obtain rfl : v95 = .bool true := hfin 95 (by decide)
      obtain rfl : v96 = .bool true := hfin 96 (by decide)
      obtain rfl : v97 = .agg (cellsE (atF l i0)).toArray := hfin 97 (by decide)
      obtain rfl : v98 = .agg (cellsE (atF l i0)).toArray := hfin 98 (by decide)
      obtain rfl : v99 = .bool true := hfin 99 (by decide)
      obtain rfl : v100 = .bool true := hfin 100 (by decide)
      obtain rfl : v101 = .bool true := hfin 101 (by decide)
      obtain rfl : v102 = .bool (decide (0 ≤ i0)) := hfin 102 (by decide)
      obtain rfl : v103 = .int .i64 i0 := hfin 103 (by decide)
      obtain rfl : v104 = .bool (decide (0 ≤ i0)) := hfin 104 (by decide)
      obtain rfl : v105 = .bool true := hfin 105 (by decide)
      obtain rfl : v106 = .bool true := hfin 106 (by decide)
      obtain rfl : v107 = .bool true := hfin 107 (by decide)
      obtain rfl : v108 = .agg (cellsE (atF l k0)).toArray := hfin 108 (by decide)
      obtain rfl : v109 = .agg (cellsE (atF l k0)).toArray := hfin 109 (by decide)
      obtain rfl : v110 = .bool true := hfin 110 (by decide)
      obtain rfl : v111 = .bool true := hfin 111 (by decide)
      obtain rfl : v112 = .bool true := hfin 112 (by decide)
      obtain rfl : v113 = .bool (decide (0 ≤ k0)) := hfin 113 (by decide)
      obtain rfl : v114 = .int .i64 k0 := hfin 114 (by decide)
      obtain rfl : v115 = .bool (decide (0 ≤ k0)) := hfin 115 (by decide)
      obtain rfl : v116 = .bool true := hfin 116 (by decide)
      obtain rfl : v117 = .bool true := hfin 117 (by decide)
      obtain rfl : v118 = .bool true := hfin 118 (by decide)
      obtain rfl : v119 = .agg (cellsA a (.slice ad n c)).toArray := hfin 119 (by decide)
      obtain rfl : v120 = .agg (cellsF h (.slice ad2 n2 c2)).toArray := hfin 120 (by decide)
      obtain rfl : v121 = .bool alF := hfin 121 (by decide)
      obtain rfl : v122 = .agg (cellsA a (.slice ad n c)).toArray := hfin 122 (by decide)
      obtain rfl : v123 = .agg (cellsF h (.slice ad2 n2 c2)).toArray := hfin 123 (by decide)
      obtain rfl : v124 = .bool alF := hfin 124 (by decide)
      obtain rfl : v125 = .bool true := hfin 125 (by decide)
      obtain rfl : v126 = .bool true := hfin 126 (by decide)
      obtain rfl : v127 = .bool true := hfin 127 (by decide)
      obtain rfl : v128 = .agg (cellsA a (.slice ad n c)).toArray := hfin 128 (by decide)
      obtain rfl : v129 = .int .i64 0 := hfin 129 (by decide)
      obtain rfl : v130 = .bool true := hfin 130 (by decide)
      obtain rfl : v131 = .agg (cellsA a (.slice ad n c)).toArray := hfin 131 (by decide)
      obtain rfl : v132 = .bool true := hfin 132 (by decide)
      obtain rfl : v133 = .bool true := hfin 133 (by decide)
      obtain rfl : v134 = .bool true := hfin 134 (by decide)
      obtain rfl : v10 = .bool true := hfin 10 (by decide)
      clear hfin
      simp only [List.drop_succ_cons, List.drop_zero]
      simp only [applyS] at H
      have HXN := kp (HOX.out.ext (Ext.refl w9b) (fun g hg => by cases hg))
      go_wp2_with fail
      go_ret
      exact ⟨rfl, H.out.1⟩
end Go.Proofs.Ytfecopfofkdnpaa
