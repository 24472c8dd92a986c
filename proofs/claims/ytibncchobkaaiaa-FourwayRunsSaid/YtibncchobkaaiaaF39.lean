/- Texts of this proof, put together: LawF. -/
import Derived.Test.YtibncchobkaaiaaF38
import Derived.Test.YtibncchobkaaiaaF1
namespace Go.Proofs.Ytibncchobkaaiaa
open Go.RowKit
theorem start_stage {s : Fw} (now : Int) : 0 ≤ (startF s now).1.stage := by
 unfold startF
 split
 ·exact Int.le_refl 0
 ·split
  ·exact Int.le_refl 0
  ·exact (show (0 : Int) ≤ 1 from by decide)
theorem tick_stage {s : Fw} (now : Int) (h : 0 ≤ s.stage) : 0 ≤ (tickF s now).1.stage := by
 unfold tickF
 split
 ·exact Int.le_refl 0
 ·split
  ·exact h
  ·split
   ·exact (show (0 : Int) ≤ 5 from by decide)
   ·exact h
theorem handle_stage {s : Fw} (b : By) (now : Int) (h : 0 ≤ s.stage) : 0 ≤ (handleF s b now).1.stage := by
 have h2 : 0 ≤ (secondF s b now).1.stage := by
  unfold secondF; split
  ·exact Int.le_refl 0
  ·exact (show (0 : Int) ≤ 3 from by decide)
 have h4 : 0 ≤ (fourthF s b).1.stage := by
  unfold fourthF; split
  ·exact Int.le_refl 0
  ·exact (show (0 : Int) ≤ 4 from by decide)
 have h3 : 0 ≤ (thirdF s b).1.stage := by
  unfold thirdF; split
  ·exact Int.le_refl 0
  ·unfold Fw.third; split
   ·exact h
   ·exact (show (0 : Int) ≤ 4 from by decide)
 unfold handleF
 split
 ·exact Int.le_refl 0
 ·split
  ·exact Int.le_refl 0
  ·split
   ·exact h2
   ·split
    ·exact h4
    ·split
     ·exact (show (0 : Int) ≤ 2 from by decide)
     ·split
      ·exact h3
      ·exact Int.le_refl 0
theorem step_stage (o : Ev) (now : Int) (sent : List By) {s : Fw} (h : 0 ≤ s.stage) : 0 ≤ (stepF o now sent s).1.stage := by
 unfold stepF
 split
 ·exact start_stage now
 ·split
  ·exact handle_stage _ now h
  ·exact tick_stage now h
theorem new_stage (role : Int) (own peer : Vc 6) (master nonce : Vc 16) (gid : Int) (gkey : Vc 16) : 0 ≤ (newF role own peer master nonce gid gkey).1.stage := by
 unfold newF; split <;> exact Int.le_refl 0
theorem Loc.two {w0 w : World} {a b : Bk} {bs : List Bk} (h : Loc w0 w (a :: b :: bs)) : Loc w0 w [a, b] :=
 ⟨h.1, by have := h.2.1; simp only [List.map_cons, List.nodup_cons, List.mem_cons, not_or] at this; simp [this.1.1], fun c hc => h.2.2 c (by rcases List.mem_cons.1 hc with rfl | hc; simp; rcases List.mem_cons.1 hc with rfl | hc; simp; cases hc)⟩
def FrR (l : List Ev) (w : World) (g12 g11 : Nat) (vs : Tmp → Value) (wr : World) : Prop := ∃ (j : Nat) (s : Fw × Fw) (sent : List By) (now : Int), j ≤ l.length ∧ vs 15 = .int .i64 j ∧ vs 14 = .int .i64 now ∧ 0 ≤ now ∧ now ≤ 1000000 * j ∧ Kp (0 ≤ s.1.stage ∧ 0 ≤ s.2.stage) ∧ Kp (∀ m ∈ sent, m.length ≤ 100000) ∧ sent.length ≤ j ∧
 Kp (SlBB (g12 + 1) wr (vs 13) sent) ∧ Kp (Loc w wr [(g12, 55, cat (parts2 s)), (g11, 55, cat (parts2 s))])
def FrC (r : Res) (x : Ev) (s : Fw × Fw) (w wr wm : World) (g19 g18 g16 g12 g11 : Nat) (vs : Tmp → Value) (W : World) : Prop :=
 vs 22 = .int .i64 r.2.2 ∧ vs 23 = .int .i64 r.2.2 ∧ Kp (SlBB wm.heap.size W (vs 20) r.2.1) ∧ Kp (SlBB wm.heap.size W (vs 21) r.2.1) ∧ Kp (Chg wr.heap.size wr W) ∧ Kp (Loc w W [(g19, 32, cat (partsF r.1)), (g18, 32, cat (partsF r.1)), (g16, 57, cat (partsE x)), (g12, 55, cat (parts2 s)), (g11, 55, cat (parts2 s))])
set_option maxRecDepth 10000 in
set_option maxHeartbeats 12800000 in
theorem fourwayRuns_walk (p : Pr) (rl : BitVec 8) (v : Value) (l : List Ev) (hk : ∀ x ∈ l, x.Ok) (hlen : l.length ≤ 9223372036854775807) (w : World) (hv : SlT 23 cellsV w v l) : Calls Try.prog 4 #[.agg (cat (partsP p)).toArray, .int .u8 (wI rl), v] w fun e w' => e = .returned (.bool true) ∧ Ext w w' := by
 have H := kp (Loc.start w)
 have HV := kp hv
 have HKO := kp hk
 obtain ⟨ad, c0, rfl⟩ := hv.form
 have CG := kp (show ∀ W, Ext w W → Calls Try.prog 22 #[.slice ad l.length c0] W (fun e w' => e = .returned (.bool (greatF l)) ∧ Ext W w') from fun W hx => great_any _ l hlen W (hv.ext hx))
 have N0 := kp (fun W => new_any (wI rl) p.one p.two p.master p.mine p.gid p.gkey W)
 have M0 := kp (fun W => rnew_any (wI rl) p.one p.two p.master p.mine p.gid p.gkey W)
 have N1 := kp (fun W => new_any 1 p.one p.two p.master p.mine p.gid p.gkey W)
 have M1 := kp (fun W => rnew_any 1 p.one p.two p.master p.mine p.gid p.gkey W)
 have N2 := kp (fun W => new_any 2 p.two p.one p.otherK p.his p.gid p.gkey W)
 have M2 := kp (fun W => rnew_any 2 p.two p.one p.otherK p.his p.gid p.gkey W)
 have G1 := kp (new_stage 1 p.one p.two p.master p.mine p.gid p.gkey)
 have G2 := kp (new_stage 2 p.two p.one p.otherK p.his p.gid p.gkey)
 generalize newF (wI rl) p.one p.two p.master p.mine p.gid p.gkey = r0 at *
 generalize newF 1 p.one p.two p.master p.mine p.gid p.gkey = r1 at *
 generalize newF 2 p.two p.one p.otherK p.his p.gid p.gkey = r2 at *
 have x0 : (r0.2 != r0.2) = false := by simp
 clear hv hk hlen
 go_enter Try.func4, Try.ntmps4
 generalize h7 : (Code.region 7 _ _ : Code) = R7
 generalize h12 : (Code.region 12 _ _ : Code) = R12
 cases hgr : greatF l with
 | true =>
  rw [hgr] at CG
  go_wp2_with (first | ((with_reducible refine isBx 3 48 ?_); (refine L_box H rfl 48 _ rfl (cat (partsP p)) rfl ?_); clear H; intro g3 w3 HGg3 HEg3 H; simp only [pA]) | ((with_reducible refine isLd 23 ?_); (first | (refine L_fv H rfl 23 _ rfl 0 rfl _ rfl _ rfl rfl Try.underlying23 rfl (by kernel_rfl) ?_) | (refine L_fv H rfl 23 _ rfl 1 rfl _ rfl _ rfl rfl Try.underlying23 rfl (by kernel_rfl) ?_) | (refine L_fv H rfl 23 _ rfl 2 rfl _ rfl _ rfl rfl Try.underlying23 rfl (by kernel_rfl) ?_) | (refine L_fv H rfl 23 _ rfl 3 rfl _ rfl _ rfl rfl Try.underlying23 rfl (by kernel_rfl) ?_) | (refine L_fv H rfl 23 _ rfl 4 rfl _ rfl _ rfl rfl Try.underlying23 rfl (by kernel_rfl) ?_) | (refine L_fv H rfl 23 _ rfl 5 rfl _ rfl _ rfl rfl Try.underlying23 rfl (by kernel_rfl) ?_)); simp only [pA]) | ((with_reducible refine isLd 25 ?_); (first | (refine L_fv H rfl 25 _ rfl 0 rfl _ rfl _ rfl rfl Try.underlying25 rfl (by kernel_rfl) ?_) | (refine L_fv H rfl 25 _ rfl 1 rfl _ rfl _ rfl rfl Try.underlying25 rfl (by kernel_rfl) ?_) | (refine L_fv H rfl 25 _ rfl 2 rfl _ rfl _ rfl rfl Try.underlying25 rfl (by kernel_rfl) ?_) | (refine L_fv H rfl 25 _ rfl 3 rfl _ rfl _ rfl rfl Try.underlying25 rfl (by kernel_rfl) ?_) | (refine L_fv H rfl 25 _ rfl 4 rfl _ rfl _ rfl rfl Try.underlying25 rfl (by kernel_rfl) ?_) | (refine L_fv H rfl 25 _ rfl 5 rfl _ rfl _ rfl rfl Try.underlying25 rfl (by kernel_rfl) ?_)); simp only [pA]) | ((with_reducible refine isLd 26 ?_); (first | (refine L_fv H rfl 26 _ rfl 0 rfl _ rfl _ rfl rfl Try.underlying26 rfl (by kernel_rfl) ?_) | (refine L_fv H rfl 26 _ rfl 1 rfl _ rfl _ rfl rfl Try.underlying26 rfl (by kernel_rfl) ?_) | (refine L_fv H rfl 26 _ rfl 2 rfl _ rfl _ rfl rfl Try.underlying26 rfl (by kernel_rfl) ?_) | (refine L_fv H rfl 26 _ rfl 3 rfl _ rfl _ rfl rfl Try.underlying26 rfl (by kernel_rfl) ?_) | (refine L_fv H rfl 26 _ rfl 4 rfl _ rfl _ rfl rfl Try.underlying26 rfl (by kernel_rfl) ?_) | (refine L_fv H rfl 26 _ rfl 5 rfl _ rfl _ rfl rfl Try.underlying26 rfl (by kernel_rfl) ?_)); simp only [pA]) | ((with_reducible refine isLd 30 ?_); (first | (refine L_fg H rfl 30 _ rfl 0 rfl _ rfl _ rfl (partsG p.gid p.gkey) rfl Try.underlying30 rfl (by kernel_rfl) ?_) | (refine L_fg H rfl 30 _ rfl 1 rfl _ rfl _ rfl (partsG p.gid p.gkey) rfl Try.underlying30 rfl (by kernel_rfl) ?_) | (refine L_fg H rfl 30 _ rfl 2 rfl _ rfl _ rfl (partsG p.gid p.gkey) rfl Try.underlying30 rfl (by kernel_rfl) ?_) | (refine L_fg H rfl 30 _ rfl 3 rfl _ rfl _ rfl (partsG p.gid p.gkey) rfl Try.underlying30 rfl (by kernel_rfl) ?_) | (refine L_fg H rfl 30 _ rfl 4 rfl _ rfl _ rfl (partsG p.gid p.gkey) rfl Try.underlying30 rfl (by kernel_rfl) ?_) | (refine L_fg H rfl 30 _ rfl 5 rfl _ rfl _ rfl (partsG p.gid p.gkey) rfl Try.underlying30 rfl (by kernel_rfl) ?_)); simp only [pA]) | (go_at_call 20; refine (N0.out _).mono ?_; rintro e wa ⟨rfl, hx⟩; replace H := kp (H.out.ext hx); have HXC := kp hx; clear hx) | (go_at_call 21; refine (M0.out _).mono ?_; rintro e wa ⟨rfl, hx⟩; replace H := kp (H.out.ext hx); have HXC := kp hx; clear hx) | ((with_reducible refine isAl 7 32 ?_); (refine L_alloc H rfl 32 rfl (cat (partsF fw0)) (fun _ _ => by kernel_rfl) ?_); clear H; intro g7 w7 HGg7 HEg7 H; simp only [pA]) | ((with_reducible refine isAl 9 32 ?_); (refine L_alloc H rfl 32 rfl (cat (partsF fw0)) (fun _ _ => by kernel_rfl) ?_); clear H; intro g9 w9 HGg9 HEg9 H; simp only [pA]) | ((with_reducible refine isSt 32 ?_); refine L_sa H rfl rfl 32 _ _ rfl 0 rfl rfl (partsF r0.1) rfl rfl (by kernel_rfl) ?_; clear H; intro wb HWwb H; simp only [szA] at H) | ((with_reducible refine isLd 32 ?_); (first | (refine L_fa H rfl 32 _ rfl 0 rfl rfl Try.underlying32 rfl (by kernel_rfl) ?_) | (refine L_fa H rfl 32 _ rfl 1 rfl rfl Try.underlying32 rfl (by kernel_rfl) ?_) | (refine L_fa H rfl 32 _ rfl 2 rfl rfl Try.underlying32 rfl (by kernel_rfl) ?_) | (refine L_fa H rfl 32 _ rfl 3 rfl rfl Try.underlying32 rfl (by kernel_rfl) ?_) | (refine L_fa H rfl 32 _ rfl 4 rfl rfl Try.underlying32 rfl (by kernel_rfl) ?_) | (refine L_fa H rfl 32 _ rfl 5 rfl rfl Try.underlying32 rfl (by kernel_rfl) ?_)); simp only [pA]) | ((with_reducible show wpList _ _ _ (Oper.mk _ (Op.binOp _ 32 _ _ _) _ _ _ _ :: _) _ _); (first | refine wpList_eq2 rfl 32 _ _ _ rfl _ _ _ rfl rfl Try.eqGuardType32 (eqF_self _ _) ?_ | refine wpList_ne2 rfl 32 _ _ _ rfl _ _ _ rfl rfl Try.eqGuardType32 (eqF_self _ _) ?_); simp only [pA]) | (go_at_call 22; refine (CG.out _ H.out.1).mono ?_; rintro e wg ⟨rfl, hx⟩; replace H := kp (H.out.ext hx); have HXC := kp hx; clear hx))
  go_ret
  exact ⟨rfl, H.out.1⟩
 | false =>
  rw [hgr] at CG
  have HGR := kp hgr
  have hl60 := great_len hgr
  clear hgr
  go_wp2_with (first | ((with_reducible refine isBx 3 48 ?_); (refine L_box H rfl 48 _ rfl (cat (partsP p)) rfl ?_); clear H; intro g3 w3 HGg3 HEg3 H; simp only [pA]) | ((with_reducible refine isLd 23 ?_); (first | (refine L_fv H rfl 23 _ rfl 0 rfl _ rfl _ rfl rfl Try.underlying23 rfl (by kernel_rfl) ?_) | (refine L_fv H rfl 23 _ rfl 1 rfl _ rfl _ rfl rfl Try.underlying23 rfl (by kernel_rfl) ?_) | (refine L_fv H rfl 23 _ rfl 2 rfl _ rfl _ rfl rfl Try.underlying23 rfl (by kernel_rfl) ?_) | (refine L_fv H rfl 23 _ rfl 3 rfl _ rfl _ rfl rfl Try.underlying23 rfl (by kernel_rfl) ?_) | (refine L_fv H rfl 23 _ rfl 4 rfl _ rfl _ rfl rfl Try.underlying23 rfl (by kernel_rfl) ?_) | (refine L_fv H rfl 23 _ rfl 5 rfl _ rfl _ rfl rfl Try.underlying23 rfl (by kernel_rfl) ?_)); simp only [pA]) | ((with_reducible refine isLd 25 ?_); (first | (refine L_fv H rfl 25 _ rfl 0 rfl _ rfl _ rfl rfl Try.underlying25 rfl (by kernel_rfl) ?_) | (refine L_fv H rfl 25 _ rfl 1 rfl _ rfl _ rfl rfl Try.underlying25 rfl (by kernel_rfl) ?_) | (refine L_fv H rfl 25 _ rfl 2 rfl _ rfl _ rfl rfl Try.underlying25 rfl (by kernel_rfl) ?_) | (refine L_fv H rfl 25 _ rfl 3 rfl _ rfl _ rfl rfl Try.underlying25 rfl (by kernel_rfl) ?_) | (refine L_fv H rfl 25 _ rfl 4 rfl _ rfl _ rfl rfl Try.underlying25 rfl (by kernel_rfl) ?_) | (refine L_fv H rfl 25 _ rfl 5 rfl _ rfl _ rfl rfl Try.underlying25 rfl (by kernel_rfl) ?_)); simp only [pA]) | ((with_reducible refine isLd 26 ?_); (first | (refine L_fv H rfl 26 _ rfl 0 rfl _ rfl _ rfl rfl Try.underlying26 rfl (by kernel_rfl) ?_) | (refine L_fv H rfl 26 _ rfl 1 rfl _ rfl _ rfl rfl Try.underlying26 rfl (by kernel_rfl) ?_) | (refine L_fv H rfl 26 _ rfl 2 rfl _ rfl _ rfl rfl Try.underlying26 rfl (by kernel_rfl) ?_) | (refine L_fv H rfl 26 _ rfl 3 rfl _ rfl _ rfl rfl Try.underlying26 rfl (by kernel_rfl) ?_) | (refine L_fv H rfl 26 _ rfl 4 rfl _ rfl _ rfl rfl Try.underlying26 rfl (by kernel_rfl) ?_) | (refine L_fv H rfl 26 _ rfl 5 rfl _ rfl _ rfl rfl Try.underlying26 rfl (by kernel_rfl) ?_)); simp only [pA]) | ((with_reducible refine isLd 30 ?_); (first | (refine L_fg H rfl 30 _ rfl 0 rfl _ rfl _ rfl (partsG p.gid p.gkey) rfl Try.underlying30 rfl (by kernel_rfl) ?_) | (refine L_fg H rfl 30 _ rfl 1 rfl _ rfl _ rfl (partsG p.gid p.gkey) rfl Try.underlying30 rfl (by kernel_rfl) ?_) | (refine L_fg H rfl 30 _ rfl 2 rfl _ rfl _ rfl (partsG p.gid p.gkey) rfl Try.underlying30 rfl (by kernel_rfl) ?_) | (refine L_fg H rfl 30 _ rfl 3 rfl _ rfl _ rfl (partsG p.gid p.gkey) rfl Try.underlying30 rfl (by kernel_rfl) ?_) | (refine L_fg H rfl 30 _ rfl 4 rfl _ rfl _ rfl (partsG p.gid p.gkey) rfl Try.underlying30 rfl (by kernel_rfl) ?_) | (refine L_fg H rfl 30 _ rfl 5 rfl _ rfl _ rfl (partsG p.gid p.gkey) rfl Try.underlying30 rfl (by kernel_rfl) ?_)); simp only [pA]) | (go_at_call 20; refine (N0.out _).mono ?_; rintro e wa ⟨rfl, hx⟩; replace H := kp (H.out.ext hx); have HXC := kp hx; clear hx) | (go_at_call 21; refine (M0.out _).mono ?_; rintro e wa ⟨rfl, hx⟩; replace H := kp (H.out.ext hx); have HXC := kp hx; clear hx) | ((with_reducible refine isAl 7 32 ?_); (refine L_alloc H rfl 32 rfl (cat (partsF fw0)) (fun _ _ => by kernel_rfl) ?_); clear H; intro g7 w7 HGg7 HEg7 H; simp only [pA]) | ((with_reducible refine isAl 9 32 ?_); (refine L_alloc H rfl 32 rfl (cat (partsF fw0)) (fun _ _ => by kernel_rfl) ?_); clear H; intro g9 w9 HGg9 HEg9 H; simp only [pA]) | ((with_reducible refine isSt 32 ?_); refine L_sa H rfl rfl 32 _ _ rfl 0 rfl rfl (partsF r0.1) rfl rfl (by kernel_rfl) ?_; clear H; intro wb HWwb H; simp only [szA] at H) | ((with_reducible refine isLd 32 ?_); (first | (refine L_fa H rfl 32 _ rfl 0 rfl rfl Try.underlying32 rfl (by kernel_rfl) ?_) | (refine L_fa H rfl 32 _ rfl 1 rfl rfl Try.underlying32 rfl (by kernel_rfl) ?_) | (refine L_fa H rfl 32 _ rfl 2 rfl rfl Try.underlying32 rfl (by kernel_rfl) ?_) | (refine L_fa H rfl 32 _ rfl 3 rfl rfl Try.underlying32 rfl (by kernel_rfl) ?_) | (refine L_fa H rfl 32 _ rfl 4 rfl rfl Try.underlying32 rfl (by kernel_rfl) ?_) | (refine L_fa H rfl 32 _ rfl 5 rfl rfl Try.underlying32 rfl (by kernel_rfl) ?_)); simp only [pA]) | ((with_reducible show wpList _ _ _ (Oper.mk _ (Op.binOp _ 32 _ _ _) _ _ _ _ :: _) _ _); (first | refine wpList_eq2 rfl 32 _ _ _ rfl _ _ _ rfl rfl Try.eqGuardType32 (eqF_self _ _) ?_ | refine wpList_ne2 rfl 32 _ _ _ rfl _ _ _ rfl rfl Try.eqGuardType32 (eqF_self _ _) ?_); simp only [pA]) | (go_at_call 22; refine (CG.out _ H.out.1).mono ?_; rintro e wg ⟨rfl, hx⟩; replace H := kp (H.out.ext hx); have HXC := kp hx; clear hx))
  subst h7
  clear N0 M0 x0
  go_wp2_with (first | ((with_reducible refine isLd 23 ?_); (first | (refine L_fv H rfl 23 _ rfl 0 rfl _ rfl _ rfl rfl Try.underlying23 rfl (by kernel_rfl) ?_) | (refine L_fv H rfl 23 _ rfl 1 rfl _ rfl _ rfl rfl Try.underlying23 rfl (by kernel_rfl) ?_) | (refine L_fv H rfl 23 _ rfl 2 rfl _ rfl _ rfl rfl Try.underlying23 rfl (by kernel_rfl) ?_) | (refine L_fv H rfl 23 _ rfl 3 rfl _ rfl _ rfl rfl Try.underlying23 rfl (by kernel_rfl) ?_) | (refine L_fv H rfl 23 _ rfl 4 rfl _ rfl _ rfl rfl Try.underlying23 rfl (by kernel_rfl) ?_) | (refine L_fv H rfl 23 _ rfl 5 rfl _ rfl _ rfl rfl Try.underlying23 rfl (by kernel_rfl) ?_)); simp only [pA]) | ((with_reducible refine isLd 25 ?_); (first | (refine L_fv H rfl 25 _ rfl 0 rfl _ rfl _ rfl rfl Try.underlying25 rfl (by kernel_rfl) ?_) | (refine L_fv H rfl 25 _ rfl 1 rfl _ rfl _ rfl rfl Try.underlying25 rfl (by kernel_rfl) ?_) | (refine L_fv H rfl 25 _ rfl 2 rfl _ rfl _ rfl rfl Try.underlying25 rfl (by kernel_rfl) ?_) | (refine L_fv H rfl 25 _ rfl 3 rfl _ rfl _ rfl rfl Try.underlying25 rfl (by kernel_rfl) ?_) | (refine L_fv H rfl 25 _ rfl 4 rfl _ rfl _ rfl rfl Try.underlying25 rfl (by kernel_rfl) ?_) | (refine L_fv H rfl 25 _ rfl 5 rfl _ rfl _ rfl rfl Try.underlying25 rfl (by kernel_rfl) ?_)); simp only [pA]) | ((with_reducible refine isLd 26 ?_); (first | (refine L_fv H rfl 26 _ rfl 0 rfl _ rfl _ rfl rfl Try.underlying26 rfl (by kernel_rfl) ?_) | (refine L_fv H rfl 26 _ rfl 1 rfl _ rfl _ rfl rfl Try.underlying26 rfl (by kernel_rfl) ?_) | (refine L_fv H rfl 26 _ rfl 2 rfl _ rfl _ rfl rfl Try.underlying26 rfl (by kernel_rfl) ?_) | (refine L_fv H rfl 26 _ rfl 3 rfl _ rfl _ rfl rfl Try.underlying26 rfl (by kernel_rfl) ?_) | (refine L_fv H rfl 26 _ rfl 4 rfl _ rfl _ rfl rfl Try.underlying26 rfl (by kernel_rfl) ?_) | (refine L_fv H rfl 26 _ rfl 5 rfl _ rfl _ rfl rfl Try.underlying26 rfl (by kernel_rfl) ?_)); simp only [pA]) | ((with_reducible refine isLd 30 ?_); (first | (refine L_fg H rfl 30 _ rfl 0 rfl _ rfl _ rfl (partsG p.gid p.gkey) rfl Try.underlying30 rfl (by kernel_rfl) ?_) | (refine L_fg H rfl 30 _ rfl 1 rfl _ rfl _ rfl (partsG p.gid p.gkey) rfl Try.underlying30 rfl (by kernel_rfl) ?_) | (refine L_fg H rfl 30 _ rfl 2 rfl _ rfl _ rfl (partsG p.gid p.gkey) rfl Try.underlying30 rfl (by kernel_rfl) ?_) | (refine L_fg H rfl 30 _ rfl 3 rfl _ rfl _ rfl (partsG p.gid p.gkey) rfl Try.underlying30 rfl (by kernel_rfl) ?_) | (refine L_fg H rfl 30 _ rfl 4 rfl _ rfl _ rfl (partsG p.gid p.gkey) rfl Try.underlying30 rfl (by kernel_rfl) ?_) | (refine L_fg H rfl 30 _ rfl 5 rfl _ rfl _ rfl (partsG p.gid p.gkey) rfl Try.underlying30 rfl (by kernel_rfl) ?_)); simp only [pA]) | (((with_reducible refine isAl 11 55 ?_); (refine L_alloc H rfl 55 rfl (cat (parts2 (fw0, fw0))) (fun _ _ => by kernel_rfl) ?_); clear H; intro g11 w11 HGg11 HEg11 H; simp only [pA]); have HL11 := kp (show g11 < w11.heap.size from H.out.lt 0 rfl)) | ((with_reducible refine isAl 12 55 ?_); (refine L_alloc H rfl 55 rfl (cat (parts2 (fw0, fw0))) (fun _ _ => by kernel_rfl) ?_); clear H; intro g12 w12 HGg12 HEg12 H; simp only [pA]) | (go_at_call 20; (first | (with_reducible refine (N1.out _).mono ?_) | (with_reducible refine (N2.out _).mono ?_)); rintro e wa ⟨rfl, hx⟩; replace H := kp (H.out.ext hx); have HXC := kp hx; clear hx) | (go_at_call 21; (first | (with_reducible refine (M1.out _).mono ?_) | (with_reducible refine (M2.out _).mono ?_)); rintro e wa ⟨rfl, hx⟩; replace H := kp (H.out.ext hx); have HXC := kp hx; clear hx) | ((with_reducible show wpList _ _ _ (Oper.mk none (Op.store _ _ (.tmp 78)) _ _ _ _ :: _) _ _); ((with_reducible refine isSt 32 ?_); refine L_sg H rfl rfl 32 _ _ rfl 1 rfl _ rfl _ rfl 16 (partsF r1.1) rfl (by kernel_rfl) (by kernel_rfl) (parts2 (r1.1, fw0)) (by kernel_rfl) ?_; clear H; intro wd HWwd H; simp only [ssA, szA] at H)) | ((with_reducible show wpList _ _ _ (Oper.mk none (Op.store _ _ (.tmp 93)) _ _ _ _ :: _) _ _); ((with_reducible refine isSt 32 ?_); refine L_sg H rfl rfl 32 _ _ rfl 0 rfl _ rfl _ rfl 16 (partsF r1.1) rfl (by kernel_rfl) (by kernel_rfl) (parts2 (r1.1, fw0)) (by kernel_rfl) ?_; clear H; intro wd HWwd H; simp only [szA] at H)) | ((with_reducible show wpList _ _ _ (Oper.mk none (Op.store _ _ (.tmp 108)) _ _ _ _ :: _) _ _); ((with_reducible refine isSt 32 ?_); refine L_sg H rfl rfl 32 _ _ rfl 1 rfl _ rfl _ rfl 16 (partsF r2.1) rfl (by kernel_rfl) (by kernel_rfl) (parts2 (r1.1, r2.1)) (by kernel_rfl) ?_; clear H; intro wd HWwd H; simp only [ssA, szA] at H)) | ((with_reducible show wpList _ _ _ (Oper.mk none (Op.store _ _ (.tmp 123)) _ _ _ _ :: _) _ _); ((with_reducible refine isSt 32 ?_); refine L_sg H rfl rfl 32 _ _ rfl 0 rfl _ rfl _ rfl 16 (partsF r2.1) rfl (by kernel_rfl) (by kernel_rfl) (parts2 (r1.1, r2.1)) (by kernel_rfl) ?_; clear H; intro wd HWwd H; simp only [szA] at H)))
  have HB2 := kp (show w.heap.size ≤ g12 + 1 from by have := H.out.le 0 rfl; omega)
  have HB12 := kp (show g11 < g12 from by have := HGg11.out; have := HGg12.out; have := HEg11.out.size; have := HEg11.out; have h9 : g11 < w11.heap.size := HL11.out; omega)
  have H2 := kp (Loc.two H.out)
  clear H
  subst h12
  go_wp2_with fail
  refine wp_loopC (13 :: 14 :: 15 :: 16 :: 17 :: 18 :: 19 :: 20 :: 21 :: 22 :: 23 :: 24 :: 25 :: 126 :: 127 :: 128 :: 129 :: 130 :: 131 :: 132 :: 133 :: 134 :: 135 :: 136 :: 137 :: 138 :: 139 :: 140 :: 141 :: 142 :: 143 :: 144 :: 145 :: 146 :: 147 :: 148 :: 149 :: 150 :: 151 :: 152 :: 153 :: 154 :: 155 :: 156 :: 157 :: 158 :: 159 :: 160 :: 161 :: 162 :: 163 :: 164 :: 165 :: 166 :: 167 :: 168 :: 169 :: 170 :: 171 :: 172 :: 173 :: 174 :: 175 :: 176 :: 177 :: 178 :: 179 :: 180 :: 181 :: 182 :: 183 :: 184 :: 185 :: 186 :: 187 :: 188 :: 189 :: 190 :: 191 :: 192 :: 193 :: 194 :: 195 :: 196 :: 197 :: 198 :: 199 :: 200 :: 201 :: 202 :: 203 :: 204 :: 205 :: 206 :: 207 :: 208 :: 209 :: 210 :: 211 :: 212 :: 213 :: 214 :: 215 :: 216 :: 217 :: 218 :: 219 :: 220 :: 221 :: 222 :: 223 :: 224 :: 225 :: 226 :: 227 :: 228 :: 229 :: 230 :: 231 :: 232 :: 233 :: 234 :: 235 :: 236 :: []) (FrR l w g12 g11) (fun vs _ => l.length - (intOf (vs 15)).toNat) (by kernel_rfl) ⟨0, (r1.1, r2.1), [], 0, by omega, rfl, rfl, by decide, by decide, kp ⟨G1.out, G2.out⟩, kp (fun m hm => by cases hm), by decide, kp (SlBB.nil _ _), H2⟩ ?_
  clear H2 N1 M1 N2 M2 CG
  rintro vs wr ⟨j, s, sent, now, hj, q15, q14, hn0, hn1, HST0, HSL, hsn, HS, H⟩
  simp only [putMany, List.setIfInBounds_toArray, List.set_cons_zero, List.set_cons_succ]
  rw [q15, q14]
  by_cases hjl : j < l.length
  ·obtain ⟨x, hx⟩ : ∃ x, l[j]? = some x := ⟨_, List.getElem?_eq_getElem hjl⟩
   obtain ⟨b, off, c1, hv1, hbs, hE⟩ := (HV.out.ext H.out.1).ev hx
   cases hv1
   have HEV := kp hE.all
   have HZE := kp (sizeEv x)
   have HOK := kp (HKO.out x (List.mem_of_getElem? hx))
   obtain ⟨f1, f2, f3, f4, f5, f6⟩ := badEv_false (great_no HGR.out hx)
   have HMS := kp (show ∀ W, Chg wr.heap.size wr W → Calls Try.prog 23 #[.agg (cellsV x).toArray, vs 13] W (MsgR (msgF x sent) W) from fun W hc => message_any x (by omega) (by omega) (by omega) (by omega) sent HSL.out (by omega) (g12 + 1) (vs 13) W (HS.out.chg hc))
   clear hx hE hbs
   have hto : x.to % 2 = 0 ∨ x.to % 2 = 1 := by omega
   rcases hto with hto | hto
   ·skip
    have hT : x.to.tmod 2 = 0 := (Int.tmod_eq_emod_of_nonneg HOK.out.t0).trans hto
    obtain ⟨r, hr⟩ : ∃ r, stepF x (now + x.wait) sent s.1 = r := ⟨_, rfl⟩
    have HR := kp hr
    have HRO := kp (show (∀ m ∈ r.2.1, m.length ≤ 100000) ∧ r.2.1.length ≤ 1 from by rw [← hr]; exact step_out x _ sent _)
    have HRS := kp (show 0 ≤ r.1.stage from by rw [← hr]; exact step_stage x _ sent HST0.out.1)
    have HS0 := kp (show 0 ≤ s.1.stage from HST0.out.1)
    clear hr hto
    generalize hb2 : (Code.block 2 _ : Code) = CB
    generalize h32 : (Code.region 32 _ _ : Code) = R32
    generalize h34 : (Code.region 34 _ _ : Code) = R34
    generalize h36 : (Code.region 36 _ _ : Code) = R36
    go_wp2_with (first | ((with_reducible refine isLd 57 ?_); (refine wpList_load_midG (by kernel_rfl) 57 _ rfl (b) (off + j * 23) rfl (cellsV x) _ (HEV.out) Try.underlying57 rfl (HZE.out) ?_); simp only [pA]) | ((with_reducible refine isAl 16 57 ?_); (refine L_alloc H rfl 57 rfl (cat (partsE ev0)) (fun _ _ => by kernel_rfl) ?_); clear H; intro g16 w16 HGg16 HEg16 H; simp only [pA]) | ((with_reducible refine isSt 57 ?_); refine L_sa H rfl rfl 57 _ _ rfl 0 rfl rfl (partsE x) rfl rfl (by kernel_rfl) ?_; clear H; intro w17 HWw17 H; simp only [szA] at H) | ((with_reducible refine isLd 5 ?_); (first | (refine L_f1 H rfl 5 _ rfl 0 rfl _ rfl _ rfl _ rfl Try.underlying5 rfl ?_) | (refine L_f1 H rfl 5 _ rfl 1 rfl _ rfl _ rfl _ rfl Try.underlying5 rfl ?_) | (refine L_f1 H rfl 5 _ rfl 2 rfl _ rfl _ rfl _ rfl Try.underlying5 rfl ?_) | (refine L_f1 H rfl 5 _ rfl 3 rfl _ rfl _ rfl _ rfl Try.underlying5 rfl ?_) | (refine L_f1 H rfl 5 _ rfl 4 rfl _ rfl _ rfl _ rfl Try.underlying5 rfl ?_) | (refine L_f1 H rfl 5 _ rfl 5 rfl _ rfl _ rfl _ rfl Try.underlying5 rfl ?_)); simp only [pA]) | ((with_reducible refine isLd 3 ?_); (first | (refine L_f1 H rfl 3 _ rfl 0 rfl _ rfl _ rfl _ rfl Try.underlying3 rfl ?_) | (refine L_f1 H rfl 3 _ rfl 1 rfl _ rfl _ rfl _ rfl Try.underlying3 rfl ?_) | (refine L_f1 H rfl 3 _ rfl 2 rfl _ rfl _ rfl _ rfl Try.underlying3 rfl ?_) | (refine L_f1 H rfl 3 _ rfl 3 rfl _ rfl _ rfl _ rfl Try.underlying3 rfl ?_) | (refine L_f1 H rfl 3 _ rfl 4 rfl _ rfl _ rfl _ rfl Try.underlying3 rfl ?_) | (refine L_f1 H rfl 3 _ rfl 5 rfl _ rfl _ rfl _ rfl Try.underlying3 rfl ?_)); simp only [pA]) | ((with_reducible refine isAl 18 32 ?_); (refine L_alloc H rfl 32 rfl (cat (partsF fw0)) (fun _ _ => by kernel_rfl) ?_); clear H; intro g18 w18 HGg18 HEg18 H; simp only [pA]) | ((with_reducible refine isAl 19 32 ?_); (refine L_alloc H rfl 32 rfl (cat (partsF fw0)) (fun _ _ => by kernel_rfl) ?_); clear H; intro g19 w19 HGg19 HEg19 H; simp only [pA]) | ((with_reducible refine isLd 57 ?_); refine L_fa H rfl 57 _ rfl 2 rfl rfl Try.underlying57 rfl (by kernel_rfl) ?_; simp only [pA]) | (go_at_call 23; have HC19 := kp ((((Chg.refl _).past HEg16.out HWw17.out (Nat.le_of_eq HGg16.out.symm)).ext HEg18.out).ext HEg19.out); have HL18a := kp (show g18 < w19.heap.size from H.out.lt 1 rfl); have HL19a := kp (show g19 < w19.heap.size from H.out.lt 0 rfl); refine (HMS.out _ HC19.out).mono ?_; rintro e wm ⟨u, rfl, hu1, hu2, hx⟩; have HU1 := kp hu1; have HU2 := kp hu2; clear hu1 hu2; replace H := kp (H.out.ext hx); have HXC := kp hx; clear hx; have HCW := kp (HC19.out.ext HXC.out); have HXM := HXC; clear HC19))
    obtain ⟨ua, un, uc, rfl, HUN⟩ : ∃ ua un uc, u = .slice ua un uc ∧ Kp (∀ b, msgF x sent = some b → un = b.length) := by
     cases hmo : msgF x sent with
     | none => exact ⟨none, 0, 0, HU2.out hmo, kp (fun b q => by cases q)⟩
     | some b =>
      obtain ⟨a1, a2, e⟩ := owns_form (HU1.out b hmo)
      exact ⟨a1, _, a2, e, kp (fun b2 q => by cases q; rfl)⟩
    have HMB := kp (fun b (hb : msgF x sent = some b) => msgF_len HSL.out hb)
    have HL18 := kp (Nat.lt_of_lt_of_le HL18a.out HXM.out.size)
    have HL19 := kp (Nat.lt_of_lt_of_le HL19a.out HXM.out.size)
    have HG18w := kp (show wr.heap.size ≤ g18 from by have q1 := HGg16.out; have q2 := HEg16.out.size; have q3 := HWw17.out.size; have q4 := HGg18.out; omega)
    have HG19w := kp (show wr.heap.size ≤ g19 from by have q1 := HG18w.out; have q2 := HGg19.out; have q3 := HEg18.out.size; have q4 := HGg18.out; omega)
    have HL12m := kp (show g12 < wm.heap.size from H.out.lt 3 rfl)
    have HL11m := kp (show g11 < wm.heap.size from H.out.lt 4 rfl)
    subst hb2
    refine wp_cut (20 :: 21 :: 22 :: 23 :: 150 :: 151 :: 152 :: 153 :: 154 :: 155 :: 156 :: 157 :: 158 :: 159 :: 160 :: 161 :: 162 :: 163 :: 164 :: 165 :: 166 :: 167 :: 168 :: 169 :: 170 :: 171 :: 172 :: 173 :: 174 :: 175 :: 176 :: 177 :: 178 :: 179 :: 180 :: 181 :: 182 :: 183 :: 184 :: 185 :: 186 :: 187 :: 188 :: 189 :: 190 :: 191 :: 192 :: 193 :: 194 :: 195 :: 196 :: 197 :: 198 :: 199 :: 200 :: 201 :: 202 :: 203 :: 204 :: 205 :: 206 :: 207 :: 208 :: 209 :: 210 :: 211 :: []) (FrC r x s w wr wm g19 g18 g16 g12 g11) ?_ ?_
    ·by_cases h0 : x.kind = 0
     ·have hk0 : (x.kind == 0) = true := by simp [h0]
      have HST := kp (show startF s.1 (now + x.wait) = r from by rw [← HR.out]; unfold stepF; rw [if_pos h0])
      have HCA := kp (fun W (_ : True) => by have := start_any s.1 (now + x.wait) W; rw [HST.out] at this; exact this)
      have HRA := kp (fun W (_ : True) => by have := rstart_any s.1 HS0.out (now + x.wait) W; rw [HST.out] at this; exact this)
      clear h0
      go_wp2_with (first | ((with_reducible refine isLd 32 ?_); refine L_fg H rfl 32 _ rfl 4 rfl _ rfl _ rfl (partsF s.1) rfl Try.underlying32 rfl (by kernel_rfl) ?_; simp only [pA]) | ((with_reducible refine isLd 32 ?_); refine L_fg H rfl 32 _ rfl 3 rfl _ rfl _ rfl (partsF s.1) rfl Try.underlying32 rfl (by kernel_rfl) ?_; simp only [pA]) | ((with_reducible refine isLd 5 ?_); (first | (refine L_f1 H rfl 5 _ rfl 0 rfl _ rfl _ rfl _ rfl Try.underlying5 rfl ?_) | (refine L_f1 H rfl 5 _ rfl 1 rfl _ rfl _ rfl _ rfl Try.underlying5 rfl ?_) | (refine L_f1 H rfl 5 _ rfl 2 rfl _ rfl _ rfl _ rfl Try.underlying5 rfl ?_) | (refine L_f1 H rfl 5 _ rfl 3 rfl _ rfl _ rfl _ rfl Try.underlying5 rfl ?_) | (refine L_f1 H rfl 5 _ rfl 4 rfl _ rfl _ rfl _ rfl Try.underlying5 rfl ?_) | (refine L_f1 H rfl 5 _ rfl 5 rfl _ rfl _ rfl _ rfl Try.underlying5 rfl ?_)); simp only [pA]) | ((with_reducible refine isSt 32 ?_); refine L_sa H rfl rfl 32 _ _ rfl 1 rfl rfl (partsF r.1) rfl rfl (by kernel_rfl) ?_; clear H; intro ws HWws H; simp only [ssA, szA] at H) | ((with_reducible refine isSt 32 ?_); refine L_sa H rfl rfl 32 _ _ rfl 0 rfl rfl (partsF r.1) rfl rfl (by kernel_rfl) ?_; clear H; intro wx HWwx H; simp only [szA] at H) | (go_at_call 10; refine (HCA.out _ trivial).mono ?_; rintro e wt ⟨v1, rfl, hs, hx⟩; have HSA := kp hs; have XT := kp hx; clear hs; replace H := kp (H.out.ext hx); have HXC := kp hx; clear hx) | (go_at_call 11; refine (HRA.out _ trivial).mono ?_; rintro e wu ⟨v2, rfl, hs, hx⟩; have HSR := kp hs; have XU := kp hx; clear hs; replace H := kp (H.out.ext hx); have HXC := kp hx; clear hx))
      have HWS := kp (Nat.le_trans XT.out.size (Nat.le_of_eq HWws.out.size.symm))
      exact CutP.of rfl (by kernel_rfl) ⟨rfl, rfl, kp (((HSA.out.out HWws.out.out (by intro z hz; rcases List.mem_singleton.1 hz with rfl; exact HL18.out)).ext XU.out).out HWwx.out.out (by intro z hz; rcases List.mem_singleton.1 hz with rfl; exact HL19.out)), kp ((HSR.out.out HWwx.out.out (by intro z hz; rcases List.mem_singleton.1 hz with rfl; exact Nat.lt_of_lt_of_le HL19.out HWS.out)).weak HWS.out), kp ((((HCW.out.ext XT.out).wrote HWws.out HG18w.out).ext XU.out).wrote HWwx.out HG19w.out), H⟩
     ·have hk0 : (x.kind == 0) = false := by simp [h0]
      cases hmo : msgF x sent with
      | none =>
       have HST := kp (show tickF s.1 (now + x.wait) = r from by rw [← HR.out]; unfold stepF; rw [if_neg h0, hmo])
       have HCA := kp (fun W (_ : True) => by have := tick_any s.1 (now + x.wait) W; rw [HST.out] at this; exact this)
       have HRA := kp (fun W (_ : True) => by have := rtick_any s.1 HS0.out (now + x.wait) W; rw [HST.out] at this; exact this)
       clear h0 hmo
       go_wp2_with (first | ((with_reducible refine isLd 32 ?_); refine L_fg H rfl 32 _ rfl 4 rfl _ rfl _ rfl (partsF s.1) rfl Try.underlying32 rfl (by kernel_rfl) ?_; simp only [pA]) | ((with_reducible refine isLd 32 ?_); refine L_fg H rfl 32 _ rfl 3 rfl _ rfl _ rfl (partsF s.1) rfl Try.underlying32 rfl (by kernel_rfl) ?_; simp only [pA]) | ((with_reducible refine isLd 5 ?_); (first | (refine L_f1 H rfl 5 _ rfl 0 rfl _ rfl _ rfl _ rfl Try.underlying5 rfl ?_) | (refine L_f1 H rfl 5 _ rfl 1 rfl _ rfl _ rfl _ rfl Try.underlying5 rfl ?_) | (refine L_f1 H rfl 5 _ rfl 2 rfl _ rfl _ rfl _ rfl Try.underlying5 rfl ?_) | (refine L_f1 H rfl 5 _ rfl 3 rfl _ rfl _ rfl _ rfl Try.underlying5 rfl ?_) | (refine L_f1 H rfl 5 _ rfl 4 rfl _ rfl _ rfl _ rfl Try.underlying5 rfl ?_) | (refine L_f1 H rfl 5 _ rfl 5 rfl _ rfl _ rfl _ rfl Try.underlying5 rfl ?_)); simp only [pA]) | ((with_reducible refine isSt 32 ?_); refine L_sa H rfl rfl 32 _ _ rfl 1 rfl rfl (partsF r.1) rfl rfl (by kernel_rfl) ?_; clear H; intro ws HWws H; simp only [ssA, szA] at H) | ((with_reducible refine isSt 32 ?_); refine L_sa H rfl rfl 32 _ _ rfl 0 rfl rfl (partsF r.1) rfl rfl (by kernel_rfl) ?_; clear H; intro wx HWwx H; simp only [szA] at H) | (go_at_call 13; refine (HCA.out _ trivial).mono ?_; rintro e wt ⟨v1, rfl, hs, hx⟩; have HSA := kp hs; have XT := kp hx; clear hs; replace H := kp (H.out.ext hx); have HXC := kp hx; clear hx) | (go_at_call 14; refine (HRA.out _ trivial).mono ?_; rintro e wu ⟨v2, rfl, hs, hx⟩; have HSR := kp hs; have XU := kp hx; clear hs; replace H := kp (H.out.ext hx); have HXC := kp hx; clear hx))
       have HWS := kp (Nat.le_trans XT.out.size (Nat.le_of_eq HWws.out.size.symm))
       exact CutP.of rfl (by kernel_rfl) ⟨rfl, rfl, kp (((HSA.out.out HWws.out.out (by intro z hz; rcases List.mem_singleton.1 hz with rfl; exact HL18.out)).ext XU.out).out HWwx.out.out (by intro z hz; rcases List.mem_singleton.1 hz with rfl; exact HL19.out)), kp ((HSR.out.out HWwx.out.out (by intro z hz; rcases List.mem_singleton.1 hz with rfl; exact Nat.lt_of_lt_of_le HL19.out HWS.out)).weak HWS.out), kp ((((HCW.out.ext XT.out).wrote HWws.out HG18w.out).ext XU.out).wrote HWwx.out HG19w.out), H⟩
      | some b =>
       have HST := kp (show handleF s.1 b (now + x.wait) = r from by rw [← HR.out]; unfold stepF; rw [if_neg h0, hmo])
       have HOU := kp (HU1.out b hmo)
       have HCA := kp (fun W (hx : Ext wm W) => by have := handle_own s.1 b (HMB.out b hmo) (now + x.wait) _ _ W (owns_ext HOU.out hx); rw [HST.out] at this; exact this)
       have HRA := kp (fun (W : World) (ho : W.ownsRow w19.heap.size 5 1 (.slice ua un uc) b.length (b.map V8)) => by have := rhandle_all s.1 HS0.out b (HMB.out b hmo) (now + x.wait) _ W (SlB.of_owns ho) (CapOk.of_owns ho); rw [HST.out] at this; exact this)
       clear h0 hmo
       go_wp2_with (first | ((with_reducible refine isLd 32 ?_); refine L_fg H rfl 32 _ rfl 4 rfl _ rfl _ rfl (partsF s.1) rfl Try.underlying32 rfl (by kernel_rfl) ?_; simp only [pA]) | ((with_reducible refine isLd 32 ?_); refine L_fg H rfl 32 _ rfl 3 rfl _ rfl _ rfl (partsF s.1) rfl Try.underlying32 rfl (by kernel_rfl) ?_; simp only [pA]) | ((with_reducible refine isLd 5 ?_); (first | (refine L_f1 H rfl 5 _ rfl 0 rfl _ rfl _ rfl _ rfl Try.underlying5 rfl ?_) | (refine L_f1 H rfl 5 _ rfl 1 rfl _ rfl _ rfl _ rfl Try.underlying5 rfl ?_) | (refine L_f1 H rfl 5 _ rfl 2 rfl _ rfl _ rfl _ rfl Try.underlying5 rfl ?_) | (refine L_f1 H rfl 5 _ rfl 3 rfl _ rfl _ rfl _ rfl Try.underlying5 rfl ?_) | (refine L_f1 H rfl 5 _ rfl 4 rfl _ rfl _ rfl _ rfl Try.underlying5 rfl ?_) | (refine L_f1 H rfl 5 _ rfl 5 rfl _ rfl _ rfl _ rfl Try.underlying5 rfl ?_)); simp only [pA]) | ((with_reducible refine isSt 32 ?_); refine L_sa H rfl rfl 32 _ _ rfl 1 rfl rfl (partsF r.1) rfl rfl (by kernel_rfl) ?_; clear H; intro ws HWws H; simp only [ssA, szA] at H) | ((with_reducible refine isSt 32 ?_); refine L_sa H rfl rfl 32 _ _ rfl 0 rfl rfl (partsF r.1) rfl rfl (by kernel_rfl) ?_; clear H; intro wx HWwx H; simp only [szA] at H) | (go_at_call 15; refine (HCA.out _ (Ext.refl _)).mono ?_; rintro e wt ⟨v1, rfl, hs, hx⟩; have HSA := kp hs; have XT := kp hx; clear hs; replace H := kp (H.out.ext hx); have HXC := kp hx; clear hx) | (go_at_call 16; refine (HRA.out _ (owns_wrote (owns_ext HOU.out XT.out) HWws.out HL18a.out)).mono ?_; rintro e wu ⟨v2, rfl, hs, hx⟩; have HSR := kp hs; have XU := kp hx; clear hs; replace H := kp (H.out.ext hx); have HXC := kp hx; clear hx))
       have HWS := kp (Nat.le_trans XT.out.size (Nat.le_of_eq HWws.out.size.symm))
       exact CutP.of rfl (by kernel_rfl) ⟨rfl, rfl, kp (((HSA.out.out HWws.out.out (by intro z hz; rcases List.mem_singleton.1 hz with rfl; exact HL18.out)).ext XU.out).out HWwx.out.out (by intro z hz; rcases List.mem_singleton.1 hz with rfl; exact HL19.out)), kp ((HSR.out.out HWwx.out.out (by intro z hz; rcases List.mem_singleton.1 hz with rfl; exact Nat.lt_of_lt_of_le HL19.out HWS.out)).weak HWS.out), kp ((((HCW.out.ext XT.out).wrote HWws.out HG18w.out).ext XU.out).wrote HWwx.out HG19w.out), H⟩
    clear H
    rintro vc W ⟨q22, q23, HSA, HSR, HC, H⟩
    simp only [putMany, List.setIfInBounds_toArray, List.set_cons_zero, List.set_cons_succ]
    go_wp2_with fail
    rw [q22, q23]
    clear q22 q23
    have H : Kp (Loc w W [(g19, 32, cat (partsF r.1)), (g18, 32, cat (partsF r.1)), (g16, 57, cat (partsE x)), (g12, 55, cat (parts2 s)), (g11, 55, cat (parts2 s))]) := H
    have x1 : (r.2.2 != r.2.2) = false := by simp
    subst h32
    go_wp2_with (first | ((with_reducible refine isLd 32 ?_); (first | (refine L_fa H rfl 32 _ rfl 0 rfl rfl Try.underlying32 rfl (by kernel_rfl) ?_) | (refine L_fa H rfl 32 _ rfl 1 rfl rfl Try.underlying32 rfl (by kernel_rfl) ?_) | (refine L_fa H rfl 32 _ rfl 2 rfl rfl Try.underlying32 rfl (by kernel_rfl) ?_) | (refine L_fa H rfl 32 _ rfl 3 rfl rfl Try.underlying32 rfl (by kernel_rfl) ?_) | (refine L_fa H rfl 32 _ rfl 4 rfl rfl Try.underlying32 rfl (by kernel_rfl) ?_) | (refine L_fa H rfl 32 _ rfl 5 rfl rfl Try.underlying32 rfl (by kernel_rfl) ?_)); simp only [pA]) | ((with_reducible show wpList _ _ _ (Oper.mk _ (Op.binOp _ 32 _ _ _) _ _ _ _ :: _) _ _); (first | refine wpList_eq2 rfl 32 _ _ _ rfl _ _ _ rfl rfl Try.eqGuardType32 (eqF_self _ _) ?_ | refine wpList_ne2 rfl 32 _ _ _ rfl _ _ _ rfl rfl Try.eqGuardType32 (eqF_self _ _) ?_); simp only [pA]) | (go_at_call 12; refine (rsame_any _ _ _ _ _ HRO.out.1 _ HSA.out HSR.out (by have := HRO.out.2; omega)).mono ?_; rintro e W2 ⟨rfl, hx⟩; have XS := kp hx; replace H := kp (H.out.ext hx); have HXC := kp hx; clear hx))
    have HS2 := kp (HS.out.chg (HC.out.ext XS.out))
    have HA2 := kp (HSA.out.ext XS.out)
    clear HS HSA HSR HC
    cases he : (r.2.2 == 0)
    ·have H2 := kp (Loc.tail (Loc.tail (Loc.tail H.out)))
     clear H
     have H := H2
     clear H2
     subst h34
     go_wp2_with fail
     have HSTN := HST0
     have HSLN := HSL
     have HSN := HS2
     exact LoopP.of rfl (by kernel_rfl) ⟨j + 1, s, sent, now + x.wait, by omega, by show Value.int .i64 _ = Value.int .i64 _; go_num, rfl, by omega, by omega, HSTN, HSLN, by (try rw [List.length_append]); have := HRO.out.2; omega, HSN, H⟩ (by simp [intOf]; omega)
    ·have HSTN := kp (show 0 ≤ (r.1, s.2).1.stage ∧ 0 ≤ (r.1, s.2).2.stage from ⟨HRS.out, HST0.out.2⟩)
     have HSLN := kp (show ∀ m ∈ sent ++ r.2.1, m.length ≤ 100000 from by intro m hm; rcases List.mem_append.1 hm with q | q; exact HSL.out m q; exact HRO.out.1 m q)
     subst h34
     go_wp2_with fail
     refine region_free H (tabS [(228, fun vQ _ => vQ = .int .i64 0), (229, fun vQ _ => vQ = .int .i64 0), (230, fun vQ _ => vQ = .agg (cat (partsF r.1)).toArray), (231, fun vQ _ => vQ = .agg (cat (partsF r.1)).toArray), (232, fun vQ _ => vQ = .pointer (some ⟨g11, 0, none⟩))]) [⟨5, 4, g11, 55, cat (parts2 s), cat (parts2 (r.1, s.2))⟩] (tabS_out _ _ (by simp only [List.forall_mem_cons, mono_eqO, true_and]; simp)) 6 (by kernel_rfl) (by kernel_rfl) (by kernel_rfl) (by kernel_rfl) [5] [4] rfl rfl (by decide) (by decide) (by decide) ⟨rfl, trivial⟩ ?_
     simp only [List.take_succ_cons, List.take_zero]
     refine ⟨fun w_ o_ S_ => ?_, fun v228 => ?_⟩
     ·clear S_
      clear o_
      go_wp2_with fail
      exact kso
     simp only [pA]
     refine ⟨fun w_ o_ S_ => ?_, fun v229 => ?_⟩
     ·clear S_
      clear o_
      go_wp2_with fail
      exact kso
     simp only [pA]
     refine ⟨fun w_ o_ S_ => ?_, fun v230 => ?_⟩
     ·clear S_
      have H := kp (H.out.keep [0, 1, 2, 3] (St := [⟨5, 4, g11, 55, cat (parts2 s), cat (parts2 (r.1, s.2))⟩]) ⟨rfl, trivial⟩ o_ (by decide) (by kernel_rfl))
      have HOX := kp o_
      clear o_
      go_wp2_with ((with_reducible refine isLd 32 ?_); refine L_fa H rfl 32 _ rfl 1 rfl rfl Try.underlying32 rfl (by kernel_rfl) ?_; simp only [pA])
      exact kso
     simp only [pA]
     refine ⟨fun w_ o_ S_ => ?_, fun v231 => ?_⟩
     ·clear S_
      have H := kp (H.out.keep [0, 1, 2, 3] (St := [⟨5, 4, g11, 55, cat (parts2 s), cat (parts2 (r.1, s.2))⟩]) ⟨rfl, trivial⟩ o_ (by decide) (by kernel_rfl))
      have HOX := kp o_
      clear o_
      go_wp2_with ((with_reducible refine isLd 32 ?_); refine L_fa H rfl 32 _ rfl 0 rfl rfl Try.underlying32 rfl (by kernel_rfl) ?_; simp only [pA])
      exact kso
     simp only [pA]
     refine ⟨fun w_ o_ S_ => ?_, fun v232 => ?_⟩
     ·obtain rfl : v228 = .int .i64 0 := hsR S_ 228 rfl
      clear S_ o_
      go_wp2_with fail
      exact kso
     simp only [pA]
     refine ⟨⟨rfl, rfl, fun ws5 hos5 hSs5 hLs5 => ?_⟩, ?_⟩
     ·obtain rfl : v230 = .agg (cat (partsF r.1)).toArray := hSs5 230 (by decide) (by decide)
      obtain rfl : v232 = .pointer (some ⟨g11, 0, none⟩) := hSs5 232 (by decide) (by decide)
      exact run_stp 32 _ _ rfl _ rfl _ rfl 16 (partsF r.1) _ rfl (by kernel_rfl) rfl (by kernel_rfl) hLs5 rfl
     clear H
     intro W3 HOX H hfin
     obtain rfl : v228 = .int .i64 0 := hfin 228 (by decide)
     obtain rfl : v229 = .int .i64 0 := hfin 229 (by decide)
     obtain rfl : v230 = .agg (cat (partsF r.1)).toArray := hfin 230 (by decide)
     obtain rfl : v231 = .agg (cat (partsF r.1)).toArray := hfin 231 (by decide)
     obtain rfl : v232 = .pointer (some ⟨g11, 0, none⟩) := hfin 232 (by decide)
     clear hfin
     simp only [List.drop_succ_cons, List.drop_zero]
     simp only [applyS] at H
     go_wp2_with ((with_reducible refine isSt 32 ?_); refine L_sg H rfl rfl 32 _ _ rfl 3 rfl _ rfl _ rfl 16 (partsF r.1) rfl (by kernel_rfl) (by kernel_rfl) (parts2 (r.1, s.2)) (by kernel_rfl) ?_; clear H; intro W4 HWW4 H; simp only [ssA, szA] at H)
     have HS4 := kp ((HS2.out.out HOX.out (by intro z hz; rcases List.mem_singleton.1 hz with rfl; exact Nat.lt_succ_of_lt HB12.out)).out HWW4.out.out (by intro z hz; rcases List.mem_singleton.1 hz with rfl; exact Nat.lt_succ_self _))
     have HA4 := kp ((HA2.out.out HOX.out (by intro z hz; rcases List.mem_singleton.1 hz with rfl; exact HL11m.out)).out HWW4.out.out (by intro z hz; rcases List.mem_singleton.1 hz with rfl; exact HL12m.out))
     have HLC := kp (H.out.lt 3 rfl)
     have H2 := kp (Loc.tail (Loc.tail (Loc.tail H.out)))
     clear H HS2 HA2
     have H := H2
     clear H2
     subst h36
     go_wp2_with ((with_reducible show wpList _ _ _ (Oper.mk (some 236) _ _ _ _ _ :: _) _ _); refine L_appM H rfl _ _ rfl (g12 + 1) HB2.out HLC.out (by intro z hz; simp at hz; have := HB12.out; omega) _ sent rfl HS4.out _ r.2.1 wm.heap.size rfl HA4.out HL12m.out (by have := HRO.out.2; omega) ?_; clear H; intro vb wN HSN HGN H; simp only [pA])
     exact LoopP.of rfl (by kernel_rfl) ⟨j + 1, (r.1, s.2), (sent ++ r.2.1), now + x.wait, by omega, by show Value.int .i64 _ = Value.int .i64 _; go_num, rfl, by omega, by omega, HSTN, HSLN, by (try rw [List.length_append]); have := HRO.out.2; omega, HSN, H⟩ (by simp [intOf]; omega)
   ·skip
    have hT : x.to.tmod 2 = 1 := (Int.tmod_eq_emod_of_nonneg HOK.out.t0).trans hto
    obtain ⟨r, hr⟩ : ∃ r, stepF x (now + x.wait) sent s.2 = r := ⟨_, rfl⟩
    have HR := kp hr
    have HRO := kp (show (∀ m ∈ r.2.1, m.length ≤ 100000) ∧ r.2.1.length ≤ 1 from by rw [← hr]; exact step_out x _ sent _)
    have HRS := kp (show 0 ≤ r.1.stage from by rw [← hr]; exact step_stage x _ sent HST0.out.2)
    have HS0 := kp (show 0 ≤ s.2.stage from HST0.out.2)
    clear hr hto
    generalize hb2 : (Code.block 2 _ : Code) = CB
    generalize h32 : (Code.region 32 _ _ : Code) = R32
    generalize h34 : (Code.region 34 _ _ : Code) = R34
    generalize h36 : (Code.region 36 _ _ : Code) = R36
    go_wp2_with (first | ((with_reducible refine isLd 57 ?_); (refine wpList_load_midG (by kernel_rfl) 57 _ rfl (b) (off + j * 23) rfl (cellsV x) _ (HEV.out) Try.underlying57 rfl (HZE.out) ?_); simp only [pA]) | ((with_reducible refine isAl 16 57 ?_); (refine L_alloc H rfl 57 rfl (cat (partsE ev0)) (fun _ _ => by kernel_rfl) ?_); clear H; intro g16 w16 HGg16 HEg16 H; simp only [pA]) | ((with_reducible refine isSt 57 ?_); refine L_sa H rfl rfl 57 _ _ rfl 0 rfl rfl (partsE x) rfl rfl (by kernel_rfl) ?_; clear H; intro w17 HWw17 H; simp only [szA] at H) | ((with_reducible refine isLd 5 ?_); (first | (refine L_f1 H rfl 5 _ rfl 0 rfl _ rfl _ rfl _ rfl Try.underlying5 rfl ?_) | (refine L_f1 H rfl 5 _ rfl 1 rfl _ rfl _ rfl _ rfl Try.underlying5 rfl ?_) | (refine L_f1 H rfl 5 _ rfl 2 rfl _ rfl _ rfl _ rfl Try.underlying5 rfl ?_) | (refine L_f1 H rfl 5 _ rfl 3 rfl _ rfl _ rfl _ rfl Try.underlying5 rfl ?_) | (refine L_f1 H rfl 5 _ rfl 4 rfl _ rfl _ rfl _ rfl Try.underlying5 rfl ?_) | (refine L_f1 H rfl 5 _ rfl 5 rfl _ rfl _ rfl _ rfl Try.underlying5 rfl ?_)); simp only [pA]) | ((with_reducible refine isLd 3 ?_); (first | (refine L_f1 H rfl 3 _ rfl 0 rfl _ rfl _ rfl _ rfl Try.underlying3 rfl ?_) | (refine L_f1 H rfl 3 _ rfl 1 rfl _ rfl _ rfl _ rfl Try.underlying3 rfl ?_) | (refine L_f1 H rfl 3 _ rfl 2 rfl _ rfl _ rfl _ rfl Try.underlying3 rfl ?_) | (refine L_f1 H rfl 3 _ rfl 3 rfl _ rfl _ rfl _ rfl Try.underlying3 rfl ?_) | (refine L_f1 H rfl 3 _ rfl 4 rfl _ rfl _ rfl _ rfl Try.underlying3 rfl ?_) | (refine L_f1 H rfl 3 _ rfl 5 rfl _ rfl _ rfl _ rfl Try.underlying3 rfl ?_)); simp only [pA]) | ((with_reducible refine isAl 18 32 ?_); (refine L_alloc H rfl 32 rfl (cat (partsF fw0)) (fun _ _ => by kernel_rfl) ?_); clear H; intro g18 w18 HGg18 HEg18 H; simp only [pA]) | ((with_reducible refine isAl 19 32 ?_); (refine L_alloc H rfl 32 rfl (cat (partsF fw0)) (fun _ _ => by kernel_rfl) ?_); clear H; intro g19 w19 HGg19 HEg19 H; simp only [pA]) | ((with_reducible refine isLd 57 ?_); refine L_fa H rfl 57 _ rfl 2 rfl rfl Try.underlying57 rfl (by kernel_rfl) ?_; simp only [pA]) | (go_at_call 23; have HC19 := kp ((((Chg.refl _).past HEg16.out HWw17.out (Nat.le_of_eq HGg16.out.symm)).ext HEg18.out).ext HEg19.out); have HL18a := kp (show g18 < w19.heap.size from H.out.lt 1 rfl); have HL19a := kp (show g19 < w19.heap.size from H.out.lt 0 rfl); refine (HMS.out _ HC19.out).mono ?_; rintro e wm ⟨u, rfl, hu1, hu2, hx⟩; have HU1 := kp hu1; have HU2 := kp hu2; clear hu1 hu2; replace H := kp (H.out.ext hx); have HXC := kp hx; clear hx; have HCW := kp (HC19.out.ext HXC.out); have HXM := HXC; clear HC19))
    obtain ⟨ua, un, uc, rfl, HUN⟩ : ∃ ua un uc, u = .slice ua un uc ∧ Kp (∀ b, msgF x sent = some b → un = b.length) := by
     cases hmo : msgF x sent with
     | none => exact ⟨none, 0, 0, HU2.out hmo, kp (fun b q => by cases q)⟩
     | some b =>
      obtain ⟨a1, a2, e⟩ := owns_form (HU1.out b hmo)
      exact ⟨a1, _, a2, e, kp (fun b2 q => by cases q; rfl)⟩
    have HMB := kp (fun b (hb : msgF x sent = some b) => msgF_len HSL.out hb)
    have HL18 := kp (Nat.lt_of_lt_of_le HL18a.out HXM.out.size)
    have HL19 := kp (Nat.lt_of_lt_of_le HL19a.out HXM.out.size)
    have HG18w := kp (show wr.heap.size ≤ g18 from by have q1 := HGg16.out; have q2 := HEg16.out.size; have q3 := HWw17.out.size; have q4 := HGg18.out; omega)
    have HG19w := kp (show wr.heap.size ≤ g19 from by have q1 := HG18w.out; have q2 := HGg19.out; have q3 := HEg18.out.size; have q4 := HGg18.out; omega)
    have HL12m := kp (show g12 < wm.heap.size from H.out.lt 3 rfl)
    have HL11m := kp (show g11 < wm.heap.size from H.out.lt 4 rfl)
    subst hb2
    refine wp_cut (20 :: 21 :: 22 :: 23 :: 150 :: 151 :: 152 :: 153 :: 154 :: 155 :: 156 :: 157 :: 158 :: 159 :: 160 :: 161 :: 162 :: 163 :: 164 :: 165 :: 166 :: 167 :: 168 :: 169 :: 170 :: 171 :: 172 :: 173 :: 174 :: 175 :: 176 :: 177 :: 178 :: 179 :: 180 :: 181 :: 182 :: 183 :: 184 :: 185 :: 186 :: 187 :: 188 :: 189 :: 190 :: 191 :: 192 :: 193 :: 194 :: 195 :: 196 :: 197 :: 198 :: 199 :: 200 :: 201 :: 202 :: 203 :: 204 :: 205 :: 206 :: 207 :: 208 :: 209 :: 210 :: 211 :: []) (FrC r x s w wr wm g19 g18 g16 g12 g11) ?_ ?_
    ·by_cases h0 : x.kind = 0
     ·have hk0 : (x.kind == 0) = true := by simp [h0]
      have HST := kp (show startF s.2 (now + x.wait) = r from by rw [← HR.out]; unfold stepF; rw [if_pos h0])
      have HCA := kp (fun W (_ : True) => by have := start_any s.2 (now + x.wait) W; rw [HST.out] at this; exact this)
      have HRA := kp (fun W (_ : True) => by have := rstart_any s.2 HS0.out (now + x.wait) W; rw [HST.out] at this; exact this)
      clear h0
      go_wp2_with (first | ((with_reducible refine isLd 32 ?_); refine L_fg H rfl 32 _ rfl 4 rfl _ rfl _ rfl (partsF s.2) rfl Try.underlying32 rfl (by kernel_rfl) ?_; simp only [pA]) | ((with_reducible refine isLd 32 ?_); refine L_fg H rfl 32 _ rfl 3 rfl _ rfl _ rfl (partsF s.2) rfl Try.underlying32 rfl (by kernel_rfl) ?_; simp only [pA]) | ((with_reducible refine isLd 5 ?_); (first | (refine L_f1 H rfl 5 _ rfl 0 rfl _ rfl _ rfl _ rfl Try.underlying5 rfl ?_) | (refine L_f1 H rfl 5 _ rfl 1 rfl _ rfl _ rfl _ rfl Try.underlying5 rfl ?_) | (refine L_f1 H rfl 5 _ rfl 2 rfl _ rfl _ rfl _ rfl Try.underlying5 rfl ?_) | (refine L_f1 H rfl 5 _ rfl 3 rfl _ rfl _ rfl _ rfl Try.underlying5 rfl ?_) | (refine L_f1 H rfl 5 _ rfl 4 rfl _ rfl _ rfl _ rfl Try.underlying5 rfl ?_) | (refine L_f1 H rfl 5 _ rfl 5 rfl _ rfl _ rfl _ rfl Try.underlying5 rfl ?_)); simp only [pA]) | ((with_reducible refine isSt 32 ?_); refine L_sa H rfl rfl 32 _ _ rfl 1 rfl rfl (partsF r.1) rfl rfl (by kernel_rfl) ?_; clear H; intro ws HWws H; simp only [ssA, szA] at H) | ((with_reducible refine isSt 32 ?_); refine L_sa H rfl rfl 32 _ _ rfl 0 rfl rfl (partsF r.1) rfl rfl (by kernel_rfl) ?_; clear H; intro wx HWwx H; simp only [szA] at H) | (go_at_call 10; refine (HCA.out _ trivial).mono ?_; rintro e wt ⟨v1, rfl, hs, hx⟩; have HSA := kp hs; have XT := kp hx; clear hs; replace H := kp (H.out.ext hx); have HXC := kp hx; clear hx) | (go_at_call 11; refine (HRA.out _ trivial).mono ?_; rintro e wu ⟨v2, rfl, hs, hx⟩; have HSR := kp hs; have XU := kp hx; clear hs; replace H := kp (H.out.ext hx); have HXC := kp hx; clear hx))
      have HWS := kp (Nat.le_trans XT.out.size (Nat.le_of_eq HWws.out.size.symm))
      exact CutP.of rfl (by kernel_rfl) ⟨rfl, rfl, kp (((HSA.out.out HWws.out.out (by intro z hz; rcases List.mem_singleton.1 hz with rfl; exact HL18.out)).ext XU.out).out HWwx.out.out (by intro z hz; rcases List.mem_singleton.1 hz with rfl; exact HL19.out)), kp ((HSR.out.out HWwx.out.out (by intro z hz; rcases List.mem_singleton.1 hz with rfl; exact Nat.lt_of_lt_of_le HL19.out HWS.out)).weak HWS.out), kp ((((HCW.out.ext XT.out).wrote HWws.out HG18w.out).ext XU.out).wrote HWwx.out HG19w.out), H⟩
     ·have hk0 : (x.kind == 0) = false := by simp [h0]
      cases hmo : msgF x sent with
      | none =>
       have HST := kp (show tickF s.2 (now + x.wait) = r from by rw [← HR.out]; unfold stepF; rw [if_neg h0, hmo])
       have HCA := kp (fun W (_ : True) => by have := tick_any s.2 (now + x.wait) W; rw [HST.out] at this; exact this)
       have HRA := kp (fun W (_ : True) => by have := rtick_any s.2 HS0.out (now + x.wait) W; rw [HST.out] at this; exact this)
       clear h0 hmo
       go_wp2_with (first | ((with_reducible refine isLd 32 ?_); refine L_fg H rfl 32 _ rfl 4 rfl _ rfl _ rfl (partsF s.2) rfl Try.underlying32 rfl (by kernel_rfl) ?_; simp only [pA]) | ((with_reducible refine isLd 32 ?_); refine L_fg H rfl 32 _ rfl 3 rfl _ rfl _ rfl (partsF s.2) rfl Try.underlying32 rfl (by kernel_rfl) ?_; simp only [pA]) | ((with_reducible refine isLd 5 ?_); (first | (refine L_f1 H rfl 5 _ rfl 0 rfl _ rfl _ rfl _ rfl Try.underlying5 rfl ?_) | (refine L_f1 H rfl 5 _ rfl 1 rfl _ rfl _ rfl _ rfl Try.underlying5 rfl ?_) | (refine L_f1 H rfl 5 _ rfl 2 rfl _ rfl _ rfl _ rfl Try.underlying5 rfl ?_) | (refine L_f1 H rfl 5 _ rfl 3 rfl _ rfl _ rfl _ rfl Try.underlying5 rfl ?_) | (refine L_f1 H rfl 5 _ rfl 4 rfl _ rfl _ rfl _ rfl Try.underlying5 rfl ?_) | (refine L_f1 H rfl 5 _ rfl 5 rfl _ rfl _ rfl _ rfl Try.underlying5 rfl ?_)); simp only [pA]) | ((with_reducible refine isSt 32 ?_); refine L_sa H rfl rfl 32 _ _ rfl 1 rfl rfl (partsF r.1) rfl rfl (by kernel_rfl) ?_; clear H; intro ws HWws H; simp only [ssA, szA] at H) | ((with_reducible refine isSt 32 ?_); refine L_sa H rfl rfl 32 _ _ rfl 0 rfl rfl (partsF r.1) rfl rfl (by kernel_rfl) ?_; clear H; intro wx HWwx H; simp only [szA] at H) | (go_at_call 13; refine (HCA.out _ trivial).mono ?_; rintro e wt ⟨v1, rfl, hs, hx⟩; have HSA := kp hs; have XT := kp hx; clear hs; replace H := kp (H.out.ext hx); have HXC := kp hx; clear hx) | (go_at_call 14; refine (HRA.out _ trivial).mono ?_; rintro e wu ⟨v2, rfl, hs, hx⟩; have HSR := kp hs; have XU := kp hx; clear hs; replace H := kp (H.out.ext hx); have HXC := kp hx; clear hx))
       have HWS := kp (Nat.le_trans XT.out.size (Nat.le_of_eq HWws.out.size.symm))
       exact CutP.of rfl (by kernel_rfl) ⟨rfl, rfl, kp (((HSA.out.out HWws.out.out (by intro z hz; rcases List.mem_singleton.1 hz with rfl; exact HL18.out)).ext XU.out).out HWwx.out.out (by intro z hz; rcases List.mem_singleton.1 hz with rfl; exact HL19.out)), kp ((HSR.out.out HWwx.out.out (by intro z hz; rcases List.mem_singleton.1 hz with rfl; exact Nat.lt_of_lt_of_le HL19.out HWS.out)).weak HWS.out), kp ((((HCW.out.ext XT.out).wrote HWws.out HG18w.out).ext XU.out).wrote HWwx.out HG19w.out), H⟩
      | some b =>
       have HST := kp (show handleF s.2 b (now + x.wait) = r from by rw [← HR.out]; unfold stepF; rw [if_neg h0, hmo])
       have HOU := kp (HU1.out b hmo)
       have HCA := kp (fun W (hx : Ext wm W) => by have := handle_own s.2 b (HMB.out b hmo) (now + x.wait) _ _ W (owns_ext HOU.out hx); rw [HST.out] at this; exact this)
       have HRA := kp (fun (W : World) (ho : W.ownsRow w19.heap.size 5 1 (.slice ua un uc) b.length (b.map V8)) => by have := rhandle_all s.2 HS0.out b (HMB.out b hmo) (now + x.wait) _ W (SlB.of_owns ho) (CapOk.of_owns ho); rw [HST.out] at this; exact this)
       clear h0 hmo
       go_wp2_with (first | ((with_reducible refine isLd 32 ?_); refine L_fg H rfl 32 _ rfl 4 rfl _ rfl _ rfl (partsF s.2) rfl Try.underlying32 rfl (by kernel_rfl) ?_; simp only [pA]) | ((with_reducible refine isLd 32 ?_); refine L_fg H rfl 32 _ rfl 3 rfl _ rfl _ rfl (partsF s.2) rfl Try.underlying32 rfl (by kernel_rfl) ?_; simp only [pA]) | ((with_reducible refine isLd 5 ?_); (first | (refine L_f1 H rfl 5 _ rfl 0 rfl _ rfl _ rfl _ rfl Try.underlying5 rfl ?_) | (refine L_f1 H rfl 5 _ rfl 1 rfl _ rfl _ rfl _ rfl Try.underlying5 rfl ?_) | (refine L_f1 H rfl 5 _ rfl 2 rfl _ rfl _ rfl _ rfl Try.underlying5 rfl ?_) | (refine L_f1 H rfl 5 _ rfl 3 rfl _ rfl _ rfl _ rfl Try.underlying5 rfl ?_) | (refine L_f1 H rfl 5 _ rfl 4 rfl _ rfl _ rfl _ rfl Try.underlying5 rfl ?_) | (refine L_f1 H rfl 5 _ rfl 5 rfl _ rfl _ rfl _ rfl Try.underlying5 rfl ?_)); simp only [pA]) | ((with_reducible refine isSt 32 ?_); refine L_sa H rfl rfl 32 _ _ rfl 1 rfl rfl (partsF r.1) rfl rfl (by kernel_rfl) ?_; clear H; intro ws HWws H; simp only [ssA, szA] at H) | ((with_reducible refine isSt 32 ?_); refine L_sa H rfl rfl 32 _ _ rfl 0 rfl rfl (partsF r.1) rfl rfl (by kernel_rfl) ?_; clear H; intro wx HWwx H; simp only [szA] at H) | (go_at_call 15; refine (HCA.out _ (Ext.refl _)).mono ?_; rintro e wt ⟨v1, rfl, hs, hx⟩; have HSA := kp hs; have XT := kp hx; clear hs; replace H := kp (H.out.ext hx); have HXC := kp hx; clear hx) | (go_at_call 16; refine (HRA.out _ (owns_wrote (owns_ext HOU.out XT.out) HWws.out HL18a.out)).mono ?_; rintro e wu ⟨v2, rfl, hs, hx⟩; have HSR := kp hs; have XU := kp hx; clear hs; replace H := kp (H.out.ext hx); have HXC := kp hx; clear hx))
       have HWS := kp (Nat.le_trans XT.out.size (Nat.le_of_eq HWws.out.size.symm))
       exact CutP.of rfl (by kernel_rfl) ⟨rfl, rfl, kp (((HSA.out.out HWws.out.out (by intro z hz; rcases List.mem_singleton.1 hz with rfl; exact HL18.out)).ext XU.out).out HWwx.out.out (by intro z hz; rcases List.mem_singleton.1 hz with rfl; exact HL19.out)), kp ((HSR.out.out HWwx.out.out (by intro z hz; rcases List.mem_singleton.1 hz with rfl; exact Nat.lt_of_lt_of_le HL19.out HWS.out)).weak HWS.out), kp ((((HCW.out.ext XT.out).wrote HWws.out HG18w.out).ext XU.out).wrote HWwx.out HG19w.out), H⟩
    clear H
    rintro vc W ⟨q22, q23, HSA, HSR, HC, H⟩
    simp only [putMany, List.setIfInBounds_toArray, List.set_cons_zero, List.set_cons_succ]
    go_wp2_with fail
    rw [q22, q23]
    clear q22 q23
    have H : Kp (Loc w W [(g19, 32, cat (partsF r.1)), (g18, 32, cat (partsF r.1)), (g16, 57, cat (partsE x)), (g12, 55, cat (parts2 s)), (g11, 55, cat (parts2 s))]) := H
    have x1 : (r.2.2 != r.2.2) = false := by simp
    subst h32
    go_wp2_with (first | ((with_reducible refine isLd 32 ?_); (first | (refine L_fa H rfl 32 _ rfl 0 rfl rfl Try.underlying32 rfl (by kernel_rfl) ?_) | (refine L_fa H rfl 32 _ rfl 1 rfl rfl Try.underlying32 rfl (by kernel_rfl) ?_) | (refine L_fa H rfl 32 _ rfl 2 rfl rfl Try.underlying32 rfl (by kernel_rfl) ?_) | (refine L_fa H rfl 32 _ rfl 3 rfl rfl Try.underlying32 rfl (by kernel_rfl) ?_) | (refine L_fa H rfl 32 _ rfl 4 rfl rfl Try.underlying32 rfl (by kernel_rfl) ?_) | (refine L_fa H rfl 32 _ rfl 5 rfl rfl Try.underlying32 rfl (by kernel_rfl) ?_)); simp only [pA]) | ((with_reducible show wpList _ _ _ (Oper.mk _ (Op.binOp _ 32 _ _ _) _ _ _ _ :: _) _ _); (first | refine wpList_eq2 rfl 32 _ _ _ rfl _ _ _ rfl rfl Try.eqGuardType32 (eqF_self _ _) ?_ | refine wpList_ne2 rfl 32 _ _ _ rfl _ _ _ rfl rfl Try.eqGuardType32 (eqF_self _ _) ?_); simp only [pA]) | (go_at_call 12; refine (rsame_any _ _ _ _ _ HRO.out.1 _ HSA.out HSR.out (by have := HRO.out.2; omega)).mono ?_; rintro e W2 ⟨rfl, hx⟩; have XS := kp hx; replace H := kp (H.out.ext hx); have HXC := kp hx; clear hx))
    have HS2 := kp (HS.out.chg (HC.out.ext XS.out))
    have HA2 := kp (HSA.out.ext XS.out)
    clear HS HSA HSR HC
    cases he : (r.2.2 == 0)
    ·have H2 := kp (Loc.tail (Loc.tail (Loc.tail H.out)))
     clear H
     have H := H2
     clear H2
     subst h34
     go_wp2_with fail
     have HSTN := HST0
     have HSLN := HSL
     have HSN := HS2
     exact LoopP.of rfl (by kernel_rfl) ⟨j + 1, s, sent, now + x.wait, by omega, by show Value.int .i64 _ = Value.int .i64 _; go_num, rfl, by omega, by omega, HSTN, HSLN, by (try rw [List.length_append]); have := HRO.out.2; omega, HSN, H⟩ (by simp [intOf]; omega)
    ·have HSTN := kp (show 0 ≤ (s.1, r.1).1.stage ∧ 0 ≤ (s.1, r.1).2.stage from ⟨HST0.out.1, HRS.out⟩)
     have HSLN := kp (show ∀ m ∈ sent ++ r.2.1, m.length ≤ 100000 from by intro m hm; rcases List.mem_append.1 hm with q | q; exact HSL.out m q; exact HRO.out.1 m q)
     subst h34
     go_wp2_with fail
     refine region_free H (tabS [(228, fun vQ _ => vQ = .int .i64 1), (229, fun vQ _ => vQ = .int .i64 1), (230, fun vQ _ => vQ = .agg (cat (partsF r.1)).toArray), (231, fun vQ _ => vQ = .agg (cat (partsF r.1)).toArray), (232, fun vQ _ => vQ = .pointer (some ⟨g11, 131, none⟩))]) [⟨5, 4, g11, 55, cat (parts2 s), cat (parts2 (s.1, r.1))⟩] (tabS_out _ _ (by simp only [List.forall_mem_cons, mono_eqO, true_and]; simp)) 6 (by kernel_rfl) (by kernel_rfl) (by kernel_rfl) (by kernel_rfl) [5] [4] rfl rfl (by decide) (by decide) (by decide) ⟨rfl, trivial⟩ ?_
     simp only [List.take_succ_cons, List.take_zero]
     refine ⟨fun w_ o_ S_ => ?_, fun v228 => ?_⟩
     ·clear S_
      clear o_
      go_wp2_with fail
      exact kso
     simp only [pA]
     refine ⟨fun w_ o_ S_ => ?_, fun v229 => ?_⟩
     ·clear S_
      clear o_
      go_wp2_with fail
      exact kso
     simp only [pA]
     refine ⟨fun w_ o_ S_ => ?_, fun v230 => ?_⟩
     ·clear S_
      have H := kp (H.out.keep [0, 1, 2, 3] (St := [⟨5, 4, g11, 55, cat (parts2 s), cat (parts2 (s.1, r.1))⟩]) ⟨rfl, trivial⟩ o_ (by decide) (by kernel_rfl))
      have HOX := kp o_
      clear o_
      go_wp2_with ((with_reducible refine isLd 32 ?_); refine L_fa H rfl 32 _ rfl 1 rfl rfl Try.underlying32 rfl (by kernel_rfl) ?_; simp only [pA])
      exact kso
     simp only [pA]
     refine ⟨fun w_ o_ S_ => ?_, fun v231 => ?_⟩
     ·clear S_
      have H := kp (H.out.keep [0, 1, 2, 3] (St := [⟨5, 4, g11, 55, cat (parts2 s), cat (parts2 (s.1, r.1))⟩]) ⟨rfl, trivial⟩ o_ (by decide) (by kernel_rfl))
      have HOX := kp o_
      clear o_
      go_wp2_with ((with_reducible refine isLd 32 ?_); refine L_fa H rfl 32 _ rfl 0 rfl rfl Try.underlying32 rfl (by kernel_rfl) ?_; simp only [pA])
      exact kso
     simp only [pA]
     refine ⟨fun w_ o_ S_ => ?_, fun v232 => ?_⟩
     ·obtain rfl : v228 = .int .i64 1 := hsR S_ 228 rfl
      clear S_ o_
      go_wp2_with fail
      exact kso
     simp only [pA]
     refine ⟨⟨rfl, rfl, fun ws5 hos5 hSs5 hLs5 => ?_⟩, ?_⟩
     ·obtain rfl : v230 = .agg (cat (partsF r.1)).toArray := hSs5 230 (by decide) (by decide)
      obtain rfl : v232 = .pointer (some ⟨g11, 131, none⟩) := hSs5 232 (by decide) (by decide)
      exact run_stp 32 _ _ rfl _ rfl _ rfl 16 (partsF r.1) _ rfl (by kernel_rfl) rfl (by kernel_rfl) hLs5 rfl
     clear H
     intro W3 HOX H hfin
     obtain rfl : v228 = .int .i64 1 := hfin 228 (by decide)
     obtain rfl : v229 = .int .i64 1 := hfin 229 (by decide)
     obtain rfl : v230 = .agg (cat (partsF r.1)).toArray := hfin 230 (by decide)
     obtain rfl : v231 = .agg (cat (partsF r.1)).toArray := hfin 231 (by decide)
     obtain rfl : v232 = .pointer (some ⟨g11, 131, none⟩) := hfin 232 (by decide)
     clear hfin
     simp only [List.drop_succ_cons, List.drop_zero]
     simp only [applyS] at H
     go_wp2_with ((with_reducible refine isSt 32 ?_); refine L_sg H rfl rfl 32 _ _ rfl 3 rfl _ rfl _ rfl 16 (partsF r.1) rfl (by kernel_rfl) (by kernel_rfl) (parts2 (s.1, r.1)) (by kernel_rfl) ?_; clear H; intro W4 HWW4 H; simp only [ssA, szA] at H)
     have HS4 := kp ((HS2.out.out HOX.out (by intro z hz; rcases List.mem_singleton.1 hz with rfl; exact Nat.lt_succ_of_lt HB12.out)).out HWW4.out.out (by intro z hz; rcases List.mem_singleton.1 hz with rfl; exact Nat.lt_succ_self _))
     have HA4 := kp ((HA2.out.out HOX.out (by intro z hz; rcases List.mem_singleton.1 hz with rfl; exact HL11m.out)).out HWW4.out.out (by intro z hz; rcases List.mem_singleton.1 hz with rfl; exact HL12m.out))
     have HLC := kp (H.out.lt 3 rfl)
     have H2 := kp (Loc.tail (Loc.tail (Loc.tail H.out)))
     clear H HS2 HA2
     have H := H2
     clear H2
     subst h36
     go_wp2_with ((with_reducible show wpList _ _ _ (Oper.mk (some 236) _ _ _ _ _ :: _) _ _); refine L_appM H rfl _ _ rfl (g12 + 1) HB2.out HLC.out (by intro z hz; simp at hz; have := HB12.out; omega) _ sent rfl HS4.out _ r.2.1 wm.heap.size rfl HA4.out HL12m.out (by have := HRO.out.2; omega) ?_; clear H; intro vb wN HSN HGN H; simp only [pA])
     exact LoopP.of rfl (by kernel_rfl) ⟨j + 1, (s.1, r.1), (sent ++ r.2.1), now + x.wait, by omega, by show Value.int .i64 _ = Value.int .i64 _; go_num, rfl, by omega, by omega, HSTN, HSLN, by (try rw [List.length_append]); have := HRO.out.2; omega, HSN, H⟩ (by simp [intOf]; omega)
  ·obtain rfl : j = l.length := by omega
   go_wp2_with fail
   all_goals try (exfalso; omega)
   go_ret
   exact ⟨rfl, H.out.1⟩
end Go.Proofs.Ytibncchobkaaiaa
