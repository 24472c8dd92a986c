/- Texts of this proof, put together: Chk. -/
import Derived.Test.YtfecopfofkdnpaaS17
import Derived.Test.YtfecopfofkdnpaaS1
namespace Go.Proofs.Ytfecopfofkdnpaa
open Go.RowKit
def chkF (a : As) (l : List En) : Int := if validA a l then 0 else 8
theorem chk_bad {a : As} {l : List En} (h : validA a l = false) : chkF a l = 8 := by simp [chkF, h]
theorem chk_good {a : As} {l : List En} (h : validA a l = true) : chkF a l = 0 := by simp [chkF, h]
theorem bad_at {a : As} {l : List En} {j : Nat} (hj : j < l.length) (h : okAt a.own l j = false) : validA a l = false := by
 have : allAt a.own l = false := by
  rw [allAt, List.all_eq_false]
  exact ⟨j, List.mem_range.2 hj, by simp [h]⟩
 simp [validA, this]
theorem all_at {own : List (BitVec 8)} {l : List En} (h : ∀ k, k < l.length → okAt own l k = true) : allAt own l = true := by
 rw [allAt, List.all_eq_true]
 exact fun k hk => h k (List.mem_range.1 hk)
theorem ok_of {own : List (BitVec 8)} {l : List En} {j : Nat} {x : En} (hx : l[j]? = some x) : okAt own l j = (entF x && x.addr != own && ordAt l j && !(heldF (l.take j)).getD x.aid.toNat false) := by
 rw [okAt, enAt_some hx]
theorem held_set (l : List En) (j : Nat) (x : En) (h : l[j]? = some x) (m : Nat) (hm : x.aid = m) : ((heldF (l.take j)).map Value.bool).set m (.bool (x.state == 2)) = (heldF (l.take (j + 1))).map Value.bool := by
 rw [List.take_add_one, h, Option.toList_some, held_snoc, List.map_set, hm, Int.toNat_natCast]
set_option maxRecDepth 10000 in
set_option maxHeartbeats 6400000 in
theorem check_any (a : As) (ha : a.own.length = 6) (v : Value) (l : List En) (hl : ∀ x ∈ l, x.addr.length = 6) (hn : l.length ≤ 100000) (w : World) (hs : SlT 11 cellsE w v l) :
  Calls Try.prog 20 #[.agg (cellsA a v).toArray] w fun e w' => e = .returned (.int .i64 (chkF a l)) ∧ Ext w w' := by
 have HSL := kp hs
 have HLN := kp hn
 obtain ⟨ad, n, c, rfl, hnl, hcap, hat⟩ := hs
 have HAT := kp hat; have HNL := kp hnl; have HLK := kp hl; have H := kp (Loc.start w); have hn2 : n ≤ 100000 := by omega
 have HC6 := kp (cA6 (a := a) (.slice ad n c) ha)
 have HC7 := kp (cA7 (a := a) (.slice ad n c) ha)
 have HC8 := kp (cA8 (a := a) (.slice ad n c) ha)
 have HC9 := kp (cA9 (a := a) (.slice ad n c) ha)
 have HOW := kp (cellsA_own (a := a) (.slice ad n c) ha)
 have HZO6 := kp (sizeA8 ha)
 have HZA := kp (sizeAs (a := a) (.slice ad n c) ha)
 have HOL := kp ha
 have HGR := kp (group_any a.own ha)
 have HWI := kp within_any
 have HZE0 := kp (show (Try.prog.info? 39).map (·.size) = some (cellsE en0).length by kernel_rfl)
 have HZb := kp (show (Try.prog.info? 4).map (·.size) = some 1 by kernel_rfl)
 have HOE := kp one_cellsE
 have HME := kp (fun w' hx => members_any a ha (.slice ad n c) l hl hn w' (HSL.out.ext hx))
 have HHF := kp (show headF a l.length = (!groupF a.own && inF a.caps 0 65535 && inF a.limit 1 255 && inF a.idle 1 1073741824 && decide (l.length ≤ 64)) from rfl)
 have HVA := kp (show validA a l = (headF a l.length && allAt a.own l && decide ((membersF l : Int) ≤ a.limit)) from rfl)
 clear hat hl hnl hcap hn ha
 go_enter Try.func20, Try.ntmps20
 generalize h1 : (Code.region 1 _ _ : Code) = R1
 go_wp2_with ((with_reducible refine isBx 1 26 ?_); (with_reducible refine L_box H rfl 26 _ rfl (cellsA a (.slice ad n c)) rfl ?_); clear H; intro g1 w1 HGg1 HEg1 H; simp only [pA])
 subst h1
 refine wp_cut [6, 7, 8, 9, 10, 11, 12, 13, 14, 15, 16, 17, 18, 19, 20, 21, 22, 23, 24, 25, 26, 27, 28, 29, 30, 31, 32] (fun vs w' => Kp (Loc w w' [(g1, 26, cellsA a (.slice ad n c))]) ∧ vs 32 = .bool (!headF a l.length)) ?_ ?_
 ·rw [HHF.out, ← HNL.out]
  have hc6 := run_load_cell H.out 0 rfl _ _ HC6.out; have hc7 := run_load_cell H.out 0 rfl _ _ HC7.out; have hc8 := run_load_cell H.out 0 rfl _ _ HC8.out; have hc9 := run_load_cell H.out 0 rfl _ _ HC9.out
  generalize groupF a.own = b1 at *
  generalize hb2 : inF a.caps 0 65535 = b2 at *
  generalize hb3 : inF a.limit 1 255 = b3 at *
  generalize hb4 : inF a.idle 1 1073741824 = b4 at *
  have H22 := kp (HWI.out a.caps 0 65535)
  have H33 := kp (HWI.out a.limit 1 255)
  have H44 := kp (HWI.out a.idle 1 1073741824)
  rw [hb2] at H22
  rw [hb3] at H33
  rw [hb4] at H44
  clear hb2 hb3 hb4
  go_wp2_with (first | ((with_reducible refine isLd 23 ?_); (refine L_subG H (by kernel_rfl) 23 _ rfl 0 rfl (0) rfl (a.own.map V8) (HOW.out) Try.underlying23 rfl (HZO6.out) ?_); simp only [pA]) | (go_at_call 51; refine (HGR.out _).mono ?_; rintro e wa ⟨rfl, hx⟩; replace H := kp (H.out.ext hx); have HXC := kp hx; clear hx; have hc6 := run_load_cell H.out 0 rfl _ _ HC6.out; have hc7 := run_load_cell H.out 0 rfl _ _ HC7.out; have hc8 := run_load_cell H.out 0 rfl _ _ HC8.out; have hc9 := run_load_cell H.out 0 rfl _ _ HC9.out) | (go_at_call 52; (first | with_reducible refine (H22.out _).mono ?_ | with_reducible refine (H33.out _).mono ?_ | with_reducible refine (H44.out _).mono ?_); rintro e wa ⟨rfl, hx⟩; replace H := kp (H.out.ext hx); have HXC := kp hx; clear hx; have hc6 := run_load_cell H.out 0 rfl _ _ HC6.out; have hc7 := run_load_cell H.out 0 rfl _ _ HC7.out; have hc8 := run_load_cell H.out 0 rfl _ _ HC8.out; have hc9 := run_load_cell H.out 0 rfl _ _ HC9.out))
  all_goals exact CutP.of rfl (by kernel_rfl) ⟨H, congrArg Value.bool (by first | (simp [*]; done) | (simp [*]; refine Bool.eq_iff_iff.2 ?_; simp; done) | (simp [*]; refine Bool.eq_iff_iff.2 ?_; simp; omega))⟩
 rintro vs w2 ⟨H, e32⟩
 simp only [putMany, List.setIfInBounds_toArray, List.set_cons_zero, List.set_cons_succ]
 rw [e32]
 clear e32
 cases hh : headF a l.length with
 | false =>
  have HK := kp (chk_bad (show validA a l = false by rw [HVA.out, hh]; rfl))
  clear hh
  go_wp2_with fail
  go_ret
  exact ⟨congrArg (fun z => Ending.returned (.int .i64 z)) HK.out.symm, H.out.1⟩
 | true =>
  have HHH := kp hh
  clear hh
  have hc9 := run_load_cell H.out 0 rfl _ _ HC9.out
  go_wp2_with (((with_reducible refine isAl 3 66 ?_); (with_reducible refine L_alloc H rfl 66 rfl ((List.replicate 256 false).map Value.bool) (fun _ _ => by kernel_rfl) ?_); clear H; intro g3 w3 HGg3 HEg3 H; simp only [pA]); have hc9 := run_load_cell H.out 1 rfl _ _ HC9.out)
  clear hc9
  go_loopw [36] (fun i wr => ∃ j : Nat, j ≤ n ∧ i = .int .i64 j ∧ Kp (∀ k, k < j → okAt a.own l k = true) ∧ Kp (Loc w wr [(g3, 66, (heldF (l.take j)).map Value.bool), (g1, 26, cellsA a (.slice ad n c))])) (fun i _ => n - (intOf i).toNat)
  case atStart => exact ⟨0, by omega, rfl, kp (fun k hk => by omega), by rw [List.take_zero, held_nil]; exact H⟩
  case round =>
   obtain ⟨j, hj, rfl, HT, H⟩ := hrel
   by_cases hlt : j < n
   ·obtain ⟨x, hx⟩ : ∃ x, l[j]? = some x := ⟨l[j]'(by rw [← HNL.out]; omega), by simp⟩
    obtain ⟨b, off, rfl, hb, hr⟩ := HAT.out j x hx; have HB := kp hb; have HR := kp hr; have HX := kp hx; have HXK := kp (HLK.out x (List.mem_of_getElem? hx)); clear hb hr hx
    have HR3 := kp (rangeAt_ext HR.out HB.out H.out.1)
    have HZX := kp (sizeE HXK.out)
    have HZXa := kp (sizeEa HXK.out)
    have HLE := kp (show (cellsE en0).length = (cellsE x).length by rw [cellsE_len HXK.out]; rfl)
    have HPX := kp (cE0 HXK.out)
    have HZX6 := kp (sizeA8 HXK.out)
    have H6 := kp (cE6 HXK.out)
    have HCE := kp (checkEntry_any x HXK.out)
    have HJL := kp (show j < l.length by rw [← HNL.out]; exact hlt)
    have heq := fun w => eqAddr x.addr a.own HXK.out HOL.out w
    generalize hr7 : ((Code.region 7 _ _ : Code).seq _) = C7
    go_wp2_with (first | ((with_reducible refine isLd 39 ?_); (refine wpList_load_midG (by kernel_rfl) 39 _ rfl (b) (off + j * 11) rfl (cellsE x) _ (HR3.out) Try.underlying39 rfl (HZX.out) ?_); simp only [pA]) | ((with_reducible refine isAl 5 39 ?_); (with_reducible refine L_alloc H rfl 39 rfl (cellsE en0) (fun _ _ => by kernel_rfl) ?_); clear H; intro g5 w5 HGg5 HEg5 H; simp only [pA]) | ((with_reducible refine isSt 39 ?_); (refine L_store H rfl rfl 39 _ _ rfl 0 rfl rfl (cellsE x) rfl (HZXa.out) (HLE.out) (HOE.out _) ?_; clear H; intro w6 HWw6 H; simp only [szA] at H)))
    subst hr7
    go_wp2_with fail
    cases he : entF x with
    | false =>
     have HE := kp he
     rw [he] at HCE
     clear he
     refine region_free H (tabS [(41, fun vQ _ => vQ = .agg (cellsE x).toArray), (42, fun vQ _ => vQ = .bool false), (43, fun vQ _ => vQ = .bool true), (44, fun vQ _ => vQ = .bool true), (45, fun vQ _ => vQ = undef), (46, fun vQ _ => vQ = undef), (47, fun vQ _ => vQ = undef), (48, fun vQ _ => vQ = undef), (49, fun vQ _ => vQ = undef), (50, fun vQ _ => vQ = .bool true), (51, fun vQ _ => vQ = .bool true), (52, fun vQ _ => vQ = undef), (53, fun vQ _ => vQ = undef), (54, fun vQ _ => vQ = undef), (55, fun vQ _ => vQ = undef), (56, fun vQ _ => vQ = undef), (57, fun vQ _ => vQ = undef), (58, fun vQ _ => vQ = undef), (59, fun vQ _ => vQ = undef), (60, fun vQ _ => vQ = undef), (61, fun vQ _ => vQ = undef), (62, fun vQ _ => vQ = undef), (63, fun vQ _ => vQ = undef), (64, fun vQ _ => vQ = undef), (65, fun vQ _ => vQ = undef), (66, fun vQ _ => vQ = undef), (67, fun vQ _ => vQ = .bool true), (68, fun vQ _ => vQ = .bool true), (69, fun vQ _ => vQ = undef), (70, fun vQ _ => vQ = undef), (71, fun vQ _ => vQ = undef), (72, fun vQ _ => vQ = undef), (73, fun vQ _ => vQ = .bool true)]) [] (tabS_out _ _ (by simp only [List.forall_mem_cons, mono_eqO, true_and]; simp)) 33 (by kernel_rfl) (by kernel_rfl) (by kernel_rfl) (by kernel_rfl) [] [] rfl rfl (by decide) (by decide) (by decide) trivial ?_
     simp only [List.take_succ_cons, List.take_zero]
     refine ⟨fun w_ o_ S_ => ?_, fun v41 => ?_⟩
     ·clear S_
      have H := kp (kK [0, 1, 2] H o_)
      have HOX := kp o_
      clear o_
      go_wp2_with ((with_reducible refine isLd 39 ?_); (refine L_load H rfl 39 _ rfl 0 rfl rfl Try.underlying39 rfl (HZXa.out) ?_); simp only [pA])
      exact kso
     simp only [pA]
     refine ⟨fun w_ o_ S_ => ?_, fun v42 => ?_⟩
     ·obtain rfl : v41 = .agg (cellsE x).toArray := hsR S_ 41 rfl
      clear S_
      have H := kp (kK [0, 1, 2] H o_)
      have HOX := kp o_
      clear o_
      go_wp2_with fail
      refine (HCE.out _).mono ?_
      rintro e w2 ⟨rfl, hx⟩
      have HXW := kp hx
      clear hx
      go_wp2_with fail
      exact ⟨rfl, _, rfl, fun d hd => by cases hd; exact rfl, HXW.out⟩
     simp only [pA]
     refine ⟨fun w_ o_ S_ => ?_, fun v43 => ?_⟩
     ·obtain rfl : v42 = .bool false := hsR S_ 42 rfl
      clear S_ o_
      go_wp2_with fail
      exact kso
     simp only [pA]
     refine ⟨fun w_ o_ S_ => ?_, fun v44 => ?_⟩
     ·obtain rfl : v43 = .bool true := hsR S_ 43 rfl
      clear S_ o_
      go_wp2_with fail
      exact kso
     simp only [pA]
     refine ⟨fun w_ o_ S_ => ?_, fun v45 => ?_⟩
     ·obtain rfl : v44 = .bool true := hsR S_ 44 rfl
      clear S_ o_
      go_wp2_with fail
      exact kso
     simp only [pA]
     refine ⟨fun w_ o_ S_ => ?_, fun v46 => ?_⟩
     ·obtain rfl : v44 = .bool true := hsR S_ 44 rfl
      clear S_ o_
      go_wp2_with fail
      exact kso
     simp only [pA]
     refine ⟨fun w_ o_ S_ => ?_, fun v47 => ?_⟩
     ·obtain rfl : v44 = .bool true := hsR S_ 44 rfl
      clear S_ o_
      go_wp2_with fail
      exact kso
     simp only [pA]
     refine ⟨fun w_ o_ S_ => ?_, fun v48 => ?_⟩
     ·obtain rfl : v44 = .bool true := hsR S_ 44 rfl
      clear S_ o_
      go_wp2_with fail
      exact kso
     simp only [pA]
     refine ⟨fun w_ o_ S_ => ?_, fun v49 => ?_⟩
     ·obtain rfl : v44 = .bool true := hsR S_ 44 rfl
      clear S_ o_
      go_wp2_with fail
      exact kso
     simp only [pA]
     refine ⟨fun w_ o_ S_ => ?_, fun v50 => ?_⟩
     ·obtain rfl : v44 = .bool true := hsR S_ 44 rfl
      obtain rfl : v49 = undef := hsR S_ 49 rfl
      clear S_ o_
      go_wp2_with fail
      exact kso
     simp only [pA]
     refine ⟨fun w_ o_ S_ => ?_, fun v51 => ?_⟩
     ·obtain rfl : v50 = .bool true := hsR S_ 50 rfl
      clear S_ o_
      go_wp2_with fail
      exact kso
     simp only [pA]
     refine ⟨fun w_ o_ S_ => ?_, fun v52 => ?_⟩
     ·obtain rfl : v51 = .bool true := hsR S_ 51 rfl
      clear S_ o_
      go_wp2_with fail
      exact kso
     simp only [pA]
     refine ⟨fun w_ o_ S_ => ?_, fun v53 => ?_⟩
     ·obtain rfl : v51 = .bool true := hsR S_ 51 rfl
      clear S_ o_
      go_wp2_with fail
      exact kso
     simp only [pA]
     refine ⟨fun w_ o_ S_ => ?_, fun v54 => ?_⟩
     ·obtain rfl : v51 = .bool true := hsR S_ 51 rfl
      clear S_ o_
      go_wp2_with fail
      exact kso
     simp only [pA]
     refine ⟨fun w_ o_ S_ => ?_, fun v55 => ?_⟩
     ·obtain rfl : v54 = undef := hsR S_ 54 rfl
      clear S_ o_
      go_wp2_with fail
      exact kso
     simp only [pA]
     refine ⟨fun w_ o_ S_ => ?_, fun v56 => ?_⟩
     ·obtain rfl : v54 = undef := hsR S_ 54 rfl
      clear S_ o_
      go_wp2_with fail
      exact kso
     simp only [pA]
     refine ⟨fun w_ o_ S_ => ?_, fun v57 => ?_⟩
     ·obtain rfl : v54 = undef := hsR S_ 54 rfl
      clear S_ o_
      go_wp2_with fail
      exact kso
     simp only [pA]
     refine ⟨fun w_ o_ S_ => ?_, fun v58 => ?_⟩
     ·obtain rfl : v54 = undef := hsR S_ 54 rfl
      clear S_ o_
      go_wp2_with fail
      exact kso
     simp only [pA]
     refine ⟨fun w_ o_ S_ => ?_, fun v59 => ?_⟩
     ·obtain rfl : v54 = undef := hsR S_ 54 rfl
      clear S_ o_
      go_wp2_with fail
      exact kso
     simp only [pA]
     refine ⟨fun w_ o_ S_ => ?_, fun v60 => ?_⟩
     ·obtain rfl : v54 = undef := hsR S_ 54 rfl
      clear S_ o_
      go_wp2_with fail
      exact kso
     simp only [pA]
     refine ⟨fun w_ o_ S_ => ?_, fun v61 => ?_⟩
     ·obtain rfl : v54 = undef := hsR S_ 54 rfl
      clear S_ o_
      go_wp2_with fail
      exact kso
     simp only [pA]
     refine ⟨fun w_ o_ S_ => ?_, fun v62 => ?_⟩
     ·obtain rfl : v54 = undef := hsR S_ 54 rfl
      clear S_ o_
      go_wp2_with fail
      exact kso
     simp only [pA]
     refine ⟨fun w_ o_ S_ => ?_, fun v63 => ?_⟩
     ·obtain rfl : v54 = undef := hsR S_ 54 rfl
      clear S_ o_
      go_wp2_with fail
      exact kso
     simp only [pA]
     refine ⟨fun w_ o_ S_ => ?_, fun v64 => ?_⟩
     ·obtain rfl : v54 = undef := hsR S_ 54 rfl
      clear S_ o_
      go_wp2_with fail
      exact kso
     simp only [pA]
     refine ⟨fun w_ o_ S_ => ?_, fun v65 => ?_⟩
     ·obtain rfl : v54 = undef := hsR S_ 54 rfl
      clear S_ o_
      go_wp2_with fail
      exact kso
     simp only [pA]
     refine ⟨fun w_ o_ S_ => ?_, fun v66 => ?_⟩
     ·obtain rfl : v51 = .bool true := hsR S_ 51 rfl
      clear S_ o_
      go_wp2_with fail
      exact kso
     simp only [pA]
     refine ⟨fun w_ o_ S_ => ?_, fun v67 => ?_⟩
     ·obtain rfl : v51 = .bool true := hsR S_ 51 rfl
      obtain rfl : v66 = undef := hsR S_ 66 rfl
      clear S_ o_
      go_wp2_with fail
      exact kso
     simp only [pA]
     refine ⟨fun w_ o_ S_ => ?_, fun v68 => ?_⟩
     ·obtain rfl : v67 = .bool true := hsR S_ 67 rfl
      clear S_ o_
      go_wp2_with fail
      exact kso
     simp only [pA]
     refine ⟨fun w_ o_ S_ => ?_, fun v69 => ?_⟩
     ·obtain rfl : v68 = .bool true := hsR S_ 68 rfl
      clear S_ o_
      go_wp2_with fail
      exact kso
     simp only [pA]
     refine ⟨fun w_ o_ S_ => ?_, fun v70 => ?_⟩
     ·obtain rfl : v68 = .bool true := hsR S_ 68 rfl
      clear S_ o_
      go_wp2_with fail
      exact kso
     simp only [pA]
     refine ⟨fun w_ o_ S_ => ?_, fun v71 => ?_⟩
     ·obtain rfl : v68 = .bool true := hsR S_ 68 rfl
      clear S_ o_
      go_wp2_with fail
      exact kso
     simp only [pA]
     refine ⟨fun w_ o_ S_ => ?_, fun v72 => ?_⟩
     ·obtain rfl : v68 = .bool true := hsR S_ 68 rfl
      clear S_ o_
      go_wp2_with fail
      exact kso
     simp only [pA]
     refine ⟨fun w_ o_ S_ => ?_, fun v73 => ?_⟩
     ·obtain rfl : v68 = .bool true := hsR S_ 68 rfl
      obtain rfl : v72 = undef := hsR S_ 72 rfl
      clear S_ o_
      go_wp2_with fail
      exact kso
     simp only [pA]
     clear H
     intro w7 HOX H hfin
     obtain rfl : v41 = .agg (cellsE x).toArray := hfin 41 (by decide)
     obtain rfl : v42 = .bool false := hfin 42 (by decide)
     obtain rfl : v43 = .bool true := hfin 43 (by decide)
     obtain rfl : v44 = .bool true := hfin 44 (by decide)
     obtain rfl : v45 = undef := hfin 45 (by decide)
     obtain rfl : v46 = undef := hfin 46 (by decide)
     obtain rfl : v47 = undef := hfin 47 (by decide)
     obtain rfl : v48 = undef := hfin 48 (by decide)
     obtain rfl : v49 = undef := hfin 49 (by decide)
     obtain rfl : v50 = .bool true := hfin 50 (by decide)
     obtain rfl : v51 = .bool true := hfin 51 (by decide)
     obtain rfl : v52 = undef := hfin 52 (by decide)
     obtain rfl : v53 = undef := hfin 53 (by decide)
     obtain rfl : v54 = undef := hfin 54 (by decide)
     obtain rfl : v55 = undef := hfin 55 (by decide)
     obtain rfl : v56 = undef := hfin 56 (by decide)
     obtain rfl : v57 = undef := hfin 57 (by decide)
     obtain rfl : v58 = undef := hfin 58 (by decide)
     obtain rfl : v59 = undef := hfin 59 (by decide)
     obtain rfl : v60 = undef := hfin 60 (by decide)
     obtain rfl : v61 = undef := hfin 61 (by decide)
     obtain rfl : v62 = undef := hfin 62 (by decide)
     obtain rfl : v63 = undef := hfin 63 (by decide)
     obtain rfl : v64 = undef := hfin 64 (by decide)
     obtain rfl : v65 = undef := hfin 65 (by decide)
     obtain rfl : v66 = undef := hfin 66 (by decide)
     obtain rfl : v67 = .bool true := hfin 67 (by decide)
     obtain rfl : v68 = .bool true := hfin 68 (by decide)
     obtain rfl : v69 = undef := hfin 69 (by decide)
     obtain rfl : v70 = undef := hfin 70 (by decide)
     obtain rfl : v71 = undef := hfin 71 (by decide)
     obtain rfl : v72 = undef := hfin 72 (by decide)
     obtain rfl : v73 = .bool true := hfin 73 (by decide)
     clear hfin
     simp only [List.drop_succ_cons, List.drop_zero]
     simp only [applyS] at H
     have HXN := kp (HOX.out.ext (Ext.refl w6) (fun g hg => by cases hg))
     go_wp2_with fail
     go_ret
     exact ⟨congrArg (fun z => Ending.returned (.int .i64 z)) (chk_bad (bad_at HJL.out (by rw [ok_of HX.out, HE.out]; rfl))).symm, H.out.1⟩
    | true =>
     have HE := kp he
     rw [he] at HCE
     obtain ⟨m, HAM⟩ : ∃ m : Nat, Kp (x.aid = m) := ⟨x.aid.toNat, kp (by have := ent_cases he; omega)⟩
     have HM5 := kp (show m < 256 by have := ent_cases he; have := HAM.out; omega)
     have H7 := kp (show (cellsE x)[7]? = some (.int .i64 m) by rw [cE7 HXK.out, HAM.out])
     clear he
     have hm5 := HM5.out
     cases ho : (x.addr == a.own) with
     | true =>
      rw [ho] at heq
      have HO := kp ho
      clear ho
      refine region_free H (tabS [(41, fun vQ _ => vQ = .agg (cellsE x).toArray), (42, fun vQ _ => vQ = .bool true), (43, fun vQ _ => vQ = .bool false), (44, fun vQ _ => vQ = .bool false), (45, fun vQ _ => vQ = .pointer (some ⟨g5, 0, none⟩)), (46, fun vQ _ => vQ = .agg (x.addr.map V8).toArray), (47, fun vQ _ => vQ = .pointer (some ⟨g1, 0, none⟩)), (48, fun vQ _ => vQ = .agg (a.own.map V8).toArray), (49, fun vQ _ => vQ = .bool true), (50, fun vQ _ => vQ = .bool true), (51, fun vQ _ => vQ = .bool true), (52, fun vQ _ => vQ = undef), (53, fun vQ _ => vQ = undef), (54, fun vQ _ => vQ = undef), (55, fun vQ _ => vQ = undef), (56, fun vQ _ => vQ = undef), (57, fun vQ _ => vQ = undef), (58, fun vQ _ => vQ = undef), (59, fun vQ _ => vQ = undef), (60, fun vQ _ => vQ = undef), (61, fun vQ _ => vQ = undef), (62, fun vQ _ => vQ = undef), (63, fun vQ _ => vQ = undef), (64, fun vQ _ => vQ = undef), (65, fun vQ _ => vQ = undef), (66, fun vQ _ => vQ = undef), (67, fun vQ _ => vQ = .bool true), (68, fun vQ _ => vQ = .bool true), (69, fun vQ _ => vQ = undef), (70, fun vQ _ => vQ = undef), (71, fun vQ _ => vQ = undef), (72, fun vQ _ => vQ = undef), (73, fun vQ _ => vQ = .bool true)]) [] (tabS_out _ _ (by simp only [List.forall_mem_cons, mono_eqO, true_and]; simp)) 33 (by kernel_rfl) (by kernel_rfl) (by kernel_rfl) (by kernel_rfl) [] [] rfl rfl (by decide) (by decide) (by decide) trivial ?_
      simp only [List.take_succ_cons, List.take_zero]
      refine ⟨fun w_ o_ S_ => ?_, fun v41 => ?_⟩
      ·clear S_
       have H := kp (kK [0, 1, 2] H o_)
       have HOX := kp o_
       clear o_
       go_wp2_with ((with_reducible refine isLd 39 ?_); (refine L_load H rfl 39 _ rfl 0 rfl rfl Try.underlying39 rfl (HZXa.out) ?_); simp only [pA])
       exact kso
      simp only [pA]
      refine ⟨fun w_ o_ S_ => ?_, fun v42 => ?_⟩
      ·obtain rfl : v41 = .agg (cellsE x).toArray := hsR S_ 41 rfl
       clear S_
       have H := kp (kK [0, 1, 2] H o_)
       have HOX := kp o_
       clear o_
       go_wp2_with fail
       refine (HCE.out _).mono ?_
       rintro e w2 ⟨rfl, hx⟩
       have HXW := kp hx
       clear hx
       go_wp2_with fail
       exact ⟨rfl, _, rfl, fun d hd => by cases hd; exact rfl, HXW.out⟩
      simp only [pA]
      refine ⟨fun w_ o_ S_ => ?_, fun v43 => ?_⟩
      ·obtain rfl : v42 = .bool true := hsR S_ 42 rfl
       clear S_ o_
       go_wp2_with fail
       exact kso
      simp only [pA]
      refine ⟨fun w_ o_ S_ => ?_, fun v44 => ?_⟩
      ·obtain rfl : v43 = .bool false := hsR S_ 43 rfl
       clear S_ o_
       go_wp2_with fail
       exact kso
      simp only [pA]
      refine ⟨fun w_ o_ S_ => ?_, fun v45 => ?_⟩
      ·obtain rfl : v44 = .bool false := hsR S_ 44 rfl
       clear S_ o_
       go_wp2_with fail
       exact kso
      simp only [pA]
      refine ⟨fun w_ o_ S_ => ?_, fun v46 => ?_⟩
      ·obtain rfl : v44 = .bool false := hsR S_ 44 rfl
       obtain rfl : v45 = .pointer (some ⟨g5, 0, none⟩) := hsR S_ 45 rfl
       clear S_
       have H := kp (kK [0, 1, 2] H o_)
       have HOX := kp o_
       clear o_
       go_wp2_with ((with_reducible refine isLd 23 ?_); (refine L_subG H (by kernel_rfl) 23 _ rfl 0 rfl (0) rfl (x.addr.map V8) (HPX.out) Try.underlying23 rfl (HZX6.out) ?_); simp only [pA])
       exact kso
      simp only [pA]
      refine ⟨fun w_ o_ S_ => ?_, fun v47 => ?_⟩
      ·obtain rfl : v44 = .bool false := hsR S_ 44 rfl
       clear S_ o_
       go_wp2_with fail
       exact kso
      simp only [pA]
      refine ⟨fun w_ o_ S_ => ?_, fun v48 => ?_⟩
      ·obtain rfl : v44 = .bool false := hsR S_ 44 rfl
       obtain rfl : v47 = .pointer (some ⟨g1, 0, none⟩) := hsR S_ 47 rfl
       clear S_
       have H := kp (kK [0, 1, 2] H o_)
       have HOX := kp o_
       clear o_
       go_wp2_with ((with_reducible refine isLd 23 ?_); (refine L_subG H (by kernel_rfl) 23 _ rfl 2 rfl (0) rfl (a.own.map V8) (HOW.out) Try.underlying23 rfl (HZO6.out) ?_); simp only [pA])
       exact kso
      simp only [pA]
      refine ⟨fun w_ o_ S_ => ?_, fun v49 => ?_⟩
      ·obtain rfl : v44 = .bool false := hsR S_ 44 rfl
       obtain rfl : v46 = .agg (x.addr.map V8).toArray := hsR S_ 46 rfl
       obtain rfl : v48 = .agg (a.own.map V8).toArray := hsR S_ 48 rfl
       clear S_ o_
       go_wp2_with fail
       exact kso
      simp only [pA]
      refine ⟨fun w_ o_ S_ => ?_, fun v50 => ?_⟩
      ·obtain rfl : v44 = .bool false := hsR S_ 44 rfl
       obtain rfl : v49 = .bool true := hsR S_ 49 rfl
       clear S_ o_
       go_wp2_with fail
       exact kso
      simp only [pA]
      refine ⟨fun w_ o_ S_ => ?_, fun v51 => ?_⟩
      ·obtain rfl : v50 = .bool true := hsR S_ 50 rfl
       clear S_ o_
       go_wp2_with fail
       exact kso
      simp only [pA]
      refine ⟨fun w_ o_ S_ => ?_, fun v52 => ?_⟩
      ·obtain rfl : v51 = .bool true := hsR S_ 51 rfl
       clear S_ o_
       go_wp2_with fail
       exact kso
      simp only [pA]
      refine ⟨fun w_ o_ S_ => ?_, fun v53 => ?_⟩
      ·obtain rfl : v51 = .bool true := hsR S_ 51 rfl
       clear S_ o_
       go_wp2_with fail
       exact kso
      simp only [pA]
      refine ⟨fun w_ o_ S_ => ?_, fun v54 => ?_⟩
      ·obtain rfl : v51 = .bool true := hsR S_ 51 rfl
       clear S_ o_
       go_wp2_with fail
       exact kso
      simp only [pA]
      refine ⟨fun w_ o_ S_ => ?_, fun v55 => ?_⟩
      ·obtain rfl : v54 = undef := hsR S_ 54 rfl
       clear S_ o_
       go_wp2_with fail
       exact kso
      simp only [pA]
      refine ⟨fun w_ o_ S_ => ?_, fun v56 => ?_⟩
      ·obtain rfl : v54 = undef := hsR S_ 54 rfl
       clear S_ o_
       go_wp2_with fail
       exact kso
      simp only [pA]
      refine ⟨fun w_ o_ S_ => ?_, fun v57 => ?_⟩
      ·obtain rfl : v54 = undef := hsR S_ 54 rfl
       clear S_ o_
       go_wp2_with fail
       exact kso
      simp only [pA]
      refine ⟨fun w_ o_ S_ => ?_, fun v58 => ?_⟩
      ·obtain rfl : v54 = undef := hsR S_ 54 rfl
       clear S_ o_
       go_wp2_with fail
       exact kso
      simp only [pA]
      refine ⟨fun w_ o_ S_ => ?_, fun v59 => ?_⟩
      ·obtain rfl : v54 = undef := hsR S_ 54 rfl
       clear S_ o_
       go_wp2_with fail
       exact kso
      simp only [pA]
      refine ⟨fun w_ o_ S_ => ?_, fun v60 => ?_⟩
      ·obtain rfl : v54 = undef := hsR S_ 54 rfl
       clear S_ o_
       go_wp2_with fail
       exact kso
      simp only [pA]
      refine ⟨fun w_ o_ S_ => ?_, fun v61 => ?_⟩
      ·obtain rfl : v54 = undef := hsR S_ 54 rfl
       clear S_ o_
       go_wp2_with fail
       exact kso
      simp only [pA]
      refine ⟨fun w_ o_ S_ => ?_, fun v62 => ?_⟩
      ·obtain rfl : v54 = undef := hsR S_ 54 rfl
       clear S_ o_
       go_wp2_with fail
       exact kso
      simp only [pA]
      refine ⟨fun w_ o_ S_ => ?_, fun v63 => ?_⟩
      ·obtain rfl : v54 = undef := hsR S_ 54 rfl
       clear S_ o_
       go_wp2_with fail
       exact kso
      simp only [pA]
      refine ⟨fun w_ o_ S_ => ?_, fun v64 => ?_⟩
      ·obtain rfl : v54 = undef := hsR S_ 54 rfl
       clear S_ o_
       go_wp2_with fail
       exact kso
      simp only [pA]
      refine ⟨fun w_ o_ S_ => ?_, fun v65 => ?_⟩
      ·obtain rfl : v54 = undef := hsR S_ 54 rfl
       clear S_ o_
       go_wp2_with fail
       exact kso
      simp only [pA]
      refine ⟨fun w_ o_ S_ => ?_, fun v66 => ?_⟩
      ·obtain rfl : v51 = .bool true := hsR S_ 51 rfl
       clear S_ o_
       go_wp2_with fail
       exact kso
      simp only [pA]
      refine ⟨fun w_ o_ S_ => ?_, fun v67 => ?_⟩
      ·obtain rfl : v51 = .bool true := hsR S_ 51 rfl
       obtain rfl : v66 = undef := hsR S_ 66 rfl
       clear S_ o_
       go_wp2_with fail
       exact kso
      simp only [pA]
      refine ⟨fun w_ o_ S_ => ?_, fun v68 => ?_⟩
      ·obtain rfl : v67 = .bool true := hsR S_ 67 rfl
       clear S_ o_
       go_wp2_with fail
       exact kso
      simp only [pA]
      refine ⟨fun w_ o_ S_ => ?_, fun v69 => ?_⟩
      ·obtain rfl : v68 = .bool true := hsR S_ 68 rfl
       clear S_ o_
       go_wp2_with fail
       exact kso
      simp only [pA]
      refine ⟨fun w_ o_ S_ => ?_, fun v70 => ?_⟩
      ·obtain rfl : v68 = .bool true := hsR S_ 68 rfl
       clear S_ o_
       go_wp2_with fail
       exact kso
      simp only [pA]
      refine ⟨fun w_ o_ S_ => ?_, fun v71 => ?_⟩
      ·obtain rfl : v68 = .bool true := hsR S_ 68 rfl
       clear S_ o_
       go_wp2_with fail
       exact kso
      simp only [pA]
      refine ⟨fun w_ o_ S_ => ?_, fun v72 => ?_⟩
      ·obtain rfl : v68 = .bool true := hsR S_ 68 rfl
       clear S_ o_
       go_wp2_with fail
       exact kso
      simp only [pA]
      refine ⟨fun w_ o_ S_ => ?_, fun v73 => ?_⟩
      ·obtain rfl : v68 = .bool true := hsR S_ 68 rfl
       obtain rfl : v72 = undef := hsR S_ 72 rfl
       clear S_ o_
       go_wp2_with fail
       exact kso
      simp only [pA]
      clear H
      intro w7 HOX H hfin
      obtain rfl : v41 = .agg (cellsE x).toArray := hfin 41 (by decide)
      obtain rfl : v42 = .bool true := hfin 42 (by decide)
      obtain rfl : v43 = .bool false := hfin 43 (by decide)
      obtain rfl : v44 = .bool false := hfin 44 (by decide)
      obtain rfl : v45 = .pointer (some ⟨g5, 0, none⟩) := hfin 45 (by decide)
      obtain rfl : v46 = .agg (x.addr.map V8).toArray := hfin 46 (by decide)
      obtain rfl : v47 = .pointer (some ⟨g1, 0, none⟩) := hfin 47 (by decide)
      obtain rfl : v48 = .agg (a.own.map V8).toArray := hfin 48 (by decide)
      obtain rfl : v49 = .bool true := hfin 49 (by decide)
      obtain rfl : v50 = .bool true := hfin 50 (by decide)
      obtain rfl : v51 = .bool true := hfin 51 (by decide)
      obtain rfl : v52 = undef := hfin 52 (by decide)
      obtain rfl : v53 = undef := hfin 53 (by decide)
      obtain rfl : v54 = undef := hfin 54 (by decide)
      obtain rfl : v55 = undef := hfin 55 (by decide)
      obtain rfl : v56 = undef := hfin 56 (by decide)
      obtain rfl : v57 = undef := hfin 57 (by decide)
      obtain rfl : v58 = undef := hfin 58 (by decide)
      obtain rfl : v59 = undef := hfin 59 (by decide)
      obtain rfl : v60 = undef := hfin 60 (by decide)
      obtain rfl : v61 = undef := hfin 61 (by decide)
      obtain rfl : v62 = undef := hfin 62 (by decide)
      obtain rfl : v63 = undef := hfin 63 (by decide)
      obtain rfl : v64 = undef := hfin 64 (by decide)
      obtain rfl : v65 = undef := hfin 65 (by decide)
      obtain rfl : v66 = undef := hfin 66 (by decide)
      obtain rfl : v67 = .bool true := hfin 67 (by decide)
      obtain rfl : v68 = .bool true := hfin 68 (by decide)
      obtain rfl : v69 = undef := hfin 69 (by decide)
      obtain rfl : v70 = undef := hfin 70 (by decide)
      obtain rfl : v71 = undef := hfin 71 (by decide)
      obtain rfl : v72 = undef := hfin 72 (by decide)
      obtain rfl : v73 = .bool true := hfin 73 (by decide)
      clear hfin
      simp only [List.drop_succ_cons, List.drop_zero]
      simp only [applyS] at H
      have HXN := kp (HOX.out.ext (Ext.refl w6) (fun g hg => by cases hg))
      go_wp2_with fail
      go_ret
      exact ⟨congrArg (fun z => Ending.returned (.int .i64 z)) (chk_bad (bad_at HJL.out (by rw [ok_of HX.out, bne, HO.out]; simp))).symm, H.out.1⟩
     | false =>
      rw [ho] at heq
      have HO := kp ho
      clear ho
      obtain ⟨bh, hbh⟩ : ∃ bh, (heldF (l.take j)).getD m false = bh := ⟨_, rfl⟩
      have HBG := kp hbh
      have HBH := kp (show ((heldF (l.take j)).map Value.bool)[m]? = some (.bool bh) by
       have h1 : m < (heldF (l.take j)).length := by rw [held_len]; exact HM5.out
       rw [← hbh, List.getElem?_map, List.getElem?_eq_getElem h1, List.getD_eq_getElem?_getD, List.getElem?_eq_getElem h1]; rfl)
      clear hbh
      have HFM := kp (show m < ((heldF (l.take j)).map Value.bool).length by rw [List.length_map, held_len]; exact HM5.out)
      have HHS := kp (held_set l j x HX.out m HAM.out)
      by_cases hj0 : j = 0
      ·subst hj0
       refine region_free H (tabS [(41, fun vQ _ => vQ = .agg (cellsE x).toArray), (42, fun vQ _ => vQ = .bool true), (43, fun vQ _ => vQ = .bool false), (44, fun vQ _ => vQ = .bool false), (45, fun vQ _ => vQ = .pointer (some ⟨g5, 0, none⟩)), (46, fun vQ _ => vQ = .agg (x.addr.map V8).toArray), (47, fun vQ _ => vQ = .pointer (some ⟨g1, 0, none⟩)), (48, fun vQ _ => vQ = .agg (a.own.map V8).toArray), (49, fun vQ _ => vQ = .bool false), (50, fun vQ _ => vQ = .bool false), (51, fun vQ _ => vQ = .bool false), (52, fun vQ _ => vQ = .int .i64 (0 : Nat)), (53, fun vQ _ => vQ = .bool false), (54, fun vQ _ => vQ = .bool false), (55, fun vQ _ => vQ = undef), (56, fun vQ _ => vQ = undef), (57, fun vQ _ => vQ = undef), (58, fun vQ _ => vQ = undef), (59, fun vQ _ => vQ = undef), (60, fun vQ _ => vQ = undef), (61, fun vQ _ => vQ = undef), (62, fun vQ _ => vQ = undef), (63, fun vQ _ => vQ = undef), (64, fun vQ _ => vQ = undef), (65, fun vQ _ => vQ = undef), (66, fun vQ _ => vQ = .bool false), (67, fun vQ _ => vQ = .bool false), (68, fun vQ _ => vQ = .bool false), (69, fun vQ _ => vQ = .pointer (some ⟨g5, 7, none⟩)), (70, fun vQ _ => vQ = .int .i64 m), (71, fun vQ _ => vQ = .pointer (some ⟨g3, m, none⟩)), (72, fun vQ _ => vQ = .bool bh), (73, fun vQ _ => vQ = .bool bh)]) [] (tabS_out _ _ (by simp only [List.forall_mem_cons, mono_eqO, true_and]; simp)) 33 (by kernel_rfl) (by kernel_rfl) (by kernel_rfl) (by kernel_rfl) [] [] rfl rfl (by decide) (by decide) (by decide) trivial ?_
       simp only [List.take_succ_cons, List.take_zero]
       refine ⟨fun w_ o_ S_ => ?_, fun v41 => ?_⟩
       ·clear S_
        have H := kp (kK [0, 1, 2] H o_)
        have HOX := kp o_
        clear o_
        go_wp2_with ((with_reducible refine isLd 39 ?_); (refine L_load H rfl 39 _ rfl 0 rfl rfl Try.underlying39 rfl (HZXa.out) ?_); simp only [pA])
        exact kso
       simp only [pA]
       refine ⟨fun w_ o_ S_ => ?_, fun v42 => ?_⟩
       ·obtain rfl : v41 = .agg (cellsE x).toArray := hsR S_ 41 rfl
        clear S_
        have H := kp (kK [0, 1, 2] H o_)
        have HOX := kp o_
        clear o_
        go_wp2_with fail
        refine (HCE.out _).mono ?_
        rintro e w2 ⟨rfl, hx⟩
        have HXW := kp hx
        clear hx
        go_wp2_with fail
        exact ⟨rfl, _, rfl, fun d hd => by cases hd; exact rfl, HXW.out⟩
       simp only [pA]
       refine ⟨fun w_ o_ S_ => ?_, fun v43 => ?_⟩
       ·obtain rfl : v42 = .bool true := hsR S_ 42 rfl
        clear S_ o_
        go_wp2_with fail
        exact kso
       simp only [pA]
       refine ⟨fun w_ o_ S_ => ?_, fun v44 => ?_⟩
       ·obtain rfl : v43 = .bool false := hsR S_ 43 rfl
        clear S_ o_
        go_wp2_with fail
        exact kso
       simp only [pA]
       refine ⟨fun w_ o_ S_ => ?_, fun v45 => ?_⟩
       ·obtain rfl : v44 = .bool false := hsR S_ 44 rfl
        clear S_ o_
        go_wp2_with fail
        exact kso
       simp only [pA]
       refine ⟨fun w_ o_ S_ => ?_, fun v46 => ?_⟩
       ·obtain rfl : v44 = .bool false := hsR S_ 44 rfl
        obtain rfl : v45 = .pointer (some ⟨g5, 0, none⟩) := hsR S_ 45 rfl
        clear S_
        have H := kp (kK [0, 1, 2] H o_)
        have HOX := kp o_
        clear o_
        go_wp2_with ((with_reducible refine isLd 23 ?_); (refine L_subG H (by kernel_rfl) 23 _ rfl 0 rfl (0) rfl (x.addr.map V8) (HPX.out) Try.underlying23 rfl (HZX6.out) ?_); simp only [pA])
        exact kso
       simp only [pA]
       refine ⟨fun w_ o_ S_ => ?_, fun v47 => ?_⟩
       ·obtain rfl : v44 = .bool false := hsR S_ 44 rfl
        clear S_ o_
        go_wp2_with fail
        exact kso
       simp only [pA]
       refine ⟨fun w_ o_ S_ => ?_, fun v48 => ?_⟩
       ·obtain rfl : v44 = .bool false := hsR S_ 44 rfl
        obtain rfl : v47 = .pointer (some ⟨g1, 0, none⟩) := hsR S_ 47 rfl
        clear S_
        have H := kp (kK [0, 1, 2] H o_)
        have HOX := kp o_
        clear o_
        go_wp2_with ((with_reducible refine isLd 23 ?_); (refine L_subG H (by kernel_rfl) 23 _ rfl 2 rfl (0) rfl (a.own.map V8) (HOW.out) Try.underlying23 rfl (HZO6.out) ?_); simp only [pA])
        exact kso
       simp only [pA]
       refine ⟨fun w_ o_ S_ => ?_, fun v49 => ?_⟩
       ·obtain rfl : v44 = .bool false := hsR S_ 44 rfl
        obtain rfl : v46 = .agg (x.addr.map V8).toArray := hsR S_ 46 rfl
        obtain rfl : v48 = .agg (a.own.map V8).toArray := hsR S_ 48 rfl
        clear S_ o_
        go_wp2_with fail
        exact kso
       simp only [pA]
       refine ⟨fun w_ o_ S_ => ?_, fun v50 => ?_⟩
       ·obtain rfl : v44 = .bool false := hsR S_ 44 rfl
        obtain rfl : v49 = .bool false := hsR S_ 49 rfl
        clear S_ o_
        go_wp2_with fail
        exact kso
       simp only [pA]
       refine ⟨fun w_ o_ S_ => ?_, fun v51 => ?_⟩
       ·obtain rfl : v50 = .bool false := hsR S_ 50 rfl
        clear S_ o_
        go_wp2_with fail
        exact kso
       simp only [pA]
       refine ⟨fun w_ o_ S_ => ?_, fun v52 => ?_⟩
       ·obtain rfl : v51 = .bool false := hsR S_ 51 rfl
        clear S_ o_
        go_wp2_with fail
        exact kso
       simp only [pA]
       refine ⟨fun w_ o_ S_ => ?_, fun v53 => ?_⟩
       ·obtain rfl : v51 = .bool false := hsR S_ 51 rfl
        obtain rfl : v52 = .int .i64 (0 : Nat) := hsR S_ 52 rfl
        clear S_ o_
        go_wp2_with fail
        exact kso
       simp only [pA]
       refine ⟨fun w_ o_ S_ => ?_, fun v54 => ?_⟩
       ·obtain rfl : v51 = .bool false := hsR S_ 51 rfl
        obtain rfl : v53 = .bool false := hsR S_ 53 rfl
        clear S_ o_
        go_wp2_with fail
        exact kso
       simp only [pA]
       refine ⟨fun w_ o_ S_ => ?_, fun v55 => ?_⟩
       ·obtain rfl : v54 = .bool false := hsR S_ 54 rfl
        clear S_ o_
        go_wp2_with fail
        exact kso
       simp only [pA]
       refine ⟨fun w_ o_ S_ => ?_, fun v56 => ?_⟩
       ·obtain rfl : v54 = .bool false := hsR S_ 54 rfl
        clear S_ o_
        go_wp2_with fail
        exact kso
       simp only [pA]
       refine ⟨fun w_ o_ S_ => ?_, fun v57 => ?_⟩
       ·obtain rfl : v54 = .bool false := hsR S_ 54 rfl
        clear S_ o_
        go_wp2_with fail
        exact kso
       simp only [pA]
       refine ⟨fun w_ o_ S_ => ?_, fun v58 => ?_⟩
       ·obtain rfl : v54 = .bool false := hsR S_ 54 rfl
        clear S_ o_
        go_wp2_with fail
        exact kso
       simp only [pA]
       refine ⟨fun w_ o_ S_ => ?_, fun v59 => ?_⟩
       ·obtain rfl : v54 = .bool false := hsR S_ 54 rfl
        clear S_ o_
        go_wp2_with fail
        exact kso
       simp only [pA]
       refine ⟨fun w_ o_ S_ => ?_, fun v60 => ?_⟩
       ·obtain rfl : v54 = .bool false := hsR S_ 54 rfl
        clear S_ o_
        go_wp2_with fail
        exact kso
       simp only [pA]
       refine ⟨fun w_ o_ S_ => ?_, fun v61 => ?_⟩
       ·obtain rfl : v54 = .bool false := hsR S_ 54 rfl
        clear S_ o_
        go_wp2_with fail
        exact kso
       simp only [pA]
       refine ⟨fun w_ o_ S_ => ?_, fun v62 => ?_⟩
       ·obtain rfl : v54 = .bool false := hsR S_ 54 rfl
        clear S_ o_
        go_wp2_with fail
        exact kso
       simp only [pA]
       refine ⟨fun w_ o_ S_ => ?_, fun v63 => ?_⟩
       ·obtain rfl : v54 = .bool false := hsR S_ 54 rfl
        clear S_ o_
        go_wp2_with fail
        exact kso
       simp only [pA]
       refine ⟨fun w_ o_ S_ => ?_, fun v64 => ?_⟩
       ·obtain rfl : v54 = .bool false := hsR S_ 54 rfl
        clear S_ o_
        go_wp2_with fail
        exact kso
       simp only [pA]
       refine ⟨fun w_ o_ S_ => ?_, fun v65 => ?_⟩
       ·obtain rfl : v54 = .bool false := hsR S_ 54 rfl
        clear S_ o_
        go_wp2_with fail
        exact kso
       simp only [pA]
       refine ⟨fun w_ o_ S_ => ?_, fun v66 => ?_⟩
       ·obtain rfl : v51 = .bool false := hsR S_ 51 rfl
        obtain rfl : v54 = .bool false := hsR S_ 54 rfl
        obtain rfl : v65 = undef := hsR S_ 65 rfl
        clear S_ o_
        go_wp2_with fail
        exact kso
       simp only [pA]
       refine ⟨fun w_ o_ S_ => ?_, fun v67 => ?_⟩
       ·obtain rfl : v51 = .bool false := hsR S_ 51 rfl
        obtain rfl : v66 = .bool false := hsR S_ 66 rfl
        clear S_ o_
        go_wp2_with fail
        exact kso
       simp only [pA]
       refine ⟨fun w_ o_ S_ => ?_, fun v68 => ?_⟩
       ·obtain rfl : v67 = .bool false := hsR S_ 67 rfl
        clear S_ o_
        go_wp2_with fail
        exact kso
       simp only [pA]
       refine ⟨fun w_ o_ S_ => ?_, fun v69 => ?_⟩
       ·obtain rfl : v68 = .bool false := hsR S_ 68 rfl
        clear S_ o_
        go_wp2_with fail
        exact kso
       simp only [pA]
       refine ⟨fun w_ o_ S_ => ?_, fun v70 => ?_⟩
       ·obtain rfl : v68 = .bool false := hsR S_ 68 rfl
        obtain rfl : v69 = .pointer (some ⟨g5, 7, none⟩) := hsR S_ 69 rfl
        clear S_
        have H := kp (kK [0, 1, 2] H o_)
        have HOX := kp o_
        clear o_
        have hc := run_load_cell H.out 0 rfl _ _ H7.out
        go_wp2_with fail
        exact kso
       simp only [pA]
       refine ⟨fun w_ o_ S_ => ?_, fun v71 => ?_⟩
       ·obtain rfl : v68 = .bool false := hsR S_ 68 rfl
        obtain rfl : v70 = .int .i64 m := hsR S_ 70 rfl
        clear S_ o_
        go_wp2_with fail
        exact kso
       simp only [pA]
       refine ⟨fun w_ o_ S_ => ?_, fun v72 => ?_⟩
       ·obtain rfl : v68 = .bool false := hsR S_ 68 rfl
        obtain rfl : v71 = .pointer (some ⟨g3, m, none⟩) := hsR S_ 71 rfl
        clear S_
        have H := kp (kK [0, 1, 2] H o_)
        have HOX := kp o_
        clear o_
        have hc := run_load_cell H.out 1 rfl _ _ HBH.out
        go_wp2_with fail
        exact kso
       simp only [pA]
       refine ⟨fun w_ o_ S_ => ?_, fun v73 => ?_⟩
       ·obtain rfl : v68 = .bool false := hsR S_ 68 rfl
        obtain rfl : v72 = .bool bh := hsR S_ 72 rfl
        clear S_ o_
        go_wp2_with fail
        exact kso
       simp only [pA]
       clear H
       intro w7 HOX H hfin
       obtain rfl : v41 = .agg (cellsE x).toArray := hfin 41 (by decide)
       obtain rfl : v42 = .bool true := hfin 42 (by decide)
       obtain rfl : v43 = .bool false := hfin 43 (by decide)
       obtain rfl : v44 = .bool false := hfin 44 (by decide)
       obtain rfl : v45 = .pointer (some ⟨g5, 0, none⟩) := hfin 45 (by decide)
       obtain rfl : v46 = .agg (x.addr.map V8).toArray := hfin 46 (by decide)
       obtain rfl : v47 = .pointer (some ⟨g1, 0, none⟩) := hfin 47 (by decide)
       obtain rfl : v48 = .agg (a.own.map V8).toArray := hfin 48 (by decide)
       obtain rfl : v49 = .bool false := hfin 49 (by decide)
       obtain rfl : v50 = .bool false := hfin 50 (by decide)
       obtain rfl : v51 = .bool false := hfin 51 (by decide)
       obtain rfl : v52 = .int .i64 (0 : Nat) := hfin 52 (by decide)
       obtain rfl : v53 = .bool false := hfin 53 (by decide)
       obtain rfl : v54 = .bool false := hfin 54 (by decide)
       obtain rfl : v55 = undef := hfin 55 (by decide)
       obtain rfl : v56 = undef := hfin 56 (by decide)
       obtain rfl : v57 = undef := hfin 57 (by decide)
       obtain rfl : v58 = undef := hfin 58 (by decide)
       obtain rfl : v59 = undef := hfin 59 (by decide)
       obtain rfl : v60 = undef := hfin 60 (by decide)
       obtain rfl : v61 = undef := hfin 61 (by decide)
       obtain rfl : v62 = undef := hfin 62 (by decide)
       obtain rfl : v63 = undef := hfin 63 (by decide)
       obtain rfl : v64 = undef := hfin 64 (by decide)
       obtain rfl : v65 = undef := hfin 65 (by decide)
       obtain rfl : v66 = .bool false := hfin 66 (by decide)
       obtain rfl : v67 = .bool false := hfin 67 (by decide)
       obtain rfl : v68 = .bool false := hfin 68 (by decide)
       obtain rfl : v69 = .pointer (some ⟨g5, 7, none⟩) := hfin 69 (by decide)
       obtain rfl : v70 = .int .i64 m := hfin 70 (by decide)
       obtain rfl : v71 = .pointer (some ⟨g3, m, none⟩) := hfin 71 (by decide)
       obtain rfl : v72 = .bool bh := hfin 72 (by decide)
       obtain rfl : v73 = .bool bh := hfin 73 (by decide)
       clear hfin
       simp only [List.drop_succ_cons, List.drop_zero]
       simp only [applyS] at H
       have HXN := kp (HOX.out.ext (Ext.refl w6) (fun g hg => by cases hg))
       cases bh with
       | true =>
        go_wp2_with fail
        go_ret
        exact ⟨congrArg (fun z => Ending.returned (.int .i64 z)) (chk_bad (bad_at HJL.out (by rw [ok_of HX.out, HAM.out, Int.toNat_natCast, HBG.out]; simp))).symm, H.out.1⟩
       | false =>
        have hc7 := run_load_cell H.out 0 rfl _ _ H7.out
        have hc6 := run_load_cell H.out 0 rfl _ _ H6.out
        go_wp2_with ((with_reducible refine isSt 4 ?_); (refine L_cell H rfl rfl 4 _ _ rfl 1 rfl (m) rfl (.bool (x.state == 2)) rfl (rfl) (HZb.out) (HFM.out) ((heldF (l.take (0 + 1))).map Value.bool) (HHS.out) ?_; clear H; intro wz HWwz H; simp only [ssA, szA] at H))
        go_roundw
        case rel => exact ⟨0 + 1, by omega, by go_num, kp (fun i hi => by
         rcases Nat.lt_succ_iff_lt_or_eq.1 hi with q | q
         ·exact HT.out i q
         ·subst q; rw [ok_of HX.out, HAM.out, Int.toNat_natCast, HBG.out]; (rw [HE.out, bne, HO.out]; rfl)), kp H.out.tl⟩
        case measure => simp [intOf]; omega
      ·obtain ⟨k, rfl⟩ : ∃ k, j = k + 1 := ⟨j - 1, by omega⟩
       obtain ⟨y, hy⟩ : ∃ y, l[k]? = some y := ⟨l[k]'(by have := HJL.out; omega), by simp⟩
       obtain ⟨b', off', hbb, hb', hr'⟩ := HAT.out k y hy
       cases hbb
       have HRY := kp (show w.rangeAt b (off + k * 11) (y.addr.map V8) from fun i v hv => hr' i v (by
        have h6 := HLK.out y (List.mem_of_getElem? hy)
        rw [cellsE, List.getElem?_append_left (by rw [List.length_map, h6]; have := (List.getElem?_eq_some_iff.1 hv).1; rw [List.length_map, h6] at this; exact this)]
        exact hv))
       have HYK := kp (HLK.out y (List.mem_of_getElem? hy))
       have HYA := kp (enAt_some hy)
       have HXA := kp (enAt_some HX.out)
       have HZY6 := kp (sizeA8 HYK.out)
       have HCM := kp (compareA_any y.addr x.addr HYK.out HXK.out)
       clear hy hb' hr' hj0
       cases hq : decide (0 ≤ cmpF y.addr x.addr) with
       | true =>
        have HQ := kp hq
        have HORD := kp (show ordAt l (k + 1) = false by
         rw [ordAt, HXA.out, show k + 1 - 1 = k from rfl, HYA.out]
         have := cmp_ge.1 (of_decide_eq_true hq)
         simp; omega)
        clear hq
        refine region_free H (tabS [(41, fun vQ _ => vQ = .agg (cellsE x).toArray), (42, fun vQ _ => vQ = .bool true), (43, fun vQ _ => vQ = .bool false), (44, fun vQ _ => vQ = .bool false), (45, fun vQ _ => vQ = .pointer (some ⟨g5, 0, none⟩)), (46, fun vQ _ => vQ = .agg (x.addr.map V8).toArray), (47, fun vQ _ => vQ = .pointer (some ⟨g1, 0, none⟩)), (48, fun vQ _ => vQ = .agg (a.own.map V8).toArray), (49, fun vQ _ => vQ = .bool false), (50, fun vQ _ => vQ = .bool false), (51, fun vQ _ => vQ = .bool false), (52, fun vQ _ => vQ = .int .i64 (k + 1 : Nat)), (53, fun vQ _ => vQ = .bool true), (54, fun vQ _ => vQ = .bool true), (55, fun vQ _ => vQ = .pointer (some ⟨g1, 9, none⟩)), (56, fun vQ _ => vQ = .slice (some ⟨b, off, none⟩) n c), (57, fun vQ _ => vQ = .int .i64 (k + 1 : Nat)), (58, fun vQ _ => vQ = .int .i64 k), (59, fun vQ _ => vQ = .pointer (some ⟨b, off + k * 11, none⟩)), (60, fun vQ _ => vQ = .pointer (some ⟨b, off + k * 11, none⟩)), (61, fun vQ _ => vQ = .agg (y.addr.map V8).toArray), (62, fun vQ _ => vQ = .pointer (some ⟨g5, 0, none⟩)), (63, fun vQ _ => vQ = .agg (x.addr.map V8).toArray), (64, fun vQ _ => vQ = .int .i64 (cmpF y.addr x.addr)), (65, fun vQ _ => vQ = .bool true), (66, fun vQ _ => vQ = .bool true), (67, fun vQ _ => vQ = .bool true), (68, fun vQ _ => vQ = .bool true), (69, fun vQ _ => vQ = undef), (70, fun vQ _ => vQ = undef), (71, fun vQ _ => vQ = undef), (72, fun vQ _ => vQ = undef), (73, fun vQ _ => vQ = .bool true)]) [] (tabS_out _ _ (by simp only [List.forall_mem_cons, mono_eqO, true_and]; simp)) 33 (by kernel_rfl) (by kernel_rfl) (by kernel_rfl) (by kernel_rfl) [] [] rfl rfl (by decide) (by decide) (by decide) trivial ?_
        simp only [List.take_succ_cons, List.take_zero]
        refine ⟨fun w_ o_ S_ => ?_, fun v41 => ?_⟩
        ·clear S_
         have H := kp (kK [0, 1, 2] H o_)
         have HOX := kp o_
         clear o_
         go_wp2_with ((with_reducible refine isLd 39 ?_); (refine L_load H rfl 39 _ rfl 0 rfl rfl Try.underlying39 rfl (HZXa.out) ?_); simp only [pA])
         exact kso
        simp only [pA]
        refine ⟨fun w_ o_ S_ => ?_, fun v42 => ?_⟩
        ·obtain rfl : v41 = .agg (cellsE x).toArray := hsR S_ 41 rfl
         clear S_
         have H := kp (kK [0, 1, 2] H o_)
         have HOX := kp o_
         clear o_
         go_wp2_with fail
         refine (HCE.out _).mono ?_
         rintro e w2 ⟨rfl, hx⟩
         have HXW := kp hx
         clear hx
         go_wp2_with fail
         exact ⟨rfl, _, rfl, fun d hd => by cases hd; exact rfl, HXW.out⟩
        simp only [pA]
        refine ⟨fun w_ o_ S_ => ?_, fun v43 => ?_⟩
        ·obtain rfl : v42 = .bool true := hsR S_ 42 rfl
         clear S_ o_
         go_wp2_with fail
         exact kso
        simp only [pA]
        refine ⟨fun w_ o_ S_ => ?_, fun v44 => ?_⟩
        ·obtain rfl : v43 = .bool false := hsR S_ 43 rfl
         clear S_ o_
         go_wp2_with fail
         exact kso
        simp only [pA]
        refine ⟨fun w_ o_ S_ => ?_, fun v45 => ?_⟩
        ·obtain rfl : v44 = .bool false := hsR S_ 44 rfl
         clear S_ o_
         go_wp2_with fail
         exact kso
        simp only [pA]
        refine ⟨fun w_ o_ S_ => ?_, fun v46 => ?_⟩
        ·obtain rfl : v44 = .bool false := hsR S_ 44 rfl
         obtain rfl : v45 = .pointer (some ⟨g5, 0, none⟩) := hsR S_ 45 rfl
         clear S_
         have H := kp (kK [0, 1, 2] H o_)
         have HOX := kp o_
         clear o_
         go_wp2_with ((with_reducible refine isLd 23 ?_); (refine L_subG H (by kernel_rfl) 23 _ rfl 0 rfl (0) rfl (x.addr.map V8) (HPX.out) Try.underlying23 rfl (HZX6.out) ?_); simp only [pA])
         exact kso
        simp only [pA]
        refine ⟨fun w_ o_ S_ => ?_, fun v47 => ?_⟩
        ·obtain rfl : v44 = .bool false := hsR S_ 44 rfl
         clear S_ o_
         go_wp2_with fail
         exact kso
        simp only [pA]
        refine ⟨fun w_ o_ S_ => ?_, fun v48 => ?_⟩
        ·obtain rfl : v44 = .bool false := hsR S_ 44 rfl
         obtain rfl : v47 = .pointer (some ⟨g1, 0, none⟩) := hsR S_ 47 rfl
         clear S_
         have H := kp (kK [0, 1, 2] H o_)
         have HOX := kp o_
         clear o_
         go_wp2_with ((with_reducible refine isLd 23 ?_); (refine L_subG H (by kernel_rfl) 23 _ rfl 2 rfl (0) rfl (a.own.map V8) (HOW.out) Try.underlying23 rfl (HZO6.out) ?_); simp only [pA])
         exact kso
        simp only [pA]
        refine ⟨fun w_ o_ S_ => ?_, fun v49 => ?_⟩
        ·obtain rfl : v44 = .bool false := hsR S_ 44 rfl
         obtain rfl : v46 = .agg (x.addr.map V8).toArray := hsR S_ 46 rfl
         obtain rfl : v48 = .agg (a.own.map V8).toArray := hsR S_ 48 rfl
         clear S_ o_
         go_wp2_with fail
         exact kso
        simp only [pA]
        refine ⟨fun w_ o_ S_ => ?_, fun v50 => ?_⟩
        ·obtain rfl : v44 = .bool false := hsR S_ 44 rfl
         obtain rfl : v49 = .bool false := hsR S_ 49 rfl
         clear S_ o_
         go_wp2_with fail
         exact kso
        simp only [pA]
        refine ⟨fun w_ o_ S_ => ?_, fun v51 => ?_⟩
        ·obtain rfl : v50 = .bool false := hsR S_ 50 rfl
         clear S_ o_
         go_wp2_with fail
         exact kso
        simp only [pA]
        refine ⟨fun w_ o_ S_ => ?_, fun v52 => ?_⟩
        ·obtain rfl : v51 = .bool false := hsR S_ 51 rfl
         clear S_ o_
         go_wp2_with fail
         exact kso
        simp only [pA]
        refine ⟨fun w_ o_ S_ => ?_, fun v53 => ?_⟩
        ·obtain rfl : v51 = .bool false := hsR S_ 51 rfl
         obtain rfl : v52 = .int .i64 (k + 1 : Nat) := hsR S_ 52 rfl
         clear S_ o_
         go_wp2_with fail
         exact kso
        simp only [pA]
        refine ⟨fun w_ o_ S_ => ?_, fun v54 => ?_⟩
        ·obtain rfl : v51 = .bool false := hsR S_ 51 rfl
         obtain rfl : v53 = .bool true := hsR S_ 53 rfl
         clear S_ o_
         go_wp2_with fail
         exact kso
        simp only [pA]
        refine ⟨fun w_ o_ S_ => ?_, fun v55 => ?_⟩
        ·obtain rfl : v54 = .bool true := hsR S_ 54 rfl
         clear S_ o_
         go_wp2_with fail
         exact kso
        simp only [pA]
        refine ⟨fun w_ o_ S_ => ?_, fun v56 => ?_⟩
        ·obtain rfl : v54 = .bool true := hsR S_ 54 rfl
         obtain rfl : v55 = .pointer (some ⟨g1, 9, none⟩) := hsR S_ 55 rfl
         clear S_
         have H := kp (kK [0, 1, 2] H o_)
         have HOX := kp o_
         clear o_
         have hc := run_load_cell H.out 2 rfl _ _ HC9.out
         go_wp2_with fail
         exact kso
        simp only [pA]
        refine ⟨fun w_ o_ S_ => ?_, fun v57 => ?_⟩
        ·obtain rfl : v54 = .bool true := hsR S_ 54 rfl
         clear S_ o_
         go_wp2_with fail
         exact kso
        simp only [pA]
        refine ⟨fun w_ o_ S_ => ?_, fun v58 => ?_⟩
        ·obtain rfl : v54 = .bool true := hsR S_ 54 rfl
         obtain rfl : v57 = .int .i64 (k + 1 : Nat) := hsR S_ 57 rfl
         clear S_ o_
         go_wp2_with fail
         exact kso
        simp only [pA]
        refine ⟨fun w_ o_ S_ => ?_, fun v59 => ?_⟩
        ·obtain rfl : v54 = .bool true := hsR S_ 54 rfl
         obtain rfl : v56 = .slice (some ⟨b, off, none⟩) n c := hsR S_ 56 rfl
         obtain rfl : v58 = .int .i64 k := hsR S_ 58 rfl
         clear S_ o_
         go_wp2_with fail
         exact kso
        simp only [pA]
        refine ⟨fun w_ o_ S_ => ?_, fun v60 => ?_⟩
        ·obtain rfl : v54 = .bool true := hsR S_ 54 rfl
         obtain rfl : v59 = .pointer (some ⟨b, off + k * 11, none⟩) := hsR S_ 59 rfl
         clear S_ o_
         go_wp2_with fail
         exact kso
        simp only [pA]
        refine ⟨fun w_ o_ S_ => ?_, fun v61 => ?_⟩
        ·obtain rfl : v54 = .bool true := hsR S_ 54 rfl
         obtain rfl : v60 = .pointer (some ⟨b, off + k * 11, none⟩) := hsR S_ 60 rfl
         clear S_
         have H := kp (kK [0, 1, 2] H o_)
         have HOX := kp o_
         clear o_
         go_wp2_with ((with_reducible refine isLd 23 ?_); (refine wpList_load_midG (by kernel_rfl) 23 _ rfl (b) (off + k * 11) rfl (y.addr.map V8) _ ((rangeAt_ext HRY.out HB.out H.out.1)) Try.underlying23 rfl (HZY6.out) ?_); simp only [pA])
         exact kso
        simp only [pA]
        refine ⟨fun w_ o_ S_ => ?_, fun v62 => ?_⟩
        ·obtain rfl : v54 = .bool true := hsR S_ 54 rfl
         clear S_ o_
         go_wp2_with fail
         exact kso
        simp only [pA]
        refine ⟨fun w_ o_ S_ => ?_, fun v63 => ?_⟩
        ·obtain rfl : v54 = .bool true := hsR S_ 54 rfl
         obtain rfl : v62 = .pointer (some ⟨g5, 0, none⟩) := hsR S_ 62 rfl
         clear S_
         have H := kp (kK [0, 1, 2] H o_)
         have HOX := kp o_
         clear o_
         go_wp2_with ((with_reducible refine isLd 23 ?_); (refine L_subG H (by kernel_rfl) 23 _ rfl 0 rfl (0) rfl (x.addr.map V8) (HPX.out) Try.underlying23 rfl (HZX6.out) ?_); simp only [pA])
         exact kso
        simp only [pA]
        refine ⟨fun w_ o_ S_ => ?_, fun v64 => ?_⟩
        ·obtain rfl : v54 = .bool true := hsR S_ 54 rfl
         obtain rfl : v61 = .agg (y.addr.map V8).toArray := hsR S_ 61 rfl
         obtain rfl : v63 = .agg (x.addr.map V8).toArray := hsR S_ 63 rfl
         clear S_
         have H := kp (kK [0, 1, 2] H o_)
         have HOX := kp o_
         clear o_
         go_wp2_with fail
         refine (HCM.out _).mono ?_
         rintro e w2 ⟨rfl, hx⟩
         have HXW := kp hx
         clear hx
         go_wp2_with fail
         exact ⟨rfl, _, rfl, fun d hd => by cases hd; exact rfl, HXW.out⟩
        simp only [pA]
        refine ⟨fun w_ o_ S_ => ?_, fun v65 => ?_⟩
        ·obtain rfl : v54 = .bool true := hsR S_ 54 rfl
         obtain rfl : v64 = .int .i64 (cmpF y.addr x.addr) := hsR S_ 64 rfl
         clear S_ o_
         go_wp2_with fail
         exact ⟨rfl, _, rfl, fun d hd => by cases hd; exact (congrArg Value.bool HQ.out), Ext.refl _⟩
        simp only [pA]
        refine ⟨fun w_ o_ S_ => ?_, fun v66 => ?_⟩
        ·obtain rfl : v51 = .bool false := hsR S_ 51 rfl
         obtain rfl : v54 = .bool true := hsR S_ 54 rfl
         obtain rfl : v65 = .bool true := hsR S_ 65 rfl
         clear S_ o_
         go_wp2_with fail
         exact kso
        simp only [pA]
        refine ⟨fun w_ o_ S_ => ?_, fun v67 => ?_⟩
        ·obtain rfl : v51 = .bool false := hsR S_ 51 rfl
         obtain rfl : v66 = .bool true := hsR S_ 66 rfl
         clear S_ o_
         go_wp2_with fail
         exact kso
        simp only [pA]
        refine ⟨fun w_ o_ S_ => ?_, fun v68 => ?_⟩
        ·obtain rfl : v67 = .bool true := hsR S_ 67 rfl
         clear S_ o_
         go_wp2_with fail
         exact kso
        simp only [pA]
        refine ⟨fun w_ o_ S_ => ?_, fun v69 => ?_⟩
        ·obtain rfl : v68 = .bool true := hsR S_ 68 rfl
         clear S_ o_
         go_wp2_with fail
         exact kso
        simp only [pA]
        refine ⟨fun w_ o_ S_ => ?_, fun v70 => ?_⟩
        ·obtain rfl : v68 = .bool true := hsR S_ 68 rfl
         clear S_ o_
         go_wp2_with fail
         exact kso
        simp only [pA]
        refine ⟨fun w_ o_ S_ => ?_, fun v71 => ?_⟩
        ·obtain rfl : v68 = .bool true := hsR S_ 68 rfl
         clear S_ o_
         go_wp2_with fail
         exact kso
        simp only [pA]
        refine ⟨fun w_ o_ S_ => ?_, fun v72 => ?_⟩
        ·obtain rfl : v68 = .bool true := hsR S_ 68 rfl
         clear S_ o_
         go_wp2_with fail
         exact kso
        simp only [pA]
        refine ⟨fun w_ o_ S_ => ?_, fun v73 => ?_⟩
        ·obtain rfl : v68 = .bool true := hsR S_ 68 rfl
         obtain rfl : v72 = undef := hsR S_ 72 rfl
         clear S_ o_
         go_wp2_with fail
         exact kso
        simp only [pA]
        clear H
        intro w7 HOX H hfin
        obtain rfl : v41 = .agg (cellsE x).toArray := hfin 41 (by decide)
        obtain rfl : v42 = .bool true := hfin 42 (by decide)
        obtain rfl : v43 = .bool false := hfin 43 (by decide)
        obtain rfl : v44 = .bool false := hfin 44 (by decide)
        obtain rfl : v45 = .pointer (some ⟨g5, 0, none⟩) := hfin 45 (by decide)
        obtain rfl : v46 = .agg (x.addr.map V8).toArray := hfin 46 (by decide)
        obtain rfl : v47 = .pointer (some ⟨g1, 0, none⟩) := hfin 47 (by decide)
        obtain rfl : v48 = .agg (a.own.map V8).toArray := hfin 48 (by decide)
        obtain rfl : v49 = .bool false := hfin 49 (by decide)
        obtain rfl : v50 = .bool false := hfin 50 (by decide)
        obtain rfl : v51 = .bool false := hfin 51 (by decide)
        obtain rfl : v52 = .int .i64 (k + 1 : Nat) := hfin 52 (by decide)
        obtain rfl : v53 = .bool true := hfin 53 (by decide)
        obtain rfl : v54 = .bool true := hfin 54 (by decide)
        obtain rfl : v55 = .pointer (some ⟨g1, 9, none⟩) := hfin 55 (by decide)
        obtain rfl : v56 = .slice (some ⟨b, off, none⟩) n c := hfin 56 (by decide)
        obtain rfl : v57 = .int .i64 (k + 1 : Nat) := hfin 57 (by decide)
        obtain rfl : v58 = .int .i64 k := hfin 58 (by decide)
        obtain rfl : v59 = .pointer (some ⟨b, off + k * 11, none⟩) := hfin 59 (by decide)
        obtain rfl : v60 = .pointer (some ⟨b, off + k * 11, none⟩) := hfin 60 (by decide)
        obtain rfl : v61 = .agg (y.addr.map V8).toArray := hfin 61 (by decide)
        obtain rfl : v62 = .pointer (some ⟨g5, 0, none⟩) := hfin 62 (by decide)
        obtain rfl : v63 = .agg (x.addr.map V8).toArray := hfin 63 (by decide)
        obtain rfl : v64 = .int .i64 (cmpF y.addr x.addr) := hfin 64 (by decide)
        obtain rfl : v65 = .bool true := hfin 65 (by decide)
        obtain rfl : v66 = .bool true := hfin 66 (by decide)
        obtain rfl : v67 = .bool true := hfin 67 (by decide)
        obtain rfl : v68 = .bool true := hfin 68 (by decide)
        obtain rfl : v69 = undef := hfin 69 (by decide)
        obtain rfl : v70 = undef := hfin 70 (by decide)
        obtain rfl : v71 = undef := hfin 71 (by decide)
        obtain rfl : v72 = undef := hfin 72 (by decide)
        obtain rfl : v73 = .bool true := hfin 73 (by decide)
        clear hfin
        simp only [List.drop_succ_cons, List.drop_zero]
        simp only [applyS] at H
        have HXN := kp (HOX.out.ext (Ext.refl w6) (fun g hg => by cases hg))
        go_wp2_with fail
        go_ret
        exact ⟨congrArg (fun z => Ending.returned (.int .i64 z)) (chk_bad (bad_at HJL.out (by rw [ok_of HX.out, HORD.out]; simp))).symm, H.out.1⟩
       | false =>
        have HQ := kp hq
        have HORD := kp (show ordAt l (k + 1) = true by
         rw [ordAt, HXA.out, show k + 1 - 1 = k from rfl, HYA.out]
         have := of_decide_eq_false hq
         rw [cmp_ge] at this
         simp; omega)
        clear hq
        refine region_free H (tabS [(41, fun vQ _ => vQ = .agg (cellsE x).toArray), (42, fun vQ _ => vQ = .bool true), (43, fun vQ _ => vQ = .bool false), (44, fun vQ _ => vQ = .bool false), (45, fun vQ _ => vQ = .pointer (some ⟨g5, 0, none⟩)), (46, fun vQ _ => vQ = .agg (x.addr.map V8).toArray), (47, fun vQ _ => vQ = .pointer (some ⟨g1, 0, none⟩)), (48, fun vQ _ => vQ = .agg (a.own.map V8).toArray), (49, fun vQ _ => vQ = .bool false), (50, fun vQ _ => vQ = .bool false), (51, fun vQ _ => vQ = .bool false), (52, fun vQ _ => vQ = .int .i64 (k + 1 : Nat)), (53, fun vQ _ => vQ = .bool true), (54, fun vQ _ => vQ = .bool true), (55, fun vQ _ => vQ = .pointer (some ⟨g1, 9, none⟩)), (56, fun vQ _ => vQ = .slice (some ⟨b, off, none⟩) n c), (57, fun vQ _ => vQ = .int .i64 (k + 1 : Nat)), (58, fun vQ _ => vQ = .int .i64 k), (59, fun vQ _ => vQ = .pointer (some ⟨b, off + k * 11, none⟩)), (60, fun vQ _ => vQ = .pointer (some ⟨b, off + k * 11, none⟩)), (61, fun vQ _ => vQ = .agg (y.addr.map V8).toArray), (62, fun vQ _ => vQ = .pointer (some ⟨g5, 0, none⟩)), (63, fun vQ _ => vQ = .agg (x.addr.map V8).toArray), (64, fun vQ _ => vQ = .int .i64 (cmpF y.addr x.addr)), (65, fun vQ _ => vQ = .bool false), (66, fun vQ _ => vQ = .bool false), (67, fun vQ _ => vQ = .bool false), (68, fun vQ _ => vQ = .bool false), (69, fun vQ _ => vQ = .pointer (some ⟨g5, 7, none⟩)), (70, fun vQ _ => vQ = .int .i64 m), (71, fun vQ _ => vQ = .pointer (some ⟨g3, m, none⟩)), (72, fun vQ _ => vQ = .bool bh), (73, fun vQ _ => vQ = .bool bh)]) [] (tabS_out _ _ (by simp only [List.forall_mem_cons, mono_eqO, true_and]; simp)) 33 (by kernel_rfl) (by kernel_rfl) (by kernel_rfl) (by kernel_rfl) [] [] rfl rfl (by decide) (by decide) (by decide) trivial ?_
        simp only [List.take_succ_cons, List.take_zero]
        refine ⟨fun w_ o_ S_ => ?_, fun v41 => ?_⟩
        ·clear S_
         have H := kp (kK [0, 1, 2] H o_)
         have HOX := kp o_
         clear o_
         go_wp2_with ((with_reducible refine isLd 39 ?_); (refine L_load H rfl 39 _ rfl 0 rfl rfl Try.underlying39 rfl (HZXa.out) ?_); simp only [pA])
         exact kso
        simp only [pA]
        refine ⟨fun w_ o_ S_ => ?_, fun v42 => ?_⟩
        ·obtain rfl : v41 = .agg (cellsE x).toArray := hsR S_ 41 rfl
         clear S_
         have H := kp (kK [0, 1, 2] H o_)
         have HOX := kp o_
         clear o_
         go_wp2_with fail
         refine (HCE.out _).mono ?_
         rintro e w2 ⟨rfl, hx⟩
         have HXW := kp hx
         clear hx
         go_wp2_with fail
         exact ⟨rfl, _, rfl, fun d hd => by cases hd; exact rfl, HXW.out⟩
        simp only [pA]
        refine ⟨fun w_ o_ S_ => ?_, fun v43 => ?_⟩
        ·obtain rfl : v42 = .bool true := hsR S_ 42 rfl
         clear S_ o_
         go_wp2_with fail
         exact kso
        simp only [pA]
        refine ⟨fun w_ o_ S_ => ?_, fun v44 => ?_⟩
        ·obtain rfl : v43 = .bool false := hsR S_ 43 rfl
         clear S_ o_
         go_wp2_with fail
         exact kso
        simp only [pA]
        refine ⟨fun w_ o_ S_ => ?_, fun v45 => ?_⟩
        ·obtain rfl : v44 = .bool false := hsR S_ 44 rfl
         clear S_ o_
         go_wp2_with fail
         exact kso
        simp only [pA]
        refine ⟨fun w_ o_ S_ => ?_, fun v46 => ?_⟩
        ·obtain rfl : v44 = .bool false := hsR S_ 44 rfl
         obtain rfl : v45 = .pointer (some ⟨g5, 0, none⟩) := hsR S_ 45 rfl
         clear S_
         have H := kp (kK [0, 1, 2] H o_)
         have HOX := kp o_
         clear o_
         go_wp2_with ((with_reducible refine isLd 23 ?_); (refine L_subG H (by kernel_rfl) 23 _ rfl 0 rfl (0) rfl (x.addr.map V8) (HPX.out) Try.underlying23 rfl (HZX6.out) ?_); simp only [pA])
         exact kso
        simp only [pA]
        refine ⟨fun w_ o_ S_ => ?_, fun v47 => ?_⟩
        ·obtain rfl : v44 = .bool false := hsR S_ 44 rfl
         clear S_ o_
         go_wp2_with fail
         exact kso
        simp only [pA]
        refine ⟨fun w_ o_ S_ => ?_, fun v48 => ?_⟩
        ·obtain rfl : v44 = .bool false := hsR S_ 44 rfl
         obtain rfl : v47 = .pointer (some ⟨g1, 0, none⟩) := hsR S_ 47 rfl
         clear S_
         have H := kp (kK [0, 1, 2] H o_)
         have HOX := kp o_
         clear o_
         go_wp2_with ((with_reducible refine isLd 23 ?_); (refine L_subG H (by kernel_rfl) 23 _ rfl 2 rfl (0) rfl (a.own.map V8) (HOW.out) Try.underlying23 rfl (HZO6.out) ?_); simp only [pA])
         exact kso
        simp only [pA]
        refine ⟨fun w_ o_ S_ => ?_, fun v49 => ?_⟩
        ·obtain rfl : v44 = .bool false := hsR S_ 44 rfl
         obtain rfl : v46 = .agg (x.addr.map V8).toArray := hsR S_ 46 rfl
         obtain rfl : v48 = .agg (a.own.map V8).toArray := hsR S_ 48 rfl
         clear S_ o_
         go_wp2_with fail
         exact kso
        simp only [pA]
        refine ⟨fun w_ o_ S_ => ?_, fun v50 => ?_⟩
        ·obtain rfl : v44 = .bool false := hsR S_ 44 rfl
         obtain rfl : v49 = .bool false := hsR S_ 49 rfl
         clear S_ o_
         go_wp2_with fail
         exact kso
        simp only [pA]
        refine ⟨fun w_ o_ S_ => ?_, fun v51 => ?_⟩
        ·obtain rfl : v50 = .bool false := hsR S_ 50 rfl
         clear S_ o_
         go_wp2_with fail
         exact kso
        simp only [pA]
        refine ⟨fun w_ o_ S_ => ?_, fun v52 => ?_⟩
        ·obtain rfl : v51 = .bool false := hsR S_ 51 rfl
         clear S_ o_
         go_wp2_with fail
         exact kso
        simp only [pA]
        refine ⟨fun w_ o_ S_ => ?_, fun v53 => ?_⟩
        ·obtain rfl : v51 = .bool false := hsR S_ 51 rfl
         obtain rfl : v52 = .int .i64 (k + 1 : Nat) := hsR S_ 52 rfl
         clear S_ o_
         go_wp2_with fail
         exact kso
        simp only [pA]
        refine ⟨fun w_ o_ S_ => ?_, fun v54 => ?_⟩
        ·obtain rfl : v51 = .bool false := hsR S_ 51 rfl
         obtain rfl : v53 = .bool true := hsR S_ 53 rfl
         clear S_ o_
         go_wp2_with fail
         exact kso
        simp only [pA]
        refine ⟨fun w_ o_ S_ => ?_, fun v55 => ?_⟩
        ·obtain rfl : v54 = .bool true := hsR S_ 54 rfl
         clear S_ o_
         go_wp2_with fail
         exact kso
        simp only [pA]
        refine ⟨fun w_ o_ S_ => ?_, fun v56 => ?_⟩
        ·obtain rfl : v54 = .bool true := hsR S_ 54 rfl
         obtain rfl : v55 = .pointer (some ⟨g1, 9, none⟩) := hsR S_ 55 rfl
         clear S_
         have H := kp (kK [0, 1, 2] H o_)
         have HOX := kp o_
         clear o_
         have hc := run_load_cell H.out 2 rfl _ _ HC9.out
         go_wp2_with fail
         exact kso
        simp only [pA]
        refine ⟨fun w_ o_ S_ => ?_, fun v57 => ?_⟩
        ·obtain rfl : v54 = .bool true := hsR S_ 54 rfl
         clear S_ o_
         go_wp2_with fail
         exact kso
        simp only [pA]
        refine ⟨fun w_ o_ S_ => ?_, fun v58 => ?_⟩
        ·obtain rfl : v54 = .bool true := hsR S_ 54 rfl
         obtain rfl : v57 = .int .i64 (k + 1 : Nat) := hsR S_ 57 rfl
         clear S_ o_
         go_wp2_with fail
         exact kso
        simp only [pA]
        refine ⟨fun w_ o_ S_ => ?_, fun v59 => ?_⟩
        ·obtain rfl : v54 = .bool true := hsR S_ 54 rfl
         obtain rfl : v56 = .slice (some ⟨b, off, none⟩) n c := hsR S_ 56 rfl
         obtain rfl : v58 = .int .i64 k := hsR S_ 58 rfl
         clear S_ o_
         go_wp2_with fail
         exact kso
        simp only [pA]
        refine ⟨fun w_ o_ S_ => ?_, fun v60 => ?_⟩
        ·obtain rfl : v54 = .bool true := hsR S_ 54 rfl
         obtain rfl : v59 = .pointer (some ⟨b, off + k * 11, none⟩) := hsR S_ 59 rfl
         clear S_ o_
         go_wp2_with fail
         exact kso
        simp only [pA]
        refine ⟨fun w_ o_ S_ => ?_, fun v61 => ?_⟩
        ·obtain rfl : v54 = .bool true := hsR S_ 54 rfl
         obtain rfl : v60 = .pointer (some ⟨b, off + k * 11, none⟩) := hsR S_ 60 rfl
         clear S_
         have H := kp (kK [0, 1, 2] H o_)
         have HOX := kp o_
         clear o_
         go_wp2_with ((with_reducible refine isLd 23 ?_); (refine wpList_load_midG (by kernel_rfl) 23 _ rfl (b) (off + k * 11) rfl (y.addr.map V8) _ ((rangeAt_ext HRY.out HB.out H.out.1)) Try.underlying23 rfl (HZY6.out) ?_); simp only [pA])
         exact kso
        simp only [pA]
        refine ⟨fun w_ o_ S_ => ?_, fun v62 => ?_⟩
        ·obtain rfl : v54 = .bool true := hsR S_ 54 rfl
         clear S_ o_
         go_wp2_with fail
         exact kso
        simp only [pA]
        refine ⟨fun w_ o_ S_ => ?_, fun v63 => ?_⟩
        ·obtain rfl : v54 = .bool true := hsR S_ 54 rfl
         obtain rfl : v62 = .pointer (some ⟨g5, 0, none⟩) := hsR S_ 62 rfl
         clear S_
         have H := kp (kK [0, 1, 2] H o_)
         have HOX := kp o_
         clear o_
         go_wp2_with ((with_reducible refine isLd 23 ?_); (refine L_subG H (by kernel_rfl) 23 _ rfl 0 rfl (0) rfl (x.addr.map V8) (HPX.out) Try.underlying23 rfl (HZX6.out) ?_); simp only [pA])
         exact kso
        simp only [pA]
        refine ⟨fun w_ o_ S_ => ?_, fun v64 => ?_⟩
        ·obtain rfl : v54 = .bool true := hsR S_ 54 rfl
         obtain rfl : v61 = .agg (y.addr.map V8).toArray := hsR S_ 61 rfl
         obtain rfl : v63 = .agg (x.addr.map V8).toArray := hsR S_ 63 rfl
         clear S_
         have H := kp (kK [0, 1, 2] H o_)
         have HOX := kp o_
         clear o_
         go_wp2_with fail
         refine (HCM.out _).mono ?_
         rintro e w2 ⟨rfl, hx⟩
         have HXW := kp hx
         clear hx
         go_wp2_with fail
         exact ⟨rfl, _, rfl, fun d hd => by cases hd; exact rfl, HXW.out⟩
        simp only [pA]
        refine ⟨fun w_ o_ S_ => ?_, fun v65 => ?_⟩
        ·obtain rfl : v54 = .bool true := hsR S_ 54 rfl
         obtain rfl : v64 = .int .i64 (cmpF y.addr x.addr) := hsR S_ 64 rfl
         clear S_ o_
         go_wp2_with fail
         exact ⟨rfl, _, rfl, fun d hd => by cases hd; exact (congrArg Value.bool HQ.out), Ext.refl _⟩
        simp only [pA]
        refine ⟨fun w_ o_ S_ => ?_, fun v66 => ?_⟩
        ·obtain rfl : v51 = .bool false := hsR S_ 51 rfl
         obtain rfl : v54 = .bool true := hsR S_ 54 rfl
         obtain rfl : v65 = .bool false := hsR S_ 65 rfl
         clear S_ o_
         go_wp2_with fail
         exact kso
        simp only [pA]
        refine ⟨fun w_ o_ S_ => ?_, fun v67 => ?_⟩
        ·obtain rfl : v51 = .bool false := hsR S_ 51 rfl
         obtain rfl : v66 = .bool false := hsR S_ 66 rfl
         clear S_ o_
         go_wp2_with fail
         exact kso
        simp only [pA]
        refine ⟨fun w_ o_ S_ => ?_, fun v68 => ?_⟩
        ·obtain rfl : v67 = .bool false := hsR S_ 67 rfl
         clear S_ o_
         go_wp2_with fail
         exact kso
        simp only [pA]
        refine ⟨fun w_ o_ S_ => ?_, fun v69 => ?_⟩
        ·obtain rfl : v68 = .bool false := hsR S_ 68 rfl
         clear S_ o_
         go_wp2_with fail
         exact kso
        simp only [pA]
        refine ⟨fun w_ o_ S_ => ?_, fun v70 => ?_⟩
        ·obtain rfl : v68 = .bool false := hsR S_ 68 rfl
         obtain rfl : v69 = .pointer (some ⟨g5, 7, none⟩) := hsR S_ 69 rfl
         clear S_
         have H := kp (kK [0, 1, 2] H o_)
         have HOX := kp o_
         clear o_
         have hc := run_load_cell H.out 0 rfl _ _ H7.out
         go_wp2_with fail
         exact kso
        simp only [pA]
        refine ⟨fun w_ o_ S_ => ?_, fun v71 => ?_⟩
        ·obtain rfl : v68 = .bool false := hsR S_ 68 rfl
         obtain rfl : v70 = .int .i64 m := hsR S_ 70 rfl
         clear S_ o_
         go_wp2_with fail
         exact kso
        simp only [pA]
        refine ⟨fun w_ o_ S_ => ?_, fun v72 => ?_⟩
        ·obtain rfl : v68 = .bool false := hsR S_ 68 rfl
         obtain rfl : v71 = .pointer (some ⟨g3, m, none⟩) := hsR S_ 71 rfl
         clear S_
         have H := kp (kK [0, 1, 2] H o_)
         have HOX := kp o_
         clear o_
         have hc := run_load_cell H.out 1 rfl _ _ HBH.out
         go_wp2_with fail
         exact kso
        simp only [pA]
        refine ⟨fun w_ o_ S_ => ?_, fun v73 => ?_⟩
        ·obtain rfl : v68 = .bool false := hsR S_ 68 rfl
         obtain rfl : v72 = .bool bh := hsR S_ 72 rfl
         clear S_ o_
         go_wp2_with fail
         exact kso
        simp only [pA]
        clear H
        intro w7 HOX H hfin
        obtain rfl : v41 = .agg (cellsE x).toArray := hfin 41 (by decide)
        obtain rfl : v42 = .bool true := hfin 42 (by decide)
        obtain rfl : v43 = .bool false := hfin 43 (by decide)
        obtain rfl : v44 = .bool false := hfin 44 (by decide)
        obtain rfl : v45 = .pointer (some ⟨g5, 0, none⟩) := hfin 45 (by decide)
        obtain rfl : v46 = .agg (x.addr.map V8).toArray := hfin 46 (by decide)
        obtain rfl : v47 = .pointer (some ⟨g1, 0, none⟩) := hfin 47 (by decide)
        obtain rfl : v48 = .agg (a.own.map V8).toArray := hfin 48 (by decide)
        obtain rfl : v49 = .bool false := hfin 49 (by decide)
        obtain rfl : v50 = .bool false := hfin 50 (by decide)
        obtain rfl : v51 = .bool false := hfin 51 (by decide)
        obtain rfl : v52 = .int .i64 (k + 1 : Nat) := hfin 52 (by decide)
        obtain rfl : v53 = .bool true := hfin 53 (by decide)
        obtain rfl : v54 = .bool true := hfin 54 (by decide)
        obtain rfl : v55 = .pointer (some ⟨g1, 9, none⟩) := hfin 55 (by decide)
        obtain rfl : v56 = .slice (some ⟨b, off, none⟩) n c := hfin 56 (by decide)
        obtain rfl : v57 = .int .i64 (k + 1 : Nat) := hfin 57 (by decide)
        obtain rfl : v58 = .int .i64 k := hfin 58 (by decide)
        obtain rfl : v59 = .pointer (some ⟨b, off + k * 11, none⟩) := hfin 59 (by decide)
        obtain rfl : v60 = .pointer (some ⟨b, off + k * 11, none⟩) := hfin 60 (by decide)
        obtain rfl : v61 = .agg (y.addr.map V8).toArray := hfin 61 (by decide)
        obtain rfl : v62 = .pointer (some ⟨g5, 0, none⟩) := hfin 62 (by decide)
        obtain rfl : v63 = .agg (x.addr.map V8).toArray := hfin 63 (by decide)
        obtain rfl : v64 = .int .i64 (cmpF y.addr x.addr) := hfin 64 (by decide)
        obtain rfl : v65 = .bool false := hfin 65 (by decide)
        obtain rfl : v66 = .bool false := hfin 66 (by decide)
        obtain rfl : v67 = .bool false := hfin 67 (by decide)
        obtain rfl : v68 = .bool false := hfin 68 (by decide)
        obtain rfl : v69 = .pointer (some ⟨g5, 7, none⟩) := hfin 69 (by decide)
        obtain rfl : v70 = .int .i64 m := hfin 70 (by decide)
        obtain rfl : v71 = .pointer (some ⟨g3, m, none⟩) := hfin 71 (by decide)
        obtain rfl : v72 = .bool bh := hfin 72 (by decide)
        obtain rfl : v73 = .bool bh := hfin 73 (by decide)
        clear hfin
        simp only [List.drop_succ_cons, List.drop_zero]
        simp only [applyS] at H
        have HXN := kp (HOX.out.ext (Ext.refl w6) (fun g hg => by cases hg))
        cases bh with
        | true =>
         go_wp2_with fail
         go_ret
         exact ⟨congrArg (fun z => Ending.returned (.int .i64 z)) (chk_bad (bad_at HJL.out (by rw [ok_of HX.out, HAM.out, Int.toNat_natCast, HBG.out]; simp))).symm, H.out.1⟩
        | false =>
         have hc7 := run_load_cell H.out 0 rfl _ _ H7.out
         have hc6 := run_load_cell H.out 0 rfl _ _ H6.out
         go_wp2_with ((with_reducible refine isSt 4 ?_); (refine L_cell H rfl rfl 4 _ _ rfl 1 rfl (m) rfl (.bool (x.state == 2)) rfl (rfl) (HZb.out) (HFM.out) ((heldF (l.take ((k + 1) + 1))).map Value.bool) (HHS.out) ?_; clear H; intro wz HWwz H; simp only [ssA, szA] at H))
         go_roundw
         case rel => exact ⟨(k + 1) + 1, by omega, by go_num, kp (fun i hi => by
          rcases Nat.lt_succ_iff_lt_or_eq.1 hi with q | q
          ·exact HT.out i q
          ·subst q; rw [ok_of HX.out, HAM.out, Int.toNat_natCast, HBG.out]; (rw [HE.out, bne, HO.out, HORD.out]; rfl)), kp H.out.tl⟩
         case measure => simp [intOf]; omega
   ·obtain rfl : j = n := by omega
    have HAA := kp (all_at (own := a.own) (l := l) fun k hk => HT.out k (by rw [HNL.out]; exact hk))
    have HV2 := kp (show validA a l = decide ((membersF l : Int) ≤ a.limit) by rw [HVA.out, HHH.out, HAA.out]; rfl)
    go_wp2_with fail
    refine region_free H (tabS [(81, fun vQ _ => vQ = .agg (cellsA a (.slice ad j c)).toArray), (82, fun vQ _ => vQ = .int .i64 (membersF l)), (83, fun vQ _ => vQ = .pointer (some ⟨g1, 7, none⟩)), (84, fun vQ _ => vQ = .int .i64 a.limit), (85, fun vQ _ => vQ = .bool (decide (a.limit < membersF l)))]) [] (tabS_out _ _ (by simp only [List.forall_mem_cons, mono_eqO, true_and]; simp)) 5 (by kernel_rfl) (by kernel_rfl) (by kernel_rfl) (by kernel_rfl) [] [] rfl rfl (by decide) (by decide) (by decide) trivial ?_
    simp only [List.take_succ_cons, List.take_zero]
    refine ⟨fun w_ o_ S_ => ?_, fun v81 => ?_⟩
    ·clear S_
     have H := kp (kK [0, 1] H o_)
     have HOX := kp o_
     clear o_
     go_wp2_with ((with_reducible refine isLd 26 ?_); (refine L_load H rfl 26 _ rfl 1 rfl rfl Try.underlying26 rfl (HZA.out) ?_); simp only [pA])
     exact kso
    simp only [pA]
    refine ⟨fun w_ o_ S_ => ?_, fun v82 => ?_⟩
    ·obtain rfl : v81 = .agg (cellsA a (.slice ad j c)).toArray := hsR S_ 81 rfl
     clear S_
     have H := kp (kK [0, 1] H o_)
     have HOX := kp o_
     clear o_
     go_wp2_with fail
     refine (HME.out _ H.out.1).mono ?_
     rintro e w2 ⟨rfl, hx⟩
     have HXW := kp hx
     clear hx
     go_wp2_with fail
     exact ⟨rfl, _, rfl, fun d hd => by cases hd; exact rfl, HXW.out⟩
    simp only [pA]
    refine ⟨fun w_ o_ S_ => ?_, fun v83 => ?_⟩
    ·clear S_
     clear o_
     go_wp2_with fail
     exact kso
    simp only [pA]
    refine ⟨fun w_ o_ S_ => ?_, fun v84 => ?_⟩
    ·obtain rfl : v83 = .pointer (some ⟨g1, 7, none⟩) := hsR S_ 83 rfl
     clear S_
     have H := kp (kK [0, 1] H o_)
     have HOX := kp o_
     clear o_
     have hc := run_load_cell H.out 1 rfl _ _ HC7.out
     go_wp2_with fail
     exact kso
    simp only [pA]
    refine ⟨fun w_ o_ S_ => ?_, fun v85 => ?_⟩
    ·obtain rfl : v82 = .int .i64 (membersF l) := hsR S_ 82 rfl
     obtain rfl : v84 = .int .i64 a.limit := hsR S_ 84 rfl
     clear S_ o_
     go_wp2_with fail
     exact kso
    simp only [pA]
    clear H
    intro w7 HOX H hfin
    obtain rfl : v81 = .agg (cellsA a (.slice ad j c)).toArray := hfin 81 (by decide)
    obtain rfl : v82 = .int .i64 (membersF l) := hfin 82 (by decide)
    obtain rfl : v83 = .pointer (some ⟨g1, 7, none⟩) := hfin 83 (by decide)
    obtain rfl : v84 = .int .i64 a.limit := hfin 84 (by decide)
    obtain rfl : v85 = .bool (decide (a.limit < membersF l)) := hfin 85 (by decide)
    clear hfin
    simp only [List.drop_succ_cons, List.drop_zero]
    simp only [applyS] at H
    have HXN := kp (HOX.out.ext (Ext.refl wr) (fun g hg => by cases hg))
    by_cases hml : (membersF l : Int) ≤ a.limit
    ·have hd : decide (a.limit < (membersF l : Int)) = false := decide_eq_false (by omega)
     have HK := kp (chk_good (show validA a l = true by rw [HV2.out]; exact decide_eq_true hml))
     clear hml
     rw [hd]
     go_wp2_with fail
     go_ret
     exact ⟨congrArg (fun z => Ending.returned (.int .i64 z)) HK.out.symm, H.out.1⟩
    ·have hd : decide (a.limit < (membersF l : Int)) = true := decide_eq_true (by omega)
     have HK := kp (chk_bad (show validA a l = false by rw [HV2.out]; exact decide_eq_false hml))
     clear hml
     rw [hd]
     go_wp2_with fail
     go_ret
     exact ⟨congrArg (fun z => Ending.returned (.int .i64 z)) HK.out.symm, H.out.1⟩
end Go.Proofs.Ytfecopfofkdnpaa
