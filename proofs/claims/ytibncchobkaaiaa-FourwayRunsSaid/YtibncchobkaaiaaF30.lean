/- Texts of this proof, put together: Pars. -/
import Derived.Test.YtibncchobkaaiaaF15
import Derived.Test.YtibncchobkaaiaaF14
import Derived.Test.YtibncchobkaaiaaF26
import Derived.Test.YtibncchobkaaiaaF1
namespace Go.Proofs.Ytibncchobkaaiaa
open Go.RowKit
def PsR (b : By) (w : World) (e : Ending) (w' : World) : Prop := ∃ (kind count : Int) (nonce : Vc 16) (ad : Option Addr) (n c : Nat), e = .returned (.tuple #[.agg (cat (partsM kind count nonce ad n c)).toArray, .int .i64 (parseE b)]) ∧ Ext w w' ∧ (parseE b = 0 → kind = kindP b ∧ count = countP b ∧ nonce = nonceP b ∧ SlB w' (.slice ad n c) (dataP b) ∧ CapOk (.slice ad n c))
set_option maxRecDepth 4000 in
set_option maxHeartbeats 1600000 in
theorem parse_short (ad : Option Addr) (n c : Nat) (b : By) (hn : n = b.length) (h43 : b.length < 43) (w : World) : Calls Try.prog 33 #[.slice ad n c] w (PsR b w) := by
 have H := kp (Loc.start w)
 have HE := kp (show parseE b = 10 by simp [parseE, h43])
 have hn43 : (n : Int) < 43 := by omega
 clear h43 hn
 go_enter Try.func33, Try.ntmps33
 go_wp2_with (first | ((with_reducible refine isAl 2 78 ?_); (refine L_alloc H rfl 78 rfl (cat (partsM 0 0 (zv 16) none 0 0)) (fun _ _ => by kernel_rfl) ?_); clear H; intro g2 w2 HGg2 HEg2 H; simp only [pA]) | ((with_reducible refine isSt 78 ?_); (refine L_sn H rfl rfl 78 _ _ rfl 0 rfl rfl rfl rfl (by kernel_rfl) ?_)) | ((with_reducible refine isLd 78 ?_); (refine L_fa H rfl 78 _ rfl 0 rfl rfl Try.underlying78 rfl (by kernel_rfl) ?_); simp only [pA]))
 (exact ret_f2 H Try.results33 0 rfl rfl _ rfl Try.underlying78 rfl (by kernel_rfl) rfl (⟨0, 0, zv 16, none, 0, 0, by rw [HE.out]; rfl, H.out.1, fun h => by rw [HE.out] at h; exact absurd h (by decide)⟩))
def odd1 (b : By) : Bool := decide (kindP b < 1) || decide (4 < kindP b) || decide (4611686018427387904 ≤ countP b) || decide (saidP b ≠ wantP b) || decide (((dataP b).length : Int) ≠ wantP b)
theorem odd_eq (b : By) : oddP b = (odd1 b || (kindP b == 4 && decide (nonceP b ≠ zv 16)) || (kindP b == 1 && decide (b.drop (b.length - 16) ≠ (zv 16).1))) := rfl
set_option maxRecDepth 4000 in
set_option maxHeartbeats 1600000 in
theorem parse_any (ad : Option Addr) (n c : Nat) (b : By) (h43 : ¬ b.length < 43) (hb : b.length ≤ 100000) (w : World) (hs : SlB w (.slice ad n c) b) (hcap : CapOk (.slice ad n c)) : Calls Try.prog 33 #[.slice ad n c] w (PsR b w) := by
 obtain ⟨gb, ob, rfl⟩ := hs.ne (by intro e; rw [e] at h43; exact h43 (by decide))
 have hnl := hs.len
 have hnc : n ≤ c := hcap _ _ _ rfl
 have hn43 : 43 ≤ n := by omega
 have hn5 : n ≤ 100000 := by omega
 have HBY := kp (show ∀ W, Ext w W → ∀ (j : Nat) x, b[j]? = some x → W.cell? ⟨gb, ob + j, none⟩ = some (V8 x) from fun W hx j x hj => by
  obtain ⟨b2, o2, e2, _, h3⟩ := (hs.ext hx).at j x hj
  cases e2; exact h3)
 have HS := kp hs
 have HNL := kp hnl
 have H := kp (Loc.start w)
 clear h43 hb hs hcap hnl
 obtain ⟨x0, hx0⟩ : ∃ x, b[0]? = some x := ⟨b[0]'(by rw [← HNL.out]; omega), by simp⟩
 have HX0 := kp hx0
 have HK := kp (show kindP b = wI x0 by unfold kindP; rw [List.getD_eq_getElem?_getD, hx0]; rfl)
 clear hx0
 go_enter Try.func33, Try.ntmps33
 generalize h3 : (Code.region 3 _ _ : Code) = R3
 generalize h14 : ((Code.region 14 _ _ : Code).seq _) = C14
 generalize h16 : (Code.region 16 _ _ : Code) = R16
 generalize h17 : (Code.region 17 _ _ : Code) = R17
 generalize h18 : (Code.region 18 _ _ : Code) = R18
 generalize h19 : (Code.region 19 _ _ : Code) = R19
 go_wp2_with ((with_reducible refine isAl 2 78 ?_); (refine L_alloc H rfl 78 rfl (cat (partsM 0 0 (zv 16) none 0 0)) (fun _ _ => by kernel_rfl) ?_); clear H; intro g2 w2 HGg2 HEg2 H; simp only [pA])
 subst h3
 have hc0 : w2.cell? ⟨gb, ob, none⟩ = some (.int .u8 (wI x0)) := HBY.out _ H.out.1 0 x0 HX0.out
 go_wp2_with ((with_reducible refine isSt 5 ?_); (refine L_s1 H rfl rfl 5 _ _ rfl 0 rfl _ rfl _ rfl _ rfl rfl rfl rfl (by kernel_rfl) (partsM (wI x0) 0 (zv 16) none 0 0) rfl ?_; clear H; intro w3 HWw3 H; simp only [szA] at H))
 clear hc0
 go_loopw [4, 17] (fun v i wr => ∃ j : Nat, j ≤ 8 ∧ i = .int .i64 j ∧ v = .int .u64 (numTo b j) ∧ Kp (Loc w wr [(g2, 78, cat (partsM (wI x0) 0 (zv 16) none 0 0))])) (fun _ i _ => 8 - (intOf i).toNat)
 case atStart => exact ⟨0, by omega, rfl, rfl, H⟩
 case round =>
  obtain ⟨j, hj, rfl, rfl, H⟩ := hrel
  by_cases hlt : j < 8
  ·obtain ⟨x, hx⟩ : ∃ x, b[1 + j]? = some x := ⟨b[1 + j]'(by rw [← HNL.out]; omega), by simp⟩
   have hcj : wr.cell? ⟨gb, ob + (1 + j), none⟩ = some (.int .u8 (wI x)) := HBY.out _ H.out.1 (1 + j) x hx
   have HXJ := kp hx
   clear hx
   have HST := kp (numTo_step b j x hlt HXJ.out)
   go_wp2_with fail
   refine ⟨⟨j + 1, by omega, by go_num, by rw [HST.out], H⟩, by simp [intOf]; omega⟩
  ·obtain rfl : j = 8 := by omega
   have hba := count_and b
   rw [← numTo_8] at hba
   have HCM := kp (show countP b < 4611686018427387904 → countP b % 4611686018427387904 = countP b from fun h => Int.emod_eq_of_lt (by obtain ⟨q, h1, _⟩ := count_nat b; omega) h)
   have hcm0 : 0 ≤ countP b % 4611686018427387904 := Int.emod_nonneg _ (by decide)
   have hcm1 : countP b % 4611686018427387904 < 4611686018427387904 := Int.emod_lt_of_pos _ (by decide)
   rw [numTo_8] at hba
   generalize hcm : countP b % 4611686018427387904 = cm at *
   clear hcm
   rw [numTo_8]
   go_wp2_with ((with_reducible refine isSt 3 ?_); (refine L_s1 H rfl rfl 3 _ _ rfl 0 rfl _ rfl _ rfl _ rfl rfl rfl rfl (by kernel_rfl) (partsM (wI x0) cm (zv 16) none 0 0) rfl ?_; clear H; intro w4 HWw4 H; simp only [szA] at H))
   have HL9 := kp (show SlB w4 (.slice (some ⟨gb, ob + 9, none⟩) (n - 9) (c - 9)) (b.drop 9) from (HS.out.ext H.out.1).from 9 (n - 9) (c - 9) (by rw [HNL.out]) (by omega))
   refine region_free H (tabS [(36, fun vQ _ => vQ = .pointer (some ⟨g2, 2, none⟩)), (37, fun vQ _ => vQ = .slice (some ⟨g2, 2, none⟩) 16 16), (38, fun vQ _ => vQ = .slice (some ⟨gb, ob, none⟩) n c), (39, fun vQ _ => vQ = .slice (some ⟨gb, ob + 9, none⟩) (n - 9) (c - 9))]) [] (tabS_out _ _ (by simp only [List.forall_mem_cons, mono_eqO, true_and]; simp)) 4 (by kernel_rfl) (by kernel_rfl) (by kernel_rfl) (by kernel_rfl) [] [] rfl rfl (by decide) (by decide) (by decide) trivial ?_
   simp only [List.take_succ_cons, List.take_zero]
   refine ⟨fun w_ o_ S_ => ?_, fun v36 => ?_⟩
   ·clear S_
    clear o_
    go_wp2_with fail
    exact kso
   simp only [pA]
   refine ⟨fun w_ o_ S_ => ?_, fun v37 => ?_⟩
   ·obtain rfl : v36 = .pointer (some ⟨g2, 2, none⟩) := hsR S_ 36 rfl
    clear S_ o_
    go_wp2_with fail
    exact kso
   simp only [pA]
   refine ⟨fun w_ o_ S_ => ?_, fun v38 => ?_⟩
   ·clear S_
    clear o_
    go_wp2_with fail
    exact kso
   simp only [pA]
   refine ⟨fun w_ o_ S_ => ?_, fun v39 => ?_⟩
   ·obtain rfl : v38 = .slice (some ⟨gb, ob, none⟩) n c := hsR S_ 38 rfl
    clear S_ o_
    go_wp2_with fail
    exact kso
   simp only [pA]
   clear H
   intro w5 HOX H hfin
   obtain rfl : v36 = .pointer (some ⟨g2, 2, none⟩) := hfin 36 (by decide)
   obtain rfl : v37 = .slice (some ⟨g2, 2, none⟩) 16 16 := hfin 37 (by decide)
   obtain rfl : v38 = .slice (some ⟨gb, ob, none⟩) n c := hfin 38 (by decide)
   obtain rfl : v39 = .slice (some ⟨gb, ob + 9, none⟩) (n - 9) (c - 9) := hfin 39 (by decide)
   clear hfin
   simp only [List.drop_succ_cons, List.drop_zero]
   simp only [applyS] at H
   have HXN := kp (HOX.out.ext (Ext.refl w4) (fun g hg => by cases hg))
   have HL9B := kp (HL9.out.ext HXN.out)
   have HD := kp (show dataP b = (b.drop 27).take (n - 43) by unfold dataP; rw [HNL.out])
   have HDL := kp (show (dataP b).length = n - 43 by rw [HD.out, List.length_take, List.length_drop, ← HNL.out]; omega)
   have HCL := kp (fun v w hs => clone_any v (dataP b) (by rw [HDL.out]; omega) w hs)
   have hd43 : (n : Int) - 16 = ((n - 16 : Nat) : Int) := by omega
   have hn27 : 27 ≤ n - 16 := by omega
   have HDS := kp (show ∀ W, Ext w W → SlB W (.slice (some ⟨gb, ob + 27, none⟩) (n - 16 - 27) (c - 27)) (dataP b) from fun W hx => by
    rw [HD.out, show n - 16 - 27 = n - 43 by omega]
    exact ((HS.out.ext hx).from 27 (n - 27) (c - 27) (by rw [HNL.out]) (by omega)).take (by rw [List.length_drop, ← HNL.out]; omega) (fun e => by cases e))
   go_wp2_with (first | ((with_reducible show wpList _ _ _ (Oper.mk _ (Op.call { callee := .builtin .copy, args := _, argTypes := _ }) _ _ _ _ :: _) _ _); (refine L_cpV H rfl _ _ 33 33 rfl 5 Try.underlying33 size5 0 rfl _ _ _ rfl _ rfl _ rfl _ rfl _ (HL9B.out) (partsM (wI x0) cm (nonceP b) none 0 0) rfl ?_; clear H; intro w6 HWw6 H; simp only [szA] at H); simp only [pA]) | (go_at_call 49; have HLT2 := kp (show g2 < w6.heap.size from H.out.lt 0 rfl); refine (HCL.out _ _ (HDS.out _ H.out.1)).mono ?_; rintro e wa ⟨v, rfl, ho, hx⟩; obtain ⟨da, dc, hvf⟩ := (SlB.of_owns ho).form; subst hvf; have HO := kp ho; clear ho; replace H := kp (H.out.ext hx); have HXC := kp hx; clear hx) | ((with_reducible refine isSt 33 ?_); (refine L_s1 H rfl rfl 33 _ _ rfl 0 rfl _ rfl _ rfl _ rfl rfl rfl rfl (by kernel_rfl) (partsM (wI x0) cm (nonceP b) da (dataP b).length dc) rfl ?_; clear H; intro w7 HWw7 H; simp only [szA] at H)))
   have HO7 := kp (owns_wrote HO.out HWw7.out HLT2.out)
   have HS7 := kp (SlB.of_owns HO7.out)
   have HC7 := kp (CapOk.of_owns HO7.out)
   clear HO7 HO HCL HDS hd43 hn27 HL9 HL9B HD
   have HW := kp (show wantP b = if wI x0 = 3 then 25 else 0 by unfold wantP; rw [HK.out])
   subst h14
   refine wp_cut (6 :: 48 :: 49 :: 50 :: []) (fun vs w' => w' = w7 ∧ vs 6 = .int .i64 (wantP b)) ?_ ?_
   ·go_wp2_with ((with_reducible refine isLd 5 ?_); (refine L_f1 H rfl 5 _ rfl 0 rfl _ rfl _ rfl _ rfl Try.underlying5 rfl ?_); simp only [pA])
    all_goals exact CutP.of rfl (by kernel_rfl) ⟨rfl, by show Value.int _ _ = Value.int _ _; rw [HW.out]; split <;> simp_all⟩
   rintro vs w8 ⟨rfl, e6⟩
   simp only [putMany, List.setIfInBounds_toArray, List.set_cons_zero, List.set_cons_succ]
   rw [e6]
   clear e6
   obtain ⟨x25, hx25⟩ : ∃ x, b[25]? = some x := ⟨b[25]'(by rw [← HNL.out]; omega), by simp⟩
   obtain ⟨x26, hx26⟩ : ∃ x, b[26]? = some x := ⟨b[26]'(by rw [← HNL.out]; omega), by simp⟩
   have HSD := kp (show saidP b = wI x25 + 256 * wI x26 by unfold saidP; rw [List.getD_eq_getElem?_getD, hx25, List.getD_eq_getElem?_getD, hx26]; rfl)
   have HC25 := kp (fun W hx => HBY.out W hx 25 x25 hx25)
   have HC26 := kp (fun W hx => HBY.out W hx 26 x26 hx26)
   have HOR := kp (said_or x25 x26)
   have HR26 := kp (wI_range x26)
   have HR25 := kp (wI_range x25)
   clear hx25 hx26
   go_wp2_with fail
   subst h16
   refine region_free H (tabS [(51, fun vQ _ => vQ = .slice (some ⟨gb, ob, none⟩) n c), (52, fun vQ _ => vQ = .pointer (some ⟨gb, ob + 25, none⟩)), (53, fun vQ _ => vQ = .int .u8 (wI x25)), (54, fun vQ _ => vQ = .int .i64 (wI x25)), (55, fun vQ _ => vQ = .slice (some ⟨gb, ob, none⟩) n c), (56, fun vQ _ => vQ = .pointer (some ⟨gb, ob + 26, none⟩)), (57, fun vQ _ => vQ = .int .u8 (wI x26)), (58, fun vQ _ => vQ = .int .i64 (wI x26)), (59, fun vQ _ => vQ = .int .i64 (wI x26 * 256)), (60, fun vQ _ => vQ = .int .i64 (wI x25 + 256 * wI x26)), (7, fun vQ _ => vQ = .int .i64 (wI x25 + 256 * wI x26))]) [] (tabS_out _ _ (by simp only [List.forall_mem_cons, mono_eqO, true_and]; simp)) 11 (by kernel_rfl) (by kernel_rfl) (by kernel_rfl) (by kernel_rfl) [] [] rfl rfl (by decide) (by decide) (by decide) trivial ?_
   simp only [List.take_succ_cons, List.take_zero]
   refine ⟨fun w_ o_ S_ => ?_, fun v51 => ?_⟩
   ·clear S_
    clear o_
    go_wp2_with fail
    exact kso
   simp only [pA]
   refine ⟨fun w_ o_ S_ => ?_, fun v52 => ?_⟩
   ·obtain rfl : v51 = .slice (some ⟨gb, ob, none⟩) n c := hsR S_ 51 rfl
    clear S_ o_
    go_wp2_with fail
    exact kso
   simp only [pA]
   refine ⟨fun w_ o_ S_ => ?_, fun v53 => ?_⟩
   ·obtain rfl : v52 = .pointer (some ⟨gb, ob + 25, none⟩) := hsR S_ 52 rfl
    clear S_
    have H := kp (kK [0] H o_)
    have HOX := kp o_
    clear o_
    have hc25 := HC25.out _ H.out.1
    go_wp2_with fail
    exact kso
   simp only [pA]
   refine ⟨fun w_ o_ S_ => ?_, fun v54 => ?_⟩
   ·obtain rfl : v53 = .int .u8 (wI x25) := hsR S_ 53 rfl
    clear S_
    have H := kp (kK [0] H o_)
    have HOX := kp o_
    clear o_
    have h1 := HR25.out.1
    have h2 := HR25.out.2
    go_wp2_with fail
    exact kso
   simp only [pA]
   refine ⟨fun w_ o_ S_ => ?_, fun v55 => ?_⟩
   ·clear S_
    clear o_
    go_wp2_with fail
    exact kso
   simp only [pA]
   refine ⟨fun w_ o_ S_ => ?_, fun v56 => ?_⟩
   ·obtain rfl : v55 = .slice (some ⟨gb, ob, none⟩) n c := hsR S_ 55 rfl
    clear S_ o_
    go_wp2_with fail
    exact kso
   simp only [pA]
   refine ⟨fun w_ o_ S_ => ?_, fun v57 => ?_⟩
   ·obtain rfl : v56 = .pointer (some ⟨gb, ob + 26, none⟩) := hsR S_ 56 rfl
    clear S_
    have H := kp (kK [0] H o_)
    have HOX := kp o_
    clear o_
    have hc26 := HC26.out _ H.out.1
    go_wp2_with fail
    exact kso
   simp only [pA]
   refine ⟨fun w_ o_ S_ => ?_, fun v58 => ?_⟩
   ·obtain rfl : v57 = .int .u8 (wI x26) := hsR S_ 57 rfl
    clear S_
    have H := kp (kK [0] H o_)
    have HOX := kp o_
    clear o_
    have h1 := HR26.out.1
    have h2 := HR26.out.2
    go_wp2_with fail
    exact kso
   simp only [pA]
   refine ⟨fun w_ o_ S_ => ?_, fun v59 => ?_⟩
   ·obtain rfl : v58 = .int .i64 (wI x26) := hsR S_ 58 rfl
    clear S_
    have H := kp (kK [0] H o_)
    have HOX := kp o_
    clear o_
    have h1 := HR26.out.1
    have h2 := HR26.out.2
    go_wp2_with fail
    exact kso
   simp only [pA]
   refine ⟨fun w_ o_ S_ => ?_, fun v60 => ?_⟩
   ·obtain rfl : v54 = .int .i64 (wI x25) := hsR S_ 54 rfl
    obtain rfl : v59 = .int .i64 (wI x26 * 256) := hsR S_ 59 rfl
    clear S_
    have H := kp (kK [0] H o_)
    have HOX := kp o_
    clear o_
    go_wp2_with fail
    exact ⟨rfl, _, rfl, fun d hd => by cases hd; exact (congrArg (Value.int .i64) HOR.out), Ext.refl _⟩
   simp only [pA]
   refine ⟨fun w_ o_ S_ => ?_, fun v7 => ?_⟩
   ·obtain rfl : v60 = .int .i64 (wI x25 + 256 * wI x26) := hsR S_ 60 rfl
    clear S_ o_
    go_wp2_with fail
    exact kso
   simp only [pA]
   clear H
   intro w9 HOX H hfin
   obtain rfl : v51 = .slice (some ⟨gb, ob, none⟩) n c := hfin 51 (by decide)
   obtain rfl : v52 = .pointer (some ⟨gb, ob + 25, none⟩) := hfin 52 (by decide)
   obtain rfl : v53 = .int .u8 (wI x25) := hfin 53 (by decide)
   obtain rfl : v54 = .int .i64 (wI x25) := hfin 54 (by decide)
   obtain rfl : v55 = .slice (some ⟨gb, ob, none⟩) n c := hfin 55 (by decide)
   obtain rfl : v56 = .pointer (some ⟨gb, ob + 26, none⟩) := hfin 56 (by decide)
   obtain rfl : v57 = .int .u8 (wI x26) := hfin 57 (by decide)
   obtain rfl : v58 = .int .i64 (wI x26) := hfin 58 (by decide)
   obtain rfl : v59 = .int .i64 (wI x26 * 256) := hfin 59 (by decide)
   obtain rfl : v60 = .int .i64 (wI x25 + 256 * wI x26) := hfin 60 (by decide)
   obtain rfl : v7 = .int .i64 (wI x25 + 256 * wI x26) := hfin 7 (by decide)
   clear hfin
   simp only [List.drop_succ_cons, List.drop_zero]
   simp only [applyS] at H
   have HXN := kp (HOX.out.ext (Ext.refl w8) (fun g hg => by cases hg))
   rw [← HSD.out]
   have HS9 := kp (HS7.out.ext HXN.out)
   clear HS7 HOR HR25 HR26 HC25 HC26 HSD
   have HNK := kp (show odd1 b = (decide (wI x0 < 1) || decide (4 < wI x0) || decide (4611686018427387904 ≤ countP b) || decide (saidP b ≠ wantP b) || decide (((dataP b).length : Int) ≠ wantP b)) by unfold odd1; rw [HK.out])
   go_wp2_with fail
   subst h17
   refine wp_cut (8 :: 61 :: 62 :: 63 :: 64 :: 65 :: 66 :: 67 :: 68 :: 69 :: 70 :: 71 :: 72 :: 73 :: 74 :: 75 :: 76 :: 77 :: 78 :: 79 :: 80 :: 81 :: 82 :: 83 :: 84 :: []) (fun vs w' => w' = w9 ∧ vs 8 = .bool (odd1 b)) ?_ ?_
   ·go_wp2_with (first | ((with_reducible refine isLd 5 ?_); (refine L_f1 H rfl 5 _ rfl 0 rfl _ rfl _ rfl _ rfl Try.underlying5 rfl ?_); simp only [pA]) | ((with_reducible refine isLd 33 ?_); (refine L_f1 H rfl 33 _ rfl 0 rfl _ rfl _ rfl _ rfl Try.underlying33 rfl ?_); simp only [pA]))
    all_goals exact CutP.of rfl (by kernel_rfl) ⟨rfl, by show Value.bool _ = Value.bool _; rw [HNK.out]; first | (simp [*]; done) | (simp_all; done) | (simp [*] <;> omega) | (refine congrArg Value.bool ?_; rw [decide_eq_false (show ¬ wI x0 < 1 by omega), decide_eq_false (show ¬ 4 < wI x0 by omega), decide_eq_false (show ¬ 4611686018427387904 ≤ countP b by omega), show decide (saidP b ≠ wantP b) = false by simp [*]]; rw [Bool.eq_iff_iff]; simp)⟩
   rintro vs w10 ⟨rfl, e8⟩
   simp only [putMany, List.setIfInBounds_toArray, List.set_cons_zero, List.set_cons_succ]
   rw [e8]
   clear e8
   have HPE := kp (show parseE b = if oddP b then 12 else 0 by unfold parseE; rw [if_neg (by rw [← HNL.out]; omega)])
   have HOQ := kp (odd_eq b)
   rw [HK.out] at HOQ
   have HTS := kp (show ∀ W, Ext w W → SlB W (.slice (some ⟨gb, ob + (n - 16), none⟩) (n - (n - 16)) (c - (n - 16))) (b.drop (b.length - 16)) from fun W hx => by
    rw [← HNL.out]
    exact (HS.out.ext hx).from (n - 16) (n - (n - 16)) (c - (n - 16)) (by rw [← HNL.out]) (by omega))
   have hd16 : (n : Int) - 16 = ((n - 16 : Nat) : Int) := by omega
   have hle16 : n - 16 ≤ n := by omega
   go_wp2_with fail
   subst h18
   refine wp_cut (8 :: 85 :: 86 :: 87 :: 88 :: 89 :: 90 :: 91 :: 92 :: 93 :: 94 :: 95 :: 96 :: 97 :: 98 :: 99 :: 100 :: 101 :: 102 :: 103 :: 104 :: 105 :: 106 :: 107 :: 108 :: 109 :: 110 :: 111 :: []) (fun vs w' => Kp (Ext w10 w') ∧ Kp (Loc w w' [(g2, 78, cat (partsM (wI x0) cm (nonceP b) da (dataP b).length dc))]) ∧ vs 8 = .bool (oddP b)) ?_ ?_
   ·cases ho1 : odd1 b
    ·cases k4 : (wI x0 == 4)
     ·cases k1 : (wI x0 == 1)
      ·skip
       refine region_z H 27 (by kernel_rfl) (by kernel_rfl) (by kernel_rfl) (by kernel_rfl) (by decide) (Nat.le_of_ble_eq_true (by kernel_rfl)) ?_
       apply Exists.intro
       refine ⟨fun xz2 => ?_, fun wz2 HXZ H => ?_⟩
       ·simp only [List.take_succ_cons, List.take_zero]
        unfold Cx
        repeat (first | ((with_reducible show wpQuiet _ _ _ _ (Oper.mk _ (Op.load 5 _) _ _ _ _ :: _) _); go_big_quiet_want; (refine qz_1 H 5 _ rfl 0 rfl _ rfl _ rfl _ rfl Try.underlying5 rfl ?_); simp only [pA]; go_big_quiet_on) | go_big_quiet_step (fail))
        exact wpQuiet_nil rfl
       simp only [List.drop_succ_cons, List.drop_zero]
       go_wp2_with fail
       exact CutP.of rfl (by kernel_rfl) ⟨HXZ, H, by show Value.bool _ = Value.bool _; rw [HOQ.out]; simp [ho1, k4, k1]⟩
      ·have K4 := kp k4
       have K1 := kp k1
       refine region_free H (tabS [(85, fun vQ _ => vQ = .bool false), (86, fun vQ _ => vQ = .bool false), (87, fun vQ _ => vQ = .pointer (some ⟨g2, 0, none⟩)), (88, fun vQ _ => vQ = .int .u8 (wI x0)), (89, fun vQ _ => vQ = .bool false), (90, fun vQ _ => vQ = .bool false), (91, fun vQ _ => vQ = undef), (92, fun vQ _ => vQ = undef), (93, fun vQ _ => vQ = undef), (94, fun vQ _ => vQ = undef), (95, fun vQ _ => vQ = .bool false), (96, fun vQ _ => vQ = .bool false), (97, fun vQ _ => vQ = .bool false), (98, fun vQ _ => vQ = .pointer (some ⟨g2, 0, none⟩)), (99, fun vQ _ => vQ = .int .u8 (wI x0)), (100, fun vQ _ => vQ = .bool true), (101, fun vQ _ => vQ = .bool true), (102, fun vQ _ => vQ = .slice (some ⟨gb, ob, none⟩) n c), (103, fun vQ _ => vQ = .slice (some ⟨gb, ob, none⟩) n c), (104, fun vQ _ => vQ = .int .i64 n), (105, fun vQ _ => vQ = .int .i64 ((n - 16 : Nat) : Int)), (106, fun vQ _ => vQ = .slice (some ⟨gb, ob + (n - 16), none⟩) (n - (n - 16)) (c - (n - 16))), (107, fun vQ wQ => NewS 5 16 ((zv 16).1.map V8) vQ wQ), (108, fun vQ _ => vQ = .bool (b.drop (b.length - 16) == (zv 16).1)), (109, fun vQ _ => vQ = .bool (!(b.drop (b.length - 16) == (zv 16).1))), (110, fun vQ _ => vQ = .bool (!(b.drop (b.length - 16) == (zv 16).1))), (111, fun vQ _ => vQ = .bool (!(b.drop (b.length - 16) == (zv 16).1)))]) [] (tabS_out _ _ (by simp only [List.forall_mem_cons, mono_eqO, true_and]; exact ⟨(mono_NewS _ _ _), by simp⟩)) 27 (by kernel_rfl) (by kernel_rfl) (by kernel_rfl) (by kernel_rfl) [] [] rfl rfl (by decide) (by decide) (by decide) trivial ?_
       simp only [List.take_succ_cons, List.take_zero]
       refine ⟨fun w_ o_ S_ => ?_, fun v85 => ?_⟩
       ·clear S_
        clear o_
        go_wp2_with fail
        exact kso
       simp only [pA]
       refine ⟨fun w_ o_ S_ => ?_, fun v86 => ?_⟩
       ·obtain rfl : v85 = .bool false := hsR S_ 85 rfl
        clear S_ o_
        go_wp2_with fail
        exact kso
       simp only [pA]
       refine ⟨fun w_ o_ S_ => ?_, fun v87 => ?_⟩
       ·obtain rfl : v86 = .bool false := hsR S_ 86 rfl
        clear S_ o_
        go_wp2_with fail
        exact kso
       simp only [pA]
       refine ⟨fun w_ o_ S_ => ?_, fun v88 => ?_⟩
       ·obtain rfl : v86 = .bool false := hsR S_ 86 rfl
        obtain rfl : v87 = .pointer (some ⟨g2, 0, none⟩) := hsR S_ 87 rfl
        clear S_
        have H := kp (kK [0] H o_)
        have HOX := kp o_
        clear o_
        go_wp2_with ((with_reducible refine isLd 5 ?_); (refine L_f1 H rfl 5 _ rfl 0 rfl _ rfl _ rfl _ rfl Try.underlying5 rfl ?_); simp only [pA])
        exact kso
       simp only [pA]
       refine ⟨fun w_ o_ S_ => ?_, fun v89 => ?_⟩
       ·obtain rfl : v86 = .bool false := hsR S_ 86 rfl
        obtain rfl : v88 = .int .u8 (wI x0) := hsR S_ 88 rfl
        clear S_
        have H := kp (kK [0] H o_)
        have HOX := kp o_
        clear o_
        go_wp2_with fail
        exact kso
       simp only [pA]
       refine ⟨fun w_ o_ S_ => ?_, fun v90 => ?_⟩
       ·obtain rfl : v86 = .bool false := hsR S_ 86 rfl
        obtain rfl : v89 = .bool false := hsR S_ 89 rfl
        clear S_ o_
        go_wp2_with fail
        exact kso
       simp only [pA]
       refine ⟨fun w_ o_ S_ => ?_, fun v91 => ?_⟩
       ·obtain rfl : v90 = .bool false := hsR S_ 90 rfl
        clear S_ o_
        go_wp2_with fail
        exact kso
       simp only [pA]
       refine ⟨fun w_ o_ S_ => ?_, fun v92 => ?_⟩
       ·obtain rfl : v90 = .bool false := hsR S_ 90 rfl
        clear S_ o_
        go_wp2_with fail
        exact kso
       simp only [pA]
       refine ⟨fun w_ o_ S_ => ?_, fun v93 => ?_⟩
       ·obtain rfl : v90 = .bool false := hsR S_ 90 rfl
        clear S_ o_
        go_wp2_with fail
        exact kso
       simp only [pA]
       refine ⟨fun w_ o_ S_ => ?_, fun v94 => ?_⟩
       ·obtain rfl : v90 = .bool false := hsR S_ 90 rfl
        clear S_ o_
        go_wp2_with fail
        exact kso
       simp only [pA]
       refine ⟨fun w_ o_ S_ => ?_, fun v95 => ?_⟩
       ·obtain rfl : v86 = .bool false := hsR S_ 86 rfl
        obtain rfl : v90 = .bool false := hsR S_ 90 rfl
        obtain rfl : v94 = undef := hsR S_ 94 rfl
        clear S_ o_
        go_wp2_with fail
        exact kso
       simp only [pA]
       refine ⟨fun w_ o_ S_ => ?_, fun v96 => ?_⟩
       ·obtain rfl : v86 = .bool false := hsR S_ 86 rfl
        obtain rfl : v95 = .bool false := hsR S_ 95 rfl
        clear S_ o_
        go_wp2_with fail
        exact kso
       simp only [pA]
       refine ⟨fun w_ o_ S_ => ?_, fun v97 => ?_⟩
       ·obtain rfl : v96 = .bool false := hsR S_ 96 rfl
        clear S_ o_
        go_wp2_with fail
        exact kso
       simp only [pA]
       refine ⟨fun w_ o_ S_ => ?_, fun v98 => ?_⟩
       ·obtain rfl : v97 = .bool false := hsR S_ 97 rfl
        clear S_ o_
        go_wp2_with fail
        exact kso
       simp only [pA]
       refine ⟨fun w_ o_ S_ => ?_, fun v99 => ?_⟩
       ·obtain rfl : v97 = .bool false := hsR S_ 97 rfl
        obtain rfl : v98 = .pointer (some ⟨g2, 0, none⟩) := hsR S_ 98 rfl
        clear S_
        have H := kp (kK [0] H o_)
        have HOX := kp o_
        clear o_
        go_wp2_with ((with_reducible refine isLd 5 ?_); (refine L_f1 H rfl 5 _ rfl 0 rfl _ rfl _ rfl _ rfl Try.underlying5 rfl ?_); simp only [pA])
        exact kso
       simp only [pA]
       refine ⟨fun w_ o_ S_ => ?_, fun v100 => ?_⟩
       ·obtain rfl : v97 = .bool false := hsR S_ 97 rfl
        obtain rfl : v99 = .int .u8 (wI x0) := hsR S_ 99 rfl
        clear S_
        have H := kp (kK [0] H o_)
        have HOX := kp o_
        clear o_
        go_wp2_with fail
        exact kso
       simp only [pA]
       refine ⟨fun w_ o_ S_ => ?_, fun v101 => ?_⟩
       ·obtain rfl : v97 = .bool false := hsR S_ 97 rfl
        obtain rfl : v100 = .bool true := hsR S_ 100 rfl
        clear S_ o_
        go_wp2_with fail
        exact kso
       simp only [pA]
       refine ⟨fun w_ o_ S_ => ?_, fun v102 => ?_⟩
       ·obtain rfl : v101 = .bool true := hsR S_ 101 rfl
        clear S_ o_
        go_wp2_with fail
        exact kso
       simp only [pA]
       refine ⟨fun w_ o_ S_ => ?_, fun v103 => ?_⟩
       ·obtain rfl : v101 = .bool true := hsR S_ 101 rfl
        clear S_ o_
        go_wp2_with fail
        exact kso
       simp only [pA]
       refine ⟨fun w_ o_ S_ => ?_, fun v104 => ?_⟩
       ·obtain rfl : v101 = .bool true := hsR S_ 101 rfl
        obtain rfl : v103 = .slice (some ⟨gb, ob, none⟩) n c := hsR S_ 103 rfl
        clear S_ o_
        go_wp2_with fail
        exact kso
       simp only [pA]
       refine ⟨fun w_ o_ S_ => ?_, fun v105 => ?_⟩
       ·obtain rfl : v101 = .bool true := hsR S_ 101 rfl
        obtain rfl : v104 = .int .i64 n := hsR S_ 104 rfl
        clear S_
        have H := kp (kK [0] H o_)
        have HOX := kp o_
        clear o_
        go_wp2_with fail
        exact kso
       simp only [pA]
       refine ⟨fun w_ o_ S_ => ?_, fun v106 => ?_⟩
       ·obtain rfl : v101 = .bool true := hsR S_ 101 rfl
        obtain rfl : v102 = .slice (some ⟨gb, ob, none⟩) n c := hsR S_ 102 rfl
        obtain rfl : v105 = .int .i64 ((n - 16 : Nat) : Int) := hsR S_ 105 rfl
        clear S_ o_
        go_wp2_with fail
        exact kso
       simp only [pA]
       refine ⟨fun w_ o_ S_ => ?_, fun v107 => ?_⟩
       ·obtain rfl : v101 = .bool true := hsR S_ 101 rfl
        clear S_
        have H := kp (kK [0] H o_)
        have HOX := kp o_
        clear o_
        go_wp2_with ((with_reducible show wpList _ _ _ (Oper.mk (some 107) (Op.makeSlice 33 _ _) _ _ _ _ :: _) _ _); (refine L_mk H (by kernel_rfl) 33 _ _ rfl (.int .i64 16) (.int .i64 16) rfl rfl 16 16 5 ((zv 16).1.map V8) (fun _ => by kernel_rfl) ?_); clear H; intro g107 w107 HGg107 HEg107 H; simp only [pA])
        exact ⟨rfl, _, rfl, fun d hd => by cases hd; exact ⟨g107, rfl, H.out.at 0 rfl⟩, HEg107.out⟩
       simp only [pA]
       refine ⟨fun w_ o_ S_ => ?_, fun v108 => ?_⟩
       ·obtain rfl : v101 = .bool true := hsR S_ 101 rfl
        obtain rfl : v106 = .slice (some ⟨gb, ob + (n - 16), none⟩) (n - (n - 16)) (c - (n - 16)) := hsR S_ 106 rfl
        have h107 := kp (show NewS 5 16 ((zv 16).1.map V8) v107 w_ from hsR S_ 107 rfl)
        clear S_
        have H := kp (kK [0] H o_)
        have HOX := kp o_
        clear o_
        obtain ⟨gz, rfl, hz⟩ := h107.out
        have HZ := kp hz
        clear hz
        go_wp2_with fail
        refine (equal_any _ _ _ _ _ _ _ _ _ _ _ (HTS.out _ H.out.1) (SlB.of_block (l := (zv 16).1) HZ.out)).mono ?_
        rintro e w2 ⟨rfl, rfl⟩
        go_wp2_with fail
        exact kso
       simp only [pA]
       refine ⟨fun w_ o_ S_ => ?_, fun v109 => ?_⟩
       ·obtain rfl : v101 = .bool true := hsR S_ 101 rfl
        obtain rfl : v108 = .bool (b.drop (b.length - 16) == (zv 16).1) := hsR S_ 108 rfl
        clear S_ o_
        go_wp2_with fail
        exact kso
       simp only [pA]
       refine ⟨fun w_ o_ S_ => ?_, fun v110 => ?_⟩
       ·obtain rfl : v97 = .bool false := hsR S_ 97 rfl
        obtain rfl : v101 = .bool true := hsR S_ 101 rfl
        obtain rfl : v109 = .bool (!(b.drop (b.length - 16) == (zv 16).1)) := hsR S_ 109 rfl
        clear S_ o_
        go_wp2_with fail
        exact kso
       simp only [pA]
       refine ⟨fun w_ o_ S_ => ?_, fun v111 => ?_⟩
       ·obtain rfl : v97 = .bool false := hsR S_ 97 rfl
        obtain rfl : v110 = .bool (!(b.drop (b.length - 16) == (zv 16).1)) := hsR S_ 110 rfl
        clear S_ o_
        go_wp2_with fail
        exact kso
       simp only [pA]
       clear H
       intro w11 HOX H hfin
       obtain rfl : v85 = .bool false := hfin 85 (by decide)
       obtain rfl : v86 = .bool false := hfin 86 (by decide)
       obtain rfl : v87 = .pointer (some ⟨g2, 0, none⟩) := hfin 87 (by decide)
       obtain rfl : v88 = .int .u8 (wI x0) := hfin 88 (by decide)
       obtain rfl : v89 = .bool false := hfin 89 (by decide)
       obtain rfl : v90 = .bool false := hfin 90 (by decide)
       obtain rfl : v91 = undef := hfin 91 (by decide)
       obtain rfl : v92 = undef := hfin 92 (by decide)
       obtain rfl : v93 = undef := hfin 93 (by decide)
       obtain rfl : v94 = undef := hfin 94 (by decide)
       obtain rfl : v95 = .bool false := hfin 95 (by decide)
       obtain rfl : v96 = .bool false := hfin 96 (by decide)
       obtain rfl : v97 = .bool false := hfin 97 (by decide)
       obtain rfl : v98 = .pointer (some ⟨g2, 0, none⟩) := hfin 98 (by decide)
       obtain rfl : v99 = .int .u8 (wI x0) := hfin 99 (by decide)
       obtain rfl : v100 = .bool true := hfin 100 (by decide)
       obtain rfl : v101 = .bool true := hfin 101 (by decide)
       obtain rfl : v102 = .slice (some ⟨gb, ob, none⟩) n c := hfin 102 (by decide)
       obtain rfl : v103 = .slice (some ⟨gb, ob, none⟩) n c := hfin 103 (by decide)
       obtain rfl : v104 = .int .i64 n := hfin 104 (by decide)
       obtain rfl : v105 = .int .i64 ((n - 16 : Nat) : Int) := hfin 105 (by decide)
       obtain rfl : v106 = .slice (some ⟨gb, ob + (n - 16), none⟩) (n - (n - 16)) (c - (n - 16)) := hfin 106 (by decide)
       have F107 := kp (show NewS 5 16 ((zv 16).1.map V8) v107 w11 from hfin 107 (by decide))
       obtain rfl : v108 = .bool (b.drop (b.length - 16) == (zv 16).1) := hfin 108 (by decide)
       obtain rfl : v109 = .bool (!(b.drop (b.length - 16) == (zv 16).1)) := hfin 109 (by decide)
       obtain rfl : v110 = .bool (!(b.drop (b.length - 16) == (zv 16).1)) := hfin 110 (by decide)
       obtain rfl : v111 = .bool (!(b.drop (b.length - 16) == (zv 16).1)) := hfin 111 (by decide)
       clear hfin
       simp only [List.drop_succ_cons, List.drop_zero]
       simp only [applyS] at H
       have HXN := kp (HOX.out.ext (Ext.refl w10) (fun g hg => by cases hg))
       go_wp2_with fail
       exact CutP.of rfl (by kernel_rfl) ⟨HXN, H, by show Value.bool _ = Value.bool _; rw [HOQ.out]; simp only [ho1, K4.out, K1.out, Bool.false_or, Bool.false_and, Bool.true_and]; refine congrArg Value.bool (Bool.eq_iff_iff.2 ?_); simp⟩
     ·have k1 : (wI x0 == 1) = false := by simp at k4 ⊢; omega
      cases hz : decide (nonceP b = zv 16)
      ·skip
       refine region_z H 27 (by kernel_rfl) (by kernel_rfl) (by kernel_rfl) (by kernel_rfl) (by decide) (Nat.le_of_ble_eq_true (by kernel_rfl)) ?_
       apply Exists.intro
       refine ⟨fun xz3 => ?_, fun wz3 HXZ H => ?_⟩
       ·simp only [List.take_succ_cons, List.take_zero]
        unfold Cx
        repeat (first | ((with_reducible show wpQuiet _ _ _ _ (Oper.mk _ (Op.load 5 _) _ _ _ _ :: _) _); go_big_quiet_want; (refine qz_1 H 5 _ rfl 0 rfl _ rfl _ rfl _ rfl Try.underlying5 rfl ?_); simp only [pA]; go_big_quiet_on) | ((with_reducible show wpQuiet _ _ _ _ (Oper.mk _ (Op.load 26 _) _ _ _ _ :: _) _); go_big_quiet_want; (refine qz_v H 26 _ rfl 0 rfl _ rfl _ rfl rfl Try.underlying26 rfl (by kernel_rfl) ?_); simp only [pA]; go_big_quiet_on) | ((with_reducible show wpQuiet _ _ _ _ (Oper.mk _ (Op.build _ _) _ _ _ _ :: _) _); go_big_quiet_want; refine qz_bd 26 _ rfl #[] (by kernel_rfl) ((zv 16).1.map V8) (fun _ => by kernel_rfl) ?_; simp only [pA]; go_big_quiet_on) | ((with_reducible show wpQuiet _ _ _ _ (Oper.mk _ (Op.binOp _ 26 _ _ _) _ _ _ _ :: _) _); go_big_quiet_want; (refine qz_ne 26 _ _ _ rfl _ _ _ rfl rfl Try.eqGuardType26 (fun _ => eqV_in _ Try.underlying26 _ _ 9998) ?_); simp only [pA]; go_big_quiet_on) | go_big_quiet_step (fail))
        exact wpQuiet_nil rfl
       simp only [List.drop_succ_cons, List.drop_zero]
       go_wp2_with fail
       exact CutP.of rfl (by kernel_rfl) ⟨HXZ, H, by show Value.bool _ = Value.bool _; rw [HOQ.out]; simp [ho1, k4, k1, of_decide_eq_false hz]⟩
      ·skip
       refine region_z H 27 (by kernel_rfl) (by kernel_rfl) (by kernel_rfl) (by kernel_rfl) (by decide) (Nat.le_of_ble_eq_true (by kernel_rfl)) ?_
       apply Exists.intro
       refine ⟨fun xz4 => ?_, fun wz4 HXZ H => ?_⟩
       ·simp only [List.take_succ_cons, List.take_zero]
        unfold Cx
        repeat (first | ((with_reducible show wpQuiet _ _ _ _ (Oper.mk _ (Op.load 5 _) _ _ _ _ :: _) _); go_big_quiet_want; (refine qz_1 H 5 _ rfl 0 rfl _ rfl _ rfl _ rfl Try.underlying5 rfl ?_); simp only [pA]; go_big_quiet_on) | ((with_reducible show wpQuiet _ _ _ _ (Oper.mk _ (Op.load 26 _) _ _ _ _ :: _) _); go_big_quiet_want; (refine qz_v H 26 _ rfl 0 rfl _ rfl _ rfl rfl Try.underlying26 rfl (by kernel_rfl) ?_); simp only [pA]; go_big_quiet_on) | ((with_reducible show wpQuiet _ _ _ _ (Oper.mk _ (Op.build _ _) _ _ _ _ :: _) _); go_big_quiet_want; refine qz_bd 26 _ rfl #[] (by kernel_rfl) ((zv 16).1.map V8) (fun _ => by kernel_rfl) ?_; simp only [pA]; go_big_quiet_on) | ((with_reducible show wpQuiet _ _ _ _ (Oper.mk _ (Op.binOp _ 26 _ _ _) _ _ _ _ :: _) _); go_big_quiet_want; (refine qz_ne 26 _ _ _ rfl _ _ _ rfl rfl Try.eqGuardType26 (fun _ => eqV_in _ Try.underlying26 _ _ 9998) ?_); simp only [pA]; go_big_quiet_on) | go_big_quiet_step (fail))
        exact wpQuiet_nil rfl
       simp only [List.drop_succ_cons, List.drop_zero]
       go_wp2_with fail
       exact CutP.of rfl (by kernel_rfl) ⟨HXZ, H, by show Value.bool _ = Value.bool _; rw [HOQ.out]; simp [ho1, k4, k1, of_decide_eq_true hz]⟩
    ·skip
     refine region_z H 27 (by kernel_rfl) (by kernel_rfl) (by kernel_rfl) (by kernel_rfl) (by decide) (Nat.le_of_ble_eq_true (by kernel_rfl)) ?_
     apply Exists.intro
     refine ⟨fun xz5 => ?_, fun wz5 HXZ H => ?_⟩
     ·simp only [List.take_succ_cons, List.take_zero]
      unfold Cx
      repeat (go_big_quiet_step (fail))
      exact wpQuiet_nil rfl
     simp only [List.drop_succ_cons, List.drop_zero]
     go_wp2_with fail
     exact CutP.of rfl (by kernel_rfl) ⟨HXZ, H, by show Value.bool _ = Value.bool _; rw [HOQ.out]; simp [ho1]⟩
   rintro vs w11 ⟨HX11, H, e8⟩
   simp only [putMany, List.setIfInBounds_toArray, List.set_cons_zero, List.set_cons_succ]
   rw [e8]
   clear e8
   have HS11 := kp (HS9.out.ext HX11.out)
   subst h19
   cases ho : oddP b with
   | true =>
    rw [ho] at HPE
    clear ho
    go_wp2_with (first | ((with_reducible refine isSt 78 ?_); (refine L_sn H rfl rfl 78 _ _ rfl 0 rfl rfl rfl rfl (by kernel_rfl) ?_)) | ((with_reducible refine isLd 78 ?_); (refine L_fa H rfl 78 _ rfl 0 rfl rfl Try.underlying78 rfl (by kernel_rfl) ?_); simp only [pA]))
    (exact ret_f2 H Try.results33 0 rfl rfl _ rfl Try.underlying78 rfl (by kernel_rfl) rfl (⟨_, _, _, _, _, _, by rw [HPE.out]; rfl, H.out.1, fun h => by rw [HPE.out] at h; exact absurd h (by decide)⟩))
   | false =>
    rw [ho] at HPE
    have HCB := kp (show countP b < 4611686018427387904 by
     have h2 := HOQ.out
     rw [ho] at h2
     simp only [Bool.false_eq, Bool.or_eq_false_iff] at h2
     have h3 := h2.1.1
     rw [HNK.out] at h3
     simp only [Bool.or_eq_false_iff, decide_eq_false_iff_not] at h3
     have := h3.1.1.2
     omega)
    clear ho
    go_wp2_with (first | ((with_reducible refine isSt 78 ?_); (refine L_sn H rfl rfl 78 _ _ rfl 0 rfl rfl rfl rfl (by kernel_rfl) ?_)) | ((with_reducible refine isLd 78 ?_); (refine L_fa H rfl 78 _ rfl 0 rfl rfl Try.underlying78 rfl (by kernel_rfl) ?_); simp only [pA]))
    (exact ret_f2 H Try.results33 0 rfl rfl _ rfl Try.underlying78 rfl (by kernel_rfl) rfl (⟨_, _, _, _, _, _, by rw [HPE.out]; rfl, H.out.1, fun _ => ⟨HK.out.symm, HCM.out HCB.out, rfl, HS11.out, HC7.out⟩⟩))
end Go.Proofs.Ytibncchobkaaiaa
