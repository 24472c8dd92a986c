/- Texts of this proof, put together: Ref21b, RefMac, RfM, Sm, Open, Same22. -/
import Derived.Test.YtibncchobkaaiaaF18
import Derived.Test.YtibncchobkaaiaaF17
import Derived.Test.YtibncchobkaaiaaF14
import Derived.Test.YtibncchobkaaiaaF16
import Derived.Test.YtibncchobkaaiaaF1
import Derived.ProofKit
import Derived.OpenShut
namespace Go.Proofs.Ytibncchobkaaiaa
open Go.RowKit
set_option maxHeartbeats 3200000 in
theorem rencrypt_any (ks bs : List (BitVec 8)) (hk : ks.length = 16) (hb : bs.length = 16) (w : World) :
  Calls Try.prog 75 #[.agg (ks.map V8).toArray, .agg (bs.map V8).toArray] w
   fun e w' => e = .returned (.agg ((encF ks bs).map V8).toArray) ∧ Ext w w' := by
 have HK := kp (show (Try.prog.info? 25).map (·.size) = some (ks.map V8).toArray.size by rw [size25]; simp [hk])
 have HB := kp (show (Try.prog.info? 115).map (·.size) = some (bs.map V8).toArray.size by rw [size115]; simp [hb])
 have c2 := kp (rwords_any bs hb)
 have c3 := kp (rschedule_any ks hk)
 have HSL := kp (schedF_len ks)
 have HWL := kp (wordsF_len bs)
 have HEF := kp (show encF ks bs = joinF (encTo (maskF (wordsF bs) (schedF ks)) (schedF ks) 16) from rfl)
 generalize hss : schedF ks = ss at *
 generalize hws : wordsF bs = xs at *
 have HS := kp (show (Try.prog.info? 146).map (·.size) = some (ss.map V32).toArray.size by rw [size146]; simp [HSL.out])
 have HX := kp (show (Try.prog.info? 148).map (·.size) = some (xs.map V32).toArray.size by rw [size148]; simp [HWL.out])
 clear hk hb hss hws
 go_enter Try.func75, Try.ntmps75
 go_wp2_with (first | ((with_reducible refine isLd 25 ?_); (with_reducible refine wpList_load_row rfl 25 _ rfl (w.heap.size) rfl 25 ((ks.map V8).toArray) (0, 0) _ (hp_alloc (hp_alloc (hp_new _ _))) Try.underlying25 rfl (HK.out) ?_); simp only [pA]) | (go_at_call 90; refine (c3.out _).mono ?_; rintro e w' ⟨rfl, xa, rfl⟩) | ((with_reducible refine isSt 146 ?_); with_reducible refine wpList_st_row rfl rfl 146 _ _ rfl (_) ((ss.map V32).toArray) rfl rfl 146 (_) (hp_at _ _ _ (by simp)) (HS.out) (by rw [zero36]; simp [HSL.out]) (all_V32 _) (by rewrite [setRow_at _ _ _ _ _ _ (by simp <;> omega)]; rfl) ?_) | ((with_reducible refine isLd 115 ?_); (with_reducible refine wpList_load_row rfl 115 _ rfl (w.heap.size + 1) rfl 115 ((bs.map V8).toArray) (0, 0) _ (hp_alloc (hp_more (hp_alloc (hp_at _ _ _ (by simp))))) Try.underlying115 rfl (HB.out) ?_); simp only [pA]) | (go_at_call 91; refine (c2.out _).mono ?_; rintro e w' ⟨rfl, xb, rfl⟩) | ((with_reducible refine isSt 148 ?_); with_reducible refine wpList_st_row rfl rfl 148 _ _ rfl (_) ((xs.map V32).toArray) rfl rfl 148 (#[.int .u32 0, .int .u32 0, .int .u32 0, .int .u32 0]) (hp_at _ _ _ (by simp)) (HX.out) (by simp [HWL.out]) (all_V32 _) (by rewrite [setRow_at _ _ _ _ _ _ (by simp <;> omega)]; rfl) ?_))
 go_loopw [7] (fun i wr => ∃ (k : Nat) (x : Xtra), k ≤ 4 ∧ i = .int .i64 k ∧ wr = more ((more ((more (((w.alloc (.cells (ks.map V8).toArray 25)).alloc (.cells (bs.map V8).toArray 115)).alloc (.cells #[.int .u8 0, .int .u8 0, .int .u8 0, .int .u8 0, .int .u8 0, .int .u8 0, .int .u8 0, .int .u8 0, .int .u8 0, .int .u8 0, .int .u8 0, .int .u8 0, .int .u8 0, .int .u8 0, .int .u8 0, .int .u8 0] 115)) xa).alloc (.cells (ss.map V32).toArray 146)) xb).alloc (.cells ((maskTo xs ss k).map V32).toArray 148)) x) (fun i _ => 4 - (intOf i).toNat)
 case atStart => exact ⟨0, _, by omega, rfl, by rw [← more_self]; rfl⟩
 case round =>
  obtain ⟨k, x, hk, rfl, rfl⟩ := hrel
  by_cases hlt : k < 4
  ·obtain ⟨y, hy⟩ : ∃ y, (maskTo xs ss k)[k]? = some y := ⟨(maskTo xs ss k)[k]'(by rw [maskTo_len, HWL.out]; omega), by simp⟩
   obtain ⟨z, hz⟩ : ∃ z, ss[k]? = some z := ⟨ss[k]'(by rw [HSL.out]; omega), by simp⟩
   have HN := kp (show maskTo xs ss (k + 1) = (maskTo xs ss k).set k (y ^^^ z) by rw [maskTo]; simp [hy, hz])
   have hk36 : k < 36 := by omega
   go_wp2_with fail
   (with_reducible refine region_f2 9 (by kernel_rfl) (by kernel_rfl) (by kernel_rfl) (by kernel_rfl) (by decide) (Nat.le_of_ble_eq_true (by kernel_rfl)) ?_)
   apply Exists.intro
   refine ⟨fun xz2 => ?_, fun xq2 => ?_⟩
   ·simp only [List.take_succ_cons, List.take_zero]
    unfold Cx
    repeat (go_big_quiet_step (fail))
    exact wpQuiet_nil rfl
   simp only [List.drop_succ_cons, List.drop_zero]
   go_wp2_with fail
   go_roundw
   case rel => exact ⟨k + 1, _, by omega, by go_num, by rw [HN.out, List.map_set]⟩
   case measure => simp [intOf]; omega
  ·obtain rfl : k = 4 := by omega
   have HML := kp (show (maskTo xs ss 4).length = 4 by rw [maskTo_len, HWL.out])
   have HMF := kp (show maskF xs ss = maskTo xs ss 4 from rfl)
   generalize hms : maskTo xs ss 4 = ms at *
   clear hms
   go_wp2_with fail
   go_loopw [8] (fun i wr => ∃ (k : Nat) (x : Xtra), k ≤ 16 ∧ i = .int .i64 k ∧ wr = more ((more ((more (((w.alloc (.cells (ks.map V8).toArray 25)).alloc (.cells (bs.map V8).toArray 115)).alloc (.cells #[.int .u8 0, .int .u8 0, .int .u8 0, .int .u8 0, .int .u8 0, .int .u8 0, .int .u8 0, .int .u8 0, .int .u8 0, .int .u8 0, .int .u8 0, .int .u8 0, .int .u8 0, .int .u8 0, .int .u8 0, .int .u8 0] 115)) xa).alloc (.cells (ss.map V32).toArray 146)) xb).alloc (.cells ((encTo ms ss k).map V32).toArray 148)) x) (fun i _ => 16 - (intOf i).toNat)
   case atStart => exact ⟨0, _, by omega, rfl, rfl⟩
   case round =>
    obtain ⟨k, x, hk, rfl, rfl⟩ := hrel
    by_cases hlt : k < 16
    ·obtain ⟨p, hp⟩ : ∃ p, ss[4 + 2 * k]? = some p := ⟨ss[4 + 2 * k]'(by rw [HSL.out]; omega), by simp⟩
     obtain ⟨q, hq⟩ : ∃ q, ss[5 + 2 * k]? = some q := ⟨ss[5 + 2 * k]'(by rw [HSL.out]; omega), by simp⟩
     obtain ⟨a, b, c, d, he⟩ := list4 (encTo_len ms ss HML.out k)
     have HN := kp (show encTo ms ss (k + 1) = roundF a b c d p q by rw [encTo, he]; simp [roundL, hp, hq])
     rw [he]
     clear he
     have HR := kp (show (Try.prog.info? 148).map (·.size) = some ((roundF a b c d p q).map V32).toArray.size by rw [size148]; rfl)
     simp only [List.map_cons, List.map_nil]
     go_wp2_with fail
     (with_reducible refine region_f2 12 (by kernel_rfl) (by kernel_rfl) (by kernel_rfl) (by kernel_rfl) (by decide) (Nat.le_of_ble_eq_true (by kernel_rfl)) ?_)
     apply Exists.intro
     refine ⟨fun xz3 => ?_, fun xq3 => ?_⟩
     ·simp only [List.take_succ_cons, List.take_zero]
      unfold Cx
      repeat (go_big_quiet_step (exact Calls.cx_of (rround_any a b c d p q _)))
      exact wpQuiet_nil rfl
     simp only [List.drop_succ_cons, List.drop_zero]
     go_wp2_with ((with_reducible refine isSt 148 ?_); with_reducible refine wpList_st_row rfl rfl 148 _ _ rfl (_) (((roundF a b c d p q).map V32).toArray) rfl rfl 148 (#[V32 a, V32 b, V32 c, V32 d]) (hp_more (hp_at _ _ _ (by simp))) (HR.out) (rfl) (all_V32 _) (by rewrite [setRow_more _ _ _ _ (by first | assumption | (simp <;> omega)), setRow_at _ _ _ _ _ _ (by simp <;> omega)]; rfl) ?_)
     go_roundw
     case rel => exact ⟨k + 1, _, by omega, by go_num, by rw [HN.out]⟩
     case measure => simp [intOf]; omega
    ·obtain rfl : k = 16 := by omega
     have HEL := kp (encTo_len ms ss HML.out 16)
     have HEF2 := kp (show encF ks bs = joinF (encTo ms ss 16) by rw [HEF.out, HMF.out])
     generalize hys : encTo ms ss 16 = ys at *
     clear hys
     have HE := kp (show (Try.prog.info? 148).map (·.size) = some (ys.map V32).toArray.size by rw [size148]; simp [HEL.out])
     have HJ := kp (show (Try.prog.info? 115).map (·.size) = some ((joinF ys).map V8).toArray.size by rw [size115]; simp [joinF_len])
     go_wp2_with (first | ((with_reducible refine isLd 148 ?_); (with_reducible refine wpList_load_row rfl 148 _ rfl (_) rfl 148 ((ys.map V32).toArray) (0, 0) _ (hp_more (hp_at _ _ _ (by simp))) Try.underlying148 rfl (HE.out) ?_); simp only [pA]) | (go_at_call 93; refine (rjoin_any ys HEL.out _).mono ?_; rintro e w' ⟨rfl, xj, rfl⟩; rw [more_more]) | ((with_reducible refine isSt 115 ?_); with_reducible refine wpList_st_row rfl rfl 115 _ _ rfl (w.heap.size + 1 + 1) (((joinF ys).map V8).toArray) rfl rfl 115 (#[.int .u8 0, .int .u8 0, .int .u8 0, .int .u8 0, .int .u8 0, .int .u8 0, .int .u8 0, .int .u8 0, .int .u8 0, .int .u8 0, .int .u8 0, .int .u8 0, .int .u8 0, .int .u8 0, .int .u8 0, .int .u8 0]) (hp_more (hp_alloc (hp_more (hp_alloc (hp_more (hp_at _ _ _ (by simp))))))) (HJ.out) (by simp [joinF_len]) (all_V8 _) (by rewrite [setRow_more _ _ _ _ (by first | assumption | (simp <;> omega)), setRow_past _ _ _ _ (by simp <;> omega), setRow_more _ _ _ _ (by first | assumption | (simp <;> omega)), setRow_past _ _ _ _ (by simp <;> omega), setRow_more _ _ _ _ (by first | assumption | (simp <;> omega)), setRow_at _ _ _ _ _ _ (by simp <;> omega)]; rfl) ?_))
     exact ret_row Try.results75 (w.heap.size + 1 + 1) 115 (((joinF ys).map V8).toArray) (0, 0) _ rfl (hp_more (hp_alloc (hp_more (hp_alloc (hp_more (hp_at _ _ _ (by simp))))))) Try.underlying115 rfl (HJ.out) rfl ⟨by rw [HEF2.out], (((((((Ext.alloc _ _).trans (Ext.alloc _ _)).trans (Ext.alloc _ _)).trans (Ext.more _ _)).trans (Ext.alloc _ _)).trans (Ext.more _ _)).trans (Ext.alloc _ _)).trans (Ext.more _ _)⟩
set_option maxHeartbeats 3200000 in
theorem rmac_any (ks bs : List (BitVec 8)) (hk : ks.length = 16) (hn : bs.length ≤ 100000) (v : Value) (w : World) (hs : SlB w v bs) :
  Calls Try.prog 62 #[.agg (ks.map V8).toArray, v] w fun e w' => e = .returned (.agg ((macF ks bs).map V8).toArray) ∧ Ext w w' := by
 obtain ⟨iu, hiu, hu⟩ := info_iu
 have HIU := kp hiu
 have HU := kp hu
 obtain ⟨ad, cap, rfl⟩ := hs.form
 have HS0 := kp hs
 obtain ⟨n, hnn⟩ : ∃ n, n = bs.length := ⟨_, rfl⟩
 rw [← hnn] at hn ⊢
 have HN := kp hnn
 have HK := kp (sizeK ks hk)
 have HEN := kp (fun (xs : List (BitVec 8)) (hx : xs.length = 16) (w : World) => rencrypt_any ks xs hk hx w)
 clear hiu hu hs hnn hk
 go_enter Try.func62, Try.ntmps62
 go_wp2_with fail
 go_loopw [6, 7] (fun c i wr => ∃ (k : Nat) (x : Xtra), k ≤ 8 ∧ c = .int .i64 ((n : Int) / 2 ^ (8 * k)) ∧ i = .int .i64 ((k : Int) + 1) ∧ wr = more (((w.alloc (.cells (ks.map V8).toArray 25)).alloc (.cells z16 115)).alloc (.cells ((macHdTo n k).map V8).toArray 115)) x) (fun _ i _ => 9 - (intOf i).toNat)
 case atStart => exact ⟨0, _, by omega, by simp, rfl, by rw [← more_self]; rfl⟩
 case round =>
  obtain ⟨k, x, hk, rfl, rfl, rfl⟩ := hrel
  by_cases hlt : k < 8
  ·obtain ⟨y, hy⟩ : ∃ y, (macHdTo n k)[k + 1]? = some y := ⟨(macHdTo n k)[k + 1]'(by rw [macHdTo_len]; omega), by simp⟩
   have HL := kp (lenB_int n k)
   have HD := kp (div_step n k)
   have hq0 : 0 ≤ (n : Int) / 2 ^ (8 * k) := Int.ediv_nonneg (by omega) (Int.le_of_lt (Int.pow_pos (by decide)))
   have hq1 : (n : Int) / 2 ^ (8 * k) ≤ 100000 := by
    have := Int.ediv_le_self (a := (n : Int)) (2 ^ (8 * k)) (by omega)
    omega
   generalize (n : Int) / 2 ^ (8 * k) = q at *
   have hk8 : (k : Int) + 1 ≤ 8 := by omega
   go_wp2_with fail
   go_roundw
   case rel => exact ⟨k + 1, _, by omega, by rw [← HD.out], by go_num, by rw [macHdTo, List.map_set, HL.out, Nat.add_comm 1 k]⟩
   case measure => simp [intOf]; omega
  ·obtain rfl : k = 8 := by omega
   have HHD := kp (show macTo ks bs 0 = encF ks (macHdTo n 8) by rw [macTo, HN.out])
   have HHL := kp (macHdTo_len n 8)
   generalize macHdTo n 8 = hd at *
   have HX0 := kp (show Ext w (((w.alloc (.cells (ks.map V8).toArray 25)).alloc (.cells z16 115)).alloc (.cells (hd.map V8).toArray 115)) from ((Ext.alloc _ _).trans (Ext.alloc _ _)).trans (Ext.alloc _ _))
   have HOE := kp (owns_empty (more (((w.alloc (.cells (ks.map V8).toArray 25)).alloc (.cells z16 115)).alloc (.cells (hd.map V8).toArray 115)) x) (w.heap.size + 1 + 1 + 1) (by simp))
   simp only [more_size, World.size_alloc] at HOE
   have HSB := kp (HS0.out.ext (HX0.out.trans ((Ext.more _ x).trans (Ext.alloc _ (.cells #[] 5)))))
   rw [← HN.out] at HSB
   have HLE := kp (show ([] : List (BitVec 8)).length + bs.length ≤ 1000000 by rw [← HN.out]; simp; omega)
   go_wp2_with (at_builtin; refine wpList_append_SlB rfl _ _ 33 rfl (w.heap.size + 1 + 1 + 1) 5 iu Try.underlying33 HIU.out HU.out.1 HU.out.2.1 HU.out.2.2 _ _ rfl (HOE.out) _ (bs) rfl (HSB.out) (HLE.out) (by simp <;> omega) ?_; intro v2 w2 ho2 hg2)
   have HO2 := kp (show w2.ownsRow (w.heap.size + 1 + 1 + 1) 5 1 v2 (bs ++ List.replicate 0 0).length ((bs ++ List.replicate 0 0).map V8) by simpa using ho2)
   have HX2 := kp (((Ext.more (((w.alloc (.cells (ks.map V8).toArray 25)).alloc (.cells z16 115)).alloc (.cells (hd.map V8).toArray 115)) x).trans (Ext.alloc _ (.cells #[] 5))).grown hg2 (fun q hq => by have := owns_block HOE.out q hq; simpa using this))
   clear ho2 hg2 HOE HSB HLE
   obtain ⟨P, hP⟩ : ∃ P, P = (16 - n % 16) % 16 := ⟨_, rfl⟩
   have HP := kp hP
   have hP15 : P ≤ 15 := by omega
   clear hP
   go_loopw [8] (fun v wr => ∃ k : Nat, k ≤ P ∧ Kp (wr.ownsRow (w.heap.size + 1 + 1 + 1) 5 1 v (bs ++ List.replicate k 0).length ((bs ++ List.replicate k 0).map V8)) ∧ Kp (Ext (((w.alloc (.cells (ks.map V8).toArray 25)).alloc (.cells z16 115)).alloc (.cells (hd.map V8).toArray 115)) wr)) (fun v _ => n + P - sliceLen v)
   case atStart => exact ⟨0, by omega, HO2, HX2⟩
   case round =>
    obtain ⟨k, hkP, HO, HX⟩ := hrel
    have hlen : (bs ++ List.replicate k (0 : BitVec 8)).length = n + k := by rw [List.length_append, List.length_replicate, ← HN.out]
    obtain ⟨av, cv, hvf⟩ := (SlB.of_owns HO.out).form
    rw [hlen] at hvf
    subst hvf
    by_cases hlt : k < P
    ·have hne : (((n : Int) + (k : Int)) % 16 != 0) = true := by have := HP.out; simp; omega
     have hsz : w.heap.size + 1 + 1 + 1 ≤ wr.heap.size := by have := HX.out.size; simpa using this
     have HOA := kp (owns_ext HO.out (Ext.alloc wr (.cells #[.int .u8 0] 5)))
     have HSA := kp (show SlB (wr.alloc (.cells #[.int .u8 0] 5)) (.slice (some ⟨wr.heap.size, 0, none⟩) 1 1) [0#8] from SlB.of_block (hp_new wr _))
     have HLE := kp (show (bs ++ List.replicate k (0 : BitVec 8)).length + [0#8].length ≤ 1000000 by rw [hlen]; simp; omega)
     clear hlen
     go_wp2_with (at_builtin; refine wpList_append_SlB rfl _ _ 33 rfl (w.heap.size + 1 + 1 + 1) 5 iu Try.underlying33 HIU.out HU.out.1 HU.out.2.1 HU.out.2.2 _ _ rfl (HOA.out) _ ([0#8]) rfl (HSA.out) (HLE.out) (by simp <;> omega) ?_; intro v3 w3 ho3 hg3)
     have HX3 := kp ((HX.out.trans (Ext.alloc _ _)).grown hg3 (fun q hq => by have := owns_block HOA.out q hq; simpa using this))
     have HO3 := kp (show w3.ownsRow (w.heap.size + 1 + 1 + 1) 5 1 v3 (bs ++ List.replicate (k + 1) 0).length ((bs ++ List.replicate (k + 1) 0).map V8) by
      have h := ho3
      rw [List.append_assoc, show [0#8] = [(0 : BitVec 8)] from rfl, ← List.replicate_succ'] at h
      exact h)
     have hlen3 : sliceLen v3 = n + k + 1 := by
      obtain ⟨a9, c9, h9⟩ := (SlB.of_owns HO3.out).form
      rw [h9]
      show (bs ++ List.replicate (k + 1) (0 : BitVec 8)).length = _
      rw [List.length_append, List.length_replicate, ← HN.out]; omega
     clear ho3 hg3
     go_roundw
     case rel => exact ⟨k + 1, by omega, HO3, HX3⟩
     case measure => rw [hlen3]; simp [sliceLen]; omega
    ·obtain rfl : k = P := by omega
     have hne : (((n : Int) + (k : Int)) % 16 != 0) = false := by have := HP.out; simp; omega
     obtain ⟨x2, hx2⟩ := HX.out
     subst hx2
     obtain ⟨p, hp⟩ : ∃ p, bs ++ List.replicate k (0 : BitVec 8) = p := ⟨_, rfl⟩
     have HPF := kp (show padF bs = p by rw [← hp, padF, ← HN.out, ← HP.out])
     have HPL := kp (show p.length = n + k by rw [← hp]; exact hlen)
     obtain ⟨m, hm⟩ : ∃ m, m = (n + 15) / 16 := ⟨_, rfl⟩
     have HM := kp hm
     have hnk : n + k = 16 * m := by have := HP.out; omega
     rw [hp] at HO
     have HCELL := kp (fun (j : Nat) (y : BitVec 8) (hj : p[j]? = some y) => show ∃ g, av = some ⟨g, 0, none⟩ ∧ w.heap.size + 1 + 1 + 1 ≤ g ∧ (more (((w.alloc (.cells (ks.map V8).toArray 25)).alloc (.cells z16 115)).alloc (.cells (hd.map V8).toArray 115)) x2).cell? ⟨g, 0 + j, none⟩ = some (V8 y) from by
      obtain ⟨b, off, hav, hb, hc⟩ := (SlB.of_owns HO.out).at j y hj
      obtain ⟨_, h2⟩ := HO.out
      rcases h2 with ⟨h3, h4⟩ | ⟨g, c4, cur, h3, hbg, _⟩
      ·simp only [Value.slice.injEq] at h3; rw [hav] at h3; cases h3.1
      ·simp only [Value.slice.injEq] at h3
       have hg := h3.1
       rw [hav] at hg
       cases hg
       exact ⟨b, hav, hbg, hc⟩)
     clear hm hp hlen HO2 HX2 HX0
     have HR0 := kp (show rmacTo ks bs 0 = encF ks hd by rw [rmacTo, ← HN.out]; rw [macTo, ← HN.out] at HHD; exact HHD.out)
     have HE0 := kp (HEN.out hd HHL.out)
     rw [← HR0.out] at HE0
     have HB0 := kp (sizeB hd HHL.out)
     have HB1 := kp (sizeB (rmacTo ks bs 0) (rmacTo_len ks bs 0))
     have HBB := kp (show (hd.map V8).toArray.size = ((rmacTo ks bs 0).map V8).toArray.size by simp [HHL.out, rmacTo_len])
     go_wp2_with (first | ((with_reducible refine isLd 25 ?_); (with_reducible refine wpList_load_row rfl 25 _ rfl (w.heap.size) rfl 25 ((ks.map V8).toArray) (0, 0) _ (hp_more (hp_alloc (hp_alloc (hp_new _ _)))) Try.underlying25 rfl (HK.out) ?_); simp only [pA]) | ((with_reducible refine isLd 115 ?_); (with_reducible refine wpList_load_row rfl 115 _ rfl (w.heap.size + 1 + 1) rfl 115 ((hd.map V8).toArray) (0, 0) _ (hp_more (hp_at _ _ _ (by simp))) Try.underlying115 rfl (HB0.out) ?_); simp only [pA]) | ((with_reducible refine isSt 115 ?_); with_reducible refine wpList_st_row rfl rfl 115 _ _ rfl (w.heap.size + 1 + 1) (((rmacTo ks bs 0).map V8).toArray) rfl rfl 115 (_) (hp_more (hp_at _ _ _ (by simp))) (HB1.out) (HBB.out) (all_V8 _) (by rewrite [setRow_more _ _ _ _ (by first | assumption | (simp <;> omega)), setRow_at _ _ _ _ _ _ (by simp <;> omega)]; rfl) ?_) | (go_at_call 75; refine (HE0.out _).mono ?_; rintro e w' ⟨rfl, xe, rfl⟩; rw [more_more]))
     go_loopw [9] (fun i wr => ∃ (j : Nat) (x : Xtra), j ≤ m ∧ i = .int .i64 ((16 * j : Nat) : Int) ∧ wr = more (((w.alloc (.cells (ks.map V8).toArray 25)).alloc (.cells z16 115)).alloc (.cells ((rmacTo ks bs j).map V8).toArray 115)) ⟨x2.blocks ++ x.blocks, x.draws⟩) (fun i _ => 16 * m + 16 - (intOf i).toNat)
     case atStart => exact ⟨0, _, by omega, rfl, rfl⟩
     case round =>
      obtain ⟨j, x5, hjm, rfl, rfl⟩ := hrel
      by_cases hjlt : j < m
      ·have hlt9 : ((16 * j : Nat) : Int) < ((n + k : Nat) : Int) := by omega
       have HRL := kp (rmacTo_len ks bs j)
       have HR1 := kp (show rmacTo ks bs (j + 1) = encF ks (xorTo (rmacTo ks bs j) p (16 * j) 16) by rw [rmacTo, HPF.out])
       generalize rmacTo ks bs j = r0 at *
       go_wp2_with fail
       go_loopw [10] (fun i wr => ∃ (t : Nat) (x : Xtra), t ≤ 16 ∧ i = .int .i64 t ∧ wr = more (((w.alloc (.cells (ks.map V8).toArray 25)).alloc (.cells z16 115)).alloc (.cells ((xorTo r0 p (16 * j) t).map V8).toArray 115)) ⟨x2.blocks ++ x.blocks, x.draws⟩) (fun i _ => 16 - (intOf i).toNat)
       case atStart => exact ⟨0, _, by omega, rfl, rfl⟩
       case round =>
        obtain ⟨t, x6, ht, rfl, rfl⟩ := hrel
        by_cases htlt : t < 16
        ·obtain ⟨y, hy⟩ : ∃ y, p[16 * j + t]? = some y := ⟨p[16 * j + t]'(by rw [HPL.out]; omega), by simp⟩
         obtain ⟨g, hav, hg, hcell0⟩ := HCELL.out _ y hy
         subst hav
         have hcell : ∀ (Y : Array Obj) (d : Nat), (more (((w.alloc (.cells (ks.map V8).toArray 25)).alloc (.cells z16 115)).alloc (.cells ((xorTo r0 p (16 * j) t).map V8).toArray 115)) ⟨x2.blocks ++ Y, d⟩).cell? ⟨g, 16 * j + t, none⟩ = some (V8 y) := fun Y d => by
          have h := tail_cell (W' := (((w.alloc (.cells (ks.map V8).toArray 25)).alloc (.cells z16 115)).alloc (.cells ((xorTo r0 p (16 * j) t).map V8).toArray 115))) (y := ⟨Y, d⟩) (d := d) (by simp) (by simpa using hg) hcell0
          rwa [Nat.zero_add] at h
         have hglt : g < w.heap.size + 1 + 1 + 1 + (x2.blocks.size + x6.blocks.size) := by
          have h2 := block_lt_of_cell hcell0
          simp only [more_size, World.size_alloc] at h2
          omega
         clear hcell0
         obtain ⟨z, hz⟩ : ∃ z, (xorTo r0 p (16 * j) t)[t]? = some z := ⟨(xorTo r0 p (16 * j) t)[t]'(by rw [xorTo_len, HRL.out]; omega), by simp⟩
         have HX1 := kp (show xorTo r0 p (16 * j) (t + 1) = (xorTo r0 p (16 * j) t).set t (z ^^^ y) by rw [xorTo]; simp [List.getD, hz, hy])
         clear hy
         go_wp2_with fail
         refine region_f 12 (by kernel_rfl) (by kernel_rfl) (by kernel_rfl) (by kernel_rfl) (by decide) (Nat.le_of_ble_eq_true (by kernel_rfl)) ?_
         apply Exists.intro
         refine ⟨fun xz2 => ?_, fun xq2 => ?_⟩
         ·simp only [List.take_succ_cons, List.take_zero]
          unfold Cx
          repeat (go_big_quiet_step (fail))
          exact wpQuiet_nil rfl
         simp only [List.drop_succ_cons, List.drop_zero]
         go_wp2_with fail
         go_roundw
         case rel => exact ⟨t + 1, ⟨x6.blocks ++ xq2.blocks, xq2.draws⟩, by omega, by go_num, by rw [HX1.out, List.map_set]⟩
         case measure => simp [intOf]; omega
        ·obtain rfl : t = 16 := by omega
         have HXL := kp (show (xorTo r0 p (16 * j) 16).length = 16 by rw [xorTo_len, HRL.out])
         have HE1 := kp (HEN.out (xorTo r0 p (16 * j) 16) HXL.out)
         rw [← HR1.out] at HE1
         have HB2 := kp (sizeB (xorTo r0 p (16 * j) 16) HXL.out)
         have HB3 := kp (sizeB (rmacTo ks bs (j + 1)) (rmacTo_len ks bs (j + 1)))
         have HB4 := kp (show ((xorTo r0 p (16 * j) 16).map V8).toArray.size = ((rmacTo ks bs (j + 1)).map V8).toArray.size by simp [HXL.out, rmacTo_len])
         go_wp2_with (first | ((with_reducible refine isLd 25 ?_); (with_reducible refine wpList_load_row rfl 25 _ rfl (w.heap.size) rfl 25 ((ks.map V8).toArray) (0, 0) _ (hp_more (hp_alloc (hp_alloc (hp_new _ _)))) Try.underlying25 rfl (HK.out) ?_); simp only [pA]) | ((with_reducible refine isLd 115 ?_); (with_reducible refine wpList_load_row rfl 115 _ rfl (w.heap.size + 1 + 1) rfl 115 (((xorTo r0 p (16 * j) 16).map V8).toArray) (0, 0) _ (hp_more (hp_at _ _ _ (by simp))) Try.underlying115 rfl (HB2.out) ?_); simp only [pA]) | ((with_reducible refine isSt 115 ?_); with_reducible refine wpList_st_row rfl rfl 115 _ _ rfl (w.heap.size + 1 + 1) (((rmacTo ks bs (j + 1)).map V8).toArray) rfl rfl 115 (_) (hp_more (hp_at _ _ _ (by simp))) (HB3.out) (HB4.out) (all_V8 _) (by rewrite [setRow_more _ _ _ _ (by first | assumption | (simp <;> omega)), setRow_at _ _ _ _ _ _ (by simp <;> omega)]; rfl) ?_) | (go_at_call 75; refine (HE1.out _).mono ?_; rintro e w' ⟨rfl, xe, rfl⟩; rw [more_more]))
         go_roundw
         case rel => exact ⟨j + 1, ⟨x6.blocks ++ xe.blocks, xe.draws⟩, by omega, by go_num, rfl⟩
         case measure => simp [intOf]; omega
      ·obtain rfl : j = m := by omega
       have hlt9 : ¬ ((16 * j : Nat) : Int) < ((n + k : Nat) : Int) := by omega
       have HB5 := kp (sizeB (rmacTo ks bs j) (rmacTo_len ks bs j))
       have HZ5 := kp (z16_size (rmacTo ks bs j) (rmacTo_len ks bs j))
       have HF := kp (show macF ks bs = rmacTo ks bs j by rw [HM.out, HN.out, rmac_mac])
       go_wp2_with (first | ((with_reducible refine isLd 115 ?_); (with_reducible refine wpList_load_row rfl 115 _ rfl (w.heap.size + 1 + 1) rfl 115 (((rmacTo ks bs j).map V8).toArray) (0, 0) _ (hp_more (hp_at _ _ _ (by simp))) Try.underlying115 rfl (HB5.out) ?_); simp only [pA]) | ((with_reducible refine isSt 115 ?_); with_reducible refine wpList_st_row rfl rfl 115 _ _ rfl (w.heap.size + 1) (((rmacTo ks bs j).map V8).toArray) rfl rfl 115 (_) (hp_more (hp_alloc (hp_at _ _ _ (by simp)))) (HB5.out) (HZ5.out) (all_V8 _) (by rewrite [setRow_more _ _ _ _ (by first | assumption | (simp <;> omega)), setRow_past _ _ _ _ (by simp <;> omega), setRow_at _ _ _ _ _ _ (by simp <;> omega)]; rfl) ?_))
       exact ret_row Try.results62 (w.heap.size + 1) 115 (((rmacTo ks bs j).map V8).toArray) (0, 0) _ rfl (hp_more (hp_alloc (hp_at _ _ _ (by simp)))) Try.underlying115 rfl (HB5.out) rfl ⟨by rw [HF.out], (((Ext.alloc _ _).trans (Ext.alloc _ _)).trans (Ext.alloc _ _)).trans (Ext.more _ _)⟩
set_option maxRecDepth 4000 in
set_option maxHeartbeats 1600000 in
theorem rmessage_any (k : Vc 16) (kind count : Int) (hk0 : 0 ≤ kind) (hk1 : kind < 256) (hne : kind ≠ 1) (hcp : 0 ≤ count) (hc1 : count < 9223372036854775808) (nonce : Vc 16) (ad : Option Addr) (n c : Nat) (data : By) (hd : data.length ≤ 1000) (w : World) (hs : SlB w (.slice ad n c) data) :
  Calls Try.prog 44 #[.agg (k.1.map V8).toArray, .int .u8 kind, .int .i64 count, .agg (nonce.1.map V8).toArray, .slice ad n c] w (RetO (signedF k.1 kind count nonce.1 data) w) := by
 have H := kp (Loc.start w)
 have HS := kp hs
 have HFL := kp (front_short kind count nonce (data := data) (by omega))
 have HB := kp (fun w hs => rfront_any kind count hk0 hk1 hcp hc1 nonce ad n c data (by omega) w hs)
 have HM := kp (fun v w hs => rmac_any k.1 (frontF kind count nonce.1 data) k.2 (by unfold frontF; simp [le8_len, nonce.2]; omega) v w hs)
 have HML := kp (macF_len k.1 (frontF kind count nonce.1 data))
 have HSN := kp (signed_n k.1 hne count nonce.1 data)
 have hkb : (kind == 1) = false := by simpa using hne
 clear hs hcp hc1 hd hk0 hk1 hne
 go_enter Try.func44, Try.ntmps44
 generalize h4 : (Code.region 4 _ _ : Code) = R4
 go_wp2_with (first | ((with_reducible refine isBx 5 25 ?_); (refine L_box H rfl 25 _ rfl (cat ([Lf.v k])) rfl ?_); clear H; intro g5 w5 HGg5 HEg5 H; simp only [pA]) | ((with_reducible refine isBx 8 26 ?_); (refine L_box H rfl 26 _ rfl (cat ([Lf.v nonce])) rfl ?_); clear H; intro g8 w8 HGg8 HEg8 H; simp only [pA]) | ((with_reducible refine isLd 26 ?_); (refine L_fv H rfl 26 _ rfl 0 rfl _ rfl _ rfl rfl Try.underlying26 rfl (by kernel_rfl) ?_); simp only [pA]) | (go_at_call 61; refine (HB.out _ (HS.out.ext H.out.1)).mono ?_; rintro e wa ⟨v, rfl, ho, hx⟩; have HO := kp ho; have HLT := kp (H.out.lt 0 rfl); have HLU := kp (H.out.lt 1 rfl); clear ho; replace H := kp (H.out.ext hx); have HXC := kp hx; clear hx))
 have HX0 := HXC
 subst h4
 go_wp2_with (first | ((with_reducible refine isLd 25 ?_); (refine L_fv H rfl 25 _ rfl 1 rfl _ rfl _ rfl rfl Try.underlying25 rfl (by kernel_rfl) ?_); simp only [pA]) | (go_at_call 62; refine (HM.out _ _ (SlB.of_owns HO.out)).mono ?_; rintro e wm ⟨rfl, hx⟩; have HOM := kp (owns_ext HO.out hx); replace H := kp (H.out.ext hx); have HXC := kp hx; clear hx) | (((with_reducible refine isAl 12 115 ?_); (refine L_alloc H rfl 115 rfl (cat ([Lf.v (zv 16)])) (fun _ _ => by kernel_rfl) ?_); clear H; intro g12 w12 HGg12 HEg12 H; simp only [pA]); have HL6 := kp (show Lc w12 g12 115 _ from H.out.at 0 rfl)) | ((with_reducible refine isSt 115 ?_); (refine L_sv H rfl rfl 115 _ _ rfl 0 rfl _ rfl _ rfl (Lf.v ⟨_, HML.out⟩) rfl rfl rfl (by kernel_rfl) (_) rfl ?_; clear H; intro w7 HWw7 H; simp only [szA] at H)) | (at_builtin; (have HSX := kp (SlB_part H.out 0 rfl 0 0 rfl rfl 16); have HOX2 := kp (owns_wroteT (owns_ext HOM.out HEg12.out) HWw7.out HL6.out (show 5 ≠ 115 from by decide)); have H2 := kp H.out.tl; clear H; have H := H2; clear H2; refine L_appB H rfl _ _ rfl (w8.heap.size) (by have q1 : g8 < _ := HLT.out; have q2 : g5 < _ := HLU.out; have q3 := H.out.1.size; have q4 := HEg5.out.size; have q5 := HEg8.out.size; have q6 := HX0.out.size; have q7 := HXC.out.size; have q8 := HEg12.out.size; have q9 := HWw7.out.size; omega) (by have q1 : g8 < _ := HLT.out; have q2 : g5 < _ := HLU.out; have q3 := H.out.1.size; have q4 := HEg5.out.size; have q5 := HEg8.out.size; have q6 := HX0.out.size; have q7 := HXC.out.size; have q8 := HEg12.out.size; have q9 := HWw7.out.size; omega) (by intro zz hz; simp at hz; have q1 : g8 < _ := HLT.out; have q2 : g5 < _ := HLU.out; have q3 := H.out.1.size; have q4 := HEg5.out.size; have q5 := HEg8.out.size; have q6 := HX0.out.size; have q7 := HXC.out.size; have q8 := HEg12.out.size; have q9 := HWw7.out.size; omega) _ _ rfl HOX2.out _ _ rfl HSX.out ((by rw [HML.out]; have := HFL.out.1; omega)) ?_; clear H HSX HOX2; intro vb wb HO2 HGwb H; simp only [pA])))
 go_ret
 rw [← HSN.out] at HO2
 exact ⟨_, rfl, owns_weak HO2.out (by have q1 : g8 < _ := HLT.out; have q2 : g5 < _ := HLU.out; have q3 := H.out.1.size; have q4 := HEg5.out.size; have q5 := HEg8.out.size; have q6 := HX0.out.size; omega), H.out.1⟩
set_option maxHeartbeats 800000 in
theorem same22_diff (aa ab : Option Addr) (ca cb : Nat) (n m : Nat) (hne : n ≠ m) (w : World) :
  Calls Try.prog 19 #[.slice aa n ca, .slice ab m cb] w fun e w' => e = .returned (.bool false) ∧ w' = w := by
 have h1 : ((n : Int) != (m : Int)) = true := by rw [bne_iff_ne]; omega
 go_enter Try.func19, Try.ntmps19
 go_wp2_with fail
 go_ret
 exact ⟨rfl, rfl⟩
set_option maxHeartbeats 800000 in
theorem same22_nil (aa ab : Option Addr) (ca cb : Nat) (w : World) :
  Calls Try.prog 19 #[.slice aa 0 ca, .slice ab 0 cb] w fun e w' => e = .returned (.bool true) ∧ w' = w := by
 go_enter Try.func19, Try.ntmps19
 go_wp2_with fail
 refine wp_loop_once ?_
 go_wp2_with fail
 go_ret
 exact ⟨rfl, rfl⟩
set_option maxHeartbeats 800000 in
theorem same22_run (b1 o1 c1 b2 o2 c2 : Nat) (l m : List (BitVec 8)) (hl : l.length ≤ 1000000000) (hlm : m.length = l.length) (w : World) (hb1 : b1 < w.heap.size) (hb2 : b2 < w.heap.size)
  (h1 : ∀ (j : Nat) x, l[j]? = some x → w.cell? ⟨b1, o1 + j, none⟩ = some (V8 x)) (h2 : ∀ (j : Nat) x, m[j]? = some x → w.cell? ⟨b2, o2 + j, none⟩ = some (V8 x)) :
  Calls Try.prog 19 #[.slice (some ⟨b1, o1, none⟩) l.length c1, .slice (some ⟨b2, o2, none⟩) l.length c2] w fun e w' => e = .returned (.bool (l == m)) ∧ Ext w w' := by
 have H1 := kp h1
 have H2 := kp h2
 have HLM := kp hlm
 obtain ⟨n, hn⟩ : ∃ n, n = l.length := ⟨_, rfl⟩
 rw [← hn] at hl ⊢
 have HN := kp hn
 clear h1 h2 hlm hn
 go_enter Try.func19, Try.ntmps19
 go_wp2_with fail
 go_loopw [5] (fun i wr => ∃ (k : Nat) (x : Xtra), k ≤ n ∧ i = .int .i64 k ∧ Kp (l.take k = m.take k) ∧ wr = more w x) (fun i _ => n - (intOf i).toNat)
 case atStart => exact ⟨0, _, by omega, rfl, kp (by simp), by rw [← more_self]⟩
 case round =>
  obtain ⟨k, x, hk, rfl, HT, rfl⟩ := hrel
  by_cases hlt : k < n
  ·obtain ⟨y, hy⟩ : ∃ y, l[k]? = some y := ⟨l[k]'(by rw [← HN.out]; omega), by simp⟩
   obtain ⟨z, hz⟩ : ∃ z, m[k]? = some z := ⟨m[k]'(by rw [HLM.out, ← HN.out]; omega), by simp⟩
   have c1 := H1.out k y hy
   have c2 := H2.out k z hz
   have HY := kp hy
   have HZ := kp hz
   clear hy hz
   by_cases hyz : y = z
   ·subst hyz
    have hbb : (y != y) = false := by simp
    go_wp2_with fail
    (with_reducible refine region_f2 9 (by kernel_rfl) (by kernel_rfl) (by kernel_rfl) (by kernel_rfl) (by decide) (Nat.le_of_ble_eq_true (by kernel_rfl)) ?_)
    apply Exists.intro
    refine ⟨fun xz2 => ?_, fun xq2 => ?_⟩
    ·simp only [List.take_succ_cons, List.take_zero]
     unfold Cx
     repeat (go_big_quiet_step (fail))
     exact wpQuiet_nil rfl
    simp only [List.drop_succ_cons, List.drop_zero]
    go_wp2_with fail
    go_roundw
    case rel => exact ⟨k + 1, _, by omega, by go_num, kp (take_step HT.out HY.out HZ.out), rfl⟩
    case measure => simp [intOf]; omega
   ·have hbb : (y != z) = true := by simpa using hyz
    have HF := kp (show (l == m) = false by
     rw [beq_eq_false_iff_ne]; intro e; subst e
     exact hyz (Option.some.inj (HY.out.symm.trans HZ.out)))
    clear hyz
    go_wp2_with fail
    (with_reducible refine region_f2 9 (by kernel_rfl) (by kernel_rfl) (by kernel_rfl) (by kernel_rfl) (by decide) (Nat.le_of_ble_eq_true (by kernel_rfl)) ?_)
    apply Exists.intro
    refine ⟨fun xz3 => ?_, fun xq3 => ?_⟩
    ·simp only [List.take_succ_cons, List.take_zero]
     unfold Cx
     repeat (go_big_quiet_step (fail))
     exact wpQuiet_nil rfl
    simp only [List.drop_succ_cons, List.drop_zero]
    go_wp2_with fail
    go_ret
    exact ⟨by rw [HF.out]; rfl, Ext.more _ _⟩
  ·obtain rfl : k = n := by omega
   have HF := kp (show (l == m) = true by
    have h := HT.out
    rw [List.take_of_length_le (by rw [HN.out]; exact Nat.le_refl _), List.take_of_length_le (by rw [HLM.out, HN.out]; exact Nat.le_refl _)] at h
    rw [h]; simp)
   go_wp2_with fail
   go_ret
   exact ⟨by rw [HF.out]; rfl, Ext.more _ _⟩
theorem same22_any {w : World} {va vb : Value} {l m : List (BitVec 8)} (ha : SlB w va l) (hb : SlB w vb m) (hl : l.length ≤ 1000000000) :
  Calls Try.prog 19 #[va, vb] w fun e w' => e = .returned (.bool (l == m)) ∧ Ext w w' := by
 obtain ⟨aa, ca, ea⟩ := ha.form
 obtain ⟨ab, cb, eb⟩ := hb.form
 by_cases hlm : l.length = m.length
 ·by_cases h0 : l.length = 0
  ·have e1 : l = [] := List.eq_nil_of_length_eq_zero h0
   have e2 : m = [] := List.eq_nil_of_length_eq_zero (by omega)
   subst e1 e2
   rw [ea, eb]
   exact (same22_nil aa ab ca cb w).mono fun e w' ⟨h1, h2⟩ => ⟨h1, h2 ▸ Ext.refl w⟩
  ·rcases ha with ⟨rfl, _⟩ | ⟨b1, o1, c1, rfl, hb1, hc1⟩
   ·exact absurd rfl h0
   ·rcases hb with ⟨rfl, _⟩ | ⟨b2, o2, c2, rfl, hb2, hc2⟩
    ·exact absurd hlm h0
    ·rw [← hlm]
     exact same22_run b1 o1 c1 b2 o2 c2 l m hl hlm.symm w hb1 hb2 hc1 hc2
 ·rw [ea, eb]
  refine (same22_diff aa ab ca cb l.length m.length hlm w).mono fun e w' ⟨h1, h2⟩ => ⟨?_, h2 ▸ Ext.refl w⟩
  rw [h1, show (l == m) = false by rw [beq_eq_false_iff_ne]; intro e; exact hlm (by rw [e])]
end Go.Proofs.Ytibncchobkaaiaa
namespace Go.Proofs.Ytibncchobkaaiaa
open Go.RowKit
open Go.ChangeShapes Go.WideShapes Go.ChangeAt Go.RowKit
section
variable {P : Program} {H : Type} {enc : TypeId × Value → H} {w : World}
theorem bv_of_wf {m : Nat} (k : IntKind) (hm : (k = .u8 ∧ m = 8) ∨ (k = .u32 ∧ m = 32) ∨ (k = .u64 ∧ m = 64)) {n : Int} (h : (Lit.int k n).wf = true) : ∃ x : BitVec m, n = wI x := by
 have hb : 0 ≤ n ∧ n < (2 : Int) ^ m := by
  rcases hm with ⟨rfl, rfl⟩ | ⟨rfl, rfl⟩ | ⟨rfl, rfl⟩ <;>
   (simp [Lit.wf, IntKind.min, IntKind.max, IntKind.signed, IntKind.bits] at h; omega)
 obtain ⟨q, rfl⟩ := Int.eq_ofNat_of_zero_le hb.1
 have hq : q < 2 ^ m := by have := hb.2; exact_mod_cast this
 exact ⟨BitVec.ofNat m q, by unfold wI; rw [BitVec.toNat_ofNat, Nat.mod_eq_of_lt hq]⟩
end
end Go.Proofs.Ytibncchobkaaiaa
