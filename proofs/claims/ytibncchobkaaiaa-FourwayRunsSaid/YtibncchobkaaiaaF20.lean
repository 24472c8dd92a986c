/- Texts of this proof, put together: Ref22, Ref22b. -/
import Derived.Test.YtibncchobkaaiaaF19
import Derived.Test.YtibncchobkaaiaaF1
namespace Go.Proofs.Ytibncchobkaaiaa
open Go.RowKit
theorem tmod_form (n : Int) : ∃ q r : Int, Int.tmod n 65536 = r ∧ n = 65536 * q + r ∧ -65536 < r ∧ r < 65536 ∧ (0 ≤ n → 0 ≤ r) := by
 refine ⟨Int.tdiv n 65536, Int.tmod n 65536, rfl, ?_, ?_, ?_, ?_⟩
 ·have := Int.mul_tdiv_add_tmod n 65536; omega
 ·have := Int.lt_tmod_of_pos n (show (0 : Int) < 65536 by decide); omega
 ·exact Int.tmod_lt_of_pos n (by decide)
 ·intro h; exact Int.tmod_nonneg _ h
set_option maxHeartbeats 800000 in
theorem rtwo_any (n : Int) (w : World) :
  Calls Try.prog 103 #[.int .i64 n] w fun e w' => e = .returned (.slice (some ⟨w.heap.size, 0, none⟩) 2 2) ∧ w' = w.alloc (.cells #[V8 (BitVec.ofInt 8 n), V8 (BitVec.ofInt 8 (n / 256))] 5) := by
 obtain ⟨q, r, hr, hn, h1, h2, h3⟩ := tmod_form n
 have HN := kp hn
 rw [V8_ofInt, V8_ofInt]
 by_cases hneg : r < 0
 ·have hA : (r + 65536) % 256 % 256 = n % 256 := by omega
  have hB : (r + 65536) / 256 % 256 = n / 256 % 256 := by omega
  have hp : 0 ≤ r + 65536 := by omega
  clear hn
  go_enter Try.func103, Try.ntmps103
  go_wp2_with fail
  go_ret
  have hn := HN.out
  exact ⟨rfl, by rw [show (r + 65536) % 256 = n % 256 by omega, show (r + 65536) / 256 = n / 256 % 256 by omega]⟩
 ·have hA : r % 256 % 256 = n % 256 := by omega
  have hB : r / 256 % 256 = n / 256 % 256 := by omega
  have hp : 0 ≤ r := by omega
  clear hn
  go_enter Try.func103, Try.ntmps103
  go_wp2_with fail
  go_ret
  have hn := HN.out
  exact ⟨rfl, by rw [show r % 256 = n % 256 by omega, show r / 256 = n / 256 % 256 by omega]⟩
def firstTo (m : BitVec 8) (nc : List (BitVec 8)) (k : Nat) : List (BitVec 8) := m :: (nc.take k ++ List.replicate (15 - k) 0)
theorem firstTo_len (m : BitVec 8) (nc : List (BitVec 8)) (h : nc.length = 13) (k : Nat) (hk : k ≤ 13) : (firstTo m nc k).length = 16 := by
 simp [firstTo, h]; omega
theorem firstTo_step (m : BitVec 8) (nc : List (BitVec 8)) (h : nc.length = 13) (k : Nat) (hk : k < 13) (y : BitVec 8) (hy : nc[k]? = some y) : (firstTo m nc k).set (k + 1) y = firstTo m nc (k + 1) := by
 unfold firstTo
 rw [List.set_cons_succ, List.set_append_right _ _ (by rw [List.length_take]; omega), List.length_take, Nat.min_eq_left (by omega), Nat.sub_self, show 15 - k = (15 - (k + 1)) + 1 by omega, List.replicate_succ, List.set_cons_zero, List.take_add_one, hy]
 simp
theorem firstTo_end (m : BitVec 8) (nc : List (BitVec 8)) (h : nc.length = 13) (n : Int) : ((firstTo m nc 13).set 14 (BitVec.ofInt 8 n)).set 15 (BitVec.ofInt 8 (n / 256)) = markF m nc n := by
 unfold firstTo markF
 rw [List.take_of_length_le (by omega), List.set_cons_succ, List.set_cons_succ, List.set_append_right _ _ (by omega), h]
 show m :: ((nc ++ [BitVec.ofInt 8 n, 0]).set 14 _) = _
 rw [List.set_append_right _ _ (by omega), h]
 rfl
set_option maxHeartbeats 1600000 in
theorem rfirst_any (m : BitVec 8) (nc : List (BitVec 8)) (hl : nc.length = 13) (n : Int) (w : World) :
  Calls Try.prog 104 #[.int .u8 (wI m), .agg (nc.map V8).toArray, .int .i64 n] w fun e w' => e = .returned (.agg ((markF m nc n).map V8).toArray) ∧ Ext w w' := by
 have HL := kp hl
 have HE := kp (firstTo_end m nc hl n)
 have HML := kp (markF_len m nc hl n)
 have HT := kp (fun w => rtwo_any n w)
 clear hl
 go_enter Try.func104, Try.ntmps104
 go_wp2_with fail
 go_loopw [8] (fun i wr => ∃ (k : Nat) (x : Xtra), k ≤ 13 ∧ i = .int .i64 k ∧ wr = more (((w.alloc (.cells (nc.map V8).toArray 107)).alloc (.cells z16 115)).alloc (.cells ((firstTo m nc k).map V8).toArray 115)) x) (fun i _ => 13 - (intOf i).toNat)
 case atStart => exact ⟨0, _, by omega, rfl, by rw [← more_self]; rfl⟩
 case round =>
  obtain ⟨k, x, hk, rfl, rfl⟩ := hrel
  by_cases hlt : k < 13
  ·obtain ⟨y, hy⟩ : ∃ y, nc[k]? = some y := ⟨nc[k]'(by rw [HL.out]; omega), by simp⟩
   obtain ⟨z, hz⟩ : ∃ z, (firstTo m nc k)[k + 1]? = some z := ⟨(firstTo m nc k)[k + 1]'(by rw [firstTo_len m nc HL.out k hk]; omega), by simp⟩
   have HS := kp (firstTo_step m nc HL.out k hlt y hy)
   go_wp2_with fail
   go_roundw
   case rel => exact ⟨k + 1, _, by omega, by go_num, by rw [← HS.out, List.map_set]⟩
   case measure => simp [intOf]; omega
  ·obtain rfl : k = 13 := by omega
   have HFL := kp (firstTo_len m nc HL.out 13 (by omega))
   generalize firstTo m nc 13 = F at *
   obtain ⟨z14, hz14⟩ : ∃ z, F[14]? = some z := ⟨F[14]'(by rw [HFL.out]; omega), by simp⟩
   obtain ⟨z15, hz15⟩ : ∃ z, F[15]? = some z := ⟨F[15]'(by rw [HFL.out]; omega), by simp⟩
   go_wp2_with fail
   refine (HT.out _).mono ?_
   rintro e w1 ⟨rfl, rfl⟩
   have HRW := kp (show ((F.map V8).set 14 (V8 (BitVec.ofInt 8 n))).set 15 (V8 (BitVec.ofInt 8 (n / 256))) = (markF m nc n).map V8 by rw [← HE.out, List.map_set, List.map_set])
   obtain ⟨M, hM⟩ : ∃ M, markF m nc n = M := ⟨_, rfl⟩
   rw [hM] at HRW HML
   have HMM := kp hM
   have HB := kp (sizeB M HML.out)
   have HZ := kp (z16_size M HML.out)
   have HRR := kp (show ((more (((w.alloc (.cells (nc.map V8).toArray 107)).alloc (.cells z16 115)).alloc (.cells (((F.map V8).set 14 (V8 (BitVec.ofInt 8 n))).set 15 (V8 (BitVec.ofInt 8 (n / 256)))).toArray 115)) x).alloc (.cells #[V8 (BitVec.ofInt 8 n), V8 (BitVec.ofInt 8 (n / 256))] 5)).heap[w.heap.size + 1 + 1]? = some (.cells (M.map V8).toArray 115 (0, 0)) by rw [← HRW.out]; exact hp_alloc (hp_more (hp_at _ _ _ (by simp))))
   clear hM HE
   go_wp2_with (first | ((with_reducible refine isLd 115 ?_); (with_reducible refine wpList_load_row rfl 115 _ rfl (w.heap.size + 1 + 1) rfl 115 ((M.map V8).toArray) (0, 0) _ (HRR.out) Try.underlying115 rfl (HB.out) ?_); simp only [pA]) | ((with_reducible refine isSt 115 ?_); with_reducible refine wpList_st_row rfl rfl 115 _ _ rfl (w.heap.size + 1) ((M.map V8).toArray) rfl rfl 115 (z16) (hp_alloc (hp_more (hp_alloc (hp_at _ _ _ (by simp))))) (HB.out) (HZ.out) (all_V8 _) (by rewrite [setRow_past _ _ _ _ (by simp <;> omega), setRow_more _ _ _ _ (by first | assumption | (simp <;> omega)), setRow_past _ _ _ _ (by simp <;> omega), setRow_at _ _ _ _ _ _ (by simp <;> omega)]; rfl) ?_))
   exact ret_row Try.results104 (w.heap.size + 1) 115 ((M.map V8).toArray) (0, 0) _ rfl (hp_alloc (hp_more (hp_alloc (hp_at _ _ _ (by simp))))) Try.underlying115 rfl (HB.out) rfl ⟨by rw [HMM.out], ((((Ext.alloc _ _).trans (Ext.alloc _ _)).trans (Ext.alloc _ _)).trans (Ext.more _ _)).trans (Ext.alloc _ _)⟩
set_option maxHeartbeats 1600000 in
theorem rstream_any (ks nc : List (BitVec 8)) (hk : ks.length = 16) (hl : nc.length = 13) (i : Int) (w : World) :
  Calls Try.prog 82 #[.agg (ks.map V8).toArray, .agg (nc.map V8).toArray, .int .i64 i] w fun e w' => e = .returned (.agg ((streamF ks nc i).map V8).toArray) ∧ Ext w w' := by
 have HK := kp (sizeK ks hk)
 have HN := kp (sizeN nc hl)
 have HS := kp (sizeB _ (streamF_len ks nc i))
 have HM := kp (fun w => rfirst_any 1 nc hl i w)
 have HE := kp (fun w => rencrypt_any ks (markF 1 nc i) hk (markF_len 1 nc hl i) w)
 have HZ := kp (z16_size _ (streamF_len ks nc i))
 rw [show encF ks (markF 1 nc i) = streamF ks nc i from rfl] at HE
 generalize markF 1 nc i = M at *
 generalize streamF ks nc i = S at *
 clear hk hl
 go_enter Try.func82, Try.ntmps82
 go_wp2_with fail
 (refine region_f 5 (by kernel_rfl) (by kernel_rfl) (by kernel_rfl) (by kernel_rfl) (by decide) (Nat.le_of_ble_eq_true (by kernel_rfl)) ?_)
 apply Exists.intro
 refine ⟨fun xz2 => ?_, fun xq2 => ?_⟩
 ·simp only [List.take_succ_cons, List.take_zero]
  unfold Cx
  (((with_reducible show wpQuiet _ _ _ _ (Oper.mk _ (Op.load 25 _) _ _ _ _ :: _) _); go_big_quiet_want; with_reducible refine quiet_load_row 25 _ rfl (w.heap.size) rfl 25 ((ks.map V8).toArray) (0, 0) _ (fun _ hw => by obtain ⟨xx, rfl⟩ := hw; exact hp_more (hp_alloc (hp_alloc (hp_new _ _)))) Try.underlying25 rfl (HK.out) ?_; simp only [pA]; go_big_quiet_on); ((with_reducible show wpQuiet _ _ _ _ (Oper.mk _ (Op.load 107 _) _ _ _ _ :: _) _); go_big_quiet_want; with_reducible refine quiet_load_row 107 _ rfl (w.heap.size + 1) rfl 107 ((nc.map V8).toArray) (0, 0) _ (fun _ hw => by obtain ⟨xx, rfl⟩ := hw; exact hp_more (hp_alloc (hp_at _ _ _ (by simp)))) Try.underlying107 rfl (HN.out) ?_; simp only [pA]; go_big_quiet_on); go_big_quiet_step (fail); go_big_quiet_step (exact Calls.cx_of (HM.out _)); go_big_quiet_step (exact Calls.cx_of (HE.out _)))
  exact wpQuiet_nil rfl
 simp only [List.drop_succ_cons, List.drop_zero]
 go_wp2_with ((with_reducible refine isSt 115 ?_); with_reducible refine wpList_st_row rfl rfl 115 _ _ rfl (w.heap.size + 1 + 1) ((S.map V8).toArray) rfl rfl 115 (z16) (hp_more (hp_at _ _ _ (by simp))) (HS.out) (HZ.out) (all_V8 _) (by rewrite [setRow_more _ _ _ _ (by first | assumption | (simp <;> omega)), setRow_at _ _ _ _ _ _ (by simp <;> omega)]; rfl) ?_)
 exact ret_row Try.results82 (w.heap.size + 1 + 1) 115 ((S.map V8).toArray) (0, 0) _ rfl (hp_more (hp_at _ _ _ (by simp))) Try.underlying115 rfl (HS.out) rfl ⟨rfl, (((Ext.alloc _ _).trans (Ext.alloc _ _)).trans (Ext.alloc _ _)).trans (Ext.more _ _)⟩
set_option maxHeartbeats 1600000 in
theorem rfilled_any (v : Value) (bs : List (BitVec 8)) (hn : bs.length ≤ 100000) (w : World) (hs : SlB w v bs) : Calls Try.prog 102 #[v] w (RetO (padF bs) w) := by
 obtain ⟨iu, hiu, hu⟩ := info_iu
 have HIU := kp hiu
 have HU := kp hu
 obtain ⟨ad, cap, rfl⟩ := hs.form
 have HS := kp (hs.ext (Ext.alloc w (.cells #[] 5)))
 obtain ⟨n, hnn⟩ : ∃ n, n = bs.length := ⟨_, rfl⟩
 have HOE := kp (owns_empty w w.heap.size (Nat.le_refl _))
 have HLE := kp (show ([] : List (BitVec 8)).length + bs.length ≤ 1000000 by simp; omega)
 rw [← hnn] at hn HS ⊢
 have HN := kp hnn
 obtain ⟨P, hP⟩ : ∃ P, P = (16 - n % 16) % 16 := ⟨_, rfl⟩
 have HP := kp hP
 have HPF := kp (show bs ++ List.replicate P 0 = padF bs by rw [padF, ← hnn, ← hP])
 have hP15 : P ≤ 15 := by omega
 clear hiu hu hs hnn hP
 go_enter Try.func102, Try.ntmps102
 go_wp2_with (at_builtin; refine wpList_append_SlB rfl _ _ 33 rfl w.heap.size 5 iu Try.underlying33 HIU.out HU.out.1 HU.out.2.1 HU.out.2.2 _ _ rfl HOE.out _ bs rfl HS.out HLE.out (by simp) ?_; intro v2 w2 ho2 hg2)
 have HO2 := kp (show w2.ownsRow w.heap.size 5 1 v2 (bs ++ List.replicate 0 0).length ((bs ++ List.replicate 0 0).map V8) by simpa using ho2)
 have HX2 := kp ((Ext.alloc w (.cells #[] 5)).grown hg2 (fun q hq => owns_block HOE.out q hq))
 clear ho2 hg2 HOE HS HLE
 go_loopw [3] (fun v wr => ∃ k : Nat, k ≤ P ∧ Kp (wr.ownsRow w.heap.size 5 1 v (bs ++ List.replicate k 0).length ((bs ++ List.replicate k 0).map V8)) ∧ Kp (Ext w wr)) (fun v _ => n + P - sliceLen v)
 case atStart => exact ⟨0, by omega, HO2, HX2⟩
 case round =>
  obtain ⟨k, hkP, HO, HX⟩ := hrel
  have hlen : (bs ++ List.replicate k (0 : BitVec 8)).length = n + k := by rw [List.length_append, List.length_replicate, ← HN.out]
  obtain ⟨av, cv, hvf⟩ := (SlB.of_owns HO.out).form
  rw [hlen] at hvf
  subst hvf
  by_cases hlt : k < P
  ·have hne : (((n : Int) + (k : Int)) % 16 != 0) = true := by have := HP.out; simp; omega
   have hsz : w.heap.size ≤ wr.heap.size := HX.out.size
   have HOA := kp (owns_ext HO.out (Ext.alloc wr (.cells #[.int .u8 0] 5)))
   have HSA := kp (show SlB (wr.alloc (.cells #[.int .u8 0] 5)) (.slice (some ⟨wr.heap.size, 0, none⟩) 1 1) [0#8] from SlB.of_block (hp_new wr _))
   have HLE := kp (show (bs ++ List.replicate k (0 : BitVec 8)).length + [0#8].length ≤ 1000000 by rw [hlen]; simp; omega)
   clear hlen
   go_wp2_with (at_builtin; refine wpList_append_SlB rfl _ _ 33 rfl w.heap.size 5 iu Try.underlying33 HIU.out HU.out.1 HU.out.2.1 HU.out.2.2 _ _ rfl (HOA.out) _ ([0#8]) rfl (HSA.out) (HLE.out) (by simp <;> omega) ?_; intro v3 w3 ho3 hg3)
   have HX3 := kp ((HX.out.trans (Ext.alloc _ _)).grown hg3 (fun q hq => by have := owns_block HOA.out q hq; simpa using this))
   have HO3 := kp (show w3.ownsRow w.heap.size 5 1 v3 (bs ++ List.replicate (k + 1) 0).length ((bs ++ List.replicate (k + 1) 0).map V8) by
    have h := ho3
    rw [List.append_assoc, show [0#8] = [(0 : BitVec 8)] from rfl, ← List.replicate_succ'] at h
    exact h)
   have hlen3 : sliceLen v3 = n + k + 1 := by
    obtain ⟨a9, c9, h9⟩ := (SlB.of_owns HO3.out).form
    rw [h9]
    show (bs ++ List.replicate (k + 1) (0 : BitVec 8)).length = _
    rw [List.length_append, List.length_replicate, ← HN.out]; omega
   clear ho3 hg3
   go_roundw
   case rel => exact ⟨k + 1, by omega, HO3, HX3⟩
   case measure => rw [hlen3]; simp [sliceLen]; omega
  ·obtain rfl : k = P := by omega
   have hne : (((n : Int) + (k : Int)) % 16 != 0) = false := by have := HP.out; simp; omega
   have HO9 := kp (show wr.ownsRow w.heap.size 5 1 (.slice av (n + k) cv) (padF bs).length ((padF bs).map V8) by rw [← HPF.out]; exact HO.out)
   clear hlen
   go_wp2_with fail
   go_ret
   exact ⟨_, rfl, HO9.out, HX.out⟩
theorem owns_other {w : World} {base E n k : Nat} {v : Value} {xs : List Value} {cs : Array Value} {T : TypeId} {fr : Nat × Nat} (h : w.ownsRow base E 1 v n xs) (hk : w.heap[k]? = some (.cells cs T fr)) (hne : E ≠ T) : some k ≠ v.ownBlock := fun e => by
 obtain ⟨_, h2⟩ := h
 rcases h2 with ⟨rfl, _⟩ | ⟨g, cap, cur, rfl, hb, hg, _⟩
 ·cases e
 ·cases e; rw [hg] at hk; cases hk; exact hne rfl
theorem getElem_getD {l : List (BitVec 8)} {i : Nat} {y : BitVec 8} (h : l[i]? = some y) : l.getD i 0 = y := by simp [List.getD, h]
set_option maxHeartbeats 3200000 in
theorem rcrypt_any (ks nc l : List (BitVec 8)) (hk : ks.length = 16) (hc : nc.length = 13) (hl : l.length ≤ 100000) (v : Value) (w : World) (hv : SlB w v l) :
  Calls Try.prog 71 #[.agg (ks.map V8).toArray, .agg (nc.map V8).toArray, v] w (RetO (cryptF ks nc l) w) := by
 obtain ⟨iu, hiu, hu⟩ := info_iu
 have HIU := kp hiu
 have HU := kp hu
 have HK := kp (sizeK ks hk)
 have HN := kp (sizeN nc hc)
 have HST := kp (fun i w => rstream_any ks nc hk hc i w)
 obtain ⟨ad, cb, rfl⟩ := hv.form
 have HV := kp hv
 obtain ⟨n, hn⟩ : ∃ n, n = l.length := ⟨_, rfl⟩
 have HEL := kp (show (cryptF ks nc l).length = n by rw [cryptF_len, hn])
 have HEA := kp (fun i hi => cryptF_at ks nc l i hi)
 rw [← hn] at HV hl ⊢
 have HNN := kp hn
 generalize cryptF ks nc l = E at *
 clear hiu hu hk hc hv hn
 go_enter Try.func71, Try.ntmps71
 go_wp2_with fail
 go_loopw [7, 8] (fun o i wr => ∃ q : Nat, 16 * q ≤ n + 15 ∧ i = .int .i64 ((16 * q : Nat) : Int) ∧ Kp (wr.ownsRow (w.heap.size + 2) 5 1 o (E.take (16 * q)).length ((E.take (16 * q)).map V8)) ∧ Kp (Ext ((w.alloc (.cells (ks.map V8).toArray 25)).alloc (.cells (nc.map V8).toArray 107)) wr)) (fun _ i _ => n + 16 - (intOf i).toNat)
 case atStart => exact ⟨0, by omega, rfl, kp (by simpa using owns_nil _ _ _), kp (Ext.refl _)⟩
 case round =>
  obtain ⟨q, hq, rfl, HO, HX⟩ := hrel
  by_cases hlt : 16 * q < n
  ·have hltI : ((16 * q : Nat) : Int) < n := by omega
   have HKR := kp (ext_heap HX.out (hp_alloc (hp_new _ _)))
   have HNR := kp (ext_heap HX.out (hp_at _ _ (w.heap.size + 1) (by simp)))
   have HJ := kp (HST.out (1 + (q : Int)))
   have hdiv : ((16 * q : Nat) : Int) / 16 = q := by omega
   have HSL := kp (streamF_len ks nc (1 + (q : Int)))
   have HSB := kp (sizeB _ (streamF_len ks nc (1 + (q : Int))))
   have HSZ := kp (z16_size _ (streamF_len ks nc (1 + (q : Int))))
   have HSA := kp (fun t (h : 16 * q + t < l.length) (h2 : t < 16) => show E.getD (16 * q + t) 0 = l.getD (16 * q + t) 0 ^^^ (streamF ks nc (1 + (q : Int))).getD t 0 by
    rw [HEA.out _ h, show (16 * q + t) / 16 = q by omega, show (16 * q + t) % 16 = t by omega])
   generalize streamF ks nc (1 + (q : Int)) = S at *
   obtain ⟨av0, cv0, hv0⟩ := (SlB.of_owns HO.out).form
   rw [show (E.take (16 * q)).length = 16 * q by rw [List.length_take, HEL.out]; omega] at hv0
   subst hv0
   go_wp2_with (first | ((with_reducible refine isLd 25 ?_); (with_reducible refine wpList_load_row rfl 25 _ rfl (w.heap.size) rfl 25 ((ks.map V8).toArray) (0, 0) _ (HKR.out) Try.underlying25 rfl (HK.out) ?_); simp only [pA]) | ((with_reducible refine isLd 107 ?_); (with_reducible refine wpList_load_row rfl 107 _ rfl (w.heap.size + 1) rfl 107 ((nc.map V8).toArray) (0, 0) _ (HNR.out) Try.underlying107 rfl (HN.out) ?_); simp only [pA]))
   refine (HJ.out _).mono ?_
   rintro e w1 ⟨rfl, hx1⟩
   have HX1 := kp (HX.out.trans hx1)
   have HO1 := kp (owns_ext HO.out (hx1.trans (Ext.alloc _ (.cells (S.map V8).toArray 115))))
   have hw1 : w.heap.size + 2 ≤ w1.heap.size := by have := HX1.out.size; simpa using this
   clear hx1 HKR HNR HJ
   go_wp2_with ((with_reducible refine isSt 115 ?_); with_reducible refine wpList_st_row rfl rfl 115 _ _ rfl (w1.heap.size) ((S.map V8).toArray) rfl rfl 115 (z16) (hp_new _ _) (HSB.out) (HSZ.out) (all_V8 _) (by rewrite [setRow_at _ _ _ _ _ _ (by simp <;> omega)]; rfl) ?_)
   go_loopw [7, 10] (fun o i wr => ∃ (t : Nat) (av : Option Addr) (cv : Nat), t ≤ 16 ∧ 16 * q + t ≤ n ∧ i = .int .i64 ((16 * q + t : Nat) : Int) ∧ o = .slice av (16 * q + t) cv ∧ Kp (wr.ownsRow (w.heap.size + 2) 5 1 o (E.take (16 * q + t)).length ((E.take (16 * q + t)).map V8)) ∧ Kp (Ext ((w.alloc (.cells (ks.map V8).toArray 25)).alloc (.cells (nc.map V8).toArray 107)) wr) ∧ Kp (wr.heap[w1.heap.size]? = some (.cells (S.map V8).toArray 115 (0, 0)))) (fun _ i _ => 16 * q + 16 - (intOf i).toNat)
   case atStart => exact ⟨0, _, _, by omega, by omega, rfl, rfl, HO1, kp (HX1.out.trans (Ext.alloc _ _)), kp (hp_new _ _)⟩
   case round =>
    obtain ⟨t, av, cv, ht, htn, rfl, rfl, HOt, HXt, HRt⟩ := hrel
    by_cases hin : 16 * q + t < n ∧ t < 16
    ·obtain ⟨hin1, hin2⟩ := hin
     have i1 : ((16 * q + t : Nat) : Int) < n := by omega
     have i2 : ((16 * q + t : Nat) : Int) < ((16 * q : Nat) : Int) + 16 := by omega
     obtain ⟨y, hy⟩ : ∃ y, l[16 * q + t]? = some y := ⟨l[16 * q + t]'(by rw [← HNN.out]; exact hin1), by simp⟩
     obtain ⟨z, hz⟩ : ∃ z, S[t]? = some z := ⟨S[t]'(by rw [HSL.out]; exact hin2), by simp⟩
     obtain ⟨u, hu⟩ : ∃ u, E[16 * q + t]? = some u := ⟨E[16 * q + t]'(by rw [HEL.out]; exact hin1), by simp⟩
     have huv : u = y ^^^ z := by
      have h := HSA.out t (by rw [← HNN.out]; exact hin1) hin2
      rw [getElem_getD hu, getElem_getD hy, getElem_getD hz] at h
      exact h
     have HTK := kp (take_snoc E (16 * q + t) u hu)
     rw [huv] at HTK
     obtain ⟨bb, ob, eb, hbb, cy⟩ := (HV.out.ext (((Ext.alloc _ _).trans (Ext.alloc _ _)).trans HXt.out)).at (16 * q + t) y hy
     subst eb
     have cz : wr.cell? ⟨w1.heap.size, t, none⟩ = some (V8 z) := by
      rw [cell_of_row wr _ t _ _ _ HRt.out]; simp [hz]
     have hgz : w1.heap.size < wr.heap.size := by have := HRt.out; rw [Array.getElem?_eq_some_iff] at this; exact this.1
     have hbz : w.heap.size + 2 ≤ wr.heap.size := by omega
     have HLE := kp (show (E.take (16 * q + t)).length + [y ^^^ z].length ≤ 1000000 by rw [List.length_take, HEL.out]; simp; omega)
     have HOS := kp (fun x => owns_ext HOt.out (Ext.more wr x))
     clear hy hz hu huv
     go_wp2_with fail
     refine region_spine0 (tabS [(36, fun v _ => v = .slice av (16 * q + t) cv), (37, fun v _ => v = .slice (some ⟨bb, ob, none⟩) n cb), (38, fun v _ => v = .int .i64 ((16 * q + t : Nat) : Int)), (39, fun v _ => v = .pointer (some ⟨bb, ob + (16 * q + t), none⟩)), (40, fun v _ => v = V8 y), (41, fun v _ => v = .int .i64 ((16 * q + t : Nat) : Int)), (42, fun v _ => v = .int .i64 ((16 * q : Nat) : Int)), (43, fun v _ => v = .int .i64 t), (44, fun v _ => v = .pointer (some ⟨w1.heap.size, t, none⟩)), (45, fun v _ => v = V8 z), (46, fun v _ => v = V8 (y ^^^ z)), (47, fun v w => SlB w v [y ^^^ z])]) (tabS_mono _ (by simp only [List.forall_mem_cons]; exact ⟨mono_eq _, mono_eq _, mono_eq _, mono_eq _, mono_eq _, mono_eq _, mono_eq _, mono_eq _, mono_eq _, mono_eq _, mono_eq _, mono_SlB _, by simp⟩)) 12 (by kernel_rfl) (by kernel_rfl) (by kernel_rfl) (by kernel_rfl) (by decide) (Nat.le_of_ble_eq_true (by kernel_rfl)) (by kernel_rfl) (wr) (.inl rfl) ?_
     simp only [List.take_succ_cons, List.take_zero]
     refine ⟨fun w_ hwv36 S_ => ?_, fun v36 => ?_⟩
     ·obtain ⟨xv36, rfl⟩ := hwv36
      clear S_
      go_wp2_with fail
      exact kso
     simp only [pA]
     refine ⟨fun w_ hwv37 S_ => ?_, fun v37 => ?_⟩
     ·obtain ⟨xv37, rfl⟩ := hwv37
      clear S_
      go_wp2_with fail
      exact kso
     simp only [pA]
     refine ⟨fun w_ hwv38 S_ => ?_, fun v38 => ?_⟩
     ·obtain ⟨xv38, rfl⟩ := hwv38
      clear S_
      go_wp2_with fail
      exact kso
     simp only [pA]
     refine ⟨fun w_ hwv39 S_ => ?_, fun v39 => ?_⟩
     ·obtain ⟨xv39, rfl⟩ := hwv39
      obtain rfl : v37 = .slice (some ⟨bb, ob, none⟩) n cb := hsR S_ 37 rfl
      obtain rfl : v38 = .int .i64 ((16 * q + t : Nat) : Int) := hsR S_ 38 rfl
      clear S_
      go_wp2_with fail
      exact kso
     simp only [pA]
     refine ⟨fun w_ hwv40 S_ => ?_, fun v40 => ?_⟩
     ·obtain ⟨xv40, rfl⟩ := hwv40
      obtain rfl : v39 = .pointer (some ⟨bb, ob + (16 * q + t), none⟩) := hsR S_ 39 rfl
      clear S_
      go_wp2_with fail
      exact kso
     simp only [pA]
     refine ⟨fun w_ hwv41 S_ => ?_, fun v41 => ?_⟩
     ·obtain ⟨xv41, rfl⟩ := hwv41
      clear S_
      go_wp2_with fail
      exact kso
     simp only [pA]
     refine ⟨fun w_ hwv42 S_ => ?_, fun v42 => ?_⟩
     ·obtain ⟨xv42, rfl⟩ := hwv42
      clear S_
      go_wp2_with fail
      exact kso
     simp only [pA]
     refine ⟨fun w_ hwv43 S_ => ?_, fun v43 => ?_⟩
     ·obtain ⟨xv43, rfl⟩ := hwv43
      obtain rfl : v41 = .int .i64 ((16 * q + t : Nat) : Int) := hsR S_ 41 rfl
      obtain rfl : v42 = .int .i64 ((16 * q : Nat) : Int) := hsR S_ 42 rfl
      clear S_
      go_wp2_with fail
      exact ⟨rfl, _, rfl, fun d hd => by cases hd; exact (by show Value.int .i64 _ = .int .i64 _; congr 1; omega), Ext.refl _⟩
     simp only [pA]
     refine ⟨fun w_ hwv44 S_ => ?_, fun v44 => ?_⟩
     ·obtain ⟨xv44, rfl⟩ := hwv44
      obtain rfl : v43 = .int .i64 t := hsR S_ 43 rfl
      clear S_
      go_wp2_with fail
      exact kso
     simp only [pA]
     refine ⟨fun w_ hwv45 S_ => ?_, fun v45 => ?_⟩
     ·obtain ⟨xv45, rfl⟩ := hwv45
      obtain rfl : v44 = .pointer (some ⟨w1.heap.size, t, none⟩) := hsR S_ 44 rfl
      clear S_
      go_wp2_with fail
      exact kso
     simp only [pA]
     refine ⟨fun w_ hwv46 S_ => ?_, fun v46 => ?_⟩
     ·obtain ⟨xv46, rfl⟩ := hwv46
      obtain rfl : v40 = V8 y := hsR S_ 40 rfl
      obtain rfl : v45 = V8 z := hsR S_ 45 rfl
      clear S_
      go_wp2_with fail
      exact kso
     simp only [pA]
     refine ⟨fun w_ hwv47 S_ => ?_, fun v47 => ?_⟩
     ·obtain ⟨xv47, rfl⟩ := hwv47
      obtain rfl : v46 = V8 (y ^^^ z) := hsR S_ 46 rfl
      clear S_
      go_wp2_with fail
      exact ⟨rfl, _, rfl, fun d hd => by cases hd; exact SlB.of_block (l := [y ^^^ z]) (hp_at _ _ _ (by simp)), Ext.alloc _ _⟩
     simp only [pA]
     intro x9 hfin
     have h47 : SlB (more wr x9) v47 [y ^^^ z] := hfin 47 (by decide)
     obtain rfl : v36 = .slice av (16 * q + t) cv := hfin 36 (by decide)
     have H47 := kp h47
     obtain ⟨a7, c7, rfl⟩ := h47.form
     clear hfin h47
     simp only [List.drop_succ_cons, List.drop_zero]
     go_wp2_with (at_builtin; refine wpList_append_SlB rfl _ _ 33 rfl (w.heap.size + 2) 5 iu Try.underlying33 HIU.out HU.out.1 HU.out.2.1 HU.out.2.2 (.slice av (16 * q + t) cv) (E.take (16 * q + t)) rfl (HOS.out x9) _ [y ^^^ z] rfl H47.out HLE.out (by simp <;> omega) ?_; intro v3 w3 ho3 hg3; rw [← HTK.out] at ho3; obtain ⟨a8, c8, h8⟩ := (SlB.of_owns ho3).form; rw [show (E.take (16 * q + t + 1)).length = 16 * q + (t + 1) by rw [List.length_take, HEL.out]; omega] at h8; have HO3 := kp ho3; have HG3 := kp hg3; clear ho3 hg3; subst h8)
     have HX3 := kp ((HXt.out.trans (Ext.more wr x9)).grown HG3.out (fun k hk => by have h := owns_block HOt.out k hk; simp; omega))
     have HR3 := kp ((HG3.out.block _ (by simp; omega) (owns_other (HOS.out x9) (hp_more HRt.out) (by decide))).trans (hp_more HRt.out))
     go_roundw
     case rel => exact ⟨t + 1, _, _, by omega, by omega, by go_num, rfl, HO3, HX3, HR3⟩
     case measure => simp [intOf]; omega
    ·have HTE := kp (show E.take (16 * q + t) = E.take (16 * (q + 1)) by
      by_cases h16 : t = 16
      ·rw [h16]; rfl
      ·rw [List.take_of_length_le (by rw [HEL.out]; omega), List.take_of_length_le (by rw [HEL.out]; omega)])
     have HO9 := kp (show wr.ownsRow (w.heap.size + 2) 5 1 (.slice av (16 * q + t) cv) (E.take (16 * (q + 1))).length ((E.take (16 * (q + 1))).map V8) by rw [← HTE.out]; exact HOt.out)
     by_cases hin1 : 16 * q + t < n
     ·have i1 : ((16 * q + t : Nat) : Int) < n := by omega
      have i2 : ¬ ((16 * q + t : Nat) : Int) < ((16 * q : Nat) : Int) + 16 := by omega
      go_wp2_with fail
      go_roundw
      case rel => exact ⟨q + 1, by omega, by go_num, HO9, HXt⟩
      case measure => simp [intOf]; omega
     ·have i1 : ¬ ((16 * q + t : Nat) : Int) < n := by omega
      go_wp2_with fail
      go_roundw
      case rel => exact ⟨q + 1, by omega, by go_num, HO9, HXt⟩
      case measure => simp [intOf]; omega
  ·have hge : ¬ ((16 * q : Nat) : Int) < n := by omega
   have HTE := kp (show E.take (16 * q) = E from List.take_of_length_le (by rw [HEL.out]; omega))
   have h9 := HO.out
   rw [HTE.out] at h9
   have HO9 := kp (owns_base (base' := w.heap.size) h9 (by omega))
   clear h9
   go_wp2_with fail
   go_ret
   exact ⟨_, rfl, HO9.out, ((Ext.alloc _ _).trans (Ext.alloc _ _)).trans HX.out⟩
end Go.Proofs.Ytibncchobkaaiaa
