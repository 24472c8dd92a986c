/- hotspotref22's two, first, Stream, filled. -/
import Derived.Test.YtnofmppimihjpaaSame22
import Derived.Test.YtnofmppimihjpaaRef21b
namespace Go.Proofs.Ytnofmppimihjpaa
open Go.RowKit

theorem tmod_form (n : Int) : ∃ q r : Int, Int.tmod n 65536 = r ∧ n = 65536 * q + r ∧ -65536 < r ∧ r < 65536 ∧ (0 ≤ n → 0 ≤ r) := by
  refine ⟨Int.tdiv n 65536, Int.tmod n 65536, rfl, ?_, ?_, ?_, ?_⟩
  · have := Int.mul_tdiv_add_tmod n 65536; omega
  · have := Int.lt_tmod_of_pos n (show (0 : Int) < 65536 by decide); omega
  · exact Int.tmod_lt_of_pos n (by decide)
  · intro h; exact Int.tmod_nonneg _ h
set_option maxHeartbeats 800000 in
theorem rtwo_any (n : Int) (w : World) :
    Calls Try.prog 29 #[.int .i64 n] w fun e w' => e = .returned (.slice (some ⟨w.heap.size, 0, none⟩) 2 2) ∧ w' = w.alloc (.cells #[V8 (BitVec.ofInt 8 n), V8 (BitVec.ofInt 8 (n / 256))] 5) := by
  obtain ⟨q, r, hr, hn, h1, h2, h3⟩ := tmod_form n
  have HN := kp hn
  rw [V8_ofInt, V8_ofInt]
  by_cases hneg : r < 0
  · have hA : (r + 65536) % 256 % 256 = n % 256 := by omega
    have hB : (r + 65536) / 256 % 256 = n / 256 % 256 := by omega
    have hp : 0 ≤ r + 65536 := by omega
    clear hn
    go_enter Try.func29, Try.ntmps29
    go_wp2_with fail
    go_ret
    have hn := HN.out
    exact ⟨rfl, by rw [show (r + 65536) % 256 = n % 256 by omega, show (r + 65536) / 256 = n / 256 % 256 by omega]⟩
  · have hA : r % 256 % 256 = n % 256 := by omega
    have hB : r / 256 % 256 = n / 256 % 256 := by omega
    have hp : 0 ≤ r := by omega
    clear hn
    go_enter Try.func29, Try.ntmps29
    go_wp2_with fail
    go_ret
    have hn := HN.out
    exact ⟨rfl, by rw [show r % 256 = n % 256 by omega, show r / 256 = n / 256 % 256 by omega]⟩

def firstTo (m : BitVec 8) (nc : List (BitVec 8)) (k : Nat) : List (BitVec 8) := m :: (nc.take k ++ List.replicate (15 - k) 0)
theorem firstTo_len (m : BitVec 8) (nc : List (BitVec 8)) (h : nc.length = 13) (k : Nat) (hk : k ≤ 13) : (firstTo m nc k).length = 16 := by
  simp [firstTo, h]; omega
theorem firstTo_step (m : BitVec 8) (nc : List (BitVec 8)) (h : nc.length = 13) (k : Nat) (hk : k < 13) (y : BitVec 8) (hy : nc[k]? = some y) : (firstTo m nc k).set (k + 1) y = firstTo m nc (k + 1) := by
  unfold firstTo
  rw [List.set_cons_succ, List.set_append_right _ _ (by rw [List.length_take]; omega), List.length_take, Nat.min_eq_left (by omega), Nat.sub_self, show 15 - k = (15 - (k + 1)) + 1 by omega, List.replicate_succ, List.set_cons_zero, List.take_add_one, hy]
  simp
theorem firstTo_end (m : BitVec 8) (nc : List (BitVec 8)) (h : nc.length = 13) (n : Int) : ((firstTo m nc 13).set 14 (BitVec.ofInt 8 n)).set 15 (BitVec.ofInt 8 (n / 256)) = markF m nc n := by
  unfold firstTo markF
  rw [List.take_of_length_le (by omega), List.set_cons_succ, List.set_cons_succ, List.set_append_right _ _ (by omega), h]
  show m :: ((nc ++ [BitVec.ofInt 8 n, 0]).set 14 _) = _
  rw [List.set_append_right _ _ (by omega), h]
  rfl
set_option maxHeartbeats 1600000 in
theorem rfirst_any (m : BitVec 8) (nc : List (BitVec 8)) (hl : nc.length = 13) (n : Int) (w : World) :
    Calls Try.prog 31 #[.int .u8 (wI m), .agg (nc.map V8).toArray, .int .i64 n] w fun e w' => e = .returned (.agg ((markF m nc n).map V8).toArray) ∧ Ext w w' := by
  have HL := kp hl
  have HE := kp (firstTo_end m nc hl n)
  have HML := kp (markF_len m nc hl n)
  have HT := kp (fun w => rtwo_any n w)
  clear hl
  go_enter Try.func31, Try.ntmps31
  go_wp2_with fail
  go_loopw [8] (fun i wr => ∃ (k : Nat) (x : Xtra), k ≤ 13 ∧ i = .int .i64 k ∧ wr = more (((w.alloc (.cells (nc.map V8).toArray 24)).alloc (.cells z16 38)).alloc (.cells ((firstTo m nc k).map V8).toArray 38)) x) (fun i _ => 13 - (intOf i).toNat)
  case atStart => exact ⟨0, _, by omega, rfl, by rw [← more_self]; rfl⟩
  case round =>
    obtain ⟨k, x, hk, rfl, rfl⟩ := hrel
    by_cases hlt : k < 13
    · obtain ⟨y, hy⟩ : ∃ y, nc[k]? = some y := ⟨nc[k]'(by rw [HL.out]; omega), by simp⟩
      obtain ⟨z, hz⟩ : ∃ z, (firstTo m nc k)[k + 1]? = some z := ⟨(firstTo m nc k)[k + 1]'(by rw [firstTo_len m nc HL.out k hk]; omega), by simp⟩
      have HS := kp (firstTo_step m nc HL.out k hlt y hy)
      go_wp2_with fail
      go_roundw
      case rel => exact ⟨k + 1, _, by omega, by go_num, by rw [← HS.out, List.map_set]⟩
      case measure => simp [intOf]; omega
    · obtain rfl : k = 13 := by omega
      have HFL := kp (firstTo_len m nc HL.out 13 (by omega))
      generalize firstTo m nc 13 = F at *
      obtain ⟨z14, hz14⟩ : ∃ z, F[14]? = some z := ⟨F[14]'(by rw [HFL.out]; omega), by simp⟩
      obtain ⟨z15, hz15⟩ : ∃ z, F[15]? = some z := ⟨F[15]'(by rw [HFL.out]; omega), by simp⟩
      go_wp2_with fail
      refine (HT.out _).mono ?_
      rintro e w1 ⟨rfl, rfl⟩
      have HRW := kp (show ((F.map V8).set 14 (V8 (BitVec.ofInt 8 n))).set 15 (V8 (BitVec.ofInt 8 (n / 256))) = (markF m nc n).map V8 by rw [← HE.out, List.map_set, List.map_set])
      obtain ⟨M, hM⟩ : ∃ M, markF m nc n = M := ⟨_, rfl⟩
      rw [hM] at HRW HML
      have HMM := kp hM
      have HB := kp (sizeB M HML.out)
      have HZ := kp (z16_size M HML.out)
      have HRR := kp (show ((more (((w.alloc (.cells (nc.map V8).toArray 24)).alloc (.cells z16 38)).alloc (.cells (((F.map V8).set 14 (V8 (BitVec.ofInt 8 n))).set 15 (V8 (BitVec.ofInt 8 (n / 256)))).toArray 38)) x).alloc (.cells #[V8 (BitVec.ofInt 8 n), V8 (BitVec.ofInt 8 (n / 256))] 5)).heap[w.heap.size + 1 + 1]? = some (.cells (M.map V8).toArray 38 (0, 0)) by rw [← HRW.out]; exact hp_alloc (hp_more (hp_at _ _ _ (by simp))))
      clear hM HE
      go_wp2_with (first | ((with_reducible show wpList _ _ _ (Oper.mk _ (Op.load 38 _) _ _ _ _ :: _) _ _); (with_reducible refine wpList_load_row rfl 38 _ rfl (w.heap.size + 1 + 1) rfl 38 ((M.map V8).toArray) (0, 0) _ (HRR.out) Try.underlying38 rfl (HB.out) ?_); simp only [Act.put, List.setIfInBounds_toArray, List.set_cons_zero, List.set_cons_succ]) | ((with_reducible show wpList _ _ _ (Oper.mk none (Op.store 38 _ _) _ _ _ _ :: _) _ _); with_reducible refine wpList_st_row rfl rfl 38 _ _ rfl (w.heap.size + 1) ((M.map V8).toArray) rfl rfl 38 (z16) (hp_alloc (hp_more (hp_alloc (hp_at _ _ _ (by simp))))) (HB.out) (HZ.out) (all_V8 _) (by rewrite [setRow_past _ _ _ _ (by simp <;> omega), setRow_more _ _ _ _ (by first | assumption | (simp <;> omega)), setRow_past _ _ _ _ (by simp <;> omega), setRow_at _ _ _ _ _ _ (by simp <;> omega)]; rfl) ?_))
      exact ret_row Try.results31 (w.heap.size + 1) 38 ((M.map V8).toArray) (0, 0) _ rfl (hp_alloc (hp_more (hp_alloc (hp_at _ _ _ (by simp))))) Try.underlying38 rfl (HB.out) rfl ⟨by rw [HMM.out], ((((Ext.alloc _ _).trans (Ext.alloc _ _)).trans (Ext.alloc _ _)).trans (Ext.more _ _)).trans (Ext.alloc _ _)⟩
set_option maxHeartbeats 1600000 in
theorem rstream_any (ks nc : List (BitVec 8)) (hk : ks.length = 16) (hl : nc.length = 13) (i : Int) (w : World) :
    Calls Try.prog 18 #[.agg (ks.map V8).toArray, .agg (nc.map V8).toArray, .int .i64 i] w fun e w' => e = .returned (.agg ((streamF ks nc i).map V8).toArray) ∧ Ext w w' := by
  have HK := kp (sizeK ks hk)
  have HN := kp (sizeN nc hl)
  have HS := kp (sizeB _ (streamF_len ks nc i))
  have HM := kp (fun w => rfirst_any 1 nc hl i w)
  have HE := kp (fun w => rencrypt_any ks (markF 1 nc i) hk (markF_len 1 nc hl i) w)
  have HZ := kp (z16_size _ (streamF_len ks nc i))
  rw [show encF ks (markF 1 nc i) = streamF ks nc i from rfl] at HE
  generalize markF 1 nc i = M at *
  generalize streamF ks nc i = S at *
  clear hk hl
  go_enter Try.func18, Try.ntmps18
  go_wp2_with fail
  (first | with_reducible refine region_f2 5 (by kernel_rfl) (by kernel_rfl) (by kernel_rfl) (by kernel_rfl) (by decide) (Nat.le_of_ble_eq_true (by kernel_rfl)) ?_ | refine region_f 5 (by kernel_rfl) (by kernel_rfl) (by kernel_rfl) (by kernel_rfl) (by decide) (Nat.le_of_ble_eq_true (by kernel_rfl)) ?_)
  apply Exists.intro
  refine ⟨fun xz2 => ?_, fun xq2 => ?_⟩
  · simp only [List.take_succ_cons, List.take_zero]
    unfold Cx
    (((with_reducible show wpQuiet _ _ _ _ (Oper.mk _ (Op.load 23 _) _ _ _ _ :: _) _); go_big_quiet_want; with_reducible refine quiet_load_row 23 _ rfl (w.heap.size) rfl 23 ((ks.map V8).toArray) (0, 0) _ (fun _ hw => by obtain ⟨xx, rfl⟩ := hw; exact hp_more (hp_alloc (hp_alloc (hp_new _ _)))) Try.underlying23 rfl (HK.out) ?_; simp only [Act.put, List.setIfInBounds_toArray, List.set_cons_zero, List.set_cons_succ]; go_big_quiet_on); ((with_reducible show wpQuiet _ _ _ _ (Oper.mk _ (Op.load 24 _) _ _ _ _ :: _) _); go_big_quiet_want; with_reducible refine quiet_load_row 24 _ rfl (w.heap.size + 1) rfl 24 ((nc.map V8).toArray) (0, 0) _ (fun _ hw => by obtain ⟨xx, rfl⟩ := hw; exact hp_more (hp_alloc (hp_at _ _ _ (by simp)))) Try.underlying24 rfl (HN.out) ?_; simp only [Act.put, List.setIfInBounds_toArray, List.set_cons_zero, List.set_cons_succ]; go_big_quiet_on); go_big_quiet_step (fail); go_big_quiet_step (exact Calls.cx_of (HM.out _)); go_big_quiet_step (exact Calls.cx_of (HE.out _)))
    exact wpQuiet_nil rfl
  simp only [List.drop_succ_cons, List.drop_zero]
  go_wp2_with ((with_reducible show wpList _ _ _ (Oper.mk none (Op.store 38 _ _) _ _ _ _ :: _) _ _); with_reducible refine wpList_st_row rfl rfl 38 _ _ rfl (w.heap.size + 1 + 1) ((S.map V8).toArray) rfl rfl 38 (z16) (hp_more (hp_at _ _ _ (by simp))) (HS.out) (HZ.out) (all_V8 _) (by rewrite [setRow_more _ _ _ _ (by first | assumption | (simp <;> omega)), setRow_at _ _ _ _ _ _ (by simp <;> omega)]; rfl) ?_)
  exact ret_row Try.results18 (w.heap.size + 1 + 1) 38 ((S.map V8).toArray) (0, 0) _ rfl (hp_more (hp_at _ _ _ (by simp))) Try.underlying38 rfl (HS.out) rfl ⟨rfl, (((Ext.alloc _ _).trans (Ext.alloc _ _)).trans (Ext.alloc _ _)).trans (Ext.more _ _)⟩

set_option maxHeartbeats 1600000 in
theorem rfilled_any (v : Value) (bs : List (BitVec 8)) (hn : bs.length ≤ 100000) (w : World) (hs : SlB w v bs) : Calls Try.prog 28 #[v] w (RetO (padF bs) w) := by
  obtain ⟨iu, hiu, hu⟩ := info_iu
  have HIU := kp hiu
  have HU := kp hu
  obtain ⟨ad, cap, rfl⟩ := hs.form
  have HS := kp (hs.ext (Ext.alloc w (.cells #[] 5)))
  obtain ⟨n, hnn⟩ : ∃ n, n = bs.length := ⟨_, rfl⟩
  have HOE := kp (owns_empty w w.heap.size (Nat.le_refl _))
  have HLE := kp (show ([] : List (BitVec 8)).length + bs.length ≤ 1000000 by simp; omega)
  rw [← hnn] at hn HS ⊢
  have HN := kp hnn
  obtain ⟨P, hP⟩ : ∃ P, P = (16 - n % 16) % 16 := ⟨_, rfl⟩
  have HP := kp hP
  have HPF := kp (show bs ++ List.replicate P 0 = padF bs by rw [padF, ← hnn, ← hP])
  have hP15 : P ≤ 15 := by omega
  clear hiu hu hs hnn hP
  go_enter Try.func28, Try.ntmps28
  go_wp2_with (at_builtin; refine wpList_append_SlB rfl _ _ 25 rfl w.heap.size 5 iu Try.underlying25 HIU.out HU.out.1 HU.out.2.1 HU.out.2.2 _ _ rfl HOE.out _ bs rfl HS.out HLE.out (by simp) ?_; intro v2 w2 ho2 hg2)
  have HO2 := kp (show w2.ownsRow w.heap.size 5 1 v2 (bs ++ List.replicate 0 0).length ((bs ++ List.replicate 0 0).map V8) by simpa using ho2)
  have HX2 := kp ((Ext.alloc w (.cells #[] 5)).grown hg2 (fun q hq => owns_block HOE.out q hq))
  clear ho2 hg2 HOE HS HLE
  go_loopw [3] (fun v wr => ∃ k : Nat, k ≤ P ∧ Kp (wr.ownsRow w.heap.size 5 1 v (bs ++ List.replicate k 0).length ((bs ++ List.replicate k 0).map V8)) ∧ Kp (Ext w wr)) (fun v _ => n + P - sliceLen v)
  case atStart => exact ⟨0, by omega, HO2, HX2⟩
  case round =>
    obtain ⟨k, hkP, HO, HX⟩ := hrel
    have hlen : (bs ++ List.replicate k (0 : BitVec 8)).length = n + k := by rw [List.length_append, List.length_replicate, ← HN.out]
    obtain ⟨av, cv, hvf⟩ := (SlB.of_owns HO.out).form
    rw [hlen] at hvf
    subst hvf
    by_cases hlt : k < P
    · have hne : (((n : Int) + (k : Int)) % 16 != 0) = true := by have := HP.out; simp; omega
      have hsz : w.heap.size ≤ wr.heap.size := HX.out.size
      have HOA := kp (owns_ext HO.out (Ext.alloc wr (.cells #[.int .u8 0] 5)))
      have HSA := kp (show SlB (wr.alloc (.cells #[.int .u8 0] 5)) (.slice (some ⟨wr.heap.size, 0, none⟩) 1 1) [0#8] from SlB.of_block (hp_new wr _))
      have HLE := kp (show (bs ++ List.replicate k (0 : BitVec 8)).length + [0#8].length ≤ 1000000 by rw [hlen]; simp; omega)
      clear hlen
      go_wp2_with (at_builtin; refine wpList_append_SlB rfl _ _ 25 rfl w.heap.size 5 iu Try.underlying25 HIU.out HU.out.1 HU.out.2.1 HU.out.2.2 _ _ rfl (HOA.out) _ ([0#8]) rfl (HSA.out) (HLE.out) (by simp <;> omega) ?_; intro v3 w3 ho3 hg3)
      have HX3 := kp ((HX.out.trans (Ext.alloc _ _)).grown hg3 (fun q hq => by have := owns_block HOA.out q hq; simpa using this))
      have HO3 := kp (show w3.ownsRow w.heap.size 5 1 v3 (bs ++ List.replicate (k + 1) 0).length ((bs ++ List.replicate (k + 1) 0).map V8) by
        have h := ho3
        rw [List.append_assoc, show [0#8] = [(0 : BitVec 8)] from rfl, ← List.replicate_succ'] at h
        exact h)
      have hlen3 : sliceLen v3 = n + k + 1 := by
        obtain ⟨a9, c9, h9⟩ := (SlB.of_owns HO3.out).form
        rw [h9]
        show (bs ++ List.replicate (k + 1) (0 : BitVec 8)).length = _
        rw [List.length_append, List.length_replicate, ← HN.out]; omega
      clear ho3 hg3
      go_roundw
      case rel => exact ⟨k + 1, by omega, HO3, HX3⟩
      case measure => rw [hlen3]; simp [sliceLen]; omega
    · obtain rfl : k = P := by omega
      have hne : (((n : Int) + (k : Int)) % 16 != 0) = false := by have := HP.out; simp; omega
      have HO9 := kp (show wr.ownsRow w.heap.size 5 1 (.slice av (n + k) cv) (padF bs).length ((padF bs).map V8) by rw [← HPF.out]; exact HO.out)
      clear hlen
      go_wp2_with fail
      go_ret
      exact ⟨_, rfl, HO9.out, HX.out⟩
end Go.Proofs.Ytnofmppimihjpaa
