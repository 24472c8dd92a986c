/- Contracts of hotspotref21.Encrypt and Decrypt. -/
import Derived.Test.YtnofmppimihjpaaRef21
namespace Go.Proofs.Ytnofmppimihjpaa
open Go.RowKit
set_option maxHeartbeats 3200000 in
theorem rencrypt_any (ks bs : List (BitVec 8)) (hk : ks.length = 16) (hb : bs.length = 16) (w : World) :
    Calls Try.prog 30 #[.agg (ks.map V8).toArray, .agg (bs.map V8).toArray] w
     fun e w' => e = .returned (.agg ((encF ks bs).map V8).toArray) ∧ Ext w w' := by
  have HK := kp (show (Try.prog.info? 23).map (·.size) = some (ks.map V8).toArray.size by rw [size23]; simp [hk])
  have HB := kp (show (Try.prog.info? 38).map (·.size) = some (bs.map V8).toArray.size by rw [size38]; simp [hb])
  have c2 := kp (rwords_any bs hb)
  have c3 := kp (rschedule_any ks hk)
  have HSL := kp (schedF_len ks)
  have HWL := kp (wordsF_len bs)
  have HEF := kp (show encF ks bs = joinF (encTo (maskF (wordsF bs) (schedF ks)) (schedF ks) 16) from rfl)
  generalize hss : schedF ks = ss at *
  generalize hws : wordsF bs = xs at *
  have HS := kp (show (Try.prog.info? 59).map (·.size) = some (ss.map V32).toArray.size by rw [size59]; simp [HSL.out])
  have HX := kp (show (Try.prog.info? 61).map (·.size) = some (xs.map V32).toArray.size by rw [size61]; simp [HWL.out])
  clear hk hb hss hws
  go_enter Try.func30, Try.ntmps30
  go_wp2_with (first | ((with_reducible show wpList _ _ _ (Oper.mk _ (Op.load 23 _) _ _ _ _ :: _) _ _); (with_reducible refine wpList_load_row rfl 23 _ rfl (w.heap.size) rfl 23 ((ks.map V8).toArray) (0, 0) _ (hp_alloc (hp_alloc (hp_new _ _))) Try.underlying23 rfl (HK.out) ?_); simp only [Act.put, List.setIfInBounds_toArray, List.set_cons_zero, List.set_cons_succ]) | (go_at_call 42; refine (c3.out _).mono ?_; rintro e w' ⟨rfl, xa, rfl⟩) | ((with_reducible show wpList _ _ _ (Oper.mk none (Op.store 59 _ _) _ _ _ _ :: _) _ _); with_reducible refine wpList_st_row rfl rfl 59 _ _ rfl (_) ((ss.map V32).toArray) rfl rfl 59 (_) (hp_at _ _ _ (by simp)) (HS.out) (by rw [zero36]; simp [HSL.out]) (all_V32 _) (by rewrite [setRow_at _ _ _ _ _ _ (by simp <;> omega)]; rfl) ?_) | ((with_reducible show wpList _ _ _ (Oper.mk _ (Op.load 38 _) _ _ _ _ :: _) _ _); (with_reducible refine wpList_load_row rfl 38 _ rfl (w.heap.size + 1) rfl 38 ((bs.map V8).toArray) (0, 0) _ (hp_alloc (hp_more (hp_alloc (hp_at _ _ _ (by simp))))) Try.underlying38 rfl (HB.out) ?_); simp only [Act.put, List.setIfInBounds_toArray, List.set_cons_zero, List.set_cons_succ]) | (go_at_call 43; refine (c2.out _).mono ?_; rintro e w' ⟨rfl, xb, rfl⟩) | ((with_reducible show wpList _ _ _ (Oper.mk none (Op.store 61 _ _) _ _ _ _ :: _) _ _); with_reducible refine wpList_st_row rfl rfl 61 _ _ rfl (_) ((xs.map V32).toArray) rfl rfl 61 (#[.int .u32 0, .int .u32 0, .int .u32 0, .int .u32 0]) (hp_at _ _ _ (by simp)) (HX.out) (by simp [HWL.out]) (all_V32 _) (by rewrite [setRow_at _ _ _ _ _ _ (by simp <;> omega)]; rfl) ?_))
  go_loopw [7] (fun i wr => ∃ (k : Nat) (x : Xtra), k ≤ 4 ∧ i = .int .i64 k ∧ wr = more ((more ((more (((w.alloc (.cells (ks.map V8).toArray 23)).alloc (.cells (bs.map V8).toArray 38)).alloc (.cells #[.int .u8 0, .int .u8 0, .int .u8 0, .int .u8 0, .int .u8 0, .int .u8 0, .int .u8 0, .int .u8 0, .int .u8 0, .int .u8 0, .int .u8 0, .int .u8 0, .int .u8 0, .int .u8 0, .int .u8 0, .int .u8 0] 38)) xa).alloc (.cells (ss.map V32).toArray 59)) xb).alloc (.cells ((maskTo xs ss k).map V32).toArray 61)) x) (fun i _ => 4 - (intOf i).toNat)
  case atStart => exact ⟨0, _, by omega, rfl, by rw [← more_self]; rfl⟩
  case round =>
    obtain ⟨k, x, hk, rfl, rfl⟩ := hrel
    by_cases hlt : k < 4
    · obtain ⟨y, hy⟩ : ∃ y, (maskTo xs ss k)[k]? = some y := ⟨(maskTo xs ss k)[k]'(by rw [maskTo_len, HWL.out]; omega), by simp⟩
      obtain ⟨z, hz⟩ : ∃ z, ss[k]? = some z := ⟨ss[k]'(by rw [HSL.out]; omega), by simp⟩
      have HN := kp (show maskTo xs ss (k + 1) = (maskTo xs ss k).set k (y ^^^ z) by rw [maskTo]; simp [hy, hz])
      have hk36 : k < 36 := by omega
      go_wp2_with fail
      (first | with_reducible refine region_f2 9 (by kernel_rfl) (by kernel_rfl) (by kernel_rfl) (by kernel_rfl) (by decide) (Nat.le_of_ble_eq_true (by kernel_rfl)) ?_ | refine region_f 9 (by kernel_rfl) (by kernel_rfl) (by kernel_rfl) (by kernel_rfl) (by decide) (Nat.le_of_ble_eq_true (by kernel_rfl)) ?_)
      apply Exists.intro
      refine ⟨fun xz2 => ?_, fun xq2 => ?_⟩
      · simp only [List.take_succ_cons, List.take_zero]
        unfold Cx
        repeat (go_big_quiet_step (fail))
        exact wpQuiet_nil rfl
      simp only [List.drop_succ_cons, List.drop_zero]
      go_wp2_with fail
      go_roundw
      case rel => exact ⟨k + 1, _, by omega, by go_num, by rw [HN.out, List.map_set]⟩
      case measure => simp [intOf]; omega
    · obtain rfl : k = 4 := by omega
      have HML := kp (show (maskTo xs ss 4).length = 4 by rw [maskTo_len, HWL.out])
      have HMF := kp (show maskF xs ss = maskTo xs ss 4 from rfl)
      generalize hms : maskTo xs ss 4 = ms at *
      clear hms
      go_wp2_with fail
      go_loopw [8] (fun i wr => ∃ (k : Nat) (x : Xtra), k ≤ 16 ∧ i = .int .i64 k ∧ wr = more ((more ((more (((w.alloc (.cells (ks.map V8).toArray 23)).alloc (.cells (bs.map V8).toArray 38)).alloc (.cells #[.int .u8 0, .int .u8 0, .int .u8 0, .int .u8 0, .int .u8 0, .int .u8 0, .int .u8 0, .int .u8 0, .int .u8 0, .int .u8 0, .int .u8 0, .int .u8 0, .int .u8 0, .int .u8 0, .int .u8 0, .int .u8 0] 38)) xa).alloc (.cells (ss.map V32).toArray 59)) xb).alloc (.cells ((encTo ms ss k).map V32).toArray 61)) x) (fun i _ => 16 - (intOf i).toNat)
      case atStart => exact ⟨0, _, by omega, rfl, rfl⟩
      case round =>
        obtain ⟨k, x, hk, rfl, rfl⟩ := hrel
        by_cases hlt : k < 16
        · obtain ⟨p, hp⟩ : ∃ p, ss[4 + 2 * k]? = some p := ⟨ss[4 + 2 * k]'(by rw [HSL.out]; omega), by simp⟩
          obtain ⟨q, hq⟩ : ∃ q, ss[5 + 2 * k]? = some q := ⟨ss[5 + 2 * k]'(by rw [HSL.out]; omega), by simp⟩
          obtain ⟨a, b, c, d, he⟩ := list4 (encTo_len ms ss HML.out k)
          have HN := kp (show encTo ms ss (k + 1) = roundF a b c d p q by rw [encTo, he]; simp [roundL, hp, hq])
          rw [he]
          clear he
          have HR := kp (show (Try.prog.info? 61).map (·.size) = some ((roundF a b c d p q).map V32).toArray.size by rw [size61]; rfl)
          simp only [List.map_cons, List.map_nil]
          go_wp2_with fail
          (first | with_reducible refine region_f2 12 (by kernel_rfl) (by kernel_rfl) (by kernel_rfl) (by kernel_rfl) (by decide) (Nat.le_of_ble_eq_true (by kernel_rfl)) ?_ | refine region_f 12 (by kernel_rfl) (by kernel_rfl) (by kernel_rfl) (by kernel_rfl) (by decide) (Nat.le_of_ble_eq_true (by kernel_rfl)) ?_)
          apply Exists.intro
          refine ⟨fun xz3 => ?_, fun xq3 => ?_⟩
          · simp only [List.take_succ_cons, List.take_zero]
            unfold Cx
            repeat (go_big_quiet_step (exact Calls.cx_of (rround_any a b c d p q _)))
            exact wpQuiet_nil rfl
          simp only [List.drop_succ_cons, List.drop_zero]
          go_wp2_with (first | ((with_reducible show wpList _ _ _ (Oper.mk none (Op.store 61 _ _) _ _ _ _ :: _) _ _); with_reducible refine wpList_st_row rfl rfl 61 _ _ rfl (_) (((roundF a b c d p q).map V32).toArray) rfl rfl 61 (#[V32 a, V32 b, V32 c, V32 d]) (hp_more (hp_at _ _ _ (by simp))) (HR.out) (rfl) (all_V32 _) (by rewrite [setRow_more _ _ _ _ (by simp <;> omega), setRow_at _ _ _ _ _ _ (by simp <;> omega)]; rfl) ?_))
          go_roundw
          case rel => exact ⟨k + 1, _, by omega, by go_num, by rw [HN.out]⟩
          case measure => simp [intOf]; omega
        · obtain rfl : k = 16 := by omega
          have HEL := kp (encTo_len ms ss HML.out 16)
          have HEF2 := kp (show encF ks bs = joinF (encTo ms ss 16) by rw [HEF.out, HMF.out])
          generalize hys : encTo ms ss 16 = ys at *
          clear hys
          have HE := kp (show (Try.prog.info? 61).map (·.size) = some (ys.map V32).toArray.size by rw [size61]; simp [HEL.out])
          have HJ := kp (show (Try.prog.info? 38).map (·.size) = some ((joinF ys).map V8).toArray.size by rw [size38]; simp [joinF_len])
          go_wp2_with (first | ((with_reducible show wpList _ _ _ (Oper.mk _ (Op.load 61 _) _ _ _ _ :: _) _ _); (with_reducible refine wpList_load_row rfl 61 _ rfl (_) rfl 61 ((ys.map V32).toArray) (0, 0) _ (hp_more (hp_at _ _ _ (by simp))) Try.underlying61 rfl (HE.out) ?_); simp only [Act.put, List.setIfInBounds_toArray, List.set_cons_zero, List.set_cons_succ]) | (go_at_call 45; refine (rjoin_any ys HEL.out _).mono ?_; rintro e w' ⟨rfl, xj, rfl⟩; rw [more_more]) | ((with_reducible show wpList _ _ _ (Oper.mk none (Op.store 38 _ _) _ _ _ _ :: _) _ _); with_reducible refine wpList_st_row rfl rfl 38 _ _ rfl (w.heap.size + 1 + 1) (((joinF ys).map V8).toArray) rfl rfl 38 (#[.int .u8 0, .int .u8 0, .int .u8 0, .int .u8 0, .int .u8 0, .int .u8 0, .int .u8 0, .int .u8 0, .int .u8 0, .int .u8 0, .int .u8 0, .int .u8 0, .int .u8 0, .int .u8 0, .int .u8 0, .int .u8 0]) (hp_more (hp_alloc (hp_more (hp_alloc (hp_more (hp_at _ _ _ (by simp))))))) (HJ.out) (by simp [joinF_len]) (all_V8 _) (by rewrite [setRow_more _ _ _ _ (by simp <;> omega), setRow_past _ _ _ _ (by simp <;> omega), setRow_more _ _ _ _ (by simp <;> omega), setRow_past _ _ _ _ (by simp <;> omega), setRow_more _ _ _ _ (by simp <;> omega), setRow_at _ _ _ _ _ _ (by simp <;> omega)]; rfl) ?_))
          exact ret_row Try.results30 (w.heap.size + 1 + 1) 38 (((joinF ys).map V8).toArray) (0, 0) _ rfl (hp_more (hp_alloc (hp_more (hp_alloc (hp_more (hp_at _ _ _ (by simp))))))) Try.underlying38 rfl (HJ.out) rfl ⟨by rw [HEF2.out], (((((((Ext.alloc _ _).trans (Ext.alloc _ _)).trans (Ext.alloc _ _)).trans (Ext.more _ _)).trans (Ext.alloc _ _)).trans (Ext.more _ _)).trans (Ext.alloc _ _)).trans (Ext.more _ _)⟩

end Go.Proofs.Ytnofmppimihjpaa
