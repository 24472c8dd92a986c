/- The statements of chapter 21: CipherApart, CipherChain. -/
import Derived.Test.YtaoaifllllhokaaLaw21b
namespace Go.Proofs.Ytaoaifllllhokaa
open Go.RowKit

theorem beq_iff_same {α : Type} [BEq α] [LawfulBEq α] {a b c d : α} (h : a = b ↔ c = d) : (a == b) = (c == d) := by
  rw [Bool.eq_iff_iff]; simp [h]

set_option maxHeartbeats 1600000 in
theorem cipherApart.walk (ks : List (BitVec 8)) (hk : ks.length = 16) (cs : List (BitVec 8)) (ha : cs.length = 16) (bs : List (BitVec 8)) (hb : bs.length = 16) (w : World) : Calls Try.prog 8 #[.agg (ks.map V8).toArray, .agg (cs.map V8).toArray, .agg (bs.map V8).toArray] w fun e w' => e = .returned (.bool true) ∧ Ext w w' := by
  have HK := kp (show (Try.prog.info? 28).map (·.size) = some (ks.map V8).toArray.size by rw [size28]; simp [hk])
  have HA := kp (show (Try.prog.info? 29).map (·.size) = some (cs.map V8).toArray.size by rw [size29]; simp [ha])
  have HB := kp (show (Try.prog.info? 29).map (·.size) = some (bs.map V8).toArray.size by rw [size29]; simp [hb])
  obtain ⟨t, ht⟩ : ∃ t, t = (cs == bs) := ⟨_, rfl⟩
  have e1 : ∀ w, (binOp .eql 29 (.agg (cs.map V8).toArray) (.agg (bs.map V8).toArray)).run Try.prog w = .ok (.bool t) w := fun w => by
    rw [eq16 cs bs ha hb w, ht]
  have e2 : ∀ w, (binOp .eql 29 (.agg ((encF ks cs).map V8).toArray) (.agg ((encF ks bs).map V8).toArray)).run Try.prog w = .ok (.bool t) w := fun w => by
    rw [eq16 _ _ (encF_len _ _) (encF_len _ _) w, ht, beq_iff_same (enc_inj ks cs bs ha hb)]
  have e3 : ∀ w, (binOp .eql 29 (.agg ((decF ks cs).map V8).toArray) (.agg ((decF ks bs).map V8).toArray)).run Try.prog w = .ok (.bool t) w := fun w => by
    rw [eq16 _ _ (decF_len _ _) (decF_len _ _) w, ht, beq_iff_same (dec_inj ks cs bs ha hb)]
  have c1 := kp (encrypt_any ks cs hk ha)
  have c2 := kp (encrypt_any ks bs hk hb)
  have c3 := kp (decrypt_any ks cs hk ha)
  have c4 := kp (decrypt_any ks bs hk hb)
  clear hk hb ha ht
  go_enter Try.func8, Try.ntmps8
  go_wp2_with fail
  (first | with_reducible refine region_f2 28 (by kernel_rfl) (by kernel_rfl) (by kernel_rfl) (by kernel_rfl) (by decide) (by simp) ?_ | refine region_f 28 (by kernel_rfl) (by kernel_rfl) (by kernel_rfl) (by kernel_rfl) (by decide) (by simp) ?_)
  apply Exists.intro
  refine ⟨fun xz2 => ?_, fun xq2 => ?_⟩
  · simp only [List.take_succ_cons, List.take_zero]
    unfold Cx
    repeat (first | (go_big_quiet_want; with_reducible refine quiet_load_row 28 _ rfl (w.heap.size) rfl 28 ((ks.map V8).toArray) (0, 0) _ (fun _ hw => by obtain ⟨xx, rfl⟩ := hw; exact hp_more (hp_alloc (hp_alloc (hp_new _ _)))) Try.underlying28 rfl (HK.out) ?_; simp only [Act.put, List.setIfInBounds_toArray, List.set_cons_zero, List.set_cons_succ]; go_big_quiet_on) | (go_big_quiet_want; with_reducible refine quiet_load_row 29 _ rfl (w.heap.size + 1) rfl 29 ((cs.map V8).toArray) (0, 0) _ (fun _ hw => by obtain ⟨xx, rfl⟩ := hw; exact hp_more (hp_alloc (hp_at _ _ _ (by simp)))) Try.underlying29 rfl (HA.out) ?_; simp only [Act.put, List.setIfInBounds_toArray, List.set_cons_zero, List.set_cons_succ]; go_big_quiet_on) | (go_big_quiet_want; with_reducible refine quiet_load_row 29 _ rfl (w.heap.size + 1 + 1) rfl 29 ((bs.map V8).toArray) (0, 0) _ (fun _ hw => by obtain ⟨xx, rfl⟩ := hw; exact hp_more (hp_at _ _ _ (by simp))) Try.underlying29 rfl (HB.out) ?_; simp only [Act.put, List.setIfInBounds_toArray, List.set_cons_zero, List.set_cons_succ]; go_big_quiet_on) | go_big_quiet_step (first | (go_at_call 11; exact Calls.cx_of (alive_any _)) | (go_at_call 14; first | (with_reducible exact Calls.cx_of (c1.out _)) | exact Calls.cx_of (c2.out _)) | (go_at_call 17; first | (with_reducible exact Calls.cx_of (c3.out _)) | exact Calls.cx_of (c4.out _))))
    exact wpQuiet_nil rfl
  simp only [List.drop_succ_cons, List.drop_zero]
  go_wp2_with fail
  go_ret
  exact ⟨rfl, (((Ext.alloc _ _).trans (Ext.alloc _ _)).trans (Ext.alloc _ _)).trans (Ext.more _ _)⟩

set_option maxHeartbeats 3200000 in
theorem cipherChain.walk (ks : List (BitVec 8)) (hk : ks.length = 16) (bs : List (BitVec 8)) (hb : bs.length = 16) (w : World) : Calls Try.prog 5 #[.agg (ks.map V8).toArray, .agg (bs.map V8).toArray] w fun e w' => e = .returned (.bool true) ∧ Ext w w' := by
  have HK := kp (show (Try.prog.info? 28).map (·.size) = some (ks.map V8).toArray.size by rw [size28]; simp [hk])
  have HB := kp (show (Try.prog.info? 29).map (·.size) = some (bs.map V8).toArray.size by rw [size29]; simp [hb])
  have c1 := kp (encrypt_any ks bs hk hb)
  have c2 := kp (words_any bs hb)
  have c3 := kp (schedule_any ks hk)
  have HSL := kp (schedF_len ks)
  have HWL := kp (wordsF_len bs)
  have HEF := kp (show encF ks bs = joinF (encTo (maskF (wordsF bs) (schedF ks)) (schedF ks) 16) from rfl)
  generalize hss : schedF ks = ss at *
  generalize hws : wordsF bs = xs at *
  have HS := kp (show (Try.prog.info? 30).map (·.size) = some (ss.map V32).toArray.size by rw [size30]; simp [HSL.out])
  have HX := kp (show (Try.prog.info? 23).map (·.size) = some (xs.map V32).toArray.size by rw [size23]; simp [HWL.out])
  clear hk hb hss hws
  go_enter Try.func5, Try.ntmps5
  go_wp2_with (first | ((with_reducible refine wpList_load_row rfl 28 _ rfl (w.heap.size) rfl 28 ((ks.map V8).toArray) (0, 0) _ (hp_alloc (hp_new _ _)) Try.underlying28 rfl (HK.out) ?_); simp only [Act.put, List.setIfInBounds_toArray, List.set_cons_zero, List.set_cons_succ]) | (go_at_call 12; refine (c3.out _).mono ?_; rintro e w' ⟨rfl, xa, rfl⟩) | with_reducible refine wpList_st_row rfl rfl 30 _ _ rfl (_) ((ss.map V32).toArray) rfl rfl 30 (_) (hp_at _ _ _ (by simp)) (HS.out) (by rw [zero36]; simp [HSL.out]) (all_V32 _) (by rewrite [setRow_at _ _ _ _ _ _ (by simp)]; rfl) ?_ | ((with_reducible refine wpList_load_row rfl 29 _ rfl (w.heap.size + 1) rfl 29 ((bs.map V8).toArray) (0, 0) _ (hp_alloc (hp_more (hp_at _ _ _ (by simp)))) Try.underlying29 rfl (HB.out) ?_); simp only [Act.put, List.setIfInBounds_toArray, List.set_cons_zero, List.set_cons_succ]) | (go_at_call 13; refine (c2.out _).mono ?_; rintro e w' ⟨rfl, xb, rfl⟩) | with_reducible refine wpList_st_row rfl rfl 23 _ _ rfl (_) ((xs.map V32).toArray) rfl rfl 23 (#[.int .u32 0, .int .u32 0, .int .u32 0, .int .u32 0]) (hp_at _ _ _ (by simp)) (HX.out) (by simp [HWL.out]) (all_V32 _) (by rewrite [setRow_at _ _ _ _ _ _ (by simp)]; rfl) ?_)
  go_loopw [7] (fun i wr => ∃ (k : Nat) (x : Xtra), k ≤ 4 ∧ i = .int .i64 k ∧ wr = more ((more ((more ((w.alloc (.cells (ks.map V8).toArray 28)).alloc (.cells (bs.map V8).toArray 29)) xa).alloc (.cells (ss.map V32).toArray 30)) xb).alloc (.cells ((maskTo xs ss k).map V32).toArray 23)) x) (fun i _ => 4 - (intOf i).toNat)
  case atStart => exact ⟨0, _, by omega, rfl, by rw [← more_self]; rfl⟩
  case round =>
    obtain ⟨k, x, hk, rfl, rfl⟩ := hrel
    by_cases hlt : k < 4
    · obtain ⟨y, hy⟩ : ∃ y, (maskTo xs ss k)[k]? = some y := ⟨(maskTo xs ss k)[k]'(by rw [maskTo_len, HWL.out]; omega), by simp⟩
      obtain ⟨z, hz⟩ : ∃ z, ss[k]? = some z := ⟨ss[k]'(by rw [HSL.out]; omega), by simp⟩
      have HN := kp (show maskTo xs ss (k + 1) = (maskTo xs ss k).set k (y ^^^ z) by rw [maskTo]; simp [hy, hz])
      have hk36 : k < 36 := by omega
      go_wp2_with fail
      (first | with_reducible refine region_f2 9 (by kernel_rfl) (by kernel_rfl) (by kernel_rfl) (by kernel_rfl) (by decide) (by simp) ?_ | refine region_f 9 (by kernel_rfl) (by kernel_rfl) (by kernel_rfl) (by kernel_rfl) (by decide) (by simp) ?_)
      apply Exists.intro
      refine ⟨fun xz2 => ?_, fun xq2 => ?_⟩
      · simp only [List.take_succ_cons, List.take_zero]
        unfold Cx
        repeat (go_big_quiet_step (fail))
        exact wpQuiet_nil rfl
      simp only [List.drop_succ_cons, List.drop_zero]
      go_wp2_with fail
      go_roundw
      case rel => exact ⟨k + 1, _, by omega, by go_num, by rw [HN.out, List.map_set]⟩
      case measure => simp [intOf]; omega
    · obtain rfl : k = 4 := by omega
      have HML := kp (show (maskTo xs ss 4).length = 4 by rw [maskTo_len, HWL.out])
      have HMF := kp (show maskF xs ss = maskTo xs ss 4 from rfl)
      generalize hms : maskTo xs ss 4 = ms at *
      clear hms
      go_wp2_with fail
      go_loopw [8] (fun i wr => ∃ (k : Nat) (x : Xtra), k ≤ 16 ∧ i = .int .i64 k ∧ wr = more ((more ((more ((w.alloc (.cells (ks.map V8).toArray 28)).alloc (.cells (bs.map V8).toArray 29)) xa).alloc (.cells (ss.map V32).toArray 30)) xb).alloc (.cells ((encTo ms ss k).map V32).toArray 23)) x) (fun i _ => 16 - (intOf i).toNat)
      case atStart => exact ⟨0, _, by omega, rfl, rfl⟩
      case round =>
        obtain ⟨k, x, hk, rfl, rfl⟩ := hrel
        by_cases hlt : k < 16
        · obtain ⟨p, hp⟩ : ∃ p, ss[4 + 2 * k]? = some p := ⟨ss[4 + 2 * k]'(by rw [HSL.out]; omega), by simp⟩
          obtain ⟨q, hq⟩ : ∃ q, ss[5 + 2 * k]? = some q := ⟨ss[5 + 2 * k]'(by rw [HSL.out]; omega), by simp⟩
          obtain ⟨a, b, c, d, he⟩ := list4 (encTo_len ms ss HML.out k)
          have HN := kp (show encTo ms ss (k + 1) = roundF a b c d p q by rw [encTo, he]; simp [roundL, hp, hq])
          rw [he]
          clear he
          have HR := kp (show (Try.prog.info? 23).map (·.size) = some ((roundF a b c d p q).map V32).toArray.size by rw [size23]; rfl)
          simp only [List.map_cons, List.map_nil]
          go_wp2_with fail
          (first | with_reducible refine region_f2 12 (by kernel_rfl) (by kernel_rfl) (by kernel_rfl) (by kernel_rfl) (by decide) (by simp) ?_ | refine region_f 12 (by kernel_rfl) (by kernel_rfl) (by kernel_rfl) (by kernel_rfl) (by decide) (by simp) ?_)
          apply Exists.intro
          refine ⟨fun xz3 => ?_, fun xq3 => ?_⟩
          · simp only [List.take_succ_cons, List.take_zero]
            unfold Cx
            repeat (go_big_quiet_step (exact Calls.cx_of (round_any a b c d p q _)))
            exact wpQuiet_nil rfl
          simp only [List.drop_succ_cons, List.drop_zero]
          go_wp2_with (first | with_reducible refine wpList_st_row rfl rfl 23 _ _ rfl (_) (((roundF a b c d p q).map V32).toArray) rfl rfl 23 (#[V32 a, V32 b, V32 c, V32 d]) (hp_more (hp_at _ _ _ (by simp))) (HR.out) (rfl) (all_V32 _) (by rewrite [setRow_more _ _ _ _ (by simp), setRow_at _ _ _ _ _ _ (by simp)]; rfl) ?_)
          go_roundw
          case rel => exact ⟨k + 1, _, by omega, by go_num, by rw [HN.out]⟩
          case measure => simp [intOf]; omega
        · obtain rfl : k = 16 := by omega
          have HEL := kp (encTo_len ms ss HML.out 16)
          have c4 := kp (join_any (encTo ms ss 16) HEL.out)
          have e1 : ∀ w, (binOp .eql 29 (.agg ((encF ks bs).map V8).toArray) (.agg ((joinF (encTo ms ss 16)).map V8).toArray)).run Try.prog w = .ok (.bool true) w := fun w => by
            rw [eq16 _ _ (encF_len _ _) (joinF_len _) w, HEF.out, HMF.out]; simp
          generalize hys : encTo ms ss 16 = ys at *
          clear hys
          have HE := kp (show (Try.prog.info? 23).map (·.size) = some (ys.map V32).toArray.size by rw [size23]; simp [HEL.out])
          go_wp2_with fail
          (first | with_reducible refine region_f2 10 (by kernel_rfl) (by kernel_rfl) (by kernel_rfl) (by kernel_rfl) (by decide) (by simp) ?_ | refine region_f 10 (by kernel_rfl) (by kernel_rfl) (by kernel_rfl) (by kernel_rfl) (by decide) (by simp) ?_)
          apply Exists.intro
          refine ⟨fun xz4 => ?_, fun xq4 => ?_⟩
          · simp only [List.take_succ_cons, List.take_zero]
            unfold Cx
            repeat (first | (go_big_quiet_want; with_reducible refine quiet_load_row 28 _ rfl (w.heap.size) rfl 28 ((ks.map V8).toArray) (0, 0) _ (fun _ hw => by obtain ⟨xx, rfl⟩ := hw; exact hp_more (hp_alloc (hp_more (hp_alloc (hp_more (hp_alloc (hp_new _ _))))))) Try.underlying28 rfl (HK.out) ?_; simp only [Act.put, List.setIfInBounds_toArray, List.set_cons_zero, List.set_cons_succ]; go_big_quiet_on) | (go_big_quiet_want; with_reducible refine quiet_load_row 29 _ rfl (w.heap.size + 1) rfl 29 ((bs.map V8).toArray) (0, 0) _ (fun _ hw => by obtain ⟨xx, rfl⟩ := hw; exact hp_more (hp_alloc (hp_more (hp_alloc (hp_more (hp_at _ _ _ (by simp))))))) Try.underlying29 rfl (HB.out) ?_; simp only [Act.put, List.setIfInBounds_toArray, List.set_cons_zero, List.set_cons_succ]; go_big_quiet_on) | (go_big_quiet_want; with_reducible refine quiet_load_row 23 _ rfl (_) rfl 23 ((ys.map V32).toArray) (0, 0) _ (fun _ hw => by obtain ⟨xx, rfl⟩ := hw; exact hp_more (hp_at _ _ _ (by simp))) Try.underlying23 rfl (HE.out) ?_; simp only [Act.put, List.setIfInBounds_toArray, List.set_cons_zero, List.set_cons_succ]; go_big_quiet_on) | go_big_quiet_step (first | (go_at_call 11; exact Calls.cx_of (alive_any _)) | (go_at_call 14; exact Calls.cx_of (c1.out _)) | (go_at_call 15; exact Calls.cx_of (c4.out _))))
            exact wpQuiet_nil rfl
          simp only [List.drop_succ_cons, List.drop_zero]
          go_wp2_with fail
          go_ret
          exact ⟨rfl, ((((((Ext.alloc _ _).trans (Ext.alloc _ _)).trans (Ext.more _ _)).trans (Ext.alloc _ _)).trans (Ext.more _ _)).trans (Ext.alloc _ _)).trans (Ext.more _ _)⟩
end Go.Proofs.Ytaoaifllllhokaa
