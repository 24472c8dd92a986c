/- Contract of cipher.Decrypt. -/
import Derived.Test.YtaoaifllllhokaaCipher
namespace Go.Proofs.Ytaoaifllllhokaa
open Go.RowKit
/-- A round undone on a list of four words. -/
def backL (xs : List (BitVec 32)) (p q : BitVec 32) : List (BitVec 32) := backF (xs.getD 0 0) (xs.getD 1 0) (xs.getD 2 0) (xs.getD 3 0) p q
def decTo (xs ws : List (BitVec 32)) : Nat → List (BitVec 32)
  | 0 => xs
  | k + 1 => backL (decTo xs ws k) (ws.getD (36 - 2 * k - 2) 0) (ws.getD (36 - 2 * k - 1) 0)
theorem decTo_len (xs ws : List (BitVec 32)) (h : xs.length = 4) : ∀ k, (decTo xs ws k).length = 4
  | 0 => h
  | _ + 1 => rfl
def decF (ks bs : List (BitVec 8)) : List (BitVec 8) := joinF (maskF (decTo (wordsF bs) (schedF ks) 16) (schedF ks))

set_option maxHeartbeats 1600000 in
theorem decrypt_any (ks bs : List (BitVec 8)) (hk : ks.length = 16) (hl : bs.length = 16) (w : World) :
    Calls Try.prog 17 #[.agg (ks.map V8).toArray, .agg (bs.map V8).toArray] w
     fun e w' => e = .returned (.agg ((decF ks bs).map V8).toArray) ∧ Ext w w' := by
  have HK := kp (show (Try.prog.info? 28).map (·.size) = some (ks.map V8).toArray.size by rw [size28]; simp [hk])
  have HB := kp (show (Try.prog.info? 29).map (·.size) = some (bs.map V8).toArray.size by rw [size29]; simp [hl])
  have HL := kp hl
  have HKL := kp hk
  have HSL := kp (schedF_len ks)
  have HWL := kp (wordsF_len bs)
  generalize hss : schedF ks = ss at *
  have HSS := kp hss
  generalize hws : wordsF bs = xs at *
  have HWS := kp hws
  have HS := kp (show (Try.prog.info? 30).map (·.size) = some (ss.map V32).toArray.size by rw [size30]; simp [HSL.out])
  have HX := kp (show (Try.prog.info? 23).map (·.size) = some (xs.map V32).toArray.size by rw [size23]; simp [HWL.out])
  clear hl hk hss hws
  have HWC := kp (fun w => show Calls Try.prog 13 #[.agg (bs.map V8).toArray] w fun e w' => e = .returned (.agg (xs.map V32).toArray) ∧ Ext w w' from by have h := words_any bs HL.out w; rw [HWS.out] at h; exact h)
  go_enter Try.func17, Try.ntmps17
  go_wp2_with (first | ((with_reducible refine wpList_load_row rfl 28 _ rfl (w.heap.size) rfl 28 ((ks.map V8).toArray) (0, 0) _ (hp_alloc (hp_alloc (hp_new _ _))) Try.underlying28 rfl (HK.out) ?_); simp only [Act.put, List.setIfInBounds_toArray, List.set_cons_zero, List.set_cons_succ]) | (go_at_call 12; refine (schedule_any ks HKL.out _).mono ?_; rintro e w' ⟨rfl, xa, rfl⟩; rw [HSS.out]) | with_reducible refine wpList_st_row rfl rfl 30 _ _ rfl (_) ((ss.map V32).toArray) rfl rfl 30 (_) (hp_at _ _ _ (by simp)) (HS.out) (by rw [zero36]; simp [HSL.out]) (all_V32 _) (by rewrite [setRow_at _ _ _ _ _ _ (by simp)]; rfl) ?_ | ((with_reducible refine wpList_load_row rfl 29 _ rfl (w.heap.size + 1) rfl 29 ((bs.map V8).toArray) (0, 0) _ (hp_alloc (hp_more (hp_alloc (hp_at _ _ _ (by simp))))) Try.underlying29 rfl (HB.out) ?_); simp only [Act.put, List.setIfInBounds_toArray, List.set_cons_zero, List.set_cons_succ]) | (go_at_call 13; refine (HWC.out _).mono ?_; rintro e w' ⟨rfl, xb, rfl⟩) | with_reducible refine wpList_st_row rfl rfl 23 _ _ rfl (_) ((xs.map V32).toArray) rfl rfl 23 (#[.int .u32 0, .int .u32 0, .int .u32 0, .int .u32 0]) (hp_at _ _ _ (by simp)) (HX.out) (by simp [HWL.out]) (all_V32 _) (by rewrite [setRow_at _ _ _ _ _ _ (by simp)]; rfl) ?_)
  go_loopw [13] (fun i wr => ∃ (k : Nat) (x : Xtra), k ≤ 16 ∧ i = .int .i64 k ∧ wr = more ((more ((more (((w.alloc (.cells (ks.map V8).toArray 28)).alloc (.cells (bs.map V8).toArray 29)).alloc (.cells #[.int .u8 0, .int .u8 0, .int .u8 0, .int .u8 0, .int .u8 0, .int .u8 0, .int .u8 0, .int .u8 0, .int .u8 0, .int .u8 0, .int .u8 0, .int .u8 0, .int .u8 0, .int .u8 0, .int .u8 0, .int .u8 0] 29)) xa).alloc (.cells (ss.map V32).toArray 30)) xb).alloc (.cells ((decTo xs ss k).map V32).toArray 23)) x) (fun i _ => 16 - (intOf i).toNat)
  case atStart => exact ⟨0, _, by omega, rfl, by rw [← more_self]; rfl⟩
  case round =>
    obtain ⟨k, x, hk, rfl, rfl⟩ := hrel
    by_cases hlt : k < 16
    · obtain ⟨p, hp⟩ : ∃ p, ss[36 - 2 * k - 2]? = some p := ⟨ss[36 - 2 * k - 2]'(by rw [HSL.out]; omega), by simp⟩
      obtain ⟨q, hq⟩ : ∃ q, ss[36 - 2 * k - 1]? = some q := ⟨ss[36 - 2 * k - 1]'(by rw [HSL.out]; omega), by simp⟩
      obtain ⟨a, b, c, d, he⟩ := list4 (decTo_len xs ss HWL.out k)
      have HN := kp (show decTo xs ss (k + 1) = backF a b c d p q by rw [decTo, he]; simp [backL, hp, hq])
      rw [he]
      clear he
      have HR := kp (show (Try.prog.info? 23).map (·.size) = some ((backF a b c d p q).map V32).toArray.size by rw [size23]; rfl)
      simp only [List.map_cons, List.map_nil]
      go_wp2_with fail
      (first | with_reducible refine region_f2 10 (by kernel_rfl) (by kernel_rfl) (by kernel_rfl) (by kernel_rfl) (by decide) (by simp) ?_ | refine region_f 10 (by kernel_rfl) (by kernel_rfl) (by kernel_rfl) (by kernel_rfl) (by decide) (by simp) ?_)
      apply Exists.intro
      refine ⟨fun xz2 => ?_, fun xq2 => ?_⟩
      · simp only [List.take_succ_cons, List.take_zero]
        unfold Cx
        repeat (go_big_quiet_step (exact Calls.cx_of (back_any a b c d p q _)))
        exact wpQuiet_nil rfl
      simp only [List.drop_succ_cons, List.drop_zero]
      go_wp2_with (first | with_reducible refine wpList_st_row rfl rfl 23 _ _ rfl (_) (((backF a b c d p q).map V32).toArray) rfl rfl 23 (#[V32 a, V32 b, V32 c, V32 d]) (hp_more (hp_at _ _ _ (by simp))) (HR.out) (rfl) (all_V32 _) (by rewrite [setRow_more _ _ _ _ (by simp), setRow_at _ _ _ _ _ _ (by simp)]; rfl) ?_)
      go_roundw
      case rel => exact ⟨k + 1, _, by omega, by go_num, by rw [HN.out]⟩
      case measure => simp [intOf]; omega
    · obtain rfl : k = 16 := by omega
      have HDL := kp (decTo_len xs ss HWL.out 16)
      have HDS := kp (show decTo xs ss 16 = decTo xs ss 16 from rfl)
      generalize hys : decTo xs ss 16 = ys at *
      have HYS := kp hys
      clear hys
      have HE := kp (show (Try.prog.info? 23).map (·.size) = some (ys.map V32).toArray.size by rw [size23]; simp [HDL.out])
      have HJ := kp (show (Try.prog.info? 29).map (·.size) = some ((joinF (maskF ys ss)).map V8).toArray.size by rw [size29]; simp [joinF_len])
      go_wp2_with (first | ((with_reducible refine wpList_load_row rfl 23 _ rfl (_) rfl 23 ((ys.map V32).toArray) (0, 0) _ (hp_more (hp_at _ _ _ (by simp))) Try.underlying23 rfl (HE.out) ?_); simp only [Act.put, List.setIfInBounds_toArray, List.set_cons_zero, List.set_cons_succ]) | ((with_reducible refine wpList_load_row rfl 30 _ rfl (_) rfl 30 ((ss.map V32).toArray) (0, 0) _ (hp_more (hp_alloc (hp_more (hp_at _ _ _ (by simp))))) Try.underlying30 rfl (HS.out) ?_); simp only [Act.put, List.setIfInBounds_toArray, List.set_cons_zero, List.set_cons_succ]) | (go_at_call 20; refine (mask_any ys ss HDL.out HSL.out _).mono ?_; rintro e w' ⟨rfl, xj, rfl⟩; rw [more_more]) | (go_at_call 15; refine (join_any (maskF ys ss) (maskF_len _ _ HDL.out) _).mono ?_; rintro e w' ⟨rfl, xj, rfl⟩; rw [more_more]) | with_reducible refine wpList_st_row rfl rfl 29 _ _ rfl (w.heap.size + 1 + 1) (((joinF (maskF ys ss)).map V8).toArray) rfl rfl 29 (#[.int .u8 0, .int .u8 0, .int .u8 0, .int .u8 0, .int .u8 0, .int .u8 0, .int .u8 0, .int .u8 0, .int .u8 0, .int .u8 0, .int .u8 0, .int .u8 0, .int .u8 0, .int .u8 0, .int .u8 0, .int .u8 0]) (hp_more (hp_alloc (hp_more (hp_alloc (hp_more (hp_at _ _ _ (by simp))))))) (HJ.out) (by simp [joinF_len]) (all_V8 _) (by rewrite [setRow_more _ _ _ _ (by simp), setRow_past _ _ _ _ (by simp), setRow_more _ _ _ _ (by simp), setRow_past _ _ _ _ (by simp), setRow_more _ _ _ _ (by simp), setRow_at _ _ _ _ _ _ (by simp)]; rfl) ?_)
      exact ret_row Try.results17 (w.heap.size + 1 + 1) 29 (((joinF (maskF ys ss)).map V8).toArray) (0, 0) _ rfl (hp_more (hp_alloc (hp_more (hp_alloc (hp_more (hp_at _ _ _ (by simp))))))) Try.underlying29 rfl (HJ.out) rfl ⟨by rw [← HYS.out, ← HWS.out, ← HSS.out]; rfl, (((((((Ext.alloc _ _).trans (Ext.alloc _ _)).trans (Ext.alloc _ _)).trans (Ext.more _ _)).trans (Ext.alloc _ _)).trans (Ext.more _ _)).trans (Ext.alloc _ _)).trans (Ext.more _ _)⟩
end Go.Proofs.Ytaoaifllllhokaa
