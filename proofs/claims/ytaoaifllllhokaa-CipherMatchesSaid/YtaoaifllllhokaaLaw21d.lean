/- The statement CipherMatches. -/
import Derived.Test.YtaoaifllllhokaaRef21b
import Derived.Test.YtaoaifllllhokaaLaw21b
namespace Go.Proofs.Ytaoaifllllhokaa
open Go.RowKit
set_option maxHeartbeats 1600000 in
theorem cipherMatches.walk (ks : List (BitVec 8)) (hk : ks.length = 16) (bs : List (BitVec 8)) (hb : bs.length = 16) (w : World) : Calls Try.prog 6 #[.agg (ks.map V8).toArray, .agg (bs.map V8).toArray] w fun e w' => e = .returned (.bool true) ∧ Ext w w' := by
  have HK := kp (show (Try.prog.info? 28).map (·.size) = some (ks.map V8).toArray.size by rw [size28]; simp [hk])
  have HB := kp (show (Try.prog.info? 29).map (·.size) = some (bs.map V8).toArray.size by rw [size29]; simp [hb])
  have e1 : ∀ w, (binOp .eql 29 (.agg ((encF ks bs).map V8).toArray) (.agg ((encF ks bs).map V8).toArray)).run Try.prog w = .ok (.bool true) w := fun w => by
    rw [eq16 _ _ (encF_len _ _) (encF_len _ _) w]; simp
  have e2 : ∀ w, (binOp .eql 29 (.agg ((decF ks bs).map V8).toArray) (.agg ((decF ks bs).map V8).toArray)).run Try.prog w = .ok (.bool true) w := fun w => by
    rw [eq16 _ _ (decF_len _ _) (decF_len _ _) w]; simp
  have c1 := kp (encrypt_any ks bs hk hb)
  have c2 := kp (decrypt_any ks bs hk hb)
  have c3 := kp (rencrypt_any ks bs hk hb)
  have c4 := kp (rdecrypt_any ks bs hk hb)
  clear hk hb
  go_enter Try.func6, Try.ntmps6
  go_wp2_with fail
  (first | with_reducible refine region_f2 17 (by kernel_rfl) (by kernel_rfl) (by kernel_rfl) (by kernel_rfl) (by decide) (by simp) ?_ | refine region_f 17 (by kernel_rfl) (by kernel_rfl) (by kernel_rfl) (by kernel_rfl) (by decide) (by simp) ?_)
  apply Exists.intro
  refine ⟨fun xz2 => ?_, fun xq2 => ?_⟩
  · simp only [List.take_succ_cons, List.take_zero]
    unfold Cx
    repeat (first | (go_big_quiet_want; with_reducible refine quiet_load_row 28 _ rfl (w.heap.size) rfl 28 ((ks.map V8).toArray) (0, 0) _ (fun _ hw => by obtain ⟨xx, rfl⟩ := hw; exact hp_more (hp_alloc (hp_new _ _))) Try.underlying28 rfl (HK.out) ?_; simp only [Act.put, List.setIfInBounds_toArray, List.set_cons_zero, List.set_cons_succ]; go_big_quiet_on) | (go_big_quiet_want; with_reducible refine quiet_load_row 29 _ rfl (w.heap.size + 1) rfl 29 ((bs.map V8).toArray) (0, 0) _ (fun _ hw => by obtain ⟨xx, rfl⟩ := hw; exact hp_more (hp_at _ _ _ (by simp))) Try.underlying29 rfl (HB.out) ?_; simp only [Act.put, List.setIfInBounds_toArray, List.set_cons_zero, List.set_cons_succ]; go_big_quiet_on) | go_big_quiet_step (first | (go_at_call 14; exact Calls.cx_of (c1.out _)) | (go_at_call 17; exact Calls.cx_of (c2.out _)) | (go_at_call 16; exact Calls.cx_of (c3.out _)) | (go_at_call 18; exact Calls.cx_of (c4.out _))))
    exact wpQuiet_nil rfl
  simp only [List.drop_succ_cons, List.drop_zero]
  go_wp2_with fail
  go_ret
  exact ⟨rfl, ((Ext.alloc _ _).trans (Ext.alloc _ _)).trans (Ext.more _ _)⟩
end Go.Proofs.Ytaoaifllllhokaa
