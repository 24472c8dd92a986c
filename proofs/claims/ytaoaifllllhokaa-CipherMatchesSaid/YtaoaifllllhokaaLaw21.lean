/- The statements of chapter 21: the walks of the laws. -/
import Derived.Test.YtaoaifllllhokaaPlain21
import Derived.Test.YtaoaifllllhokaaEq
namespace Go.Proofs.Ytaoaifllllhokaa
open Go.RowKit

/-! ### alive -/
def zeroKey : List (BitVec 8) := List.replicate 16 0#8
def aliveTo : Nat → List (BitVec 8)
  | 0 => List.replicate 16 0
  | k + 1 => (aliveTo k).set k (BitVec.ofNat 8 (k + 1))
theorem aliveTo_len : ∀ k, (aliveTo k).length = 16
  | 0 => rfl
  | k + 1 => by rw [aliveTo, List.length_set]; exact aliveTo_len k
theorem ofNat8 (k : Nat) (h : k < 16) : ((k : Int) + 1) = wI (BitVec.ofNat 8 (k + 1)) := by
  unfold wI; rw [BitVec.toNat_ofNat]; omega

set_option maxHeartbeats 800000 in
theorem alive_any (w : World) : Calls Try.prog 11 #[] w fun e w' => e = .returned (.bool true) ∧ Ext w w' := by
  have HS := kp (show (Try.prog.info? 29).map (·.size) = some ((aliveTo 16).map V8).toArray.size by rw [size29]; simp [aliveTo_len])
  have e1 : ∀ w, (binOp .eql 23 (.agg ((wordsF (aliveTo 16)).map V32).toArray) (.agg #[.int .u32 67305985, .int .u32 134678021, .int .u32 202050057, .int .u32 269422093])).run Try.prog w = .ok (.bool true) w := fun w =>
    run_eql_V32 (P := Try.prog) w Try.underlying23 Try.underlying22 size22 (wordsF (aliveTo 16)) [67305985#32, 134678021#32, 202050057#32, 269422093#32] rfl rfl
  have e2 : ∀ w, (binOp .eql 23 (.agg ((roundF 1#32 0#32 0#32 0#32 0#32 0#32).map V32).toArray) (.agg #[.int .u32 0, .int .u32 0, .int .u32 524288, .int .u32 1])).run Try.prog w = .ok (.bool true) w := fun w =>
    run_eql_V32 (P := Try.prog) w Try.underlying23 Try.underlying22 size22 (roundF 1#32 0#32 0#32 0#32 0#32 0#32) [0#32, 0#32, 524288#32, 1#32] rfl rfl
  have e3 : ∀ w, (Instr.index 30 (.agg ((schedF zeroKey).map V32).toArray) (.int .i64 4)).run Try.prog w = .ok (.int .u32 138145383) w := fun w =>
    run_index_arr (P := Try.prog) w Try.underlying30 Try.underlying22 rfl size22 ((schedF zeroKey).map V32).toArray .i64 4 (.int .u32 138145383) (by decide) rfl
  go_enter Try.func11, Try.ntmps11
  go_wp2_with fail
  go_loopw [2] (fun i wr => ∃ (k : Nat) (x : Xtra), k ≤ 16 ∧ i = .int .i64 k ∧ wr = more (w.alloc (.cells ((aliveTo k).map V8).toArray 29)) x) (fun i _ => 16 - (intOf i).toNat)
  case atStart => exact ⟨0, _, by omega, rfl, by rw [← more_self]; rfl⟩
  case round =>
    obtain ⟨k, x, hk, rfl, rfl⟩ := hrel
    by_cases hlt : k < 16
    · obtain ⟨z, hz⟩ : ∃ z, (aliveTo k)[k]? = some z := ⟨(aliveTo k)[k]'(by rw [aliveTo_len]; omega), by simp⟩
      have HN := kp (show aliveTo (k + 1) = (aliveTo k).set k (BitVec.ofNat 8 (k + 1)) from rfl)
      have HO := kp (ofNat8 k hlt)
      clear e1 e2 e3
      go_wp2_with fail
      go_roundw
      case rel => exact ⟨k + 1, _, by omega, by go_num, by rw [HN.out, List.map_set, HO.out]⟩
      case measure => simp [intOf]; omega
    · obtain rfl : k = 16 := by omega
      go_wp2_with (first | ((with_reducible refine wpList_load_row rfl 29 _ rfl (_) rfl 29 (((aliveTo 16).map V8).toArray) (0, 0) _ (hp_more (hp_new _ _)) Try.underlying29 rfl (HS.out) ?_); simp only [Act.put, List.setIfInBounds_toArray, List.set_cons_zero, List.set_cons_succ]) | (go_at_call 13; refine (words_any (aliveTo 16) (aliveTo_len 16) _).mono ?_; rintro e w' ⟨rfl, xj, rfl⟩; rw [more_more]) | (go_at_call 9; refine (round_any 1#32 0#32 0#32 0#32 0#32 0#32 _).mono ?_; rintro e w' ⟨rfl, xj, rfl⟩; rw [more_more]) | (go_at_call 12; refine (schedule_any zeroKey rfl _).mono ?_; rintro e w' ⟨rfl, xj, rfl⟩; rw [more_more]))
      go_ret
      exact ⟨rfl, (Ext.alloc _ _).trans (Ext.more _ _)⟩

theorem eq4 (l l' : List (BitVec 32)) (h : l = l') (hl : l'.length = 4) (w : World) : (binOp .eql 23 (.agg (l.map V32).toArray) (.agg (l'.map V32).toArray)).run Try.prog w = .ok (.bool true) w := by
  subst h
  have := run_eql_V32 (P := Try.prog) w Try.underlying23 Try.underlying22 size22 l l hl hl
  simpa using this

set_option maxHeartbeats 800000 in
theorem cipherNames.walk (w : World) : Calls Try.prog 3 #[] w fun e w' => e = .returned (.bool true) ∧ Ext w w' := by
  have e1 : ∀ w, (binOp .eql 23 (.agg ((roundF 0#32 0#32 0#32 0#32 0#32 0#32).map V32).toArray) (.agg #[.int .u32 0, .int .u32 0, .int .u32 0, .int .u32 0])).run Try.prog w = .ok (.bool true) w := fun w =>
    eq4 (roundF 0#32 0#32 0#32 0#32 0#32 0#32) [0#32, 0#32, 0#32, 0#32] (by decide) rfl w
  have e2 : ∀ w, (binOp .eql 23 (.agg ((backF 0#32 0#32 0#32 0#32 0#32 0#32).map V32).toArray) (.agg #[.int .u32 0, .int .u32 0, .int .u32 0, .int .u32 0])).run Try.prog w = .ok (.bool true) w := fun w =>
    eq4 (backF 0#32 0#32 0#32 0#32 0#32 0#32) [0#32, 0#32, 0#32, 0#32] (by decide) rfl w
  have e3 : ∀ w, (binOp .eql 23 (.agg ((backF 0#32 0#32 524288#32 1#32 0#32 0#32).map V32).toArray) (.agg #[.int .u32 1, .int .u32 0, .int .u32 0, .int .u32 0])).run Try.prog w = .ok (.bool true) w := fun w =>
    eq4 (backF 0#32 0#32 524288#32 1#32 0#32 0#32) [1#32, 0#32, 0#32, 0#32] (by decide) rfl w
  have e4 : ∀ w, (binOp .eql 23 (.agg ((roundF 0#32 1#32 0#32 0#32 0#32 0#32).map V32).toArray) (.agg #[.int .u32 1, .int .u32 0, .int .u32 16777216, .int .u32 32])).run Try.prog w = .ok (.bool true) w := fun w =>
    eq4 (roundF 0#32 1#32 0#32 0#32 0#32 0#32) [1#32, 0#32, 16777216#32, 32#32] (by decide) rfl w
  go_enter Try.func3, Try.ntmps3
  go_wp2_with fail
  refine (round_any 0#32 0#32 0#32 0#32 0#32 0#32 _).mono ?_
  rintro e w' ⟨rfl, xj, rfl⟩
  go_wp2_with fail
  refine (back_any 0#32 0#32 0#32 0#32 0#32 0#32 _).mono ?_
  rintro e w' ⟨rfl, xj2, rfl⟩
  go_wp2_with fail
  refine (back_any 0#32 0#32 524288#32 1#32 0#32 0#32 _).mono ?_
  rintro e w' ⟨rfl, xj3, rfl⟩
  go_wp2_with fail
  refine (round_any 0#32 1#32 0#32 0#32 0#32 0#32 _).mono ?_
  rintro e w' ⟨rfl, xj4, rfl⟩
  go_wp2_with fail
  refine (alive_any _).mono ?_
  rintro e w' ⟨rfl, xj5, rfl⟩
  go_wp2_with fail
  go_ret
  exact ⟨rfl, Ext.more _ _⟩

set_option maxHeartbeats 1600000 in
theorem cipherRounds.walk4 (x0 x1 x2 x3 p q : BitVec 32) (w : World) : Calls Try.prog 4 #[.agg #[V32 x0, V32 x1, V32 x2, V32 x3], V32 p, V32 q] w fun e w' => e = .returned (.bool true) ∧ Ext w w' := by
  have c1 := kp (fun w => show Calls Try.prog 10 #[.agg ((roundF x0 x1 x2 x3 p q).map V32).toArray, V32 p, V32 q] w fun e w' => e = .returned (.agg #[V32 x0, V32 x1, V32 x2, V32 x3]) ∧ Ext w w' from by
    have h := back_any (x1 ^^^ rotl 13 (x2 + (rotl 9 x3 ^^^ q) + p)) (x2 + (rotl 9 x3 ^^^ q)) (x3 ^^^ rotl 19 (x0 + (rotl 5 x1 ^^^ p) + q)) (x0 + (rotl 5 x1 ^^^ p)) p q w
    rw [back_round] at h; exact h)
  have c2 := kp (fun w => show Calls Try.prog 9 #[.agg ((backF x0 x1 x2 x3 p q).map V32).toArray, V32 p, V32 q] w fun e w' => e = .returned (.agg #[V32 x0, V32 x1, V32 x2, V32 x3]) ∧ Ext w w' from by
    have h := round_any (x3 - (rotl 5 (x0 ^^^ rotl 13 (x1 + p)) ^^^ p)) (x0 ^^^ rotl 13 (x1 + p)) (x1 - (rotl 9 (x2 ^^^ rotl 19 (x3 + q)) ^^^ q)) (x2 ^^^ rotl 19 (x3 + q)) p q w
    rw [round_back] at h; exact h)
  have e1 : ∀ w, (binOp .eql 23 (.agg #[V32 x0, V32 x1, V32 x2, V32 x3]) (.agg #[V32 x0, V32 x1, V32 x2, V32 x3])).run Try.prog w = .ok (.bool true) w := fun w => eq4 [x0, x1, x2, x3] [x0, x1, x2, x3] rfl rfl w
  go_enter Try.func4, Try.ntmps4
  go_wp2_with fail
  (first | with_reducible refine region_f2 24 (by kernel_rfl) (by kernel_rfl) (by kernel_rfl) (by kernel_rfl) (by decide) (by simp) ?_ | refine region_f 24 (by kernel_rfl) (by kernel_rfl) (by kernel_rfl) (by kernel_rfl) (by decide) (by simp) ?_)
  apply Exists.intro
  refine ⟨fun xz2 => ?_, fun xq2 => ?_⟩
  · simp only [List.take_succ_cons, List.take_zero]
    unfold Cx
    repeat (go_big_quiet_step (first | (go_at_call 11; exact Calls.cx_of (alive_any _)) | (go_at_call 9; first | (with_reducible exact Calls.cx_of (round_any x0 x1 x2 x3 p q _)) | exact Calls.cx_of (c2.out _)) | (go_at_call 10; first | (with_reducible exact Calls.cx_of (back_any x0 x1 x2 x3 p q _)) | exact Calls.cx_of (c1.out _))))
    exact wpQuiet_nil rfl
  simp only [List.drop_succ_cons, List.drop_zero]
  go_wp2_with fail
  go_ret
  exact ⟨rfl, (Ext.alloc _ _).trans (Ext.more _ _)⟩
theorem cipherRounds.walk (l : List (BitVec 32)) (hl : l.length = 4) (p q : BitVec 32) (w : World) : Calls Try.prog 4 #[.agg (l.map V32).toArray, V32 p, V32 q] w fun e w' => e = .returned (.bool true) ∧ Ext w w' := by
  obtain ⟨a, b, c, d, rfl⟩ := list4 hl
  exact cipherRounds.walk4 a b c d p q w
end Go.Proofs.Ytaoaifllllhokaa
