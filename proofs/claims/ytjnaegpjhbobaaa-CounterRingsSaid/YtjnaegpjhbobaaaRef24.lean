/- Contracts of hotspotref24's bit, Has, New, Valid and Check. -/
import Derived.Test.YtjnaegpjhbobaaaPlain24
namespace Go.Proofs.Ytjnaegpjhbobaaa
open Go.RowKit

def bitB (s : BitVec 64) (i : Int) : Bool := decide (0 ≤ i) && decide (i < 64) && s.getLsbD i.toNat
theorem wI_odd (x : BitVec 64) : (wI x % 2 == 1) = x.getLsbD 0 := by
  have h : x.getLsbD 0 = decide (x.toNat % 2 = 1) := by
    rw [Bool.eq_iff_iff]; simp [BitVec.getLsbD, Nat.testBit]
  rw [h, Bool.eq_iff_iff]
  unfold wI
  simp
  omega
set_option maxHeartbeats 800000 in
theorem rbit_any (x : BitVec 64) (i : Int) (w : World) : Calls Try.prog 54 #[V64 x, .int .i64 i] w fun e w' => e = .returned (.bool (bitB x i)) ∧ w' = w := by
  by_cases h1 : i < 0
  case pos =>
    have HB := kp (show bitB x i = false by simp [bitB]; omega)
    go_enter Try.func54, Try.ntmps54
    go_wp2_with fail
    go_ret
    exact ⟨by rw [HB.out]; rfl, rfl⟩
  by_cases h2 : 64 ≤ i
  case pos =>
    have HB := kp (show bitB x i = false by simp [bitB]; omega)
    have h3 : ¬ i < 64 := by omega
    have h4 : 0 ≤ i := by omega
    go_enter Try.func54, Try.ntmps54
    go_wp2_with fail
    go_ret
    exact ⟨by rw [HB.out]; rfl, rfl⟩
  obtain ⟨k, rfl⟩ : ∃ k : Nat, i = k := ⟨i.toNat, by omega⟩
  have hk : (k : Int) < 64 := by omega
  have hk64 : k ≤ 64 := by omega
  have HB := kp (show bitB x k = (wI (x >>> k) % 2 == 1) by
    rw [wI_odd, BitVec.getLsbD_ushiftRight]
    simp [bitB]; omega)
  have h0 : 0 ≤ (k : Int) := by omega
  go_enter Try.func54, Try.ntmps54
  go_wp2_with fail
  go_ret
  exact ⟨by rw [HB.out]; rfl, rfl⟩

def hasB (t : Int) (s : BitVec 64) (n : Int) : Bool := decide (0 < n) && (n == t || (decide (n < t) && bitB s (t - 1 - n)))
set_option maxHeartbeats 800000 in
theorem rhas_any (t : Int) (s : BitVec 64) (n : Int) (h0 : 0 ≤ t) (h1 : t ≤ 281474976710655) (hn : n ≤ 281474976710655) (w : World) : Calls Try.prog 53 #[.agg #[.int .i64 t, V64 s], .int .i64 n] w fun e w' => e = .returned (.bool (hasB t s n)) ∧ Ext w w' := by
  by_cases h2 : 0 < n
  case neg =>
    have HB := kp (show hasB t s n = false by simp [hasB, h2])
    go_enter Try.func53, Try.ntmps53
    go_wp2_with fail
    go_ret
    exact ⟨by rw [HB.out]; rfl, Ext.alloc _ _⟩
  by_cases h3 : n = t
  case pos =>
    subst h3
    have HB := kp (show hasB n s n = true by simp [hasB, h2])
    have h4 : (n == n) = true := by simp
    go_enter Try.func53, Try.ntmps53
    go_wp2_with fail
    go_ret
    exact ⟨by rw [HB.out]; rfl, Ext.alloc _ _⟩
  have h4 : (n == t) = false := by simpa using h3
  by_cases h5 : n < t
  case neg =>
    have HB := kp (show hasB t s n = false by simp [hasB, h4, h5])
    go_enter Try.func53, Try.ntmps53
    go_wp2_with fail
    go_ret
    exact ⟨by rw [HB.out]; rfl, Ext.alloc _ _⟩
  have HB := kp (show hasB t s n = bitB s (t - 1 - n) by simp [hasB, h2, h4, h5])
  clear h3
  go_enter Try.func53, Try.ntmps53
  go_wp2_with (go_at_call 54; refine (rbit_any _ _ _).mono ?_; rintro e w' ⟨rfl, rfl⟩)
  go_ret
  exact ⟨by rw [HB.out]; rfl, Ext.alloc _ _⟩

def newB (t : Int) (s : BitVec 64) (n : Int) : Bool := decide (t < n) || (decide (t - 64 ≤ n) && !hasB t s n)
set_option maxHeartbeats 800000 in
theorem rnew_any (t : Int) (s : BitVec 64) (n : Int) (h0 : 0 ≤ t) (h1 : t ≤ 281474976710655) (hn : n ≤ 281474976710655) (w : World) : Calls Try.prog 39 #[.agg #[.int .i64 t, V64 s], .int .i64 n] w fun e w' => e = .returned (.bool (newB t s n)) ∧ Ext w w' := by
  by_cases h2 : t < n
  case pos =>
    have HB := kp (show newB t s n = true by simp [newB, h2])
    go_enter Try.func39, Try.ntmps39
    go_wp2_with fail
    go_ret
    exact ⟨by rw [HB.out]; rfl, Ext.alloc _ _⟩
  by_cases h3 : t - 64 ≤ n
  case neg =>
    have HB := kp (show newB t s n = false by simp [newB, h2]; omega)
    go_enter Try.func39, Try.ntmps39
    go_wp2_with fail
    go_ret
    exact ⟨by rw [HB.out]; rfl, Ext.alloc _ _⟩
  have HB := kp (show newB t s n = !hasB t s n by simp [newB, h2, h3])
  have HH := kp (fun w => rhas_any t s n h0 h1 hn w)
  go_enter Try.func39, Try.ntmps39
  go_wp2_with (go_at_call 53; refine (HH.out _).mono ?_; rintro e w' ⟨rfl, x, rfl⟩)
  go_ret
  exact ⟨by rw [HB.out]; rfl, (Ext.alloc _ _).trans (Ext.more _ _)⟩

theorem validB_of (t : Int) (s : BitVec 64) (h0 : 0 ≤ t) (h1 : t ≤ 281474976710655) (h : ∀ i, i < 64 → s.getLsbD i = true → 1 ≤ t - 1 - (i : Int)) : validB t s = true := by
  rw [validB_iff]
  refine ⟨h0, h1, ?_⟩
  by_cases h2 : 64 < t
  · exact .inl h2
  · refine .inr fun i hi => ?_
    rcases Nat.lt_or_ge i 64 with h3 | h3
    · cases hb : s.getLsbD i with
      | false => rfl
      | true => have := h i h3 hb; omega
    · exact bit_high s i h3
theorem validB_not (t : Int) (s : BitVec 64) (k : Nat) (hk : k < 64) (hb : s.getLsbD k = true) (h : t - 1 - (k : Int) < 1) : validB t s = false := by
  cases hv : validB t s with
  | false => rfl
  | true =>
    rw [validB_iff] at hv
    rcases hv.2.2 with h2 | h2
    · omega
    · have := h2 k (by omega)
      rw [this] at hb; cases hb
theorem bitB_at (s : BitVec 64) (k : Nat) (hk : k < 64) : bitB s k = s.getLsbD k := by simp [bitB]; omega

set_option maxHeartbeats 1600000 in
theorem rvalid_any (t : Int) (s : BitVec 64) (w : World) : Calls Try.prog 41 #[.agg #[.int .i64 t, V64 s]] w fun e w' => e = .returned (.bool (validB t s)) ∧ Ext w w' := by
  by_cases h1 : t < 0
  case pos =>
    have HV := kp (show validB t s = false by simp [validB]; omega)
    go_enter Try.func41, Try.ntmps41
    go_wp2_with fail
    go_ret
    exact ⟨by rw [HV.out]; rfl, Ext.alloc _ _⟩
  by_cases h2 : 281474976710655 < t
  case pos =>
    have HV := kp (show validB t s = false by
      have hm : decide (t ≤ most) = false := decide_eq_false (by unfold most; omega)
      simp [validB, hm])
    go_enter Try.func41, Try.ntmps41
    go_wp2_with fail
    go_ret
    exact ⟨by rw [HV.out]; rfl, Ext.alloc _ _⟩
  have ht0 : 0 ≤ t := by omega
  have ht1 : t ≤ 281474976710655 := by omega
  go_enter Try.func41, Try.ntmps41
  go_wp2_with fail
  go_loopw [3] (fun i wr => ∃ k : Nat, k ≤ 64 ∧ i = .int .i64 k ∧ Kp (∀ i, i < k → s.getLsbD i = true → 1 ≤ t - 1 - (i : Int)) ∧ wr = w.alloc (.cells #[.int .i64 t, V64 s] 26)) (fun i _ => 64 - (intOf i).toNat)
  case atStart => exact ⟨0, by omega, rfl, kp (fun i hi => by omega), rfl⟩
  case round =>
    obtain ⟨k, hk, rfl, HT, rfl⟩ := hrel
    by_cases hlt : k < 64
    · have HB := kp (fun w => rbit_any s k w)
      rw [bitB_at s k hlt] at HB
      cases hb : s.getLsbD k
      case false =>
        rw [hb] at HB
        have HN := kp (show ∀ i, i < k + 1 → s.getLsbD i = true → 1 ≤ t - 1 - (i : Int) from fun i hi h => by
          by_cases hik : i = k
          · subst hik; rw [hb] at h; cases h
          · exact HT.out i (by omega) h)
        clear hb
        go_wp2_with (go_at_call 54; refine (HB.out _).mono ?_; rintro e w' ⟨rfl, rfl⟩)
        go_roundw
        case rel => exact ⟨k + 1, by omega, by go_num, HN, trivial⟩
        case measure => simp [intOf]; omega
      case true =>
        rw [hb] at HB
        by_cases hlo : t - 1 - (k : Int) < 1
        · have HV := kp (validB_not t s k hlt hb hlo)
          clear hb
          go_wp2_with (go_at_call 54; refine (HB.out _).mono ?_; rintro e w' ⟨rfl, rfl⟩)
          go_ret
          exact ⟨by rw [HV.out]; rfl, Ext.alloc _ _⟩
        · have HN := kp (show ∀ i, i < k + 1 → s.getLsbD i = true → 1 ≤ t - 1 - (i : Int) from fun i hi h => by
            by_cases hik : i = k
            · subst hik; omega
            · exact HT.out i (by omega) h)
          clear hb
          go_wp2_with (go_at_call 54; refine (HB.out _).mono ?_; rintro e w' ⟨rfl, rfl⟩)
          go_roundw
          case rel => exact ⟨k + 1, by omega, by go_num, HN, trivial⟩
          case measure => simp [intOf]; omega
    · obtain rfl : k = 64 := by omega
      have HV := kp (validB_of t s ht0 ht1 HT.out)
      go_wp2_with fail
      go_ret
      exact ⟨by rw [HV.out]; rfl, Ext.alloc _ _⟩

set_option maxHeartbeats 1600000 in
theorem rcheck_any (a : Int) (l : List Win) (hl : l.length = 9) (w : World) :
    Calls Try.prog 16 #[.agg (cellsC a l).toArray] w fun e w' => e = .returned (.int .i64 (checkF a l)) ∧ Ext w w' := by
  have hc0 : (cellsC a l)[0]? = some (.int .i64 a) := rfl
  have HL := kp hl
  clear hl
  by_cases h1 : a < 0
  case pos =>
    have HF := kp (show checkF a l = 8 by simp [checkF, h1])
    go_enter Try.func16, Try.ntmps16
    go_wp2_with fail
    go_ret
    exact ⟨by rw [HF.out]; rfl, Ext.alloc _ _⟩
  by_cases h2 : 281474976710655 < a
  case pos =>
    have HF := kp (show checkF a l = 8 by simp [checkF, most, h2])
    go_enter Try.func16, Try.ntmps16
    go_wp2_with fail
    go_ret
    exact ⟨by rw [HF.out]; rfl, Ext.alloc _ _⟩
  have HF := kp (show checkF a l = if oddAt l = true then 8 else 0 by simp [checkF, most, h1, h2])
  go_enter Try.func16, Try.ntmps16
  go_wp2_with fail
  go_loopw [3] (fun i wr => ∃ (k : Nat) (x : Xtra), k ≤ 9 ∧ i = .int .i64 k ∧ Kp (oddAt (l.take k) = false) ∧ wr = more (w.alloc (.cells (cellsC a l).toArray 29)) x) (fun i _ => 9 - (intOf i).toNat)
  case atStart => exact ⟨0, _, by omega, rfl, kp rfl, by rw [← more_self]⟩
  case round =>
    obtain ⟨k, x, hk, rfl, HT, rfl⟩ := hrel
    by_cases hlt : k < 9
    · obtain ⟨⟨t, s⟩, hy⟩ : ∃ y, l[k]? = some y := ⟨l[k]'(by rw [HL.out]; omega), by simp⟩
      obtain ⟨hx1, hx2⟩ := cellsC_at a l k _ hy
      rw [show 2 * k = k * 2 by omega] at hx1 hx2
      dsimp only at hx1 hx2
      have HY := kp hy
      have HV0 := kp (fun w => rvalid_any t s w)
      clear hy
      cases hv : validB t s
      case true =>
        rw [hv] at HV0
        have HN := kp (show oddAt (l.take (k + 1)) = false by rw [oddAt_take l k _ HY.out HT.out]; simp [hv])
        clear hv
        go_wp2_with (go_at_call 41; refine (HV0.out _).mono ?_; rintro e w' ⟨rfl, x2, rfl⟩; rw [more_more])
        go_roundw
        case rel => exact ⟨k + 1, _, by omega, by go_num, HN, rfl⟩
        case measure => simp [intOf]; omega
      case false =>
        rw [hv] at HV0
        have HO := kp (oddAt_mem l k _ HY.out hv)
        clear hv
        go_wp2_with (go_at_call 41; refine (HV0.out _).mono ?_; rintro e w' ⟨rfl, x2, rfl⟩; rw [more_more])
        go_ret
        exact ⟨by rw [HF.out, HO.out]; rfl, (Ext.alloc _ _).trans (Ext.more _ _)⟩
    · obtain rfl : k = 9 := by omega
      have HO := kp (show oddAt l = false by
        have h := HT.out
        rwa [List.take_of_length_le (by rw [HL.out]; exact Nat.le_refl _)] at h)
      go_wp2_with fail
      go_ret
      exact ⟨by rw [HF.out, HO.out]; rfl, (Ext.alloc _ _).trans (Ext.more _ _)⟩
end Go.Proofs.Ytjnaegpjhbobaaa
