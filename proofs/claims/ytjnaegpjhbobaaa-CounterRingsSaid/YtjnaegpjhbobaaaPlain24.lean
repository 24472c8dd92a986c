/- Plain laws of a window: what takeF keeps. -/
import Derived.Test.YtjnaegpjhbobaaaAccept
namespace Go.Proofs.Ytjnaegpjhbobaaa
open Go.RowKit

theorem bit_test (s : BitVec 64) (i : Nat) : (s >>> i &&& 1#64 == 1#64) = s.getLsbD i := by
  rw [BitVec.and_one_eq_setWidth_ofBool_getLsbD, BitVec.getLsbD_ushiftRight, Nat.add_zero]
  cases s.getLsbD i <;> decide
theorem one_shl (k i : Nat) (hk : k < 64) : (1#64 <<< k).getLsbD i = decide (i = k) := by
  rw [BitVec.getLsbD_shiftLeft, BitVec.getLsbD_one, Bool.eq_iff_iff]
  simp
  omega
theorem shl_bit (s : BitVec 64) (k i : Nat) : (s <<< k).getLsbD i = (decide (i < 64) && decide (k ≤ i) && s.getLsbD (i - k)) := by
  rw [BitVec.getLsbD_shiftLeft]
  by_cases h : i < k
  · simp [h, show ¬ k ≤ i by omega]
  · simp [h, show k ≤ i by omega]
theorem shr_zero (s : BitVec 64) (k : Nat) : (s >>> k == 0#64) = true ↔ ∀ i, k ≤ i → s.getLsbD i = false := by
  rw [beq_iff_eq]
  constructor
  · intro h i hi
    have := congrArg (fun x => x.getLsbD (i - k)) h
    simp only [BitVec.getLsbD_ushiftRight, BitVec.getLsbD_zero] at this
    rwa [show k + (i - k) = i by omega] at this
  · intro h
    apply BitVec.eq_of_getLsbD_eq
    intro i _
    rw [BitVec.getLsbD_ushiftRight, h _ (by omega)]; simp
theorem validB_iff (t : Int) (s : BitVec 64) : validB t s = true ↔ 0 ≤ t ∧ t ≤ 281474976710655 ∧ (64 < t ∨ ∀ i, (t - 1).toNat ≤ i → s.getLsbD i = false) := by
  unfold validB most
  rw [Bool.and_eq_true, Bool.and_eq_true, Bool.or_eq_true, shr_zero]
  simp only [decide_eq_true_eq]
  exact ⟨fun h => ⟨h.1.1, h.1.2, h.2⟩, fun h => ⟨⟨h.1, h.2.1⟩, h.2.2⟩⟩
theorem bit_high (s : BitVec 64) (i : Nat) (h : 64 ≤ i) : s.getLsbD i = false := BitVec.getLsbD_of_ge s i h

theorem take_gt (t : Int) (s : BitVec 64) (n : Int) (h : t < n) : (takeF t s n).2 = true := by
  unfold takeF
  rw [if_pos h]
  split
  · split <;> rfl
  · rfl
/-- What was taken: the window is valid, its top is the greater number, and the number is not taken again. -/
theorem take_keeps (t : Int) (s : BitVec 64) (n : Int) (hv : validB t s = true) (h1 : 1 ≤ n) (h2 : n ≤ 281474976710655) (h : (takeF t s n).2 = true) :
    validB (takeF t s n).1.1 (takeF t s n).1.2 = true ∧ (takeF (takeF t s n).1.1 (takeF t s n).1.2 n).2 = false ∧ (takeF t s n).1.1 = max n t := by
  rw [validB_iff] at hv
  obtain ⟨v0, v1, v2⟩ := hv
  have again : ∀ s', (takeF n s' n).2 = false := fun s' => by
    unfold takeF
    rw [if_neg (by omega), if_pos (by omega)]
  by_cases h3 : t < n
  · have hmax : n = max n t := by omega
    by_cases h4 : n - t ≤ 64
    · by_cases h5 : 0 < t
      · have e : takeF t s n = ((n, s <<< (n - t).toNat ||| 1#64 <<< ((n - t).toNat - 1)), true) := by unfold takeF; rw [if_pos h3, if_pos h4, if_pos h5]
        rw [e]
        dsimp only
        refine ⟨(validB_iff _ _).2 ⟨by omega, h2, ?_⟩, again _, hmax⟩
        by_cases h6 : 64 < n
        · exact .inl h6
        · refine .inr fun i hi => ?_
          have h7 := v2.resolve_left (by omega)
          simp only [BitVec.getLsbD_or, shl_bit, one_shl _ _ (show (n - t).toNat - 1 < 64 by omega)]
          rw [h7 (i - (n - t).toNat) (by simp at hi; omega)]
          simp at hi ⊢
          omega
      · have e : takeF t s n = ((n, s <<< (n - t).toNat), true) := by unfold takeF; rw [if_pos h3, if_pos h4, if_neg h5]
        rw [e]
        dsimp only
        refine ⟨(validB_iff _ _).2 ⟨by omega, h2, ?_⟩, again _, hmax⟩
        refine .inr fun i hi => ?_
        have h7 := v2.resolve_left (by omega)
        rw [shl_bit, h7 _ (by omega)]; simp
    · have e : takeF t s n = ((n, 0#64), true) := by unfold takeF; rw [if_pos h3, if_neg h4]
      rw [e]
      dsimp only
      exact ⟨(validB_iff _ _).2 ⟨by omega, h2, .inr fun i _ => by simp⟩, again _, hmax⟩
  · by_cases h4 : t - 1 - n < 0
    · have e : takeF t s n = ((t, s), false) := by unfold takeF; rw [if_neg h3, if_pos h4]
      rw [e] at h; simp at h
    by_cases h5 : 63 < t - 1 - n
    · have e : takeF t s n = ((t, s), false) := by unfold takeF; rw [if_neg h3, if_neg h4, if_pos h5]
      rw [e] at h; simp at h
    by_cases h6 : (s >>> (t - 1 - n).toNat &&& 1#64 == 1#64) = true
    · have e : takeF t s n = ((t, s), false) := by unfold takeF; rw [if_neg h3, if_neg h4, if_neg h5, if_pos h6]
      rw [e] at h; simp at h
    have e : takeF t s n = ((t, s ||| 1#64 <<< (t - 1 - n).toNat), true) := by unfold takeF; rw [if_neg h3, if_neg h4, if_neg h5, if_neg h6]
    rw [e]
    dsimp only
    have hk : (t - 1 - n).toNat < 64 := by omega
    refine ⟨(validB_iff _ _).2 ⟨v0, v1, ?_⟩, ?_, by omega⟩
    · rcases v2 with h7 | h7
      · exact .inl h7
      · refine .inr fun i hi => ?_
        simp only [BitVec.getLsbD_or, one_shl _ _ hk, h7 i hi]
        simp; omega
    · show (takeF t (s ||| 1#64 <<< (t - 1 - n).toNat) n).2 = false
      unfold takeF
      rw [if_neg h3, if_neg h4, if_neg h5, if_pos]
      rw [bit_test, BitVec.getLsbD_or, one_shl _ _ hk]; simp

/-! ### Numbers of one span of 65 -/
/-- The window (t, s) holds the numbers fr + d, d in sn. -/
def Ord (fr t : Int) (s : BitVec 64) (sn : List Bool) : Prop :=
  (t = 0 ∧ s = 0#64 ∧ ∀ d, sn.getD d false = false) ∨
  ∃ m : Nat, m ≤ 64 ∧ t = fr + m ∧ sn.getD m false = true ∧ (∀ d, m < d → sn.getD d false = false) ∧ ∀ i, i < 64 → s.getLsbD i = (decide (i < m) && sn.getD (m - 1 - i) false)
theorem getD_set (sn : List Bool) (d e : Nat) (hd : d < sn.length) : (sn.set d true).getD e false = (decide (d = e) || sn.getD e false) := by
  simp only [List.getD, List.getElem?_set]
  by_cases h : d = e
  · subst h; simp [hd]
  · simp [h]
theorem Ord.valid {fr t : Int} {s : BitVec 64} {sn : List Bool} (h : Ord fr t s sn) (h1 : 1 ≤ fr) (h2 : fr + 64 ≤ 281474976710655) : validB t s = true := by
  rw [validB_iff]
  rcases h with ⟨rfl, rfl, _⟩ | ⟨m, hm, rfl, _, _, hb⟩
  · exact ⟨by omega, by omega, .inr fun i _ => by simp⟩
  · refine ⟨by omega, by omega, .inr fun i hi => ?_⟩
    rcases Nat.lt_or_ge i 64 with h | h
    · rw [hb i h]
      have : ¬ i < m := by omega
      simp [this]
    · exact bit_high s i h
theorem Ord.step {fr t : Int} {s : BitVec 64} {sn : List Bool} (h : Ord fr t s sn) (h1 : 1 ≤ fr) (d : Nat) (hd : d ≤ 64) (hl : sn.length = 65) :
    (takeF t s (fr + d)).2 = !sn.getD d false ∧ (sn.getD d false = false → Ord fr (takeF t s (fr + d)).1.1 (takeF t s (fr + d)).1.2 (sn.set d true)) := by
  have hdl : d < sn.length := by omega
  rcases h with ⟨rfl, rfl, h0⟩ | ⟨m, hm, rfl, hsm, hgt, hb⟩
  · have e : takeF 0 0#64 (fr + d) = ((fr + d, 0#64), true) := by
      unfold takeF
      rw [if_pos (by omega)]
      by_cases h3 : fr + (d : Int) - 0 ≤ 64
      · rw [if_pos h3, if_neg (by omega)]; simp
      · rw [if_neg h3]
    rw [e, h0 d]
    refine ⟨rfl, fun _ => .inr ⟨d, hd, rfl, by rw [getD_set _ _ _ hdl]; simp, fun e he => by rw [getD_set _ _ _ hdl, h0 e]; simp; omega, fun i hi => ?_⟩⟩
    rw [getD_set _ _ _ hdl, h0]; simp; omega
  · by_cases h3 : m < d
    · have hlow := hgt d h3
      have e : takeF (fr + m) s (fr + d) = ((fr + d, s <<< (d - m) ||| 1#64 <<< (d - m - 1)), true) := by
        have hx : (fr + (d : Int) - (fr + m)).toNat = d - m := by omega
        unfold takeF
        rw [if_pos (by omega), if_pos (by omega), if_pos (by omega), hx]
      rw [e, hlow]
      refine ⟨rfl, fun _ => .inr ⟨d, hd, rfl, by rw [getD_set _ _ _ hdl]; simp, fun e he => by rw [getD_set _ _ _ hdl, hgt e (by omega)]; simp; omega, fun i hi => ?_⟩⟩
      simp only [BitVec.getLsbD_or, shl_bit, one_shl _ _ (show d - m - 1 < 64 by omega)]
      rw [getD_set _ _ _ hdl, show decide (d = d - 1 - i) = false by simp; omega, Bool.false_or]
      by_cases h4 : d - m ≤ i
      · rw [hb (i - (d - m)) (by omega)]
        have e1 : m - 1 - (i - (d - m)) = d - 1 - i := by omega
        rw [e1]
        have e2 : decide (i = d - m - 1) = false := by simp; omega
        have e3 : decide (i - (d - m) < m) = decide (i < d) := by rw [Bool.eq_iff_iff]; simp; omega
        simp [e2, e3, hi, h4]
      · have e2 : decide (d - m ≤ i) = false := by simp; omega
        rw [e2]
        by_cases h5 : i = d - m - 1
        · have e3 : d - 1 - i = m := by omega
          rw [e3, hsm]; simp [h5]; omega
        · have e3 : sn.getD (d - 1 - i) false = false := hgt _ (by omega)
          rw [e3]; simp [h5]
    · by_cases h4 : m = d
      · subst h4
        have e : takeF (fr + m) s (fr + m) = ((fr + m, s), false) := by
          unfold takeF; rw [if_neg (by omega), if_pos (by omega)]
        rw [e, hsm]
        exact ⟨rfl, fun h => by simp at h⟩
      · have hx : (fr + (m : Int) - 1 - (fr + d)).toNat = m - 1 - d := by omega
        have hbit := hb (m - 1 - d) (by omega)
        rw [show m - 1 - (m - 1 - d) = d by omega, show decide (m - 1 - d < m) = true by simp; omega, Bool.true_and] at hbit
        cases hs : sn.getD d false with
        | true =>
          rw [hs] at hbit
          have e : takeF (fr + m) s (fr + d) = ((fr + m, s), false) := by
            unfold takeF
            rw [if_neg (by omega), if_neg (by omega), if_neg (by omega), hx, if_pos (by rw [bit_test]; exact hbit)]
          rw [e]; exact ⟨rfl, fun h => by simp at h⟩
        | false =>
          rw [hs] at hbit
          have e : takeF (fr + m) s (fr + d) = ((fr + m, s ||| 1#64 <<< (m - 1 - d)), true) := by
            unfold takeF
            rw [if_neg (by omega), if_neg (by omega), if_neg (by omega), hx, if_neg (by rw [bit_test, hbit]; simp)]
          rw [e]
          refine ⟨rfl, fun _ => .inr ⟨m, hm, rfl, by rw [getD_set _ _ _ hdl, hsm]; simp, fun e he => by rw [getD_set _ _ _ hdl, hgt e he]; simp; omega, fun i hi => ?_⟩⟩
          rw [BitVec.getLsbD_or, one_shl _ _ (show m - 1 - d < 64 by omega), hb i hi, getD_set _ _ _ hdl]
          by_cases h5 : i < m
          · have e1 : decide (i = m - 1 - d) = decide (d = m - 1 - i) := by rw [Bool.eq_iff_iff]; simp; omega
            rw [e1]; simp [h5, Bool.or_comm]
          · have e1 : decide (i = m - 1 - d) = false := by simp; omega
            rw [e1]; simp [h5]

/-! ### Accept on a window of otherwise empty counters -/
theorem checkF_of (l : List Win) (h : oddAt l = false) (a : Int) (h0 : 0 ≤ a) (h1 : a ≤ 281474976710655) : checkF a l = 0 := by
  unfold checkF most
  rw [if_neg]
  rintro (h' | h' | h')
  · omega
  · omega
  · rw [h] at h'; cases h'
theorem oddAt_set (l : List Win) (k : Nat) (x : Win) (h : oddAt l = false) (hx : validB x.1 x.2 = true) : oddAt (l.set k x) = false := by
  unfold oddAt at *
  rw [List.any_eq_false] at *
  intro y hy
  rcases List.mem_or_eq_of_mem_set hy with hm | rfl
  · exact h y hm
  · simp [hx]
end Go.Proofs.Ytjnaegpjhbobaaa
