/- Plain laws: what hotspotref24's New and Taken reckon is what takeF reckons. -/
import Derived.Test.YtjnaegpjhbobaaaRef24
namespace Go.Proofs.Ytjnaegpjhbobaaa
open Go.RowKit

def condB (T t : Int) (s : BitVec 64) (n : Int) (k : Nat) : Bool := hasB t s (T - 1 - (k : Int)) || (T - 1 - (k : Int) == n)
def seenTo (T t : Int) (s : BitVec 64) (n : Int) : Nat → BitVec 64
  | 0 => 0#64
  | k + 1 => if condB T t s n k = true then seenTo T t s n k + 1#64 <<< k else seenTo T t s n k
theorem seenTo_bit (T t : Int) (s : BitVec 64) (n : Int) : ∀ k, k ≤ 64 → ∀ i, (seenTo T t s n k).getLsbD i = (decide (i < k) && condB T t s n i)
  | 0, _, i => by simp [seenTo]
  | k + 1, hk, i => by
    have ih := seenTo_bit T t s n k (by omega)
    rw [seenTo]
    split
    · rename_i hc
      rw [BitVec.add_eq_or_of_and_eq_zero]
      · rw [BitVec.getLsbD_or, ih i, one_shl k i (by omega)]
        by_cases h : i = k
        · subst h; simp [hc]
        · have : decide (i < k + 1) = decide (i < k) := by rw [Bool.eq_iff_iff]; simp; omega
          simp [h, this]
      · apply BitVec.eq_of_getLsbD_eq
        intro j _
        rw [BitVec.getLsbD_and, ih j, one_shl k j (by omega)]
        by_cases h : j = k
        · subst h; simp
        · simp [h]
    · rename_i hc
      rw [ih i]
      by_cases h : i = k
      · subst h; simp [hc]
      · have : decide (i < k + 1) = decide (i < k) := by rw [Bool.eq_iff_iff]; simp; omega
        rw [this]
theorem valid_low {t : Int} {s : BitVec 64} (hv : validB t s = true) (i : Nat) (hi : i < 64) (hb : s.getLsbD i = true) : 1 ≤ t - 1 - (i : Int) := by
  rw [validB_iff] at hv
  rcases hv.2.2 with h | h
  · omega
  · by_cases h2 : (t - 1).toNat ≤ i
    · rw [h i h2] at hb; cases hb
    · omega
theorem bitB_lo (s : BitVec 64) (i : Int) (h0 : 0 ≤ i) (h1 : i < 64) : bitB s i = s.getLsbD i.toNat := by simp [bitB, h0, h1]
theorem take_new (t : Int) (s : BitVec 64) (n : Int) (hv : validB t s = true) (h1 : 1 ≤ n) : (takeF t s n).2 = newB t s n := by
  unfold newB
  by_cases h2 : t < n
  · rw [take_gt t s n h2]; simp [h2]
  · by_cases h3 : n = t
    · subst h3
      unfold takeF
      rw [if_neg (by omega), if_pos (by omega)]
      simp [hasB]; omega
    · have hh : hasB t s n = bitB s (t - 1 - n) := by
        have e : (n == t) = false := by simpa using h3
        simp [hasB, e, show 0 < n by omega, show n < t by omega]
      rw [hh]
      by_cases h4 : 63 < t - 1 - n
      · unfold takeF
        rw [if_neg h2, if_neg (by omega), if_pos h4]
        simp [h2]; omega
      · rw [bitB_lo s _ (by omega) (by omega)]
        by_cases h5 : (s >>> (t - 1 - n).toNat &&& 1#64 == 1#64) = true
        · unfold takeF
          rw [if_neg h2, if_neg (by omega), if_neg h4, if_pos h5]
          rw [bit_test] at h5
          simp [h2, h5]
        · unfold takeF
          rw [if_neg h2, if_neg (by omega), if_neg h4, if_neg h5]
          rw [bit_test] at h5
          simp [h2, h5]; omega
theorem take_seen (t : Int) (s : BitVec 64) (n : Int) (hv : validB t s = true) (h1 : 1 ≤ n) (hn : newB t s n = true) : (takeF t s n).1 = (max n t, seenTo (max n t) t s n 64) := by
  have hv2 := hv
  rw [validB_iff] at hv2
  obtain ⟨v0, v1, v2⟩ := hv2
  have hok : (takeF t s n).2 = true := by rw [take_new t s n hv h1]; exact hn
  by_cases h2 : t < n
  · have hm : max n t = n := by omega
    rw [hm]
    have key : ∀ s', (∀ i, i < 64 → s'.getLsbD i = condB n t s n i) → ((n, s') : Win) = (n, seenTo n t s n 64) := fun s' h => by
      refine Prod.ext rfl ?_
      apply BitVec.eq_of_getLsbD_eq
      intro i hi
      rw [h i hi, seenTo_bit n t s n 64 (by omega) i]; simp [hi]
    by_cases h3 : n - t ≤ 64
    · by_cases h4 : 0 < t
      · have e : takeF t s n = ((n, s <<< (n - t).toNat ||| 1#64 <<< ((n - t).toNat - 1)), true) := by unfold takeF; rw [if_pos h2, if_pos h3, if_pos h4]
        rw [e]
        refine key _ fun i hi => ?_
        rw [BitVec.getLsbD_or, shl_bit, one_shl _ _ (show (n - t).toNat - 1 < 64 by omega)]
        unfold condB hasB
        have e0 : (n - 1 - (i : Int) == n) = false := by simp; omega
        rw [e0, Bool.or_false]
        by_cases h5 : (n - t).toNat ≤ i
        · have e1 : (n - 1 - (i : Int) == t) = false := by simp; omega
          have e2 : decide (n - 1 - (i : Int) < t) = true := by simp; omega
          have e3 : bitB s (t - 1 - (n - 1 - (i : Int))) = s.getLsbD (i - (n - t).toNat) := by
            rw [bitB_lo s _ (by omega) (by omega)]
            congr 1; omega
          have e4 : decide (i = (n - t).toNat - 1) = false := by simp; omega
          rw [e1, e2, e3, e4]
          cases hb : s.getLsbD (i - (n - t).toNat) with
          | false => simp
          | true =>
            have := valid_low hv _ (by omega) hb
            simp [hi, h5]; omega
        · have e2 : decide (n - 1 - (i : Int) < t) = false := by simp; omega
          rw [e2]
          by_cases h6 : i = (n - t).toNat - 1
          · have e1 : (n - 1 - (i : Int) == t) = true := by simp; omega
            rw [e1]; simp [h6]; omega
          · have e1 : (n - 1 - (i : Int) == t) = false := by simp; omega
            rw [e1]; simp [h5, h6]
      · have e : takeF t s n = ((n, s <<< (n - t).toNat), true) := by unfold takeF; rw [if_pos h2, if_pos h3, if_neg h4]
        rw [e]
        refine key _ fun i hi => ?_
        have hz : ∀ j, s.getLsbD j = false := fun j => by
          rcases v2 with h | h
          · omega
          · exact h j (by omega)
        rw [shl_bit, hz]
        unfold condB hasB
        have e0 : (n - 1 - (i : Int) == n) = false := by simp; omega
        rw [e0, Bool.or_false, Bool.and_false]
        symm
        rw [Bool.and_eq_false_iff]
        by_cases h5 : 0 < n - 1 - (i : Int)
        · right; simp; omega
        · left; simpa using h5
    · have e : takeF t s n = ((n, 0#64), true) := by unfold takeF; rw [if_pos h2, if_neg h3]
      rw [e]
      refine key _ fun i hi => ?_
      unfold condB hasB
      have e0 : (n - 1 - (i : Int) == n) = false := by simp; omega
      have e1 : (n - 1 - (i : Int) == t) = false := by simp; omega
      have e2 : decide (n - 1 - (i : Int) < t) = false := by simp; omega
      rw [e0, e1, e2]; simp
  · have h3 : n ≠ t := fun h => by
      subst h
      unfold takeF at hok
      rw [if_neg (by omega), if_pos (by omega)] at hok; cases hok
    have hm : max n t = t := by omega
    rw [hm]
    by_cases h4 : 63 < t - 1 - n
    · unfold takeF at hok
      rw [if_neg h2, if_neg (by omega), if_pos h4] at hok; cases hok
    by_cases h5 : (s >>> (t - 1 - n).toNat &&& 1#64 == 1#64) = true
    · unfold takeF at hok
      rw [if_neg h2, if_neg (by omega), if_neg h4, if_pos h5] at hok; cases hok
    have e : takeF t s n = ((t, s ||| 1#64 <<< (t - 1 - n).toNat), true) := by unfold takeF; rw [if_neg h2, if_neg (by omega), if_neg h4, if_neg h5]
    rw [e]
    refine Prod.ext rfl ?_
    apply BitVec.eq_of_getLsbD_eq
    intro i hi
    show (s ||| 1#64 <<< (t - 1 - n).toNat).getLsbD i = _
    rw [BitVec.getLsbD_or, one_shl _ _ (by omega), seenTo_bit t t s n 64 (by omega) i]
    unfold condB hasB
    have e1 : (t - 1 - (i : Int) == t) = false := by simp; omega
    have e2 : decide (t - 1 - (i : Int) < t) = true := by simp; omega
    have e3 : bitB s (t - 1 - (t - 1 - (i : Int))) = s.getLsbD i := by
      rw [bitB_lo s _ (by omega) (by omega)]
      congr 1; omega
    have e4 : decide (i = (t - 1 - n).toNat) = (t - 1 - (i : Int) == n) := by rw [Bool.eq_iff_iff]; simp; omega
    rw [e1, e2, e3, e4]
    cases hb : s.getLsbD i with
    | false => simp [hi]
    | true =>
      have := valid_low hv i hi hb
      simp [hi]; omega
end Go.Proofs.Ytjnaegpjhbobaaa
