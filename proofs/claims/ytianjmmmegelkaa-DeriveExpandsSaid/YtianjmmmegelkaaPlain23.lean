/- Plain law: hotspotref23.Mac, block by block over the padded bytes, reckons what derive.Mac reckons byte by byte. -/
import Derived.Test.YtianjmmmegelkaaMac
namespace Go.Proofs.Ytianjmmmegelkaa
open Go.RowKit

/-- A block with the bytes from o on put into it, behind k of them. -/
def xorTo (x p : List (BitVec 8)) (o : Nat) : Nat → List (BitVec 8)
  | 0 => x
  | k + 1 => (xorTo x p o k).set k ((xorTo x p o k).getD k 0 ^^^ p.getD (o + k) 0)
theorem xorTo_len (x p : List (BitVec 8)) (o : Nat) : ∀ k, (xorTo x p o k).length = x.length
  | 0 => rfl
  | k + 1 => by rw [xorTo, List.length_set]; exact xorTo_len x p o k
/-- The bytes, filled up to a multiple of 16. -/
def padF (bs : List (BitVec 8)) : List (BitVec 8) := bs ++ List.replicate ((16 - bs.length % 16) % 16) 0
theorem padF_len (bs : List (BitVec 8)) : (padF bs).length = 16 * ((bs.length + 15) / 16) := by
  unfold padF; rw [List.length_append, List.length_replicate]; omega
theorem padF_at (bs : List (BitVec 8)) (i : Nat) : (padF bs).getD i 0 = bs.getD i 0 := by
  unfold padF
  simp only [List.getD]
  by_cases h : i < bs.length
  · rw [List.getElem?_append_left h]
  · rw [List.getElem?_append_right (by omega), List.getElem?_replicate, List.getElem?_eq_none (l := bs) (by omega)]
    split <;> rfl
/-- The chain behind j blocks of the padded bytes. -/
def rmacTo (ks bs : List (BitVec 8)) : Nat → List (BitVec 8)
  | 0 => encF ks (macHdTo bs.length 8)
  | j + 1 => encF ks (xorTo (rmacTo ks bs j) (padF bs) (16 * j) 16)
theorem rmacTo_len (ks bs : List (BitVec 8)) : ∀ j, (rmacTo ks bs j).length = 16
  | 0 => encF_len _ _
  | _ + 1 => encF_len _ _
theorem xorTo_pad (x bs : List (BitVec 8)) (o : Nat) : ∀ k, xorTo x (padF bs) o k = xorTo x bs o k
  | 0 => rfl
  | k + 1 => by rw [xorTo, xorTo, xorTo_pad x bs o k, padF_at]
theorem set_getD (l : List (BitVec 8)) (i : Nat) : l.set i (l.getD i 0) = l := by
  refine List.ext_getElem? fun j => ?_
  rw [List.getElem?_set]
  split
  · rename_i h; subst h
    split
    · rename_i h; simp [List.getD, List.getElem?_eq_getElem h]
    · rename_i h; rw [List.getElem?_eq_none (by omega)]
  · rfl
theorem xor_z (x : BitVec 8) : x ^^^ 0 = x := by simp
/-- Behind the last byte nothing is put in. -/
theorem xorTo_end (x bs : List (BitVec 8)) (o r : Nat) (h : bs.length ≤ o + r) : ∀ k, r ≤ k → xorTo x bs o k = xorTo x bs o r
  | 0, hk => by
    obtain rfl : r = 0 := by omega
    rfl
  | k + 1, hk => by
    by_cases hr : r = k + 1
    · subst hr; rfl
    · have hz : bs.getD (o + k) 0 = 0 := by
        simp only [List.getD]; rw [List.getElem?_eq_none (by omega)]; rfl
      rw [xorTo, hz, xor_z, set_getD]
      exact xorTo_end x bs o r h k (by omega)
/-- Within a block. -/
theorem mac_in (ks bs : List (BitVec 8)) (j : Nat) : ∀ k, k < 16 → (k = 0 ∨ 16 * j + k < bs.length) → macTo ks bs (16 * j + k) = xorTo (macTo ks bs (16 * j)) bs (16 * j) k
  | 0, _, _ => rfl
  | k + 1, hk, h => by
    have hlt : 16 * j + (k + 1) < bs.length := by omega
    rw [show 16 * j + (k + 1) = (16 * j + k) + 1 by omega, macTo, if_neg (by omega), show (16 * j + k) % 16 = k by omega, mac_in ks bs j k (by omega) (by omega), xorTo]
/-- At a block's end, or at the bytes' end. -/
theorem mac_end (ks bs : List (BitVec 8)) (j k : Nat) (hk : k < 16) (h1 : k = 15 ∨ 16 * j + k + 1 = bs.length) (h2 : 16 * j + k < bs.length) : macTo ks bs (16 * j + k + 1) = encF ks (xorTo (macTo ks bs (16 * j)) bs (16 * j) (k + 1)) := by
  rw [macTo, if_pos (by omega), show (16 * j + k) % 16 = k by omega, mac_in ks bs j k hk (by omega), xorTo]
theorem rmac_full (ks bs : List (BitVec 8)) : ∀ j, 16 * j ≤ bs.length → rmacTo ks bs j = macTo ks bs (16 * j)
  | 0, _ => rfl
  | j + 1, h => by
    rw [rmacTo, rmac_full ks bs j (by omega), xorTo_pad, show 16 * (j + 1) = 16 * j + 15 + 1 by omega, mac_end ks bs j 15 (by omega) (.inl rfl) (by omega)]
theorem rmac_mac (ks bs : List (BitVec 8)) : rmacTo ks bs ((bs.length + 15) / 16) = macF ks bs := by
  unfold macF
  by_cases h : bs.length % 16 = 0
  · rw [rmac_full ks bs _ (by omega)]
    congr 1; omega
  · obtain ⟨j, hj⟩ : ∃ j, j = bs.length / 16 := ⟨_, rfl⟩
    rw [show (bs.length + 15) / 16 = j + 1 by omega, rmacTo, rmac_full ks bs j (by omega), xorTo_pad]
    have hr : bs.length = 16 * j + (bs.length % 16 - 1) + 1 := by omega
    rw [xorTo_end _ bs (16 * j) (bs.length % 16 - 1 + 1) (by omega) 16 (by omega)]
    have := mac_end ks bs j (bs.length % 16 - 1) (by omega) (.inr hr.symm) (by omega)
    rw [← hr] at this
    exact this.symm
end Go.Proofs.Ytianjmmmegelkaa
