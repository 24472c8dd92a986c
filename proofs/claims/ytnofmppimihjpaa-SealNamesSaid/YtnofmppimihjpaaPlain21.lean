/- Plain laws of chapter 21: the words of a block and back; rounds undone; encryption undone. No program in sight. -/
import Derived.Test.YtnofmppimihjpaaCipher
namespace Go.Proofs.Ytnofmppimihjpaa

theorem xor_cancel (x y : BitVec 32) : x ^^^ y ^^^ y = x := by rw [BitVec.xor_assoc, BitVec.xor_self, BitVec.xor_zero]
theorem back_round (x0 x1 x2 x3 a b : BitVec 32) : backF (x1 ^^^ rotl 13 (x2 + (rotl 9 x3 ^^^ b) + a)) (x2 + (rotl 9 x3 ^^^ b)) (x3 ^^^ rotl 19 (x0 + (rotl 5 x1 ^^^ a) + b)) (x0 + (rotl 5 x1 ^^^ a)) a b = [x0, x1, x2, x3] := by
  simp only [backF, xor_cancel, BitVec.add_sub_cancel]
theorem round_back (y0 y1 y2 y3 a b : BitVec 32) :
    roundF (y3 - (rotl 5 (y0 ^^^ rotl 13 (y1 + a)) ^^^ a)) (y0 ^^^ rotl 13 (y1 + a)) (y1 - (rotl 9 (y2 ^^^ rotl 19 (y3 + b)) ^^^ b)) (y2 ^^^ rotl 19 (y3 + b)) a b = [y0, y1, y2, y3] := by
  simp only [roundF, BitVec.sub_add_cancel, xor_cancel]
/-- Four bytes as a word. -/
def word4 (a b c d : BitVec 8) : BitVec 32 := 0 ||| a.setWidth 32 <<< 0 ||| b.setWidth 32 <<< 8 ||| c.setWidth 32 <<< 16 ||| d.setWidth 32 <<< 24
/-- Byte i of a word. -/
def byteOf (x : BitVec 32) (i : Nat) : BitVec 8 := (x >>> (i * 8)).setWidth 8

theorem byte0 (a b c d : BitVec 8) : byteOf (word4 a b c d) 0 = a := by
  unfold byteOf word4
  refine BitVec.eq_of_getLsbD_eq fun j hj => ?_
  have h8 : j = 0 ∨ j = 1 ∨ j = 2 ∨ j = 3 ∨ j = 4 ∨ j = 5 ∨ j = 6 ∨ j = 7 := by omega
  rcases h8 with rfl | rfl | rfl | rfl | rfl | rfl | rfl | rfl <;> simp
theorem byte1 (a b c d : BitVec 8) : byteOf (word4 a b c d) 1 = b := by
  unfold byteOf word4
  refine BitVec.eq_of_getLsbD_eq fun j hj => ?_
  have h8 : j = 0 ∨ j = 1 ∨ j = 2 ∨ j = 3 ∨ j = 4 ∨ j = 5 ∨ j = 6 ∨ j = 7 := by omega
  rcases h8 with rfl | rfl | rfl | rfl | rfl | rfl | rfl | rfl <;> simp
theorem byte2 (a b c d : BitVec 8) : byteOf (word4 a b c d) 2 = c := by
  unfold byteOf word4
  refine BitVec.eq_of_getLsbD_eq fun j hj => ?_
  have h8 : j = 0 ∨ j = 1 ∨ j = 2 ∨ j = 3 ∨ j = 4 ∨ j = 5 ∨ j = 6 ∨ j = 7 := by omega
  rcases h8 with rfl | rfl | rfl | rfl | rfl | rfl | rfl | rfl <;> simp
theorem byte3 (a b c d : BitVec 8) : byteOf (word4 a b c d) 3 = d := by
  unfold byteOf word4
  refine BitVec.eq_of_getLsbD_eq fun j hj => ?_
  have h8 : j = 0 ∨ j = 1 ∨ j = 2 ∨ j = 3 ∨ j = 4 ∨ j = 5 ∨ j = 6 ∨ j = 7 := by omega
  rcases h8 with rfl | rfl | rfl | rfl | rfl | rfl | rfl | rfl <;> simp
theorem word_bytes (x : BitVec 32) : word4 (byteOf x 0) (byteOf x 1) (byteOf x 2) (byteOf x 3) = x := by
  unfold byteOf word4
  refine BitVec.eq_of_getLsbD_eq fun j hj => ?_
  have h32 : j = 0 ∨ j = 1 ∨ j = 2 ∨ j = 3 ∨ j = 4 ∨ j = 5 ∨ j = 6 ∨ j = 7 ∨ j = 8 ∨ j = 9 ∨ j = 10 ∨ j = 11 ∨ j = 12 ∨ j = 13 ∨ j = 14 ∨ j = 15 ∨ j = 16 ∨ j = 17 ∨ j = 18 ∨ j = 19 ∨ j = 20 ∨ j = 21 ∨ j = 22 ∨ j = 23 ∨ j = 24 ∨ j = 25 ∨ j = 26 ∨ j = 27 ∨ j = 28 ∨ j = 29 ∨ j = 30 ∨ j = 31 := by omega
  rcases h32 with rfl | rfl | rfl | rfl | rfl | rfl | rfl | rfl | rfl | rfl | rfl | rfl | rfl | rfl | rfl | rfl | rfl | rfl | rfl | rfl | rfl | rfl | rfl | rfl | rfl | rfl | rfl | rfl | rfl | rfl | rfl | rfl <;> simp
theorem list16 {α : Type} {l : List α} (h : l.length = 16) : ∃ a0 a1 a2 a3 a4 a5 a6 a7 a8 a9 a10 a11 a12 a13 a14 a15, l = [a0, a1, a2, a3, a4, a5, a6, a7, a8, a9, a10, a11, a12, a13, a14, a15] := by
  match l, h with
  | [a0, a1, a2, a3, a4, a5, a6, a7, a8, a9, a10, a11, a12, a13, a14, a15], _ => exact ⟨a0, a1, a2, a3, a4, a5, a6, a7, a8, a9, a10, a11, a12, a13, a14, a15, rfl⟩
theorem wordsF_lit (a0 a1 a2 a3 a4 a5 a6 a7 a8 a9 a10 a11 a12 a13 a14 a15 : BitVec 8) :
    wordsF [a0, a1, a2, a3, a4, a5, a6, a7, a8, a9, a10, a11, a12, a13, a14, a15] = [word4 a0 a1 a2 a3, word4 a4 a5 a6 a7, word4 a8 a9 a10 a11, word4 a12 a13 a14 a15] := by
  have h1 : wordsTo [a0, a1, a2, a3, a4, a5, a6, a7, a8, a9, a10, a11, a12, a13, a14, a15] 1 = [(0 ||| a0.setWidth 32 <<< 0 : BitVec 32), (0 : BitVec 32), (0 : BitVec 32), (0 : BitVec 32)] := rfl
  have h2 : wordsTo [a0, a1, a2, a3, a4, a5, a6, a7, a8, a9, a10, a11, a12, a13, a14, a15] 2 = [(0 ||| a0.setWidth 32 <<< 0 ||| a1.setWidth 32 <<< 8 : BitVec 32), (0 : BitVec 32), (0 : BitVec 32), (0 : BitVec 32)] := by rw [wordsTo, h1]; rfl
  have h3 : wordsTo [a0, a1, a2, a3, a4, a5, a6, a7, a8, a9, a10, a11, a12, a13, a14, a15] 3 = [(0 ||| a0.setWidth 32 <<< 0 ||| a1.setWidth 32 <<< 8 ||| a2.setWidth 32 <<< 16 : BitVec 32), (0 : BitVec 32), (0 : BitVec 32), (0 : BitVec 32)] := by rw [wordsTo, h2]; rfl
  have h4 : wordsTo [a0, a1, a2, a3, a4, a5, a6, a7, a8, a9, a10, a11, a12, a13, a14, a15] 4 = [(0 ||| a0.setWidth 32 <<< 0 ||| a1.setWidth 32 <<< 8 ||| a2.setWidth 32 <<< 16 ||| a3.setWidth 32 <<< 24 : BitVec 32), (0 : BitVec 32), (0 : BitVec 32), (0 : BitVec 32)] := by rw [wordsTo, h3]; rfl
  have h5 : wordsTo [a0, a1, a2, a3, a4, a5, a6, a7, a8, a9, a10, a11, a12, a13, a14, a15] 5 = [(0 ||| a0.setWidth 32 <<< 0 ||| a1.setWidth 32 <<< 8 ||| a2.setWidth 32 <<< 16 ||| a3.setWidth 32 <<< 24 : BitVec 32), (0 ||| a4.setWidth 32 <<< 0 : BitVec 32), (0 : BitVec 32), (0 : BitVec 32)] := by rw [wordsTo, h4]; rfl
  have h6 : wordsTo [a0, a1, a2, a3, a4, a5, a6, a7, a8, a9, a10, a11, a12, a13, a14, a15] 6 = [(0 ||| a0.setWidth 32 <<< 0 ||| a1.setWidth 32 <<< 8 ||| a2.setWidth 32 <<< 16 ||| a3.setWidth 32 <<< 24 : BitVec 32), (0 ||| a4.setWidth 32 <<< 0 ||| a5.setWidth 32 <<< 8 : BitVec 32), (0 : BitVec 32), (0 : BitVec 32)] := by rw [wordsTo, h5]; rfl
  have h7 : wordsTo [a0, a1, a2, a3, a4, a5, a6, a7, a8, a9, a10, a11, a12, a13, a14, a15] 7 = [(0 ||| a0.setWidth 32 <<< 0 ||| a1.setWidth 32 <<< 8 ||| a2.setWidth 32 <<< 16 ||| a3.setWidth 32 <<< 24 : BitVec 32), (0 ||| a4.setWidth 32 <<< 0 ||| a5.setWidth 32 <<< 8 ||| a6.setWidth 32 <<< 16 : BitVec 32), (0 : BitVec 32), (0 : BitVec 32)] := by rw [wordsTo, h6]; rfl
  have h8 : wordsTo [a0, a1, a2, a3, a4, a5, a6, a7, a8, a9, a10, a11, a12, a13, a14, a15] 8 = [(0 ||| a0.setWidth 32 <<< 0 ||| a1.setWidth 32 <<< 8 ||| a2.setWidth 32 <<< 16 ||| a3.setWidth 32 <<< 24 : BitVec 32), (0 ||| a4.setWidth 32 <<< 0 ||| a5.setWidth 32 <<< 8 ||| a6.setWidth 32 <<< 16 ||| a7.setWidth 32 <<< 24 : BitVec 32), (0 : BitVec 32), (0 : BitVec 32)] := by rw [wordsTo, h7]; rfl
  have h9 : wordsTo [a0, a1, a2, a3, a4, a5, a6, a7, a8, a9, a10, a11, a12, a13, a14, a15] 9 = [(0 ||| a0.setWidth 32 <<< 0 ||| a1.setWidth 32 <<< 8 ||| a2.setWidth 32 <<< 16 ||| a3.setWidth 32 <<< 24 : BitVec 32), (0 ||| a4.setWidth 32 <<< 0 ||| a5.setWidth 32 <<< 8 ||| a6.setWidth 32 <<< 16 ||| a7.setWidth 32 <<< 24 : BitVec 32), (0 ||| a8.setWidth 32 <<< 0 : BitVec 32), (0 : BitVec 32)] := by rw [wordsTo, h8]; rfl
  have h10 : wordsTo [a0, a1, a2, a3, a4, a5, a6, a7, a8, a9, a10, a11, a12, a13, a14, a15] 10 = [(0 ||| a0.setWidth 32 <<< 0 ||| a1.setWidth 32 <<< 8 ||| a2.setWidth 32 <<< 16 ||| a3.setWidth 32 <<< 24 : BitVec 32), (0 ||| a4.setWidth 32 <<< 0 ||| a5.setWidth 32 <<< 8 ||| a6.setWidth 32 <<< 16 ||| a7.setWidth 32 <<< 24 : BitVec 32), (0 ||| a8.setWidth 32 <<< 0 ||| a9.setWidth 32 <<< 8 : BitVec 32), (0 : BitVec 32)] := by rw [wordsTo, h9]; rfl
  have h11 : wordsTo [a0, a1, a2, a3, a4, a5, a6, a7, a8, a9, a10, a11, a12, a13, a14, a15] 11 = [(0 ||| a0.setWidth 32 <<< 0 ||| a1.setWidth 32 <<< 8 ||| a2.setWidth 32 <<< 16 ||| a3.setWidth 32 <<< 24 : BitVec 32), (0 ||| a4.setWidth 32 <<< 0 ||| a5.setWidth 32 <<< 8 ||| a6.setWidth 32 <<< 16 ||| a7.setWidth 32 <<< 24 : BitVec 32), (0 ||| a8.setWidth 32 <<< 0 ||| a9.setWidth 32 <<< 8 ||| a10.setWidth 32 <<< 16 : BitVec 32), (0 : BitVec 32)] := by rw [wordsTo, h10]; rfl
  have h12 : wordsTo [a0, a1, a2, a3, a4, a5, a6, a7, a8, a9, a10, a11, a12, a13, a14, a15] 12 = [(0 ||| a0.setWidth 32 <<< 0 ||| a1.setWidth 32 <<< 8 ||| a2.setWidth 32 <<< 16 ||| a3.setWidth 32 <<< 24 : BitVec 32), (0 ||| a4.setWidth 32 <<< 0 ||| a5.setWidth 32 <<< 8 ||| a6.setWidth 32 <<< 16 ||| a7.setWidth 32 <<< 24 : BitVec 32), (0 ||| a8.setWidth 32 <<< 0 ||| a9.setWidth 32 <<< 8 ||| a10.setWidth 32 <<< 16 ||| a11.setWidth 32 <<< 24 : BitVec 32), (0 : BitVec 32)] := by rw [wordsTo, h11]; rfl
  have h13 : wordsTo [a0, a1, a2, a3, a4, a5, a6, a7, a8, a9, a10, a11, a12, a13, a14, a15] 13 = [(0 ||| a0.setWidth 32 <<< 0 ||| a1.setWidth 32 <<< 8 ||| a2.setWidth 32 <<< 16 ||| a3.setWidth 32 <<< 24 : BitVec 32), (0 ||| a4.setWidth 32 <<< 0 ||| a5.setWidth 32 <<< 8 ||| a6.setWidth 32 <<< 16 ||| a7.setWidth 32 <<< 24 : BitVec 32), (0 ||| a8.setWidth 32 <<< 0 ||| a9.setWidth 32 <<< 8 ||| a10.setWidth 32 <<< 16 ||| a11.setWidth 32 <<< 24 : BitVec 32), (0 ||| a12.setWidth 32 <<< 0 : BitVec 32)] := by rw [wordsTo, h12]; rfl
  have h14 : wordsTo [a0, a1, a2, a3, a4, a5, a6, a7, a8, a9, a10, a11, a12, a13, a14, a15] 14 = [(0 ||| a0.setWidth 32 <<< 0 ||| a1.setWidth 32 <<< 8 ||| a2.setWidth 32 <<< 16 ||| a3.setWidth 32 <<< 24 : BitVec 32), (0 ||| a4.setWidth 32 <<< 0 ||| a5.setWidth 32 <<< 8 ||| a6.setWidth 32 <<< 16 ||| a7.setWidth 32 <<< 24 : BitVec 32), (0 ||| a8.setWidth 32 <<< 0 ||| a9.setWidth 32 <<< 8 ||| a10.setWidth 32 <<< 16 ||| a11.setWidth 32 <<< 24 : BitVec 32), (0 ||| a12.setWidth 32 <<< 0 ||| a13.setWidth 32 <<< 8 : BitVec 32)] := by rw [wordsTo, h13]; rfl
  have h15 : wordsTo [a0, a1, a2, a3, a4, a5, a6, a7, a8, a9, a10, a11, a12, a13, a14, a15] 15 = [(0 ||| a0.setWidth 32 <<< 0 ||| a1.setWidth 32 <<< 8 ||| a2.setWidth 32 <<< 16 ||| a3.setWidth 32 <<< 24 : BitVec 32), (0 ||| a4.setWidth 32 <<< 0 ||| a5.setWidth 32 <<< 8 ||| a6.setWidth 32 <<< 16 ||| a7.setWidth 32 <<< 24 : BitVec 32), (0 ||| a8.setWidth 32 <<< 0 ||| a9.setWidth 32 <<< 8 ||| a10.setWidth 32 <<< 16 ||| a11.setWidth 32 <<< 24 : BitVec 32), (0 ||| a12.setWidth 32 <<< 0 ||| a13.setWidth 32 <<< 8 ||| a14.setWidth 32 <<< 16 : BitVec 32)] := by rw [wordsTo, h14]; rfl
  have h16 : wordsTo [a0, a1, a2, a3, a4, a5, a6, a7, a8, a9, a10, a11, a12, a13, a14, a15] 16 = [(0 ||| a0.setWidth 32 <<< 0 ||| a1.setWidth 32 <<< 8 ||| a2.setWidth 32 <<< 16 ||| a3.setWidth 32 <<< 24 : BitVec 32), (0 ||| a4.setWidth 32 <<< 0 ||| a5.setWidth 32 <<< 8 ||| a6.setWidth 32 <<< 16 ||| a7.setWidth 32 <<< 24 : BitVec 32), (0 ||| a8.setWidth 32 <<< 0 ||| a9.setWidth 32 <<< 8 ||| a10.setWidth 32 <<< 16 ||| a11.setWidth 32 <<< 24 : BitVec 32), (0 ||| a12.setWidth 32 <<< 0 ||| a13.setWidth 32 <<< 8 ||| a14.setWidth 32 <<< 16 ||| a15.setWidth 32 <<< 24 : BitVec 32)] := by rw [wordsTo, h15]; rfl
  exact h16
theorem joinF_lit (x0 x1 x2 x3 : BitVec 32) : joinF [x0, x1, x2, x3] = [byteOf x0 0, byteOf x0 1, byteOf x0 2, byteOf x0 3, byteOf x1 0, byteOf x1 1, byteOf x1 2, byteOf x1 3, byteOf x2 0, byteOf x2 1, byteOf x2 2, byteOf x2 3, byteOf x3 0, byteOf x3 1, byteOf x3 2, byteOf x3 3] := rfl
theorem words_join (xs : List (BitVec 32)) (h : xs.length = 4) : wordsF (joinF xs) = xs := by
  obtain ⟨x0, x1, x2, x3, rfl⟩ := list4 h
  rw [joinF_lit, wordsF_lit, word_bytes, word_bytes, word_bytes, word_bytes]
theorem join_words (bs : List (BitVec 8)) (h : bs.length = 16) : joinF (wordsF bs) = bs := by
  obtain ⟨a0, a1, a2, a3, a4, a5, a6, a7, a8, a9, a10, a11, a12, a13, a14, a15, rfl⟩ := list16 h
  rw [wordsF_lit, joinF_lit]
  simp only [byte0, byte1, byte2, byte3]
theorem maskF_lit (x0 x1 x2 x3 : BitVec 32) (ws : List (BitVec 32)) : maskF [x0, x1, x2, x3] ws = [x0 ^^^ ws.getD 0 0, x1 ^^^ ws.getD 1 0, x2 ^^^ ws.getD 2 0, x3 ^^^ ws.getD 3 0] := rfl
theorem mask_mask (xs ws : List (BitVec 32)) (h : xs.length = 4) : maskF (maskF xs ws) ws = xs := by
  obtain ⟨x0, x1, x2, x3, rfl⟩ := list4 h
  rw [maskF_lit, maskF_lit]
  simp only [xor_cancel]
end Go.Proofs.Ytnofmppimihjpaa
