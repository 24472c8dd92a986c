/- Plain laws of chapter 21: the words of a block and back; rounds undone; encryption undone. No program in sight. -/
import Derived.Test.YtaoaifllllhokaaCipherDec
namespace Go.Proofs.Ytaoaifllllhokaa

theorem xor_cancel (x y : BitVec 32) : x ^^^ y ^^^ y = x := by rw [BitVec.xor_assoc, BitVec.xor_self, BitVec.xor_zero]
theorem back_round (x0 x1 x2 x3 a b : BitVec 32) : backF (x1 ^^^ rotl 13 (x2 + (rotl 9 x3 ^^^ b) + a)) (x2 + (rotl 9 x3 ^^^ b)) (x3 ^^^ rotl 19 (x0 + (rotl 5 x1 ^^^ a) + b)) (x0 + (rotl 5 x1 ^^^ a)) a b = [x0, x1, x2, x3] := by
  simp only [backF, xor_cancel, BitVec.add_sub_cancel]
theorem round_back (y0 y1 y2 y3 a b : BitVec 32) :
    roundF (y3 - (rotl 5 (y0 ^^^ rotl 13 (y1 + a)) ^^^ a)) (y0 ^^^ rotl 13 (y1 + a)) (y1 - (rotl 9 (y2 ^^^ rotl 19 (y3 + b)) ^^^ b)) (y2 ^^^ rotl 19 (y3 + b)) a b = [y0, y1, y2, y3] := by
  simp only [roundF, BitVec.sub_add_cancel, xor_cancel]
theorem backL_roundL (l : List (BitVec 32)) (h : l.length = 4) (a b : BitVec 32) : backL (roundL l a b) a b = l := by
  obtain ⟨x0, x1, x2, x3, rfl⟩ := list4 h
  exact back_round x0 x1 x2 x3 a b
theorem roundL_backL (l : List (BitVec 32)) (h : l.length = 4) (a b : BitVec 32) : roundL (backL l a b) a b = l := by
  obtain ⟨x0, x1, x2, x3, rfl⟩ := list4 h
  exact round_back x0 x1 x2 x3 a b

/-- Four bytes as a word. -/
def word4 (a b c d : BitVec 8) : BitVec 32 := 0 ||| a.setWidth 32 <<< 0 ||| b.setWidth 32 <<< 8 ||| c.setWidth 32 <<< 16 ||| d.setWidth 32 <<< 24
/-- Byte i of a word. -/
def byteOf (x : BitVec 32) (i : Nat) : BitVec 8 := (x >>> (i * 8)).setWidth 8

theorem byte0 (a b c d : BitVec 8) : byteOf (word4 a b c d) 0 = a := by
  unfold byteOf word4
  refine BitVec.eq_of_getLsbD_eq fun j hj => ?_
  have h8 : j = 0 ∨ j = 1 ∨ j = 2 ∨ j = 3 ∨ j = 4 ∨ j = 5 ∨ j = 6 ∨ j = 7 := by omega
  rcases h8 with rfl | rfl | rfl | rfl | rfl | rfl | rfl | rfl <;> simp
theorem byte1 (a b c d : BitVec 8) : byteOf (word4 a b c d) 1 = b := by
  unfold byteOf word4
  refine BitVec.eq_of_getLsbD_eq fun j hj => ?_
  have h8 : j = 0 ∨ j = 1 ∨ j = 2 ∨ j = 3 ∨ j = 4 ∨ j = 5 ∨ j = 6 ∨ j = 7 := by omega
  rcases h8 with rfl | rfl | rfl | rfl | rfl | rfl | rfl | rfl <;> simp
theorem byte2 (a b c d : BitVec 8) : byteOf (word4 a b c d) 2 = c := by
  unfold byteOf word4
  refine BitVec.eq_of_getLsbD_eq fun j hj => ?_
  have h8 : j = 0 ∨ j = 1 ∨ j = 2 ∨ j = 3 ∨ j = 4 ∨ j = 5 ∨ j = 6 ∨ j = 7 := by omega
  rcases h8 with rfl | rfl | rfl | rfl | rfl | rfl | rfl | rfl <;> simp
theorem byte3 (a b c d : BitVec 8) : byteOf (word4 a b c d) 3 = d := by
  unfold byteOf word4
  refine BitVec.eq_of_getLsbD_eq fun j hj => ?_
  have h8 : j = 0 ∨ j = 1 ∨ j = 2 ∨ j = 3 ∨ j = 4 ∨ j = 5 ∨ j = 6 ∨ j = 7 := by omega
  rcases h8 with rfl | rfl | rfl | rfl | rfl | rfl | rfl | rfl <;> simp
theorem word_bytes (x : BitVec 32) : word4 (byteOf x 0) (byteOf x 1) (byteOf x 2) (byteOf x 3) = x := by
  unfold byteOf word4
  refine BitVec.eq_of_getLsbD_eq fun j hj => ?_
  have h32 : j = 0 ∨ j = 1 ∨ j = 2 ∨ j = 3 ∨ j = 4 ∨ j = 5 ∨ j = 6 ∨ j = 7 ∨ j = 8 ∨ j = 9 ∨ j = 10 ∨ j = 11 ∨ j = 12 ∨ j = 13 ∨ j = 14 ∨ j = 15 ∨ j = 16 ∨ j = 17 ∨ j = 18 ∨ j = 19 ∨ j = 20 ∨ j = 21 ∨ j = 22 ∨ j = 23 ∨ j = 24 ∨ j = 25 ∨ j = 26 ∨ j = 27 ∨ j = 28 ∨ j = 29 ∨ j = 30 ∨ j = 31 := by omega
  rcases h32 with rfl | rfl | rfl | rfl | rfl | rfl | rfl | rfl | rfl | rfl | rfl | rfl | rfl | rfl | rfl | rfl | rfl | rfl | rfl | rfl | rfl | rfl | rfl | rfl | rfl | rfl | rfl | rfl | rfl | rfl | rfl | rfl <;> simp
theorem list16 {α : Type} {l : List α} (h : l.length = 16) : ∃ a0 a1 a2 a3 a4 a5 a6 a7 a8 a9 a10 a11 a12 a13 a14 a15, l = [a0, a1, a2, a3, a4, a5, a6, a7, a8, a9, a10, a11, a12, a13, a14, a15] := by
  match l, h with
  | [a0, a1, a2, a3, a4, a5, a6, a7, a8, a9, a10, a11, a12, a13, a14, a15], _ => exact ⟨a0, a1, a2, a3, a4, a5, a6, a7, a8, a9, a10, a11, a12, a13, a14, a15, rfl⟩
theorem wordsF_lit (a0 a1 a2 a3 a4 a5 a6 a7 a8 a9 a10 a11 a12 a13 a14 a15 : BitVec 8) :
    wordsF [a0, a1, a2, a3, a4, a5, a6, a7, a8, a9, a10, a11, a12, a13, a14, a15] = [word4 a0 a1 a2 a3, word4 a4 a5 a6 a7, word4 a8 a9 a10 a11, word4 a12 a13 a14 a15] := by
  have h1 : wordsTo [a0, a1, a2, a3, a4, a5, a6, a7, a8, a9, a10, a11, a12, a13, a14, a15] 1 = [(0 ||| a0.setWidth 32 <<< 0 : BitVec 32), (0 : BitVec 32), (0 : BitVec 32), (0 : BitVec 32)] := rfl
  have h2 : wordsTo [a0, a1, a2, a3, a4, a5, a6, a7, a8, a9, a10, a11, a12, a13, a14, a15] 2 = [(0 ||| a0.setWidth 32 <<< 0 ||| a1.setWidth 32 <<< 8 : BitVec 32), (0 : BitVec 32), (0 : BitVec 32), (0 : BitVec 32)] := by rw [wordsTo, h1]; rfl
  have h3 : wordsTo [a0, a1, a2, a3, a4, a5, a6, a7, a8, a9, a10, a11, a12, a13, a14, a15] 3 = [(0 ||| a0.setWidth 32 <<< 0 ||| a1.setWidth 32 <<< 8 ||| a2.setWidth 32 <<< 16 : BitVec 32), (0 : BitVec 32), (0 : BitVec 32), (0 : BitVec 32)] := by rw [wordsTo, h2]; rfl
  have h4 : wordsTo [a0, a1, a2, a3, a4, a5, a6, a7, a8, a9, a10, a11, a12, a13, a14, a15] 4 = [(0 ||| a0.setWidth 32 <<< 0 ||| a1.setWidth 32 <<< 8 ||| a2.setWidth 32 <<< 16 ||| a3.setWidth 32 <<< 24 : BitVec 32), (0 : BitVec 32), (0 : BitVec 32), (0 : BitVec 32)] := by rw [wordsTo, h3]; rfl
  have h5 : wordsTo [a0, a1, a2, a3, a4, a5, a6, a7, a8, a9, a10, a11, a12, a13, a14, a15] 5 = [(0 ||| a0.setWidth 32 <<< 0 ||| a1.setWidth 32 <<< 8 ||| a2.setWidth 32 <<< 16 ||| a3.setWidth 32 <<< 24 : BitVec 32), (0 ||| a4.setWidth 32 <<< 0 : BitVec 32), (0 : BitVec 32), (0 : BitVec 32)] := by rw [wordsTo, h4]; rfl
  have h6 : wordsTo [a0, a1, a2, a3, a4, a5, a6, a7, a8, a9, a10, a11, a12, a13, a14, a15] 6 = [(0 ||| a0.setWidth 32 <<< 0 ||| a1.setWidth 32 <<< 8 ||| a2.setWidth 32 <<< 16 ||| a3.setWidth 32 <<< 24 : BitVec 32), (0 ||| a4.setWidth 32 <<< 0 ||| a5.setWidth 32 <<< 8 : BitVec 32), (0 : BitVec 32), (0 : BitVec 32)] := by rw [wordsTo, h5]; rfl
  have h7 : wordsTo [a0, a1, a2, a3, a4, a5, a6, a7, a8, a9, a10, a11, a12, a13, a14, a15] 7 = [(0 ||| a0.setWidth 32 <<< 0 ||| a1.setWidth 32 <<< 8 ||| a2.setWidth 32 <<< 16 ||| a3.setWidth 32 <<< 24 : BitVec 32), (0 ||| a4.setWidth 32 <<< 0 ||| a5.setWidth 32 <<< 8 ||| a6.setWidth 32 <<< 16 : BitVec 32), (0 : BitVec 32), (0 : BitVec 32)] := by rw [wordsTo, h6]; rfl
  have h8 : wordsTo [a0, a1, a2, a3, a4, a5, a6, a7, a8, a9, a10, a11, a12, a13, a14, a15] 8 = [(0 ||| a0.setWidth 32 <<< 0 ||| a1.setWidth 32 <<< 8 ||| a2.setWidth 32 <<< 16 ||| a3.setWidth 32 <<< 24 : BitVec 32), (0 ||| a4.setWidth 32 <<< 0 ||| a5.setWidth 32 <<< 8 ||| a6.setWidth 32 <<< 16 ||| a7.setWidth 32 <<< 24 : BitVec 32), (0 : BitVec 32), (0 : BitVec 32)] := by rw [wordsTo, h7]; rfl
  have h9 : wordsTo [a0, a1, a2, a3, a4, a5, a6, a7, a8, a9, a10, a11, a12, a13, a14, a15] 9 = [(0 ||| a0.setWidth 32 <<< 0 ||| a1.setWidth 32 <<< 8 ||| a2.setWidth 32 <<< 16 ||| a3.setWidth 32 <<< 24 : BitVec 32), (0 ||| a4.setWidth 32 <<< 0 ||| a5.setWidth 32 <<< 8 ||| a6.setWidth 32 <<< 16 ||| a7.setWidth 32 <<< 24 : BitVec 32), (0 ||| a8.setWidth 32 <<< 0 : BitVec 32), (0 : BitVec 32)] := by rw [wordsTo, h8]; rfl
  have h10 : wordsTo [a0, a1, a2, a3, a4, a5, a6, a7, a8, a9, a10, a11, a12, a13, a14, a15] 10 = [(0 ||| a0.setWidth 32 <<< 0 ||| a1.setWidth 32 <<< 8 ||| a2.setWidth 32 <<< 16 ||| a3.setWidth 32 <<< 24 : BitVec 32), (0 ||| a4.setWidth 32 <<< 0 ||| a5.setWidth 32 <<< 8 ||| a6.setWidth 32 <<< 16 ||| a7.setWidth 32 <<< 24 : BitVec 32), (0 ||| a8.setWidth 32 <<< 0 ||| a9.setWidth 32 <<< 8 : BitVec 32), (0 : BitVec 32)] := by rw [wordsTo, h9]; rfl
  have h11 : wordsTo [a0, a1, a2, a3, a4, a5, a6, a7, a8, a9, a10, a11, a12, a13, a14, a15] 11 = [(0 ||| a0.setWidth 32 <<< 0 ||| a1.setWidth 32 <<< 8 ||| a2.setWidth 32 <<< 16 ||| a3.setWidth 32 <<< 24 : BitVec 32), (0 ||| a4.setWidth 32 <<< 0 ||| a5.setWidth 32 <<< 8 ||| a6.setWidth 32 <<< 16 ||| a7.setWidth 32 <<< 24 : BitVec 32), (0 ||| a8.setWidth 32 <<< 0 ||| a9.setWidth 32 <<< 8 ||| a10.setWidth 32 <<< 16 : BitVec 32), (0 : BitVec 32)] := by rw [wordsTo, h10]; rfl
  have h12 : wordsTo [a0, a1, a2, a3, a4, a5, a6, a7, a8, a9, a10, a11, a12, a13, a14, a15] 12 = [(0 ||| a0.setWidth 32 <<< 0 ||| a1.setWidth 32 <<< 8 ||| a2.setWidth 32 <<< 16 ||| a3.setWidth 32 <<< 24 : BitVec 32), (0 ||| a4.setWidth 32 <<< 0 ||| a5.setWidth 32 <<< 8 ||| a6.setWidth 32 <<< 16 ||| a7.setWidth 32 <<< 24 : BitVec 32), (0 ||| a8.setWidth 32 <<< 0 ||| a9.setWidth 32 <<< 8 ||| a10.setWidth 32 <<< 16 ||| a11.setWidth 32 <<< 24 : BitVec 32), (0 : BitVec 32)] := by rw [wordsTo, h11]; rfl
  have h13 : wordsTo [a0, a1, a2, a3, a4, a5, a6, a7, a8, a9, a10, a11, a12, a13, a14, a15] 13 = [(0 ||| a0.setWidth 32 <<< 0 ||| a1.setWidth 32 <<< 8 ||| a2.setWidth 32 <<< 16 ||| a3.setWidth 32 <<< 24 : BitVec 32), (0 ||| a4.setWidth 32 <<< 0 ||| a5.setWidth 32 <<< 8 ||| a6.setWidth 32 <<< 16 ||| a7.setWidth 32 <<< 24 : BitVec 32), (0 ||| a8.setWidth 32 <<< 0 ||| a9.setWidth 32 <<< 8 ||| a10.setWidth 32 <<< 16 ||| a11.setWidth 32 <<< 24 : BitVec 32), (0 ||| a12.setWidth 32 <<< 0 : BitVec 32)] := by rw [wordsTo, h12]; rfl
  have h14 : wordsTo [a0, a1, a2, a3, a4, a5, a6, a7, a8, a9, a10, a11, a12, a13, a14, a15] 14 = [(0 ||| a0.setWidth 32 <<< 0 ||| a1.setWidth 32 <<< 8 ||| a2.setWidth 32 <<< 16 ||| a3.setWidth 32 <<< 24 : BitVec 32), (0 ||| a4.setWidth 32 <<< 0 ||| a5.setWidth 32 <<< 8 ||| a6.setWidth 32 <<< 16 ||| a7.setWidth 32 <<< 24 : BitVec 32), (0 ||| a8.setWidth 32 <<< 0 ||| a9.setWidth 32 <<< 8 ||| a10.setWidth 32 <<< 16 ||| a11.setWidth 32 <<< 24 : BitVec 32), (0 ||| a12.setWidth 32 <<< 0 ||| a13.setWidth 32 <<< 8 : BitVec 32)] := by rw [wordsTo, h13]; rfl
  have h15 : wordsTo [a0, a1, a2, a3, a4, a5, a6, a7, a8, a9, a10, a11, a12, a13, a14, a15] 15 = [(0 ||| a0.setWidth 32 <<< 0 ||| a1.setWidth 32 <<< 8 ||| a2.setWidth 32 <<< 16 ||| a3.setWidth 32 <<< 24 : BitVec 32), (0 ||| a4.setWidth 32 <<< 0 ||| a5.setWidth 32 <<< 8 ||| a6.setWidth 32 <<< 16 ||| a7.setWidth 32 <<< 24 : BitVec 32), (0 ||| a8.setWidth 32 <<< 0 ||| a9.setWidth 32 <<< 8 ||| a10.setWidth 32 <<< 16 ||| a11.setWidth 32 <<< 24 : BitVec 32), (0 ||| a12.setWidth 32 <<< 0 ||| a13.setWidth 32 <<< 8 ||| a14.setWidth 32 <<< 16 : BitVec 32)] := by rw [wordsTo, h14]; rfl
  have h16 : wordsTo [a0, a1, a2, a3, a4, a5, a6, a7, a8, a9, a10, a11, a12, a13, a14, a15] 16 = [(0 ||| a0.setWidth 32 <<< 0 ||| a1.setWidth 32 <<< 8 ||| a2.setWidth 32 <<< 16 ||| a3.setWidth 32 <<< 24 : BitVec 32), (0 ||| a4.setWidth 32 <<< 0 ||| a5.setWidth 32 <<< 8 ||| a6.setWidth 32 <<< 16 ||| a7.setWidth 32 <<< 24 : BitVec 32), (0 ||| a8.setWidth 32 <<< 0 ||| a9.setWidth 32 <<< 8 ||| a10.setWidth 32 <<< 16 ||| a11.setWidth 32 <<< 24 : BitVec 32), (0 ||| a12.setWidth 32 <<< 0 ||| a13.setWidth 32 <<< 8 ||| a14.setWidth 32 <<< 16 ||| a15.setWidth 32 <<< 24 : BitVec 32)] := by rw [wordsTo, h15]; rfl
  exact h16
theorem joinF_lit (x0 x1 x2 x3 : BitVec 32) : joinF [x0, x1, x2, x3] = [byteOf x0 0, byteOf x0 1, byteOf x0 2, byteOf x0 3, byteOf x1 0, byteOf x1 1, byteOf x1 2, byteOf x1 3, byteOf x2 0, byteOf x2 1, byteOf x2 2, byteOf x2 3, byteOf x3 0, byteOf x3 1, byteOf x3 2, byteOf x3 3] := rfl
theorem words_join (xs : List (BitVec 32)) (h : xs.length = 4) : wordsF (joinF xs) = xs := by
  obtain ⟨x0, x1, x2, x3, rfl⟩ := list4 h
  rw [joinF_lit, wordsF_lit, word_bytes, word_bytes, word_bytes, word_bytes]
theorem join_words (bs : List (BitVec 8)) (h : bs.length = 16) : joinF (wordsF bs) = bs := by
  obtain ⟨a0, a1, a2, a3, a4, a5, a6, a7, a8, a9, a10, a11, a12, a13, a14, a15, rfl⟩ := list16 h
  rw [wordsF_lit, joinF_lit]
  simp only [byte0, byte1, byte2, byte3]
theorem maskF_lit (x0 x1 x2 x3 : BitVec 32) (ws : List (BitVec 32)) : maskF [x0, x1, x2, x3] ws = [x0 ^^^ ws.getD 0 0, x1 ^^^ ws.getD 1 0, x2 ^^^ ws.getD 2 0, x3 ^^^ ws.getD 3 0] := rfl
theorem mask_mask (xs ws : List (BitVec 32)) (h : xs.length = 4) : maskF (maskF xs ws) ws = xs := by
  obtain ⟨x0, x1, x2, x3, rfl⟩ := list4 h
  rw [maskF_lit, maskF_lit]
  simp only [xor_cancel]
theorem dec_enc_to (xs ss : List (BitVec 32)) (h : xs.length = 4) : ∀ k, k ≤ 16 → decTo (encTo xs ss 16) ss k = encTo xs ss (16 - k)
  | 0, _ => rfl
  | k + 1, hk => by
    rw [decTo, dec_enc_to xs ss h k (by omega)]
    have e1 : 16 - k = (15 - k) + 1 := by omega
    have e2 : 36 - 2 * k - 2 = 4 + 2 * (15 - k) := by omega
    have e3 : 36 - 2 * k - 1 = 5 + 2 * (15 - k) := by omega
    rw [e2, e3, e1, encTo, backL_roundL _ (encTo_len xs ss h _)]
    congr 1; omega
theorem enc_dec_to (xs ss : List (BitVec 32)) (h : xs.length = 4) : ∀ k, k ≤ 16 → encTo (decTo xs ss 16) ss k = decTo xs ss (16 - k)
  | 0, _ => rfl
  | k + 1, hk => by
    rw [encTo, enc_dec_to xs ss h k (by omega)]
    have e1 : 16 - k = (15 - k) + 1 := by omega
    have e2 : 36 - 2 * (15 - k) - 2 = 4 + 2 * k := by omega
    have e3 : 36 - 2 * (15 - k) - 1 = 5 + 2 * k := by omega
    rw [e1, decTo, e2, e3, roundL_backL _ (decTo_len xs ss h _)]
    congr 1; omega
/-- Decryption undoes encryption. -/
theorem dec_enc (ks bs : List (BitVec 8)) (h : bs.length = 16) : decF ks (encF ks bs) = bs := by
  unfold decF encF
  rw [words_join _ (encTo_len _ _ (maskF_len _ _ (wordsF_len bs)) 16), dec_enc_to _ _ (maskF_len _ _ (wordsF_len bs)) 16 (Nat.le_refl _)]
  show joinF (maskF (maskF (wordsF bs) (schedF ks)) (schedF ks)) = bs
  rw [mask_mask _ _ (wordsF_len bs), join_words bs h]
theorem enc_dec (ks bs : List (BitVec 8)) (h : bs.length = 16) : encF ks (decF ks bs) = bs := by
  unfold decF encF
  have hd := decTo_len (wordsF bs) (schedF ks) (wordsF_len bs) 16
  rw [words_join _ (maskF_len _ _ hd), mask_mask _ _ hd, enc_dec_to _ _ (wordsF_len bs) 16 (Nat.le_refl _)]
  show joinF (wordsF bs) = bs
  exact join_words bs h
theorem encF_len (ks bs : List (BitVec 8)) : (encF ks bs).length = 16 := joinF_len _
theorem decF_len (ks bs : List (BitVec 8)) : (decF ks bs).length = 16 := joinF_len _
theorem enc_inj (ks a b : List (BitVec 8)) (ha : a.length = 16) (hb : b.length = 16) : encF ks a = encF ks b ↔ a = b :=
  ⟨fun h => by rw [← dec_enc ks a ha, h, dec_enc ks b hb], fun h => by rw [h]⟩
theorem dec_inj (ks a b : List (BitVec 8)) (ha : a.length = 16) (hb : b.length = 16) : decF ks a = decF ks b ↔ a = b :=
  ⟨fun h => by rw [← enc_dec ks a ha, h, enc_dec ks b hb], fun h => by rw [h]⟩
end Go.Proofs.Ytaoaifllllhokaa
