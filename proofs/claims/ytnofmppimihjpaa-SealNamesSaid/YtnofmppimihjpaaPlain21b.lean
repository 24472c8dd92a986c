/- Plain laws of chapter 21 for seats without Decrypt: encryption is one to one. -/
import Derived.Test.YtnofmppimihjpaaPlain21
import Derived.Test.YtnofmppimihjpaaComB
namespace Go.Proofs.Ytnofmppimihjpaa
/-- A round undone on a list of four words. -/
def backL (xs : List (BitVec 32)) (p q : BitVec 32) : List (BitVec 32) := backF (xs.getD 0 0) (xs.getD 1 0) (xs.getD 2 0) (xs.getD 3 0) p q
def decTo (xs ws : List (BitVec 32)) : Nat → List (BitVec 32)
  | 0 => xs
  | k + 1 => backL (decTo xs ws k) (ws.getD (36 - 2 * k - 2) 0) (ws.getD (36 - 2 * k - 1) 0)
def decF (ks bs : List (BitVec 8)) : List (BitVec 8) := joinF (maskF (decTo (wordsF bs) (schedF ks) 16) (schedF ks))
theorem backL_roundL (l : List (BitVec 32)) (h : l.length = 4) (a b : BitVec 32) : backL (roundL l a b) a b = l := by
  obtain ⟨x0, x1, x2, x3, rfl⟩ := list4 h
  exact back_round x0 x1 x2 x3 a b
theorem dec_enc_to (xs ss : List (BitVec 32)) (h : xs.length = 4) : ∀ k, k ≤ 16 → decTo (encTo xs ss 16) ss k = encTo xs ss (16 - k)
  | 0, _ => rfl
  | k + 1, hk => by
    rw [decTo, dec_enc_to xs ss h k (by omega)]
    have e1 : 16 - k = (15 - k) + 1 := by omega
    have e2 : 36 - 2 * k - 2 = 4 + 2 * (15 - k) := by omega
    have e3 : 36 - 2 * k - 1 = 5 + 2 * (15 - k) := by omega
    rw [e2, e3, e1, encTo, backL_roundL _ (encTo_len xs ss h _)]
    congr 1; omega
/-- Decryption undoes encryption. -/
theorem dec_enc (ks bs : List (BitVec 8)) (h : bs.length = 16) : decF ks (encF ks bs) = bs := by
  unfold decF encF
  rw [words_join _ (encTo_len _ _ (maskF_len _ _ (wordsF_len bs)) 16), dec_enc_to _ _ (maskF_len _ _ (wordsF_len bs)) 16 (Nat.le_refl _)]
  show joinF (maskF (maskF (wordsF bs) (schedF ks)) (schedF ks)) = bs
  rw [mask_mask _ _ (wordsF_len bs), join_words bs h]
theorem enc_inj (ks a b : List (BitVec 8)) (ha : a.length = 16) (hb : b.length = 16) : encF ks a = encF ks b ↔ a = b :=
  ⟨fun h => by rw [← dec_enc ks a ha, h, dec_enc ks b hb], fun h => by rw [h]⟩
end Go.Proofs.Ytnofmppimihjpaa
