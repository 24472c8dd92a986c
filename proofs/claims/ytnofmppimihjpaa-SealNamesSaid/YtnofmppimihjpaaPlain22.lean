/- Plain laws of chapter 22: what is sealed and opened, byte by byte. -/
import Derived.Test.YtnofmppimihjpaaSealC
namespace Go.Proofs.Ytnofmppimihjpaa

theorem mixTo_at (l xs : List (BitVec 8)) (i : Nat) : ∀ k, k ≤ l.length → (mixTo l xs k).getD i 0 = if i < k then l.getD i 0 ^^^ xs.getD i 0 else l.getD i 0
  | 0, _ => by simp [mixTo]
  | k + 1, hk => by
    have ih := fun i => mixTo_at l xs i k (by omega)
    rw [mixTo]
    simp only [List.getD] at ih ⊢
    rw [List.getElem?_set]
    by_cases h : k = i
    · subst h
      rw [if_pos rfl, if_pos (by rw [mixTo_len]; omega), if_pos (by omega)]
      have := ih k
      rw [if_neg (by omega)] at this
      simp only [Option.getD_some]
      rw [this]
    · rw [if_neg h]
      have := ih i
      rw [this]
      by_cases h2 : i < k
      · rw [if_pos h2, if_pos (by omega)]
      · rw [if_neg h2, if_neg (by omega)]
theorem mixF_at (l xs : List (BitVec 8)) (i : Nat) (h : i < l.length) (h16 : i < 16) : (mixF l xs).getD i 0 = l.getD i 0 ^^^ xs.getD i 0 := by
  rw [mixF, mixTo_at _ _ _ _ (by omega), if_pos (by omega)]
theorem mixF_past (l xs : List (BitVec 8)) (i : Nat) (h16 : 16 ≤ i) : (mixF l xs).getD i 0 = l.getD i 0 := by
  rw [mixF, mixTo_at _ _ _ _ (by omega), if_neg (by omega)]
theorem getD_take (l : List (BitVec 8)) (n i : Nat) (h : i < n) : (l.take n).getD i 0 = l.getD i 0 := by
  simp only [List.getD]; rw [List.getElem?_take, if_pos h]
theorem getD_drop (l : List (BitVec 8)) (n i : Nat) : (l.drop n).getD i 0 = l.getD (n + i) 0 := by
  simp only [List.getD]; rw [List.getElem?_drop]
theorem getD_left (l m : List (BitVec 8)) (i : Nat) (h : i < l.length) : (l ++ m).getD i 0 = l.getD i 0 := by
  simp only [List.getD]; rw [List.getElem?_append_left h]
theorem getD_right (l m : List (BitVec 8)) (i : Nat) (h : l.length ≤ i) : (l ++ m).getD i 0 = m.getD (i - l.length) 0 := by
  simp only [List.getD]; rw [List.getElem?_append_right h]
theorem getD_past (l : List (BitVec 8)) (i : Nat) (h : l.length ≤ i) : l.getD i 0 = 0 := by
  simp only [List.getD]; rw [List.getElem?_eq_none h]; rfl
/-- Two lists of one length that agree at each place. -/
theorem ext_getD {l m : List (BitVec 8)} (hl : l.length = m.length) (h : ∀ i, i < l.length → l.getD i 0 = m.getD i 0) : l = m := by
  refine List.ext_getElem hl fun i h1 h2 => ?_
  have := h i h1
  simpa [List.getD, List.getElem?_eq_getElem h1, List.getElem?_eq_getElem h2] using this
theorem cryptTo_at (ks nc l : List (BitVec 8)) (i : Nat) (hi : i < l.length) : ∀ j, (cryptTo ks nc l j).getD i 0 = if i < 16 * j then l.getD i 0 ^^^ (streamF ks nc (1 + ((i / 16 : Nat) : Int))).getD (i % 16) 0 else l.getD i 0
  | 0 => by simp [cryptTo]
  | j + 1 => by
    have ih := cryptTo_at ks nc l i hi j
    rw [cryptTo]
    by_cases h : i < 16 * j
    · rw [getD_left _ _ _ (by rw [List.length_take, cryptTo_len]; omega), getD_take _ _ _ h, ih, if_pos h, if_pos (by omega)]
    · have hl : ((cryptTo ks nc l j).take (16 * j)).length = 16 * j := by rw [List.length_take, cryptTo_len]; omega
      rw [getD_right _ _ _ (by omega), hl]
      by_cases h2 : i < 16 * (j + 1)
      · rw [mixF_at _ _ _ (by rw [List.length_drop, cryptTo_len]; omega) (by omega), getD_drop, show 16 * j + (i - 16 * j) = i by omega, ih, if_neg h, if_pos h2, show i / 16 = j by omega, show i % 16 = i - 16 * j by omega]
      · rw [mixF_past _ _ _ (by omega), getD_drop, show 16 * j + (i - 16 * j) = i by omega, ih, if_neg h, if_neg h2]
theorem cryptF_at (ks nc l : List (BitVec 8)) (i : Nat) (hi : i < l.length) : (cryptF ks nc l).getD i 0 = l.getD i 0 ^^^ (streamF ks nc (1 + ((i / 16 : Nat) : Int))).getD (i % 16) 0 := by
  rw [cryptF, cryptTo_at ks nc l i hi, if_pos (by omega)]
/-- Decryption undoes encryption. -/
theorem cryptF_cryptF (ks nc l : List (BitVec 8)) : cryptF ks nc (cryptF ks nc l) = l := by
  refine ext_getD (by rw [cryptF_len, cryptF_len]) fun i hi => ?_
  rw [cryptF_len] at hi
  rw [cryptF_at _ _ _ _ hi, cryptF_at _ _ _ _ (by rw [cryptF_len] at hi; exact hi), BitVec.xor_assoc, BitVec.xor_self, BitVec.xor_zero]
theorem cryptF_take (ks nc l : List (BitVec 8)) (n : Nat) : cryptF ks nc (l.take n) = (cryptF ks nc l).take n := by
  refine ext_getD (by rw [cryptF_len, List.length_take, List.length_take, cryptF_len]) fun i hi => ?_
  rw [cryptF_len, List.length_take] at hi
  rw [cryptF_at _ _ _ _ (by rw [List.length_take]; omega), getD_take _ _ _ (by omega), getD_take _ _ _ (by omega), cryptF_at _ _ _ _ (by omega)]
/-- What is opened of what was sealed. -/
theorem openB_sealF (ks nc ad body : List (BitVec 8)) : openB ks nc (sealF ks nc ad body) = body := by
  unfold openB
  rw [sealF_len, Nat.add_sub_cancel, sealF, List.take_left' (cryptF_len _ _ _), cryptF_cryptF]
theorem openOk_sealF (ks nc ad body : List (BitVec 8)) : openOk ks nc ad (sealF ks nc ad body) = true := by
  unfold openOk
  rw [openB_sealF, sealF_len, Nat.add_sub_cancel, sealF, List.drop_left' (cryptF_len _ _ _)]
  simp
/-- A text that is accepted is what is sealed of what was opened. -/
theorem sealF_openB (ks nc ad text : List (BitVec 8)) (h : openOk ks nc ad text = true) : sealF ks nc ad (openB ks nc text) = text := by
  unfold openOk at h
  rw [beq_iff_eq] at h
  rw [sealF, h, openB, cryptF_cryptF, List.take_append_drop]
theorem set_ne (l : List (BitVec 8)) (i : Nat) (x : BitVec 8) (h : i < l.length) (hx : x ≠ l.getD i 0) : l.set i x ≠ l := fun e => by
  have := congrArg (fun m => m.getD i 0) e
  simp only [List.getD, List.getElem?_set, if_pos h, if_true, Option.getD_some] at this
  exact hx this
/-- A change of the last 8 bytes alone is found. -/
theorem openOk_tag (ks nc ad body : List (BitVec 8)) (i : Nat) (x : BitVec 8) (h1 : body.length ≤ i) (h2 : i < body.length + 8) (hx : x ≠ (sealF ks nc ad body).getD i 0) : openOk ks nc ad ((sealF ks nc ad body).set i x) = false := by
  unfold openOk
  rw [beq_eq_false_iff_ne]
  have hl : ((sealF ks nc ad body).set i x).length - 8 = body.length := by rw [List.length_set, sealF_len]; omega
  have hb : openB ks nc ((sealF ks nc ad body).set i x) = body := by
    unfold openB
    rw [hl, List.take_set_of_le h1, sealF, List.take_left' (cryptF_len _ _ _), cryptF_cryptF]
  rw [hb, hl, sealF, List.set_append_right _ _ (by rw [cryptF_len]; omega), List.drop_left' (cryptF_len _ _ _), cryptF_len]
  intro e
  refine set_ne _ _ x ?_ ?_ e.symm
  · rw [tagF_len]; omega
  · rw [sealF, getD_right _ _ _ (by rw [cryptF_len]; omega), cryptF_len] at hx
    exact hx
/-- A text with another body is never accepted as the same body. -/
theorem openB_other (ks nc ad body : List (BitVec 8)) (i : Nat) (x : BitVec 8) (h : i < body.length) (hx : x ≠ (sealF ks nc ad body).getD i 0) : openB ks nc ((sealF ks nc ad body).set i x) ≠ body := by
  have hl : ((sealF ks nc ad body).set i x).length - 8 = body.length := by rw [List.length_set, sealF_len]; omega
  unfold openB
  rw [hl]
  intro e
  have h2 := congrArg (cryptF ks nc) e
  rw [cryptF_cryptF] at h2
  have h3 : (((sealF ks nc ad body).set i x).take body.length).getD i 0 = (cryptF ks nc body).getD i 0 := congrArg (fun m => m.getD i 0) h2
  rw [getD_take _ _ _ h] at h3
  refine hx ?_
  rw [sealF, getD_left _ _ _ (by rw [cryptF_len]; exact h), ← h3]
  simp only [List.getD]
  rw [List.getElem?_set, if_pos rfl, if_pos (by rw [sealF_len]; omega)]
  rfl
theorem sealF_at (ks nc ad body : List (BitVec 8)) (i : Nat) (h : i < body.length) : (sealF ks nc ad body).getD i 0 = body.getD i 0 ^^^ (streamF ks nc (1 + ((i / 16 : Nat) : Int))).getD (i % 16) 0 := by
  rw [sealF, getD_left _ _ _ (by rw [cryptF_len]; exact h), cryptF_at _ _ _ _ h]
/-- Two texts sealed with one key and nonce show the exclusive or of their bodies. -/
theorem seal_reuse (ks nc ad ad' one two : List (BitVec 8)) (i : Nat) (h1 : i < one.length) (h2 : i < two.length) : (sealF ks nc ad one).getD i 0 ^^^ (sealF ks nc ad' two).getD i 0 = one.getD i 0 ^^^ two.getD i 0 := by
  rw [sealF_at _ _ _ _ _ h1, sealF_at _ _ _ _ _ h2]
  generalize one.getD i 0 = a
  generalize two.getD i 0 = b
  generalize (streamF ks nc (1 + ((i / 16 : Nat) : Int))).getD (i % 16) 0 = s
  rw [BitVec.xor_assoc, ← BitVec.xor_assoc s b s, BitVec.xor_comm s b, BitVec.xor_assoc b s s, BitVec.xor_self, BitVec.xor_zero]
end Go.Proofs.Ytnofmppimihjpaa
