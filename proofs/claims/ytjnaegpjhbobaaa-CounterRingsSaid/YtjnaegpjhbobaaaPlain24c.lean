/- Plain laws on rings: what keeps a ring valid. -/
import Derived.Test.YtjnaegpjhbobaaaRingE
import Derived.Test.YtjnaegpjhbobaaaPlain24
namespace Go.Proofs.Ytjnaegpjhbobaaa
open Go.RowKit
theorem uniq_nodup (ks : Keys16) : uniqB ks = true ↔ ks.Nodup := by
  unfold uniqB uniqTo
  rw [List.all_eq_true]
  constructor
  · intro h
    unfold List.Nodup
    rw [List.pairwise_iff_getElem]
    intro i j hi hj hij he
    have h1 := h j (List.mem_range.2 hj)
    simp only [Bool.not_eq_true', List.contains_eq_mem, decide_eq_false_iff_not, List.getD, List.getElem?_eq_getElem hj, Option.getD_some] at h1
    refine h1 ?_
    rw [← he]
    exact List.mem_of_getElem? (i := i) (by rw [List.getElem?_take, if_pos hij, List.getElem?_eq_getElem hi])
  · intro h j hj
    have hj' := List.mem_range.1 hj
    simp only [Bool.not_eq_true', List.contains_eq_mem, decide_eq_false_iff_not, List.getD, List.getElem?_eq_getElem hj', Option.getD_some]
    intro hm
    obtain ⟨i, hi⟩ := List.getElem?_of_mem hm
    rw [List.getElem?_take] at hi
    split at hi
    · rename_i hij
      obtain ⟨hil, he⟩ := List.getElem?_eq_some_iff.1 hi
      exact (List.pairwise_iff_getElem.1 h) i j hil hj' hij he
    · cases hi
/-- Two slots with keys in use have different keys. -/
def Apart (l : List Slot) : Prop := ∀ (i j : Nat) (a b : Slot), i < j → l[i]? = some a → l[j]? = some b → goodB a = true → goodB b = true → a.key ≠ b.key
theorem keysF_nodup (l : List Slot) : (keysF l).Nodup ↔ Apart l := by
  unfold keysF List.Nodup Apart
  rw [List.pairwise_map, List.pairwise_filter, List.pairwise_iff_getElem]
  constructor
  · intro h i j a b hij ha hb
    obtain ⟨hi, rfl⟩ := List.getElem?_eq_some_iff.1 ha
    obtain ⟨hj, rfl⟩ := List.getElem?_eq_some_iff.1 hb
    exact h i j hi hj hij
  · intro h i j hi hj hij
    exact h i j _ _ hij (List.getElem?_eq_getElem hi) (List.getElem?_eq_getElem hj)
structure RingOk (l : List Slot) (ks : Keys16) : Prop where
  ok : ∀ s ∈ l, okB s = true
  apart : Apart l
  len : ks.length ≤ 16
  nodup : ks.Nodup
theorem ringOk_iff (l : List Slot) (ks : Keys16) : checkRingF l ks = 0 ↔ RingOk l ks := by
  unfold checkRingF
  have e : (l.all okB && uniqB (keysF l) && decide (ks.length ≤ 16) && uniqB ks) = true ↔ RingOk l ks := by
    simp only [Bool.and_eq_true, List.all_eq_true, decide_eq_true_eq, uniq_nodup, keysF_nodup]
    exact ⟨fun ⟨⟨⟨h1, h2⟩, h3⟩, h4⟩ => ⟨h1, h2, h3, h4⟩, fun ⟨h1, h2, h3, h4⟩ => ⟨⟨⟨h1, h2⟩, h3⟩, h4⟩⟩
  by_cases h : (l.all okB && uniqB (keysF l) && decide (ks.length ≤ 16) && uniqB ks) = true
  · rw [if_pos h]; exact ⟨fun _ => e.1 h, fun _ => rfl⟩
  · rw [if_neg h]; exact ⟨(fun h2 => by cases h2), fun h2 => absurd (e.2 h2) h⟩
theorem atF_ok {l : List Slot} {ks : Keys16} {slot : Int} (h : atF l ks slot = 0) : RingOk l ks ∧ 0 ≤ slot ∧ slot < 4 := by
  rcases atF_cases l ks slot with h2 | h2 | ⟨_, h3, h4⟩
  · rw [h2] at h; cases h
  · rw [h2] at h; cases h
  · refine ⟨(ringOk_iff l ks).1 ?_, h3, h4⟩
    rcases checkRingF_cases l ks with h5 | h5
    · simp [atF, h5] at h
    · exact h5
theorem atF_of {l : List Slot} {ks : Keys16} {slot : Int} (h : RingOk l ks) (h3 : 0 ≤ slot) (h4 : slot < 4) : atF l ks slot = 0 := by
  unfold atF
  rw [(ringOk_iff l ks).2 h, if_neg (by decide), if_neg (by omega)]
theorem RingOk.set {l : List Slot} {ks ks' : Keys16} (h : RingOk l ks) (j : Nat) (s : Slot) (hs : okB s = true) (ha : goodB s = true → ∀ (i : Nat) (a : Slot), i ≠ j → l[i]? = some a → goodB a = true → a.key ≠ s.key) (h16 : ks'.length ≤ 16) (hn : ks'.Nodup) : RingOk (l.set j s) ks' := by
  refine ⟨fun q hq => ?_, fun i i' a b hii hia hib hga hgb => ?_, h16, hn⟩
  · rcases List.mem_or_eq_of_mem_set hq with hq | rfl
    · exact h.ok q hq
    · exact hs
  · rw [List.getElem?_set] at hia hib
    by_cases h1 : j = i
    · subst h1
      rw [if_pos rfl] at hia
      rw [if_neg (by omega)] at hib
      split at hia
      · cases hia; exact fun e => ha hga i' b (by omega) hib hgb e.symm
      · cases hia
    · rw [if_neg h1] at hia
      by_cases h2 : j = i'
      · subst h2
        rw [if_pos rfl] at hib
        split at hib
        · cases hib; exact ha hgb i a (by omega) hia hga
        · cases hib
      · rw [if_neg h2] at hib
        exact h.apart i i' a b hii hia hib hga hgb
theorem goodB_used {s : Slot} (h : goodB s = true) : s.used = true := by unfold goodB at h; simp at h; exact h.1
theorem okB_used {s : Slot} (h : okB s = true) (hu : s.used = true) : goodB s = true := by
  unfold okB at h
  rw [Bool.or_eq_true] at h
  rcases h with h | h
  · exact h
  · rw [slotEq_iff] at h; subst h; cases hu
theorem heldIn_not {l : List Slot} {k : List (BitVec 8)} (h : heldIn l k = false) {i : Nat} {a : Slot} (ha : l[i]? = some a) (hg : goodB a = true) : a.key ≠ k := by
  intro e
  have : heldIn l k = true := by
    unfold heldIn
    rw [List.any_eq_true]
    exact ⟨a, List.mem_of_getElem? ha, by simp [heldB, goodB_used hg, e]⟩
  rw [h] at this; cases this
theorem odd_zero : oddAt zeroWs = false := by decide +kernel
theorem checkF_zero (a : Int) (h0 : 0 ≤ a) (h1 : a ≤ 281474976710655) : checkF a zeroWs = 0 := checkF_of zeroWs odd_zero a h0 h1
theorem good_new (k : List (BitVec 8)) (a : Int) (h0 : 0 ≤ a) (h1 : a ≤ 281474976710655) : goodB ⟨true, k, a, zeroWs⟩ = true := by simp [goodB, checkF_zero a h0 h1]
theorem okB_good {s : Slot} (h : goodB s = true) : okB s = true := by simp [okB, h]
theorem lastF_ok (ks : Keys16) (k : List (BitVec 8)) (h16 : ks.length ≤ 16) (hn : ks.Nodup) (hk : ks.contains k = false) : (lastF (ks ++ [k])).length ≤ 16 ∧ (lastF (ks ++ [k])).Nodup := by
  have hnk : (ks ++ [k]).Nodup := by
    rw [List.nodup_append]
    refine ⟨hn, by simp, fun a ha b hb => ?_⟩
    have hb' : b = k := by simpa using hb
    rw [hb']
    intro e
    subst e
    simp [List.contains_eq_mem] at hk
    exact hk ha
  unfold lastF
  split
  · exact ⟨by simp; omega, hnk.sublist (List.drop_sublist _ _)⟩
  · exact ⟨by omega, hnk⟩
theorem install_ok {l : List Slot} {ks : Keys16} {slot : Int} {k : List (BitVec 8)} {r : List Slot × Keys16} (h : installF l ks slot k = (r, 0)) : RingOk l ks ∧ 0 ≤ slot ∧ slot < 4 ∧ ks.contains k = false ∧ heldIn l k = false ∧ r = (l.set slot.toNat (newSlot k), lastF (ks ++ [k])) ∧ RingOk r.1 r.2 := by
  unfold installF at h
  by_cases ha : atF l ks slot = 0
  · rw [if_pos ha] at h
    obtain ⟨hok, h0, h4⟩ := atF_ok ha
    cases hc : ks.contains k with
    | true => rw [hc] at h; simp [badR] at h
    | false =>
      cases hh : heldIn l k with
      | true => rw [hc, hh] at h; simp [badR] at h
      | false =>
        rw [hc, hh] at h
        simp at h
        obtain ⟨h1, h2⟩ := lastF_ok ks k hok.len hok.nodup hc
        refine ⟨hok, h0, h4, rfl, rfl, h.symm, ?_⟩
        rw [← h]
        exact hok.set _ _ (okB_good (good_new k 0 (by omega) (by omega))) (fun _ i a hne hia hga => heldIn_not hh hia hga) h1 h2
  · rw [if_neg ha] at h
    simp [badR] at h
    exact absurd h.2 ha
/-- A slot with a key from which i numbers were sent. -/
def sentSlot (k : List (BitVec 8)) (i : Nat) : Slot := ⟨true, k, (i : Int), zeroWs⟩
theorem RingOk.sent {l : List Slot} {ks : Keys16} {j : Nat} {k : List (BitVec 8)} {i : Nat} (h : RingOk (l.set j (sentSlot k i)) ks) (hj : j < l.length) (i' : Nat) (hi' : (i' : Int) ≤ 281474976710655) : RingOk (l.set j (sentSlot k i')) ks := by
  have e : (l.set j (sentSlot k i)).set j (sentSlot k i') = l.set j (sentSlot k i') := List.set_set ..
  rw [← e]
  have hjs : (l.set j (sentSlot k i))[j]? = some (sentSlot k i) := by rw [List.getElem?_set, if_pos rfl, if_pos hj]
  have hg0 : goodB (sentSlot k i) = true := okB_used (h.ok _ (List.mem_of_getElem? hjs)) rfl
  refine h.set _ _ (okB_good (good_new k i' (by omega) hi')) (fun _ m a hne hm hga => ?_) h.len h.nodup
  have hk : (sentSlot k i).key = k := rfl
  show a.key ≠ k
  rcases Nat.lt_or_gt_of_ne hne with hlt | hlt
  · have := h.apart m j a _ hlt hm hjs hga hg0; rwa [hk] at this
  · have := h.apart j m _ a hlt hjs hm hg0 hga; rw [hk] at this; exact fun e => this e.symm
theorem send_sent {l : List Slot} {ks : Keys16} {j : Nat} {k : List (BitVec 8)} {i : Nat} (h : RingOk (l.set j (sentSlot k i)) ks) (hj : j < 4) (hl : l.length = 4) (hi : (i : Int) < 281474976710655) :
    sendF (l.set j (sentSlot k i)) ks j = ⟨k, (i : Int) + 1, l.set j (sentSlot k (i + 1)), ks, 0⟩ := by
  have hjs : (l.set j (sentSlot k i))[j]? = some (sentSlot k i) := by rw [List.getElem?_set, if_pos rfl, if_pos (by omega)]
  have hn : nextF (i : Int) zeroWs = ((i : Int) + 1, ((i : Int) + 1, zeroWs), 0) := by
    unfold nextF
    rw [checkF_zero _ (by omega) (by omega), if_neg (by decide), if_neg (by unfold most; omega)]
  unfold sendF
  rw [atF_of h (by omega) (by omega), if_pos rfl, Int.toNat_natCast, hjs]
  simp only [sentSlot, hn, if_true, setCtr, List.set_set]
  rfl
end Go.Proofs.Ytjnaegpjhbobaaa
