/- Plain laws for CounterOnce: what was used with a key is never used again. -/
import Derived.Test.YtjnaegpjhbobaaaPlain24c
namespace Go.Proofs.Ytjnaegpjhbobaaa
open Go.RowKit
theorem rej_iff (t : Int) (s : BitVec 64) (x : Int) : (takeF t s x).2 = false ↔ x ≤ t ∧ (x = t ∨ 63 < t - 1 - x ∨ s.getLsbD (t - 1 - x).toNat = true) := by
  unfold takeF
  by_cases h1 : t < x
  · rw [if_pos h1]
    constructor
    · intro h; split at h
      · split at h <;> cases h
      · cases h
    · rintro ⟨h2, _⟩; omega
  · rw [if_neg h1]
    by_cases h2 : t - 1 - x < 0
    · rw [if_pos h2]; exact ⟨fun _ => ⟨by omega, .inl (by omega)⟩, fun _ => rfl⟩
    · rw [if_neg h2]
      by_cases h3 : 63 < t - 1 - x
      · rw [if_pos h3]; exact ⟨fun _ => ⟨by omega, .inr (.inl h3)⟩, fun _ => rfl⟩
      · rw [if_neg h3]
        by_cases h4 : (s >>> (t - 1 - x).toNat &&& 1#64 == 1#64) = true
        · rw [if_pos h4]; rw [bit_test] at h4; exact ⟨fun _ => ⟨by omega, .inr (.inr h4)⟩, fun _ => rfl⟩
        · rw [if_neg h4]; rw [bit_test] at h4
          constructor
          · intro h; cases h
          · rintro ⟨_, h5 | h5 | h5⟩
            · omega
            · omega
            · exact absurd h5 h4
/-- What is rejected stays rejected. -/
theorem rej_mono (t : Int) (s : BitVec 64) (x n : Int) (h0 : 0 ≤ t) (hx : 1 ≤ x) (hr : (takeF t s x).2 = false) (hn : (takeF t s n).2 = true) : (takeF (takeF t s n).1.1 (takeF t s n).1.2 x).2 = false := by
  obtain ⟨hle, hc⟩ := (rej_iff t s x).1 hr
  by_cases h3 : t < n
  · by_cases h4 : n - t ≤ 64
    · have h5 : 0 < t := by omega
      have e : takeF t s n = ((n, s <<< (n - t).toNat ||| 1#64 <<< ((n - t).toNat - 1)), true) := by unfold takeF; rw [if_pos h3, if_pos h4, if_pos h5]
      rw [e]
      dsimp only
      rw [rej_iff]
      refine ⟨by omega, .inr ?_⟩
      by_cases h6 : 63 < n - 1 - x
      · exact .inl h6
      · right
        rw [BitVec.getLsbD_or, shl_bit, one_shl _ _ (by omega)]
        by_cases hxt : x = t
        · subst hxt
          have : (n - 1 - x).toNat = (n - x).toNat - 1 := by omega
          simp [this]
        · rcases hc with hc | hc | hc
          · exact absurd hc hxt
          · omega
          · have e2 : (n - 1 - x).toNat - (n - t).toNat = (t - 1 - x).toNat := by omega
            rw [e2, hc]
            have h7 : (n - 1 - x).toNat < 64 := by omega
            have h8 : (n - t).toNat ≤ (n - 1 - x).toNat := by omega
            simp [h7, h8]
    · have e : takeF t s n = ((n, 0#64), true) := by unfold takeF; rw [if_pos h3, if_neg h4]
      rw [e]
      dsimp only
      rw [rej_iff]
      exact ⟨by omega, .inr (.inl (by omega))⟩
  · have h4 : ¬ t - 1 - n < 0 := fun h => by
      have : takeF t s n = ((t, s), false) := by unfold takeF; rw [if_neg h3, if_pos h]
      rw [this] at hn; cases hn
    have h5 : ¬ 63 < t - 1 - n := fun h => by
      have : takeF t s n = ((t, s), false) := by unfold takeF; rw [if_neg h3, if_neg h4, if_pos h]
      rw [this] at hn; cases hn
    have h6 : ¬ (s >>> (t - 1 - n).toNat &&& 1#64 == 1#64) = true := fun h => by
      have : takeF t s n = ((t, s), false) := by unfold takeF; rw [if_neg h3, if_neg h4, if_neg h5, if_pos h]
      rw [this] at hn; cases hn
    have e : takeF t s n = ((t, s ||| 1#64 <<< (t - 1 - n).toNat), true) := by unfold takeF; rw [if_neg h3, if_neg h4, if_neg h5, if_neg h6]
    rw [e]
    dsimp only
    rw [rej_iff]
    refine ⟨hle, ?_⟩
    rcases hc with hc | hc | hc
    · exact .inl hc
    · exact .inr (.inl hc)
    · exact .inr (.inr (by rw [BitVec.getLsbD_or, hc]; rfl))
/-- A number used with a key. -/
structure Usd where
  key : List (BitVec 8)
  tid : Int
  num : Int
def usdEq (a b : Usd) : Bool := a.key == b.key && (a.tid == b.tid && a.num == b.num)
theorem usdEq_iff (a b : Usd) : usdEq a b = true ↔ a = b := by
  cases a; cases b
  simp [usdEq]
def hasF (l : List Usd) (u : Usd) : Bool := l.any fun x => usdEq x u
theorem hasF_not {l : List Usd} {u : Usd} (h : u ∉ l) : hasF l u = false := by
  unfold hasF
  rw [List.any_eq_false]
  intro x hx he
  rw [usdEq_iff] at he
  exact h (he ▸ hx)
/-- What holds along the script as long as no key is forgotten. -/
structure Once (l : List Slot) (ks : Keys16) (sent got : List Usd) (inst : Nat) : Prop where
  ok : RingOk l ks
  len : ks.length = inst
  held : ∀ s ∈ l, s.used = true → s.key ∈ ks
  sentK : ∀ u ∈ sent, u.key ∈ ks ∧ u.key.length = 16
  sentN : ∀ u ∈ sent, ∀ s ∈ l, s.used = true → s.key = u.key → u.num ≤ s.last
  gotK : ∀ u ∈ got, u.key ∈ ks ∧ u.key.length = 16
  gotN : ∀ u ∈ got, ∀ s ∈ l, s.used = true → s.key = u.key → 0 ≤ u.tid ∧ 1 ≤ u.num ∧ ∃ x, s.wins[u.tid.toNat]? = some x ∧ (takeF x.1 x.2 u.num).2 = false
theorem Once.start : Once zeroSs [] [] [] 0 := by
  refine ⟨(ringOk_iff _ _).1 (by kernel_rfl), rfl, ?_, ?_, ?_, ?_, ?_⟩
  · intro s hs hu; simp [zeroSs] at hs; subst hs; cases hu
  all_goals intro u hu; cases hu
theorem Once.install {l : List Slot} {ks : Keys16} {sent got : List Usd} {inst : Nat} (h : Once l ks sent got inst) (hi : inst < 16) {slot : Int} {k : List (BitVec 8)} {r : List Slot × Keys16} (hr : installF l ks slot k = (r, 0)) : Once r.1 r.2 sent got (inst + 1) := by
  obtain ⟨_, h0, h4, hc, hh, rfl, hok⟩ := install_ok hr
  have hl : lastF (ks ++ [k]) = ks ++ [k] := by unfold lastF; rw [if_neg (by simp; have := h.len; omega)]
  rw [hl] at hok ⊢
  have hnk : k ∉ ks := by simpa [List.contains_eq_mem] using hc
  have hcase : ∀ s ∈ l.set slot.toNat (newSlot k), s ∈ l ∨ s = newSlot k := fun s hs => List.mem_or_eq_of_mem_set hs
  refine ⟨hok, by simp [h.len], fun s hs hu => ?_, fun u hu => ⟨by simp [(h.sentK u hu).1], (h.sentK u hu).2⟩, fun u hu s hs hsu hk => ?_, fun u hu => ⟨by simp [(h.gotK u hu).1], (h.gotK u hu).2⟩, fun u hu s hs hsu hk => ?_⟩
  · rcases hcase s hs with hs | rfl
    · simp [h.held s hs hu]
    · simp [newSlot]
  · rcases hcase s hs with hs | rfl
    · exact h.sentN u hu s hs hsu hk
    · exact absurd ((h.sentK u hu).1) (hk ▸ hnk)
  · rcases hcase s hs with hs | rfl
    · exact h.gotN u hu s hs hsu hk
    · exact absurd ((h.gotK u hu).1) (hk ▸ hnk)
theorem Once.drop {l : List Slot} {ks : Keys16} {sent got : List Usd} {inst : Nat} (h : Once l ks sent got inst) {slot : Int} {r : List Slot × Keys16} (hr : dropF l ks slot = (r, 0)) : Once r.1 r.2 sent got inst := by
  unfold dropF at hr
  by_cases ha : atF l ks slot = 0
  · rw [if_pos ha] at hr
    obtain ⟨hok, h0, h4⟩ := atF_ok ha
    split at hr
    · split at hr
      · obtain rfl : (l.set slot.toNat s0, ks) = r := by simpa using hr
        have hcase : ∀ s ∈ l.set slot.toNat s0, s.used = true → s ∈ l := fun s hs hu => by
          rcases List.mem_or_eq_of_mem_set hs with hs | rfl
          · exact hs
          · cases hu
        exact ⟨h.ok.set _ _ (by decide +kernel) (fun hg => by cases goodB_used hg) h.ok.len h.ok.nodup, h.len, fun s hs hu => h.held s (hcase s hs hu) hu, h.sentK, fun u hu s hs hsu hk => h.sentN u hu s (hcase s hs hsu) hsu hk, h.gotK, fun u hu s hs hsu hk => h.gotN u hu s (hcase s hs hsu) hsu hk⟩
      · simp [badR] at hr
    · simp [badR] at hr
  · rw [if_neg ha] at hr; simp [badR] at hr; exact absurd hr.2 ha
/-- Two slots in use with one key are one. -/
theorem RingOk.one {l : List Slot} {ks : Keys16} (h : RingOk l ks) {i j : Nat} {a b : Slot} (ha : l[i]? = some a) (hb : l[j]? = some b) (hua : a.used = true) (hub : b.used = true) (hk : a.key = b.key) : i = j := by
  have hga := okB_used (h.ok a (List.mem_of_getElem? ha)) hua
  have hgb := okB_used (h.ok b (List.mem_of_getElem? hb)) hub
  rcases Nat.lt_trichotomy i j with h1 | h1 | h1
  · exact absurd hk (h.apart i j a b h1 ha hb hga hgb)
  · exact h1
  · exact absurd hk.symm (h.apart j i b a h1 hb ha hgb hga)
theorem RingOk.ctr {l : List Slot} {ks : Keys16} (h : RingOk l ks) {j : Nat} {s : Slot} (hj : l[j]? = some s) (hu : s.used = true) (a : Int) (m : List Win) (hc : checkF a m = 0) : RingOk (l.set j (setCtr s a m)) ks := by
  refine h.set _ _ (okB_good (by simp [goodB, setCtr, hu, hc])) (fun _ i b hne hb hgb => fun e => hne (h.one hb hj (goodB_used hgb) hu e)) h.len h.nodup
theorem checkF_parts {a : Int} {l : List Win} (h : checkF a l = 0) : 0 ≤ a ∧ a ≤ 281474976710655 ∧ oddAt l = false := by
  have h2 := checkF_odd a l h
  unfold checkF most at h
  split at h
  · cases h
  · rename_i hn; exact ⟨by omega, by omega, h2⟩
theorem Once.send {l : List Slot} {ks : Keys16} {sent got : List Usd} {inst : Nat} (h : Once l ks sent got inst) (h16 : ∀ s ∈ l, s.Ok) {slot : Int} (hr : (sendF l ks slot).err = 0) :
    (⟨(sendF l ks slot).key, 0, (sendF l ks slot).num⟩ : Usd) ∉ sent ∧ Once (sendF l ks slot).slots (sendF l ks slot).past (sent ++ [⟨(sendF l ks slot).key, 0, (sendF l ks slot).num⟩]) got inst ∧ (sendF l ks slot).key.length = 16 := by
  by_cases ha : atF l ks slot = 0
  case neg =>
    have e : sendF l ks slot = badS (atF l ks slot) := by unfold sendF; rw [if_neg ha]
    rw [e] at hr
    exact absurd hr ha
  obtain ⟨hok, h0, h4⟩ := atF_ok ha
  cases hj : l[slot.toNat]? with
  | none =>
    have e : sendF l ks slot = badS 2 := by unfold sendF; rw [if_pos ha, hj]
    rw [e] at hr; cases hr
  | some s =>
    cases hu : s.used with
    | false =>
      have e : sendF l ks slot = badS 30 := by unfold sendF; rw [if_pos ha, hj]; simp [hu]
      rw [e] at hr; cases hr
    | true =>
      have e0 : sendF l ks slot = if (nextF s.last s.wins).2.2 = 0 then ⟨s.key, (nextF s.last s.wins).1, l.set slot.toNat (setCtr s (nextF s.last s.wins).2.1.1 (nextF s.last s.wins).2.1.2), ks, 0⟩ else badS (nextF s.last s.wins).2.2 := by unfold sendF; rw [if_pos ha, hj]; simp [hu]
      rcases nextF_cases s.last s.wins with hn | hn | hn
      · rw [hn, if_neg (by decide)] at e0; rw [e0] at hr; cases hr
      · rw [hn, if_neg (by decide)] at e0; rw [e0] at hr; cases hr
      · rw [hn, if_pos rfl] at e0
        rw [e0]
        dsimp only
        have hc : checkF s.last s.wins = 0 ∧ s.last ≠ most := by
          unfold nextF at hn
          split at hn
          · have h9 := congrArg (fun z => z.2.2) hn
            simp at h9
          · rename_i h1
            split at hn
            · have h9 := congrArg (fun z => z.2.2) hn
              simp at h9
            · rename_i h2
              exact ⟨(checkF_cases s.last s.wins).resolve_left h1, h2⟩
        obtain ⟨c0, c1, c2⟩ := checkF_parts hc.1
        have hlast : s.last + 1 ≤ 281474976710655 := by have := hc.2; unfold most at this; omega
        have hc' : checkF (s.last + 1) s.wins = 0 := checkF_of _ c2 _ (by omega) hlast
        have hsm := List.mem_of_getElem? hj
        refine ⟨fun hm => ?_, ⟨h.ok.ctr hj hu _ _ hc', h.len, fun q hq hqu => ?_, fun u hum => ?_, fun u hum q hq hqu hk => ?_, h.gotK, fun u hum q hq hqu hk => ?_⟩, (h16 s hsm).1⟩
        · have := h.sentN _ hm s hsm hu rfl
          simp at this; omega
        · rcases List.mem_or_eq_of_mem_set hq with hq | rfl
          · exact h.held q hq hqu
          · exact h.held s hsm hu
        · rcases List.mem_append.1 hum with hum | hum
          · exact h.sentK u hum
          · simp at hum; subst hum; exact ⟨h.held s hsm hu, (h16 s hsm).1⟩
        · rcases List.mem_append.1 hum with hum | hum
          · rcases List.mem_or_eq_of_mem_set hq with hq | rfl
            · exact h.sentN u hum q hq hqu hk
            · have := h.sentN u hum s hsm hu hk
              simp only [setCtr]; omega
          · simp at hum; subst hum
            obtain ⟨i, hi⟩ := List.getElem?_of_mem hq
            rw [List.getElem?_set] at hi
            split at hi
            · split at hi
              · cases hi; simp [setCtr]
              · cases hi
            · rename_i hne
              exact absurd (h.ok.one hi hj hqu hu hk) (fun e => hne e.symm)
        · rcases List.mem_or_eq_of_mem_set hq with hq | rfl
          · exact h.gotN u hum q hq hqu hk
          · exact h.gotN u hum s hsm hu hk
theorem accept_ok {a : Int} {l : List Win} {tid n : Int} {r : Int × List Win} (h : acceptF a l tid n = (r, 0)) : checkF a l = 0 ∧ 0 ≤ tid ∧ tid ≤ 8 ∧ 1 ≤ n ∧ n ≤ 281474976710655 ∧ ∃ x, l[tid.toNat]? = some x ∧ (takeF x.1 x.2 n).2 = true ∧ r = (a, l.set tid.toNat (takeF x.1 x.2 n).1) := by
  unfold acceptF at h
  split at h
  · cases h
  · rename_i h1
    split at h
    · cases h
    · rename_i h2
      unfold most at h2
      refine ⟨(checkF_cases a l).resolve_left h1, by omega, by omega, by omega, by omega, ?_⟩
      split at h
      · cases h
      · rename_i x hx
        split at h
        · rename_i ht; cases h; exact ⟨x, hx, ht, rfl⟩
        · cases h
theorem Once.receive {l : List Slot} {ks : Keys16} {sent got : List Usd} {inst : Nat} (h : Once l ks sent got inst) (h16 : ∀ s ∈ l, s.Ok) {slot tid n : Int} {r : List Slot × Keys16} (hr : receiveF l ks slot tid n = (r, 0)) :
    0 ≤ slot ∧ slot < 4 ∧ ∃ s, l[slot.toNat]? = some s ∧ s.key.length = 16 ∧ (⟨s.key, tid, n⟩ : Usd) ∉ got ∧ Once r.1 r.2 sent (got ++ [⟨s.key, tid, n⟩]) inst := by
  by_cases ha : atF l ks slot = 0
  case neg =>
    unfold receiveF at hr
    rw [if_neg ha] at hr; simp [badR] at hr; exact absurd hr.2 ha
  obtain ⟨hok, h0, h4⟩ := atF_ok ha
  refine ⟨h0, h4, ?_⟩
  unfold receiveF at hr
  rw [if_pos ha] at hr
  cases hj : l[slot.toNat]? with
  | none => rw [hj] at hr; simp [badR] at hr
  | some s =>
    rw [hj] at hr
    cases hu : s.used with
    | false => simp [hu, badR] at hr
    | true =>
      simp only [hu, if_true] at hr
      by_cases he : (acceptF s.last s.wins tid n).2 = 0
      case neg =>
        rw [if_neg he] at hr; simp [badR] at hr; exact absurd hr.2 he
      rw [if_pos he] at hr
      obtain ⟨q, hq⟩ : ∃ q, acceptF s.last s.wins tid n = (q, 0) := ⟨_, Prod.ext rfl he⟩
      obtain ⟨hc, t0, t8, n1, n2, x, hx, htk, rfl⟩ := accept_ok hq
      rw [hq] at hr
      obtain rfl : (l.set slot.toNat (setCtr s s.last (s.wins.set tid.toNat (takeF x.1 x.2 n).1)), ks) = r := by simpa using hr
      obtain ⟨c0, c1, c2⟩ := checkF_parts hc
      have hxv := checkF_validB s.last s.wins hc tid.toNat x hx
      obtain ⟨kv, kr, _⟩ := take_keeps x.1 x.2 n hxv n1 n2 htk
      have hx0 := (validB_top x.1 x.2 hxv).1
      have hc' : checkF s.last (s.wins.set tid.toNat (takeF x.1 x.2 n).1) = 0 := checkF_of _ (oddAt_set _ _ _ c2 kv) _ c0 c1
      have hsm := List.mem_of_getElem? hj
      have hwl := (List.getElem?_eq_some_iff.1 hx).1
      refine ⟨s, rfl, (h16 s hsm).1, fun hm => ?_, ⟨h.ok.ctr hj hu _ _ hc', h.len, fun q hq hqu => ?_, h.sentK, fun u hum q hq hqu hk => ?_, fun u hum => ?_, fun u hum q hq hqu hk => ?_⟩⟩
      · obtain ⟨_, _, y, hy, hyr⟩ := h.gotN _ hm s hsm hu rfl
        dsimp only at hy hyr
        rw [hx] at hy
        cases hy
        rw [htk] at hyr; cases hyr
      · rcases List.mem_or_eq_of_mem_set hq with hq | rfl
        · exact h.held q hq hqu
        · exact h.held s hsm hu
      · rcases List.mem_or_eq_of_mem_set hq with hq | rfl
        · exact h.sentN u hum q hq hqu hk
        · exact h.sentN u hum s hsm hu hk
      · rcases List.mem_append.1 hum with hum | hum
        · exact h.gotK u hum
        · simp at hum; subst hum; exact ⟨h.held s hsm hu, (h16 s hsm).1⟩
      · rcases List.mem_append.1 hum with hum | hum
        · rcases List.mem_or_eq_of_mem_set hq with hq | rfl
          · exact h.gotN u hum q hq hqu hk
          · obtain ⟨u0, u1, y, hy, hyr⟩ := h.gotN u hum s hsm hu hk
            refine ⟨u0, u1, ?_⟩
            show ∃ z, (s.wins.set tid.toNat (takeF x.1 x.2 n).1)[u.tid.toNat]? = some z ∧ _
            rw [List.getElem?_set]
            by_cases ht : tid.toNat = u.tid.toNat
            · rw [if_pos ht, if_pos (ht ▸ hwl)]
              rw [← ht, hx] at hy
              cases hy
              exact ⟨_, rfl, rej_mono _ _ _ _ hx0 u1 hyr htk⟩
            · rw [if_neg ht]; exact ⟨y, hy, hyr⟩
        · simp at hum; subst hum
          obtain ⟨i, hi⟩ := List.getElem?_of_mem hq
          rw [List.getElem?_set] at hi
          split at hi
          · split at hi
            · cases hi
              refine ⟨t0, n1, (takeF x.1 x.2 n).1, ?_, kr⟩
              show (s.wins.set tid.toNat (takeF x.1 x.2 n).1)[tid.toNat]? = _
              rw [List.getElem?_set, if_pos rfl, if_pos hwl]
            · cases hi
          · rename_i hne
            exact absurd (h.ok.one hi hj hqu hu hk) (fun e => hne e.symm)
end Go.Proofs.Ytjnaegpjhbobaaa
