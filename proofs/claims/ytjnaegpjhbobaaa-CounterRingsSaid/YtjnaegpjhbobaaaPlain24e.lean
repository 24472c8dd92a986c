/- What the ring functions give, whatever the error: a ring, and a list that is short enough. -/
import Derived.Test.YtjnaegpjhbobaaaLaw24h
import Derived.Test.YtjnaegpjhbobaaaRefW
namespace Go.Proofs.Ytjnaegpjhbobaaa
open Go.RowKit
theorem install_okR {l : List Slot} {ks : Keys16} {slot : Int} {k : List (BitVec 8)} (hl : Ring4 l) (hk : k.length = 16) : Ring4 (installF l ks slot k).1.1 ∧ (installF l ks slot k).1.2.length ≤ 40 := by
  rcases install_res (ks := ks) (slot := slot) hl hk with ⟨e, _, h⟩ | ⟨q, h, h1, h2⟩
  · rw [h]; exact ⟨ring_zero, Nat.zero_le _⟩
  · rw [h]; exact ⟨h1, Nat.le_trans h2 (by decide)⟩
theorem drop_okR {l : List Slot} {ks : Keys16} {slot : Int} (hl : Ring4 l) (hks : ks.length ≤ 40) : Ring4 (dropF l ks slot).1.1 ∧ (dropF l ks slot).1.2.length ≤ 40 := by
  unfold dropF
  split
  · split
    · split
      · exact ⟨ring_set l hl _ _ ⟨rfl, rfl⟩, hks⟩
      · exact ⟨ring_zero, Nat.zero_le _⟩
    · exact ⟨ring_zero, Nat.zero_le _⟩
  · exact ⟨ring_zero, Nat.zero_le _⟩
theorem receive_okR {l : List Slot} {ks : Keys16} {slot tid n : Int} (hl : Ring4 l) (hks : ks.length ≤ 40) : Ring4 (receiveF l ks slot tid n).1.1 ∧ (receiveF l ks slot tid n).1.2.length ≤ 40 := by
  unfold receiveF
  split
  · split
    · rename_i s hs
      split
      · split
        · exact ⟨ring_set l hl _ _ ⟨(hl.2 s (List.mem_of_getElem? hs)).1, acceptF_len _ _ _ _ (hl.2 s (List.mem_of_getElem? hs)).2⟩, hks⟩
        · exact ⟨ring_zero, Nat.zero_le _⟩
      · exact ⟨ring_zero, Nat.zero_le _⟩
    · exact ⟨ring_zero, Nat.zero_le _⟩
  · exact ⟨ring_zero, Nat.zero_le _⟩
theorem send_okR {l : List Slot} {ks : Keys16} {slot : Int} (hl : Ring4 l) (hks : ks.length ≤ 40) : Ring4 (sendF l ks slot).slots ∧ (sendF l ks slot).past.length ≤ 40 ∧ (sendF l ks slot).key.length = 16 := by
  unfold sendF
  split
  · split
    · rename_i s hs
      have hso := hl.2 s (List.mem_of_getElem? hs)
      split
      · split
        · exact ⟨ring_set l hl _ _ ⟨hso.1, nextF_len _ _ hso.2⟩, hks, hso.1⟩
        · exact ⟨ring_zero, Nat.zero_le _, rfl⟩
      · exact ⟨ring_zero, Nat.zero_le _, rfl⟩
    · exact ⟨ring_zero, Nat.zero_le _, rfl⟩
  · exact ⟨ring_zero, Nat.zero_le _, rfl⟩
theorem sameF_self (l : List Slot) (ks : Keys16) : sameF l l ks ks = true := by simp [sameF]
theorem PastV.sep {B g : Nat} {w : World} {u : Value} {ks : Keys16} (h : PastV B w u ks) (hg : g < B) : u.ownBlock ≠ some g := fun e => by have := h.ge g e; omega
/-- The block of a slice that may be written, and the keys in it. -/
theorem PastV.row {B : Nat} {w : World} {u : Value} {ks : Keys16} (h : PastV B w u ks) (h0 : 0 < B) (hne : ks ≠ []) : ∃ b off c t cs, u = .slice (some ⟨b, off, none⟩) ks.length c ∧ B ≤ b ∧ Lc w b t cs ∧ ∀ i, i < ks.length * 16 → ∃ x : BitVec 8, cs[off + i]? = some (V8 x) := by
  obtain ⟨ad, n, c, rfl, h2, h3, ⟨h16, h4⟩, h5, h6⟩ := h
  rcases h4 with ⟨h4, _⟩ | ⟨b, off, cap, he, hb, hr⟩
  · exact absurd h4 hne
  · cases he
    obtain ⟨cur, t, hc⟩ := h6 hne h0 _ rfl
    refine ⟨b, off, c, t, cur.toList, rfl, h5 _ rfl, by rw [Lc, Array.toArray_toList]; exact hc, fun i hi => ?_⟩
    have hj : i / 16 < ks.length := by omega
    obtain ⟨q, hq⟩ : ∃ q, ks[i / 16]? = some q := ⟨ks[i / 16], by simp [hj]⟩
    have hq16 := h16 q (List.mem_of_getElem? hq)
    have hlt : i % 16 < q.length := by omega
    have := hr (i / 16) q hq (i % 16) (V8 q[i % 16]) (by simp [hlt])
    refine ⟨q[i % 16], ?_⟩
    simp only [World.cell?, hc] at this
    rw [show off + i / 16 * 16 + i % 16 = off + i by omega] at this
    simpa using this
end Go.Proofs.Ytjnaegpjhbobaaa
