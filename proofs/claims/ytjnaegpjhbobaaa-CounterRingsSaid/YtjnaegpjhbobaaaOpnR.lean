/- A ring that comes in, opened. -/
import Derived.Test.YtjnaegpjhbobaaaOpn
import Derived.Test.YtjnaegpjhbobaaaRingE
namespace Go.Proofs.Ytjnaegpjhbobaaa
open Go.RowKit
section
variable {H : Type} {enc : TypeId × Value → H} {w : World} {base : Nat} {cs : List Value}
theorem cut1 {cs : List Value} {o : Nat} {v : Value} (h : (cs.drop o).take 1 = [v]) : cs[o]? = some v := by
  have : ((cs.drop o).take 1)[0]? = some v := by rw [h]; rfl
  simpa using this
theorem Tr.win (h : Tr enc Try.prog w base 26 cs) : ∃ x : Win, cs = cellsW x := by
  have hl := h.len Try.underlying26 2 (by kernel_rfl)
  obtain ⟨a, ha, _⟩ := (h.field Try.underlying26 0 3 0 1 rfl (by kernel_rfl)).int Try.underlying3
  obtain ⟨n, hn, hw⟩ := (h.field Try.underlying26 1 24 1 1 rfl (by kernel_rfl)).int Try.underlying24
  obtain ⟨x, rfl⟩ := bv_of_wf (m := 64) .u64 (.inr (.inr ⟨rfl, rfl⟩)) hw
  have h0 := cut1 ha
  have h1 := cut1 hn
  match cs, hl with
  | [c0, c1], _ =>
    simp at h0 h1
    exact ⟨(a, x), by rw [h0, h1]⟩
/-- The cells of an array: a list of its elements. -/
theorem array_join {α : Type} (f : α → List Value) (c : Nat) (hc : ∀ a, (f a).length = c) : ∀ (n : Nat) (cs : List Value), cs.length = n * c → (∀ i, i < n → ∃ a, (cs.drop (i * c)).take c = f a) → ∃ l : List α, l.length = n ∧ cs = l.flatMap f
  | 0, cs, hl, _ => ⟨[], rfl, by simpa using hl⟩
  | n + 1, cs, hl, h => by
    obtain ⟨a, ha⟩ := h 0 (by omega)
    rw [Nat.zero_mul, List.drop_zero] at ha
    obtain ⟨l, h1, h2⟩ := array_join f c hc n (cs.drop c) (by rw [List.length_drop, hl, Nat.succ_mul]; omega) fun i hi => by
      obtain ⟨b, hb⟩ := h (i + 1) (by omega)
      rw [List.drop_drop, show c + i * c = (i + 1) * c by rw [Nat.succ_mul]; omega]
      exact ⟨b, hb⟩
    refine ⟨a :: l, by simp [h1], ?_⟩
    rw [List.flatMap_cons, ← ha, ← h2, List.take_append_drop]
theorem Tr.counters (h : Tr enc Try.prog w base 29 cs) : ∃ (a : Int) (l : List Win), (Lit.int .i64 a).wf = true ∧ l.length = 9 ∧ cs = cellsC a l := by
  have hl := h.len Try.underlying29 19 (by kernel_rfl)
  obtain ⟨a, ha, wa⟩ := (h.field Try.underlying29 0 3 0 1 rfl (by kernel_rfl)).int Try.underlying3
  obtain ⟨hl2, hg⟩ := (h.field Try.underlying29 1 27 1 18 rfl (by kernel_rfl)).array Try.underlying27
  simp only [show Try.prog.cellsOf 27 = 18 by kernel_rfl, show Try.prog.cellsOf 26 = 2 by kernel_rfl] at hl2 hg
  obtain ⟨l, h9, he⟩ := array_join cellsW 2 (fun _ => rfl) 9 _ hl2 fun i hi => (hg i hi).win
  refine ⟨a, l, wa, h9, ?_⟩
  have h0 := cut1 ha
  match cs, hl with
  | c0 :: rest, hl =>
    simp at h0 he hl
    rw [h0]
    show _ = .int .i64 a :: cellsWs l
    rw [cellsWs, ← he, List.take_of_length_le (by omega)]
theorem Tr.slot (h : Tr enc Try.prog w base 47 cs) : ∃ s : Slot, s.Ok ∧ (Lit.int .i64 s.last).wf = true ∧ cs = cellsS s := by
  have hl := h.len Try.underlying47 36 (by kernel_rfl)
  obtain ⟨u, hu⟩ := (h.field Try.underlying47 0 4 0 1 rfl (by kernel_rfl)).bool Try.underlying4
  obtain ⟨k, hk, he⟩ := (h.field Try.underlying47 1 45 1 16 rfl (by kernel_rfl)).bytes Try.underlying45 Try.underlying5 (by kernel_rfl) (by kernel_rfl)
  obtain ⟨a, m, wa, hm, hc⟩ := Tr.counters (h.field Try.underlying47 2 29 17 19 rfl (by kernel_rfl))
  refine ⟨⟨u, k, a, m⟩, ⟨hk, hm⟩, wa, ?_⟩
  have h0 := cut1 hu
  match cs, hl with
  | c0 :: rest, hl =>
    simp at h0 hl
    have he' : rest.take 16 = k.map V8 := by simpa using he
    have hc' : rest.drop 16 = cellsC a m := by
      have : (rest.drop 16).take 19 = cellsC a m := by simpa using hc
      rwa [List.take_of_length_le (by simp; omega)] at this
    show c0 :: rest = .bool u :: (k.map V8 ++ cellsC a m)
    rw [h0, ← he', ← hc', List.take_append_drop]
theorem slots_join (cs : List Value) : ∀ (n : Nat), cs.length = n * 36 → (∀ i, i < n → ∃ s : Slot, s.Ok ∧ (cs.drop (i * 36)).take 36 = cellsS s) → ∃ l : List Slot, l.length = n ∧ (∀ s ∈ l, s.Ok) ∧ cs = cellsSs l := by
  intro n
  induction n generalizing cs with
  | zero => intro hl _; exact ⟨[], rfl, fun s hs => (by cases hs), by simpa [cellsSs] using hl⟩
  | succ n ih =>
    intro hl h
    obtain ⟨a, hok, ha⟩ := h 0 (by omega)
    rw [Nat.zero_mul, List.drop_zero] at ha
    obtain ⟨l, h1, h2, h3⟩ := ih (cs.drop 36) (by rw [List.length_drop, hl]; omega) fun i hi => by
      obtain ⟨b, hb1, hb⟩ := h (i + 1) (by omega)
      rw [List.drop_drop, show 36 + i * 36 = (i + 1) * 36 by omega]
      exact ⟨b, hb1, hb⟩
    refine ⟨a :: l, by simp [h1], fun s hs => by rcases List.mem_cons.1 hs with rfl | hs; exact hok; exact h2 s hs, ?_⟩
    show cs = cellsS a ++ cellsSs l
    rw [← ha, ← h3, List.take_append_drop]
/-- A slice of keys. -/
theorem Tr.keys (h : Tr enc Try.prog w base 49 cs) : ∃ (v : Value) (ks : Keys16), cs = [v] ∧ PastV 0 w v ks ∧ ks.length ≤ 9223372036854775807 := by
  obtain ⟨ad, len, cap, h1, h2, h3, h4, h5⟩ := h.slice Try.underlying49 (by rw [show Try.prog.cellsOf 45 = 16 by kernel_rfl]; decide)
  simp only [show Try.prog.cellsOf 45 = 16 by kernel_rfl] at h5
  have key : ∀ k, k ≤ len → ∃ l : Keys16, l.length = k ∧ (∀ q ∈ l, q.length = 16) ∧ ∀ (j : Nat) q, l[j]? = some q → ∃ b off, ad = some ⟨b, off, none⟩ ∧ b < w.heap.size ∧ w.rangeAt b (off + j * 16) (q.map V8) := by
    intro k
    induction k with
    | zero => intro _; exact ⟨[], rfl, fun q hq => (by cases hq), fun j x hj => by simp at hj⟩
    | succ k ih =>
      intro hk
      obtain ⟨l, hl, h16, hL⟩ := ih (by omega)
      obtain ⟨b, off, es, ha, hb, hel, ht, hr⟩ := h5 k (by omega)
      obtain ⟨q, hq16, rfl⟩ := ht.bytes Try.underlying45 Try.underlying5 (by kernel_rfl) (by kernel_rfl)
      refine ⟨l ++ [q], by simp [hl], fun x hx => by rcases List.mem_append.1 hx with hx | hx; exact h16 x hx; simp at hx; rw [hx]; exact hq16, fun j y hy => ?_⟩
      by_cases hj : j < l.length
      · rw [List.getElem?_append_left hj] at hy; exact hL j y hy
      · rw [List.getElem?_append_right (by omega)] at hy
        have hj0 : j - l.length = 0 := by
          have := (List.getElem?_eq_some_iff.1 hy).1
          simp at this; omega
        rw [hj0] at hy
        have : q = y := by simpa using hy
        subst this
        obtain rfl : j = k := by omega
        exact ⟨b, off, ha, hb, hr⟩
  obtain ⟨l, hl, h16, hL⟩ := key len (Nat.le_refl _)
  subst hl
  refine ⟨_, l, h1, ⟨ad, l.length, cap, rfl, rfl, h2, ⟨h16, ?_⟩, (fun a _ => Nat.zero_le _), fun _ h0 => absurd h0 (Nat.lt_irrefl 0)⟩, by unfold maxLen at h3; omega⟩
  cases l with
  | nil =>
    refine .inl ⟨rfl, ?_⟩
    cases ad with
    | none => obtain ⟨_, rfl⟩ := h4 rfl; exact .inl rfl
    | some a => exact .inr ⟨a, cap, rfl⟩
  | cons x l =>
    obtain ⟨b, off, rfl, hb, _⟩ := hL 0 x rfl
    refine .inr ⟨b, off, cap, rfl, hb, fun j y hy => ?_⟩
    obtain ⟨b', off', he, _, hc'⟩ := hL j y hy
    cases he
    exact hc'
theorem Tr.ring (h : Tr enc Try.prog w base 51 cs) : ∃ (l : List Slot) (v : Value) (ks : Keys16), Ring4 l ∧ PastV 0 w v ks ∧ ks.length ≤ 9223372036854775807 ∧ cs = cellsR l v := by
  have hl := h.len Try.underlying51 145 (by kernel_rfl)
  obtain ⟨hl2, hg⟩ := (h.field Try.underlying51 0 48 0 144 rfl (by kernel_rfl)).array Try.underlying48
  simp only [show Try.prog.cellsOf 48 = 144 by kernel_rfl, show Try.prog.cellsOf 47 = 36 by kernel_rfl] at hl2 hg
  obtain ⟨v, ks, hv, hp, hn⟩ := Tr.keys (h.field Try.underlying51 1 49 144 1 rfl (by kernel_rfl))
  obtain ⟨l, h4, hok, he⟩ := slots_join _ 4 hl2 fun i hi => by
    obtain ⟨s, hs, _, hc⟩ := Tr.slot (hg i hi)
    exact ⟨s, hs, hc⟩
  refine ⟨l, v, ks, ⟨h4, hok⟩, hp, hn, ?_⟩
  have e1 : cs.take 144 = cellsSs l := by have h1 := he; rwa [List.drop_zero] at h1
  have e2 : cs.drop 144 = [v] := by
    have h1 := hv
    rwa [List.take_of_length_le (by rw [List.length_drop]; omega)] at h1
  unfold cellsR
  rw [← e1, ← e2, List.take_append_drop]
end
set_option maxRecDepth 10000 in
theorem open_ring {H : Type} {enc : TypeId × Value → H} {w : World} {r : Reach} {b0 base : Nat} {v : Value} {d : DataW H} {p : List MemPlace}
    (hv : Value.okWide Try.prog w r b0 51 v) (h : DataW.Trod enc Try.prog w base (fun _ => true) true 51 v d p) : ∃ (l : List Slot) (u : Value) (ks : Keys16), Ring4 l ∧ PastV 0 w u ks ∧ ks.length ≤ 9223372036854775807 ∧ v = .agg (cellsR l u).toArray := by
  have hcs := okWide_struct (P := Try.prog) (w := w) (r := r) (b0 := b0) (v := v) Try.underlying51 hv
  obtain ⟨cs, hcs, _⟩ := hcs
  have ht := Tr.of h
  rw [hcs] at ht
  obtain ⟨l, u, ks, h1, h2, h3, h4⟩ := ht.ring
  refine ⟨l, u, ks, h1, h2, h3, ?_⟩
  have h5 : cs.toList = cellsR l u := h4
  rw [hcs, ← h5]
end Go.Proofs.Ytjnaegpjhbobaaa
