/- append of one key onto the tail (all but the first) of an owned row of keys. -/
import Derived.Test.YtjnaegpjhbobaaaRefU
import Derived.ArgAppend
namespace Go.Proofs.Ytjnaegpjhbobaaa
open Go.RowKit
theorem flatK_drop1 (ks : Keys16) (h16 : ∀ q ∈ ks, q.length = 16) (h1 : 1 ≤ ks.length) : (flatK ks).drop 16 = flatK (ks.drop 1) := by
  match ks with
  | [] => simp at h1
  | q :: qs =>
    have hq : (q.map V8).length = 16 := by rw [List.length_map]; exact h16 q (by simp)
    show (q.map V8 ++ flatK qs).drop 16 = flatK qs
    rw [List.drop_append_of_le_length (by rw [hq]; exact Nat.le_refl _), List.drop_of_length_le (by rw [hq]; exact Nat.le_refl _), List.nil_append]
theorem Loc.grownS {w0 w w' : World} {bs : List Bk} {row : Option Nat} (h : Loc w0 w bs) (hg : w.grownBy w' row) (h0 : ∀ k, row = some k → w0.heap.size ≤ k) (hsep : ∀ q ∈ bs.map (·.1), row ≠ some q) : Loc w0 w' bs := by
  refine ⟨h.1.grown hg h0, h.2.1, fun b hbm => ⟨(h.2.2 b hbm).1, ?_⟩⟩
  have h1 := (h.2.2 b hbm).2
  exact (hg.block b.1 h1.lt (fun e => hsep b.1 (List.mem_map.2 ⟨b, hbm, rfl⟩) e.symm)).trans h1
theorem L_appTail {w0 w : World} {bs : List Bk} {ops : Array Oper} {rest : List Oper} {o : Oper} {a : Act} {Q : Exit → Act → World → Prop} (H : Kp (Loc w0 w bs)) (hgd : o.guard = none) (s x : Operand)
    (ho : o.op = .call { callee := .builtin .append, args := #[s, x], argTypes := #[49, 49] })
    (base : Nat) (hb0 : w0.heap.size ≤ base) (hbase : base ≤ w.heap.size) (g cap : Nat) (hsep : ∀ q ∈ bs.map (·.1), q ≠ g) (ks : Keys16) (h16 : ∀ q ∈ ks, q.length = 16) (h1 : 1 ≤ ks.length) (hn : ks.length ≤ 1000)
    (hs : a.eval s = .slice (some ⟨g, 16, none⟩) (ks.length - 1) (cap - 1)) (hown : w.ownsRow base 45 16 (.slice (some ⟨g, 0, none⟩) ks.length cap) ks.length (flatK ks))
    (y : Value) (k : List (BitVec 8)) (hk : k.length = 16) (hx : a.eval x = y) (hy : SlY w y [k])
    (h : ∀ v' w', Kp (PastV base w' v' (ks.drop 1 ++ [k])) → Kp (∀ q, q ≠ g → q < w.heap.size → v'.ownBlock ≠ some q) → Kp (Loc w0 w' bs) → wpList Try.prog ops Q rest (a.put o.dst v') w') : wpList Try.prog ops Q (o :: rest) a w := by
  obtain ⟨ik, hi, hz, hsz, hby⟩ := info_ik
  obtain ⟨_, ⟨hy0, _⟩ | ⟨b, off, c, rfl, hb, hr⟩⟩ := hy
  · cases hy0
  have hnews : ∀ j u, (k.map V8)[j]? = some u → w.cell? ((⟨b, off, none⟩ : Addr).add j) = some u := fun j u hu => by
    have := hr 0 k rfl j u hu
    rw [Addr.add_lit]; simpa using this
  have hl : (k.map V8).length = 1 * 16 := by rw [List.length_map, hk]
  have ho1 : ∀ u ∈ k.map V8, u.oneCell' = true := by intro u hu; obtain ⟨_, _, rfl⟩ := List.mem_map.1 hu; rfl
  obtain ⟨hlen0, ⟨h2, _⟩ | ⟨g', cap', cur, he, hbg, hg, hnc, hcm, hcs, htake⟩⟩ := id hown
  · cases h2
  cases he
  have hcell : ∀ i, w.cell? ⟨g, i, none⟩ = cur[i]? := fun i => by simp [World.cell?, hg]
  have hol : (flatK (ks.drop 1)).length = (ks.length - 1) * 16 := by rw [flatK_len _ (fun q hq => h16 q (List.mem_of_mem_drop hq)), List.length_drop]
  have hspare : ∀ i, i < cap * 16 → (w.cell? ⟨g, i, none⟩).isSome = true ∧ w.frozen? ⟨g, i, none⟩ = false := fun i hi => by
    rw [hcell, Array.getElem?_eq_getElem (by rw [hcs]; exact hi)]
    exact ⟨rfl, by simp [World.frozen?, hg]⟩
  have hks : ∀ q ∈ ks ++ [k], q.length = 16 := by
    intro q hq
    rcases List.mem_append.1 hq with hq | hq
    · exact h16 q hq
    · simp at hq; rw [hq]; exact hk
  refine wpList_append_arg w hgd s x _ ho _ ik _ 16 16 Try.underlying49 hi hz hsz hby rfl (by decide) g 16 (ks.length - 1) (cap - 1) (flatK (ks.drop 1)) hs hol (fun j u hj => ?_) ⟨b, off, none⟩ 1 c (k.map V8) hx hl hnews ho1 (fun hroom j hj => hspare _ (by rw [hl] at hj; omega)) (by simp only [maxLen]; omega) (by omega) (fun hroom => ?_) (fun _ v' w' r1 r2 => ?_)
  · rw [← flatK_drop1 ks h16 h1, List.getElem?_drop, ← htake, List.getElem?_take] at hj
    rw [hcell]
    split at hj
    · simpa using hj
    · cases hj
  · obtain ⟨v', w', hrun, hown', hgrow, _⟩ := run_append_own (P := Try.prog) w base 49 o.type 45 ik _ 16 16 Try.underlying49 hi hz hsz hby rfl (by decide) _ ks.length (flatK ks) hown ⟨b, off, none⟩ 1 c (k.map V8) hl hnews ho1 (by simp only [maxLen]; omega) (by omega) hbase
    have h5 := run_append_room_cells (P := Try.prog) w 49 o.type 45 ik Try.underlying49 hi g 0 ks.length cap ⟨b, off, none⟩ 1 c (k.map V8) (by rw [hsz]; exact hl) hnews ho1 (by omega) (fun j hj => (hspare _ (by rw [hl] at hj; rw [hsz]; omega)).1) (fun j hj => (hspare _ (by rw [hl] at hj; rw [hsz]; omega)).2)
    rw [hsz] at h5
    rw [h5] at hrun
    cases hrun
    rw [show 16 + (ks.length - 1) * 16 = 0 + ks.length * 16 by omega]
    have hP := PastV.of_owns (ks := ks ++ [k]) hks (show (w.setCells g (0 + ks.length * 16) (k.map V8)).ownsRow base 45 16 (.slice (some ⟨g, 0, none⟩) (ks.length + 1) cap) (ks ++ [k]).length (flatK (ks ++ [k])) by
      rw [flatK_app, List.length_append, show flatK [k] = k.map V8 by simp [flatK]]; exact hown')
    have hP2 := hP.drop1 (by omega)
    rw [List.drop_append_of_le_length h1, show ks.length + 1 - 1 = ks.length - 1 + 1 by omega] at hP2
    exact h _ _ (kp hP2) (kp (fun q hq _ e => hq (by cases e; rfl))) (kp (H.out.grownS hgrow (fun k hk => by cases hk; exact Nat.le_trans hb0 hbg) (fun q hq e => hsep q hq (by cases e; rfl))))
  · have hP := PastV.of_owns (base := w.heap.size) (ks := ks.drop 1 ++ [k]) (fun q hq => by
        rcases List.mem_append.1 hq with hq | hq
        · exact h16 q (List.mem_of_mem_drop hq)
        · simp at hq; rw [hq]; exact hk) (by
      rw [flatK_app, List.length_append, List.length_drop, show flatK [k] = k.map V8 by simp [flatK]]; exact r1)
    exact h _ _ (kp (hP.base hbase)) (kp (fun q _ hq e => by have := owns_blockS r1 q e; omega)) (kp (H.out.grownS r2 (fun k hk => by cases hk) (fun q hq e => by cases e)))
theorem PastV.wroteS {base g : Nat} {w w' : World} {u : Value} {ks : Keys16} (h : PastV base w u ks) (hw : Wrote w w' g) (hne : u.ownBlock ≠ some g) : PastV base w' u ks := by
  obtain ⟨ds, rfl⟩ := hw
  obtain ⟨ad, n, c, rfl, h2, h3, ⟨h0, h4⟩, h5⟩ := h
  refine ⟨ad, n, c, rfl, h2, h3, ⟨h0, ?_⟩, h5.1, h5.2.keep fun _ a ha _ => setRow_other w g a.block ds (fun e => hne (by rw [ha, ← e]; rfl))⟩
  rcases h4 with h4 | ⟨b, off, cap, he, hb, hr⟩
  · exact .inl h4
  · cases he
    exact .inr ⟨b, off, _, rfl, by rw [setRow_size]; exact hb, fun j q hq => range_setRow (hr j q hq) (fun e => hne (by rw [← e]; rfl))⟩
theorem SlY.of_lc {w : World} {g : Nat} {k : List (BitVec 8)} (hk : k.length = 16) (h : Lc w g 45 (k.map V8)) : SlY w (.slice (some ⟨g, 0, none⟩) 1 1) [k] :=
  ⟨fun q hq => by simp at hq; rw [hq]; exact hk, .inr ⟨_, 0, 1, rfl, h.lt, fun j q hq => by
    match j with
    | 0 => simp at hq; subst hq; exact h.range (List.take_of_length_le (by simp))
    | j + 1 => simp at hq⟩⟩
end Go.Proofs.Ytjnaegpjhbobaaa
