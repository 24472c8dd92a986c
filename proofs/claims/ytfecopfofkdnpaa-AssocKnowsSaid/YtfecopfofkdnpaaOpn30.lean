/- Headers, frames, stations and states that come in, opened. -/
import Derived.Test.YtfecopfofkdnpaaOpn
import Derived.Test.YtfecopfofkdnpaaPl30
import Derived.OpenShut
namespace Go.Proofs.Ytfecopfofkdnpaa
open Go.RowKit Go.WideShapes
def cellsF (h : Hd) (v : Value) : List Value := cellsH h ++ [v]
section
variable {H : Type} {enc : TypeId × Value → H} {w : World} {base : Nat} {cs : List Value}
theorem peel {cs l : List Value} {o n : Nat} (h : (cs.drop o).take n = l) : cs.drop o = l ++ cs.drop (o + n) := by rw [← h, ← List.drop_drop, List.take_append_drop]
theorem u8_wf {n : Int} (h : (Lit.int .u8 n).wf = true) : 0 ≤ n ∧ n < 256 := by
  obtain ⟨x, rfl⟩ := bv_of_wf (m := 8) .u8 (.inl ⟨rfl, rfl⟩) h
  have := x.isLt
  unfold wI
  omega
theorem Tr.addr (h : Tr enc Try.prog w base 23 cs) : ∃ l : List (BitVec 8), l.length = 6 ∧ cs = l.map V8 :=
  h.bytes Try.underlying23 Try.underlying5 (by kernel_rfl) (by kernel_rfl)
theorem Tr.header (h : Tr enc Try.prog w base 28 cs) : ∃ x : Hd, x.Ok ∧ cs = cellsH x := by
  have hl := h.len Try.underlying28 40 (by kernel_rfl)
  obtain ⟨k, h0, w0⟩ := (h.field Try.underlying28 0 5 0 1 rfl (by kernel_rfl)).int Try.underlying5
  obtain ⟨s, h1, w1⟩ := (h.field Try.underlying28 1 5 1 1 rfl (by kernel_rfl)).int Try.underlying5
  obtain ⟨b2, h2⟩ := (h.field Try.underlying28 2 4 2 1 rfl (by kernel_rfl)).bool Try.underlying4
  obtain ⟨b3, h3⟩ := (h.field Try.underlying28 3 4 3 1 rfl (by kernel_rfl)).bool Try.underlying4
  obtain ⟨b4, h4⟩ := (h.field Try.underlying28 4 4 4 1 rfl (by kernel_rfl)).bool Try.underlying4
  obtain ⟨b5, h5⟩ := (h.field Try.underlying28 5 4 5 1 rfl (by kernel_rfl)).bool Try.underlying4
  obtain ⟨b6, h6⟩ := (h.field Try.underlying28 6 4 6 1 rfl (by kernel_rfl)).bool Try.underlying4
  obtain ⟨b7, h7⟩ := (h.field Try.underlying28 7 4 7 1 rfl (by kernel_rfl)).bool Try.underlying4
  obtain ⟨b8, h8⟩ := (h.field Try.underlying28 8 4 8 1 rfl (by kernel_rfl)).bool Try.underlying4
  obtain ⟨du, h9, _⟩ := (h.field Try.underlying28 9 3 9 1 rfl (by kernel_rfl)).int Try.underlying3
  obtain ⟨a1, l1, h10⟩ := Tr.addr (h.field Try.underlying28 10 23 10 6 rfl (by kernel_rfl))
  obtain ⟨a2, l2, h11⟩ := Tr.addr (h.field Try.underlying28 11 23 16 6 rfl (by kernel_rfl))
  obtain ⟨a3, l3, h12⟩ := Tr.addr (h.field Try.underlying28 12 23 22 6 rfl (by kernel_rfl))
  obtain ⟨a4, l4, h13⟩ := Tr.addr (h.field Try.underlying28 13 23 28 6 rfl (by kernel_rfl))
  obtain ⟨sq, h14, _⟩ := (h.field Try.underlying28 14 3 34 1 rfl (by kernel_rfl)).int Try.underlying3
  obtain ⟨fr, h15, _⟩ := (h.field Try.underlying28 15 3 35 1 rfl (by kernel_rfl)).int Try.underlying3
  obtain ⟨ti, h16, _⟩ := (h.field Try.underlying28 16 3 36 1 rfl (by kernel_rfl)).int Try.underlying3
  obtain ⟨ac, h17, w17⟩ := (h.field Try.underlying28 17 5 37 1 rfl (by kernel_rfl)).int Try.underlying5
  obtain ⟨am, h18⟩ := (h.field Try.underlying28 18 4 38 1 rfl (by kernel_rfl)).bool Try.underlying4
  obtain ⟨eo, h19⟩ := (h.field Try.underlying28 19 4 39 1 rfl (by kernel_rfl)).bool Try.underlying4
  refine ⟨⟨k, s, b2, b3, b4, b5, b6, b7, b8, du, a1, a2, a3, a4, sq, fr, ti, ac, am, eo⟩, ⟨(u8_wf w0).1, (u8_wf w0).2, (u8_wf w1).1, (u8_wf w1).2, (u8_wf w17).1, (u8_wf w17).2, l1, l2, l3, l4⟩, ?_⟩
  have hend : cs.drop 40 = [] := List.drop_eq_nil_of_le (by omega)
  rw [show cs = cs.drop 0 from rfl, peel h0, peel h1, peel h2, peel h3, peel h4, peel h5, peel h6, peel h7, peel h8, peel h9, peel h10, peel h11, peel h12, peel h13, peel h14, peel h15, peel h16, peel h17, peel h18, peel h19]
  simp only [Nat.reduceAdd, hend, cellsH, List.append_nil, List.cons_append, List.nil_append]
theorem Tr.entry (h : Tr enc Try.prog w base 39 cs) : ∃ x : En, x.Ok ∧ cs = cellsE x := by
  have hl := h.len Try.underlying39 11 (by kernel_rfl)
  obtain ⟨a, la, h0⟩ := Tr.addr (h.field Try.underlying39 0 23 0 6 rfl (by kernel_rfl))
  obtain ⟨s, h1, w1⟩ := (h.field Try.underlying39 1 5 6 1 rfl (by kernel_rfl)).int Try.underlying5
  obtain ⟨ai, h2, _⟩ := (h.field Try.underlying39 2 3 7 1 rfl (by kernel_rfl)).int Try.underlying3
  obtain ⟨ca, h3, _⟩ := (h.field Try.underlying39 3 3 8 1 rfl (by kernel_rfl)).int Try.underlying3
  obtain ⟨li, h4, _⟩ := (h.field Try.underlying39 4 3 9 1 rfl (by kernel_rfl)).int Try.underlying3
  obtain ⟨se, h5, _⟩ := (h.field Try.underlying39 5 3 10 1 rfl (by kernel_rfl)).int Try.underlying3
  refine ⟨⟨a, s, ai, ca, li, se⟩, ⟨la, (u8_wf w1).1, (u8_wf w1).2⟩, ?_⟩
  have hend : cs.drop 11 = [] := List.drop_eq_nil_of_le (by omega)
  rw [show cs = cs.drop 0 from rfl, peel h0, peel h1, peel h2, peel h3, peel h4, peel h5]
  simp only [Nat.reduceAdd, hend, cellsE, List.append_nil, List.cons_append, List.nil_append]
theorem Tr.entries (h : Tr enc Try.prog w base 24 cs) : ∃ (v : Value) (es : List En), cs = [v] ∧ SlT 11 cellsE w v es ∧ (∀ e ∈ es, e.Ok) ∧ es.length ≤ 9223372036854775807 := by
  obtain ⟨a, ln, cp, h1, h2, h3, h4, h5⟩ := h.slice Try.underlying24 (by rw [show Try.prog.cellsOf 39 = 11 by kernel_rfl]; decide)
  simp only [show Try.prog.cellsOf 39 = 11 by kernel_rfl] at h5
  have key : ∀ k, k ≤ ln → ∃ l : List En, l.length = k ∧ (∀ q ∈ l, q.Ok) ∧ ∀ (j : Nat) q, l[j]? = some q → ∃ b off, a = some ⟨b, off, none⟩ ∧ b < w.heap.size ∧ w.rangeAt b (off + j * 11) (cellsE q) := by
    intro k
    induction k with
    | zero => intro _; exact ⟨[], rfl, fun q hq => (by cases hq), fun j x hj => by simp at hj⟩
    | succ k ih =>
      intro hk
      obtain ⟨l, hl, h16, hL⟩ := ih (by omega)
      obtain ⟨b, off, es, ha, hb, hel, ht, hr⟩ := h5 k (by omega)
      obtain ⟨q, hq16, rfl⟩ := ht.entry
      refine ⟨l ++ [q], by simp [hl], fun x hx => by rcases List.mem_append.1 hx with hx | hx; exact h16 x hx; simp at hx; rw [hx]; exact hq16, fun j y hy => ?_⟩
      by_cases hj : j < l.length
      · rw [List.getElem?_append_left hj] at hy; exact hL j y hy
      · rw [List.getElem?_append_right (by omega)] at hy
        have hj0 : j - l.length = 0 := by
          have := (List.getElem?_eq_some_iff.1 hy).1
          simp at this; omega
        rw [hj0] at hy
        have : q = y := by simpa using hy
        subst this
        obtain rfl : j = k := by omega
        exact ⟨b, off, ha, hb, hr⟩
  obtain ⟨l, hl, h16, hL⟩ := key ln (Nat.le_refl _)
  exact ⟨_, l, h1, ⟨a, ln, cp, rfl, hl.symm, h2, hL⟩, h16, by unfold maxLen at h3; omega⟩
theorem Tr.assoc (h : Tr enc Try.prog w base 26 cs) : ∃ (x : As) (v : Value) (es : List En), x.own.length = 6 ∧ SlT 11 cellsE w v es ∧ (∀ e ∈ es, e.Ok) ∧ es.length ≤ 9223372036854775807 ∧ cs = cellsA x v := by
  have hl := h.len Try.underlying26 10 (by kernel_rfl)
  obtain ⟨a, la, h0⟩ := Tr.addr (h.field Try.underlying26 0 23 0 6 rfl (by kernel_rfl))
  obtain ⟨ca, h1, _⟩ := (h.field Try.underlying26 1 3 6 1 rfl (by kernel_rfl)).int Try.underlying3
  obtain ⟨li, h2, _⟩ := (h.field Try.underlying26 2 3 7 1 rfl (by kernel_rfl)).int Try.underlying3
  obtain ⟨di, h3, _⟩ := (h.field Try.underlying26 3 3 8 1 rfl (by kernel_rfl)).int Try.underlying3
  obtain ⟨v, es, h4, hs, hok, hn⟩ := Tr.entries (h.field Try.underlying26 4 24 9 1 rfl (by kernel_rfl))
  refine ⟨⟨a, ca, li, di⟩, v, es, la, hs, hok, hn, ?_⟩
  have hend : cs.drop 10 = [] := List.drop_eq_nil_of_le (by omega)
  rw [show cs = cs.drop 0 from rfl, peel h0, peel h1, peel h2, peel h3, peel h4]
  simp only [Nat.reduceAdd, hend, cellsA, List.append_nil, List.cons_append, List.nil_append]
theorem Tr.frame (h : Tr enc Try.prog w base 31 cs) : ∃ (x : Hd) (ad : Option Addr) (cap : Nat) (l : List (BitVec 8)), x.Ok ∧ l.length ≤ cap ∧ cap ≤ maxLen ∧ (ad = none → cap = 0) ∧ SlB w (.slice ad l.length cap) l ∧ cs = cellsF x (.slice ad l.length cap) := by
  have hl := h.len Try.underlying31 41 (by kernel_rfl)
  obtain ⟨x, hx, h0⟩ := Tr.header (h.field Try.underlying31 0 28 0 40 rfl (by kernel_rfl))
  obtain ⟨ad, cap, l, h1, q1, q2, q3, q4⟩ := (h.field Try.underlying31 1 29 40 1 rfl (by kernel_rfl)).slb Try.underlying29 Try.underlying5 (by kernel_rfl)
  refine ⟨x, ad, cap, l, hx, q1, q2, q3, q4, ?_⟩
  have hend : cs.drop 41 = [] := List.drop_eq_nil_of_le (by omega)
  rw [show cs = cs.drop 0 from rfl, peel h0, peel h1]
  simp only [Nat.reduceAdd, hend, List.append_nil, cellsF]
end
set_option maxRecDepth 10000 in
theorem open_assoc {H : Type} {enc : TypeId × Value → H} {w : World} {r : Reach} {b0 base : Nat} {v : Value} {d : DataW H} {p : List MemPlace}
    (hv : Value.okWide Try.prog w r b0 26 v) (h : DataW.Trod enc Try.prog w base (fun _ => true) true 26 v d p) : ∃ (x : As) (u : Value) (es : List En), x.own.length = 6 ∧ SlT 11 cellsE w u es ∧ (∀ e ∈ es, e.Ok) ∧ es.length ≤ 9223372036854775807 ∧ v = .agg (cellsA x u).toArray := by
  obtain ⟨cs, hcs, _⟩ := okWide_struct (P := Try.prog) Try.underlying26 hv
  have ht := Tr.of h
  rw [hcs] at ht
  obtain ⟨x, u, es, h1, h2, h3, h4, h5⟩ := ht.assoc
  refine ⟨x, u, es, h1, h2, h3, h4, ?_⟩
  have h5 : cs.toList = cellsA x u := h5
  rw [hcs, ← h5]
set_option maxRecDepth 10000 in
theorem open_frame {H : Type} {enc : TypeId × Value → H} {w : World} {r : Reach} {b0 base : Nat} {v : Value} {d : DataW H} {p : List MemPlace}
    (hv : Value.okWide Try.prog w r b0 31 v) (h : DataW.Trod enc Try.prog w base (fun _ => true) true 31 v d p) : ∃ (x : Hd) (ad : Option Addr) (cap : Nat) (l : List (BitVec 8)), x.Ok ∧ l.length ≤ cap ∧ cap ≤ maxLen ∧ (ad = none → cap = 0) ∧ SlB w (.slice ad l.length cap) l ∧ v = .agg (cellsF x (.slice ad l.length cap)).toArray := by
  obtain ⟨cs, hcs, _⟩ := okWide_struct (P := Try.prog) Try.underlying31 hv
  have ht := Tr.of h
  rw [hcs] at ht
  obtain ⟨x, ad, cap, l, h1, h2, h3, h4, h5, h6⟩ := ht.frame
  refine ⟨x, ad, cap, l, h1, h2, h3, h4, h5, ?_⟩
  have h6 : cs.toList = cellsF x (.slice ad l.length cap) := h6
  rw [hcs, ← h6]
end Go.Proofs.Ytfecopfofkdnpaa
