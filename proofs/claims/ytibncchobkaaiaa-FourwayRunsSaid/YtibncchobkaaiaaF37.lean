/- Texts of this proof, put together: Opn25, LosP, Grt, MsE, RfE, OpnF, App, LoopC. -/
import Derived.Test.YtibncchobkaaiaaF36
import Derived.OpenShut
import Derived.Test.YtibncchobkaaiaaF17
import Derived.Test.YtibncchobkaaiaaF14
import Derived.Test.YtibncchobkaaiaaF10
import Derived.Test.YtibncchobkaaiaaF5
import Derived.Test.YtibncchobkaaiaaF1
namespace Go.Proofs.Ytibncchobkaaiaa
open Go.RowKit Go.WideShapes
def partsE (o : Ev) : List Lf := [Lf.i .u8 o.kind, Lf.i .u8 o.to, Lf.i .i64 o.which, Lf.i .i64 o.pos, Lf.i .u8 (wI o.by_), Lf.i .i64 o.wait, Lf.i .i64 o.counter, Lf.v o.nonce]
def cellsV (o : Ev) : List Value := cat (partsE o)
structure Ev.Ok (o : Ev) : Prop where
 k0 : 0 ≤ o.kind
 k1 : o.kind < 256
 t0 : 0 ≤ o.to
 t1 : o.to < 256
section
variable {H : Type} {enc : TypeId × Value → H} {w : World} {base : Nat} {cs : List Value}
theorem peel {cs l : List Value} {o n : Nat} (h : (cs.drop o).take n = l) : cs.drop o = l ++ cs.drop (o + n) := by rw [← h, ← List.drop_drop, List.take_append_drop]
theorem u8_wf {n : Int} (h : (Lit.int .u8 n).wf = true) : ∃ x : BitVec 8, n = wI x := by
 obtain ⟨x, rfl⟩ := bv_of_wf (m := 8) .u8 (.inl ⟨rfl, rfl⟩) h
 exact ⟨x, rfl⟩
theorem wI_rng (x : BitVec 8) : 0 ≤ wI x ∧ wI x < 256 := by
 have := x.isLt
 unfold wI
 omega
theorem Tr.slT {α : Type} {sz S e : Nat} {f : α → List Value} {K : α → Prop} (hT : Try.prog.underlying S = some (.slice e)) (hc : Try.prog.cellsOf e = sz) (h0 : 0 < sz) (hel : ∀ {cs}, Tr enc Try.prog w base e cs → ∃ x, K x ∧ cs = f x) (h : Tr enc Try.prog w base S cs) : ∃ (v : Value) (xs : List α), cs = [v] ∧ SlT sz f w v xs ∧ (∀ x ∈ xs, K x) ∧ xs.length ≤ 9223372036854775807 := by
 obtain ⟨a, ln, cp, h1, h2, h3, h4, h5⟩ := h.slice hT (by rw [hc]; exact h0)
 rw [hc] at h5
 have key : ∀ k, k ≤ ln → ∃ l : List α, l.length = k ∧ (∀ q ∈ l, K q) ∧ ∀ (j : Nat) q, l[j]? = some q → ∃ b off, a = some ⟨b, off, none⟩ ∧ b < w.heap.size ∧ w.rangeAt b (off + j * sz) (f q) := by
  intro k
  induction k with
  | zero => intro _; exact ⟨[], rfl, fun q hq => (by cases hq), fun j x hj => by simp at hj⟩
  | succ k ih =>
   intro hk
   obtain ⟨l, hl, h16, hL⟩ := ih (by omega)
   obtain ⟨b, off, es, ha, hb, hel', ht, hr⟩ := h5 k (by omega)
   obtain ⟨q, hq16, rfl⟩ := hel ht
   refine ⟨l ++ [q], by simp [hl], fun x hx => by rcases List.mem_append.1 hx with hx | hx; exact h16 x hx; simp at hx; rw [hx]; exact hq16, fun j y hy => ?_⟩
   by_cases hj : j < l.length
   ·rw [List.getElem?_append_left hj] at hy; exact hL j y hy
   ·rw [List.getElem?_append_right (by omega)] at hy
    have hj0 : j - l.length = 0 := by
     have := (List.getElem?_eq_some_iff.1 hy).1
     simp at this; omega
    rw [hj0] at hy
    have : q = y := by simpa using hy
    subst this
    obtain rfl : j = k := by omega
    exact ⟨b, off, ha, hb, hr⟩
 obtain ⟨l, hl, h16, hL⟩ := key ln (Nat.le_refl _)
 exact ⟨_, l, h1, ⟨a, ln, cp, rfl, hl.symm, h2, hL⟩, h16, by unfold maxLen at h3; omega⟩
theorem Tr.vc {n T e : Nat} (hT : Try.prog.underlying T = some (.array n e)) (hE : Try.prog.underlying e = some (.int .u8)) (hc : Try.prog.cellsOf e = 1) (hC : Try.prog.cellsOf T = n) (h : Tr enc Try.prog w base T cs) : ∃ x : Vc n, cs = x.1.map V8 := by
 obtain ⟨l, hl, e⟩ := h.bytes hT hE hc hC
 exact ⟨⟨l, hl⟩, e⟩
theorem Tr.group (h : Tr enc Try.prog w base 30 cs) : ∃ (g : Int) (k : Vc 16), cs = cat (partsG g k) := by
 have hl := h.len Try.underlying30 17 (by kernel_rfl)
 obtain ⟨g, h0, _⟩ := (h.field Try.underlying30 0 3 0 1 rfl (by kernel_rfl)).int Try.underlying3
 obtain ⟨k, h1⟩ := (h.field Try.underlying30 1 25 1 16 rfl (by kernel_rfl)).vc Try.underlying25 Try.underlying5 (by kernel_rfl) (by kernel_rfl)
 refine ⟨g, k, ?_⟩
 have hend : cs.drop 17 = [] := List.drop_eq_nil_of_le (by omega)
 rw [show cs = cs.drop 0 from rfl, peel h0, peel h1]
 simp only [Nat.reduceAdd, hend, partsG, cat, List.append_nil, List.cons_append, List.nil_append]
theorem Tr.pair (h : Tr enc Try.prog w base 48 cs) : ∃ p : Pr, cs = cat (partsP p) := by
 have hl := h.len Try.underlying48 93 (by kernel_rfl)
 obtain ⟨a1, h0⟩ := (h.field Try.underlying48 0 23 0 6 rfl (by kernel_rfl)).vc Try.underlying23 Try.underlying5 (by kernel_rfl) (by kernel_rfl)
 obtain ⟨a2, h1⟩ := (h.field Try.underlying48 1 23 6 6 rfl (by kernel_rfl)).vc Try.underlying23 Try.underlying5 (by kernel_rfl) (by kernel_rfl)
 obtain ⟨k1, h2⟩ := (h.field Try.underlying48 2 25 12 16 rfl (by kernel_rfl)).vc Try.underlying25 Try.underlying5 (by kernel_rfl) (by kernel_rfl)
 obtain ⟨k2, h3⟩ := (h.field Try.underlying48 3 25 28 16 rfl (by kernel_rfl)).vc Try.underlying25 Try.underlying5 (by kernel_rfl) (by kernel_rfl)
 obtain ⟨n1, h4⟩ := (h.field Try.underlying48 4 26 44 16 rfl (by kernel_rfl)).vc Try.underlying26 Try.underlying5 (by kernel_rfl) (by kernel_rfl)
 obtain ⟨n2, h5⟩ := (h.field Try.underlying48 5 26 60 16 rfl (by kernel_rfl)).vc Try.underlying26 Try.underlying5 (by kernel_rfl) (by kernel_rfl)
 obtain ⟨g, k, h6⟩ := (h.field Try.underlying48 6 30 76 17 rfl (by kernel_rfl)).group
 refine ⟨⟨a1, a2, k1, k2, n1, n2, g, k⟩, ?_⟩
 have hend : cs.drop 93 = [] := List.drop_eq_nil_of_le (by omega)
 rw [show cs = cs.drop 0 from rfl, peel h0, peel h1, peel h2, peel h3, peel h4, peel h5, peel h6]
 simp only [Nat.reduceAdd, hend, partsP, partsG, cat, List.append_nil, List.cons_append, List.nil_append]
theorem Tr.event (h : Tr enc Try.prog w base 57 cs) : ∃ o : Ev, o.Ok ∧ cs = cellsV o := by
 have hl := h.len Try.underlying57 23 (by kernel_rfl)
 obtain ⟨k, h0, w0⟩ := (h.field Try.underlying57 0 5 0 1 rfl (by kernel_rfl)).int Try.underlying5
 obtain ⟨t, h1, w1⟩ := (h.field Try.underlying57 1 5 1 1 rfl (by kernel_rfl)).int Try.underlying5
 obtain ⟨i, h2, _⟩ := (h.field Try.underlying57 2 3 2 1 rfl (by kernel_rfl)).int Try.underlying3
 obtain ⟨a, h3, _⟩ := (h.field Try.underlying57 3 3 3 1 rfl (by kernel_rfl)).int Try.underlying3
 obtain ⟨b, h4, w4⟩ := (h.field Try.underlying57 4 5 4 1 rfl (by kernel_rfl)).int Try.underlying5
 obtain ⟨d, h5, _⟩ := (h.field Try.underlying57 5 3 5 1 rfl (by kernel_rfl)).int Try.underlying3
 obtain ⟨c, h6, _⟩ := (h.field Try.underlying57 6 3 6 1 rfl (by kernel_rfl)).int Try.underlying3
 obtain ⟨n, h7⟩ := (h.field Try.underlying57 7 26 7 16 rfl (by kernel_rfl)).vc Try.underlying26 Try.underlying5 (by kernel_rfl) (by kernel_rfl)
 obtain ⟨xk, rfl⟩ := u8_wf w0
 obtain ⟨xt, rfl⟩ := u8_wf w1
 obtain ⟨xb, rfl⟩ := u8_wf w4
 refine ⟨⟨wI xk, wI xt, i, a, xb, d, c, n⟩, ⟨(wI_rng xk).1, (wI_rng xk).2, (wI_rng xt).1, (wI_rng xt).2⟩, ?_⟩
 have hend : cs.drop 23 = [] := List.drop_eq_nil_of_le (by omega)
 rw [show cs = cs.drop 0 from rfl, peel h0, peel h1, peel h2, peel h3, peel h4, peel h5, peel h6, peel h7]
 simp only [Nat.reduceAdd, hend, cellsV, partsE, cat, List.append_nil, List.cons_append, List.nil_append]
theorem Tr.events (h : Tr enc Try.prog w base 49 cs) : ∃ (v : Value) (xs : List Ev), cs = [v] ∧ SlT 23 cellsV w v xs ∧ (∀ x ∈ xs, x.Ok) ∧ xs.length ≤ 9223372036854775807 :=
 h.slT Try.underlying49 (by kernel_rfl) (by decide) fun h => h.event
end
section
variable {H : Type} {enc : TypeId × Value → H} {w : World} {r : Reach} {b0 base : Nat} {v : Value} {d : DataW H} {p : List MemPlace}
set_option maxRecDepth 10000 in
theorem open_pair (hv : Value.okWide Try.prog w r b0 48 v) (h : DataW.Trod enc Try.prog w base (fun _ => true) true 48 v d p) : ∃ x : Pr, v = .agg (cat (partsP x)).toArray := by
 obtain ⟨cs, hcs, _⟩ := okWide_struct (P := Try.prog) Try.underlying48 hv
 have ht := Tr.of h
 rw [hcs] at ht
 obtain ⟨x, h5⟩ := ht.pair
 refine ⟨x, ?_⟩
 have h5 : cs.toList = cat (partsP x) := h5
 rw [hcs, ← h5]
set_option maxRecDepth 10000 in
theorem open_events25 (hv : Value.okWide Try.prog w r b0 49 v) (h : DataW.Trod enc Try.prog w base (fun _ => true) true 49 v d p) : ∃ xs : List Ev, SlT 23 cellsV w v xs ∧ (∀ x ∈ xs, x.Ok) ∧ xs.length ≤ 9223372036854775807 := by
 obtain ⟨a, n, c, rfl⟩ := okWide_slice Try.underlying49 hv
 obtain ⟨u, xs, e, h1, hk, h2⟩ := (Tr.of h).events
 obtain rfl : Value.slice a n c = u := by simpa [Value.cells] using e
 exact ⟨xs, h1, hk, h2⟩
end
def L0 (p : Pr) (i : Nat) (n : Int) (s : Fw × Fw) (m : By) : Prop := s.1 = stA1 p (i + 1) (n + 100000) ∧ m = ms1 p (i + 1) ∧ (s.2 = stS0 p ∨ s.2 = stS2 p)
def L1 (p : Pr) (i : Nat) (n : Int) (s : Fw × Fw) (m : By) : Prop := ∃ r : Int, 1 ≤ r ∧ r ≤ 4 ∧ s.1 = stA3 p (r + 1 + i) (1 + i) (n + 100000) ∧ m = ms3 p (r + 1 + i) ∧ (s.2 = stS2 p ∨ ∃ j : Int, 0 ≤ j ∧ j < r + 1 + i ∧ s.2 = stS4 p j)
def LSt (p : Pr) (ph i : Nat) (n : Int) (s : Fw × Fw) (m : By) : Prop := if ph = 0 then L0 p i n s m else L1 p i n s m
def LTick (p : Pr) (ph i : Nat) (n : Int) (s1 t : Fw) : Prop := i < 3 → ∃ u m, tickF s1 (n + 100000) = (u, [m], 0) ∧ LSt p ph (i + 1) (n + 100000) (u, t) m
structure LAns (p : Pr) (ph i : Nat) (n : Int) (s1 t : Fw) (a : By) (r : Res) : Prop where
 tick : LTick p ph i n s1 t
 len : a.length ≤ 100000
 ans : handleF s1 a n = r
 ok : r.2.2 = 0
 zero : ph = 0 → ∃ m', r.2.1 = [m'] ∧ LSt p 1 0 n (r.1, t) m'
 one : ph ≠ 0 → r.2.1 = [] ∧ ∃ k, r.1 = stA4 p k ∧ t = stS4 p k
def OneO (w : World) (b : Nat) (u : Value) (m : By) : Prop := b < w.heap.size ∧ w.cell? ⟨b, 0, none⟩ = some u ∧ ∃ B, w.ownsRow B 5 1 u m.length (m.map V8)
theorem ownsT_chgB {w w' : World} {base E n sz : Nat} {v : Value} {xs : List Value} (h : w.ownsRow base E sz v n xs) (hc : Chg w.heap.size w w') : w'.ownsRow base E sz v n xs := by
 refine ownsT_keep h fun k hk => hc.2 k ?_
 obtain ⟨_, h2⟩ := h
 rcases h2 with ⟨rfl, _⟩ | ⟨g, cap, cur, rfl, hb, hg, _⟩
 ·cases hk
 ·have : g = k := by simpa [Value.ownBlock] using hk
  subst this
  exact (Array.getElem?_eq_some_iff.1 hg).1
theorem OneO.chg {w w' : World} {b : Nat} {u : Value} {m : By} (h : OneO w b u m) (hc : Chg w.heap.size w w') : OneO w' b u m := by
 obtain ⟨h1, h2, B, h3⟩ := h
 exact ⟨Nat.lt_of_lt_of_le h1 hc.1, (hc.cell h1).trans h2, B, ownsT_chgB h3 hc⟩
theorem OneO.of {B : Nat} {w : World} {v : Value} {m : By} {ls : List By} (h : SlBB B w v (m :: ls)) : ∃ b c u, v = .slice (some ⟨b, 0, none⟩) (m :: ls).length c ∧ OneO w b u m := by
 obtain ⟨b, c, u, rfl, hc, ho⟩ := h.first
 exact ⟨b, c, u, rfl, owns_blk h, hc, _, ho⟩
theorem Out.cell {G : List Nat} {w w' : World} {b i : Nat} (h : Out G w w') (hb : b < w.heap.size) (hn : b ∉ G) : w'.cell? ⟨b, i, none⟩ = w.cell? ⟨b, i, none⟩ := by
 simp only [World.cell?, h.block b hb hn]
theorem badEv_true {o : Ev} (h : badEv o = true) : o.wait < 0 ∨ 1000000 < o.wait ∨ o.which < 0 ∨ o.pos < 0 ∨ o.counter < 0 ∨ 1099511627776 < o.counter := by
 unfold badEv at h
 simp only [Bool.or_eq_true, decide_eq_true_eq] at h
 omega
theorem badEv_false {o : Ev} (h : badEv o = false) : ¬ o.wait < 0 ∧ ¬ 1000000 < o.wait ∧ ¬ o.which < 0 ∧ ¬ o.pos < 0 ∧ ¬ o.counter < 0 ∧ ¬ 1099511627776 < o.counter := by
 unfold badEv at h
 simp only [Bool.or_eq_false_iff, decide_eq_false_iff_not] at h
 obtain ⟨⟨⟨⟨⟨h1, h2⟩, h3⟩, h4⟩, h5⟩, h6⟩ := h
 exact ⟨h1, h2, h3, h4, h5, h6⟩
theorem any_take {l : List Ev} {j : Nat} {x : Ev} (h : l[j]? = some x) (h0 : (l.take j).any badEv = false) (h1 : badEv x = false) : (l.take (j + 1)).any badEv = false := by
 rw [List.take_add_one, h, Option.toList_some, List.any_append, h0]; simp [h1]
theorem any_at {l : List Ev} {j : Nat} {x : Ev} (h : l[j]? = some x) (h1 : badEv x = true) : greatF l = true := by
 have : l.any badEv = true := List.any_eq_true.2 ⟨x, List.mem_of_getElem? h, h1⟩
 unfold greatF; rw [this, Bool.or_true]
structure EvC (W : World) (b off : Nat) (x : Ev) : Prop where
 kind : W.cell? ⟨b, off, none⟩ = some (.int .u8 x.kind)
 to : W.cell? ⟨b, off + 1, none⟩ = some (.int .u8 x.to)
 which : W.cell? ⟨b, off + 2, none⟩ = some (.int .i64 x.which)
 pos : W.cell? ⟨b, off + 3, none⟩ = some (.int .i64 x.pos)
 wait : W.cell? ⟨b, off + 5, none⟩ = some (.int .i64 x.wait)
 counter : W.cell? ⟨b, off + 6, none⟩ = some (.int .i64 x.counter)
 all : W.rangeAt b off (cellsV x)
theorem EvC.of {W : World} {b off : Nat} {x : Ev} (h : W.rangeAt b off (cellsV x)) : EvC W b off x :=
 ⟨by simpa using h 0 _ rfl, h 1 _ rfl, h 2 _ rfl, h 3 _ rfl, h 5 _ rfl, h 6 _ rfl, h⟩
theorem SlT.ev {w : World} {v : Value} {l : List Ev} (h : SlT 23 cellsV w v l) {j : Nat} {x : Ev} (hj : l[j]? = some x) : ∃ b off c, v = .slice (some ⟨b, off, none⟩) l.length c ∧ b < w.heap.size ∧ EvC w b (off + j * 23) x := by
 obtain ⟨ad, n, c, rfl, rfl, _, h4⟩ := h
 obtain ⟨b, off, rfl, hb, hr⟩ := h4 j x hj
 exact ⟨b, off, c, rfl, hb, EvC.of hr⟩
set_option maxHeartbeats 1600000 in
theorem great_any (v : Value) (l : List Ev) (hn : l.length ≤ 9223372036854775807) (w : World) (hv : SlT 23 cellsV w v l) :
  Calls Try.prog 22 #[v] w fun e w' => e = .returned (.bool (greatF l)) ∧ Ext w w' := by
 have HV := kp hv
 obtain ⟨ad, c, rfl⟩ := hv.form
 clear hv
 go_enter Try.func22, Try.ntmps22
 by_cases h60 : (60 : Int) < l.length
 ·have HK := kp (show true = greatF l by unfold greatF; rw [show decide (60 < l.length) = true by simp; omega]; rfl)
  go_wp2_with fail
  all_goals go_ret
  all_goals exact ⟨congrArg (fun z => Ending.returned (.bool z)) HK.out, Ext.refl _⟩
 ·go_wp2_with fail
  all_goals try (exfalso; omega)
  go_loopw [3] (fun i wr => ∃ j : Nat, j ≤ l.length ∧ i = .int .i64 j ∧ Kp ((l.take j).any badEv = false) ∧ Kp (Ext w wr)) (fun i _ => l.length - (intOf i).toNat)
  case atStart => exact ⟨0, by omega, rfl, kp rfl, kp (Ext.refl _)⟩
  case round =>
   obtain ⟨j, hj, rfl, HT, HX⟩ := hrel
   by_cases hlt : j < l.length
   ·obtain ⟨x, hx⟩ : ∃ x, l[j]? = some x := ⟨_, List.getElem?_eq_getElem hlt⟩
    obtain ⟨b, off, c1, hv1, _, hE⟩ := (HV.out.ext HX.out).ev hx
    cases hv1
    have e2 := hE.which
    have e3 := hE.pos
    have e5 := hE.wait
    have e6 := hE.counter
    cases hb : badEv x with
    | true =>
     have HK := kp (any_at hx hb).symm
     have hB := badEv_true hb
     clear hx hb hE
     go_wp2_with fail
     all_goals first | (exfalso; omega) | (go_ret; exact ⟨congrArg (fun z => Ending.returned (.bool z)) HK.out, HX.out⟩)
    | false =>
     have HT2 := kp (any_take hx HT.out hb)
     obtain ⟨f1, f2, f3, f4, f5, f6⟩ := badEv_false hb
     clear hx hb hE
     go_wp2_with fail
     all_goals try (exfalso; omega)
     go_roundw
     case rel => exact ⟨j + 1, by omega, by go_num, HT2, HX⟩
     case measure => simp [intOf]; omega
   ·obtain rfl : j = l.length := by omega
    have HK := kp (show false = greatF l by
     have := HT.out
     rw [List.take_length] at this
     unfold greatF; rw [this, show decide (60 < l.length) = false by simp; omega]; rfl)
    go_wp2_with fail
    all_goals try (exfalso; omega)
    go_ret
    exact ⟨congrArg (fun z => Ending.returned (.bool z)) HK.out, HX.out⟩
theorem owns_open {w : World} {base E n : Nat} {v : Value} {xs : List Value} (h : w.ownsRow base E 1 v n xs) (hn : 0 < n) : ∃ g cap cs, v = .slice (some ⟨g, 0, none⟩) n cap ∧ base ≤ g ∧ Lc w g E cs ∧ n ≤ cap ∧ cap ≤ maxLen ∧ cs.length = cap ∧ cs.take n = xs := by
 obtain ⟨h1, ⟨_, h2⟩ | ⟨g, cap, cur, rfl, hb, hg, h5, h6, h7, h8⟩⟩ := h
 ·omega
 ·exact ⟨g, cap, cur.toList, rfl, hb, hg, h5, h6, by simpa using h7, by simpa using h8⟩
theorem owns_close {w : World} {base E n g cap : Nat} {cs xs : List Value} (hb : base ≤ g) (hl : Lc w g E cs) (h5 : n ≤ cap) (h6 : cap ≤ maxLen) (h7 : cs.length = cap) (h8 : cs.take n = xs) : w.ownsRow base E 1 (.slice (some ⟨g, 0, none⟩) n cap) n xs := by
 refine ⟨?_, .inr ⟨g, cap, cs.toArray, rfl, hb, hl, h5, h6, by simp [h7], by simp [h8]⟩⟩
 rw [← h8, List.length_take]; omega
theorem SlBB.nth {B : Nat} {w : World} {v : Value} {ls : List By} (h : SlBB B w v ls) {j : Nat} {l : By} (hj : ls[j]? = some l) : ∃ b c u, v = .slice (some ⟨b, 0, none⟩) ls.length c ∧ b < w.heap.size ∧ w.cell? ⟨b, j, none⟩ = some u ∧ w.ownsRow B 5 1 u l.length (l.map V8) := by
 obtain ⟨vs, ho, h4, h3⟩ := h
 have hl := (List.getElem?_eq_some_iff.1 hj).1
 obtain ⟨g, cap, cs, rfl, _, hL, h5, h6, h7, h8⟩ := owns_open ho (by omega)
 obtain ⟨u, hu⟩ : ∃ u, vs[j]? = some u := ⟨_, List.getElem?_eq_getElem (by omega)⟩
 refine ⟨g, cap, u, rfl, hL.lt, hL.cell ?_, h3 j u l hu hj⟩
 rw [← h8, List.getElem?_take] at hu
 by_cases q : j < ls.length
 ·rwa [if_pos q] at hu
 ·omega
def MsgR (m : Option By) (w : World) (e : Ending) (w' : World) : Prop := ∃ u, e = .returned (.tuple #[u, .bool m.isSome]) ∧ (∀ b, m = some b → w'.ownsRow w.heap.size 5 1 u b.length (b.map V8)) ∧ (m = none → u = .slice none 0 0) ∧ Ext w w'
theorem msgR_some {m : Option By} {b : By} {u : Value} {w w' : World} (h : m = some b) (ho : w'.ownsRow w.heap.size 5 1 u b.length (b.map V8)) (hx : Ext w w') : MsgR m w (.returned (.tuple #[u, .bool true])) w' := by
 subst h
 exact ⟨u, rfl, fun c hc => by cases hc; exact ho, (fun q => by cases q), hx⟩
theorem msgR_none {m : Option By} {w w' : World} (h : m = none) (hx : Ext w w') : MsgR m w (.returned (.tuple #[.slice none 0 0, .bool false])) w' := by
 subst h
 exact ⟨_, rfl, (fun c hc => by cases hc), fun _ => rfl, hx⟩
theorem mod_nat {x : Int} {n : Nat} (h : 0 ≤ x) : x.tmod n = ((x.toNat % n : Nat) : Int) := by
 rw [Int.tmod_eq_emod_of_nonneg h]
 obtain ⟨m, rfl⟩ := Int.eq_ofNat_of_zero_le h
 simp
theorem owns_nilB {w : World} {g base : Nat} (h : Lc w g 5 []) (hb : base ≤ g) : w.ownsRow base 5 1 (.slice (some ⟨g, 0, none⟩) 0 0) ([] : By).length (([] : By).map V8) :=
 owns_close (cs := []) hb h (Nat.le_refl _) (by unfold maxLen; omega) rfl rfl
set_option maxRecDepth 4000 in
set_option maxHeartbeats 1600000 in
theorem message_any (o : Ev) (hc0 : 0 ≤ o.counter) (hc1 : o.counter ≤ 1099511627776) (hw0 : 0 ≤ o.which) (hp0 : 0 ≤ o.pos) (sent : List By) (hsl : ∀ m ∈ sent, m.length ≤ 100000) (hsn : sent.length ≤ 1000) (B : Nat) (v : Value) (w : World) (hv : SlBB B w v sent) :
  Calls Try.prog 23 #[.agg (cellsV o).toArray, v] w (MsgR (msgF o sent) w) := by
 have H := kp (Loc.start w)
 have HV := kp hv
 have HSL := kp hsl
 obtain ⟨ad, c, rfl⟩ := hv.form
 have HM := kp (fun w => rmessage1_any (zv 16) o.counter hc0 (by omega) o.nonce w)
 clear hv hc0 hc1 hsl
 go_enter Try.func23, Try.ntmps23
 by_cases h3 : o.kind = 3
 ·have hk3 : (o.kind == 3) = true := by simp [h3]
  have HK := kp (show msgF o sent = some (signedF (zv 16).1 1 o.counter o.nonce.1 []) from by unfold msgF; rw [if_pos h3])
  go_wp2_with (first | ((with_reducible refine isBx 2 57 ?_); (refine L_box H rfl 57 _ rfl (cat (partsE o)) rfl ?_); clear H; intro g2 w2 HGg2 HEg2 H; simp only [pA]) | ((with_reducible refine isLd 5 ?_); (refine L_f1 H rfl 5 _ rfl 0 rfl _ rfl _ rfl _ rfl Try.underlying5 rfl ?_); simp only [pA]) | ((with_reducible refine isLd 3 ?_); (refine L_f1 H rfl 3 _ rfl 0 rfl _ rfl _ rfl _ rfl Try.underlying3 rfl ?_); simp only [pA]) | ((with_reducible show wpList _ _ _ (Oper.mk _ (Op.build 25 _) _ _ _ _ :: _) _ _); (refine L_bd rfl 25 _ rfl #[] (by kernel_rfl) ((zv 16).1.map V8) (fun _ => by kernel_rfl) ?_); simp only [pA]) | ((with_reducible refine isLd 26 ?_); (refine L_fv H rfl 26 _ rfl 0 rfl _ rfl _ rfl rfl Try.underlying26 rfl (by kernel_rfl) ?_); simp only [pA]) | (go_at_call 44; refine (HM.out _).mono ?_; rintro e wa ⟨u, rfl, ho, hx⟩; have HO := kp ho; clear ho; replace H := kp (H.out.ext hx); have HXC := kp hx; clear hx))
  go_ret2
  exact msgR_some HK.out (owns_weak HO.out HEg2.out.size) H.out.1
 ·have hk3 : (o.kind == 3) = false := by simp [h3]
  by_cases h2 : o.kind = 2
  ·have hk2 : (o.kind != 2) = false := by simp [h2]
   cases sent with
   | nil =>
    have HK := kp (show msgF o [] = none from by unfold msgF; rw [if_neg h3, if_pos (.inr rfl)])
    go_wp2_with (first | ((with_reducible refine isBx 2 57 ?_); (refine L_box H rfl 57 _ rfl (cat (partsE o)) rfl ?_); clear H; intro g2 w2 HGg2 HEg2 H; simp only [pA]) | ((with_reducible refine isLd 5 ?_); (refine L_f1 H rfl 5 _ rfl 0 rfl _ rfl _ rfl _ rfl Try.underlying5 rfl ?_); simp only [pA]))
    go_ret2
    exact msgR_none HK.out H.out.1
   | cons m0 ms =>
    generalize hse : m0 :: ms = sent at *
    have hs0 : ((sent.length : Int) == 0) = false := by rw [beq_eq_false_iff_ne, ← hse]; simp; omega
    have hln : 0 < sent.length := by rw [← hse]; simp
    have hT := mod_nat (n := sent.length) hw0
    obtain ⟨i, hi⟩ : ∃ i, i = o.which.toNat % sent.length := ⟨_, rfl⟩
    rw [← hi] at hT
    have hil : i < sent.length := by rw [hi]; exact Nat.mod_lt _ hln
    obtain ⟨m, hm⟩ : ∃ m, sent[i]? = some m := ⟨_, List.getElem?_eq_getElem hil⟩
    have HK := kp (show msgF o sent = some (altF o m) from by
     unfold msgF
     rw [if_neg h3, if_neg (by rintro (q | q); exact q h2; rw [q] at hln; exact absurd hln (by decide)), ← hi, List.getD_eq_getElem?_getD, hm]; rfl)
    have HML := kp (HSL.out m (List.mem_of_getElem? hm))
    obtain ⟨sb, sc, u, hv1, hsb, hcu, hou⟩ := HV.out.nth hm
    cases hv1
    obtain ⟨um, uc, rfl⟩ := owns_form hou
    have HCE := kp (show ∀ W, Ext w W → W.cell? ⟨sb, i, none⟩ = some (.slice um m.length uc) from fun W hx => (hx.cell hsb).trans hcu)
    have HOU := kp hou
    clear hm hi hcu hou hsb hse h3 h2 HSL HV HM
    generalize h5 : (Code.region 5 _ _ : Code) = R5
    generalize h6 : (Code.region 6 _ _ : Code) = R6
    generalize h7 : (Code.region 7 _ _ : Code) = R7
    go_wp2_with (first | ((with_reducible refine isBx 2 57 ?_); (refine L_box H rfl 57 _ rfl (cat (partsE o)) rfl ?_); clear H; intro g2 w2 HGg2 HEg2 H; simp only [pA]) | ((with_reducible refine isLd 5 ?_); (refine L_f1 H rfl 5 _ rfl 0 rfl _ rfl _ rfl _ rfl Try.underlying5 rfl ?_); simp only [pA]))
    have HLT2 := kp (H.out.lt 0 rfl)
    subst h5
    go_wp2_with (first | (((with_reducible show wpList _ _ _ (Oper.mk (some 24) (Op.buildSlice 33 _ _) _ _ _ _ :: _) _ _); (refine L_bs H (by kernel_rfl) 33 0 _ rfl (#[]) (by kernel_rfl) 5 ([]) (fun _ => by kernel_rfl) ?_); clear H; intro g24 w24 HGg24 HEg24 H; simp only [pA]); have hc := HCE.out _ H.out.1) | ((with_reducible refine isLd 3 ?_); (refine L_f1 H rfl 3 _ rfl 1 rfl _ rfl _ rfl _ rfl Try.underlying3 rfl ?_); simp only [pA]) | (at_builtin; (have HSX := kp ((SlB.of_owns HOU.out).ext H.out.1); have HOX2 := kp (owns_nilB (base := g2 + 1) (H.out.at 0 rfl) (by have := HLT2.out; have := HGg24.out; omega)); have H2 := kp H.out.tl; clear H; have H := H2; clear H2; refine L_appB H rfl _ _ rfl (g2 + 1) (by have q1 := HGg2.out; have q2 := HEg2.out.size; have q3 := HEg24.out.size; have q4 := HLT2.out; omega) (by have q1 := HGg2.out; have q2 := HEg2.out.size; have q3 := HEg24.out.size; have q4 := HLT2.out; omega) (by intro zz hz; simp at hz; have q1 := HGg2.out; have q2 := HEg2.out.size; have q3 := HEg24.out.size; have q4 := HLT2.out; omega) _ _ rfl HOX2.out _ _ rfl HSX.out ((by have := HML.out; simp; omega)) ?_; clear H HSX HOX2; intro vb wb HO2 HGwb H; simp only [pA])))
    have HO3 := kp (show wb.ownsRow (g2 + 1) 5 1 vb m.length (m.map V8) from by simpa using HO2.out)
    have HB1 := kp (show w.heap.size ≤ g2 + 1 from by have := HGg2.out; omega)
    clear HO2 HCE HOU
    by_cases h0 : 0 < m.length
    ·obtain ⟨g, cap, cs, rfl, hge, hL, hnc, hcm, hcl, hct⟩ := owns_open HO3.out h0
     have HLG := kp (show g2 < g from by omega)
     have H2 := kp (H.out.add (g2 + 1) (by intro z hz; simp at hz; omega) HB1.out hge hL)
     clear H
     have H := H2
     clear H2
     have hT2 := mod_nat (n := m.length) hp0
     obtain ⟨k, hk⟩ : ∃ k, k = o.pos.toNat % m.length := ⟨_, rfl⟩
     rw [← hk] at hT2
     have hkl : k < m.length := by rw [hk]; exact Nat.mod_lt _ h0
     obtain ⟨x, hx⟩ : ∃ x, m[k]? = some x := ⟨_, List.getElem?_eq_getElem hkl⟩
     have HCK := kp (show cs[k]? = some (.int .u8 (wI x)) from by
      have h1 : (m.map V8)[k]? = some (V8 x) := by rw [List.getElem?_map, hx]; rfl
      rw [← hct, List.getElem?_take, if_pos hkl] at h1
      exact h1)
     have HKC := kp (show k < cs.length from by omega)
     have HAL := kp (show (cs.set k (.int .u8 (wI (x ^^^ o.by_)))).take m.length = (altF o m).map V8 ∧ (altF o m).length = m.length from by
      have h1 : altF o m = m.set k (x ^^^ o.by_) := by
       unfold altF
       rw [← hk, List.getD_eq_getElem?_getD, hx]; rfl
      rw [h1]
      refine ⟨?_, List.length_set ..⟩
      rw [List.take_set, hct, List.map_set])
     have hm0 : ((m.length : Int) == 0) = false := by rw [beq_eq_false_iff_ne]; omega
     have HCAP := kp (And.intro hnc (And.intro hcm hcl))
     have HGE := kp hge
     clear hx hk hct hL hnc hcm hcl hge
     subst h6
     go_wp2_with fail
     all_goals try (exfalso; omega)
     subst h7
     refine region_free H (tabS [(37, fun vQ _ => vQ = .slice (some ⟨g, 0, none⟩) m.length cap), (38, fun vQ _ => vQ = .pointer (some ⟨g2, 3, none⟩)), (39, fun vQ _ => vQ = .int .i64 o.pos), (40, fun vQ _ => vQ = .slice (some ⟨g, 0, none⟩) m.length cap), (41, fun vQ _ => vQ = .int .i64 m.length), (42, fun vQ _ => vQ = .int .i64 k), (43, fun vQ _ => vQ = .slice (some ⟨g, 0, none⟩) m.length cap), (44, fun vQ _ => vQ = .pointer (some ⟨g2, 3, none⟩)), (45, fun vQ _ => vQ = .int .i64 o.pos), (46, fun vQ _ => vQ = .slice (some ⟨g, 0, none⟩) m.length cap), (47, fun vQ _ => vQ = .int .i64 m.length), (48, fun vQ _ => vQ = .int .i64 k), (49, fun vQ _ => vQ = .pointer (some ⟨g, k, none⟩)), (50, fun vQ _ => vQ = .int .u8 (wI x)), (51, fun vQ _ => vQ = .pointer (some ⟨g2, 4, none⟩)), (52, fun vQ _ => vQ = .int .u8 (wI o.by_)), (53, fun vQ _ => vQ = .int .u8 (wI (x ^^^ o.by_))), (54, fun vQ _ => vQ = .pointer (some ⟨g, k, none⟩))]) [] (tabS_out _ _ (by simp only [List.forall_mem_cons, mono_eqO, true_and]; simp)) 18 (by kernel_rfl) (by kernel_rfl) (by kernel_rfl) (by kernel_rfl) [] [] rfl rfl (by decide) (by decide) (by decide) trivial ?_
     simp only [List.take_succ_cons, List.take_zero]
     refine ⟨fun w_ o_ S_ => ?_, fun v37 => ?_⟩
     ·clear S_
      clear o_
      go_wp2_with fail
      exact kso
     simp only [pA]
     refine ⟨fun w_ o_ S_ => ?_, fun v38 => ?_⟩
     ·clear S_
      clear o_
      go_wp2_with fail
      exact kso
     simp only [pA]
     refine ⟨fun w_ o_ S_ => ?_, fun v39 => ?_⟩
     ·obtain rfl : v38 = .pointer (some ⟨g2, 3, none⟩) := hsR S_ 38 rfl
      clear S_
      have H := kp (kK [0, 1] H o_)
      have HOX := kp o_
      clear o_
      go_wp2_with ((with_reducible refine isLd 3 ?_); (refine L_f1 H rfl 3 _ rfl 1 rfl _ rfl _ rfl _ rfl Try.underlying3 rfl ?_); simp only [pA])
      exact kso
     simp only [pA]
     refine ⟨fun w_ o_ S_ => ?_, fun v40 => ?_⟩
     ·clear S_
      clear o_
      go_wp2_with fail
      exact kso
     simp only [pA]
     refine ⟨fun w_ o_ S_ => ?_, fun v41 => ?_⟩
     ·obtain rfl : v40 = .slice (some ⟨g, 0, none⟩) m.length cap := hsR S_ 40 rfl
      clear S_ o_
      go_wp2_with fail
      exact kso
     simp only [pA]
     refine ⟨fun w_ o_ S_ => ?_, fun v42 => ?_⟩
     ·obtain rfl : v39 = .int .i64 o.pos := hsR S_ 39 rfl
      obtain rfl : v41 = .int .i64 m.length := hsR S_ 41 rfl
      clear S_ o_
      go_wp2_with fail
      exact kso
     simp only [pA]
     refine ⟨fun w_ o_ S_ => ?_, fun v43 => ?_⟩
     ·clear S_
      clear o_
      go_wp2_with fail
      exact kso
     simp only [pA]
     refine ⟨fun w_ o_ S_ => ?_, fun v44 => ?_⟩
     ·clear S_
      clear o_
      go_wp2_with fail
      exact kso
     simp only [pA]
     refine ⟨fun w_ o_ S_ => ?_, fun v45 => ?_⟩
     ·obtain rfl : v44 = .pointer (some ⟨g2, 3, none⟩) := hsR S_ 44 rfl
      clear S_
      have H := kp (kK [0, 1] H o_)
      have HOX := kp o_
      clear o_
      go_wp2_with ((with_reducible refine isLd 3 ?_); (refine L_f1 H rfl 3 _ rfl 1 rfl _ rfl _ rfl _ rfl Try.underlying3 rfl ?_); simp only [pA])
      exact kso
     simp only [pA]
     refine ⟨fun w_ o_ S_ => ?_, fun v46 => ?_⟩
     ·clear S_
      clear o_
      go_wp2_with fail
      exact kso
     simp only [pA]
     refine ⟨fun w_ o_ S_ => ?_, fun v47 => ?_⟩
     ·obtain rfl : v46 = .slice (some ⟨g, 0, none⟩) m.length cap := hsR S_ 46 rfl
      clear S_ o_
      go_wp2_with fail
      exact kso
     simp only [pA]
     refine ⟨fun w_ o_ S_ => ?_, fun v48 => ?_⟩
     ·obtain rfl : v45 = .int .i64 o.pos := hsR S_ 45 rfl
      obtain rfl : v47 = .int .i64 m.length := hsR S_ 47 rfl
      clear S_ o_
      go_wp2_with fail
      exact kso
     simp only [pA]
     refine ⟨fun w_ o_ S_ => ?_, fun v49 => ?_⟩
     ·obtain rfl : v43 = .slice (some ⟨g, 0, none⟩) m.length cap := hsR S_ 43 rfl
      obtain rfl : v48 = .int .i64 k := hsR S_ 48 rfl
      clear S_ o_
      go_wp2_with fail
      exact kso
     simp only [pA]
     refine ⟨fun w_ o_ S_ => ?_, fun v50 => ?_⟩
     ·obtain rfl : v49 = .pointer (some ⟨g, k, none⟩) := hsR S_ 49 rfl
      clear S_
      have H := kp (kK [0, 1] H o_)
      have HOX := kp o_
      clear o_
      have hc := run_load_cell H.out 0 rfl _ _ HCK.out
      go_wp2_with fail
      exact kso
     simp only [pA]
     refine ⟨fun w_ o_ S_ => ?_, fun v51 => ?_⟩
     ·clear S_
      clear o_
      go_wp2_with fail
      exact kso
     simp only [pA]
     refine ⟨fun w_ o_ S_ => ?_, fun v52 => ?_⟩
     ·obtain rfl : v51 = .pointer (some ⟨g2, 4, none⟩) := hsR S_ 51 rfl
      clear S_
      have H := kp (kK [0, 1] H o_)
      have HOX := kp o_
      clear o_
      go_wp2_with ((with_reducible refine isLd 5 ?_); (refine L_f1 H rfl 5 _ rfl 1 rfl _ rfl _ rfl _ rfl Try.underlying5 rfl ?_); simp only [pA])
      exact kso
     simp only [pA]
     refine ⟨fun w_ o_ S_ => ?_, fun v53 => ?_⟩
     ·obtain rfl : v50 = .int .u8 (wI x) := hsR S_ 50 rfl
      obtain rfl : v52 = .int .u8 (wI o.by_) := hsR S_ 52 rfl
      clear S_ o_
      go_wp2_with fail
      exact kso
     simp only [pA]
     refine ⟨fun w_ o_ S_ => ?_, fun v54 => ?_⟩
     ·obtain rfl : v37 = .slice (some ⟨g, 0, none⟩) m.length cap := hsR S_ 37 rfl
      obtain rfl : v42 = .int .i64 k := hsR S_ 42 rfl
      clear S_ o_
      go_wp2_with fail
      exact kso
     simp only [pA]
     clear H
     intro wc HOX H hfin
     obtain rfl : v37 = .slice (some ⟨g, 0, none⟩) m.length cap := hfin 37 (by decide)
     obtain rfl : v38 = .pointer (some ⟨g2, 3, none⟩) := hfin 38 (by decide)
     obtain rfl : v39 = .int .i64 o.pos := hfin 39 (by decide)
     obtain rfl : v40 = .slice (some ⟨g, 0, none⟩) m.length cap := hfin 40 (by decide)
     obtain rfl : v41 = .int .i64 m.length := hfin 41 (by decide)
     obtain rfl : v42 = .int .i64 k := hfin 42 (by decide)
     obtain rfl : v43 = .slice (some ⟨g, 0, none⟩) m.length cap := hfin 43 (by decide)
     obtain rfl : v44 = .pointer (some ⟨g2, 3, none⟩) := hfin 44 (by decide)
     obtain rfl : v45 = .int .i64 o.pos := hfin 45 (by decide)
     obtain rfl : v46 = .slice (some ⟨g, 0, none⟩) m.length cap := hfin 46 (by decide)
     obtain rfl : v47 = .int .i64 m.length := hfin 47 (by decide)
     obtain rfl : v48 = .int .i64 k := hfin 48 (by decide)
     obtain rfl : v49 = .pointer (some ⟨g, k, none⟩) := hfin 49 (by decide)
     obtain rfl : v50 = .int .u8 (wI x) := hfin 50 (by decide)
     obtain rfl : v51 = .pointer (some ⟨g2, 4, none⟩) := hfin 51 (by decide)
     obtain rfl : v52 = .int .u8 (wI o.by_) := hfin 52 (by decide)
     obtain rfl : v53 = .int .u8 (wI (x ^^^ o.by_)) := hfin 53 (by decide)
     obtain rfl : v54 = .pointer (some ⟨g, k, none⟩) := hfin 54 (by decide)
     clear hfin
     simp only [List.drop_succ_cons, List.drop_zero]
     simp only [applyS] at H
     have HXN := kp (HOX.out.ext (Ext.refl wb) (fun g hg => by cases hg))
     go_wp2_with ((with_reducible refine isSt 5 ?_); (refine L_cell H rfl rfl 5 _ _ rfl 0 rfl (k) rfl (.int .u8 (wI (x ^^^ o.by_))) rfl (rfl) (size5) (HKC.out) (cs.set k (.int .u8 (wI (x ^^^ o.by_)))) (rfl) ?_; clear H; intro wz HWwz H; simp only [szA] at H))
     go_ret2
     refine msgR_some HK.out ?_ H.out.1
     rw [HAL.out.2]
     exact owns_close (Nat.le_trans HB1.out HGE.out) (H.out.at 0 rfl) HCAP.out.1 HCAP.out.2.1 (by rw [List.length_set]; exact HCAP.out.2.2) HAL.out.1
    ·obtain rfl : m = [] := List.eq_nil_of_length_eq_zero (by omega)
     obtain ⟨va, vc, rfl⟩ := owns_form HO3.out
     subst h6
     go_wp2_with fail
     go_ret2
     exact msgR_some HK.out (owns_weak HO3.out HB1.out) H.out.1
  ·have hk2 : (o.kind != 2) = true := by simp [h2]
   have HK := kp (show msgF o sent = none from by unfold msgF; rw [if_neg h3, if_pos (.inl h2)])
   go_wp2_with (first | ((with_reducible refine isBx 2 57 ?_); (refine L_box H rfl 57 _ rfl (cat (partsE o)) rfl ?_); clear H; intro g2 w2 HGg2 HEg2 H; simp only [pA]) | ((with_reducible refine isLd 5 ?_); (refine L_f1 H rfl 5 _ rfl 0 rfl _ rfl _ rfl _ rfl Try.underlying5 rfl ?_); simp only [pA]))
   go_ret2
   exact msgR_none HK.out H.out.1
set_option maxRecDepth 4000 in
set_option maxHeartbeats 1600000 in
theorem rsame_any (B1 B2 : Nat) (va vb : Value) (ls : List By) (hl : ∀ m ∈ ls, m.length ≤ 100000) (w : World) (ha : SlBB B1 w va ls) (hb : SlBB B2 w vb ls) (hn : ls.length ≤ 1000) :
  Calls Try.prog 12 #[va, vb] w fun e w' => e = .returned (.bool true) ∧ Ext w w' := by
 have H := kp (Loc.start w)
 have HA := kp ha
 have HB := kp hb
 have HL := kp hl
 obtain ⟨aa, ca, rfl⟩ := ha.form
 obtain ⟨ab, cb, rfl⟩ := hb.form
 clear ha hb hl
 go_enter Try.func12, Try.ntmps12
 go_wp2_with fail
 all_goals try (exfalso; omega)
 go_loopw [5] (fun i wr => ∃ k : Nat, k ≤ ls.length ∧ i = .int .i64 k ∧ Kp (Loc w wr [])) (fun i _ => ls.length - (intOf i).toNat)
 case atStart => exact ⟨0, by omega, rfl, H⟩
 case round =>
  clear H
  obtain ⟨k, hk, rfl, H⟩ := hrel
  by_cases hlt : k < ls.length
  ·obtain ⟨l, hm⟩ : ∃ l, ls[k]? = some l := ⟨_, List.getElem?_eq_getElem hlt⟩
   have HLL := kp (HL.out l (List.mem_of_getElem? hm))
   obtain ⟨b1, c1, u1, e1, hb1, hc1, ho1⟩ := HA.out.nth hm
   obtain ⟨b2, c2, u2, e2, hb2, hc2, ho2⟩ := HB.out.nth hm
   cases e1
   cases e2
   have HC1 := kp (show ∀ W, Ext wr W → W.cell? ⟨b1, k, none⟩ = some u1 from fun W hx => ((H.out.1.trans hx).cell hb1).trans hc1)
   have HC2 := kp (show ∀ W, Ext wr W → W.cell? ⟨b2, k, none⟩ = some u2 from fun W hx => ((H.out.1.trans hx).cell hb2).trans hc2)
   have HS := kp (show ∀ W, Ext wr W → Calls Try.prog 19 #[u1, u2] W (fun e w' => e = .returned (.bool true) ∧ Ext W w') from fun W hx => by
    have h := same22_any ((SlB.of_owns ho1).ext (H.out.1.trans hx)) ((SlB.of_owns ho2).ext (H.out.1.trans hx)) (by have := HLL.out; omega)
    rwa [beq_self_eq_true] at h)
   clear hm hc1 hc2 ho1 ho2 hb1 hb2
   go_wp2_with fail
   all_goals try (exfalso; omega)
   refine region_z H 10 (by kernel_rfl) (by kernel_rfl) (by kernel_rfl) (by kernel_rfl) (by decide) (Nat.le_of_ble_eq_true (by kernel_rfl)) ?_
   apply Exists.intro
   refine ⟨fun xz2 => ?_, fun wz2 HXZ H => ?_⟩
   ·simp only [List.take_succ_cons, List.take_zero]
    unfold Cx
    repeat (first | ((with_reducible show wpQuiet _ _ _ _ (Oper.mk _ (Op.load 33 _) _ _ _ _ :: _) _); go_big_quiet_want; refine qz_c 33 _ rfl _ _ rfl (u1) (HC1.out) Try.underlying33 rfl ?_; simp only [pA]; go_big_quiet_on) | ((with_reducible show wpQuiet _ _ _ _ (Oper.mk _ (Op.load 33 _) _ _ _ _ :: _) _); go_big_quiet_want; refine qz_c 33 _ rfl _ _ rfl (u2) (HC2.out) Try.underlying33 rfl ?_; simp only [pA]; go_big_quiet_on) | go_big_quiet_step ((go_at_call 19; exact Calls.cx_of (HS.out _ (Ext.more _ _)))))
    exact wpQuiet_nil rfl
   simp only [List.drop_succ_cons, List.drop_zero]
   go_wp2_with fail
   go_roundw
   case rel => exact ⟨k + 1, by omega, by go_num, H⟩
   case measure => simp [intOf]; omega
  ·obtain rfl : k = ls.length := by omega
   go_wp2_with fail
   all_goals try (exfalso; omega)
   go_ret
   exact ⟨rfl, H.out.1⟩
end Go.Proofs.Ytibncchobkaaiaa
namespace Go.Proofs.Ytibncchobkaaiaa
open Go.RowKit Go.WideShapes
structure Fw.Ok (s : Fw) : Prop where
 r0 : 0 ≤ s.role
 r1 : s.role < 256
 s0 : 0 ≤ s.stage
 s1 : s.stage < 256
section
variable {H : Type} {enc : TypeId × Value → H} {w : World} {base : Nat} {cs : List Value}
end
section
variable {H : Type} {enc : TypeId × Value → H} {w : World} {r : Reach} {b0 base : Nat} {v : Value} {d : DataW H} {p : List MemPlace}
end
section
variable {P : Program}
structure ElemT (P : Program) (t e : TypeId) (sz bytes : Nat) : Prop where
 under : P.underlying t = some (.slice e)
 info : ∃ i z, P.info? e = some i ∧ i.zero = some z ∧ i.size = sz ∧ i.bytes = bytes ∧ z.cells.size = sz
 pos : 0 < sz
end
theorem ownsT_lt {w : World} {base E n sz : Nat} {v : Value} {xs : List Value} (h : w.ownsRow base E sz v n xs) : ∀ k, v.ownBlock = some k → k < w.heap.size := by
 intro k hk
 obtain ⟨_, h2⟩ := h
 rcases h2 with ⟨rfl, _⟩ | ⟨g, cap, cur, rfl, hb, hg, _⟩
 ·cases hk
 ·have : g = k := by simpa [Value.ownBlock] using hk
  subst this
  exact (Array.getElem?_eq_some_iff.1 hg).1
theorem ownsT_grown {w w' : World} {base E n sz : Nat} {v : Value} {xs : List Value} {row : Option Nat} (h : w.ownsRow base E sz v n xs) (hg : w.grownBy w' row) (hne : ∀ k, v.ownBlock = some k → row ≠ some k) : w'.ownsRow base E sz v n xs :=
 ownsT_keep h fun k hk => hg.block k (ownsT_lt h k hk) (fun e => hne k hk e.symm)
def LoopP (D : List Tmp) (R : (Tmp → Value) → World → Prop) (mu : (Tmp → Value) → World → Nat) (a0 : Act) (m : Nat) (a' : Act) (w' : World) : Prop :=
 a'.defers = a0.defers ∧ a'.tmps = putMany (fun d => a'.tmps.getD d undef) D a0.tmps ∧ R (fun d => a'.tmps.getD d undef) w' ∧ mu (fun d => a'.tmps.getD d undef) w' < m
theorem LoopP.of {D : List Tmp} {R : (Tmp → Value) → World → Prop} {mu : (Tmp → Value) → World → Nat} {a0 a' : Act} {m : Nat} {w' : World} (hd : a'.defers = a0.defers) (ht : a'.tmps = putMany (fun d => a'.tmps.getD d undef) D a0.tmps) (hr : R (fun d => a'.tmps.getD d undef) w') (hm : mu (fun d => a'.tmps.getD d undef) w' < m) : LoopP D R mu a0 m a' w' := ⟨hd, ht, hr, hm⟩
theorem act_eq {a a' : Act} {t : Array Value} (hd : a'.defers = a.defers) (ht : a'.tmps = t) : a' = ⟨t, a.defers⟩ := by
 cases a' with
 | mk t2 d => simp only at hd ht; rw [← hd]; congr 1
theorem wp_loopC {P : Program} {c : Code} {Q : Exit → Act → World → Prop} {a : Act} {w : World} (D : List Tmp) (R : (Tmp → Value) → World → Prop) (mu : (Tmp → Value) → World → Nat)
  (ht : a.tmps = putMany (fun d => a.tmps.getD d undef) D a.tmps) (h0 : R (fun d => a.tmps.getD d undef) w)
  (round : ∀ vs w', R vs w' → c.wp P (Exit.then (LoopP D R mu a (mu vs w')) Q) ⟨putMany vs D a.tmps, a.defers⟩ w') : (Code.loop c).wp P Q a w := by
 refine wp_loop (fun a' w' => a'.defers = a.defers ∧ a'.tmps = putMany (fun d => a'.tmps.getD d undef) D a.tmps ∧ R (fun d => a'.tmps.getD d undef) w') (fun a' w' => mu (fun d => a'.tmps.getD d undef) w') ⟨rfl, ht, h0⟩ ?_
 rintro a' w' ⟨h1, h2, h3⟩
 have h := round _ _ h3
 rw [← act_eq h1 h2] at h
 refine Code.wp_mono (fun e b v hb => ?_) h
 cases e with
 | normal =>
  obtain ⟨k1, k2, k3, k4⟩ := hb
  exact ⟨⟨k1, k2, k3⟩, k4⟩
 | _ => exact hb
end Go.Proofs.Ytibncchobkaaiaa
