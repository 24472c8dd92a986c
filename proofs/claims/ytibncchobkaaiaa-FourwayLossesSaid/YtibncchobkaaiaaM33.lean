/- Texts of this proof, put together: LosP, LoopC. -/
import Derived.Test.YtibncchobkaaiaaM31
import Derived.Test.YtibncchobkaaiaaM10
import Derived.Test.YtibncchobkaaiaaM1
namespace Go.Proofs.Ytibncchobkaaiaa
open Go.RowKit
abbrev own1 (p : Pr) : Pr := { p with otherK := p.master }
def SameK (p : Pr) : Prop := p.otherK = p.master
def L0 (p : Pr) (i : Nat) (n : Int) (s : Fw × Fw) (m : By) : Prop := s.1 = stA1 p (i + 1) (n + 100000) ∧ m = ms1 p (i + 1) ∧ (s.2 = stS0 p ∨ s.2 = stS2 p)
def L1 (p : Pr) (i : Nat) (n : Int) (s : Fw × Fw) (m : By) : Prop := ∃ r : Int, 1 ≤ r ∧ r ≤ 4 ∧ s.1 = stA3 p (r + 1 + i) (1 + i) (n + 100000) ∧ m = ms3 p (r + 1 + i) ∧ (s.2 = stS2 p ∨ ∃ j : Int, 0 ≤ j ∧ j < r + 1 + i ∧ s.2 = stS4 p j)
def LSt (p : Pr) (ph i : Nat) (n : Int) (s : Fw × Fw) (m : By) : Prop := if ph = 0 then L0 p i n s m else L1 p i n s m
theorem lst_len {p : Pr} {ph i : Nat} {n : Int} {s : Fw × Fw} {m : By} (h : LSt p ph i n s m) : m.length ≤ 100000 := by
 unfold LSt at h
 split at h
 ·rw [h.2.1, ms1_len]; decide
 ·obtain ⟨r, _, _, _, h, _⟩ := h; rw [h, ms3_len]; decide
def LTick (p : Pr) (ph i : Nat) (n : Int) (s1 t : Fw) : Prop := i < 3 → ∃ u m, tickF s1 (n + 100000) = (u, [m], 0) ∧ LSt p ph (i + 1) (n + 100000) (u, t) m
theorem lst_b {p : Pr} (h : p.Ok) {ph i : Nat} {n : Int} {s1 t : Fw}  (h0 : ph = 0 → s1 = stA1 p (i + 1) (n + 100000) ∧ (t = stS0 p ∨ t = stS2 p)) (h1 : ph ≠ 0 → ∃ r : Int, 1 ≤ r ∧ r ≤ 4 ∧ s1 = stA3 p (r + 1 + i) (1 + i) (n + 100000) ∧ (t = stS2 p ∨ ∃ j : Int, 0 ≤ j ∧ j ≤ r + 1 + i ∧ t = stS4 p j)) (n0 : 0 ≤ n) (n1 : n ≤ 1000000) : LTick p ph i n s1 t := by
 intro hi
 have hn : NowOk (n + 100000) := by unfold NowOk; omega
 have hd : DueOk (n + 100000) := by unfold DueOk; omega
 by_cases hp : ph = 0
 ·obtain ⟨rfl, h2⟩ := h0 hp
  have e := st_tick1 h (k := i + 1) (d := n + 100000) (n := n + 100000) (by omega) (by omega) hd hn (Int.le_refl _)
  refine ⟨_, _, e, ?_⟩
  unfold LSt
  rw [if_pos hp]
  refine ⟨?_, ?_, h2⟩
  ·show stA1 p _ _ = stA1 p _ _
   congr 1
  ·congr 1
 ·obtain ⟨r, r1, r4, rfl, h3⟩ := h1 hp
  have e := st_tick3 h (k := r + 1 + i) (t := 1 + i) (d := n + 100000) (n := n + 100000) (by omega) (by omega) (by omega) (by omega) hd hn (Int.le_refl _)
  refine ⟨_, _, e, ?_⟩
  unfold LSt
  rw [if_neg hp]
  refine ⟨r, r1, r4, ?_, ?_, ?_⟩
  ·show stA3 p _ _ _ = stA3 p _ _ _
   congr 1 <;> omega
  ·congr 1; omega
  ·rcases h3 with h3 | ⟨j, j0, j1, h3⟩
   ·exact .inl h3
   ·exact .inr ⟨j, j0, by omega, h3⟩
theorem lst_t {p : Pr} (h : p.Ok) {ph i : Nat} {n : Int} {s1 s2 : Fw} {m : By} (hl : LSt p ph i n (s1, s2) m) (n0 : 0 ≤ n) (n1 : n ≤ 1000000) : LTick p ph i n s1 s2 := by
 unfold LSt at hl
 refine lst_b h (fun hp => ?_) (fun hp => ?_) n0 n1
 ·rw [if_pos hp] at hl
  exact ⟨hl.1, hl.2.2⟩
 ·rw [if_neg hp] at hl
  obtain ⟨r, r1, r4, h1, _, h3⟩ := hl
  refine ⟨r, r1, r4, h1, ?_⟩
  rcases h3 with h3 | ⟨j, j0, j1, h3⟩
  ·exact .inl h3
  ·exact .inr ⟨j, j0, by omega, h3⟩
structure LAns (p : Pr) (ph i : Nat) (n : Int) (s1 t : Fw) (a : By) (r : Res) : Prop where
 tick : LTick p ph i n s1 t
 len : a.length ≤ 100000
 ans : handleF s1 a n = r
 ok : r.2.2 = 0
 zero : ph = 0 → ∃ m', r.2.1 = [m'] ∧ LSt p 1 0 n (r.1, t) m'
 one : ph ≠ 0 → r.2.1 = [] ∧ ∃ k, r.1 = stA4 p k ∧ t = stS4 p k
theorem lst_a {p : Pr} (h : p.Ok) (hm : p.otherK = p.master) {ph i : Nat} {n : Int} {s1 s2 : Fw} {m : By} (hl : LSt p ph i n (s1, s2) m) (hi : i ≤ 3) (n0 : 0 ≤ n) (n1 : n ≤ 1000000) : ∃ t a r, handleF s2 m n = (t, [a], 0) ∧ LAns p ph i n s1 t a r := by
 have hn : NowOk n := by unfold NowOk; omega
 have hd : DueOk (n + 100000) := hn.due
 unfold LSt at hl
 split at hl
 ·rename_i hp
  obtain ⟨h1, h2, h3⟩ := hl
  have h1 : s1 = stA1 p (i + 1) (n + 100000) := h1
  have h3 : s2 = stS0 p ∨ s2 = stS2 p := h3
  subst h1 h2
  have hg : GoodS s2 := by rcases h3 with rfl | rfl; exact goodS0 h; exact goodS2 h hm
  have e1 := st_first hm h3 hg (k := i + 1) (n := n) (by omega) (by omega) hn
  have e2 := st_second h (k := i + 1) (d := n + 100000) (n := n) (by omega) (by omega) hd hn
  refine ⟨_, _, _, e1, ⟨lst_b h (fun _ => ⟨rfl, .inr rfl⟩) (fun q => absurd hp q) n0 n1, by rw [ms2_len]; decide, e2, rfl, fun _ => ⟨_, rfl, ?_⟩, fun q => absurd hp q⟩⟩
  unfold LSt
  rw [if_neg (by decide)]
  refine ⟨i + 1, by omega, by omega, ?_, ?_, .inl rfl⟩
  ·show stA3 p _ _ _ = stA3 p _ _ _
   congr 1 <;> simp
  ·show ms3 p _ = ms3 p _
   congr 1
 ·rename_i hp
  obtain ⟨r, r1, r4, h1, h2, h3⟩ := hl
  have h1 : s1 = stA3 p (r + 1 + i) (1 + i) (n + 100000) := h1
  have h3 : s2 = stS2 p ∨ ∃ j : Int, 0 ≤ j ∧ j < r + 1 + i ∧ s2 = stS4 p j := h3
  subst h1 h2
  have e1 : handleF s2 (ms3 p (r + 1 + i)) n = (stS4 p (r + 1 + i), [ms4 p (r + 1 + i)], 0) := by
   rcases h3 with rfl | ⟨j, j0, j1, rfl⟩
   ·exact st_third h hm (j := 0) (.inl ⟨rfl, rfl⟩) (goodS2 h hm) (by omega) (by omega) (by omega) hn
   ·exact st_third h hm (j := j) (.inr rfl) (goodS4 h hm j0 (by omega)) (by omega) (by omega) (by omega) hn
  have e2 := st_fourth h (k := r + 1 + i) (t := 1 + i) (d := n + 100000) (n := n) (by omega) (by omega) (by omega) (by omega) hd hn
  refine ⟨_, _, _, e1, ⟨lst_b h (fun q => absurd q hp) (fun _ => ⟨r, r1, r4, rfl, .inr ⟨_, by omega, Int.le_refl _, rfl⟩⟩) n0 n1, by rw [ms4_len]; decide, e2, rfl, fun q => absurd q hp, fun _ => ⟨rfl, _, rfl, rfl⟩⟩⟩
def OneO (w : World) (b : Nat) (u : Value) (m : By) : Prop := b < w.heap.size ∧ w.cell? ⟨b, 0, none⟩ = some u ∧ ∃ B, w.ownsRow B 5 1 u m.length (m.map V8)
theorem ownsT_chgB {w w' : World} {base E n sz : Nat} {v : Value} {xs : List Value} (h : w.ownsRow base E sz v n xs) (hc : Chg w.heap.size w w') : w'.ownsRow base E sz v n xs := by
 refine ownsT_keep h fun k hk => hc.2 k ?_
 obtain ⟨_, h2⟩ := h
 rcases h2 with ⟨rfl, _⟩ | ⟨g, cap, cur, rfl, hb, hg, _⟩
 ·cases hk
 ·have : g = k := by simpa [Value.ownBlock] using hk
  subst this
  exact (Array.getElem?_eq_some_iff.1 hg).1
theorem OneO.chg {w w' : World} {b : Nat} {u : Value} {m : By} (h : OneO w b u m) (hc : Chg w.heap.size w w') : OneO w' b u m := by
 obtain ⟨h1, h2, B, h3⟩ := h
 exact ⟨Nat.lt_of_lt_of_le h1 hc.1, (hc.cell h1).trans h2, B, ownsT_chgB h3 hc⟩
theorem OneO.of {B : Nat} {w : World} {v : Value} {m : By} {ls : List By} (h : SlBB B w v (m :: ls)) : ∃ b c u, v = .slice (some ⟨b, 0, none⟩) (m :: ls).length c ∧ OneO w b u m := by
 obtain ⟨b, c, u, rfl, hc, ho⟩ := h.first
 exact ⟨b, c, u, rfl, owns_blk h, hc, _, ho⟩
theorem slbb_ge {B : Nat} {w : World} {b : Nat} {n c : Nat} {m : By} {ls : List By} (h : SlBB B w (.slice (some ⟨b, 0, none⟩) n c) (m :: ls)) : B ≤ b ∧ b < w.heap.size := by
 obtain ⟨vs, ⟨_, ⟨h2, _⟩ | ⟨g, cap, cur, h3, hb, hh, _⟩⟩, _⟩ := h
 ·cases h2
 ·cases h3; exact ⟨hb, (Array.getElem?_eq_some_iff.1 hh).1⟩
theorem Out.cell {G : List Nat} {w w' : World} {b i : Nat} (h : Out G w w') (hb : b < w.heap.size) (hn : b ∉ G) : w'.cell? ⟨b, i, none⟩ = w.cell? ⟨b, i, none⟩ := by
 simp only [World.cell?, h.block b hb hn]
theorem monoO_TupR {G : List Nat} {B : Nat} (r : Res) (hG : ∀ g ∈ G, g < B) : MonoO G (TupR B r) := fun _ _ _ ⟨u, h1, h2⟩ ho => ⟨u, h1, h2.out ho hG⟩
def LosC (p : Pr) (ph : Nat) (w : World) (g10 g4 : Nat) (vs : Tmp → Value) (wr : World) : Prop := ∃ (i : Nat) (n : Int) (s1 s2 : Fw) (m : By) (b c : Nat) (u : Value), i ≤ 3 ∧ vs 12 = .int .i64 n ∧ vs 14 = .slice (some ⟨b, 0, none⟩) 1 c ∧ vs 15 = .int .i64 0 ∧ 0 ≤ n ∧ n ≤ 300000 * ph + 300000 ∧ Kp (LSt p ph i n (s1, s2) m) ∧ Kp (OneO wr b u m) ∧ Kp (Loc w wr [(g10, 55, cat (parts2 (s1, s2))), (g4, 48, cat (partsP p))])
def LosI (p : Pr) (ph : Nat) (lost : Int) (w : World) (g10 g4 : Nat) (vs : Tmp → Value) (wr : World) : Prop := ∃ (i : Nat) (n : Int) (s1 s2 : Fw) (m : By) (b c : Nat) (u : Value), (i : Int) ≤ lost ∧ vs 12 = .int .i64 n ∧ vs 14 = .slice (some ⟨b, 0, none⟩) 1 c ∧ vs 15 = .int .i64 0 ∧ vs 18 = .int .i64 i ∧ 0 ≤ n ∧ n ≤ 300000 * ph + 100000 * i ∧ Kp (LSt p ph i n (s1, s2) m) ∧ Kp (OneO wr b u m) ∧ Kp (Loc w wr [(g10, 55, cat (parts2 (s1, s2))), (g4, 48, cat (partsP p))])
def LosO (p : Pr) (w : World) (g10 g4 : Nat) (vs : Tmp → Value) (wr : World) : Prop := ∃ (ph : Nat) (n : Int) (s1 s2 : Fw), ph ≤ 2 ∧ vs 12 = .int .i64 n ∧ vs 15 = .int .i64 0 ∧ vs 16 = .int .i64 ph ∧ 0 ≤ n ∧ n ≤ 300000 * ph ∧ ((ph < 2 ∧ ∃ m b c u, vs 14 = .slice (some ⟨b, 0, none⟩) 1 c ∧ Kp (LSt p ph 0 n (s1, s2) m) ∧ Kp (OneO wr b u m)) ∨ (ph = 2 ∧ ∃ va vc, vs 14 = .slice va 0 vc ∧ ∃ k, s1 = stA4 p k ∧ s2 = stS4 p k)) ∧ Kp (Loc w wr [(g10, 55, cat (parts2 (s1, s2))), (g4, 48, cat (partsP p))])
end Go.Proofs.Ytibncchobkaaiaa
namespace Go.Proofs.Ytibncchobkaaiaa
open Go.RowKit
def LoopP (D : List Tmp) (R : (Tmp → Value) → World → Prop) (mu : (Tmp → Value) → World → Nat) (a0 : Act) (m : Nat) (a' : Act) (w' : World) : Prop :=
 a'.defers = a0.defers ∧ a'.tmps = putMany (fun d => a'.tmps.getD d undef) D a0.tmps ∧ R (fun d => a'.tmps.getD d undef) w' ∧ mu (fun d => a'.tmps.getD d undef) w' < m
theorem LoopP.of {D : List Tmp} {R : (Tmp → Value) → World → Prop} {mu : (Tmp → Value) → World → Nat} {a0 a' : Act} {m : Nat} {w' : World} (hd : a'.defers = a0.defers) (ht : a'.tmps = putMany (fun d => a'.tmps.getD d undef) D a0.tmps) (hr : R (fun d => a'.tmps.getD d undef) w') (hm : mu (fun d => a'.tmps.getD d undef) w' < m) : LoopP D R mu a0 m a' w' := ⟨hd, ht, hr, hm⟩
theorem act_eq {a a' : Act} {t : Array Value} (hd : a'.defers = a.defers) (ht : a'.tmps = t) : a' = ⟨t, a.defers⟩ := by
 cases a' with
 | mk t2 d => simp only at hd ht; rw [← hd]; congr 1
theorem wp_loopC {P : Program} {c : Code} {Q : Exit → Act → World → Prop} {a : Act} {w : World} (D : List Tmp) (R : (Tmp → Value) → World → Prop) (mu : (Tmp → Value) → World → Nat)
  (ht : a.tmps = putMany (fun d => a.tmps.getD d undef) D a.tmps) (h0 : R (fun d => a.tmps.getD d undef) w)
  (round : ∀ vs w', R vs w' → c.wp P (Exit.then (LoopP D R mu a (mu vs w')) Q) ⟨putMany vs D a.tmps, a.defers⟩ w') : (Code.loop c).wp P Q a w := by
 refine wp_loop (fun a' w' => a'.defers = a.defers ∧ a'.tmps = putMany (fun d => a'.tmps.getD d undef) D a.tmps ∧ R (fun d => a'.tmps.getD d undef) w') (fun a' w' => mu (fun d => a'.tmps.getD d undef) w') ⟨rfl, ht, h0⟩ ?_
 rintro a' w' ⟨h1, h2, h3⟩
 have h := round _ _ h3
 rw [← act_eq h1 h2] at h
 refine Code.wp_mono (fun e b v hb => ?_) h
 cases e with
 | normal =>
  obtain ⟨k1, k2, k3, k4⟩ := hb
  exact ⟨⟨k1, k2, k3⟩, k4⟩
 | _ => exact hb
end Go.Proofs.Ytibncchobkaaiaa
