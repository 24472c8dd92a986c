/- Texts of this proof, put together: Fst, CutM, EqS, Opn30, Same, Pl30d, Pl30e, Pl30f. -/
import Derived.ChangeKeysEq
import Derived.OpenShut
import Derived.Test.YtfecopfofkdnpaaS1
import Derived.Test.YtfecopfofkdnpaaS2
import Derived.Test.YtfecopfofkdnpaaS3
import Derived.Test.YtfecopfofkdnpaaS4
import Derived.Test.YtfecopfofkdnpaaS5
import Derived.Test.YtfecopfofkdnpaaS6
import Derived.Test.YtfecopfofkdnpaaS7
import Derived.Test.YtfecopfofkdnpaaS8
import Derived.Test.YtfecopfofkdnpaaS9
import Derived.Test.YtfecopfofkdnpaaS10
import Derived.Test.YtfecopfofkdnpaaS11
import Derived.Test.YtfecopfofkdnpaaS12
import Derived.Test.YtfecopfofkdnpaaS13
import Derived.Test.YtfecopfofkdnpaaS14
import Derived.Test.YtfecopfofkdnpaaS15
import Derived.Test.YtfecopfofkdnpaaS16
import Derived.Test.YtfecopfofkdnpaaS17
import Derived.Test.YtfecopfofkdnpaaS18
import Derived.Test.YtfecopfofkdnpaaS19
import Derived.Test.YtfecopfofkdnpaaS20
import Derived.Test.YtfecopfofkdnpaaS21
import Derived.Test.YtfecopfofkdnpaaS22
import Derived.Test.YtfecopfofkdnpaaS23
import Derived.Test.YtfecopfofkdnpaaS24
import Derived.Test.YtfecopfofkdnpaaS25
import Derived.Test.YtfecopfofkdnpaaS26
import Derived.Test.YtfecopfofkdnpaaS27
import Derived.Test.YtfecopfofkdnpaaS28
import Derived.Test.YtfecopfofkdnpaaS29
import Derived.Test.YtfecopfofkdnpaaS30
namespace Go.Proofs.Ytfecopfofkdnpaa
open Go.RowKit
theorem unput {P : Program} {ops : Array Oper} {rest : List Oper} {Q : Exit → Act → World → Prop} {a : Act} {w : World} {d : Option Tmp} {v : Value}
  (h : wpList P ops Q (Oper.mk d (.move (.const v)) 0 "" #[] none :: rest) a w) : wpList P ops Q rest (a.put d v) w := by
 unfold wpList at h
 rw [if_pos (show Region.wanted (Oper.mk d (.move (.const v)) 0 "" #[] none) (yielded ops a.tmps) = true from rfl)] at h
 rcases h with h | ⟨h, _⟩
 ·exact h
 ·exact absurd (show noRoomEvent ∈ (#[] : Array Event) from h.1) (by simp)
def mixL : List (Bool × Nat) → List Value → List Value → List Value
 | m, x :: xs, y :: ys => match m with
  | (_, 0) :: m => match m with
   | (b, n + 1) :: m => (if b then x else y) :: mixL ((b, n) :: m) xs ys
   | _ => y :: ys
  | (b, n + 1) :: m => (if b then x else y) :: mixL ((b, n) :: m) xs ys
  | [] => y :: ys
 | _, _, ys => ys
def mixF (vs : Tmp → Value) : List (Bool × Nat) → Nat → List Value → List Value
 | m, i, y :: ys => match m with
  | (_, 0) :: m => match m with
   | (b, n + 1) :: m => (if b then vs i else y) :: mixF vs ((b, n) :: m) (i + 1) ys
   | _ => y :: ys
  | (b, n + 1) :: m => (if b then vs i else y) :: mixF vs ((b, n) :: m) (i + 1) ys
  | [] => y :: ys
 | _, _, [] => []
theorem mixF_t (vs : Tmp → Value) (n : Nat) (m : List (Bool × Nat)) (i : Nat) (y : Value) (ys : List Value) : mixF vs ((true, n + 1) :: m) i (y :: ys) = vs i :: mixF vs ((true, n) :: m) (i + 1) ys := by simp [mixF]
theorem mixF_f (vs : Tmp → Value) (n : Nat) (m : List (Bool × Nat)) (i : Nat) (y : Value) (ys : List Value) : mixF vs ((false, n + 1) :: m) i (y :: ys) = y :: mixF vs ((false, n) :: m) (i + 1) ys := by simp [mixF]
theorem mixF_t0 (vs : Tmp → Value) (b : Bool) (n : Nat) (m : List (Bool × Nat)) (i : Nat) (y : Value) (ys : List Value) : mixF vs ((b, 0) :: (true, n + 1) :: m) i (y :: ys) = vs i :: mixF vs ((true, n) :: m) (i + 1) ys := by simp [mixF]
theorem mixF_f0 (vs : Tmp → Value) (b : Bool) (n : Nat) (m : List (Bool × Nat)) (i : Nat) (y : Value) (ys : List Value) : mixF vs ((b, 0) :: (false, n + 1) :: m) i (y :: ys) = y :: mixF vs ((false, n) :: m) (i + 1) ys := by simp [mixF]
theorem mixF_e (vs : Tmp → Value) (m : List (Bool × Nat)) (i : Nat) : mixF vs m i [] = [] := by simp [mixF]
theorem mix_same (vs : Tmp → Value) : ∀ (ys xs : List Value) (m : List (Bool × Nat)) (i : Nat), (∀ (j : Nat) (x : Value), xs[j]? = some x → vs (i + j) = x) → xs.length = ys.length → mixL m xs ys = mixF vs m i ys
 | [], xs, m, i, _, _ => by simp [mixL, mixF]
 | y :: ys, [], m, i, _, hl => by simp at hl
 | y :: ys, x :: xs, m, i, h, hl => by
  have h0 : vs i = x := h 0 x rfl
  have ih := fun m => mix_same vs ys xs m (i + 1) (fun j z hz => by rw [Nat.add_assoc, Nat.add_comm 1 j]; exact h (j + 1) z (by simpa using hz)) (by simpa using hl)
  unfold mixL mixF
  split
  ·split
   ·rw [h0, ih]
   ·rfl
  ·rw [h0, ih]
  ·rfl
def CutQ (m : List (Bool × Nat)) (R : (Tmp → Value) → World → Prop) (a : Act) (ex : Exit) (a' : Act) (w' : World) : Prop :=
 ex = .normal ∧ a'.defers = a.defers ∧ a'.tmps.toList = mixL m a'.tmps.toList a.tmps.toList ∧ a'.tmps.toList.length = a.tmps.toList.length ∧ R (fun d => a'.tmps.toList.getD d undef) w'
theorem CutQ.of {m : List (Bool × Nat)} {R : (Tmp → Value) → World → Prop} {a a' : Act} {w' : World} (hd : a'.defers = a.defers) (ht : a'.tmps.toList = mixL m a'.tmps.toList a.tmps.toList) (hl : a'.tmps.toList.length = a.tmps.toList.length) (hr : R (fun d => a'.tmps.toList.getD d undef) w') : CutQ m R a .normal a' w' := ⟨rfl, hd, ht, hl, hr⟩
theorem mix_eq {m : List (Bool × Nat)} {a a' : Act} (hd : a'.defers = a.defers) (ht : a'.tmps.toList = mixL m a'.tmps.toList a.tmps.toList) (hl : a'.tmps.toList.length = a.tmps.toList.length) : a' = ⟨(mixF (fun d => a'.tmps.toList.getD d undef) m 0 a.tmps.toList).toArray, a.defers⟩ := by
 have e := mix_same (fun d => a'.tmps.toList.getD d undef) a.tmps.toList a'.tmps.toList m 0 (fun j x hx => by simp [List.getD, hx]) hl
 rw [← e, ← ht, ← hd]
theorem wp_cutM {P : Program} {c : Code} {Q : Exit → Act → World → Prop} {a : Act} {w : World} (m : List (Bool × Nat)) (R : (Tmp → Value) → World → Prop)
  (h1 : c.wp P (CutQ m R a) a w)
  (h2 : ∀ vs w', R vs w' → Q .normal ⟨(mixF vs m 0 a.tmps.toList).toArray, a.defers⟩ w') : c.wp P Q a w :=
 Code.wp_mono (fun e a' w' ⟨he, hd, ht, hl, hr⟩ => by
  subst he
  have h := h2 _ _ hr
  rw [← mix_eq hd ht hl] at h
  exact h) h1
def LoopQ (m : List (Bool × Nat)) (R : (Tmp → Value) → World → Prop) (mu : (Tmp → Value) → World → Nat) (a0 : Act) (k : Nat) (a' : Act) (w' : World) : Prop :=
 a'.defers = a0.defers ∧ a'.tmps.toList = mixL m a'.tmps.toList a0.tmps.toList ∧ a'.tmps.toList.length = a0.tmps.toList.length ∧ R (fun d => a'.tmps.toList.getD d undef) w' ∧ mu (fun d => a'.tmps.toList.getD d undef) w' < k
theorem LoopQ.of {m : List (Bool × Nat)} {R : (Tmp → Value) → World → Prop} {mu : (Tmp → Value) → World → Nat} {a0 a' : Act} {k : Nat} {w' : World} (hd : a'.defers = a0.defers) (ht : a'.tmps.toList = mixL m a'.tmps.toList a0.tmps.toList) (hl : a'.tmps.toList.length = a0.tmps.toList.length) (hr : R (fun d => a'.tmps.toList.getD d undef) w') (hm : mu (fun d => a'.tmps.toList.getD d undef) w' < k) : LoopQ m R mu a0 k a' w' := ⟨hd, ht, hl, hr, hm⟩
theorem wp_loopM {P : Program} {c : Code} {Q : Exit → Act → World → Prop} {a : Act} {w : World} (m : List (Bool × Nat)) (R : (Tmp → Value) → World → Prop) (mu : (Tmp → Value) → World → Nat)
  (ht : a.tmps.toList = mixL m a.tmps.toList a.tmps.toList) (h0 : R (fun d => a.tmps.toList.getD d undef) w)
  (round : ∀ vs w', R vs w' → c.wp P (Exit.then (LoopQ m R mu a (mu vs w')) Q) ⟨(mixF vs m 0 a.tmps.toList).toArray, a.defers⟩ w') : (Code.loop c).wp P Q a w := by
 refine wp_loop (fun a' w' => a'.defers = a.defers ∧ (a'.tmps.toList = mixL m a'.tmps.toList a.tmps.toList ∧ a'.tmps.toList.length = a.tmps.toList.length) ∧ R (fun d => a'.tmps.toList.getD d undef) w') (fun a' w' => mu (fun d => a'.tmps.toList.getD d undef) w') ⟨rfl, ⟨ht, rfl⟩, h0⟩ ?_
 rintro a' w' ⟨h1, ⟨h2, h2l⟩, h3⟩
 have h := round _ _ h3
 rw [← mix_eq h1 h2 h2l] at h
 refine Code.wp_mono (fun e b v hb => ?_) h
 cases e with
 | normal =>
  obtain ⟨k1, k2, k2l, k3, k4⟩ := hb
  exact ⟨⟨k1, ⟨k2, k2l⟩, k3⟩, k4⟩
 | _ => exact hb
section
variable {P : Program}
end
theorem neEn (w : World) (x y : En) (hx : x.Ok) (hy : y.Ok) : (binOp .neq 39 (.agg (cellsE x).toArray) (.agg (cellsE y).toArray)).run Try.prog w = .ok (.bool (!decide (x = y))) w := by
 rw [run_neq_struct, eqEnIn w x y hx hy]; rfl
end Go.Proofs.Ytfecopfofkdnpaa
namespace Go.Proofs.Ytfecopfofkdnpaa
open Go.RowKit Go.WideShapes
section
variable {H : Type} {enc : TypeId × Value → H} {w : World} {base : Nat} {cs : List Value}
end
set_option maxRecDepth 10000 in
theorem open_frame {H : Type} {enc : TypeId × Value → H} {w : World} {r : Reach} {b0 base : Nat} {v : Value} {d : DataW H} {p : List MemPlace}
  (hv : Value.okWide Try.prog w r b0 31 v) (h : DataW.Trod enc Try.prog w base (fun _ => true) true 31 v d p) : ∃ (x : Hd) (ad : Option Addr) (cap : Nat) (l : List (BitVec 8)), x.Ok ∧ l.length ≤ cap ∧ cap ≤ maxLen ∧ (ad = none → cap = 0) ∧ SlB w (.slice ad l.length cap) l ∧ v = .agg (cellsF x (.slice ad l.length cap)).toArray := by
 obtain ⟨cs, hcs, _⟩ := okWide_struct (P := Try.prog) Try.underlying31 hv
 have ht := Tr.of h
 rw [hcs] at ht
 obtain ⟨x, ad, cap, l, h1, h2, h3, h4, h5, h6⟩ := ht.frame
 refine ⟨x, ad, cap, l, h1, h2, h3, h4, h5, ?_⟩
 have h6 : cs.toList = cellsF x (.slice ad l.length cap) := h6
 rw [hcs, ← h6]
theorem cF40 {h : Hd} (ok : h.Ok) (v : Value) : (cellsF h v)[40]? = some v := by
 rw [cellsF, List.getElem?_append_right (by rw [cellsH_len ok]; exact Nat.le_refl _), cellsH_len ok]; rfl
theorem great5_any (h : Hd) (ok : h.Ok) (ad : Option Addr) (n c : Nat) (w : World) :
  Calls Try.prog 9 #[.agg (cellsF h (.slice ad n c)).toArray] w fun e w' => e = .returned (.bool (decide (2400 < n))) ∧ Ext w w' := by
 have H := kp (Loc.start w)
 have H40 := kp (cF40 ok (.slice ad n c))
 clear ok
 go_enter Try.func9, Try.ntmps9
 go_wp2_with (first | (((with_reducible refine isBx 1 31 ?_); (with_reducible refine L_box H rfl 31 _ rfl (cellsF h (.slice ad n c)) rfl ?_); clear H; intro g1 w1 HGg1 HEg1 H; simp only [pA]); have hc := run_load_cell H.out 0 rfl _ _ H40.out))
 go_ret
 exact ⟨congrArg (fun z => Ending.returned (.bool z)) (by refine Bool.eq_iff_iff.2 ?_; simp; omega), H.out.1⟩
def sameH (a b : As) : Bool := a.own == b.own && a.caps == b.caps && a.limit == b.limit && a.idle == b.idle
def sameF (a : As) (l : List En) (b : As) (m : List En) : Bool := sameH a b && decide (l = m)
theorem same_no {a b : As} {l m : List En} (j : Nat) (x y : En) (hx : l[j]? = some x) (hy : m[j]? = some y) (h : x ≠ y) : sameF a l b m = false := by
 have : l ≠ m := fun e => by rw [e, hy] at hx; exact h (Option.some.inj hx).symm
 simp [sameF, this]
theorem same_take {l m : List En} {j : Nat} {x : En} (hx : l[j]? = some x) (hy : m[j]? = some x) (h : l.take j = m.take j) : l.take (j + 1) = m.take (j + 1) := by
 rw [List.take_add_one, List.take_add_one, hx, hy, h]
set_option maxHeartbeats 6400000 in
theorem same_any (a b : As) (ha : a.own.length = 6) (hb : b.own.length = 6) (v u : Value) (l m : List En) (hl : ∀ x ∈ l, x.Ok) (hm : ∀ x ∈ m, x.Ok) (hn : l.length ≤ 100000) (hn' : m.length ≤ 100000) (w : World) (hs : SlT 11 cellsE w v l) (hs' : SlT 11 cellsE w u m) :
  Calls Try.prog 17 #[.agg (cellsA a v).toArray, .agg (cellsA b u).toArray] w fun e w' => e = .returned (.bool (sameF a l b m)) ∧ Ext w w' := by
 obtain ⟨ad, n, c, rfl, hnl, hcap, hat⟩ := hs
 obtain ⟨ad', n', c', rfl, hnl', hcap', hat'⟩ := hs'
 have HAT := kp hat; have HNL := kp hnl; have HLK := kp hl; have H := kp (Loc.start w); have hn2 : n ≤ 100000 := by omega
 have HAT' := kp hat'; have HNL' := kp hnl'; have HLK' := kp hm; have hn2' : n' ≤ 100000 := by omega
 have A6 := kp (cA6 (a := a) (.slice ad n c) ha)
 have A7 := kp (cA7 (a := a) (.slice ad n c) ha)
 have A8 := kp (cA8 (a := a) (.slice ad n c) ha)
 have A9 := kp (cA9 (a := a) (.slice ad n c) ha)
 have B6 := kp (cA6 (a := b) (.slice ad' n' c') hb)
 have B7 := kp (cA7 (a := b) (.slice ad' n' c') hb)
 have B8 := kp (cA8 (a := b) (.slice ad' n' c') hb)
 have B9 := kp (cA9 (a := b) (.slice ad' n' c') hb)
 have HOW := kp (cellsA_own (a := a) (.slice ad n c) ha)
 have HOW' := kp (cellsA_own (a := b) (.slice ad' n' c') hb)
 have HZO := kp (sizeA8 ha)
 have HZO' := kp (sizeA8 hb)
 have hne := fun w => neAddr a.own b.own ha hb w
 have HGT := kp Try.eqGuardType39
 have HSH := kp (show sameH a b = (a.own == b.own && a.caps == b.caps && a.limit == b.limit && a.idle == b.idle) from rfl)
 have HSF := kp (show sameF a l b m = (sameH a b && decide (l = m)) from rfl)
 clear hat hat' hl hm hnl hnl' hcap hcap' hn hn' ha hb
 go_enter Try.func17, Try.ntmps17
 generalize h1 : (Code.region 1 _ _ : Code) = R1
 go_wp2_with (first | ((with_reducible refine isBx 2 26 ?_); (with_reducible refine L_box H rfl 26 _ rfl (cellsA a (.slice ad n c)) rfl ?_); clear H; intro g2 w2 HGg2 HEg2 H; simp only [pA]) | ((with_reducible refine isBx 3 26 ?_); (with_reducible refine L_box H rfl 26 _ rfl (cellsA b (.slice ad' n' c')) rfl ?_); clear H; intro g3 w3 HGg3 HEg3 H; simp only [pA]))
 subst h1
 refine wp_cut [6, 7, 8, 9, 10, 11, 12, 13, 14, 15, 16, 17, 18, 19, 20, 21, 22, 23, 24, 25, 26, 27, 28, 29, 30, 31, 32, 33, 34, 35, 36, 37, 38, 39, 40] (fun vs w' => Kp (Loc w w' [(g3, 26, cellsA b (.slice ad' n' c')), (g2, 26, cellsA a (.slice ad n c))]) ∧ vs 40 = .bool (!(sameH a b && decide (n = n')))) ?_ ?_
 ·rw [HSH.out]
  have a6 := run_load_cell H.out 1 rfl _ _ A6.out; have a7 := run_load_cell H.out 1 rfl _ _ A7.out; have a8 := run_load_cell H.out 1 rfl _ _ A8.out; have a9 := run_load_cell H.out 1 rfl _ _ A9.out
  have b6 := run_load_cell H.out 0 rfl _ _ B6.out; have b7 := run_load_cell H.out 0 rfl _ _ B7.out; have b8 := run_load_cell H.out 0 rfl _ _ B8.out; have b9 := run_load_cell H.out 0 rfl _ _ B9.out
  generalize (a.own == b.own) = eo at *
  go_wp2_with (first | ((with_reducible refine isLd 23 ?_); (first | (refine L_subG H (by kernel_rfl) 23 _ rfl 0 rfl (0) rfl (a.own.map V8) (HOW.out) Try.underlying23 rfl (HZO.out) ?_) | (refine L_subG H (by kernel_rfl) 23 _ rfl 1 rfl (0) rfl (a.own.map V8) (HOW.out) Try.underlying23 rfl (HZO.out) ?_) | (refine L_subG H (by kernel_rfl) 23 _ rfl 2 rfl (0) rfl (a.own.map V8) (HOW.out) Try.underlying23 rfl (HZO.out) ?_) | (refine L_subG H (by kernel_rfl) 23 _ rfl 3 rfl (0) rfl (a.own.map V8) (HOW.out) Try.underlying23 rfl (HZO.out) ?_) | (refine L_subG H (by kernel_rfl) 23 _ rfl 4 rfl (0) rfl (a.own.map V8) (HOW.out) Try.underlying23 rfl (HZO.out) ?_) | (refine L_subG H (by kernel_rfl) 23 _ rfl 5 rfl (0) rfl (a.own.map V8) (HOW.out) Try.underlying23 rfl (HZO.out) ?_)); simp only [pA]) | ((with_reducible refine isLd 23 ?_); (first | (refine L_subG H (by kernel_rfl) 23 _ rfl 0 rfl (0) rfl (b.own.map V8) (HOW'.out) Try.underlying23 rfl (HZO'.out) ?_) | (refine L_subG H (by kernel_rfl) 23 _ rfl 1 rfl (0) rfl (b.own.map V8) (HOW'.out) Try.underlying23 rfl (HZO'.out) ?_) | (refine L_subG H (by kernel_rfl) 23 _ rfl 2 rfl (0) rfl (b.own.map V8) (HOW'.out) Try.underlying23 rfl (HZO'.out) ?_) | (refine L_subG H (by kernel_rfl) 23 _ rfl 3 rfl (0) rfl (b.own.map V8) (HOW'.out) Try.underlying23 rfl (HZO'.out) ?_) | (refine L_subG H (by kernel_rfl) 23 _ rfl 4 rfl (0) rfl (b.own.map V8) (HOW'.out) Try.underlying23 rfl (HZO'.out) ?_) | (refine L_subG H (by kernel_rfl) 23 _ rfl 5 rfl (0) rfl (b.own.map V8) (HOW'.out) Try.underlying23 rfl (HZO'.out) ?_)); simp only [pA]))
  all_goals exact CutP.of rfl (by kernel_rfl) ⟨H, congrArg Value.bool (by first | (simp [*]; done) | (simp [bne, *]; done) | (simp [bne, *]; refine Bool.eq_iff_iff.2 ?_; simp; done) | (simp [bne, *]; refine Bool.eq_iff_iff.2 ?_; simp; omega))⟩
 rintro vs w4 ⟨H, e40⟩
 simp only [putMany, List.setIfInBounds_toArray, List.set_cons_zero, List.set_cons_succ]
 rw [e40]
 clear e40 hne
 cases hh : (sameH a b && decide (n = n')) with
 | false =>
  have HK := kp (show sameF a l b m = false by
   rw [HSF.out]
   have h1 : sameH a b = false ∨ n ≠ n' := by
    cases hq : sameH a b
    ·exact .inl rfl
    ·rw [hq] at hh; exact .inr (by simpa using hh)
   rcases h1 with q | q
   ·rw [q]; rfl
   ·rw [decide_eq_false (fun e => q (by rw [HNL.out, HNL'.out, e])), Bool.and_false])
  clear hh
  go_wp2_with fail
  go_ret
  exact ⟨congrArg (fun z => Ending.returned (.bool z)) HK.out.symm, H.out.1⟩
 | true =>
  have HQ := kp (show sameH a b = true ∧ n = n' by simpa using hh)
  clear hh
  obtain rfl : n = n' := HQ.out.2
  go_wp2_with fail
  go_loopw [5] (fun i wr => ∃ j : Nat, j ≤ n ∧ i = .int .i64 j ∧ Kp (l.take j = m.take j) ∧ Kp (Loc w wr [(g3, 26, cellsA b (.slice ad' n c')), (g2, 26, cellsA a (.slice ad n c))])) (fun i _ => n - (intOf i).toNat)
  case atStart => exact ⟨0, by omega, rfl, kp rfl, H⟩
  case round =>
   obtain ⟨j, hj, rfl, HT, H⟩ := hrel
   have hc9 := run_load_cell H.out 1 rfl _ _ A9.out
   by_cases hlt : j < n
   ·go_wp2_with fail
    clear hc9
    obtain ⟨x, hx⟩ : ∃ x, l[j]? = some x := ⟨l[j]'(by rw [← HNL.out]; omega), by simp⟩
    obtain ⟨y, hy⟩ : ∃ y, m[j]? = some y := ⟨m[j]'(by rw [← HNL'.out]; omega), by simp⟩
    obtain ⟨b1, off1, rfl, hb, hr⟩ := HAT.out j x hx
    obtain ⟨b2, off2, rfl, hb', hr'⟩ := HAT'.out j y hy
    have HB := kp hb; have HR := kp hr; have HX := kp hx; have HXK := kp (HLK.out x (List.mem_of_getElem? hx))
    have HB' := kp hb'; have HR' := kp hr'; have HY := kp hy; have HYK := kp (HLK'.out y (List.mem_of_getElem? hy))
    clear hb hr hx hb' hr' hy
    have HZX := kp (sizeE HXK.out.l)
    have HZY := kp (sizeE HYK.out.l)
    have HNE := kp (fun w => neEn w x y HXK.out HYK.out)
    generalize he : decide (x = y) = eb at *
    refine region_free H (tabS [(48, fun vQ _ => vQ = .pointer (some ⟨g2, 9, none⟩)), (49, fun vQ _ => vQ = .slice (some ⟨b1, off1, none⟩) n c), (50, fun vQ _ => vQ = .int .i64 j), (51, fun vQ _ => vQ = .pointer (some ⟨b1, off1 + j * 11, none⟩)), (52, fun vQ _ => vQ = .agg (cellsE x).toArray), (53, fun vQ _ => vQ = .pointer (some ⟨g3, 9, none⟩)), (54, fun vQ _ => vQ = .slice (some ⟨b2, off2, none⟩) n c'), (55, fun vQ _ => vQ = .int .i64 j), (56, fun vQ _ => vQ = .pointer (some ⟨b2, off2 + j * 11, none⟩)), (57, fun vQ _ => vQ = .agg (cellsE y).toArray), (58, fun vQ _ => vQ = .bool (!eb))]) [] (tabS_out _ _ (by simp only [List.forall_mem_cons, mono_eqO, true_and]; simp)) 11 (by kernel_rfl) (by kernel_rfl) (by kernel_rfl) (by kernel_rfl) [] [] rfl rfl (by decide) (by decide) (by decide) trivial ?_
    simp only [List.take_succ_cons, List.take_zero]
    refine ⟨fun w_ o_ S_ => ?_, fun v48 => ?_⟩
    ·clear S_
     clear o_
     go_wp2_with fail
     exact kso
    simp only [pA]
    refine ⟨fun w_ o_ S_ => ?_, fun v49 => ?_⟩
    ·obtain rfl : v48 = .pointer (some ⟨g2, 9, none⟩) := hsR S_ 48 rfl
     clear S_
     have H := kp (kK [0, 1] H o_)
     have HOX := kp o_
     clear o_
     have hc := run_load_cell H.out 1 rfl _ _ A9.out
     go_wp2_with fail
     exact kso
    simp only [pA]
    refine ⟨fun w_ o_ S_ => ?_, fun v50 => ?_⟩
    ·clear S_
     clear o_
     go_wp2_with fail
     exact kso
    simp only [pA]
    refine ⟨fun w_ o_ S_ => ?_, fun v51 => ?_⟩
    ·obtain rfl : v49 = .slice (some ⟨b1, off1, none⟩) n c := hsR S_ 49 rfl
     obtain rfl : v50 = .int .i64 j := hsR S_ 50 rfl
     clear S_ o_
     go_wp2_with fail
     exact kso
    simp only [pA]
    refine ⟨fun w_ o_ S_ => ?_, fun v52 => ?_⟩
    ·obtain rfl : v51 = .pointer (some ⟨b1, off1 + j * 11, none⟩) := hsR S_ 51 rfl
     clear S_
     have H := kp (kK [0, 1] H o_)
     have HOX := kp o_
     clear o_
     go_wp2_with ((with_reducible refine isLd 39 ?_); (refine wpList_load_midG (by kernel_rfl) 39 _ rfl (b1) (off1 + j * 11) rfl (cellsE x) _ ((rangeAt_ext HR.out HB.out H.out.1)) Try.underlying39 rfl (HZX.out) ?_); simp only [pA])
     exact kso
    simp only [pA]
    refine ⟨fun w_ o_ S_ => ?_, fun v53 => ?_⟩
    ·clear S_
     clear o_
     go_wp2_with fail
     exact kso
    simp only [pA]
    refine ⟨fun w_ o_ S_ => ?_, fun v54 => ?_⟩
    ·obtain rfl : v53 = .pointer (some ⟨g3, 9, none⟩) := hsR S_ 53 rfl
     clear S_
     have H := kp (kK [0, 1] H o_)
     have HOX := kp o_
     clear o_
     have hc := run_load_cell H.out 0 rfl _ _ B9.out
     go_wp2_with fail
     exact kso
    simp only [pA]
    refine ⟨fun w_ o_ S_ => ?_, fun v55 => ?_⟩
    ·clear S_
     clear o_
     go_wp2_with fail
     exact kso
    simp only [pA]
    refine ⟨fun w_ o_ S_ => ?_, fun v56 => ?_⟩
    ·obtain rfl : v54 = .slice (some ⟨b2, off2, none⟩) n c' := hsR S_ 54 rfl
     obtain rfl : v55 = .int .i64 j := hsR S_ 55 rfl
     clear S_ o_
     go_wp2_with fail
     exact kso
    simp only [pA]
    refine ⟨fun w_ o_ S_ => ?_, fun v57 => ?_⟩
    ·obtain rfl : v56 = .pointer (some ⟨b2, off2 + j * 11, none⟩) := hsR S_ 56 rfl
     clear S_
     have H := kp (kK [0, 1] H o_)
     have HOX := kp o_
     clear o_
     go_wp2_with ((with_reducible refine isLd 39 ?_); (refine wpList_load_midG (by kernel_rfl) 39 _ rfl (b2) (off2 + j * 11) rfl (cellsE y) _ ((rangeAt_ext HR'.out HB'.out H.out.1)) Try.underlying39 rfl (HZY.out) ?_); simp only [pA])
     exact kso
    simp only [pA]
    refine ⟨fun w_ o_ S_ => ?_, fun v58 => ?_⟩
    ·obtain rfl : v52 = .agg (cellsE x).toArray := hsR S_ 52 rfl
     obtain rfl : v57 = .agg (cellsE y).toArray := hsR S_ 57 rfl
     clear S_
     have H := kp (kK [0, 1] H o_)
     have HOX := kp o_
     clear o_
     refine wpList_bin (by kernel_rfl) .neq 39 39 (.tmp 52) (.tmp 57) rfl (.agg (cellsE x).toArray) (.agg (cellsE y).toArray) (.bool (!eb)) rfl rfl (run_eqGuard_agg _ _ _ _ _ _ _ HGT.out) (HNE.out _) ?_
     go_wp2_with fail
     exact kso
    simp only [pA]
    clear H
    intro w7 HOX H hfin
    obtain rfl : v48 = .pointer (some ⟨g2, 9, none⟩) := hfin 48 (by decide)
    obtain rfl : v49 = .slice (some ⟨b1, off1, none⟩) n c := hfin 49 (by decide)
    obtain rfl : v50 = .int .i64 j := hfin 50 (by decide)
    obtain rfl : v51 = .pointer (some ⟨b1, off1 + j * 11, none⟩) := hfin 51 (by decide)
    obtain rfl : v52 = .agg (cellsE x).toArray := hfin 52 (by decide)
    obtain rfl : v53 = .pointer (some ⟨g3, 9, none⟩) := hfin 53 (by decide)
    obtain rfl : v54 = .slice (some ⟨b2, off2, none⟩) n c' := hfin 54 (by decide)
    obtain rfl : v55 = .int .i64 j := hfin 55 (by decide)
    obtain rfl : v56 = .pointer (some ⟨b2, off2 + j * 11, none⟩) := hfin 56 (by decide)
    obtain rfl : v57 = .agg (cellsE y).toArray := hfin 57 (by decide)
    obtain rfl : v58 = .bool (!eb) := hfin 58 (by decide)
    clear hfin
    simp only [List.drop_succ_cons, List.drop_zero]
    simp only [applyS] at H
    have HXN := kp (HOX.out.ext (Ext.refl wr) (fun g hg => by cases hg))
    cases eb with
    | false =>
     have HK := kp (same_no (a := a) (b := b) j x y HX.out HY.out (of_decide_eq_false he))
     clear he
     go_wp2_with fail
     go_ret
     exact ⟨congrArg (fun z => Ending.returned (.bool z)) HK.out.symm, H.out.1⟩
    | true =>
     have HK := kp (same_take HX.out (by rw [HY.out, of_decide_eq_true he]) HT.out)
     clear he
     go_wp2_with fail
     go_roundw
     case rel => exact ⟨j + 1, by omega, by go_num, HK, H⟩
     case measure => simp [intOf]; omega
   ·obtain rfl : j = n := by omega
    have HK := kp (show sameF a l b m = true by
     have h := HT.out
     rw [List.take_of_length_le (by rw [HNL.out]; exact Nat.le_refl _), List.take_of_length_le (by rw [HNL'.out]; exact Nat.le_refl _)] at h
     rw [HSF.out, HQ.out.1, decide_eq_true h]; rfl)
    go_wp2_with fail
    go_ret
    exact ⟨congrArg (fun z => Ending.returned (.bool z)) HK.out.symm, H.out.1⟩
theorem look_put {l : List En} {s : En} {t : List (BitVec 8)} (h : l.Pairwise (fun e f => numF e.addr < numF f.addr)) (hl : ∀ e ∈ l, e.addr.length = 6) (hs : s.addr.length = 6) (_ : t.length = 6) : lookF (putF l s) t = if t = s.addr then some s else lookF l t := by
 have hp := put_sorted s h
 by_cases c : t = s.addr
 ·rw [if_pos c, c]; exact look_mem hp (mem_put.2 (.inl rfl))
 ·rw [if_neg c]
  cases hc : lookF l t with
  | some e =>
   obtain ⟨h1, h2⟩ := look_some hc
   rw [← h2]
   refine look_mem hp (mem_put.2 (.inr ⟨h1, fun q => c ?_⟩))
   rw [← h2]; exact num_inj (by rw [hl e h1, hs]) q
  | none =>
   cases hd : lookF (putF l s) t with
   | none => rfl
   | some e =>
    exfalso
    obtain ⟨h1, h2⟩ := look_some hd
    rcases mem_put.1 h1 with rfl | ⟨h1, _⟩
    ·exact c h2.symm
    ·exact look_none hc e h1 h2
theorem look_del {l : List En} (h : l.Pairwise (fun e f => numF e.addr < numF f.addr)) (hl : ∀ e ∈ l, e.addr.length = 6) {s t : List (BitVec 8)} (hs : s.length = 6) : lookF (delF l s) t = if t = s then none else lookF l t := by
 unfold delF
 rw [look_filter _ h]
 cases hc : lookF l t with
 | none => simp
 | some e =>
  obtain ⟨h1, h2⟩ := look_some hc
  show (if neE s e then some e else none) = _
  have : neE s e = decide (t ≠ s) := by
   rw [neE, ← h2]
   refine decide_eq_decide.2 ⟨fun q c => q (by rw [c]), fun q c => q (num_inj (by rw [hl e h1, hs]) c)⟩
  rw [this]
  by_cases c : t = s
  ·simp [c]
  ·simp [c]
theorem look_seen {a : As} {l : List En} (h : OkL a l) (hl : L6 l) {t u : List (BitVec 8)} (hu : u.length = 6) {now : Int} : lookF (seenF l t now) u = if u = t then (lookF l t).map (fun w => { w with seen := max w.seen now }) else lookF l u := by
 cases hc : lookF l t with
 | none =>
  rw [seen_none hc]
  by_cases c : u = t
  ·rw [if_pos c, c, hc]; rfl
  ·rw [if_neg c]
 | some w =>
  obtain ⟨h1, h2⟩ := look_some hc
  rw [seen_some hc, look_put h.sorted hl (by exact hl w h1) hu]
  show (if u = w.addr then _ else _) = _
  by_cases c : u = t
  ·rw [if_pos (c.trans h2.symm), if_pos c]; rfl
  ·rw [if_neg (fun q => c (q.trans h2)), if_neg c]
theorem seen_kept {a : As} {l : List En} (h : OkL a l) (_ : L6 l) {t : List (BitVec 8)} {now : Int} {e : En} (he : e ∈ seenF l t now) (h2 : e.state = 2) : Kept l e := by
 cases hc : lookF l t with
 | none => rw [seen_none hc] at he; exact kept_self h he h2
 | some w =>
  obtain ⟨h1, h3⟩ := look_some hc
  rw [seen_some hc] at he
  rcases mem_put.1 he with rfl | ⟨he, _⟩
  ·exact ⟨w, by rw [show ({ w with seen := max w.seen now } : En).addr = w.addr from rfl, h3]; exact hc, h2, rfl⟩
  ·exact kept_self h he h2
theorem handle_cases (a : As) (l : List En) (hd : Hd) (b : List (BitVec 8)) (now : Int) (he : (handleF dA dJ dL a l hd b now).2.2 = 0) :
  validA a l = true ∧ momentF now = true ∧ validH hd = true ∧ ((addrF a hd = false ∧ handleF dA dJ dL a l hd b now = (l, [], 0)) ∨
   (addrF a hd = true ∧ hd.kind = 0 ∧ handleF dA dJ dL a l hd b now = manageF dA dJ dL a (seenF l hd.a2 now) hd b now) ∨ (addrF a hd = true ∧ hd.kind = 2 ∧ handleF dA dJ dL a l hd b now = dataF a (seenF l hd.a2 now) hd)) := by
 unfold handleF at he ⊢
 cases h1 : validA a l with
 | false => rw [h1] at he; cases he
 | true =>
  cases h2 : momentF now with
  | false => rw [h1, h2] at he; cases he
  | true =>
   cases h3 : validH hd with
   | false => rw [h1, h2, h3] at he; cases he
   | true =>
    refine ⟨rfl, rfl, rfl, ?_⟩
    cases h4 : addrF a hd with
    | false => exact .inl ⟨rfl, rfl⟩
    | true =>
     by_cases c : hd.kind = 0
     ·exact .inr (.inl ⟨rfl, c, by simp [c]⟩)
     ·refine .inr (.inr ⟨rfl, ?_, by simp [c]⟩)
      simp only [addrF, Bool.and_eq_true, Bool.or_eq_true, beq_iff_eq] at h4
      rcases h4.2 with q | q
      ·exact absurd q.1 c
      ·exact q.1.1
theorem handle_ok {a : As} {l : List En} (h : OkL a l) (hl : L6 l) {hd : Hd} (ok : hd.Ok) {b : List (BitVec 8)} {now : Int} (he : (handleF dA dJ dL a l hd b now).2.2 = 0) : StepOk a l (handleF dA dJ dL a l hd b now) (Gives a hd (handleF dA dJ dL a l hd b now).2.1) := by
 obtain ⟨_, hn, hv, c | ⟨ha, _, c⟩ | ⟨ha, _, c⟩⟩ := handle_cases a l hd b now he
 ·rw [c.2]; exact ⟨h, hl, fun e he q => .inl (kept_self h he q)⟩
 ·rw [c] at he ⊢
  obtain ⟨h1, h2, h3⟩ := manage_ok (seen_ok h hn) (seen_l6 hl) (snd_of ok hv ha) hn he
  refine ⟨h1, h2, fun e he q => ?_⟩
  rcases h3 e he q with ⟨w, w1, w2, w3⟩ | ⟨w1, w2⟩
  ·obtain ⟨p1, p2⟩ := look_some w1
   obtain ⟨x, x1, x2, x3⟩ := seen_kept h hl p1 w2
   rw [p2] at x1
   exact .inl ⟨x, x1, x2, by rw [x3, w3]⟩
  ·refine .inr ⟨fun w hw q2 => ?_, w2⟩
   have h6 : e.addr.length = 6 := h2 e he
   have hk := look_seen (now := now) (t := hd.a2) h hl h6
   by_cases c3 : e.addr = hd.a2
   ·rw [if_pos c3, ← c3, hw] at hk
    exact w1 { w with seen := max w.seen now } (by rw [← c3]; exact hk) q2
   ·rw [if_neg c3, hw] at hk
    exact w1 _ hk q2
 ·rw [c]
  refine ⟨?_, ?_, ?_⟩
  ·rw [data_list]; exact seen_ok h hn
  ·rw [data_list]; exact seen_l6 hl
  ·rw [data_list]
   exact fun e he q => .inl (seen_kept h hl he q)
theorem del_split (t : List (BitVec 8)) : ∀ {l : List En}, l.Pairwise (fun e f => numF e.addr < numF f.addr) → delF l t = l.filter (ltE t) ++ l.filter (gtE t)
 | [], _ => rfl
 | e :: l, h => by
  obtain ⟨h1, h2⟩ := List.pairwise_cons.1 h
  have ih := del_split t h2
  unfold delF at ih ⊢
  rcases Nat.lt_trichotomy (numF e.addr) (numF t) with c | c | c
  ·rw [List.filter_cons_of_pos (by simp [neE]; omega), List.filter_cons_of_pos (by simpa [ltE] using c), List.filter_cons_of_neg (by simp [gtE]; omega), ih]
   rfl
  ·rw [List.filter_cons_of_neg (by simp [neE]; omega), List.filter_cons_of_neg (by simp [ltE]; omega), List.filter_cons_of_neg (by simp [gtE]; omega), ih]
  ·have h3 : l.filter (ltE t) = [] := List.filter_eq_nil_iff.2 fun x hx => by have := h1 x hx; simp [ltE]; omega
   rw [h3] at ih
   rw [List.filter_cons_of_pos (by simp [neE]; omega), List.filter_cons_of_neg (by simp [ltE]; omega), List.filter_cons_of_pos (by simpa [gtE] using c), ih, h3]
   rfl
theorem del_put {l : List En} (s : En) (h : l.Pairwise (fun e f => numF e.addr < numF f.addr)) : delF (putF l s) s.addr = delF l s.addr := by
 rw [del_split s.addr h]
 unfold delF putF
 have h1 : (l.filter (ltE s.addr)).filter (neE s.addr) = l.filter (ltE s.addr) := List.filter_eq_self.2 fun e he => by
  have := (List.mem_filter.1 he).2; simp only [ltE, decide_eq_true_eq] at this; simp [neE]; omega
 have h2 : (l.filter (gtE s.addr)).filter (neE s.addr) = l.filter (gtE s.addr) := List.filter_eq_self.2 fun e he => by
  have := (List.mem_filter.1 he).2; simp only [gtE, decide_eq_true_eq] at this; simp [neE]; omega
 rw [List.filter_append, List.filter_cons_of_neg (by simp [neE]), h1, h2]
theorem del_del (l : List En) (t : List (BitVec 8)) : delF (delF l t) t = delF l t := by unfold delF; rw [List.filter_filter]; simp
theorem seen_del {a : As} {l : List En} (h : OkL a l) {t : List (BitVec 8)} {now : Int} : delF (seenF l t now) t = delF l t := by
 cases hc : lookF l t with
 | none => rw [seen_none hc]
 | some w =>
  obtain ⟨_, h2⟩ := look_some hc
  rw [seen_some hc]
  subst h2
  exact del_put { w with seen := max w.seen now } h.sorted
theorem handle_del {a : As} {l : List En} (h : OkL a l) {hd : Hd} {b : List (BitVec 8)} {now : Int} (he : (handleF dA dJ dL a l hd b now).2.2 = 0) : delF (handleF dA dJ dL a l hd b now).1 hd.a2 = delF l hd.a2 := by
 obtain ⟨_, hn, hv, c | ⟨ha, _, c⟩ | ⟨ha, _, c⟩⟩ := handle_cases a l hd b now he
 ·rw [c.2]
 ·rw [c] at he ⊢
  rw [← seen_del (now := now) h]
  have h := seen_ok (t := hd.a2) h hn
  revert h he
  generalize seenF l hd.a2 now = m
  intro he h
  unfold manageF at he ⊢
  split
  ·rename_i q
   rw [if_pos q] at he
   unfold authF at he ⊢
   cases hd0 : dA b with
   | none => rw [hd0] at he; cases he
   | some p =>
    obtain ⟨al, st⟩ := p
    dsimp only
    split
    ·exact del_put (freshE hd.a2 now) h.sorted
    ·rfl
  ·rename_i q
   rw [if_neg q] at he
   split
   ·rename_i q2
    rw [if_pos q2] at he
    unfold joinF at he ⊢
    cases hd0 : dJ (hd.sub == 2) b with
    | none => rw [hd0] at he; cases he
    | some p =>
     obtain ⟨ca, li⟩ := p
     dsimp only
     cases hc : lookF m hd.a2 with
     | none => rfl
     | some s =>
      dsimp only
      obtain ⟨_, h2⟩ := look_some hc
      split
      ·have := del_put ⟨s.addr, 2, joinAid m s, ca, li, s.seen⟩ h.sorted
       rw [show (⟨s.addr, 2, joinAid m s, ca, li, s.seen⟩ : En).addr = s.addr from rfl, h2] at this
       rw [h2]; exact this
      ·rfl
   ·rename_i q2
    rw [if_neg q2] at he
    split
    ·rename_i q3
     rw [if_pos q3] at he
     unfold leaveF at he ⊢
     by_cases c0 : dL b = true
     ·rw [if_pos c0] at he ⊢
      cases hc : lookF m hd.a2 with
      | none => rfl
      | some s =>
       dsimp only
       obtain ⟨_, h2⟩ := look_some hc
       split
       ·exact del_del _ _
       ·have := del_put ⟨s.addr, 1, 0, 0, 0, s.seen⟩ h.sorted
        rw [show (⟨s.addr, 1, 0, 0, 0, s.seen⟩ : En).addr = s.addr from rfl, h2] at this
        rw [h2]; exact this
     ·rw [if_neg c0] at he; cases he
    ·rfl
 ·rw [c, data_list, seen_del h]
theorem look_of_del {l l' : List En} (h : l.Pairwise (fun e f => numF e.addr < numF f.addr)) (h' : l'.Pairwise (fun e f => numF e.addr < numF f.addr)) (hl : L6 l) (hl' : L6 l') {t u : List (BitVec 8)} (ht : t.length = 6) (hd : delF l' t = delF l t) (hne : u ≠ t) : lookF l' u = lookF l u := by
 have h1 := look_del (t := u) h hl ht
 have h2 := look_del (t := u) h' hl' ht
 rw [if_neg hne] at h1 h2
 rw [← h1, ← h2, hd]
theorem valid_msg {a : As} {t : List (BitVec 8)} {sub : Int} (hg : groupF a.own = false) (hs : sub = 1 ∨ sub = 3 ∨ sub = 10 ∨ sub = 11 ∨ sub = 12) : validH (msgH a t sub) = true := by
 have e : groupsF (msgH a t sub) = true := by simp [groupsF, msgH, wholeF, hg]
 unfold validH
 rw [e]
 rcases hs with rfl | rfl | rfl | rfl | rfl <;> simp [msgH, knownF, restF, rest3, rest2, rest1, zA, addrsN, placesN, bothF, zeroHd, rangesF, inF, oddF, nullF, wholeF]
def subsA (s : Int) : Prop := s = 1 ∨ s = 3 ∨ s = 10 ∨ s = 11 ∨ s = 12
def AnsP (a : As) (t : List (BitVec 8)) (o : Fm) : Prop := ∃ sub, subsA sub ∧ o.1 = msgH a t sub ∧ o.2.length ≤ 6
theorem bye_ans (a : As) (t : List (BitVec 8)) (sub r : Int) (h : subsA sub) : AnsP a t (byeF a t sub r) := ⟨sub, h, rfl, by simp [byeF, two16]⟩
theorem six_le (x y z : Int) : (two16 x ++ two16 y ++ two16 z).length ≤ 6 := Nat.le_of_eq rfl
theorem handle_ans (a : As) (l : List En) (hd : Hd) (b : List (BitVec 8)) (now : Int) : (handleF dA dJ dL a l hd b now).2.1.length ≤ 1 ∧ ∀ o ∈ (handleF dA dJ dL a l hd b now).2.1, AnsP a hd.a2 o := by
 have one : ∀ o : Fm, AnsP a hd.a2 o → [o].length ≤ 1 ∧ ∀ x ∈ [o], AnsP a hd.a2 x := fun o ho => ⟨Nat.le_refl _, fun x hx => by rw [List.mem_singleton.1 hx]; exact ho⟩
 have nil : ([] : List Fm).length ≤ 1 ∧ ∀ x ∈ ([] : List Fm), AnsP a hd.a2 x := ⟨Nat.zero_le _, fun x hx => by cases hx⟩
 unfold handleF
 split
 ·exact nil
 ·split
  ·exact nil
  ·split
   ·exact nil
   ·split
    ·unfold manageF
     split
     ·unfold authF
      split
      ·exact nil
      ·exact one _ ⟨11, by simp [subsA], rfl, six_le _ _ _⟩
     ·split
      ·rename_i q
       have hs : subsA (hd.sub + 1) := by
        unfold subsA
        rcases q with q | q <;> omega
       unfold joinF
       split
       ·exact nil
       ·split
        ·exact one _ (bye_ans _ _ _ _ (by simp [subsA]))
        ·split
         ·exact one _ ⟨_, hs, rfl, six_le _ _ _⟩
         ·exact one _ ⟨_, hs, rfl, six_le _ _ _⟩
      ·split
       ·unfold leaveF
        split
        ·split
         ·exact nil
         ·split <;> exact nil
        ·exact nil
       ·exact nil
    ·unfold dataF
     split
     ·exact one _ (bye_ans _ _ _ _ (by simp [subsA]))
     ·split
      ·exact nil
      ·exact one _ (bye_ans _ _ _ _ (by simp [subsA]))
theorem ok_own {a : As} {l : List En} (h : OkL a l) : groupF a.own = false := by
 have := h.head
 simp only [headF, Bool.and_eq_true, Bool.not_eq_true'] at this
 exact this.1.1.1.1
end Go.Proofs.Ytfecopfofkdnpaa
