/- Texts of this proof, put together: Fst, CutM, Fld, EqS, Pl30, Pl30b, Pl30c, Qz, FreeC, Mem, Find, Same. -/
import Derived.ChangeKeysEq
import Derived.Test.YtfecopfofkdnpaaS1
import Derived.Test.YtfecopfofkdnpaaS2
import Derived.Test.YtfecopfofkdnpaaS3
import Derived.Test.YtfecopfofkdnpaaS4
import Derived.Test.YtfecopfofkdnpaaS5
import Derived.Test.YtfecopfofkdnpaaS6
import Derived.Test.YtfecopfofkdnpaaS7
import Derived.Test.YtfecopfofkdnpaaS8
import Derived.Test.YtfecopfofkdnpaaS9
import Derived.Test.YtfecopfofkdnpaaS10
import Derived.Test.YtfecopfofkdnpaaS11
import Derived.Test.YtfecopfofkdnpaaS12
import Derived.Test.YtfecopfofkdnpaaS13
import Derived.Test.YtfecopfofkdnpaaS14
import Derived.Test.YtfecopfofkdnpaaS15
import Derived.Test.YtfecopfofkdnpaaS16
import Derived.Test.YtfecopfofkdnpaaS17
import Derived.Test.YtfecopfofkdnpaaS18
import Derived.Test.YtfecopfofkdnpaaS19
import Derived.Test.YtfecopfofkdnpaaS20
import Derived.Test.YtfecopfofkdnpaaS21
import Derived.Test.YtfecopfofkdnpaaS22
import Derived.Test.YtfecopfofkdnpaaS23
import Derived.Test.YtfecopfofkdnpaaS24
import Derived.Test.YtfecopfofkdnpaaS25
import Derived.Test.YtfecopfofkdnpaaS26
import Derived.Test.YtfecopfofkdnpaaS27
import Derived.Test.YtfecopfofkdnpaaS28
import Derived.Test.YtfecopfofkdnpaaS29
import Derived.Test.YtfecopfofkdnpaaS30
namespace Go.Proofs.Ytfecopfofkdnpaa
open Go.RowKit
theorem unput {P : Program} {ops : Array Oper} {rest : List Oper} {Q : Exit → Act → World → Prop} {a : Act} {w : World} {d : Option Tmp} {v : Value}
  (h : wpList P ops Q (Oper.mk d (.move (.const v)) 0 "" #[] none :: rest) a w) : wpList P ops Q rest (a.put d v) w := by
 unfold wpList at h
 rw [if_pos (show Region.wanted (Oper.mk d (.move (.const v)) 0 "" #[] none) (yielded ops a.tmps) = true from rfl)] at h
 rcases h with h | ⟨h, _⟩
 ·exact h
 ·exact absurd (show noRoomEvent ∈ (#[] : Array Event) from h.1) (by simp)
def mixL : List (Bool × Nat) → List Value → List Value → List Value
 | m, x :: xs, y :: ys => match m with
  | (_, 0) :: m => match m with
   | (b, n + 1) :: m => (if b then x else y) :: mixL ((b, n) :: m) xs ys
   | _ => y :: ys
  | (b, n + 1) :: m => (if b then x else y) :: mixL ((b, n) :: m) xs ys
  | [] => y :: ys
 | _, _, ys => ys
def CutQ (m : List (Bool × Nat)) (R : (Tmp → Value) → World → Prop) (a : Act) (ex : Exit) (a' : Act) (w' : World) : Prop :=
 ex = .normal ∧ a'.defers = a.defers ∧ a'.tmps.toList = mixL m a'.tmps.toList a.tmps.toList ∧ a'.tmps.toList.length = a.tmps.toList.length ∧ R (fun d => a'.tmps.toList.getD d undef) w'
theorem CutQ.of {m : List (Bool × Nat)} {R : (Tmp → Value) → World → Prop} {a a' : Act} {w' : World} (hd : a'.defers = a.defers) (ht : a'.tmps.toList = mixL m a'.tmps.toList a.tmps.toList) (hl : a'.tmps.toList.length = a.tmps.toList.length) (hr : R (fun d => a'.tmps.toList.getD d undef) w') : CutQ m R a .normal a' w' := ⟨rfl, hd, ht, hl, hr⟩
def LoopQ (m : List (Bool × Nat)) (R : (Tmp → Value) → World → Prop) (mu : (Tmp → Value) → World → Nat) (a0 : Act) (k : Nat) (a' : Act) (w' : World) : Prop :=
 a'.defers = a0.defers ∧ a'.tmps.toList = mixL m a'.tmps.toList a0.tmps.toList ∧ a'.tmps.toList.length = a0.tmps.toList.length ∧ R (fun d => a'.tmps.toList.getD d undef) w' ∧ mu (fun d => a'.tmps.toList.getD d undef) w' < k
theorem LoopQ.of {m : List (Bool × Nat)} {R : (Tmp → Value) → World → Prop} {mu : (Tmp → Value) → World → Nat} {a0 a' : Act} {k : Nat} {w' : World} (hd : a'.defers = a0.defers) (ht : a'.tmps.toList = mixL m a'.tmps.toList a0.tmps.toList) (hl : a'.tmps.toList.length = a0.tmps.toList.length) (hr : R (fun d => a'.tmps.toList.getD d undef) w') (hm : mu (fun d => a'.tmps.toList.getD d undef) w' < k) : LoopQ m R mu a0 k a' w' := ⟨hd, ht, hl, hr, hm⟩
section
variable {P : Program}
variable {ops : Array Oper} {rest : List Oper} {o : Oper} {a : Act} {w0 w : World} {Q : Exit → Act → World → Prop} {bs : List Bk}
theorem L_sv (H : Kp (Loc w0 w bs)) (hgd : o.guard = none) (hdst : o.dst = none) (ty : TypeId) (x y : Operand) (ho : o.op = .store ty x y) (k : Nat) {g T : Nat} {ps : List Lf} (hi : bs[k]? = some (g, T, cat ps)) (off : Nat)
  (hx : a.eval x = .pointer (some ⟨g, off, none⟩)) (i : Nat) (hf : fat ps off = some i) (q : Lf) (hy : a.eval y = .agg q.cs.toArray) {p : Lf} (hp : nth ps i = some p) (hn : p.n = q.n) (hz : (P.info? ty).map (·.size) = some q.n) (new : List Lf) (hnew : pput ps i 1 [q] = new)
  (h : ∀ w', Kp (Wrote w w' g) → Kp (Loc w0 w' (bs.set k (g, T, cat new))) → wpList P ops Q rest a w') : wpList P ops Q (o :: rest) a w :=
 L_sg H hgd hdst ty x y ho k hi off hx i hf 1 [q] (by rw [cat1]; exact hy) (by rw [nth_get hp]; simp [lsum, hn]) (by rw [hz]; simp [lsum]) new hnew h
end
section
variable {P : Program}
end
theorem neEn (w : World) (x y : En) (hx : x.Ok) (hy : y.Ok) : (binOp .neq 39 (.agg (cellsE x).toArray) (.agg (cellsE y).toArray)).run Try.prog w = .ok (.bool (!decide (x = y))) w := by
 rw [run_neq_struct, eqEnIn w x y hx hy]; rfl
def isHeld (aid : Int) (e : En) : Bool := e.state == 2 && e.aid == aid
def holderF (l : List En) (aid : Int) : Int := match l.findIdx? (isHeld aid) with | some i => i | none => -1
theorem holder_eq_iff (l : List En) (aid : Int) (k : Nat) (hk : k < l.length) (h : isHeld aid (enAt l k) = true) : holderF l aid = k ↔ ∀ j, j < k → isHeld aid (enAt l j) = false := by
 unfold holderF
 cases hf : l.findIdx? (isHeld aid) with
 | none =>
  exfalso
  rw [List.findIdx?_eq_none_iff] at hf
  have := hf (enAt l k) (by simp only [enAt, List.getD_eq_getElem?_getD, List.getElem?_eq_getElem hk, Option.getD_some]; exact List.getElem_mem hk)
  rw [this] at h; cases h
 | some i =>
  rw [List.findIdx?_eq_some_iff_getElem] at hf
  obtain ⟨hi, h1, h2⟩ := hf
  have hat : ∀ j (hj : j < l.length), enAt l j = l[j] := fun j hj => by simp [enAt, List.getD_eq_getElem?_getD, List.getElem?_eq_getElem hj]
  constructor
  ·intro e j hj
   have e : (i : Int) = k := e
   have e : i = k := by omega
   have := h2 j (by omega)
   rw [hat j (by omega)]; simpa using this
  ·intro hall
   have : i = k := by
    rcases Nat.lt_trichotomy i k with c | c | c
    ·have := hall i c; rw [hat i hi, h1] at this; cases this
    ·exact c
    ·have := h2 k c; rw [← hat k hk, h] at this; simp at this
   simp [this]
theorem findI_cases (l : List En) (t : List (BitVec 8)) : findI l t = -1 ∨ ∃ i : Nat, i < l.length ∧ findI l t = i := by
 unfold findI
 cases h : l.findIdx? (hasAddr t) with
 | none => exact .inl rfl
 | some i =>
  rw [List.findIdx?_eq_some_iff_getElem] at h
  obtain ⟨hi, _⟩ := h
  exact .inr ⟨i, hi, rfl⟩
theorem holder_cases (l : List En) (aid : Int) : holderF l aid = -1 ∨ ∃ i : Nat, i < l.length ∧ holderF l aid = i := by
 unfold holderF
 cases h : l.findIdx? (isHeld aid) with
 | none => exact .inl rfl
 | some i =>
  rw [List.findIdx?_eq_some_iff_getElem] at h
  obtain ⟨hi, _⟩ := h
  exact .inr ⟨i, hi, rfl⟩
def byE (a : As) (l : List En) (aid : Int) : En × Bool := if validA a l && decide (0 ≤ holderF l aid) then (enAt l (holderF l aid).toNat, true) else (en0, false)
def subsB (s : Int) : Bool := s == 11 || s == 12 || s == 4 || s == 5 || s == 8
def allowF (a : As) (l : List En) (h : Hd) : Bool := validA a l && validH h && addrF a h && (if h.kind = 2 then (findE a l h.a2).1.state == 2 else if subsB h.sub then true else if h.sub = 13 then (findE a l h.a2).1.state == 2 else (findE a l h.a2).2)
section
variable (dA : List (BitVec 8) → Option (Int × Int)) (dJ : Bool → List (BitVec 8) → Option (Int × Int)) (dL : List (BitVec 8) → Bool)
end
def removeF (a : As) (l : List En) (t : List (BitVec 8)) : Rs :=
 if !validA a l then ([], [], 8) else if (lookF l t).isNone then ([], [], 6) else (delF l t, [byeF a t 12 8], 0)
def admitF (a : As) (l : List En) (t : List (BitVec 8)) (now : Int) : Rs :=
 if !validA a l then ([], [], 8) else if groupF t || t == a.own || !momentF now then ([], [], 2)
 else if (lookF l t).isNone && l.length == 64 then ([], [], 22) else (putF l (freshE t now), [], 0)
section
variable {P : Program}
variable {o : Oper} {a : Act} {w0 w : World} {x0 : Xtra} {K : Act → Prop} {bs : List Bk}
theorem qz_eq (t u : TypeId) (x y : Operand) (ho : o.op = .binOp .eql t x y u) (cx cy : List Value) (b : Bool) (hx : a.eval x = .agg cx.toArray) (hy : a.eval y = .agg cy.toArray) (hg : P.eqGuardType P.depth t = false) (hq : ∀ w', (Op.equalIn 10000 t (.agg cx.toArray) (.agg cy.toArray)).run P w' = .ok b w')
  (h : K (a.put o.dst (.bool b))) : o.quiet P a (Cx w x0) K :=
 qz_b .eql t u x y ho _ _ _ hx hy (fun _ => run_eqGuard_agg _ _ _ _ _ _ _ hg) (fun w' => by rw [run_eql_struct, hq w']; rfl) h
end
theorem Loc.sameC {w0 W w : World} {bs : List Bk} {p g T : Nat} {c0 : List Value} (h : Loc w0 W bs) (hin : bs[p]? = some (g, T, c0)) (ho : Out [g] W w) (hn : Lc w g T c0) : Loc w0 w bs := by
 have h1 := h.setC hin ho hn
 have e : bs.set p (g, T, c0) = bs := by
  obtain ⟨hlt, he⟩ := List.getElem?_eq_some_iff.1 hin
  rw [← he]; exact List.set_getElem_self hlt
 rw [e] at h1; exact h1
section
variable {P : Program} {ops : Array Oper}
end
theorem holder_take (l : List En) (aid : Int) (j : Nat) (x : En) (h : l[j]? = some x) (hT : ∀ k, k < j → isHeld aid (enAt l k) = false) (hx : isHeld aid x = false) : ∀ k, k < j + 1 → isHeld aid (enAt l k) = false := by
 intro k hk
 rcases Nat.lt_succ_iff_lt_or_eq.1 hk with c | c
 ·exact hT k c
 ·subst c; rw [enAt_some h]; exact hx
theorem holder_none (l : List En) (aid : Int) (hT : ∀ k, k < l.length → isHeld aid (enAt l k) = false) : holderF l aid = -1 := by
 rcases holder_cases l aid with c | ⟨i, hi, c⟩
 ·exact c
 ·exfalso
  unfold holderF at c
  cases hf : l.findIdx? (isHeld aid) with
  | none => rw [hf] at c; simp at c
  | some k =>
   rw [List.findIdx?_eq_some_iff_getElem] at hf
   obtain ⟨h1, h2, _⟩ := hf
   have := hT k h1
   rw [enAt_get h1, h2] at this; cases this
theorem run_box_int {P : Program} (T : TypeId) (k : IntKind) (n : Int) (w : World) : (Instr.box T (.int k n)).run P w = .ok (.pointer (some ⟨w.heap.size, 0, none⟩)) (w.alloc (.cells #[.int k n] T)) := by
 simp [Instr.box, newVar, newRow, go_sem]
theorem L_boxI {P : Program} {ops : Array Oper} {rest : List Oper} {o : Oper} {a : Act} {w0 w : World} {Q : Exit → Act → World → Prop} {bs : List Bk} (H : Kp (Loc w0 w bs)) (hg : o.guard = none) (t : TypeId) (x : Operand) (ho : o.op = .box t x) (k : IntKind) (n : Int) (hx : a.eval x = .int k n)
  (h : ∀ g w', Kp (g = w.heap.size) → Kp (Ext w w') → Kp (Loc w0 w' ((g, t, [.int k n]) :: bs)) → wpList P ops Q rest (a.put o.dst (.pointer (some ⟨g, 0, none⟩))) w') : wpList P ops Q (o :: rest) a w := by
 refine wpList_plain hg fun K hK => ?_
 unfold Oper.wp execOp
 simp only [ho, hx, Sem.run_bind, Sem.run_pure, Result.andThen_ok, run_box_int]
 exact hK _ _ (h _ _ (kp rfl) (kp (Ext.alloc _ _)) (kp (H.out.new t [.int k n])))
theorem byE_bad {a : As} {l : List En} {aid : Int} (h : validA a l = false) : byE a l aid = (en0, false) := by simp [byE, h]
theorem byE_no {a : As} {l : List En} {aid : Int} (h : holderF l aid = -1) : byE a l aid = (en0, false) := by simp [byE, h]
theorem byE_yes {a : As} {l : List En} {aid : Int} {i : Nat} (hv : validA a l = true) (h : holderF l aid = i) : byE a l aid = (enAt l i, true) := by simp [byE, hv, h]
theorem byAidF_any (s : En) (hs : s.addr.length = 6) (aid : Int) (g : Nat) (w : World) (hg : Lc w g 3 [.int .i64 aid]) :
  Calls Try.prog 43 #[.agg (cellsE s).toArray, .pointer (some ⟨g, 0, none⟩)] w fun e w' => e = .returned (.bool (isHeld aid s)) ∧ Ext w w' := by
 have H := kp (Loc.start w)
 have HG := kp hg
 have H6 := kp (cE6 hs)
 have H7 := kp (cE7 hs)
 have HII := kp (show isHeld aid s = (s.state == 2 && s.aid == aid) from rfl)
 clear hs hg
 go_enter Try.func43, Try.ntmps43
 go_wp2_with (first | (((with_reducible refine isBx 2 39 ?_); (with_reducible refine L_box H rfl 39 _ rfl (cellsE s) rfl ?_); clear H; intro g2 w2 HGg2 HEg2 H; simp only [pA]); have hc6 := run_load_cell H.out 0 rfl _ _ H6.out; have hc7 := run_load_cell H.out 0 rfl _ _ H7.out; have hca := (HG.out.ext H.out.1).cell (show [Value.int .i64 aid][0]? = _ from rfl)))
 all_goals (go_ret; exact ⟨congrArg (fun z => Ending.returned (.bool z)) (by rw [HII.out]; simp [*]), H.out.1⟩)
set_option maxHeartbeats 6400000 in
theorem index_any (v : Value) (l : List En) (hl : ∀ x ∈ l, x.addr.length = 6) (hn : l.length ≤ 100000) (aid : Int) (g : Nat) (w : World) (hs : SlT 11 cellsE w v l) (hg : Lc w g 3 [.int .i64 aid]) :
  Calls Try.prog 42 #[v, .func (.func 43) #[] #[.pointer (some ⟨g, 0, none⟩)]] w fun e w' => e = .returned (.int .i64 (holderF l aid)) ∧ Ext w w' := by
 obtain ⟨ad, n, c, rfl, hnl, hcap, hat⟩ := hs
 have HAT := kp hat; have HNL := kp hnl; have HLK := kp hl; have H := kp (Loc.start w); have hn2 : n ≤ 100000 := by omega
 have HG := kp hg
 clear hat hl hnl hcap hn hg
 go_enter Try.func42, Try.ntmps42
 go_wp2_with fail
 go_loopw [8] (fun i wr => ∃ j : Nat, j ≤ n ∧ i = .int .i64 j ∧ Kp (∀ k, k < j → isHeld aid (enAt l k) = false) ∧ Kp (Loc w wr [])) (fun i _ => n - (intOf i).toNat)
 case atStart => exact ⟨0, by omega, rfl, kp (fun k hk => by omega), H⟩
 case round =>
  obtain ⟨j, hj, rfl, HT, H⟩ := hrel
  by_cases hlt : j < n
  ·obtain ⟨x, hx⟩ : ∃ x, l[j]? = some x := ⟨l[j]'(by rw [← HNL.out]; omega), by simp⟩
   obtain ⟨b, off, rfl, hb, hr⟩ := HAT.out j x hx; have HB := kp hb; have HR := kp hr; have HX := kp hx; have HXK := kp (HLK.out x (List.mem_of_getElem? hx)); clear hb hr hx
   have HZX := kp (sizeE HXK.out)
   have HR3 := kp (rangeAt_ext HR.out HB.out H.out.1)
   have HBY := kp (fun w' hx => byAidF_any x HXK.out aid g w' (HG.out.ext hx))
   have HJL := kp (show j < l.length by rw [← HNL.out]; exact hlt)
   cases hh : isHeld aid x with
   | true =>
    rw [hh] at HBY
    have HO := kp ((holder_eq_iff l aid j HJL.out (by rw [enAt_some HX.out]; exact hh)).2 HT.out)
    clear hh
    go_wp2_with (first | ((with_reducible refine isLd 39 ?_); (refine wpList_load_midG (by kernel_rfl) 39 _ rfl (b) (off + j * 11) rfl (cellsE x) _ (HR3.out) Try.underlying39 rfl (HZX.out) ?_); simp only [pA]) | (go_at_call 43; refine (HBY.out _ H.out.1).mono ?_; rintro e wa ⟨rfl, hx⟩; replace H := kp (H.out.ext hx); have HXC := kp hx; clear hx))
    go_ret
    exact ⟨congrArg (fun z => Ending.returned (.int .i64 z)) HO.out.symm, H.out.1⟩
   | false =>
    rw [hh] at HBY
    have HO := kp (holder_take l aid j x HX.out HT.out hh)
    clear hh
    go_wp2_with (first | ((with_reducible refine isLd 39 ?_); (refine wpList_load_midG (by kernel_rfl) 39 _ rfl (b) (off + j * 11) rfl (cellsE x) _ (HR3.out) Try.underlying39 rfl (HZX.out) ?_); simp only [pA]) | (go_at_call 43; refine (HBY.out _ H.out.1).mono ?_; rintro e wa ⟨rfl, hx⟩; replace H := kp (H.out.ext hx); have HXC := kp hx; clear hx))
    go_roundw
    case rel => exact ⟨j + 1, by omega, by go_num, HO, H⟩
    case measure => simp [intOf]; omega
  ·obtain rfl : j = n := by omega
   have HO := kp (holder_none l aid (fun k hk => HT.out k (by rw [HNL.out]; exact hk)))
   go_wp2_with fail
   go_ret
   exact ⟨congrArg (fun z => Ending.returned (.int .i64 z)) HO.out.symm, H.out.1⟩
set_option maxHeartbeats 6400000 in
theorem byAid_any (a : As) (ha : a.own.length = 6) (v : Value) (l : List En) (hl : ∀ x ∈ l, x.addr.length = 6) (hn : l.length ≤ 100000) (aid : Int) (w : World) (hs : SlT 11 cellsE w v l) :
  Calls Try.prog 13 #[.agg (cellsA a v).toArray, .int .i64 aid] w fun e w' => e = .returned (.tuple #[.agg (cellsE (byE a l aid).1).toArray, .bool (byE a l aid).2]) ∧ Ext w w' := by
 have HSL := kp hs
 have HCH := kp (fun w' hx => check_any a ha v l hl hn w' (HSL.out.ext hx))
 have HIX := kp (fun g w' hx hg => index_any v l hl hn aid g w' (HSL.out.ext hx) hg)
 obtain ⟨ad, n, c, rfl, hnl, hcap, hat⟩ := hs
 have HAT := kp hat; have HNL := kp hnl; have HLK := kp hl; have H := kp (Loc.start w); have hn2 : n ≤ 100000 := by omega
 have HC9 := kp (cA9 (a := a) (.slice ad n c) ha)
 have HZA := kp (sizeAs (a := a) (.slice ad n c) ha)
 have HZE0 := kp (show (Try.prog.info? 39).map (·.size) = some (cellsE en0).toArray.size by kernel_rfl)
 have HOE := kp one_cellsE
 clear hat hl hnl hcap hn ha
 go_enter Try.func13, Try.ntmps13
 generalize h2 : ((Code.region 2 _ _ : Code).seq _) = C2
 go_wp2_with (first | ((with_reducible refine isBx 2 26 ?_); (with_reducible refine L_box H rfl 26 _ rfl (cellsA a (.slice ad n c)) rfl ?_); clear H; intro g2 w2 HGg2 HEg2 H; simp only [pA]) | ((with_reducible refine isBx 3 3 ?_); (with_reducible refine L_boxI H rfl 3 _ rfl _ _ rfl ?_); clear H; intro g3 w3 HGg3 HEg3 H; simp only [pA]) | (((with_reducible refine isAl 4 39 ?_); (with_reducible refine L_alloc H rfl 39 rfl (cellsE en0) (fun _ _ => by kernel_rfl) ?_); clear H; intro g4 w4 HGg4 HEg4 H; simp only [pA]); have hc9 := run_load_cell H.out 2 rfl _ _ HC9.out) | (go_at_call 42; refine (HIX.out g3 _ H.out.1 (H.out.at 1 rfl)).mono ?_; rintro e wa ⟨rfl, hx⟩; replace H := kp (H.out.ext hx); have HXC := kp hx; clear hx))
 clear hc9
 subst h2
 cases hv : validA a l with
 | false =>
  have HCC := kp (chk_bad hv)
  have HF := kp (byE_bad (aid := aid) hv)
  clear hv
  rw [HCC.out] at HCH
  go_wp2_with (first | ((with_reducible refine isLd 26 ?_); (refine wpList_load_rowG (by kernel_rfl) 26 _ rfl (g2) rfl 26 (cellsA a (.slice ad n c)).toArray (0, 0) _ (H.out.at 2 rfl) Try.underlying26 rfl (HZA.out) ?_); simp only [pA]) | (go_at_call 20; refine (HCH.out _ H.out.1).mono ?_; rintro e wa ⟨rfl, hx⟩; replace H := kp (H.out.ext hx); have HXC := kp hx; clear hx) | ((with_reducible show wpList _ _ _ (Oper.mk (some 18) (Op.build 39 _) _ _ _ _ :: _) _ _); (refine L_bd (by kernel_rfl) 39 _ rfl (#[]) (by kernel_rfl) (cellsE en0) (fun _ => by kernel_rfl) ?_); simp only [pA]) | ((with_reducible refine isSt 39 ?_); (first | (refine L_store H rfl rfl 39 _ _ rfl 0 rfl rfl (cellsE en0) rfl (HZE0.out) (rfl) (HOE.out _) ?_; clear H; intro w9 HWw9 H; simp only [szA] at H) | (refine L_store H rfl rfl 39 _ _ rfl 1 rfl rfl (cellsE en0) rfl (HZE0.out) (rfl) (HOE.out _) ?_; clear H; intro w9 HWw9 H; simp only [ssA, szA] at H) | (refine L_store H rfl rfl 39 _ _ rfl 2 rfl rfl (cellsE en0) rfl (HZE0.out) (rfl) (HOE.out _) ?_; clear H; intro w9 HWw9 H; simp only [ssA, szA] at H) | (refine L_store H rfl rfl 39 _ _ rfl 3 rfl rfl (cellsE en0) rfl (HZE0.out) (rfl) (HOE.out _) ?_; clear H; intro w9 HWw9 H; simp only [ssA, szA] at H) | (refine L_store H rfl rfl 39 _ _ rfl 4 rfl rfl (cellsE en0) rfl (HZE0.out) (rfl) (HOE.out _) ?_; clear H; intro w9 HWw9 H; simp only [ssA, szA] at H) | (refine L_store H rfl rfl 39 _ _ rfl 5 rfl rfl (cellsE en0) rfl (HZE0.out) (rfl) (HOE.out _) ?_; clear H; intro w9 HWw9 H; simp only [ssA, szA] at H))))
  rw [HF.out]
  exact ret_row2 Try.results13 _ _ _ (0, 0) _ rfl _ rfl (H.out.at 0 rfl) Try.underlying39 rfl (HZE0.out) rfl ⟨rfl, H.out.1⟩
 | true =>
  have HCC := kp (chk_good hv)
  have HV := kp hv
  clear hv
  rw [HCC.out] at HCH
  rcases holder_cases l aid with hd | ⟨i, hi, hd⟩
  ·have HF := kp (byE_no (a := a) hd)
   have hd0 : ¬ 0 ≤ holderF l aid := by rw [hd]; decide
   have hd1 : holderF l aid < 0 := by rw [hd]; decide
   clear hd
   go_wp2_with (first | ((with_reducible refine isLd 26 ?_); (refine wpList_load_rowG (by kernel_rfl) 26 _ rfl (g2) rfl 26 (cellsA a (.slice ad n c)).toArray (0, 0) _ (H.out.at 2 rfl) Try.underlying26 rfl (HZA.out) ?_); simp only [pA]) | (go_at_call 20; refine (HCH.out _ H.out.1).mono ?_; rintro e wa ⟨rfl, hx⟩; replace H := kp (H.out.ext hx); have HXC := kp hx; clear hx) | ((with_reducible show wpList _ _ _ (Oper.mk (some 18) (Op.build 39 _) _ _ _ _ :: _) _ _); (refine L_bd (by kernel_rfl) 39 _ rfl (#[]) (by kernel_rfl) (cellsE en0) (fun _ => by kernel_rfl) ?_); simp only [pA]) | ((with_reducible refine isSt 39 ?_); (first | (refine L_store H rfl rfl 39 _ _ rfl 0 rfl rfl (cellsE en0) rfl (HZE0.out) (rfl) (HOE.out _) ?_; clear H; intro w9 HWw9 H; simp only [szA] at H) | (refine L_store H rfl rfl 39 _ _ rfl 1 rfl rfl (cellsE en0) rfl (HZE0.out) (rfl) (HOE.out _) ?_; clear H; intro w9 HWw9 H; simp only [ssA, szA] at H) | (refine L_store H rfl rfl 39 _ _ rfl 2 rfl rfl (cellsE en0) rfl (HZE0.out) (rfl) (HOE.out _) ?_; clear H; intro w9 HWw9 H; simp only [ssA, szA] at H) | (refine L_store H rfl rfl 39 _ _ rfl 3 rfl rfl (cellsE en0) rfl (HZE0.out) (rfl) (HOE.out _) ?_; clear H; intro w9 HWw9 H; simp only [ssA, szA] at H) | (refine L_store H rfl rfl 39 _ _ rfl 4 rfl rfl (cellsE en0) rfl (HZE0.out) (rfl) (HOE.out _) ?_; clear H; intro w9 HWw9 H; simp only [ssA, szA] at H) | (refine L_store H rfl rfl 39 _ _ rfl 5 rfl rfl (cellsE en0) rfl (HZE0.out) (rfl) (HOE.out _) ?_; clear H; intro w9 HWw9 H; simp only [ssA, szA] at H))))
   rw [HF.out]
   exact ret_row2 Try.results13 _ _ _ (0, 0) _ rfl _ rfl (H.out.at 0 rfl) Try.underlying39 rfl (HZE0.out) rfl ⟨rfl, H.out.1⟩
  ·have HF := kp (byE_yes HV.out hd)
   rw [hd]
   clear hd
   obtain ⟨x, hx⟩ : ∃ x, l[i]? = some x := ⟨l[i]'hi, by simp⟩
   obtain ⟨b, off, rfl, hb, hr⟩ := HAT.out i x hx
   have HB := kp hb
   have HR := kp hr
   have HXA := kp (enAt_some hx)
   have HXK := kp (HLK.out x (List.mem_of_getElem? hx))
   have hin : i < n := by rw [HNL.out]; exact hi
   clear hb hr hx hi
   have HZX := kp (sizeE HXK.out)
   have HZXa := kp (sizeEa HXK.out)
   have HLE := kp (show (cellsE en0).length = (cellsE x).length by rw [cellsE_len HXK.out]; rfl)
   go_wp2_with (first | ((with_reducible refine isLd 26 ?_); (refine wpList_load_rowG (by kernel_rfl) 26 _ rfl (g2) rfl 26 (cellsA a (.slice (some ⟨b, off, none⟩) n c)).toArray (0, 0) _ (H.out.at 2 rfl) Try.underlying26 rfl (HZA.out) ?_); simp only [pA]) | (go_at_call 20; refine (HCH.out _ H.out.1).mono ?_; rintro e wa ⟨rfl, hx⟩; replace H := kp (H.out.ext hx); have HXC := kp hx; clear hx; have hc9 := run_load_cell H.out 2 rfl _ _ HC9.out; have HR3 := kp (rangeAt_ext HR.out HB.out H.out.1)) | ((with_reducible refine isLd 39 ?_); (refine wpList_load_midG (by kernel_rfl) 39 _ rfl (b) (off + i * 11) rfl (cellsE x) _ (HR3.out) Try.underlying39 rfl (HZX.out) ?_); simp only [pA]) | ((with_reducible refine isSt 39 ?_); (first | (refine L_store H rfl rfl 39 _ _ rfl 0 rfl rfl (cellsE x) rfl (HZXa.out) (HLE.out) (HOE.out _) ?_; clear H; intro w9 HWw9 H; simp only [szA] at H) | (refine L_store H rfl rfl 39 _ _ rfl 1 rfl rfl (cellsE x) rfl (HZXa.out) (HLE.out) (HOE.out _) ?_; clear H; intro w9 HWw9 H; simp only [ssA, szA] at H) | (refine L_store H rfl rfl 39 _ _ rfl 2 rfl rfl (cellsE x) rfl (HZXa.out) (HLE.out) (HOE.out _) ?_; clear H; intro w9 HWw9 H; simp only [ssA, szA] at H) | (refine L_store H rfl rfl 39 _ _ rfl 3 rfl rfl (cellsE x) rfl (HZXa.out) (HLE.out) (HOE.out _) ?_; clear H; intro w9 HWw9 H; simp only [ssA, szA] at H) | (refine L_store H rfl rfl 39 _ _ rfl 4 rfl rfl (cellsE x) rfl (HZXa.out) (HLE.out) (HOE.out _) ?_; clear H; intro w9 HWw9 H; simp only [ssA, szA] at H) | (refine L_store H rfl rfl 39 _ _ rfl 5 rfl rfl (cellsE x) rfl (HZXa.out) (HLE.out) (HOE.out _) ?_; clear H; intro w9 HWw9 H; simp only [ssA, szA] at H))))
   rw [HF.out, HXA.out]
   exact ret_row2 Try.results13 _ _ _ (0, 0) _ rfl _ rfl (H.out.at 0 rfl) Try.underlying39 rfl (HZXa.out) rfl ⟨rfl, H.out.1⟩
theorem cF_at {h : Hd} (ok : h.Ok) (v : Value) (i : Nat) (hi : i < 40) : (cellsF h v)[i]? = (cellsH h)[i]? := by
 rw [cellsF, List.getElem?_append_left (by rw [cellsH_len ok]; exact hi)]
theorem cF_head {h : Hd} (_ : h.Ok) (v : Value) : ((cellsF h v).drop 0).take (cellsH h).length = cellsH h := by
 rw [List.drop_zero, cellsF, List.take_append_of_le_length (Nat.le_refl _), List.take_of_length_le (Nat.le_refl _)]
theorem cF_a2 {h : Hd} (ok : h.Ok) (v : Value) : ((cellsF h v).drop 16).take (h.a2.map V8).length = h.a2.map V8 := by
 have hp := pH2 ok
 rw [cellsF, List.drop_append_of_le_length (by rw [cellsH_len ok]; decide), List.take_append_of_le_length (by rw [List.length_drop, cellsH_len ok, List.length_map, ok.l2]; decide)]
 exact hp
theorem sizeHl {h : Hd} (ok : h.Ok) : (Try.prog.info? 28).map (·.size) = some (cellsH h).length := by
 rw [cellsH_len ok]; kernel_rfl
def sameH (a b : As) : Bool := a.own == b.own && a.caps == b.caps && a.limit == b.limit && a.idle == b.idle
def sameF (a : As) (l : List En) (b : As) (m : List En) : Bool := sameH a b && decide (l = m)
theorem same_no {a b : As} {l m : List En} (j : Nat) (x y : En) (hx : l[j]? = some x) (hy : m[j]? = some y) (h : x ≠ y) : sameF a l b m = false := by
 have : l ≠ m := fun e => by rw [e, hy] at hx; exact h (Option.some.inj hx).symm
 simp [sameF, this]
theorem same_take {l m : List En} {j : Nat} {x : En} (hx : l[j]? = some x) (hy : m[j]? = some x) (h : l.take j = m.take j) : l.take (j + 1) = m.take (j + 1) := by
 rw [List.take_add_one, List.take_add_one, hx, hy, h]
set_option maxHeartbeats 6400000 in
theorem same_any (a b : As) (ha : a.own.length = 6) (hb : b.own.length = 6) (v u : Value) (l m : List En) (hl : ∀ x ∈ l, x.Ok) (hm : ∀ x ∈ m, x.Ok) (hn : l.length ≤ 100000) (hn' : m.length ≤ 100000) (w : World) (hs : SlT 11 cellsE w v l) (hs' : SlT 11 cellsE w u m) :
  Calls Try.prog 17 #[.agg (cellsA a v).toArray, .agg (cellsA b u).toArray] w fun e w' => e = .returned (.bool (sameF a l b m)) ∧ Ext w w' := by
 obtain ⟨ad, n, c, rfl, hnl, hcap, hat⟩ := hs
 obtain ⟨ad', n', c', rfl, hnl', hcap', hat'⟩ := hs'
 have HAT := kp hat; have HNL := kp hnl; have HLK := kp hl; have H := kp (Loc.start w); have hn2 : n ≤ 100000 := by omega
 have HAT' := kp hat'; have HNL' := kp hnl'; have HLK' := kp hm; have hn2' : n' ≤ 100000 := by omega
 have A6 := kp (cA6 (a := a) (.slice ad n c) ha)
 have A7 := kp (cA7 (a := a) (.slice ad n c) ha)
 have A8 := kp (cA8 (a := a) (.slice ad n c) ha)
 have A9 := kp (cA9 (a := a) (.slice ad n c) ha)
 have B6 := kp (cA6 (a := b) (.slice ad' n' c') hb)
 have B7 := kp (cA7 (a := b) (.slice ad' n' c') hb)
 have B8 := kp (cA8 (a := b) (.slice ad' n' c') hb)
 have B9 := kp (cA9 (a := b) (.slice ad' n' c') hb)
 have HOW := kp (cellsA_own (a := a) (.slice ad n c) ha)
 have HOW' := kp (cellsA_own (a := b) (.slice ad' n' c') hb)
 have HZO := kp (sizeA8 ha)
 have HZO' := kp (sizeA8 hb)
 have hne := fun w => neAddr a.own b.own ha hb w
 have HGT := kp Try.eqGuardType39
 have HSH := kp (show sameH a b = (a.own == b.own && a.caps == b.caps && a.limit == b.limit && a.idle == b.idle) from rfl)
 have HSF := kp (show sameF a l b m = (sameH a b && decide (l = m)) from rfl)
 clear hat hat' hl hm hnl hnl' hcap hcap' hn hn' ha hb
 go_enter Try.func17, Try.ntmps17
 generalize h1 : (Code.region 1 _ _ : Code) = R1
 go_wp2_with (first | ((with_reducible refine isBx 2 26 ?_); (with_reducible refine L_box H rfl 26 _ rfl (cellsA a (.slice ad n c)) rfl ?_); clear H; intro g2 w2 HGg2 HEg2 H; simp only [pA]) | ((with_reducible refine isBx 3 26 ?_); (with_reducible refine L_box H rfl 26 _ rfl (cellsA b (.slice ad' n' c')) rfl ?_); clear H; intro g3 w3 HGg3 HEg3 H; simp only [pA]))
 subst h1
 refine wp_cut [6, 7, 8, 9, 10, 11, 12, 13, 14, 15, 16, 17, 18, 19, 20, 21, 22, 23, 24, 25, 26, 27, 28, 29, 30, 31, 32, 33, 34, 35, 36, 37, 38, 39, 40] (fun vs w' => Kp (Loc w w' [(g3, 26, cellsA b (.slice ad' n' c')), (g2, 26, cellsA a (.slice ad n c))]) ∧ vs 40 = .bool (!(sameH a b && decide (n = n')))) ?_ ?_
 ·rw [HSH.out]
  have a6 := run_load_cell H.out 1 rfl _ _ A6.out; have a7 := run_load_cell H.out 1 rfl _ _ A7.out; have a8 := run_load_cell H.out 1 rfl _ _ A8.out; have a9 := run_load_cell H.out 1 rfl _ _ A9.out
  have b6 := run_load_cell H.out 0 rfl _ _ B6.out; have b7 := run_load_cell H.out 0 rfl _ _ B7.out; have b8 := run_load_cell H.out 0 rfl _ _ B8.out; have b9 := run_load_cell H.out 0 rfl _ _ B9.out
  generalize (a.own == b.own) = eo at *
  go_wp2_with (first | ((with_reducible refine isLd 23 ?_); (first | (refine L_subG H (by kernel_rfl) 23 _ rfl 0 rfl (0) rfl (a.own.map V8) (HOW.out) Try.underlying23 rfl (HZO.out) ?_) | (refine L_subG H (by kernel_rfl) 23 _ rfl 1 rfl (0) rfl (a.own.map V8) (HOW.out) Try.underlying23 rfl (HZO.out) ?_) | (refine L_subG H (by kernel_rfl) 23 _ rfl 2 rfl (0) rfl (a.own.map V8) (HOW.out) Try.underlying23 rfl (HZO.out) ?_) | (refine L_subG H (by kernel_rfl) 23 _ rfl 3 rfl (0) rfl (a.own.map V8) (HOW.out) Try.underlying23 rfl (HZO.out) ?_) | (refine L_subG H (by kernel_rfl) 23 _ rfl 4 rfl (0) rfl (a.own.map V8) (HOW.out) Try.underlying23 rfl (HZO.out) ?_) | (refine L_subG H (by kernel_rfl) 23 _ rfl 5 rfl (0) rfl (a.own.map V8) (HOW.out) Try.underlying23 rfl (HZO.out) ?_)); simp only [pA]) | ((with_reducible refine isLd 23 ?_); (first | (refine L_subG H (by kernel_rfl) 23 _ rfl 0 rfl (0) rfl (b.own.map V8) (HOW'.out) Try.underlying23 rfl (HZO'.out) ?_) | (refine L_subG H (by kernel_rfl) 23 _ rfl 1 rfl (0) rfl (b.own.map V8) (HOW'.out) Try.underlying23 rfl (HZO'.out) ?_) | (refine L_subG H (by kernel_rfl) 23 _ rfl 2 rfl (0) rfl (b.own.map V8) (HOW'.out) Try.underlying23 rfl (HZO'.out) ?_) | (refine L_subG H (by kernel_rfl) 23 _ rfl 3 rfl (0) rfl (b.own.map V8) (HOW'.out) Try.underlying23 rfl (HZO'.out) ?_) | (refine L_subG H (by kernel_rfl) 23 _ rfl 4 rfl (0) rfl (b.own.map V8) (HOW'.out) Try.underlying23 rfl (HZO'.out) ?_) | (refine L_subG H (by kernel_rfl) 23 _ rfl 5 rfl (0) rfl (b.own.map V8) (HOW'.out) Try.underlying23 rfl (HZO'.out) ?_)); simp only [pA]))
  all_goals exact CutP.of rfl (by kernel_rfl) ⟨H, congrArg Value.bool (by first | (simp [*]; done) | (simp [bne, *]; done) | (simp [bne, *]; refine Bool.eq_iff_iff.2 ?_; simp; done) | (simp [bne, *]; refine Bool.eq_iff_iff.2 ?_; simp; omega))⟩
 rintro vs w4 ⟨H, e40⟩
 simp only [putMany, List.setIfInBounds_toArray, List.set_cons_zero, List.set_cons_succ]
 rw [e40]
 clear e40 hne
 cases hh : (sameH a b && decide (n = n')) with
 | false =>
  have HK := kp (show sameF a l b m = false by
   rw [HSF.out]
   have h1 : sameH a b = false ∨ n ≠ n' := by
    cases hq : sameH a b
    ·exact .inl rfl
    ·rw [hq] at hh; exact .inr (by simpa using hh)
   rcases h1 with q | q
   ·rw [q]; rfl
   ·rw [decide_eq_false (fun e => q (by rw [HNL.out, HNL'.out, e])), Bool.and_false])
  clear hh
  go_wp2_with fail
  go_ret
  exact ⟨congrArg (fun z => Ending.returned (.bool z)) HK.out.symm, H.out.1⟩
 | true =>
  have HQ := kp (show sameH a b = true ∧ n = n' by simpa using hh)
  clear hh
  obtain rfl : n = n' := HQ.out.2
  go_wp2_with fail
  go_loopw [5] (fun i wr => ∃ j : Nat, j ≤ n ∧ i = .int .i64 j ∧ Kp (l.take j = m.take j) ∧ Kp (Loc w wr [(g3, 26, cellsA b (.slice ad' n c')), (g2, 26, cellsA a (.slice ad n c))])) (fun i _ => n - (intOf i).toNat)
  case atStart => exact ⟨0, by omega, rfl, kp rfl, H⟩
  case round =>
   obtain ⟨j, hj, rfl, HT, H⟩ := hrel
   have hc9 := run_load_cell H.out 1 rfl _ _ A9.out
   by_cases hlt : j < n
   ·go_wp2_with fail
    clear hc9
    obtain ⟨x, hx⟩ : ∃ x, l[j]? = some x := ⟨l[j]'(by rw [← HNL.out]; omega), by simp⟩
    obtain ⟨y, hy⟩ : ∃ y, m[j]? = some y := ⟨m[j]'(by rw [← HNL'.out]; omega), by simp⟩
    obtain ⟨b1, off1, rfl, hb, hr⟩ := HAT.out j x hx
    obtain ⟨b2, off2, rfl, hb', hr'⟩ := HAT'.out j y hy
    have HB := kp hb; have HR := kp hr; have HX := kp hx; have HXK := kp (HLK.out x (List.mem_of_getElem? hx))
    have HB' := kp hb'; have HR' := kp hr'; have HY := kp hy; have HYK := kp (HLK'.out y (List.mem_of_getElem? hy))
    clear hb hr hx hb' hr' hy
    have HZX := kp (sizeE HXK.out.l)
    have HZY := kp (sizeE HYK.out.l)
    have HNE := kp (fun w => neEn w x y HXK.out HYK.out)
    generalize he : decide (x = y) = eb at *
    refine region_free H (tabS [(48, fun vQ _ => vQ = .pointer (some ⟨g2, 9, none⟩)), (49, fun vQ _ => vQ = .slice (some ⟨b1, off1, none⟩) n c), (50, fun vQ _ => vQ = .int .i64 j), (51, fun vQ _ => vQ = .pointer (some ⟨b1, off1 + j * 11, none⟩)), (52, fun vQ _ => vQ = .agg (cellsE x).toArray), (53, fun vQ _ => vQ = .pointer (some ⟨g3, 9, none⟩)), (54, fun vQ _ => vQ = .slice (some ⟨b2, off2, none⟩) n c'), (55, fun vQ _ => vQ = .int .i64 j), (56, fun vQ _ => vQ = .pointer (some ⟨b2, off2 + j * 11, none⟩)), (57, fun vQ _ => vQ = .agg (cellsE y).toArray), (58, fun vQ _ => vQ = .bool (!eb))]) [] (tabS_out _ _ (by simp only [List.forall_mem_cons, mono_eqO, true_and]; simp)) 11 (by kernel_rfl) (by kernel_rfl) (by kernel_rfl) (by kernel_rfl) [] [] rfl rfl (by decide) (by decide) (by decide) trivial ?_
    simp only [List.take_succ_cons, List.take_zero]
    refine ⟨fun w_ o_ S_ => ?_, fun v48 => ?_⟩
    ·clear S_
     clear o_
     go_wp2_with fail
     exact kso
    simp only [pA]
    refine ⟨fun w_ o_ S_ => ?_, fun v49 => ?_⟩
    ·obtain rfl : v48 = .pointer (some ⟨g2, 9, none⟩) := hsR S_ 48 rfl
     clear S_
     have H := kp (kK [0, 1] H o_)
     have HOX := kp o_
     clear o_
     have hc := run_load_cell H.out 1 rfl _ _ A9.out
     go_wp2_with fail
     exact kso
    simp only [pA]
    refine ⟨fun w_ o_ S_ => ?_, fun v50 => ?_⟩
    ·clear S_
     clear o_
     go_wp2_with fail
     exact kso
    simp only [pA]
    refine ⟨fun w_ o_ S_ => ?_, fun v51 => ?_⟩
    ·obtain rfl : v49 = .slice (some ⟨b1, off1, none⟩) n c := hsR S_ 49 rfl
     obtain rfl : v50 = .int .i64 j := hsR S_ 50 rfl
     clear S_ o_
     go_wp2_with fail
     exact kso
    simp only [pA]
    refine ⟨fun w_ o_ S_ => ?_, fun v52 => ?_⟩
    ·obtain rfl : v51 = .pointer (some ⟨b1, off1 + j * 11, none⟩) := hsR S_ 51 rfl
     clear S_
     have H := kp (kK [0, 1] H o_)
     have HOX := kp o_
     clear o_
     go_wp2_with ((with_reducible refine isLd 39 ?_); (refine wpList_load_midG (by kernel_rfl) 39 _ rfl (b1) (off1 + j * 11) rfl (cellsE x) _ ((rangeAt_ext HR.out HB.out H.out.1)) Try.underlying39 rfl (HZX.out) ?_); simp only [pA])
     exact kso
    simp only [pA]
    refine ⟨fun w_ o_ S_ => ?_, fun v53 => ?_⟩
    ·clear S_
     clear o_
     go_wp2_with fail
     exact kso
    simp only [pA]
    refine ⟨fun w_ o_ S_ => ?_, fun v54 => ?_⟩
    ·obtain rfl : v53 = .pointer (some ⟨g3, 9, none⟩) := hsR S_ 53 rfl
     clear S_
     have H := kp (kK [0, 1] H o_)
     have HOX := kp o_
     clear o_
     have hc := run_load_cell H.out 0 rfl _ _ B9.out
     go_wp2_with fail
     exact kso
    simp only [pA]
    refine ⟨fun w_ o_ S_ => ?_, fun v55 => ?_⟩
    ·clear S_
     clear o_
     go_wp2_with fail
     exact kso
    simp only [pA]
    refine ⟨fun w_ o_ S_ => ?_, fun v56 => ?_⟩
    ·obtain rfl : v54 = .slice (some ⟨b2, off2, none⟩) n c' := hsR S_ 54 rfl
     obtain rfl : v55 = .int .i64 j := hsR S_ 55 rfl
     clear S_ o_
     go_wp2_with fail
     exact kso
    simp only [pA]
    refine ⟨fun w_ o_ S_ => ?_, fun v57 => ?_⟩
    ·obtain rfl : v56 = .pointer (some ⟨b2, off2 + j * 11, none⟩) := hsR S_ 56 rfl
     clear S_
     have H := kp (kK [0, 1] H o_)
     have HOX := kp o_
     clear o_
     go_wp2_with ((with_reducible refine isLd 39 ?_); (refine wpList_load_midG (by kernel_rfl) 39 _ rfl (b2) (off2 + j * 11) rfl (cellsE y) _ ((rangeAt_ext HR'.out HB'.out H.out.1)) Try.underlying39 rfl (HZY.out) ?_); simp only [pA])
     exact kso
    simp only [pA]
    refine ⟨fun w_ o_ S_ => ?_, fun v58 => ?_⟩
    ·obtain rfl : v52 = .agg (cellsE x).toArray := hsR S_ 52 rfl
     obtain rfl : v57 = .agg (cellsE y).toArray := hsR S_ 57 rfl
     clear S_
     have H := kp (kK [0, 1] H o_)
     have HOX := kp o_
     clear o_
     refine wpList_bin (by kernel_rfl) .neq 39 39 (.tmp 52) (.tmp 57) rfl (.agg (cellsE x).toArray) (.agg (cellsE y).toArray) (.bool (!eb)) rfl rfl (run_eqGuard_agg _ _ _ _ _ _ _ HGT.out) (HNE.out _) ?_
     go_wp2_with fail
     exact kso
    simp only [pA]
    clear H
    intro w7 HOX H hfin
    obtain rfl : v48 = .pointer (some ⟨g2, 9, none⟩) := hfin 48 (by decide)
    obtain rfl : v49 = .slice (some ⟨b1, off1, none⟩) n c := hfin 49 (by decide)
    obtain rfl : v50 = .int .i64 j := hfin 50 (by decide)
    obtain rfl : v51 = .pointer (some ⟨b1, off1 + j * 11, none⟩) := hfin 51 (by decide)
    obtain rfl : v52 = .agg (cellsE x).toArray := hfin 52 (by decide)
    obtain rfl : v53 = .pointer (some ⟨g3, 9, none⟩) := hfin 53 (by decide)
    obtain rfl : v54 = .slice (some ⟨b2, off2, none⟩) n c' := hfin 54 (by decide)
    obtain rfl : v55 = .int .i64 j := hfin 55 (by decide)
    obtain rfl : v56 = .pointer (some ⟨b2, off2 + j * 11, none⟩) := hfin 56 (by decide)
    obtain rfl : v57 = .agg (cellsE y).toArray := hfin 57 (by decide)
    obtain rfl : v58 = .bool (!eb) := hfin 58 (by decide)
    clear hfin
    simp only [List.drop_succ_cons, List.drop_zero]
    simp only [applyS] at H
    have HXN := kp (HOX.out.ext (Ext.refl wr) (fun g hg => by cases hg))
    cases eb with
    | false =>
     have HK := kp (same_no (a := a) (b := b) j x y HX.out HY.out (of_decide_eq_false he))
     clear he
     go_wp2_with fail
     go_ret
     exact ⟨congrArg (fun z => Ending.returned (.bool z)) HK.out.symm, H.out.1⟩
    | true =>
     have HK := kp (same_take HX.out (by rw [HY.out, of_decide_eq_true he]) HT.out)
     clear he
     go_wp2_with fail
     go_roundw
     case rel => exact ⟨j + 1, by omega, by go_num, HK, H⟩
     case measure => simp [intOf]; omega
   ·obtain rfl : j = n := by omega
    have HK := kp (show sameF a l b m = true by
     have h := HT.out
     rw [List.take_of_length_le (by rw [HNL.out]; exact Nat.le_refl _), List.take_of_length_le (by rw [HNL'.out]; exact Nat.le_refl _)] at h
     rw [HSF.out, HQ.out.1, decide_eq_true h]; rfl)
    go_wp2_with fail
    go_ret
    exact ⟨congrArg (fun z => Ending.returned (.bool z)) HK.out.symm, H.out.1⟩
end Go.Proofs.Ytfecopfofkdnpaa
