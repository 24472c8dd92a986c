/- Texts of this proof, put together: MsE, RfE, OpnF, App, LoopC, RunP, LawM. -/
import Derived.Test.YtibncchobkaaiaaE36
import Derived.Test.YtibncchobkaaiaaE15
import Derived.Test.YtibncchobkaaiaaE10
import Derived.Test.YtibncchobkaaiaaE5
import Derived.Great.BuildSlice
import Derived.Test.YtibncchobkaaiaaE20
import Derived.Test.YtibncchobkaaiaaE1
namespace Go.Proofs.Ytibncchobkaaiaa
open Go.RowKit
theorem owns_open {w : World} {base E n : Nat} {v : Value} {xs : List Value} (h : w.ownsRow base E 1 v n xs) (hn : 0 < n) : ∃ g cap cs, v = .slice (some ⟨g, 0, none⟩) n cap ∧ base ≤ g ∧ Lc w g E cs ∧ n ≤ cap ∧ cap ≤ maxLen ∧ cs.length = cap ∧ cs.take n = xs := by
 obtain ⟨h1, ⟨_, h2⟩ | ⟨g, cap, cur, rfl, hb, hg, h5, h6, h7, h8⟩⟩ := h
 ·omega
 ·exact ⟨g, cap, cur.toList, rfl, hb, hg, h5, h6, by simpa using h7, by simpa using h8⟩
theorem owns_close {w : World} {base E n g cap : Nat} {cs xs : List Value} (hb : base ≤ g) (hl : Lc w g E cs) (h5 : n ≤ cap) (h6 : cap ≤ maxLen) (h7 : cs.length = cap) (h8 : cs.take n = xs) : w.ownsRow base E 1 (.slice (some ⟨g, 0, none⟩) n cap) n xs := by
 refine ⟨?_, .inr ⟨g, cap, cs.toArray, rfl, hb, hl, h5, h6, by simp [h7], by simp [h8]⟩⟩
 rw [← h8, List.length_take]; omega
theorem SlBB.nth {B : Nat} {w : World} {v : Value} {ls : List By} (h : SlBB B w v ls) {j : Nat} {l : By} (hj : ls[j]? = some l) : ∃ b c u, v = .slice (some ⟨b, 0, none⟩) ls.length c ∧ b < w.heap.size ∧ w.cell? ⟨b, j, none⟩ = some u ∧ w.ownsRow B 5 1 u l.length (l.map V8) := by
 obtain ⟨vs, ho, h4, h3⟩ := h
 have hl := (List.getElem?_eq_some_iff.1 hj).1
 obtain ⟨g, cap, cs, rfl, _, hL, h5, h6, h7, h8⟩ := owns_open ho (by omega)
 obtain ⟨u, hu⟩ : ∃ u, vs[j]? = some u := ⟨_, List.getElem?_eq_getElem (by omega)⟩
 refine ⟨g, cap, u, rfl, hL.lt, hL.cell ?_, h3 j u l hu hj⟩
 rw [← h8, List.getElem?_take] at hu
 by_cases q : j < ls.length
 ·rwa [if_pos q] at hu
 ·omega
theorem owns_nilB {w : World} {g base : Nat} (h : Lc w g 5 []) (hb : base ≤ g) : w.ownsRow base 5 1 (.slice (some ⟨g, 0, none⟩) 0 0) ([] : By).length (([] : By).map V8) :=
 owns_close (cs := []) hb h (Nat.le_refl _) (by unfold maxLen; omega) rfl rfl
end Go.Proofs.Ytibncchobkaaiaa
namespace Go.Proofs.Ytibncchobkaaiaa
open Go.RowKit
set_option maxRecDepth 4000 in
set_option maxHeartbeats 1600000 in
theorem rsame_any (B1 B2 : Nat) (va vb : Value) (ls : List By) (hl : ∀ m ∈ ls, m.length ≤ 100000) (w : World) (ha : SlBB B1 w va ls) (hb : SlBB B2 w vb ls) (hn : ls.length ≤ 1000) :
  Calls Try.prog 12 #[va, vb] w fun e w' => e = .returned (.bool true) ∧ Ext w w' := by
 have H := kp (Loc.start w)
 have HA := kp ha
 have HB := kp hb
 have HL := kp hl
 obtain ⟨aa, ca, rfl⟩ := ha.form
 obtain ⟨ab, cb, rfl⟩ := hb.form
 clear ha hb hl
 go_enter Try.func12, Try.ntmps12
 go_wp2_with fail
 all_goals try (exfalso; omega)
 go_loopw [5] (fun i wr => ∃ k : Nat, k ≤ ls.length ∧ i = .int .i64 k ∧ Kp (Loc w wr [])) (fun i _ => ls.length - (intOf i).toNat)
 case atStart => exact ⟨0, by omega, rfl, H⟩
 case round =>
  clear H
  obtain ⟨k, hk, rfl, H⟩ := hrel
  by_cases hlt : k < ls.length
  ·obtain ⟨l, hm⟩ : ∃ l, ls[k]? = some l := ⟨_, List.getElem?_eq_getElem hlt⟩
   have HLL := kp (HL.out l (List.mem_of_getElem? hm))
   obtain ⟨b1, c1, u1, e1, hb1, hc1, ho1⟩ := HA.out.nth hm
   obtain ⟨b2, c2, u2, e2, hb2, hc2, ho2⟩ := HB.out.nth hm
   cases e1
   cases e2
   have HC1 := kp (show ∀ W, Ext wr W → W.cell? ⟨b1, k, none⟩ = some u1 from fun W hx => ((H.out.1.trans hx).cell hb1).trans hc1)
   have HC2 := kp (show ∀ W, Ext wr W → W.cell? ⟨b2, k, none⟩ = some u2 from fun W hx => ((H.out.1.trans hx).cell hb2).trans hc2)
   have HS := kp (show ∀ W, Ext wr W → Calls Try.prog 19 #[u1, u2] W (fun e w' => e = .returned (.bool true) ∧ Ext W w') from fun W hx => by
    have h := same22_any ((SlB.of_owns ho1).ext (H.out.1.trans hx)) ((SlB.of_owns ho2).ext (H.out.1.trans hx)) (by have := HLL.out; omega)
    rwa [beq_self_eq_true] at h)
   clear hm hc1 hc2 ho1 ho2 hb1 hb2
   go_wp2_with fail
   all_goals try (exfalso; omega)
   refine region_z H 10 (by kernel_rfl) (by kernel_rfl) (by kernel_rfl) (by kernel_rfl) (by decide) (Nat.le_of_ble_eq_true (by kernel_rfl)) ?_
   apply Exists.intro
   refine ⟨fun xz2 => ?_, fun wz2 HXZ H => ?_⟩
   ·simp only [List.take_succ_cons, List.take_zero]
    unfold Cx
    repeat (first | ((with_reducible show wpQuiet _ _ _ _ (Oper.mk _ (Op.load 33 _) _ _ _ _ :: _) _); go_big_quiet_want; refine qz_c 33 _ rfl _ _ rfl (u1) (HC1.out) Try.underlying33 rfl ?_; simp only [pA]; go_big_quiet_on) | ((with_reducible show wpQuiet _ _ _ _ (Oper.mk _ (Op.load 33 _) _ _ _ _ :: _) _); go_big_quiet_want; refine qz_c 33 _ rfl _ _ rfl (u2) (HC2.out) Try.underlying33 rfl ?_; simp only [pA]; go_big_quiet_on) | go_big_quiet_step ((go_at_call 19; exact Calls.cx_of (HS.out _ (Ext.more _ _)))))
    exact wpQuiet_nil rfl
   simp only [List.drop_succ_cons, List.drop_zero]
   go_wp2_with fail
   go_roundw
   case rel => exact ⟨k + 1, by omega, by go_num, H⟩
   case measure => simp [intOf]; omega
  ·obtain rfl : k = ls.length := by omega
   go_wp2_with fail
   all_goals try (exfalso; omega)
   go_ret
   exact ⟨rfl, H.out.1⟩
end Go.Proofs.Ytibncchobkaaiaa
namespace Go.Proofs.Ytibncchobkaaiaa
open Go.RowKit Go.WideShapes
structure Fw.Ok (s : Fw) : Prop where
 r0 : 0 ≤ s.role
 r1 : s.role < 256
 s0 : 0 ≤ s.stage
 s1 : s.stage < 256
section
variable {H : Type} {enc : TypeId × Value → H} {w : World} {base : Nat} {cs : List Value}
theorem Tr.kpair (h : Tr enc Try.prog w base 28 cs) : ∃ k : Ks, cs = cat (partsK k) := by
 have hl := h.len Try.underlying28 48 (by kernel_rfl)
 obtain ⟨a, h0⟩ := (h.field Try.underlying28 0 25 0 16 rfl (by kernel_rfl)).vc Try.underlying25 Try.underlying5 (by kernel_rfl) (by kernel_rfl)
 obtain ⟨b, h1⟩ := (h.field Try.underlying28 1 25 16 16 rfl (by kernel_rfl)).vc Try.underlying25 Try.underlying5 (by kernel_rfl) (by kernel_rfl)
 obtain ⟨c, h2⟩ := (h.field Try.underlying28 2 25 32 16 rfl (by kernel_rfl)).vc Try.underlying25 Try.underlying5 (by kernel_rfl) (by kernel_rfl)
 refine ⟨⟨a, b, c⟩, ?_⟩
 have hend : cs.drop 48 = [] := List.drop_eq_nil_of_le (by omega)
 rw [show cs = cs.drop 0 from rfl, peel h0, peel h1, peel h2]
 simp only [Nat.reduceAdd, hend, partsK, cat, List.append_nil]
theorem Tr.fourway (h : Tr enc Try.prog w base 32 cs) : ∃ s : Fw, s.Ok ∧ cs = cat (partsF s) := by
 have hl := h.len Try.underlying32 131 (by kernel_rfl)
 obtain ⟨r, h0, w0⟩ := (h.field Try.underlying32 0 5 0 1 rfl (by kernel_rfl)).int Try.underlying5
 obtain ⟨t, h1, w1⟩ := (h.field Try.underlying32 1 5 1 1 rfl (by kernel_rfl)).int Try.underlying5
 obtain ⟨a1, h2⟩ := (h.field Try.underlying32 2 23 2 6 rfl (by kernel_rfl)).vc Try.underlying23 Try.underlying5 (by kernel_rfl) (by kernel_rfl)
 obtain ⟨a2, h3⟩ := (h.field Try.underlying32 3 23 8 6 rfl (by kernel_rfl)).vc Try.underlying23 Try.underlying5 (by kernel_rfl) (by kernel_rfl)
 obtain ⟨k1, h4⟩ := (h.field Try.underlying32 4 25 14 16 rfl (by kernel_rfl)).vc Try.underlying25 Try.underlying5 (by kernel_rfl) (by kernel_rfl)
 obtain ⟨n1, h5⟩ := (h.field Try.underlying32 5 26 30 16 rfl (by kernel_rfl)).vc Try.underlying26 Try.underlying5 (by kernel_rfl) (by kernel_rfl)
 obtain ⟨n2, h6⟩ := (h.field Try.underlying32 6 26 46 16 rfl (by kernel_rfl)).vc Try.underlying26 Try.underlying5 (by kernel_rfl) (by kernel_rfl)
 obtain ⟨i1, h7, _⟩ := (h.field Try.underlying32 7 3 62 1 rfl (by kernel_rfl)).int Try.underlying3
 obtain ⟨i2, h8, _⟩ := (h.field Try.underlying32 8 3 63 1 rfl (by kernel_rfl)).int Try.underlying3
 obtain ⟨i3, h9, _⟩ := (h.field Try.underlying32 9 3 64 1 rfl (by kernel_rfl)).int Try.underlying3
 obtain ⟨pk, h10⟩ := (h.field Try.underlying32 10 28 65 48 rfl (by kernel_rfl)).kpair
 obtain ⟨g, k, h11⟩ := (h.field Try.underlying32 11 30 113 17 rfl (by kernel_rfl)).group
 obtain ⟨i4, h12, _⟩ := (h.field Try.underlying32 12 3 130 1 rfl (by kernel_rfl)).int Try.underlying3
 obtain ⟨xr, rfl⟩ := u8_wf w0
 obtain ⟨xt, rfl⟩ := u8_wf w1
 refine ⟨⟨wI xr, wI xt, a1, a2, k1, n1, n2, i1, i2, i3, pk, g, k, i4⟩, ⟨(wI_rng xr).1, (wI_rng xr).2, (wI_rng xt).1, (wI_rng xt).2⟩, ?_⟩
 have hend : cs.drop 131 = [] := List.drop_eq_nil_of_le (by omega)
 rw [show cs = cs.drop 0 from rfl, peel h0, peel h1, peel h2, peel h3, peel h4, peel h5, peel h6, peel h7, peel h8, peel h9, peel h10, peel h11, peel h12]
 simp only [Nat.reduceAdd, hend, partsK, partsF, partsG, cat, List.append_nil, List.cons_append, List.nil_append, List.append_assoc]
end
section
variable {H : Type} {enc : TypeId × Value → H} {w : World} {r : Reach} {b0 base : Nat} {v : Value} {d : DataW H} {p : List MemPlace}
set_option maxRecDepth 10000 in
theorem open_fw (hv : Value.okWide Try.prog w r b0 32 v) (h : DataW.Trod enc Try.prog w base (fun _ => true) true 32 v d p) : ∃ x : Fw, x.Ok ∧ v = .agg (cat (partsF x)).toArray := by
 obtain ⟨cs, hcs, _⟩ := okWide_struct (P := Try.prog) Try.underlying32 hv
 have ht := Tr.of h
 rw [hcs] at ht
 obtain ⟨x, hx, h5⟩ := ht.fourway
 refine ⟨x, hx, ?_⟩
 have h5 : cs.toList = cat (partsF x) := h5
 rw [hcs, ← h5]
end
end Go.Proofs.Ytibncchobkaaiaa
namespace Go.Proofs.Ytibncchobkaaiaa
open Go.RowKit
section
variable {P : Program}
structure ElemT (P : Program) (t e : TypeId) (sz bytes : Nat) : Prop where
 under : P.underlying t = some (.slice e)
 info : ∃ i z, P.info? e = some i ∧ i.zero = some z ∧ i.size = sz ∧ i.bytes = bytes ∧ z.cells.size = sz
 pos : 0 < sz
end
end Go.Proofs.Ytibncchobkaaiaa
namespace Go.Proofs.Ytibncchobkaaiaa
open Go.RowKit
def LoopP (D : List Tmp) (R : (Tmp → Value) → World → Prop) (mu : (Tmp → Value) → World → Nat) (a0 : Act) (m : Nat) (a' : Act) (w' : World) : Prop :=
 a'.defers = a0.defers ∧ a'.tmps = putMany (fun d => a'.tmps.getD d undef) D a0.tmps ∧ R (fun d => a'.tmps.getD d undef) w' ∧ mu (fun d => a'.tmps.getD d undef) w' < m
theorem LoopP.of {D : List Tmp} {R : (Tmp → Value) → World → Prop} {mu : (Tmp → Value) → World → Nat} {a0 a' : Act} {m : Nat} {w' : World} (hd : a'.defers = a0.defers) (ht : a'.tmps = putMany (fun d => a'.tmps.getD d undef) D a0.tmps) (hr : R (fun d => a'.tmps.getD d undef) w') (hm : mu (fun d => a'.tmps.getD d undef) w' < m) : LoopP D R mu a0 m a' w' := ⟨hd, ht, hr, hm⟩
end Go.Proofs.Ytibncchobkaaiaa
namespace Go.Proofs.Ytibncchobkaaiaa
open Go.RowKit
theorem start_out (s : Fw) (now : Int) : (∀ m ∈ (startF s now).2.1, m.length ≤ 100000) ∧ (startF s now).2.1.length ≤ 1 := by
 unfold startF
 split
 ·exact ⟨(fun m hm => by cases hm), by simp [errR]⟩
 ·split
  ·exact ⟨(fun m hm => by cases hm), by simp [errR]⟩
  ·exact ⟨(fun m hm => by obtain rfl := List.mem_singleton.1 hm; exact send_len _), by simp⟩
theorem tick_out (s : Fw) (now : Int) : (∀ m ∈ (tickF s now).2.1, m.length ≤ 100000) ∧ (tickF s now).2.1.length ≤ 1 := by
 unfold tickF
 split
 ·exact ⟨(fun m hm => by cases hm), by simp [errR]⟩
 ·split
  ·exact ⟨(fun m hm => by cases hm), by simp⟩
  ·split
   ·exact ⟨(fun m hm => by cases hm), by simp⟩
   ·exact ⟨(fun m hm => by obtain rfl := List.mem_singleton.1 hm; exact send_len _), by simp⟩
theorem handle_one (s : Fw) (b : By) (now : Int) : (handleF s b now).2.1.length ≤ 1 := by
 have hs2 : (secondF s b now).2.1.length ≤ 1 := by unfold secondF; split <;> simp [errR]
 have hs4 : (fourthF s b).2.1.length ≤ 1 := by unfold fourthF; split <;> simp [errR]
 have hs3 : (thirdF s b).2.1.length ≤ 1 := by unfold thirdF; split <;> simp [errR]
 unfold handleF
 split
 ·simp [errR]
 ·split
  ·simp [errR]
  ·split
   ·exact hs2
   ·split
    ·exact hs4
    ·split
     ·simp [firstF]
     ·split
      ·exact hs3
      ·simp [errR]
end Go.Proofs.Ytibncchobkaaiaa
namespace Go.Proofs.Ytibncchobkaaiaa
open Go.RowKit
theorem eqF_self (w : World) (x : Fw) : (Op.equalIn 10000 32 (.agg (cat (partsF x)).toArray) (.agg (cat (partsF x)).toArray)).run Try.prog w = .ok true w := by
 rw [eqF_in]; simp
theorem rhandle_all (s : Fw) (h0 : 0 ≤ s.stage) (b : By) (hb : b.length ≤ 100000) (now : Int) (v : Value) (w : World) (hs : SlB w v b) (hcap : CapOk v) : Calls Try.prog 16 #[.agg (cat (partsF s)).toArray, v, .int .i64 now] w (ResR (handleF s b now) w) := by
 obtain ⟨a, c, rfl⟩ := hs.form
 by_cases h : b.length < 43
 ·exact rhandle_short s h0 b a _ c rfl h now w
 ·obtain ⟨gb, ob, rfl⟩ := hs.ne (by intro e; rw [e] at h; exact h (by decide))
  exact rhandle_long s h0 gb ob _ c b (by omega) hb now w hs hcap
set_option maxRecDepth 10000 in
set_option maxHeartbeats 6400000 in
theorem fourwayMatches_walk (s : Fw) (hs : s.Ok) (v : Value) (b : By) (hn : b.length ≤ 9223372036854775807) (hq : CapOk v) (now : Int) (w : World) (hv : SlB w v b) : Calls Try.prog 3 #[.agg (cat (partsF s)).toArray, v, .int .i64 now] w fun e w' => e = .returned (.bool true) ∧ Ext w w' := by
 have H := kp (Loc.start w)
 have HV := kp hv
 have HQ := kp hq
 have h0 := hs.s0
 obtain ⟨ad, c, rfl⟩ := hv.form
 obtain ⟨n, hnl⟩ : ∃ n, n = b.length := ⟨_, rfl⟩
 rw [← hnl] at hn ⊢
 have HNL := kp hnl
 have HV2 := kp (show SlB w (.slice ad n c) b from by rw [hnl]; exact hv)
 clear hv hq hs
 by_cases h2 : 200 < n
 ·clear h0
  go_enter Try.func3, Try.ntmps3
  generalize h3 : (Code.region 3 _ _ : Code) = R3
  go_wp2_with ((with_reducible show wpList _ _ _ (Oper.mk (some 3) (Op.box 32 _) _ _ _ _ :: _) _ _); (refine L_box H rfl 32 _ rfl (cat (partsF s)) rfl ?_); clear H; intro g3 w3 HGg3 HEg3 H; simp only [pA])
  all_goals try (exfalso; omega)
  go_ret
  exact ⟨rfl, H.out.1⟩
 ·have C1 := kp (fun w => start_any s now w)
  have D1 := kp (fun w => rstart_any s h0 now w)
  have C2 := kp (fun w => tick_any s now w)
  have D2 := kp (fun w => rtick_any s h0 now w)
  have C3 := kp (fun B v w ho => handle_own s b (by omega) now B v w ho)
  have D3 := kp (fun W (hx : Ext w W) => rhandle_all s h0 b (by omega) now (.slice ad n c) W (HV2.out.ext hx) (by rw [hnl]; exact HQ.out))
  have C4 := kp (fun w => check_any s w)
  have D4 := kp (fun w => rcheck_any s h0 w)
  have L1 := kp (start_out s now)
  have L2 := kp (tick_out s now)
  have L3 := kp (show (∀ m ∈ (handleF s b now).2.1, m.length ≤ 100000) ∧ (handleF s b now).2.1.length ≤ 1 from ⟨handle_len s b now, handle_one s b now⟩)
  have HBB : Kp (∀ W, Ext w W → SlB W (.slice ad n c) b) := kp (fun W hx => HV2.out.ext hx)
  generalize startF s now = r1 at *
  generalize tickF s now = r2 at *
  generalize handleF s b now = r3 at *
  generalize checkE s = ce at *
  have x1 : (r1.2.2 != r1.2.2) = false := by simp
  have x2 : (r2.2.2 != r2.2.2) = false := by simp
  have x3 : (r3.2.2 == r3.2.2) = true := by simp
  have x4 : (ce == ce) = true := by simp
  clear hnl h0
  go_enter Try.func3, Try.ntmps3
  generalize h4 : (Code.region 4 _ _ : Code) = R4
  generalize h6 : (Code.region 6 _ _ : Code) = R6
  generalize h8 : (Code.region 8 _ _ : Code) = R8
  generalize h10 : (Code.region 10 _ _ : Code) = R10
  generalize h12 : (Code.region 12 _ _ : Code) = R12
  generalize h14 : (Code.region 14 _ _ : Code) = R14
  go_wp2_with (first | (((with_reducible show wpList _ _ _ (Oper.mk (some 3) (Op.box 32 _) _ _ _ _ :: _) _ _); (refine L_box H rfl 32 _ rfl (cat (partsF s)) rfl ?_); clear H; intro g3 w3 HGg3 HEg3 H; simp only [pA]); have HLT3 := kp (show g3 < w3.heap.size from H.out.lt 0 rfl)) | (((with_reducible show wpList _ _ _ (Oper.mk (some 17) (Op.buildSlice 33 _ _) _ _ _ _ :: _) _ _); (refine L_bs H (by kernel_rfl) 33 0 _ rfl (#[]) (by kernel_rfl) 5 ([]) (fun _ => by kernel_rfl) ?_); clear H; intro g17 w17 HGg17 HEg17 H; simp only [pA]); have HLT2 := kp (H.out.lt 0 rfl)) | (at_builtin; (have HSX := kp (HBB.out _ H.out.1); have HOX2 := kp (owns_nilB (base := g3 + 1) (H.out.at 0 rfl) (by have := HGg17.out; have := HLT3.out; omega)); have H2 := kp H.out.tl; clear H; have H := H2; clear H2; refine L_appB H rfl _ _ rfl (g3 + 1) (by have q1 := HGg3.out; have q2 := HEg3.out.size; have q3 := HEg17.out.size; have q4 := HLT2.out; have q5 := HLT3.out; have q6 := H.out.1.size; omega) (by have q1 := HGg3.out; have q2 := HEg3.out.size; have q3 := HEg17.out.size; have q4 := HLT2.out; have q5 := HLT3.out; have q6 := H.out.1.size; omega) (by intro zz hz; simp at hz; have q1 := HGg3.out; have q2 := HEg3.out.size; have q3 := HEg17.out.size; have q4 := HLT2.out; have q5 := HLT3.out; have q6 := H.out.1.size; omega) _ _ rfl HOX2.out _ _ rfl HSX.out ((by have := HNL.out; simp; omega)) ?_; clear H HSX HOX2; intro vb wb HO0 HGwb H; simp only [pA])))
  all_goals try (exfalso; omega)
  have HO := kp (show wb.ownsRow (g3 + 1) 5 1 vb b.length (b.map V8) from by simpa using HO0.out)
  clear HO0
  subst h4
  go_wp2_with (first | ((with_reducible refine isLd 32 ?_); (first | (refine L_fa H rfl 32 _ rfl 0 rfl rfl Try.underlying32 rfl (by kernel_rfl) ?_) | (refine L_fa H rfl 32 _ rfl 1 rfl rfl Try.underlying32 rfl (by kernel_rfl) ?_)); simp only [pA]) | (go_at_call 10; refine (C1.out _).mono ?_; rintro e wa ⟨v1, rfl, hs, hx⟩; have HS1 := kp hs; have XA := kp hx; clear hs; have H2 := kp (H.out.ext hx); clear H; have H := H2; clear H2) | ((with_reducible show wpList _ _ _ (Oper.mk (some 8) (Op.alloc 32) _ _ _ _ :: _) _ _); (refine L_alloc H rfl 32 rfl (cat (partsF fw0)) (fun _ _ => by kernel_rfl) ?_); clear H; intro g8 w8 HGg8 HEg8 H; simp only [pA]) | ((with_reducible show wpList _ _ _ (Oper.mk none (Op.store 32 _ (.tmp 24)) _ _ _ _ :: _) _ _); have HLw9 := kp (H.out.at 0 rfl); ((with_reducible refine isSt 32 ?_); refine L_sa H rfl rfl 32 _ _ rfl 0 rfl rfl (partsF r1.1) rfl rfl (by kernel_rfl) ?_; clear H; intro w9 HWw9 H; simp only [szA] at H)) | (go_at_call 11; refine (D1.out _).mono ?_; rintro e wc ⟨v2, rfl, hs, hx⟩; have HS2 := kp hs; have XC := kp hx; clear hs; have H2 := kp (H.out.ext hx); clear H; have H := H2; clear H2) | ((with_reducible show wpList _ _ _ (Oper.mk (some 11) (Op.alloc 32) _ _ _ _ :: _) _ _); (refine L_alloc H rfl 32 rfl (cat (partsF fw0)) (fun _ _ => by kernel_rfl) ?_); clear H; intro g11 w11 HGg11 HEg11 H; simp only [pA]) | ((with_reducible show wpList _ _ _ (Oper.mk none (Op.store 32 _ (.tmp 31)) _ _ _ _ :: _) _ _); have HLw12 := kp (H.out.at 0 rfl); ((with_reducible refine isSt 32 ?_); refine L_sa H rfl rfl 32 _ _ rfl 0 rfl rfl (partsF r1.1) rfl rfl (by kernel_rfl) ?_; clear H; intro w12 HWw12 H; simp only [szA] at H)))
  have HO1 := kp (owns_wroteT (owns_ext HO.out (XA.out.trans HEg8.out)) HWw9.out HLw9.out (show 5 ≠ 32 from by decide))
  have HO2 := kp (owns_wroteT (owns_ext HO1.out (XC.out.trans HEg11.out)) HWw12.out HLw12.out (show 5 ≠ 32 from by decide))
  clear HO HO1
  have T1 := kp ((((HS1.out.past HEg8.out HWw9.out (by have := HGg8.out; omega)).ext XC.out).past HEg11.out HWw12.out (by have := HGg11.out; omega)))
  have T2 := kp (HS2.out.past HEg11.out HWw12.out (by have := HGg11.out; omega))
  clear HS1 HS2
  subst h6
  go_wp2_with (first | (go_at_call 12; refine (rsame_any _ _ _ _ _ L1.out.1 _ T1.out T2.out (by have := L1.out.2; omega)).mono ?_; rintro e wd ⟨rfl, hx⟩; have Xwd := kp hx; have H2 := kp (H.out.ext hx); clear H; have H := H2; clear H2) | ((with_reducible refine isLd 32 ?_); (first | (refine L_fa H rfl 32 _ rfl 0 rfl rfl Try.underlying32 rfl (by kernel_rfl) ?_) | (refine L_fa H rfl 32 _ rfl 1 rfl rfl Try.underlying32 rfl (by kernel_rfl) ?_)); simp only [pA]) | ((with_reducible show wpList _ _ _ (Oper.mk _ (Op.binOp _ 32 _ _ _) _ _ _ _ :: _) _ _); (refine wpList_ne2 rfl 32 _ _ _ rfl _ _ _ rfl rfl Try.eqGuardType32 (eqF_self _ _) ?_); simp only [pA]))
  clear T1 T2 L1 x1
  subst h8
  go_wp2_with (first | ((with_reducible refine isLd 32 ?_); (refine L_fa H rfl 32 _ rfl 2 rfl rfl Try.underlying32 rfl (by kernel_rfl) ?_); simp only [pA]) | (go_at_call 13; refine (C2.out _).mono ?_; have HBwe := kp (And.intro (H.out.lt 0 rfl) (H.out.lt 1 rfl)); rintro e we ⟨vwe, rfl, hs, hx⟩; have HSwe := kp hs; have Xwe := kp hx; clear hs; have H2 := kp (H.out.ext hx); clear H; have H := H2; clear H2) | ((with_reducible show wpList _ _ _ (Oper.mk none (Op.store 32 _ (.tmp 52)) _ _ _ _ :: _) _ _); have HLw13 := kp (H.out.at 1 rfl); ((with_reducible refine isSt 32 ?_); refine L_sa H rfl rfl 32 _ _ rfl 1 rfl rfl (partsF r2.1) rfl rfl (by kernel_rfl) ?_; clear H; intro w13 HWw13 H; simp only [ssA, szA] at H)) | (go_at_call 14; refine (D2.out _).mono ?_; have HBwf := kp (And.intro (H.out.lt 0 rfl) (H.out.lt 1 rfl)); rintro e wf ⟨vwf, rfl, hs, hx⟩; have HSwf := kp hs; have Xwf := kp hx; clear hs; have H2 := kp (H.out.ext hx); clear H; have H := H2; clear H2) | ((with_reducible show wpList _ _ _ (Oper.mk none (Op.store 32 _ (.tmp 59)) _ _ _ _ :: _) _ _); have HLw14 := kp (H.out.at 0 rfl); ((with_reducible refine isSt 32 ?_); refine L_sa H rfl rfl 32 _ _ rfl 0 rfl rfl (partsF r2.1) rfl rfl (by kernel_rfl) ?_; clear H; intro w14 HWw14 H; simp only [szA] at H)))
  have HO3 := kp (owns_wroteT (owns_ext HO2.out (Xwd.out.trans Xwe.out)) HWw13.out HLw13.out (show 5 ≠ 32 from by decide))
  have HO4 := kp (owns_wroteT (owns_ext HO3.out (Xwf.out)) HWw14.out HLw14.out (show 5 ≠ 32 from by decide))
  clear HO2 HO3
  have T1 := kp (((HSwe.out.out HWw13.out.out (by intro z hz; rcases List.mem_singleton.1 hz with rfl; exact HBwe.out.2)).ext Xwf.out).out HWw14.out.out (by intro z hz; rcases List.mem_singleton.1 hz with rfl; exact HBwe.out.1))
  have T2 := kp (HSwf.out.out HWw14.out.out (by intro z hz; rcases List.mem_singleton.1 hz with rfl; exact HBwf.out.1))
  subst h10
  go_wp2_with (first | (go_at_call 12; refine (rsame_any _ _ _ _ _ L2.out.1 _ T1.out T2.out (by have := L2.out.2; omega)).mono ?_; rintro e wg ⟨rfl, hx⟩; have Xwg := kp hx; have H2 := kp (H.out.ext hx); clear H; have H := H2; clear H2) | ((with_reducible refine isLd 32 ?_); (first | (refine L_fa H rfl 32 _ rfl 0 rfl rfl Try.underlying32 rfl (by kernel_rfl) ?_) | (refine L_fa H rfl 32 _ rfl 1 rfl rfl Try.underlying32 rfl (by kernel_rfl) ?_)); simp only [pA]) | ((with_reducible show wpList _ _ _ (Oper.mk _ (Op.binOp _ 32 _ _ _) _ _ _ _ :: _) _ _); (refine wpList_ne2 rfl 32 _ _ _ rfl _ _ _ rfl rfl Try.eqGuardType32 (eqF_self _ _) ?_); simp only [pA]))
  clear T1 T2 L2 x2 HSwe HSwf
  have HO5 := kp (owns_ext HO4.out Xwg.out)
  subst h12
  go_wp2_with (first | ((with_reducible refine isLd 32 ?_); (refine L_fa H rfl 32 _ rfl 2 rfl rfl Try.underlying32 rfl (by kernel_rfl) ?_); simp only [pA]) | (go_at_call 15; refine (C3.out _ _ _ HO5.out).mono ?_; have HBwh := kp (And.intro (H.out.lt 0 rfl) (H.out.lt 1 rfl)); rintro e wh ⟨vwh, rfl, hs, hx⟩; have HSwh := kp hs; have Xwh := kp hx; clear hs; have H2 := kp (H.out.ext hx); clear H; have H := H2; clear H2) | ((with_reducible show wpList _ _ _ (Oper.mk none (Op.store 32 _ (.tmp 81)) _ _ _ _ :: _) _ _); have HLw15 := kp (H.out.at 1 rfl); ((with_reducible refine isSt 32 ?_); refine L_sa H rfl rfl 32 _ _ rfl 1 rfl rfl (partsF r3.1) rfl rfl (by kernel_rfl) ?_; clear H; intro w15 HWw15 H; simp only [ssA, szA] at H)) | (go_at_call 16; refine (D3.out _ H.out.1).mono ?_; have HBwi := kp (And.intro (H.out.lt 0 rfl) (H.out.lt 1 rfl)); rintro e wi ⟨vwi, rfl, hs, hx⟩; have HSwi := kp hs; have Xwi := kp hx; clear hs; have H2 := kp (H.out.ext hx); clear H; have H := H2; clear H2) | ((with_reducible show wpList _ _ _ (Oper.mk none (Op.store 32 _ (.tmp 89)) _ _ _ _ :: _) _ _); have HLw16 := kp (H.out.at 0 rfl); ((with_reducible refine isSt 32 ?_); refine L_sa H rfl rfl 32 _ _ rfl 0 rfl rfl (partsF r3.1) rfl rfl (by kernel_rfl) ?_; clear H; intro w16 HWw16 H; simp only [szA] at H)))
  have HO6 := kp (owns_wroteT (owns_ext HO5.out (Xwh.out)) HWw15.out HLw15.out (show 5 ≠ 32 from by decide))
  have HO7 := kp (owns_wroteT (owns_ext HO6.out (Xwi.out)) HWw16.out HLw16.out (show 5 ≠ 32 from by decide))
  have T1 := kp (((HSwh.out.out HWw15.out.out (by intro z hz; rcases List.mem_singleton.1 hz with rfl; exact HBwh.out.2)).ext Xwi.out).out HWw16.out.out (by intro z hz; rcases List.mem_singleton.1 hz with rfl; exact HBwh.out.1))
  have T2 := kp (HSwi.out.out HWw16.out.out (by intro z hz; rcases List.mem_singleton.1 hz with rfl; exact HBwi.out.1))
  have CS := kp (fun W (hx : Ext w16 W) => rsame_any _ _ _ _ _ L3.out.1 W (T1.out.ext hx) (T2.out.ext hx) (by have := L3.out.2; omega))
  have CM := kp (show ∀ W, Ext w16 W → Calls Try.prog 19 #[vb, .slice ad n c] W (fun e w' => e = .returned (.bool true) ∧ Ext W w') from fun W hx => by
   have h := same22_any ((SlB.of_owns HO7.out).ext hx) (HBB.out W (H.out.1.trans hx)) (by have := HNL.out; omega)
   rwa [beq_self_eq_true] at h)
  clear HO4 HO5 HO6
  subst h14
  refine region_z H 26 (by kernel_rfl) (by kernel_rfl) (by kernel_rfl) (by kernel_rfl) (by decide) (Nat.le_of_ble_eq_true (by kernel_rfl)) ?_
  apply Exists.intro
  refine ⟨fun xz3 => ?_, fun wz3 HXZ H => ?_⟩
  ·simp only [List.take_succ_cons, List.take_zero]
   unfold Cx
   repeat (first | ((with_reducible show wpQuiet _ _ _ _ (Oper.mk _ (Op.load 32 _) _ _ _ _ :: _) _); go_big_quiet_want; (first | (refine qz_a H 32 _ rfl 0 rfl rfl Try.underlying32 rfl (by kernel_rfl) ?_) | (refine qz_a H 32 _ rfl 1 rfl rfl Try.underlying32 rfl (by kernel_rfl) ?_) | (refine qz_a H 32 _ rfl 2 rfl rfl Try.underlying32 rfl (by kernel_rfl) ?_)); simp only [pA]; go_big_quiet_on) | ((with_reducible show wpQuiet _ _ _ _ (Oper.mk _ (Op.binOp _ 32 _ _ _) _ _ _ _ :: _) _); go_big_quiet_want; (refine qz_eq 32 _ _ _ rfl _ _ _ rfl rfl Try.eqGuardType32 (fun _ => eqF_self _ _) ?_); simp only [pA]; go_big_quiet_on) | go_big_quiet_step ((first | (go_at_call 12; exact Calls.cx_of (CS.out _ (Ext.more _ _))) | (go_at_call 17; exact Calls.cx_of (C4.out _)) | (go_at_call 18; exact Calls.cx_of (D4.out _)) | (go_at_call 19; exact Calls.cx_of (CM.out _ (Ext.more _ _))))))
   exact wpQuiet_nil rfl
  simp only [List.drop_succ_cons, List.drop_zero]
  go_wp2_with fail
  go_ret
  exact ⟨rfl, H.out.1⟩
end Go.Proofs.Ytibncchobkaaiaa
