/- Texts of this proof, put together: Wr2, Slc, ElF, Rd. -/
import Derived.Test.YtfecopfofkdnpaaS9
import Derived.Test.YtfecopfofkdnpaaS7
import Derived.Test.YtfecopfofkdnpaaS6
import Derived.Test.YtfecopfofkdnpaaS1
namespace Go.Proofs.Ytfecopfofkdnpaa
open Go.RowKit
theorem L_appB2 {w0 w : World} {bs : List Bk} {ops : Array Oper} {rest : List Oper} {o : Oper} {a : Act} {Q : Exit → Act → World → Prop} (H : Kp (Loc w0 w bs)) (hgd : o.guard = none) (s x : Operand)
  (ho : o.op = .call { callee := .builtin .append, args := #[s, x], argTypes := #[29, 29] })
  (base : Nat) (hb0 : w0.heap.size ≤ base) (hbase : base ≤ w.heap.size) (v : Value) (l : List (BitVec 8)) (hs : a.eval s = v) (hown : w.ownsRow base 5 1 v l.length (l.map V8)) (hsep : ∀ g ∈ bs.map (·.1), v.ownBlock ≠ some g)
  (vx : Value) (m : List (BitVec 8)) (hx : a.eval x = vx) (hsl : SlB w vx m) (hlen : l.length + m.length ≤ 1000000)
  (h : ∀ v' w', Kp (w'.ownsRow base 5 1 v' (l ++ m).length ((l ++ m).map V8)) → Kp (w.grownBy w' v.ownBlock) → Kp (Loc w0 w' bs) → wpList Try.prog ops Q rest (a.put o.dst v') w') : wpList Try.prog ops Q (o :: rest) a w := by
 obtain ⟨iu, hiu, hu⟩ := info_iu
 refine wpList_append_SlB hgd s x 29 ho base 5 iu Try.underlying29 hiu hu.1 hu.2.1 hu.2.2 v l hs hown vx m hx hsl hlen hbase ?_
 intro v' w' ho1 hg1
 refine h v' w' (kp ho1) (kp hg1) (kp ⟨H.out.1.grown hg1 (fun k hk => Nat.le_trans hb0 (owns_block hown k hk)), H.out.2.1, fun b hb => ⟨(H.out.2.2 b hb).1, ?_⟩⟩)
 have h5 := (H.out.2.2 b hb).2
 exact (hg1.block b.1 h5.lt (fun e => hsep b.1 (List.mem_map.2 ⟨b, hb, rfl⟩) e.symm)).trans h5
theorem sep_ty {w : World} {base E T sz n g : Nat} {v : Value} {xs cs : List Value} (h : w.ownsRow base E sz v n xs) (hg : Lc w g T cs) (hne : E ≠ T) : v.ownBlock ≠ some g := by
 obtain ⟨h1, ⟨h2, h3⟩ | ⟨b, cap, cur, h3, hb, hh, h4⟩⟩ := h
 ·subst h2; intro e; cases e
 ·subst h3
  intro e
  have e2 : b = g := by simpa [Value.ownBlock] using e
  subst e2
  have h5 : w.heap[b]? = some (.cells cs.toArray T (0, 0)) := hg
  rw [h5] at hh
  cases hh
  exact hne rfl
theorem sep_one {v : Value} {g T : Nat} {cs : List Value} (h : v.ownBlock ≠ some g) : ∀ z ∈ ([(g, T, cs)] : List Bk).map (·.1), v.ownBlock ≠ some z := fun z hz => by
 have e : z = g := by simpa using hz
 rw [e]; exact h
set_option maxHeartbeats 1600000 in
theorem end0_any (g : Nat) (ad : Option Addr) (n c : Nat) (lb : By) (hl : lb.length ≤ 100) (w0 w : World) (H : Kp (Loc w0 w [(g, 138, [.slice ad n c])])) (ho : OwB w0.heap.size w (.slice ad n c) lb) :
  Calls Try.prog 97 #[.pointer (some ⟨g, 0, none⟩), .slice none 0 0] w fun e w' => ∃ v, e = .returned (.tuple #[v, .int .i64 0]) ∧ OwB w0.heap.size w' v lb ∧ Ext w0 w' := by
 have HO := kp ho
 have HN := kp (show n = lb.length from (SlB.of_owns ho).len)
 have hn : n ≤ 100 := by rw [HN.out]; exact hl
 have HS := kp (sep_ty ho (H.out.at 0 rfl) (show 5 ≠ 138 from by decide))
 have HL := kp hl
 have hc := run_load_cell H.out 0 rfl 0 _ rfl
 clear ho hl
 go_enter Try.func97, Try.ntmps97
 go_wp2_with (at_builtin; refine L_appB2 H rfl _ _ rfl w0.heap.size (Nat.le_refl _) H.out.1.size _ _ rfl HO.out (sep_one HS.out) _ _ rfl (show SlB _ (.slice none 0 0) [] from .inl ⟨rfl, .inl rfl⟩) (by have := HL.out; simp; omega) ?_; clear H; intro vb wb HO2 HGB H; simp only [pA])
 go_ret2
 exact ⟨vb, rfl, by have := HO2.out; rw [List.append_nil] at this; exact this, H.out.1⟩
set_option maxHeartbeats 1600000 in
theorem elements0_any (g : Nat) (ad : Option Addr) (n c : Nat) (lb : By) (hl : lb.length ≤ 100) (w0 w : World) (H : Kp (Loc w0 w [(g, 138, [.slice ad n c])])) (ho : OwB w0.heap.size w (.slice ad n c) lb) :
  Calls Try.prog 75 #[.pointer (some ⟨g, 0, none⟩), .slice none 0 0] w fun e w' => ∃ v, e = .returned (.tuple #[v, .int .i64 0]) ∧ OwB w0.heap.size w' v lb ∧ Ext w0 w' := by
 have HO := kp ho
 have HEN := kp (fun w H ho => end0_any g ad n c lb hl w0 w H ho)
 clear ho hl
 go_enter Try.func75, Try.ntmps75
 go_wp2_with (first | (go_at_call 96; refine (encode0_any _).mono ?_; rintro e wa ⟨rfl, hx⟩; replace H := kp (H.out.ext hx); have HXC := kp hx; clear hx) | (go_at_call 97; refine (HEN.out _ H (owns_ext HO.out HXC.out)).mono ?_; rintro e wb ⟨v, rfl, ho, hx⟩; have HO2 := kp ho; have HX := kp hx; clear H ho hx))
 go_ret2
 exact ⟨v, rfl, HO2.out, HX.out⟩
def WrO (l : By) (w : World) (e : Ending) (w' : World) : Prop := ∃ v, e = .returned (.tuple #[v, .int .i64 0]) ∧ OwB w.heap.size w' v l ∧ Ext w w'
theorem build_wr (w : World) : (Instr.build 138 #[]).run Try.prog w = .ok (.agg [Value.slice none 0 0].toArray) w := by kernel_rfl
theorem bsl_u1 (w : World) (x : Int) : (Instr.buildSlice 163 1 #[(0, .int .u16 x)]).run Try.prog w = .ok (.slice (some ⟨w.heap.size, 0, none⟩) 1 1) (w.alloc (.cells ([x].flatMap cU).toArray 54)) := by kernel_rfl
theorem bsl_u2 (w : World) (x y : Int) : (Instr.buildSlice 163 2 #[(0, .int .u16 x), (1, .int .u16 y)]).run Try.prog w = .ok (.slice (some ⟨w.heap.size, 0, none⟩) 2 2) (w.alloc (.cells ([x, y].flatMap cU).toArray 54)) := by kernel_rfl
theorem bsl_u3 (w : World) (x y z : Int) : (Instr.buildSlice 163 3 #[(0, .int .u16 x), (1, .int .u16 y), (2, .int .u16 z)]).run Try.prog w = .ok (.slice (some ⟨w.heap.size, 0, none⟩) 3 3) (w.alloc (.cells ([x, y, z].flatMap cU).toArray 54)) := by kernel_rfl
abbrev Loc.sw {w0 w : World} {a b : Bk} {l : List Bk} (h : Loc w0 w (a :: b :: l)) : Loc w0 w (b :: a :: l) := by
 refine ⟨h.1, ?_, fun c hc => h.2.2 c ?_⟩
 ·have := h.2.1
  simp only [List.map_cons, List.nodup_cons, List.mem_cons, not_or] at this ⊢
  exact ⟨⟨fun e => this.1.1 e.symm, this.2.1⟩, this.1.2, this.2.2⟩
 ·simp only [List.mem_cons] at hc ⊢
  rcases hc with h | h | h
  ·exact .inr (.inl h)
  ·exact .inl h
  ·exact .inr (.inr h)
theorem Loc.only {w0 w : World} {a : Bk} {l : List Bk} (h : Loc w0 w (a :: l)) : Loc w0 w [a] :=
 ⟨h.1, by simp, fun c hc => h.2.2 c (by simp only [List.mem_singleton] at hc; simp [hc])⟩
theorem flat2_1 (x : Int) : [] ++ flat2 [x] = two16 x := by simp [flat2]
theorem flat2_2 (x y : Int) : [] ++ flat2 [x, y] = two16 x ++ two16 y := by simp [flat2]
theorem flat2_3 (x y z : Int) : [] ++ flat2 [x, y, z] = two16 x ++ two16 y ++ two16 z := by simp [flat2]
def partsRe (code : Int) : List Lf := [Lf.i .u16 code, Lf.s none 0 0]
set_option maxHeartbeats 1600000 in
theorem encReason_any (x : Int) (h0 : 0 ≤ x) (h1 : x ≤ 65535) (w : World) :
  Calls Try.prog 73 #[.agg (cat (partsRe x)).toArray] w (WrO (two16 x) w) := by
 have H := kp (Loc.start w)
 have HX2 := kp (show ∀ v ∈ [x], 0 ≤ v ∧ v ≤ 65535 by intro v hv; simp at hv; subst hv; exact ⟨h0, h1⟩)
 clear h0 h1
 go_enter Try.func73, Try.ntmps73
 go_wp2_with (first | ((with_reducible refine isBx 1 57 ?_); (refine L_box H rfl 57 _ rfl (cat (partsRe x)) rfl ?_); clear H; intro g1 w1 HGg1 HEg1 H; simp only [pA]) | ((with_reducible show wpList _ _ _ (Oper.mk (some 5) (Op.build 138 _) _ _ _ _ :: _) _ _); (refine L_bd (by kernel_rfl) 138 _ rfl (#[]) (by kernel_rfl) ([.slice none 0 0]) (build_wr) ?_); simp only [pA]) | ((with_reducible refine isBx 6 138 ?_); (with_reducible refine L_box H rfl 138 _ rfl ([.slice none 0 0]) rfl ?_); clear H; intro g6 w6 HGg6 HEg6 H; simp only [pA]) | ((with_reducible refine isLd 54 ?_); (refine L_f1 H rfl 54 _ rfl 1 rfl _ rfl _ rfl _ rfl Try.underlying54 rfl ?_); simp only [pA]) | ((with_reducible refine isLd 55 ?_); (refine L_f1 H rfl 55 _ rfl 2 rfl _ rfl _ rfl _ rfl Try.underlying55 rfl ?_); simp only [pA]) | (((with_reducible show wpList _ _ _ (Oper.mk (some 10) (Op.buildSlice 163 _ _) _ _ _ _ :: _) _ _); (refine L_bs H (by kernel_rfl) 163 1 _ rfl (#[(0, .int .u16 x)]) (by kernel_rfl) 54 ([x].flatMap cU) (fun w => bsl_u1 w x) ?_); clear H; intro g10 w10 HGg10 HEg10 H; simp only [pA]); have H2 := kp H.out.sw; clear H; have H := H2; clear H2) | (go_at_call 74; refine (two_any [x] HX2.out (by simp) g6 g10 1 rfl none 0 0 [] (by decide) w _ _ H (ownsT_nil _ _ _ _)).mono ?_; rintro e wa ⟨rfl, ad, n, c, hl, ho⟩; have H2 := kp hl; have HO := kp ho; clear H hl ho; have H := H2; clear H2) | (go_at_call 75; refine (elements0_any g6 ad n c _ (by simp [two16, flat2]) w _ (kp H.out.only) HO.out).mono ?_; rintro e wb ⟨v, rfl, ho, hx⟩; have HO2 := kp ho; have HX := kp hx; clear H ho hx))
 go_ret2
 exact ⟨v, rfl, by have := HO2.out; rw [flat2_1] at this; exact this, HX.out⟩
def partsAu (x y z : Int) : List Lf := [Lf.i .u16 x, Lf.i .u16 y, Lf.i .u16 z, Lf.s none 0 0]
theorem three_range {x y z : Int} (hx : 0 ≤ x ∧ x ≤ 65535) (hy : 0 ≤ y ∧ y ≤ 65535) (hz : 0 ≤ z ∧ z ≤ 65535) : ∀ v ∈ [x, y, z], 0 ≤ v ∧ v ≤ 65535 := by
 intro v hv
 simp only [List.mem_cons, List.not_mem_nil, or_false] at hv
 rcases hv with rfl | rfl | rfl <;> assumption
set_option maxHeartbeats 1600000 in
theorem encAuth_any (x y z : Int) (hx : 0 ≤ x ∧ x ≤ 65535) (hy : 0 ≤ y ∧ y ≤ 65535) (hz : 0 ≤ z ∧ z ≤ 65535) (w : World) :
  Calls Try.prog 35 #[.agg (cat (partsAu x y z)).toArray] w (WrO (two16 x ++ two16 y ++ two16 z) w) := by
 have H := kp (Loc.start w)
 have HX2 := kp (three_range hx hy hz)
 clear hx hy hz
 go_enter Try.func35, Try.ntmps35
 go_wp2_with (first | ((with_reducible refine isBx 1 74 ?_); (refine L_box H rfl 74 _ rfl (cat (partsAu x y z)) rfl ?_); clear H; intro g1 w1 HGg1 HEg1 H; simp only [pA]) | ((with_reducible show wpList _ _ _ (Oper.mk (some 5) (Op.build 138 _) _ _ _ _ :: _) _ _); (refine L_bd (by kernel_rfl) 138 _ rfl (#[]) (by kernel_rfl) ([.slice none 0 0]) (build_wr) ?_); simp only [pA]) | ((with_reducible refine isBx 6 138 ?_); (with_reducible refine L_box H rfl 138 _ rfl ([.slice none 0 0]) rfl ?_); clear H; intro g6 w6 HGg6 HEg6 H; simp only [pA]) | ((with_reducible refine isLd 54 ?_); (refine L_f1 H rfl 54 _ rfl 1 rfl _ rfl _ rfl _ rfl Try.underlying54 rfl ?_); simp only [pA]) | ((with_reducible refine isLd 55 ?_); (refine L_f1 H rfl 55 _ rfl 2 rfl _ rfl _ rfl _ rfl Try.underlying55 rfl ?_); simp only [pA]) | (((with_reducible show wpList _ _ _ (Oper.mk (some 14) (Op.buildSlice 163 _ _) _ _ _ _ :: _) _ _); (refine L_bs H (by kernel_rfl) 163 3 _ rfl (#[(0, .int .u16 x), (1, .int .u16 y), (2, .int .u16 z)]) (by kernel_rfl) 54 ([x, y, z].flatMap cU) (fun w => bsl_u3 w x y z) ?_); clear H; intro g14 w14 HGg14 HEg14 H; simp only [pA]); have H2 := kp H.out.sw; clear H; have H := H2; clear H2) | (go_at_call 74; refine (two_any [x, y, z] HX2.out (by simp) g6 g14 3 rfl none 0 0 [] (by decide) w _ _ H (ownsT_nil _ _ _ _)).mono ?_; rintro e wa ⟨rfl, ad, n, c, hl, ho⟩; have H2 := kp hl; have HO := kp ho; clear H hl ho; have H := H2; clear H2) | (go_at_call 75; refine (elements0_any g6 ad n c _ (by simp [two16, flat2]) w _ (kp H.out.only) HO.out).mono ?_; rintro e wb ⟨v, rfl, ho, hx⟩; have HO2 := kp ho; have HX := kp hx; clear H ho hx))
 go_ret2
 exact ⟨v, rfl, by have := HO2.out; rw [flat2_3] at this; exact this, HX.out⟩
def partsRs (x y aid : Int) : List Lf := [Lf.i .u16 x, Lf.i .u16 y, Lf.i .i64 aid, Lf.s none 0 0]
set_option maxHeartbeats 1600000 in
theorem encResp_any (x y z : Int) (hx : 0 ≤ x ∧ x ≤ 65535) (hy : 0 ≤ y ∧ y ≤ 65535) (hz : 0 ≤ z ∧ z ≤ 255) (w : World) :
  Calls Try.prog 108 #[.agg (cat (partsRs x y z)).toArray] w (WrO (two16 x ++ two16 y ++ two16 z) w) := by
 have H := kp (Loc.start w)
 have HX2 := kp (three_range hx hy (show 0 ≤ z ∧ z ≤ 65535 by omega))
 have hz0 : ¬ z < 0 := by omega
 have hz1 : ¬ 255 < z := by omega
 have hz2 : 0 ≤ z := hz.1
 have hz3 : z ≤ 255 := hz.2
 clear hx hy hz
 go_enter Try.func108, Try.ntmps108
 go_wp2_with (first | ((with_reducible refine isBx 1 68 ?_); (refine L_box H rfl 68 _ rfl (cat (partsRs x y z)) rfl ?_); clear H; intro g1 w1 HGg1 HEg1 H; simp only [pA]) | ((with_reducible show wpList _ _ _ (Oper.mk (some 13) (Op.build 138 _) _ _ _ _ :: _) _ _); (refine L_bd (by kernel_rfl) 138 _ rfl (#[]) (by kernel_rfl) ([.slice none 0 0]) (build_wr) ?_); simp only [pA]) | ((with_reducible refine isBx 14 138 ?_); (with_reducible refine L_box H rfl 138 _ rfl ([.slice none 0 0]) rfl ?_); clear H; intro g14 w14 HGg14 HEg14 H; simp only [pA]) | ((with_reducible refine isLd 3 ?_); (first | (refine L_f1 H rfl 3 _ rfl 0 rfl _ rfl _ rfl _ rfl Try.underlying3 rfl ?_) | (refine L_f1 H rfl 3 _ rfl 1 rfl _ rfl _ rfl _ rfl Try.underlying3 rfl ?_)); simp only [pA]) | ((with_reducible refine isLd 54 ?_); (refine L_f1 H rfl 54 _ rfl 1 rfl _ rfl _ rfl _ rfl Try.underlying54 rfl ?_); simp only [pA]) | ((with_reducible refine isLd 55 ?_); (refine L_f1 H rfl 55 _ rfl 2 rfl _ rfl _ rfl _ rfl Try.underlying55 rfl ?_); simp only [pA]) | (((with_reducible show wpList _ _ _ (Oper.mk (some 23) (Op.buildSlice 163 _ _) _ _ _ _ :: _) _ _); (refine L_bs H (by kernel_rfl) 163 3 _ rfl (#[(0, .int .u16 x), (1, .int .u16 y), (2, .int .u16 z)]) (by kernel_rfl) 54 ([x, y, z].flatMap cU) (fun w => bsl_u3 w x y z) ?_); clear H; intro g23 w23 HGg23 HEg23 H; simp only [pA]); have H2 := kp H.out.sw; clear H; have H := H2; clear H2) | (go_at_call 74; refine (two_any [x, y, z] HX2.out (by simp) g14 g23 3 rfl none 0 0 [] (by decide) w _ _ H (ownsT_nil _ _ _ _)).mono ?_; rintro e wa ⟨rfl, ad, n, c, hl, ho⟩; have H2 := kp hl; have HO := kp ho; clear H hl ho; have H := H2; clear H2) | (go_at_call 75; refine (elements0_any g14 ad n c _ (by simp [two16, flat2]) w _ (kp H.out.only) HO.out).mono ?_; rintro e wb ⟨v, rfl, ho, hx⟩; have HO2 := kp ho; have HX := kp hx; clear H ho hx))
 go_ret2
 exact ⟨v, rfl, by have := HO2.out; rw [flat2_3] at this; exact this, HX.out⟩
def partsRq (x y : Int) (old : Vc 6) (ad : Option Addr) (n c : Nat) : List Lf := [Lf.i .u16 x, Lf.i .u16 y, Lf.v old, Lf.s ad n c]
def zv6 : Vc 6 := ⟨List.replicate 6 0#8, by simp⟩
set_option maxHeartbeats 1600000 in
theorem encReq_any (x y : Int) (hx : 0 ≤ x ∧ x ≤ 65535) (hy : 0 ≤ y ∧ y ≤ 65535) (w : World) :
  Calls Try.prog 34 #[.agg (cat (partsRq x y zv6 none 0 0)).toArray, .bool false] w (WrO (two16 x ++ two16 y) w) := by
 have H := kp (Loc.start w)
 have HX2 := kp (show ∀ v ∈ [x, y], 0 ≤ v ∧ v ≤ 65535 from fun v hv => three_range hx hy hy v (by simp only [List.mem_cons, List.not_mem_nil, or_false] at hv ⊢; rcases hv with h | h <;> simp [h]))
 have hne : ∀ w, (binOp .neq 23 (.agg (zv6.1.map V8).toArray) (.agg (zv6.1.map V8).toArray)).run Try.prog w = .ok (.bool false) w := fun w => by rw [neAddr _ _ zv6.2 zv6.2 w]; simp
 clear hx hy
 go_enter Try.func34, Try.ntmps34
 go_wp2_with (first | ((with_reducible refine isBx 2 87 ?_); (refine L_box H rfl 87 _ rfl (cat (partsRq x y zv6 none 0 0)) rfl ?_); clear H; intro g2 w2 HGg2 HEg2 H; simp only [pA]) | ((with_reducible show wpList _ _ _ (Oper.mk (some 7) (Op.build 138 _) _ _ _ _ :: _) _ _); (refine L_bd (by kernel_rfl) 138 _ rfl (#[]) (by kernel_rfl) ([.slice none 0 0]) (build_wr) ?_); simp only [pA]) | ((with_reducible refine isBx 8 138 ?_); (with_reducible refine L_box H rfl 138 _ rfl ([.slice none 0 0]) rfl ?_); clear H; intro g8 w8 HGg8 HEg8 H; simp only [pA]) | ((with_reducible refine isLd 54 ?_); (refine L_f1 H rfl 54 _ rfl 1 rfl _ rfl _ rfl _ rfl Try.underlying54 rfl ?_); simp only [pA]) | ((with_reducible refine isLd 23 ?_); (refine L_fv H rfl 23 _ rfl 2 rfl _ rfl _ rfl rfl Try.underlying23 rfl (by kernel_rfl) ?_); simp only [pA]) | ((with_reducible show wpList _ _ _ (Oper.mk (some 29) (Op.build 23 _) _ _ _ _ :: _) _ _); (refine L_bd (by kernel_rfl) 23 _ rfl (#[]) (by kernel_rfl) (zv6.1.map V8) (fun _ => by kernel_rfl) ?_); simp only [pA]) | ((with_reducible refine isLd 55 ?_); (refine L_f1 H rfl 55 _ rfl 2 rfl _ rfl _ rfl _ rfl Try.underlying55 rfl ?_); simp only [pA]) | (((with_reducible show wpList _ _ _ (Oper.mk (some 14) (Op.buildSlice 163 _ _) _ _ _ _ :: _) _ _); (refine L_bs H (by kernel_rfl) 163 2 _ rfl (#[(0, .int .u16 x), (1, .int .u16 y)]) (by kernel_rfl) 54 ([x, y].flatMap cU) (fun w => bsl_u2 w x y) ?_); clear H; intro g14 w14 HGg14 HEg14 H; simp only [pA]); have H2 := kp H.out.sw; clear H; have H := H2; clear H2) | (go_at_call 74; refine (two_any [x, y] HX2.out (by simp) g8 g14 2 rfl none 0 0 [] (by decide) w _ _ H (ownsT_nil _ _ _ _)).mono ?_; rintro e wa ⟨rfl, ad, n, c, hl, ho⟩; have H2 := kp hl; have HO := kp ho; clear H hl ho; have H := H2; clear H2) | (go_at_call 75; refine (elements0_any g8 ad n c _ (by simp [two16, flat2]) w _ (kp H.out.only) HO.out).mono ?_; rintro e wb ⟨v, rfl, ho, hx⟩; have HO2 := kp ho; have HX := kp hx; clear H ho hx))
 go_ret2
 exact ⟨v, rfl, by have := HO2.out; rw [flat2_2] at this; exact this, HX.out⟩
def cutA (ad : Option Addr) (l c s : Nat) : Option Addr := if c = l then ad else ad.map (·.add (l * s))
theorem cutA_some (b o l c s : Nat) (h : c ≠ l) : cutA (some ⟨b, o, none⟩) l c s = some ⟨b, o + l * s, none⟩ := by
 unfold cutA; rw [if_neg h]; simp [Addr.add_mid]
theorem cutA_none (l c s : Nat) : cutA none l c s = none := by unfold cutA; split <;> rfl
section
variable {P : Program} {t e : TypeId} {s : Nat}
theorem elem_of (hu : P.underlying t = some (.slice e)) : P.underlying t = some (.slice (P.elem t)) ∧ P.elem t = e := by
 have : P.elem t = e := by simp [Program.elem, hu]
 exact ⟨by rw [this]; exact hu, this⟩
theorem run_sz (w : World) (hz : (P.info? e).map (·.size) = some s) : (sizeOf e).run P w = .ok s w := by
 cases hq : P.info? e with
 | none => simp [hq] at hz
 | some i =>
  have : i.size = s := by simpa [hq] using hz
  simp [sizeOf, typeInfo, hq, this]
theorem run_cut2 (w : World) (hu : P.underlying t = some (.slice e)) (hz : (P.info? e).map (·.size) = some s) (ad : Option Addr) (n c l h : Nat) (h1 : l ≤ h) (h2 : h ≤ c) : (Instr.sliceAt t (.slice ad n c) (some (.int .i64 (l : Int))) (some (.int .i64 (h : Int))) none).run P w = .ok (.slice (cutA ad l c s) (h - l) (c - l)) w := by
 obtain ⟨hu2, he⟩ := elem_of hu
 rw [run_sliceAt_slice w t _ _ _ _ hu2, run_slice_lh w t ad n c hu2 .i64 .i64 l h (by omega) (by omega) (by omega), he, run_sz w hz]
 simp [Result.andThen, sliced, cutA]
theorem run_cutL (w : World) (hu : P.underlying t = some (.slice e)) (hz : (P.info? e).map (·.size) = some s) (ad : Option Addr) (n c l : Nat) (h1 : l ≤ n) : (Instr.sliceAt t (.slice ad n c) (some (.int .i64 (l : Int))) none none).run P w = .ok (.slice (cutA ad l c s) (n - l) (c - l)) w := by
 obtain ⟨hu2, he⟩ := elem_of hu
 rw [run_sliceAt_slice w t _ _ _ _ hu2, run_slice_l w t ad n c hu2 .i64 l (by omega) (by omega), he, run_sz w hz]
 simp [Result.andThen, sliced, cutA]
theorem run_cutH (w : World) (hu : P.underlying t = some (.slice e)) (hz : (P.info? e).map (·.size) = some s) (ad : Option Addr) (n c h : Nat) (h2 : h ≤ c) : (Instr.sliceAt t (.slice ad n c) none (some (.int .i64 (h : Int))) none).run P w = .ok (.slice ad h c) w := by
 obtain ⟨hu2, he⟩ := elem_of hu
 rw [run_sliceAt_slice w t _ _ _ _ hu2, run_slice_h w t ad n c hu2 .i64 h (by omega) (by omega), he, run_sz w hz]
 simp only [Result.andThen, sliced, Int.toNat_natCast, Nat.zero_mul, Nat.sub_zero]
 congr 2
 split
 ·rfl
 ·cases ad with
  | none => rfl
  | some a => simp [Addr.add]
theorem run_cut3 (w : World) (hu : P.underlying t = some (.slice e)) (hz : (P.info? e).map (·.size) = some s) (ad : Option Addr) (n c l h m : Nat) (h1 : l ≤ h) (h2 : h ≤ m) (h3 : m ≤ c) : (Instr.sliceAt t (.slice ad n c) (some (.int .i64 (l : Int))) (some (.int .i64 (h : Int))) (some (.int .i64 (m : Int)))).run P w = .ok (.slice (cutA ad l m s) (h - l) (m - l)) w := by
 obtain ⟨hu2, he⟩ := elem_of hu
 rw [run_sliceAt_slice w t _ _ _ _ hu2, run_slice_lhm w t ad n c hu2 .i64 .i64 .i64 l h m (by omega) (by omega) (by omega) (by omega), he, run_sz w hz]
 simp [Result.andThen, sliced, cutA]
variable {ops : Array Oper} {rest : List Oper} {o : Oper} {a : Act} {w : World} {Q : Exit → Act → World → Prop}
theorem L_cut (hgd : Region.wanted o (yielded ops a.tmps) = true) (t : TypeId) (x : Operand) (lo hi mx : Option Operand) (ho : o.op = .slice t x lo hi mx) (v : Value) (vx : Value) (vl vh vm : Option Value) (hx : a.eval x = vx) (hl : lo.map a.eval = vl) (hh : hi.map a.eval = vh) (hm : mx.map a.eval = vm)
  (hrun : (Instr.sliceAt t vx vl vh vm).run P w = .ok v w) (h : wpList P ops Q rest (a.put o.dst v) w) : wpList P ops Q (o :: rest) a w := by
 refine wpList_step fun K hK => ?_
 rw [if_pos hgd]
 unfold Oper.wp execOp
 simp only [ho, hx, hl, hh, hm, Sem.run_bind, Sem.run_pure, hrun, Result.andThen_ok]
 exact hK _ _ h
theorem qz_cut {x0 : Xtra} {K : Act → Prop} (t : TypeId) (x : Operand) (lo hi mx : Option Operand) (ho : o.op = .slice t x lo hi mx) (v : Value) (vx : Value) (vl vh vm : Option Value) (hx : a.eval x = vx) (hl : lo.map a.eval = vl) (hh : hi.map a.eval = vh) (hm : mx.map a.eval = vm)
  (hrun : ∀ w, (Instr.sliceAt t vx vl vh vm).run P w = .ok v w) (h : K (a.put o.dst v)) : o.quiet P a (Cx w x0) K := by
 refine ⟨v, fun w' hw => ?_, h⟩
 unfold Oper.quietAt execOp
 simp only [ho, hx, hl, hh, hm, Sem.run_bind, Sem.run_pure, hrun, Result.andThen_ok]
 exact ⟨rfl, rfl⟩
end
theorem SlB.cut {w : World} {ad : Option Addr} {n c : Nat} {b : By} (h : SlB w (.slice ad n c) b) (hc : n ≤ c) (l m : Nat) (h1 : l ≤ m) (h2 : m ≤ n) : SlB w (.slice (cutA ad l c 1) (m - l) (c - l)) ((b.take m).drop l) := by
 have hn := h.len
 have hr : ((b.take m).drop l).length = m - l := by simp; omega
 by_cases hz : l = m
 ·subst hz
  have e : (b.take l).drop l = [] := List.length_eq_zero_iff.1 (by rw [hr]; omega)
  rw [e]
  refine .inl ⟨rfl, ?_⟩
  rw [Nat.sub_self]
  cases ad with
  | none =>
   rw [cutA_none]
   rcases h with ⟨_, h | ⟨a, c', h⟩⟩ | ⟨b', off, c', h, _⟩
   ·cases h; exact .inl (by simp)
   ·cases h
   ·cases h
  | some a =>
   right
   unfold cutA
   split
   ·exact ⟨_, _, rfl⟩
   ·exact ⟨_, _, rfl⟩
 ·rcases h with ⟨h, _⟩ | ⟨b', off, c', h, hb, hat⟩
  ·subst h; simp at hn; omega
  ·cases h
   rw [cutA_some _ _ _ _ _ (by omega)]
   refine .inr ⟨b', off + l, c - l, by rw [hr]; simp, hb, fun j x hj => ?_⟩
   rw [List.getElem?_drop, List.getElem?_take] at hj
   split at hj
   ·have := hat _ _ hj
    rwa [show off + l + j = off + (l + j) by omega]
   ·cases hj
def contF : Nat → List (BitVec 8) → List (BitVec 8) → List (BitVec 8) × List (BitVec 8) × Int
 | 0, _, _ => ([], [], 10)
 | k + 1, b, c => match b with
  | [] => ([], [], 10)
  | n :: b' => if b'.length < n.toNat then ([], [], 10)
   else if n.toNat < 255 then (c ++ b'.take n.toNat, b'.drop n.toNat, 0)
   else match b'.drop n.toNat with
    | [] => ([], [], 10)
    | m :: r => if m.toNat = 254 then contF k r (c ++ b'.take n.toNat) else ([], [], 12)
def contOf (b : List (BitVec 8)) : List (BitVec 8) × List (BitVec 8) × Int := contF b.length b []
def containerF (i : BitVec 8) : Bool := decide (200 ≤ i.toNat) && decide (i.toNat < 220)
def mostF (i : BitVec 8) : Nat := if i.toNat = 255 then 1025 else 1024
def oneF (last : Bool) (lst : Nat → List (BitVec 8) → Nat × Int) (m : Nat) (b : List (BitVec 8)) : List (BitVec 8) × Nat × Int :=
 if m = 64 then ([], m, 4) else match b with
 | [] => ([], m + 1, 0)
 | i :: b1 => if i.toNat = 254 then ([], m + 1, 12)
  else if (contOf b1).2.2 ≠ 0 then ([], m + 1, (contOf b1).2.2)
  else if mostF i < (contOf b1).1.length then ([], m + 1, 11)
  else if i.toNat = 255 ∧ (contOf b1).1 = [] then ([], m + 1, 12)
  else if containerF i = false then ((contOf b1).2.1, m + 1, 0)
  else if last = true ∧ (contOf b1).1 ≠ [] then ([], m + 1, 4)
  else ((contOf b1).2.1, (lst (m + 1) (contOf b1).1).1, (lst (m + 1) (contOf b1).1).2)
def loopF (one : Nat → List (BitVec 8) → List (BitVec 8) × Nat × Int) : Nat → Nat → List (BitVec 8) → Nat × Int
 | 0, m, _ => (m, 0)
 | k + 1, m, b => if b = [] then (m, 0) else if (one m b).2.2 ≠ 0 then ((one m b).2.1, (one m b).2.2) else loopF one k (one m b).2.1 (one m b).1
def listF : Nat → Nat → List (BitVec 8) → Nat × Int
 | 0, m, _ => (m, 0)
 | lv + 1, m, b => loopF (oneF (lv == 0) (listF lv)) b.length m b
def elemE (b : List (BitVec 8)) : Int := (listF 4 0 b).2
def frontE (b : List (BitVec 8)) (n : Nat) : Int := if 2304 < b.length then 11 else if b.length < n then 10 else elemE (b.drop n)
def respE (b : List (BitVec 8)) : Int := if 2304 < b.length then 11 else if b.length < 6 then 10 else if 255 < rdF b 4 then 12 else elemE (b.drop 6)
def dA (b : List (BitVec 8)) : Option (Int × Int) := if frontE b 6 = 0 then some (rdF b 0, rdF b 2) else none
def dJ (again : Bool) (b : List (BitVec 8)) : Option (Int × Int) := if frontE b (if again then 10 else 4) = 0 then some (rdF b 0, rdF b 2) else none
def dL (b : List (BitVec 8)) : Bool := decide (frontE b 2 = 0)
theorem wI_bound (x : BitVec 8) : 0 ≤ wI x ∧ wI x ≤ 255 := by have := x.isLt; unfold wI; omega
theorem rd_range (b : List (BitVec 8)) (i : Nat) : 0 ≤ rdF b i ∧ rdF b i ≤ 65535 := by
 have h1 := wI_bound (b.getD i 0)
 have h2 := wI_bound (b.getD (i + 1) 0)
 unfold rdF; omega
theorem dJ_range {g : Bool} {b : List (BitVec 8)} {ca li : Int} (h : dJ g b = some (ca, li)) : 0 ≤ ca ∧ ca ≤ 65535 ∧ 0 ≤ li ∧ li ≤ 65535 := by
 unfold dJ at h
 by_cases c : frontE b (if g then 10 else 4) = 0
 ·rw [if_pos c] at h
  have h1 := rd_range b 0
  have h2 := rd_range b 2
  simp only [Option.some.injEq, Prod.mk.injEq] at h
  omega
 ·rw [if_neg c] at h; cases h
theorem ret_tct {P : Program} {fn : Func} {R : Ending → World → Prop} {w0 w : World} {bs : List Bk} {a : Act} {p q r : Tmp} {ty : TypeId} (H : Kp (Loc w0 w bs)) (h : fn.results = #[.tmp r, .cell p ty, .tmp q]) (k : Nat) {g T : Nat} {ps : List Lf} (hi : bs[k]? = some (g, T, cat ps)) (hp : a.tmps.getD p undef = .pointer (some ⟨g, 0, none⟩)) (v u : Value) (hr : a.tmps.getD r undef = v) (hv : a.tmps.getD q undef = u)
  {d : TypeDesc} (hu : P.underlying ty = some d) (hd : (match d with | .struct _ | .array _ _ => true | _ => false) = true) (hz : (P.info? ty).map (·.size) = some (lsum ps)) (hdf : a.defers = []) (hR : R (.returned (.tuple #[v, .agg (cat ps).toArray, u])) w) : bodyPost P fn R .ret a w := by
 refine bodyPost_ret ?_ hdf hR
 have hp' : a.tmps[p]?.getD undef = .pointer (some ⟨g, 0, none⟩) := by simpa using hp
 have hv' : a.tmps[q]?.getD undef = u := by simpa using hv
 have hr' : a.tmps[r]?.getD undef = v := by simpa using hr
 have hg := H.out.at k hi
 simp [results, h, hr', hp', hv', asAddr, run_loadVar_row w g T ty (cat ps).toArray (0, 0) d hg hu hd (by rw [hz, List.size_toArray, cat_len])]
theorem Loc.sepHd {w0 w : World} {g T n c : Nat} {cs : List Value} {bs : List Bk} (h : Loc w0 w ((g, T, cs) :: bs)) : ∀ z ∈ bs.map (·.1), (Value.slice (some ⟨g, 0, none⟩) n c).ownBlock ≠ some z := fun z hz e => by
 have e2 : g = z := by simpa [Value.ownBlock] using e
 subst e2
 exact (List.nodup_cons.1 h.2.1).1 hz
theorem take_drop (b : By) (p m : Nat) : (b.take (p + m)).drop p = (b.drop p).take m := by
 rw [List.drop_take]; congr 1; omega
def partsRd (ad : Option Addr) (n c : Nat) (at_ : Int) : List Lf := [Lf.s ad n c, Lf.i .i64 at_]
def partsR (ad : Option Addr) (n c : Nat) (at_ e : Int) : List Lf := [Lf.s ad n c, Lf.i .i64 at_, Lf.i .i64 e]
set_option maxHeartbeats 1600000 in
theorem ocheck_any (ad : Option Addr) (n c : Nat) (p : Nat) (hp : p ≤ n) (w : World) :
  Calls Try.prog 116 #[.agg (cat (partsRd ad n c p)).toArray] w fun e w' => e = .returned (.int .i64 0) ∧ Ext w w' := by
 have H := kp (Loc.start w)
 go_enter Try.func116, Try.ntmps116
 go_wp2_with (first | ((with_reducible refine isBx 1 153 ?_); (refine L_box H rfl 153 _ rfl (cat (partsRd ad n c p)) rfl ?_); clear H; intro g1 w1 HGg1 HEg1 H; simp only [pA]) | ((with_reducible refine isLd 3 ?_); (first | (refine L_f1 H rfl 3 _ rfl 0 rfl _ rfl _ rfl _ rfl Try.underlying3 rfl ?_) | (refine L_f1 H rfl 3 _ rfl 1 rfl _ rfl _ rfl _ rfl Try.underlying3 rfl ?_) | (refine L_f1 H rfl 3 _ rfl 2 rfl _ rfl _ rfl _ rfl Try.underlying3 rfl ?_) | (refine L_f1 H rfl 3 _ rfl 3 rfl _ rfl _ rfl _ rfl Try.underlying3 rfl ?_) | (refine L_f1 H rfl 3 _ rfl 4 rfl _ rfl _ rfl _ rfl Try.underlying3 rfl ?_) | (refine L_f1 H rfl 3 _ rfl 5 rfl _ rfl _ rfl _ rfl Try.underlying3 rfl ?_)); simp only [pA]) | ((with_reducible refine isLd 29 ?_); (first | (refine L_f1 H rfl 29 _ rfl 0 rfl _ rfl _ rfl _ rfl Try.underlying29 rfl ?_) | (refine L_f1 H rfl 29 _ rfl 1 rfl _ rfl _ rfl _ rfl Try.underlying29 rfl ?_) | (refine L_f1 H rfl 29 _ rfl 2 rfl _ rfl _ rfl _ rfl Try.underlying29 rfl ?_) | (refine L_f1 H rfl 29 _ rfl 3 rfl _ rfl _ rfl _ rfl Try.underlying29 rfl ?_) | (refine L_f1 H rfl 29 _ rfl 4 rfl _ rfl _ rfl _ rfl Try.underlying29 rfl ?_) | (refine L_f1 H rfl 29 _ rfl 5 rfl _ rfl _ rfl _ rfl Try.underlying29 rfl ?_)); simp only [pA]))
 go_ret
 exact ⟨rfl, H.out.1⟩
def TakeR (ad : Option Addr) (n c : Nat) (b : By) (p m : Nat) (w : World) (e : Ending) (w' : World) : Prop := ∃ v, Ext w w' ∧ ((p + m ≤ n ∧ e = .returned (.tuple #[v, .agg (cat (partsRd ad n c ((p + m : Nat) : Int))).toArray, .int .i64 0]) ∧ OwB w.heap.size w' v ((b.drop p).take m)) ∨ (n < p + m ∧ e = .returned (.tuple #[v, .agg (cat (partsRd none 0 0 0)).toArray, .int .i64 10])))
set_option maxHeartbeats 1600000 in
theorem take_any (ad : Option Addr) (n c : Nat) (b : By) (hb : n ≤ 1000000) (hcap : n ≤ c) (p m : Nat) (hp : p ≤ n) (hm : m ≤ 1000000) (w : World) (hs : SlB w (.slice ad n c) b) :
  Calls Try.prog 104 #[.agg (cat (partsRd ad n c p)).toArray, .int .i64 m] w (TakeR ad n c b p m w) := by
 have H := kp (Loc.start w)
 have HS := kp hs
 have HN := kp hs.len
 have HCK := kp (fun w => ocheck_any ad n c p hp w)
 clear hs
 by_cases hpm : p + m ≤ n
 ·have HPM := kp hpm
  have hlt : ¬ ((n : Int) - (p : Int) < (m : Int)) := by omega
  have HLB := kp (show ([] : By).length + ((b.take (p + m)).drop p).length ≤ 1000000 by simp; omega)
  have HSC := kp (fun w hs => SlB.cut (w := w) (ad := ad) (n := n) (c := c) (b := b) hs hcap p (p + m) (by omega) hpm)
  have HRB := kp (take_drop b p m)
  go_enter Try.func104, Try.ntmps104
  generalize h10 : (Code.region 10 _ _ : Code) = R10
  go_wp2_with (first | ((at_builtin; (have HSX := kp (HSC.out _ (HS.out.ext H.out.1)); have HOX2 := kp (HOW.out); have HSPX := kp (HSP.out); refine L_appB2 H rfl _ _ rfl _ (Nat.le_refl _) H.out.1.size _ _ rfl HOX2.out HSPX.out _ _ rfl HSX.out (HLB.out) ?_; clear H HSX HOX2 HSPX; intro vb wb HO HGwb H; simp only [pA])); have HG2 := kp (show Lc wb g2 153 _ from H.out.at 1 rfl)) | ((with_reducible refine isBx 2 153 ?_); (refine L_box H rfl 153 _ rfl (cat (partsRd ad n c p)) rfl ?_); clear H; intro g2 w2 HGg2 HEg2 H; simp only [pA]) | ((with_reducible refine isAl 5 153 ?_); (refine L_alloc H rfl 153 rfl (cat (partsRd none 0 0 0)) (fun _ _ => by kernel_rfl) ?_); clear H; intro g5 w5 HGg5 HEg5 H; simp only [pA]) | ((with_reducible refine isLd 153 ?_); (first | (refine L_fa H rfl 153 _ rfl 0 rfl rfl Try.underlying153 rfl (by kernel_rfl) ?_) | (refine L_fa H rfl 153 _ rfl 1 rfl rfl Try.underlying153 rfl (by kernel_rfl) ?_) | (refine L_fa H rfl 153 _ rfl 2 rfl rfl Try.underlying153 rfl (by kernel_rfl) ?_) | (refine L_fa H rfl 153 _ rfl 3 rfl rfl Try.underlying153 rfl (by kernel_rfl) ?_) | (refine L_fa H rfl 153 _ rfl 4 rfl rfl Try.underlying153 rfl (by kernel_rfl) ?_) | (refine L_fa H rfl 153 _ rfl 5 rfl rfl Try.underlying153 rfl (by kernel_rfl) ?_)); simp only [pA]) | ((with_reducible refine isLd 3 ?_); (first | (refine L_f1 H rfl 3 _ rfl 0 rfl _ rfl _ rfl _ rfl Try.underlying3 rfl ?_) | (refine L_f1 H rfl 3 _ rfl 1 rfl _ rfl _ rfl _ rfl Try.underlying3 rfl ?_) | (refine L_f1 H rfl 3 _ rfl 2 rfl _ rfl _ rfl _ rfl Try.underlying3 rfl ?_) | (refine L_f1 H rfl 3 _ rfl 3 rfl _ rfl _ rfl _ rfl Try.underlying3 rfl ?_) | (refine L_f1 H rfl 3 _ rfl 4 rfl _ rfl _ rfl _ rfl Try.underlying3 rfl ?_) | (refine L_f1 H rfl 3 _ rfl 5 rfl _ rfl _ rfl _ rfl Try.underlying3 rfl ?_)); simp only [pA]) | ((with_reducible refine isLd 29 ?_); (first | (refine L_f1 H rfl 29 _ rfl 0 rfl _ rfl _ rfl _ rfl Try.underlying29 rfl ?_) | (refine L_f1 H rfl 29 _ rfl 1 rfl _ rfl _ rfl _ rfl Try.underlying29 rfl ?_) | (refine L_f1 H rfl 29 _ rfl 2 rfl _ rfl _ rfl _ rfl Try.underlying29 rfl ?_) | (refine L_f1 H rfl 29 _ rfl 3 rfl _ rfl _ rfl _ rfl Try.underlying29 rfl ?_) | (refine L_f1 H rfl 29 _ rfl 4 rfl _ rfl _ rfl _ rfl Try.underlying29 rfl ?_) | (refine L_f1 H rfl 29 _ rfl 5 rfl _ rfl _ rfl _ rfl Try.underlying29 rfl ?_)); simp only [pA]) | (go_at_call 116; refine (HCK.out _).mono ?_; rintro e wa ⟨rfl, hx⟩; replace H := kp (H.out.ext hx); have HXC := kp hx; clear hx) | (((with_reducible show wpList _ _ _ (Oper.mk (some 27) (Op.buildSlice 29 _ _) _ _ _ _ :: _) _ _); (refine L_bs H (by kernel_rfl) 29 0 _ rfl (#[]) (by kernel_rfl) 5 ([]) (fun _ => by kernel_rfl) ?_); clear H; intro g27 w27 HGg27 HEg27 H; simp only [pA]); have HOW := kp (owns_room (l := []) (zs := []) (n := 0) (c := 0) (H.out.at 0 rfl) (H.out.le 0 rfl) rfl rfl (by decide)); have HSP := kp (H.out.sepHd (n := 0) (c := 0)); have H2 := kp H.out.tl; clear H; have H := H2; clear H2) | ((with_reducible show wpList _ _ _ (Oper.mk _ (Op.slice 29 _ _ _ _) _ _ _ _ :: _) _ _); (refine L_cut (by kernel_rfl) 29 _ _ _ _ rfl _ _ _ _ _ rfl rfl rfl rfl (run_cut2 _ Try.underlying29 (sizeU8q) _ _ _ (p) (p + m) (by omega) (by omega)) ?_); simp only [pA]) | ((with_reducible refine isSt 3 ?_); (first | (refine L_s1 H rfl rfl 3 _ _ rfl 0 rfl _ rfl _ rfl _ rfl rfl rfl rfl (by kernel_rfl) (partsRd ad n c ((p + m : Nat) : Int)) rfl ?_; clear H; intro wc HWwc H; simp only [szA] at H) | (refine L_s1 H rfl rfl 3 _ _ rfl 1 rfl _ rfl _ rfl _ rfl rfl rfl rfl (by kernel_rfl) (partsRd ad n c ((p + m : Nat) : Int)) rfl ?_; clear H; intro wc HWwc H; simp only [ssA, szA] at H) | (refine L_s1 H rfl rfl 3 _ _ rfl 2 rfl _ rfl _ rfl _ rfl rfl rfl rfl (by kernel_rfl) (partsRd ad n c ((p + m : Nat) : Int)) rfl ?_; clear H; intro wc HWwc H; simp only [ssA, szA] at H) | (refine L_s1 H rfl rfl 3 _ _ rfl 3 rfl _ rfl _ rfl _ rfl rfl rfl rfl (by kernel_rfl) (partsRd ad n c ((p + m : Nat) : Int)) rfl ?_; clear H; intro wc HWwc H; simp only [ssA, szA] at H) | (refine L_s1 H rfl rfl 3 _ _ rfl 4 rfl _ rfl _ rfl _ rfl rfl rfl rfl (by kernel_rfl) (partsRd ad n c ((p + m : Nat) : Int)) rfl ?_; clear H; intro wc HWwc H; simp only [ssA, szA] at H) | (refine L_s1 H rfl rfl 3 _ _ rfl 5 rfl _ rfl _ rfl _ rfl rfl rfl rfl (by kernel_rfl) (partsRd ad n c ((p + m : Nat) : Int)) rfl ?_; clear H; intro wc HWwc H; simp only [ssA, szA] at H))))
  have HO2 := kp (owns_wroteT HO.out HWwc.out HG2.out (show 5 ≠ 153 from by decide))
  subst h10
  refine region_z H 3 (by kernel_rfl) (by kernel_rfl) (by kernel_rfl) (by kernel_rfl) (by decide) (Nat.le_of_ble_eq_true (by kernel_rfl)) ?_
  apply Exists.intro
  refine ⟨fun xz2 => ?_, fun wz2 HXZ H => ?_⟩
  ·simp only [List.take_succ_cons, List.take_zero]
   unfold Cx
   repeat (first | ((with_reducible show wpQuiet _ _ _ _ (Oper.mk _ (Op.load 153 _) _ _ _ _ :: _) _); go_big_quiet_want; (first | (refine qz_a H 153 _ rfl 0 rfl rfl Try.underlying153 rfl (by kernel_rfl) ?_) | (refine qz_a H 153 _ rfl 1 rfl rfl Try.underlying153 rfl (by kernel_rfl) ?_) | (refine qz_a H 153 _ rfl 2 rfl rfl Try.underlying153 rfl (by kernel_rfl) ?_) | (refine qz_a H 153 _ rfl 3 rfl rfl Try.underlying153 rfl (by kernel_rfl) ?_) | (refine qz_a H 153 _ rfl 4 rfl rfl Try.underlying153 rfl (by kernel_rfl) ?_) | (refine qz_a H 153 _ rfl 5 rfl rfl Try.underlying153 rfl (by kernel_rfl) ?_)); simp only [pA]; go_big_quiet_on) | go_big_quiet_step (fail))
   exact wpQuiet_nil rfl
  simp only [List.drop_succ_cons, List.drop_zero]
  have HG5 := kp (show Lc _ g5 153 _ from H.out.at 0 rfl)
  have HO3 := kp (owns_ext HO2.out HXZ.out)
  go_wp2_with ((with_reducible refine isSt 153 ?_); (first | (refine L_sa H rfl rfl 153 _ _ rfl 0 rfl rfl (partsRd ad n c ((p + m : Nat) : Int)) rfl rfl (by kernel_rfl) ?_; clear H; intro wd HWwd H; simp only [szA] at H) | (refine L_sa H rfl rfl 153 _ _ rfl 1 rfl rfl (partsRd ad n c ((p + m : Nat) : Int)) rfl rfl (by kernel_rfl) ?_; clear H; intro wd HWwd H; simp only [ssA, szA] at H) | (refine L_sa H rfl rfl 153 _ _ rfl 2 rfl rfl (partsRd ad n c ((p + m : Nat) : Int)) rfl rfl (by kernel_rfl) ?_; clear H; intro wd HWwd H; simp only [ssA, szA] at H) | (refine L_sa H rfl rfl 153 _ _ rfl 3 rfl rfl (partsRd ad n c ((p + m : Nat) : Int)) rfl rfl (by kernel_rfl) ?_; clear H; intro wd HWwd H; simp only [ssA, szA] at H) | (refine L_sa H rfl rfl 153 _ _ rfl 4 rfl rfl (partsRd ad n c ((p + m : Nat) : Int)) rfl rfl (by kernel_rfl) ?_; clear H; intro wd HWwd H; simp only [ssA, szA] at H) | (refine L_sa H rfl rfl 153 _ _ rfl 5 rfl rfl (partsRd ad n c ((p + m : Nat) : Int)) rfl rfl (by kernel_rfl) ?_; clear H; intro wd HWwd H; simp only [ssA, szA] at H)))
  have HO4 := kp (owns_wroteT HO3.out HWwd.out HG5.out (show 5 ≠ 153 from by decide))
  rw [List.nil_append, HRB.out] at HO4
  exact ret_tct H Try.results104 0 rfl rfl _ _ rfl rfl Try.underlying153 rfl (by kernel_rfl) rfl ⟨vb, H.out.1, .inl ⟨HPM.out, rfl, HO4.out⟩⟩
 ·have hlt : (n : Int) - (p : Int) < (m : Int) := by omega
  go_enter Try.func104, Try.ntmps104
  go_wp2_with (first | ((with_reducible refine isBx 2 153 ?_); (refine L_box H rfl 153 _ rfl (cat (partsRd ad n c p)) rfl ?_); clear H; intro g2 w2 HGg2 HEg2 H; simp only [pA]) | ((with_reducible refine isAl 5 153 ?_); (refine L_alloc H rfl 153 rfl (cat (partsRd none 0 0 0)) (fun _ _ => by kernel_rfl) ?_); clear H; intro g5 w5 HGg5 HEg5 H; simp only [pA]) | ((with_reducible refine isLd 153 ?_); (first | (refine L_fa H rfl 153 _ rfl 0 rfl rfl Try.underlying153 rfl (by kernel_rfl) ?_) | (refine L_fa H rfl 153 _ rfl 1 rfl rfl Try.underlying153 rfl (by kernel_rfl) ?_) | (refine L_fa H rfl 153 _ rfl 2 rfl rfl Try.underlying153 rfl (by kernel_rfl) ?_) | (refine L_fa H rfl 153 _ rfl 3 rfl rfl Try.underlying153 rfl (by kernel_rfl) ?_) | (refine L_fa H rfl 153 _ rfl 4 rfl rfl Try.underlying153 rfl (by kernel_rfl) ?_) | (refine L_fa H rfl 153 _ rfl 5 rfl rfl Try.underlying153 rfl (by kernel_rfl) ?_)); simp only [pA]) | ((with_reducible refine isLd 3 ?_); (first | (refine L_f1 H rfl 3 _ rfl 0 rfl _ rfl _ rfl _ rfl Try.underlying3 rfl ?_) | (refine L_f1 H rfl 3 _ rfl 1 rfl _ rfl _ rfl _ rfl Try.underlying3 rfl ?_) | (refine L_f1 H rfl 3 _ rfl 2 rfl _ rfl _ rfl _ rfl Try.underlying3 rfl ?_) | (refine L_f1 H rfl 3 _ rfl 3 rfl _ rfl _ rfl _ rfl Try.underlying3 rfl ?_) | (refine L_f1 H rfl 3 _ rfl 4 rfl _ rfl _ rfl _ rfl Try.underlying3 rfl ?_) | (refine L_f1 H rfl 3 _ rfl 5 rfl _ rfl _ rfl _ rfl Try.underlying3 rfl ?_)); simp only [pA]) | ((with_reducible refine isLd 29 ?_); (first | (refine L_f1 H rfl 29 _ rfl 0 rfl _ rfl _ rfl _ rfl Try.underlying29 rfl ?_) | (refine L_f1 H rfl 29 _ rfl 1 rfl _ rfl _ rfl _ rfl Try.underlying29 rfl ?_) | (refine L_f1 H rfl 29 _ rfl 2 rfl _ rfl _ rfl _ rfl Try.underlying29 rfl ?_) | (refine L_f1 H rfl 29 _ rfl 3 rfl _ rfl _ rfl _ rfl Try.underlying29 rfl ?_) | (refine L_f1 H rfl 29 _ rfl 4 rfl _ rfl _ rfl _ rfl Try.underlying29 rfl ?_) | (refine L_f1 H rfl 29 _ rfl 5 rfl _ rfl _ rfl _ rfl Try.underlying29 rfl ?_)); simp only [pA]) | (go_at_call 116; refine (HCK.out _).mono ?_; rintro e wa ⟨rfl, hx⟩; replace H := kp (H.out.ext hx); have HXC := kp hx; clear hx) | ((with_reducible show wpList _ _ _ (Oper.mk (some 26) (Op.build 153 _) _ _ _ _ :: _) _ _); (refine L_bd (by kernel_rfl) 153 _ rfl (#[]) (by kernel_rfl) (cat (partsRd none 0 0 0)) (fun _ => by kernel_rfl) ?_); simp only [pA]) | ((with_reducible refine isSt 153 ?_); (first | (refine L_sa H rfl rfl 153 _ _ rfl 0 rfl rfl (partsRd none 0 0 0) rfl rfl (by kernel_rfl) ?_; clear H; intro wa HWwa H; simp only [szA] at H) | (refine L_sa H rfl rfl 153 _ _ rfl 1 rfl rfl (partsRd none 0 0 0) rfl rfl (by kernel_rfl) ?_; clear H; intro wa HWwa H; simp only [ssA, szA] at H) | (refine L_sa H rfl rfl 153 _ _ rfl 2 rfl rfl (partsRd none 0 0 0) rfl rfl (by kernel_rfl) ?_; clear H; intro wa HWwa H; simp only [ssA, szA] at H) | (refine L_sa H rfl rfl 153 _ _ rfl 3 rfl rfl (partsRd none 0 0 0) rfl rfl (by kernel_rfl) ?_; clear H; intro wa HWwa H; simp only [ssA, szA] at H) | (refine L_sa H rfl rfl 153 _ _ rfl 4 rfl rfl (partsRd none 0 0 0) rfl rfl (by kernel_rfl) ?_; clear H; intro wa HWwa H; simp only [ssA, szA] at H) | (refine L_sa H rfl rfl 153 _ _ rfl 5 rfl rfl (partsRd none 0 0 0) rfl rfl (by kernel_rfl) ?_; clear H; intro wa HWwa H; simp only [ssA, szA] at H))))
  exact ret_tct H Try.results104 0 rfl rfl _ _ rfl rfl Try.underlying153 rfl (by kernel_rfl) rfl ⟨_, H.out.1, .inr ⟨by omega, rfl⟩⟩
end Go.Proofs.Ytfecopfofkdnpaa
