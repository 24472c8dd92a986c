/- Texts of this proof, put together: Pw, Bld. -/
import Derived.Test.YtibncchobkaaiaaF11
import Derived.Test.YtibncchobkaaiaaF5
import Derived.Test.YtibncchobkaaiaaF1
namespace Go.Proofs.Ytibncchobkaaiaa
open Go.RowKit
theorem ord_pos {a b m n : By} (h : 0 < cmpF a b) : ordF a b m n = b ++ (a ++ (n ++ m)) := by simp [ordF, h]
theorem ord_neg {a b m n : By} (h : ¬ 0 < cmpF a b) : ordF a b m n = a ++ (b ++ (m ++ n)) := by simp [ordF, h]
theorem parts4 {w : World} {v0 v1 v2 v3 : Value} {l0 l1 l2 l3 : By} (h0 : SlB w v0 l0) (h1 : SlB w v1 l1) (h2 : SlB w v2 l2) (h3 : SlB w v3 l3) : Parts w [v0, v1, v2, v3] [l0, l1, l2, l3] := by
 refine ⟨rfl, fun j v l hv hl => ?_⟩
 match j with
 | 0 => cases hv; cases hl; exact h0
 | 1 => cases hv; cases hl; exact h1
 | 2 => cases hv; cases hl; exact h2
 | 3 => cases hv; cases hl; exact h3
 | n + 4 => simp at hv
set_option maxHeartbeats 1600000 in
theorem ordered_any (a b : Vc 6) (m n : Vc 16) (w : World) :
  Calls Try.prog 73 #[.agg (a.1.map V8).toArray, .agg (b.1.map V8).toArray, .agg (m.1.map V8).toArray, .agg (n.1.map V8).toArray, .func (.func 74) #[] #[]] w (RetB (ordF a.1 b.1 m.1 n.1) w) := by
 have H := kp (Loc.start w)
 have HC := kp (compareA_any a.1 b.1 a.2 b.2)
 go_enter Try.func73, Try.ntmps73
 generalize h2 : (Code.region 2 _ _ : Code) = R2
 go_wp2_with (first | ((with_reducible refine isBx 5 23 ?_); (refine L_box H rfl 23 _ rfl (cat ([Lf.v a])) rfl ?_); clear H; intro g5 w5 HGg5 HEg5 H; simp only [pA]) | ((with_reducible refine isBx 6 23 ?_); (refine L_box H rfl 23 _ rfl (cat ([Lf.v b])) rfl ?_); clear H; intro g6 w6 HGg6 HEg6 H; simp only [pA]) | ((with_reducible refine isBx 7 26 ?_); (refine L_box H rfl 26 _ rfl (cat ([Lf.v m])) rfl ?_); clear H; intro g7 w7 HGg7 HEg7 H; simp only [pA]) | ((with_reducible refine isBx 8 26 ?_); (refine L_box H rfl 26 _ rfl (cat ([Lf.v n])) rfl ?_); clear H; intro g8 w8 HGg8 HEg8 H; simp only [pA]) | ((with_reducible refine isLd 23 ?_); (first | (refine L_fv H rfl 23 _ rfl 2 rfl _ rfl _ rfl rfl Try.underlying23 rfl (by kernel_rfl) ?_) | (refine L_fv H rfl 23 _ rfl 3 rfl _ rfl _ rfl rfl Try.underlying23 rfl (by kernel_rfl) ?_)); simp only [pA]) | (go_at_call 74; refine (HC.out _).mono ?_; rintro e wa ⟨rfl, hx⟩; replace H := kp (H.out.ext hx); have HXC := kp hx; clear hx))
 ·rename 0 < cmpF a.1 b.1 => hc
  have HK := kp (ord_pos (m := m.1) (n := n.1) hc)
  clear hc
  subst h2
  go_wp2_with (first | ((with_reducible refine isLd 23 ?_); (first | (refine L_fv H rfl 23 _ rfl 2 rfl _ rfl _ rfl rfl Try.underlying23 rfl (by kernel_rfl) ?_) | (refine L_fv H rfl 23 _ rfl 3 rfl _ rfl _ rfl rfl Try.underlying23 rfl (by kernel_rfl) ?_)); simp only [pA]) | ((with_reducible refine isLd 26 ?_); (first | (refine L_fv H rfl 26 _ rfl 0 rfl _ rfl _ rfl rfl Try.underlying26 rfl (by kernel_rfl) ?_) | (refine L_fv H rfl 26 _ rfl 1 rfl _ rfl _ rfl rfl Try.underlying26 rfl (by kernel_rfl) ?_)); simp only [pA]) | ((with_reducible refine isSt 23 ?_); (first | (refine L_sv H rfl rfl 23 _ _ rfl 2 rfl _ rfl _ rfl (Lf.v _) rfl rfl rfl (by kernel_rfl) (_) rfl ?_; clear H; intro wb HWwb H; simp only [ssA, szA] at H) | (refine L_sv H rfl rfl 23 _ _ rfl 3 rfl _ rfl _ rfl (Lf.v _) rfl rfl rfl (by kernel_rfl) (_) rfl ?_; clear H; intro wb HWwb H; simp only [ssA, szA] at H))) | ((with_reducible refine isSt 26 ?_); (first | (refine L_sv H rfl rfl 26 _ _ rfl 0 rfl _ rfl _ rfl (Lf.v _) rfl rfl rfl (by kernel_rfl) (_) rfl ?_; clear H; intro wc HWwc H; simp only [szA] at H) | (refine L_sv H rfl rfl 26 _ _ rfl 1 rfl _ rfl _ rfl (Lf.v _) rfl rfl rfl (by kernel_rfl) (_) rfl ?_; clear H; intro wc HWwc H; simp only [ssA, szA] at H))))
  refine region_free H (tabS [(20, fun vQ _ => vQ = .slice (some ⟨g5, 0, none⟩) 6 6), (21, fun vQ _ => vQ = .slice (some ⟨g6, 0, none⟩) 6 6), (22, fun vQ _ => vQ = .slice (some ⟨g7, 0, none⟩) 16 16), (23, fun vQ _ => vQ = .slice (some ⟨g8, 0, none⟩) 16 16), (24, fun vQ wQ => NewS 33 4 [.slice (some ⟨g5, 0, none⟩) 6 6, .slice (some ⟨g6, 0, none⟩) 6 6, .slice (some ⟨g7, 0, none⟩) 16 16, .slice (some ⟨g8, 0, none⟩) 16 16] vQ wQ), (25, fun vQ wQ => SlB wQ vQ (ordF a.1 b.1 m.1 n.1)), (10, fun vQ wQ => SlB wQ vQ (ordF a.1 b.1 m.1 n.1))]) [] (tabS_out _ _ (by simp only [List.forall_mem_cons, mono_eqO, true_and]; exact ⟨(mono_NewS _ _ _), (mono_SlBO _), (mono_SlBO _), by simp⟩)) 7 (by kernel_rfl) (by kernel_rfl) (by kernel_rfl) (by kernel_rfl) [] [] rfl rfl (by decide) (by decide) (by decide) trivial ?_
  simp only [List.take_succ_cons, List.take_zero]
  refine ⟨fun w_ o_ S_ => ?_, fun v20 => ?_⟩
  ·clear S_
   clear o_
   go_wp2_with fail
   exact kso
  simp only [pA]
  refine ⟨fun w_ o_ S_ => ?_, fun v21 => ?_⟩
  ·clear S_
   clear o_
   go_wp2_with fail
   exact kso
  simp only [pA]
  refine ⟨fun w_ o_ S_ => ?_, fun v22 => ?_⟩
  ·clear S_
   clear o_
   go_wp2_with fail
   exact kso
  simp only [pA]
  refine ⟨fun w_ o_ S_ => ?_, fun v23 => ?_⟩
  ·clear S_
   clear o_
   go_wp2_with fail
   exact kso
  simp only [pA]
  refine ⟨fun w_ o_ S_ => ?_, fun v24 => ?_⟩
  ·obtain rfl : v20 = .slice (some ⟨g5, 0, none⟩) 6 6 := hsR S_ 20 rfl
   obtain rfl : v21 = .slice (some ⟨g6, 0, none⟩) 6 6 := hsR S_ 21 rfl
   obtain rfl : v22 = .slice (some ⟨g7, 0, none⟩) 16 16 := hsR S_ 22 rfl
   obtain rfl : v23 = .slice (some ⟨g8, 0, none⟩) 16 16 := hsR S_ 23 rfl
   clear S_
   have H := kp (kK [0, 1, 2, 3] H o_)
   have HOX := kp o_
   clear o_
   go_wp2_with ((with_reducible show wpList _ _ _ (Oper.mk (some 24) (Op.buildSlice 34 _ _) _ _ _ _ :: _) _ _); (refine L_bs H (by kernel_rfl) 34 4 _ rfl (#[(0, .slice (some ⟨g5, 0, none⟩) 6 6), (1, .slice (some ⟨g6, 0, none⟩) 6 6), (2, .slice (some ⟨g7, 0, none⟩) 16 16), (3, .slice (some ⟨g8, 0, none⟩) 16 16)]) (by kernel_rfl) 33 ([.slice (some ⟨g5, 0, none⟩) 6 6, .slice (some ⟨g6, 0, none⟩) 6 6, .slice (some ⟨g7, 0, none⟩) 16 16, .slice (some ⟨g8, 0, none⟩) 16 16]) (fun _ => by kernel_rfl) ?_); clear H; intro g24 w24 HGg24 HEg24 H; simp only [pA])
   exact ⟨rfl, _, rfl, fun d hd => by cases hd; exact ⟨g24, rfl, H.out.at 0 rfl⟩, HEg24.out⟩
  simp only [pA]
  refine ⟨fun w_ o_ S_ => ?_, fun v25 => ?_⟩
  ·have h24 := kp (show NewS 33 4 [.slice (some ⟨g5, 0, none⟩) 6 6, .slice (some ⟨g6, 0, none⟩) 6 6, .slice (some ⟨g7, 0, none⟩) 16 16, .slice (some ⟨g8, 0, none⟩) 16 16] v24 w_ from hsR S_ 24 rfl)
   clear S_
   have H := kp (kK [0, 1, 2, 3] H o_)
   have HOX := kp o_
   clear o_
   obtain ⟨gn, rfl, hn⟩ := h24.out
   go_wp2_with fail
   refine (djoin_any gn 4 [_, _, _, _] [b.1, a.1, n.1, m.1] _ hn (parts4 (SlB_part H.out 3 rfl 0 0 rfl rfl _) (SlB_part H.out 2 rfl 0 0 rfl rfl _) (SlB_part H.out 1 rfl 0 0 rfl rfl _) (SlB_part H.out 0 rfl 0 0 rfl rfl _)) (by simp) (by have := a.2; have := b.2; have := m.2; have := n.2; simp; omega)).mono ?_
   rintro e w2 ⟨v, rfl, hsl, hx⟩
   have HSL := kp hsl
   have HXC := kp hx
   clear hsl hx
   go_wp2_with fail
   exact ⟨rfl, _, rfl, fun d hd => by cases hd; exact (show SlB w2 v (ordF a.1 b.1 m.1 n.1) by rw [HK.out]; simpa using HSL.out), HXC.out⟩
  simp only [pA]
  refine ⟨fun w_ o_ S_ => ?_, fun v10 => ?_⟩
  ·have h25 := kp (show SlB w_ v25 (ordF a.1 b.1 m.1 n.1) from hsR S_ 25 rfl)
   clear S_ o_
   go_wp2_with fail
   exact ⟨rfl, _, rfl, fun d hd => by cases hd; exact h25.out, Ext.refl _⟩
  simp only [pA]
  clear H
  intro wd HOX H hfin
  obtain rfl : v20 = .slice (some ⟨g5, 0, none⟩) 6 6 := hfin 20 (by decide)
  obtain rfl : v21 = .slice (some ⟨g6, 0, none⟩) 6 6 := hfin 21 (by decide)
  obtain rfl : v22 = .slice (some ⟨g7, 0, none⟩) 16 16 := hfin 22 (by decide)
  obtain rfl : v23 = .slice (some ⟨g8, 0, none⟩) 16 16 := hfin 23 (by decide)
  have F24 := kp (show NewS 33 4 [.slice (some ⟨g5, 0, none⟩) 6 6, .slice (some ⟨g6, 0, none⟩) 6 6, .slice (some ⟨g7, 0, none⟩) 16 16, .slice (some ⟨g8, 0, none⟩) 16 16] v24 wd from hfin 24 (by decide))
  have F25 := kp (show SlB wd v25 (ordF a.1 b.1 m.1 n.1) from hfin 25 (by decide))
  have F10 := kp (show SlB wd v10 (ordF a.1 b.1 m.1 n.1) from hfin 10 (by decide))
  clear hfin
  simp only [List.drop_succ_cons, List.drop_zero]
  simp only [applyS] at H
  have HXN := kp (HOX.out.ext (Ext.refl wc) (fun g hg => by cases hg))
  go_wp2_with fail
  go_ret
  exact ⟨_, rfl, F10.out, H.out.1⟩
 ·rename cmpF a.1 b.1 ≤ 0 => hc
  have HK := kp (ord_neg (m := m.1) (n := n.1) (by omega : ¬ 0 < cmpF a.1 b.1))
  clear hc
  refine region_free H (tabS [(20, fun vQ _ => vQ = .slice (some ⟨g5, 0, none⟩) 6 6), (21, fun vQ _ => vQ = .slice (some ⟨g6, 0, none⟩) 6 6), (22, fun vQ _ => vQ = .slice (some ⟨g7, 0, none⟩) 16 16), (23, fun vQ _ => vQ = .slice (some ⟨g8, 0, none⟩) 16 16), (24, fun vQ wQ => NewS 33 4 [.slice (some ⟨g5, 0, none⟩) 6 6, .slice (some ⟨g6, 0, none⟩) 6 6, .slice (some ⟨g7, 0, none⟩) 16 16, .slice (some ⟨g8, 0, none⟩) 16 16] vQ wQ), (25, fun vQ wQ => SlB wQ vQ (ordF a.1 b.1 m.1 n.1)), (10, fun vQ wQ => SlB wQ vQ (ordF a.1 b.1 m.1 n.1))]) [] (tabS_out _ _ (by simp only [List.forall_mem_cons, mono_eqO, true_and]; exact ⟨(mono_NewS _ _ _), (mono_SlBO _), (mono_SlBO _), by simp⟩)) 7 (by kernel_rfl) (by kernel_rfl) (by kernel_rfl) (by kernel_rfl) [] [] rfl rfl (by decide) (by decide) (by decide) trivial ?_
  simp only [List.take_succ_cons, List.take_zero]
  refine ⟨fun w_ o_ S_ => ?_, fun v20 => ?_⟩
  ·clear S_
   clear o_
   go_wp2_with fail
   exact kso
  simp only [pA]
  refine ⟨fun w_ o_ S_ => ?_, fun v21 => ?_⟩
  ·clear S_
   clear o_
   go_wp2_with fail
   exact kso
  simp only [pA]
  refine ⟨fun w_ o_ S_ => ?_, fun v22 => ?_⟩
  ·clear S_
   clear o_
   go_wp2_with fail
   exact kso
  simp only [pA]
  refine ⟨fun w_ o_ S_ => ?_, fun v23 => ?_⟩
  ·clear S_
   clear o_
   go_wp2_with fail
   exact kso
  simp only [pA]
  refine ⟨fun w_ o_ S_ => ?_, fun v24 => ?_⟩
  ·obtain rfl : v20 = .slice (some ⟨g5, 0, none⟩) 6 6 := hsR S_ 20 rfl
   obtain rfl : v21 = .slice (some ⟨g6, 0, none⟩) 6 6 := hsR S_ 21 rfl
   obtain rfl : v22 = .slice (some ⟨g7, 0, none⟩) 16 16 := hsR S_ 22 rfl
   obtain rfl : v23 = .slice (some ⟨g8, 0, none⟩) 16 16 := hsR S_ 23 rfl
   clear S_
   have H := kp (kK [0, 1, 2, 3] H o_)
   have HOX := kp o_
   clear o_
   go_wp2_with ((with_reducible show wpList _ _ _ (Oper.mk (some 24) (Op.buildSlice 34 _ _) _ _ _ _ :: _) _ _); (refine L_bs H (by kernel_rfl) 34 4 _ rfl (#[(0, .slice (some ⟨g5, 0, none⟩) 6 6), (1, .slice (some ⟨g6, 0, none⟩) 6 6), (2, .slice (some ⟨g7, 0, none⟩) 16 16), (3, .slice (some ⟨g8, 0, none⟩) 16 16)]) (by kernel_rfl) 33 ([.slice (some ⟨g5, 0, none⟩) 6 6, .slice (some ⟨g6, 0, none⟩) 6 6, .slice (some ⟨g7, 0, none⟩) 16 16, .slice (some ⟨g8, 0, none⟩) 16 16]) (fun _ => by kernel_rfl) ?_); clear H; intro g24 w24 HGg24 HEg24 H; simp only [pA])
   exact ⟨rfl, _, rfl, fun d hd => by cases hd; exact ⟨g24, rfl, H.out.at 0 rfl⟩, HEg24.out⟩
  simp only [pA]
  refine ⟨fun w_ o_ S_ => ?_, fun v25 => ?_⟩
  ·have h24 := kp (show NewS 33 4 [.slice (some ⟨g5, 0, none⟩) 6 6, .slice (some ⟨g6, 0, none⟩) 6 6, .slice (some ⟨g7, 0, none⟩) 16 16, .slice (some ⟨g8, 0, none⟩) 16 16] v24 w_ from hsR S_ 24 rfl)
   clear S_
   have H := kp (kK [0, 1, 2, 3] H o_)
   have HOX := kp o_
   clear o_
   obtain ⟨gn, rfl, hn⟩ := h24.out
   go_wp2_with fail
   refine (djoin_any gn 4 [_, _, _, _] [a.1, b.1, m.1, n.1] _ hn (parts4 (SlB_part H.out 3 rfl 0 0 rfl rfl _) (SlB_part H.out 2 rfl 0 0 rfl rfl _) (SlB_part H.out 1 rfl 0 0 rfl rfl _) (SlB_part H.out 0 rfl 0 0 rfl rfl _)) (by simp) (by have := a.2; have := b.2; have := m.2; have := n.2; simp; omega)).mono ?_
   rintro e w2 ⟨v, rfl, hsl, hx⟩
   have HSL := kp hsl
   have HXC := kp hx
   clear hsl hx
   go_wp2_with fail
   exact ⟨rfl, _, rfl, fun d hd => by cases hd; exact (show SlB w2 v (ordF a.1 b.1 m.1 n.1) by rw [HK.out]; simpa using HSL.out), HXC.out⟩
  simp only [pA]
  refine ⟨fun w_ o_ S_ => ?_, fun v10 => ?_⟩
  ·have h25 := kp (show SlB w_ v25 (ordF a.1 b.1 m.1 n.1) from hsR S_ 25 rfl)
   clear S_ o_
   go_wp2_with fail
   exact ⟨rfl, _, rfl, fun d hd => by cases hd; exact h25.out, Ext.refl _⟩
  simp only [pA]
  clear H
  intro wd HOX H hfin
  obtain rfl : v20 = .slice (some ⟨g5, 0, none⟩) 6 6 := hfin 20 (by decide)
  obtain rfl : v21 = .slice (some ⟨g6, 0, none⟩) 6 6 := hfin 21 (by decide)
  obtain rfl : v22 = .slice (some ⟨g7, 0, none⟩) 16 16 := hfin 22 (by decide)
  obtain rfl : v23 = .slice (some ⟨g8, 0, none⟩) 16 16 := hfin 23 (by decide)
  have F24 := kp (show NewS 33 4 [.slice (some ⟨g5, 0, none⟩) 6 6, .slice (some ⟨g6, 0, none⟩) 6 6, .slice (some ⟨g7, 0, none⟩) 16 16, .slice (some ⟨g8, 0, none⟩) 16 16] v24 wd from hfin 24 (by decide))
  have F25 := kp (show SlB wd v25 (ordF a.1 b.1 m.1 n.1) from hfin 25 (by decide))
  have F10 := kp (show SlB wd v10 (ordF a.1 b.1 m.1 n.1) from hfin 10 (by decide))
  clear hfin
  simp only [List.drop_succ_cons, List.drop_zero]
  simp only [applyS] at H
  have HXN := kp (HOX.out.ext (Ext.refl wa) (fun g hg => by cases hg))
  go_wp2_with fail
  go_ret
  exact ⟨_, rfl, F10.out, H.out.1⟩
theorem pair_same {k : Vc 16} {a b : Vc 6} {m n : Vc 16} (h : a = b) : pairF k a b m n = ks0 ∧ pairE a b = 2 := by simp [pairF, pairE, h]
theorem pair_diff {k : Vc 16} {a b : Vc 6} {m n : Vc 16} (h : a ≠ b) : pairF k a b m n = threeF (expandF k.1 pwS (ordF a.1 b.1 m.1 n.1) 48) ∧ pairE a b = 0 := by simp [pairF, pairE, h]
theorem ord_len (a b : Vc 6) (m n : Vc 16) : (ordF a.1 b.1 m.1 n.1).length = 44 := by
 have := a.2; have := b.2; have := m.2; have := n.2
 unfold ordF; split <;> simp <;> omega
def Tup48 (B : Nat) (E : By) (v : Value) (w : World) : Prop := ∃ ad, v = .tuple #[.slice ad 48 48, .int .i64 0] ∧ SlB w (.slice ad 48 48) E ∧ ∀ b o m, ad = some ⟨b, o, m⟩ → B ≤ b
theorem mono_Tup48 (B : Nat) (E : By) : MonoO [] (Tup48 B E) := fun _ _ _ ⟨ad, h1, h2, h3⟩ ho => ⟨ad, h1, h2.ext (out_ext ho), h3⟩
def Sl48 (B : Nat) (E : By) (v : Value) (w : World) : Prop := ∃ ad, v = .slice ad 48 48 ∧ SlB w (.slice ad 48 48) E ∧ ∀ b o m, ad = some ⟨b, o, m⟩ → B ≤ b
theorem mono_Sl48 (B : Nat) (E : By) : MonoO [] (Sl48 B E) := fun _ _ _ ⟨ad, h1, h2, h3⟩ ho => ⟨ad, h1, h2.ext (out_ext ho), h3⟩
theorem SlB.wrote {w w' : World} {g b off n c : Nat} {l : By} (h : SlB w (.slice (some ⟨b, off, none⟩) n c) l) (hw : Wrote w w' g) (hne : b ≠ g) : SlB w' (.slice (some ⟨b, off, none⟩) n c) l := by
 obtain ⟨ds, rfl⟩ := hw
 rcases h with ⟨rfl, h | ⟨ad, cap, h⟩⟩ | ⟨b2, o2, c2, h1, h2, h3⟩
 ·cases h
 ·exact .inl ⟨rfl, .inr ⟨ad, cap, h⟩⟩
 ·simp only [Value.slice.injEq, Option.some.injEq, Addr.mk.injEq] at h1
  obtain ⟨⟨rfl, rfl, _⟩, rfl, rfl⟩ := h1
  exact .inr ⟨b, off, c, rfl, by rw [setRow_size]; exact h2, fun j x hj => (cell_setRow hne).trans (h3 j x hj)⟩
set_option maxHeartbeats 1600000 in
theorem pairwise_any (k : Vc 16) (a b : Vc 6) (m n : Vc 16) (w : World) :
  Calls Try.prog 59 #[.agg (k.1.map V8).toArray, .agg (a.1.map V8).toArray, .agg (b.1.map V8).toArray, .agg (m.1.map V8).toArray, .agg (n.1.map V8).toArray] w fun e w' => e = .returned (.tuple #[.agg (cat (partsK (pairF k a b m n))).toArray, .int .i64 (pairE a b)]) ∧ Ext w w' := by
 have H := kp (Loc.start w)
 have HO := kp (ordered_any a b m n)
 have HOL := kp (ord_len a b m n)
 have HE := kp (fun vc w h => expand_new k.1 k.2 pwS (by decide) vc (ordF a.1 b.1 m.1 n.1) (by rw [HOL.out]; omega) 48 (by omega) w h)
 go_enter Try.func59, Try.ntmps59
 generalize h2 : ((Code.region 2 _ _ : Code).seq _) = R2
 generalize h3 : (Code.region 3 _ _ : Code) = R3
 go_wp2_with (first | ((with_reducible refine isBx 5 25 ?_); (refine L_box H rfl 25 _ rfl (cat ([Lf.v k])) rfl ?_); clear H; intro g5 w5 HGg5 HEg5 H; simp only [pA]) | ((with_reducible refine isBx 6 23 ?_); (refine L_box H rfl 23 _ rfl (cat ([Lf.v a])) rfl ?_); clear H; intro g6 w6 HGg6 HEg6 H; simp only [pA]) | ((with_reducible refine isBx 7 23 ?_); (refine L_box H rfl 23 _ rfl (cat ([Lf.v b])) rfl ?_); clear H; intro g7 w7 HGg7 HEg7 H; simp only [pA]) | ((with_reducible refine isBx 8 26 ?_); (refine L_box H rfl 26 _ rfl (cat ([Lf.v m])) rfl ?_); clear H; intro g8 w8 HGg8 HEg8 H; simp only [pA]) | ((with_reducible refine isBx 9 26 ?_); (refine L_box H rfl 26 _ rfl (cat ([Lf.v n])) rfl ?_); clear H; intro g9 w9 HGg9 HEg9 H; simp only [pA]) | ((with_reducible refine isAl 10 28 ?_); (refine L_alloc H rfl 28 rfl (cat (partsK ks0)) (fun _ _ => by kernel_rfl) ?_); clear H; intro g10 w10 HGg10 HEg10 H; simp only [pA]) | ((with_reducible refine isLd 23 ?_); (first | (refine L_fv H rfl 23 _ rfl 3 rfl _ rfl _ rfl rfl Try.underlying23 rfl (by kernel_rfl) ?_) | (refine L_fv H rfl 23 _ rfl 4 rfl _ rfl _ rfl rfl Try.underlying23 rfl (by kernel_rfl) ?_)); simp only [pA]) | ((with_reducible show wpList _ _ _ (Oper.mk _ (Op.binOp _ 23 _ _ _) _ _ _ _ :: _) _ _); (refine wpList_eq2 rfl 23 _ _ _ rfl _ _ _ rfl rfl Try.eqGuardType23 (eqV_in _ Try.underlying23 _ _ 9998) ?_); simp only [pA]))
 ·rename a = b => hc
  have HK := kp (pair_same (k := k) (m := m) (n := n) hc)
  clear hc
  subst h2
  go_wp2_with (first | ((with_reducible refine isLd 28 ?_); (refine L_fa H rfl 28 _ rfl 0 rfl rfl Try.underlying28 rfl (by kernel_rfl) ?_); simp only [pA]) | ((with_reducible refine isSt 28 ?_); (refine L_sa H rfl rfl 28 _ _ rfl 0 rfl rfl (partsK ks0) rfl rfl (by kernel_rfl) ?_; clear H; intro wz HWwz H; simp only [szA] at H)))
  (exact ret_f2 H Try.results59 0 rfl rfl _ rfl Try.underlying28 rfl (by kernel_rfl) rfl (⟨by rw [HK.out.1, HK.out.2]; rfl, H.out.1⟩))
 ·rename ¬ a = b => hc
  have HK := kp (pair_diff (k := k) (m := m) (n := n) hc)
  have HEL := kp (expandF_len k.1 pwS (ordF a.1 b.1 m.1 n.1) 48)
  clear hc
  have HLT := kp (H.out.lt 0 rfl)
  generalize hE : expandF k.1 pwS (ordF a.1 b.1 m.1 n.1) 48 = E at *
  subst h3
  refine region_free H (tabS [(19, fun vQ _ => vQ = .agg (k.1.map V8).toArray), (20, fun vQ _ => vQ = .agg (a.1.map V8).toArray), (21, fun vQ _ => vQ = .agg (b.1.map V8).toArray), (22, fun vQ _ => vQ = .agg (m.1.map V8).toArray), (23, fun vQ _ => vQ = .agg (n.1.map V8).toArray), (24, fun vQ wQ => SlB wQ vQ (ordF a.1 b.1 m.1 n.1)), (25, fun vQ wQ => Tup48 w10.heap.size E vQ wQ), (18, fun vQ wQ => Tup48 w10.heap.size E vQ wQ), (26, fun vQ wQ => Sl48 w10.heap.size E vQ wQ), (27, fun vQ _ => vQ = .int .i64 0), (12, fun vQ wQ => Sl48 w10.heap.size E vQ wQ), (13, fun vQ _ => vQ = .int .i64 0)]) [] (tabS_out _ _ (by simp only [List.forall_mem_cons, mono_eqO, true_and]; exact ⟨(mono_SlBO _), (mono_Tup48 _ _), (mono_Tup48 _ _), (mono_Sl48 _ _), (mono_Sl48 _ _), by simp⟩)) 12 (by kernel_rfl) (by kernel_rfl) (by kernel_rfl) (by kernel_rfl) [] [] rfl rfl (by decide) (by decide) (by decide) trivial ?_
  simp only [List.take_succ_cons, List.take_zero]
  refine ⟨fun w_ o_ S_ => ?_, fun v19 => ?_⟩
  ·clear S_
   have H := kp (kK [0, 1, 2, 3, 4, 5] H o_)
   have HOX := kp o_
   clear o_
   go_wp2_with ((with_reducible refine isLd 25 ?_); (refine L_fv H rfl 25 _ rfl 5 rfl _ rfl _ rfl rfl Try.underlying25 rfl (by kernel_rfl) ?_); simp only [pA])
   exact kso
  simp only [pA]
  refine ⟨fun w_ o_ S_ => ?_, fun v20 => ?_⟩
  ·clear S_
   have H := kp (kK [0, 1, 2, 3, 4, 5] H o_)
   have HOX := kp o_
   clear o_
   go_wp2_with ((with_reducible refine isLd 23 ?_); (refine L_fv H rfl 23 _ rfl 4 rfl _ rfl _ rfl rfl Try.underlying23 rfl (by kernel_rfl) ?_); simp only [pA])
   exact kso
  simp only [pA]
  refine ⟨fun w_ o_ S_ => ?_, fun v21 => ?_⟩
  ·clear S_
   have H := kp (kK [0, 1, 2, 3, 4, 5] H o_)
   have HOX := kp o_
   clear o_
   go_wp2_with ((with_reducible refine isLd 23 ?_); (refine L_fv H rfl 23 _ rfl 3 rfl _ rfl _ rfl rfl Try.underlying23 rfl (by kernel_rfl) ?_); simp only [pA])
   exact kso
  simp only [pA]
  refine ⟨fun w_ o_ S_ => ?_, fun v22 => ?_⟩
  ·clear S_
   have H := kp (kK [0, 1, 2, 3, 4, 5] H o_)
   have HOX := kp o_
   clear o_
   go_wp2_with ((with_reducible refine isLd 26 ?_); (refine L_fv H rfl 26 _ rfl 2 rfl _ rfl _ rfl rfl Try.underlying26 rfl (by kernel_rfl) ?_); simp only [pA])
   exact kso
  simp only [pA]
  refine ⟨fun w_ o_ S_ => ?_, fun v23 => ?_⟩
  ·clear S_
   have H := kp (kK [0, 1, 2, 3, 4, 5] H o_)
   have HOX := kp o_
   clear o_
   go_wp2_with ((with_reducible refine isLd 26 ?_); (refine L_fv H rfl 26 _ rfl 1 rfl _ rfl _ rfl rfl Try.underlying26 rfl (by kernel_rfl) ?_); simp only [pA])
   exact kso
  simp only [pA]
  refine ⟨fun w_ o_ S_ => ?_, fun v24 => ?_⟩
  ·obtain rfl : v20 = .agg (a.1.map V8).toArray := hsR S_ 20 rfl
   obtain rfl : v21 = .agg (b.1.map V8).toArray := hsR S_ 21 rfl
   obtain rfl : v22 = .agg (m.1.map V8).toArray := hsR S_ 22 rfl
   obtain rfl : v23 = .agg (n.1.map V8).toArray := hsR S_ 23 rfl
   clear S_
   have H := kp (kK [0, 1, 2, 3, 4, 5] H o_)
   have HOX := kp o_
   clear o_
   go_wp2_with fail
   refine (HO.out _).mono ?_
   rintro e w2 ⟨v, rfl, hs, hx⟩
   have HSL := kp hs
   have HXC := kp hx
   clear hs hx
   go_wp2_with fail
   exact ⟨rfl, _, rfl, fun d hd => by cases hd; exact HSL.out, HXC.out⟩
  simp only [pA]
  refine ⟨fun w_ o_ S_ => ?_, fun v25 => ?_⟩
  ·obtain rfl : v19 = .agg (k.1.map V8).toArray := hsR S_ 19 rfl
   have h24 := kp (show SlB w_ v24 (ordF a.1 b.1 m.1 n.1) from hsR S_ 24 rfl)
   clear S_
   have H := kp (kK [0, 1, 2, 3, 4, 5] H o_)
   have HOX := kp o_
   clear o_
   go_wp2_with fail
   refine (HE.out _ _ h24.out).mono ?_
   rintro e w2 ⟨ad, rfl, hs, hx, hb⟩
   have HSL := kp hs
   have HXC := kp hx
   have HBL := kp hb
   clear hs hx hb
   go_wp2_with fail
   exact ⟨rfl, _, rfl, fun d hd => by cases hd; exact ⟨ad, rfl, HSL.out, fun b o m e => Nat.le_trans HOX.out.size (HBL.out b o m e)⟩, HXC.out⟩
  simp only [pA]
  refine ⟨fun w_ o_ S_ => ?_, fun v18 => ?_⟩
  ·have h25 := kp (show Tup48 w10.heap.size E v25 w_ from hsR S_ 25 rfl)
   clear S_ o_
   go_wp2_with fail
   exact ⟨rfl, _, rfl, fun d hd => by cases hd; exact h25.out, Ext.refl _⟩
  simp only [pA]
  refine ⟨fun w_ o_ S_ => ?_, fun v26 => ?_⟩
  ·have h18 := kp (show Tup48 w10.heap.size E v18 w_ from hsR S_ 18 rfl)
   clear S_
   have H := kp (kK [0, 1, 2, 3, 4, 5] H o_)
   have HOX := kp o_
   clear o_
   obtain ⟨ad, rfl, hs⟩ := h18.out
   have HSL := kp hs
   clear hs
   go_wp2_with fail
   exact ⟨rfl, _, rfl, fun d hd => by cases hd; exact ⟨ad, rfl, HSL.out⟩, Ext.refl _⟩
  simp only [pA]
  refine ⟨fun w_ o_ S_ => ?_, fun v27 => ?_⟩
  ·have h18 := kp (show Tup48 w10.heap.size E v18 w_ from hsR S_ 18 rfl)
   clear S_
   have H := kp (kK [0, 1, 2, 3, 4, 5] H o_)
   have HOX := kp o_
   clear o_
   obtain ⟨ad, rfl, hs⟩ := h18.out
   clear hs
   go_wp2_with fail
   exact kso
  simp only [pA]
  refine ⟨fun w_ o_ S_ => ?_, fun v12 => ?_⟩
  ·have h26 := kp (show Sl48 w10.heap.size E v26 w_ from hsR S_ 26 rfl)
   clear S_ o_
   go_wp2_with fail
   exact ⟨rfl, _, rfl, fun d hd => by cases hd; exact h26.out, Ext.refl _⟩
  simp only [pA]
  refine ⟨fun w_ o_ S_ => ?_, fun v13 => ?_⟩
  ·obtain rfl : v27 = .int .i64 0 := hsR S_ 27 rfl
   clear S_ o_
   go_wp2_with fail
   exact kso
  simp only [pA]
  clear H
  intro wd HOX H hfin
  obtain rfl : v19 = .agg (k.1.map V8).toArray := hfin 19 (by decide)
  obtain rfl : v20 = .agg (a.1.map V8).toArray := hfin 20 (by decide)
  obtain rfl : v21 = .agg (b.1.map V8).toArray := hfin 21 (by decide)
  obtain rfl : v22 = .agg (m.1.map V8).toArray := hfin 22 (by decide)
  obtain rfl : v23 = .agg (n.1.map V8).toArray := hfin 23 (by decide)
  have F24 := kp (show SlB wd v24 (ordF a.1 b.1 m.1 n.1) from hfin 24 (by decide))
  have F25 := kp (show Tup48 w10.heap.size E v25 wd from hfin 25 (by decide))
  have F18 := kp (show Tup48 w10.heap.size E v18 wd from hfin 18 (by decide))
  have F26 := kp (show Sl48 w10.heap.size E v26 wd from hfin 26 (by decide))
  obtain rfl : v27 = .int .i64 0 := hfin 27 (by decide)
  have F12 := kp (show Sl48 w10.heap.size E v12 wd from hfin 12 (by decide))
  obtain rfl : v13 = .int .i64 0 := hfin 13 (by decide)
  clear hfin
  simp only [List.drop_succ_cons, List.drop_zero]
  simp only [applyS] at H
  have HXN := kp (HOX.out.ext (Ext.refl w10) (fun g hg => by cases hg))
  obtain ⟨ad, rfl, hs, hb⟩ := F12.out
  obtain ⟨ge, oe, rfl⟩ := hs.ne (by intro e; rw [e] at HEL; exact absurd HEL.out (by decide))
  have HNE := kp (show ge ≠ g10 by have h1 := hb _ _ _ rfl; have h2 := HGg10.out; have h3 := HEg10.out.size; have h4 : g10 < w10.heap.size := HLT.out; omega)
  have HS0 := kp hs
  clear hs hb F12 F18 F25 F26 F24
  go_wp2_with ((with_reducible show wpList _ _ _ (Oper.mk _ (Op.call { callee := .builtin .copy, args := _, argTypes := _ }) _ _ _ _ :: _) _ _); (refine L_cpV H rfl _ _ 33 33 rfl 5 Try.underlying33 size5 0 rfl _ _ _ rfl _ rfl _ rfl _ rfl _ (HS0.out) (_) rfl ?_; clear H; intro wf HWwf H; simp only [szA] at H); simp only [pA])
  have HS1 := kp ((HS0.out.wrote HWwf.out HNE.out).from 16 32 32 (by rw [HEL.out]) (by decide))
  have HS2 := kp ((HS0.out.wrote HWwf.out HNE.out).from 32 16 16 (by rw [HEL.out]) (by decide))
  clear HS0
  refine region_free H (tabS [(32, fun vQ _ => vQ = .pointer (some ⟨g10, 16, none⟩)), (33, fun vQ _ => vQ = .slice (some ⟨g10, 16, none⟩) 16 16), (34, fun vQ _ => vQ = .slice (some ⟨ge, oe, none⟩) 48 48), (35, fun vQ _ => vQ = .slice (some ⟨ge, oe + 16, none⟩) 32 32)]) [] (tabS_out _ _ (by simp only [List.forall_mem_cons, mono_eqO, true_and]; simp)) 4 (by kernel_rfl) (by kernel_rfl) (by kernel_rfl) (by kernel_rfl) [] [] rfl rfl (by decide) (by decide) (by decide) trivial ?_
  simp only [List.take_succ_cons, List.take_zero]
  refine ⟨fun w_ o_ S_ => ?_, fun v32 => ?_⟩
  ·clear S_
   clear o_
   go_wp2_with fail
   exact kso
  simp only [pA]
  refine ⟨fun w_ o_ S_ => ?_, fun v33 => ?_⟩
  ·obtain rfl : v32 = .pointer (some ⟨g10, 16, none⟩) := hsR S_ 32 rfl
   clear S_ o_
   go_wp2_with fail
   exact kso
  simp only [pA]
  refine ⟨fun w_ o_ S_ => ?_, fun v34 => ?_⟩
  ·clear S_
   clear o_
   go_wp2_with fail
   exact kso
  simp only [pA]
  refine ⟨fun w_ o_ S_ => ?_, fun v35 => ?_⟩
  ·obtain rfl : v34 = .slice (some ⟨ge, oe, none⟩) 48 48 := hsR S_ 34 rfl
   clear S_ o_
   go_wp2_with fail
   exact kso
  simp only [pA]
  clear H
  intro wh HOX H hfin
  obtain rfl : v32 = .pointer (some ⟨g10, 16, none⟩) := hfin 32 (by decide)
  obtain rfl : v33 = .slice (some ⟨g10, 16, none⟩) 16 16 := hfin 33 (by decide)
  obtain rfl : v34 = .slice (some ⟨ge, oe, none⟩) 48 48 := hfin 34 (by decide)
  obtain rfl : v35 = .slice (some ⟨ge, oe + 16, none⟩) 32 32 := hfin 35 (by decide)
  clear hfin
  simp only [List.drop_succ_cons, List.drop_zero]
  simp only [applyS] at H
  have HXN := kp (HOX.out.ext (Ext.refl wf) (fun g hg => by cases hg))
  have HS3 := kp (HS1.out.ext HXN.out)
  have HS4 := kp (HS2.out.ext HXN.out)
  clear HS1 HS2
  go_wp2_with ((with_reducible show wpList _ _ _ (Oper.mk _ (Op.call { callee := .builtin .copy, args := _, argTypes := _ }) _ _ _ _ :: _) _ _); (refine L_cpV H rfl _ _ 33 33 rfl 5 Try.underlying33 size5 0 rfl _ _ _ rfl _ rfl _ rfl _ rfl _ (HS3.out) (_) rfl ?_; clear H; intro wi HWwi H; simp only [szA] at H); simp only [pA])
  have HS5 := kp (HS4.out.wrote HWwi.out HNE.out)
  clear HS3 HS4
  refine region_free H (tabS [(37, fun vQ _ => vQ = .pointer (some ⟨g10, 32, none⟩)), (38, fun vQ _ => vQ = .slice (some ⟨g10, 32, none⟩) 16 16), (39, fun vQ _ => vQ = .slice (some ⟨ge, oe, none⟩) 48 48), (40, fun vQ _ => vQ = .slice (some ⟨ge, oe + 32, none⟩) 16 16)]) [] (tabS_out _ _ (by simp only [List.forall_mem_cons, mono_eqO, true_and]; simp)) 4 (by kernel_rfl) (by kernel_rfl) (by kernel_rfl) (by kernel_rfl) [] [] rfl rfl (by decide) (by decide) (by decide) trivial ?_
  simp only [List.take_succ_cons, List.take_zero]
  refine ⟨fun w_ o_ S_ => ?_, fun v37 => ?_⟩
  ·clear S_
   clear o_
   go_wp2_with fail
   exact kso
  simp only [pA]
  refine ⟨fun w_ o_ S_ => ?_, fun v38 => ?_⟩
  ·obtain rfl : v37 = .pointer (some ⟨g10, 32, none⟩) := hsR S_ 37 rfl
   clear S_ o_
   go_wp2_with fail
   exact kso
  simp only [pA]
  refine ⟨fun w_ o_ S_ => ?_, fun v39 => ?_⟩
  ·clear S_
   clear o_
   go_wp2_with fail
   exact kso
  simp only [pA]
  refine ⟨fun w_ o_ S_ => ?_, fun v40 => ?_⟩
  ·obtain rfl : v39 = .slice (some ⟨ge, oe, none⟩) 48 48 := hsR S_ 39 rfl
   clear S_ o_
   go_wp2_with fail
   exact kso
  simp only [pA]
  clear H
  intro wj HOX H hfin
  obtain rfl : v37 = .pointer (some ⟨g10, 32, none⟩) := hfin 37 (by decide)
  obtain rfl : v38 = .slice (some ⟨g10, 32, none⟩) 16 16 := hfin 38 (by decide)
  obtain rfl : v39 = .slice (some ⟨ge, oe, none⟩) 48 48 := hfin 39 (by decide)
  obtain rfl : v40 = .slice (some ⟨ge, oe + 32, none⟩) 16 16 := hfin 40 (by decide)
  clear hfin
  simp only [List.drop_succ_cons, List.drop_zero]
  simp only [applyS] at H
  have HXN := kp (HOX.out.ext (Ext.refl wi) (fun g hg => by cases hg))
  have HS6 := kp (HS5.out.ext HXN.out)
  clear HS5
  go_wp2_with (first | ((with_reducible show wpList _ _ _ (Oper.mk _ (Op.call { callee := .builtin .copy, args := _, argTypes := _ }) _ _ _ _ :: _) _ _); (refine L_cpV H rfl _ _ 33 33 rfl 5 Try.underlying33 size5 0 rfl _ _ _ rfl _ rfl _ rfl _ rfl _ (HS6.out) (partsK (threeF E)) rfl ?_; clear H; intro wk HWwk H; simp only [szA] at H); simp only [pA]) | ((with_reducible refine isLd 28 ?_); (refine L_fa H rfl 28 _ rfl 0 rfl rfl Try.underlying28 rfl (by kernel_rfl) ?_); simp only [pA]) | ((with_reducible refine isSt 28 ?_); (refine L_sa H rfl rfl 28 _ _ rfl 0 rfl rfl (partsK (threeF E)) rfl rfl (by kernel_rfl) ?_; clear H; intro wl HWwl H; simp only [szA] at H)))
  (exact ret_f2 H Try.results59 0 rfl rfl _ rfl Try.underlying28 rfl (by kernel_rfl) rfl (⟨by rw [HK.out.1, HK.out.2]; rfl, H.out.1⟩))
set_option maxHeartbeats 1600000 in
theorem keys_any (s : Fw) (n : Vc 16) (w : World) :
  Calls Try.prog 41 #[.agg (cat (partsF s)).toArray, .agg (n.1.map V8).toArray] w fun e w' => e = .returned (.agg (cat (partsK (keysF s n))).toArray) ∧ Ext w w' := by
 have H := kp (Loc.start w)
 have HP := kp (pairwise_any s.master s.own s.peer s.mine n)
 have HK := kp (show keysF s n = pairF s.master s.own s.peer s.mine n from rfl)
 go_enter Try.func41, Try.ntmps41
 go_wp2_with (first | ((with_reducible refine isBx 2 32 ?_); (refine L_box H rfl 32 _ rfl (cat (partsF s)) rfl ?_); clear H; intro g2 w2 HGg2 HEg2 H; simp only [pA]) | ((with_reducible refine isBx 3 26 ?_); (refine L_box H rfl 26 _ rfl (cat ([Lf.v n])) rfl ?_); clear H; intro g3 w3 HGg3 HEg3 H; simp only [pA]) | ((with_reducible refine isAl 4 28 ?_); (refine L_alloc H rfl 28 rfl (cat (partsK ks0)) (fun _ _ => by kernel_rfl) ?_); clear H; intro g4 w4 HGg4 HEg4 H; simp only [pA]) | ((with_reducible refine isLd 25 ?_); (refine L_fv H rfl 25 _ rfl 2 rfl _ rfl _ rfl rfl Try.underlying25 rfl (by kernel_rfl) ?_); simp only [pA]) | ((with_reducible refine isLd 23 ?_); (refine L_fv H rfl 23 _ rfl 2 rfl _ rfl _ rfl rfl Try.underlying23 rfl (by kernel_rfl) ?_); simp only [pA]) | ((with_reducible refine isLd 26 ?_); (first | (refine L_fv H rfl 26 _ rfl 1 rfl _ rfl _ rfl rfl Try.underlying26 rfl (by kernel_rfl) ?_) | (refine L_fv H rfl 26 _ rfl 2 rfl _ rfl _ rfl rfl Try.underlying26 rfl (by kernel_rfl) ?_)); simp only [pA]) | (go_at_call 59; refine (HP.out _).mono ?_; rintro e wa ⟨rfl, hx⟩; replace H := kp (H.out.ext hx); have HXC := kp hx; clear hx) | ((with_reducible refine isAl 5 28 ?_); (refine L_alloc H rfl 28 rfl (cat (partsK ks0)) (fun _ _ => by kernel_rfl) ?_); clear H; intro g5 w5 HGg5 HEg5 H; simp only [pA]) | ((with_reducible refine isSt 28 ?_); (first | (refine L_sa H rfl rfl 28 _ _ rfl 0 rfl rfl (partsK _) rfl rfl (by kernel_rfl) ?_; clear H; intro w6 HWw6 H; simp only [szA] at H) | (refine L_sa H rfl rfl 28 _ _ rfl 1 rfl rfl (partsK _) rfl rfl (by kernel_rfl) ?_; clear H; intro w6 HWw6 H; simp only [ssA, szA] at H))) | ((with_reducible refine isLd 28 ?_); (refine L_fa H rfl 28 _ rfl 0 rfl rfl Try.underlying28 rfl (by kernel_rfl) ?_); simp only [pA]))
 (exact ret_f1 H Try.results41 1 rfl rfl Try.underlying28 rfl (by kernel_rfl) rfl (⟨by rw [HK.out], H.out.1⟩))
theorem foldl_set (off : Nat) : ∀ (vs : List Value) (k : Nat) (cs : Array Value), off + k + vs.length ≤ cs.size →
  ((vs.zipIdx k).foldl (fun cs (p : Value × Nat) => cs.setIfInBounds (off + p.2) p.1) cs).toList = cs.toList.take (off + k) ++ vs ++ cs.toList.drop (off + k + vs.length)
 | [], k, cs, _ => by simp
 | v :: vs, k, cs, h => by
  have h1 : off + k < cs.size := by simp at h; omega
  rw [List.zipIdx_cons, List.foldl_cons, foldl_set off vs (k + 1) _ (by simp at h ⊢; omega)]
  have e : (cs.setIfInBounds (off + k) v).toList = cs.toList.take (off + k) ++ (v :: cs.toList.drop (off + k + 1)) := by
   rw [Array.toList_setIfInBounds, List.set_eq_take_append_cons_drop, if_pos (by simpa using h1)]
  have hl : (cs.toList.take (off + k)).length = off + k := by simp; omega
  rw [e, show off + (k + 1) = (cs.toList.take (off + k)).length + 1 by omega, Nat.add_assoc (cs.toList.take (off + k)).length, List.take_length_add_append, List.drop_length_add_append, Nat.add_comm 1 vs.length]
  simp only [List.take_succ_cons, List.take_zero, List.drop_succ_cons, List.drop_drop, List.append_assoc, List.length_cons, List.cons_append, List.nil_append]
  rw [show off + k + 1 + vs.length = off + k + (vs.length + 1) by omega]
theorem fill_cat (place : Nat → Option (Nat × Nat)) (ps : List Lf) (i : Nat) (v : Value) (rest : List (Nat × Value)) (off k n : Nat) (qs : List Lf) (hv : v.cells = (cat qs).toArray) (hp : place i = some (off, lsum qs)) (hf : fat ps off = some k) (hn : lsum ((ps.drop k).take n) = lsum qs) (new : List Lf) (hnew : pput ps k n qs = new) :
  Instr.fill place (cat ps).toArray ((i, v) :: rest) = Instr.fill place (cat new).toArray rest := by
 have hfit := put_fits n hf
 rw [hn] at hfit
 have h1 : v.cells.size = lsum qs := by rw [hv, List.size_toArray, cat_len]
 conv => lhs; unfold Instr.fill
 simp only [hp, h1]
 rw [if_neg (by simp; omega)]
 congr 1
 have h2 := foldl_set off (cat qs) 0 (cat ps).toArray (by rw [cat_len]; simp; omega)
 rw [hv, ← hnew, ← cat_put n hf hn]
 apply Array.toList_inj.1
 rw [← Array.foldl_toList]
 simpa using h2
theorem run_build {P : Program} (t : TypeId) (parts : Array (Nat × Value)) (w : World) (zs : List Lf) (hz : (zeroValue t).run P w = .ok (.agg (cat zs).toArray) w) (fields : Array Field) (hu : P.underlying t = some (.struct fields)) (pl : Array (Nat × Nat)) (hp : (fields.mapM fun f => (do pure (f.offset, ← sizeOf f.type) : Sem (Nat × Nat))).run P w = .ok pl w)
  (new : List Lf) (hf : Instr.fill (pl[·]?) (cat zs).toArray parts.toList = some (cat new).toArray) : (Instr.build t parts).run P w = .ok (.agg (cat new).toArray) w := by
 unfold Instr.build
 simp only [Sem.run_bind, hz, Result.andThen_ok, run_underlying hu, hp, Value.cells, hf, Sem.run_pure]
theorem build_Fw (role : Int) (own peer : Vc 6) (master mine : Vc 16) (gid : Int) (gkey : Vc 16) (w : World) :
  (Instr.build 32 #[(0, .int .u8 role), (2, .agg (own.1.map V8).toArray), (3, .agg (peer.1.map V8).toArray), (4, .agg (master.1.map V8).toArray), (5, .agg (mine.1.map V8).toArray), (11, .agg (cat (partsG gid gkey)).toArray)]).run Try.prog w = .ok (.agg (cat (partsF { fw0 with role := role, own := own, peer := peer, master := master, mine := mine, gid := gid, gkey := gkey })).toArray) w := by
 refine run_build _ _ w (partsF fw0) (by kernel_rfl) _ Try.underlying32 #[(0, 1), (1, 1), (2, 6), (8, 6), (14, 16), (30, 16), (46, 16), (62, 1), (63, 1), (64, 1), (65, 48), (113, 17), (130, 1)] (by kernel_rfl) _ ?_
 show Instr.fill _ _ [_, _, _, _, _, _] = _
 rw [fill_cat _ _ 0 _ _ 0 0 1 [Lf.i .u8 role] rfl rfl rfl rfl _ rfl, fill_cat _ _ 2 _ _ 2 2 1 [Lf.v own] rfl rfl rfl rfl _ rfl, fill_cat _ _ 3 _ _ 8 3 1 [Lf.v peer] rfl rfl rfl rfl _ rfl, fill_cat _ _ 4 _ _ 14 4 1 [Lf.v master] rfl rfl rfl rfl _ rfl, fill_cat _ _ 5 _ _ 30 5 1 [Lf.v mine] rfl rfl rfl rfl _ rfl, fill_cat _ _ 11 _ _ 113 13 2 (partsG gid gkey) rfl rfl rfl rfl _ rfl]
 rfl
theorem build_M (kind count : Int) (nonce : Vc 16) (w : World) :
  (Instr.build 78 #[(0, .int .u8 kind), (1, .int .i64 count), (2, .agg (nonce.1.map V8).toArray)]).run Try.prog w = .ok (.agg (cat (partsM kind count nonce none 0 0)).toArray) w := by
 refine run_build _ _ w (partsM 0 0 (zv 16) none 0 0) (by kernel_rfl) _ Try.underlying78 #[(0, 1), (1, 1), (2, 16), (18, 1)] (by kernel_rfl) _ ?_
 show Instr.fill _ _ [_, _, _] = _
 rw [fill_cat _ _ 0 _ _ 0 0 1 [Lf.i .u8 kind] rfl rfl rfl rfl _ rfl, fill_cat _ _ 1 _ _ 1 1 1 [Lf.i .i64 count] rfl rfl rfl rfl _ rfl, fill_cat _ _ 2 _ _ 2 2 1 [Lf.v nonce] rfl rfl rfl rfl _ rfl]
 rfl
theorem build_M2 (kind count : Int) (w : World) :
  (Instr.build 78 #[(0, .int .u8 kind), (1, .int .i64 count)]).run Try.prog w = .ok (.agg (cat (partsM kind count (zv 16) none 0 0)).toArray) w := by
 refine run_build _ _ w (partsM 0 0 (zv 16) none 0 0) (by kernel_rfl) _ Try.underlying78 #[(0, 1), (1, 1), (2, 16), (18, 1)] (by kernel_rfl) _ ?_
 show Instr.fill _ _ [_, _] = _
 rw [fill_cat _ _ 0 _ _ 0 0 1 [Lf.i .u8 kind] rfl rfl rfl rfl _ rfl, fill_cat _ _ 1 _ _ 1 1 1 [Lf.i .i64 count] rfl rfl rfl rfl _ rfl]
 rfl
end Go.Proofs.Ytibncchobkaaiaa
