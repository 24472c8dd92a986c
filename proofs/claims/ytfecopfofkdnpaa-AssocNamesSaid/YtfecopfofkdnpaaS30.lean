/- Texts of this proof, put together: Av6, Si1, Si. -/
import Derived.Test.YtfecopfofkdnpaaS29
import Derived.Test.YtfecopfofkdnpaaS1
namespace Go.Proofs.Ytfecopfofkdnpaa
open Go.RowKit
theorem owe_len {B : Nat} {W : World} {ad : Option Addr} {n c : Nat} {l : List En} (h : OwE B W (.slice ad n c) l) : True ∧ n = l.length := by
 obtain ⟨h1, ⟨e, h2⟩ | ⟨g, cap, cur, e, hb, hg, hn, _⟩⟩ := h <;> cases e <;> simp_all
def Bods (B : Nat) (W : World) (s0 s1 s2 s3 s4 : Value) : Prop := OwB B W s0 bAu ∧ OwB B W s1 bRq ∧ OwB B W s2 bRe ∧ OwB B W s3 bAu ∧ OwB B W s4 bRq
theorem Bods.ext {B : Nat} {W W' : World} {s0 s1 s2 s3 s4 : Value} (h : Bods B W s0 s1 s2 s3 s4) (hx : Ext W W') : Bods B W' s0 s1 s2 s3 s4 :=
 ⟨owns_ext h.1 hx, owns_ext h.2.1 hx, owns_ext h.2.2.1 hx, owns_ext h.2.2.2.1 hx, owns_ext h.2.2.2.2 hx⟩
theorem Bods.wrote {B : Nat} {W W' : World} {s0 s1 s2 s3 s4 : Value} {g T : Nat} {cs : List Value} (h : Bods B W s0 s1 s2 s3 s4) (hw : Wrote W W' g) (hg : Lc W g T cs) (hT : 5 ≠ T) : Bods B W' s0 s1 s2 s3 s4 :=
 ⟨owns_wroteT h.1 hw hg hT, owns_wroteT h.2.1 hw hg hT, owns_wroteT h.2.2.1 hw hg hT, owns_wroteT h.2.2.2.1 hw hg hT, owns_wroteT h.2.2.2.2 hw hg hT⟩
set_option maxRecDepth 4000 in
set_option maxHeartbeats 1600000 in
theorem alive_any (w : World) : Calls Try.prog 21 #[] w fun e w' => e = .returned (.bool true) ∧ Ext w w' := by
 have H := kp (Loc.start w)
 have HNW := kp (fun w => show Calls Try.prog 10 #[.agg (ptB.map V8).toArray, .int .i64 1, .int .i64 1, .int .i64 100] w fun e w' => e = .returned (.tuple #[.agg (cat (partsA aX haX none 0 0)).toArray, .int .i64 0]) ∧ Ext w w' from new_any aX haX w)
 have HS1 := kp (fun w => show Calls Try.prog 32 #[.int .u8 1] w fun e w' => e = .returned (.agg ((stB 1).map V8).toArray) ∧ Ext w w' from sta_any 1 w)
 have HS2 := kp (fun w => show Calls Try.prog 32 #[.int .u8 2] w fun e w' => e = .returned (.agg ((stB 2).map V8).toArray) ∧ Ext w w' from sta_any 2 w)
 go_enter Try.func21, Try.ntmps21
 generalize hr3 : (Code.region 3 _ _ : Code) = R3
 generalize hr4 : (Code.region 4 _ _ : Code) = R4
 generalize hr5 : (Code.region 5 _ _ : Code) = R5
 generalize hr6 : (Code.region 6 _ _ : Code) = R6
 generalize hr7 : (Code.region 7 _ _ : Code) = R7
 generalize hr8 : (Code.region 8 _ _ : Code) = R8
 generalize hr9 : (Code.region 9 _ _ : Code) = R9
 generalize hr10 : (Code.region 10 _ _ : Code) = R10
 go_wp2_with (first | (go_at_call 30; refine (point_any _).mono ?_; rintro e wp ⟨rfl, hx⟩; replace H := kp (H.out.ext hx); have HXC := kp hx; clear hx) | (go_at_call 10; refine (HNW.out _).mono ?_; rintro e wn ⟨rfl, hx⟩; replace H := kp (H.out.ext hx); have HXC := kp hx; clear hx) | ((with_reducible refine isAl 1 26 ?_); (refine L_alloc H rfl 26 rfl (cat (partsA as0 rfl none 0 0)) (fun _ _ => by kernel_rfl) ?_); clear H; intro g1 w1 HGg1 HEg1 H; simp only [pA]) | ((with_reducible refine isSt 26 ?_); (refine L_sa H rfl rfl 26 _ _ rfl 0 rfl rfl (partsA aX haX none 0 0) rfl rfl (by kernel_rfl) ?_; clear H; intro w1b HWw1b H; simp only [szA] at H)) | (go_at_call 32; (with_reducible show Calls _ _ #[Value.int IntKind.u8 1] _ _); refine (HS1.out _).mono ?_; rintro e wp ⟨rfl, hx⟩; replace H := kp (H.out.ext hx); have HXC := kp hx; clear hx) | (go_at_call 32; (with_reducible show Calls _ _ #[Value.int IntKind.u8 2] _ _); refine (HS2.out _).mono ?_; rintro e wp ⟨rfl, hx⟩; replace H := kp (H.out.ext hx); have HXC := kp hx; clear hx) | (go_at_call 33; (with_reducible show Calls _ _ #[Value.agg (List.map V8 (stB 1#8)).toArray] _ _); refine (asks_any (stB 1#8) (hs6 1#8) _).mono ?_; rintro e wk1 ⟨p1, i1, j1, q1, m1, o1, r1, s1, u1, rfl, hb0, hb1, hb2, hx⟩; have HSZ := kp H.out.1.size; have HB1 := kp (And.intro (owns_weak hb0 HSZ.out) (And.intro (owns_weak hb1 HSZ.out) (owns_weak hb2 HSZ.out))); clear hb0 hb1 hb2 HSZ; replace H := kp (H.out.ext hx); have HXC := kp hx; clear hx; have HXK1 := kp HXC.out; clear HXC) | (go_at_call 33; (with_reducible show Calls _ _ #[Value.agg (List.map V8 (stB 2#8)).toArray] _ _); refine (asks_any (stB 2#8) (hs6 2#8) _).mono ?_; rintro e wk2 ⟨p2, i2, j2, q2, m2, o2, r2, s2, u2, rfl, hb0, hb1, hb2, hx⟩; have HSZ := kp H.out.1.size; have HB2 := kp (And.intro (owns_weak hb0 HSZ.out) (And.intro (owns_weak hb1 HSZ.out) (owns_weak hb2 HSZ.out))); clear hb0 hb1 hb2 HSZ; replace H := kp (H.out.ext hx); have HXC := kp hx; clear hx; have HXK2 := kp HXC.out; clear HXC) | ((with_reducible refine isAl 3 82 ?_); (refine L_alloc H rfl 82 rfl (cat (askZ)) (fun _ _ => by kernel_rfl) ?_); clear H; intro g3 w3 HGg3 HEg3 H; simp only [pA]) | ((with_reducible refine isAl 4 82 ?_); (refine L_alloc H rfl 82 rfl (cat (askZ)) (fun _ _ => by kernel_rfl) ?_); clear H; intro g4 w4 HGg4 HEg4 H; simp only [pA]) | ((with_reducible show wpList _ _ _ (Oper.mk none (Op.store 82 (.tmp 3) _) _ _ _ _ :: _) _ _); have HG3 := kp (H.out.at 1 rfl); ((with_reducible refine isSt 82 ?_); refine L_sa H rfl rfl 82 _ _ rfl 1 rfl rfl (askP (stB 1#8) (hs6 1#8) p1 i1 j1 q1 m1 o1 r1 s1 u1) rfl rfl (by kernel_rfl) ?_; clear H; intro w3b HWw3b H; simp only [ssA, szA] at H)) | ((with_reducible show wpList _ _ _ (Oper.mk none (Op.store 82 (.tmp 4) _) _ _ _ _ :: _) _ _); have HG4 := kp (H.out.at 0 rfl); ((with_reducible refine isSt 82 ?_); refine L_sa H rfl rfl 82 _ _ rfl 0 rfl rfl (askP (stB 2#8) (hs6 2#8) p2 i2 j2 q2 m2 o2 r2 s2 u2) rfl rfl (by kernel_rfl) ?_; clear H; intro w4b HWw4b H; simp only [szA] at H)))
 have HBD := kp (((show Bods w.heap.size w4 (.slice p1 i1 j1) (.slice q1 m1 o1) (.slice r1 s1 u1) (.slice p2 i2 j2) (.slice q2 m2 o2) from by
  have e1 := (HXC.out.trans HXK2.out).trans (HEg3.out.trans HEg4.out)
  have e2 := HEg3.out.trans HEg4.out
  exact ⟨owns_ext HB1.out.1 e1, owns_ext HB1.out.2.1 e1, owns_ext HB1.out.2.2 e1, owns_ext HB2.out.1 e2, owns_ext HB2.out.2.1 e2⟩).wrote HWw3b.out HG3.out (show 5 ≠ 82 from by decide)).wrote HWw4b.out HG4.out (show 5 ≠ 82 from by decide))
 have HO := kp (OwE.nil w.heap.size w4b)
 clear HB1 HB2 HG3 HG4 HWw3b HWw4b HXC HXK1 HXK2 HEg3 HEg4 HNW HS1 HS2
 subst hr3
 go_wp2_with (first | ((with_reducible refine isLd 26 ?_); (refine L_fa H rfl 26 _ rfl 2 rfl rfl Try.underlying26 rfl (by kernel_rfl) ?_); simp only [pA]) | ((with_reducible refine isLd 31 ?_); (refine L_fg H rfl 31 _ rfl 1 rfl _ rfl _ rfl (partsFr (reqH (stB 1#8) 0) (req_ok (hs6 1#8) k0.1 k0.2) q1 m1 o1) rfl Try.underlying31 rfl (by kernel_rfl) ?_); simp only [pA]) | (go_at_call 36; have HSZ := kp H.out.1.size; refine (st1_any _ _ _ _ _ _ _ _ _ HO.out HBD.out.2.1).mono ?_; rintro e wa ⟨ad2, n2, c2, rfl, ho, hx⟩; have HO2 := kp (owns_weak ho HSZ.out); have HBD2 := kp (HBD.out.ext hx); clear HO HBD ho HSZ; replace H := kp (H.out.ext hx); have HXC := kp hx; clear hx; have HG1 := kp (H.out.at 2 rfl)) | ((with_reducible refine isSt 26 ?_); refine L_sa H rfl rfl 26 _ _ rfl 2 rfl rfl (partsA aX haX ad2 n2 c2) rfl rfl (by kernel_rfl) ?_; clear H; intro wb3 HWwb3 H; simp only [ssA, szA] at H))
 have HO := kp (owns_wroteT HO2.out HWwb3.out HG1.out (show 39 ≠ 26 from by decide))
 have HBD := kp (HBD2.out.wrote HWwb3.out HG1.out (show 5 ≠ 26 from by decide))
 clear HO2 HBD2 HG1 HWwb3 HXC
 subst hr4
 go_wp2_with (first | ((with_reducible refine isLd 26 ?_); (refine L_fa H rfl 26 _ rfl 2 rfl rfl Try.underlying26 rfl (by kernel_rfl) ?_); simp only [pA]) | ((with_reducible refine isLd 31 ?_); (refine L_fg H rfl 31 _ rfl 1 rfl _ rfl _ rfl (partsFr (reqH (stB 1#8) 11) (req_ok (hs6 1#8) k11.1 k11.2) p1 i1 j1) rfl Try.underlying31 rfl (by kernel_rfl) ?_); simp only [pA]) | (go_at_call 36; have HSZ := kp H.out.1.size; refine (st2_any _ _ _ _ _ _ _ _ _ HO.out HBD.out.1).mono ?_; rintro e wa ⟨ad2, n2, c2, rfl, ho, hx⟩; have HO2 := kp (owns_weak ho HSZ.out); have HBD2 := kp (HBD.out.ext hx); clear HO HBD ho HSZ; replace H := kp (H.out.ext hx); have HXC := kp hx; clear hx; have HG1 := kp (H.out.at 2 rfl)) | ((with_reducible refine isSt 26 ?_); refine L_sa H rfl rfl 26 _ _ rfl 2 rfl rfl (partsA aX haX ad2 n2 c2) rfl rfl (by kernel_rfl) ?_; clear H; intro wb4 HWwb4 H; simp only [ssA, szA] at H))
 have HO := kp (owns_wroteT HO2.out HWwb4.out HG1.out (show 39 ≠ 26 from by decide))
 have HBD := kp (HBD2.out.wrote HWwb4.out HG1.out (show 5 ≠ 26 from by decide))
 clear HO2 HBD2 HG1 HWwb4 HXC
 subst hr5
 go_wp2_with (first | ((with_reducible refine isLd 26 ?_); (refine L_fa H rfl 26 _ rfl 2 rfl rfl Try.underlying26 rfl (by kernel_rfl) ?_); simp only [pA]) | ((with_reducible refine isLd 31 ?_); (refine L_fg H rfl 31 _ rfl 1 rfl _ rfl _ rfl (partsFr (reqH (stB 1#8) 0) (req_ok (hs6 1#8) k0.1 k0.2) q1 m1 o1) rfl Try.underlying31 rfl (by kernel_rfl) ?_); simp only [pA]) | (go_at_call 36; have HSZ := kp H.out.1.size; refine (st3_any _ _ _ _ _ _ _ _ _ HO.out HBD.out.2.1).mono ?_; rintro e wa ⟨ad2, n2, c2, rfl, ho, hx⟩; have HO2 := kp (owns_weak ho HSZ.out); have HBD2 := kp (HBD.out.ext hx); clear HO HBD ho HSZ; replace H := kp (H.out.ext hx); have HXC := kp hx; clear hx; have HG1 := kp (H.out.at 2 rfl)) | ((with_reducible refine isSt 26 ?_); refine L_sa H rfl rfl 26 _ _ rfl 2 rfl rfl (partsA aX haX ad2 n2 c2) rfl rfl (by kernel_rfl) ?_; clear H; intro wb5 HWwb5 H; simp only [ssA, szA] at H))
 have HO := kp (owns_wroteT HO2.out HWwb5.out HG1.out (show 39 ≠ 26 from by decide))
 have HBD := kp (HBD2.out.wrote HWwb5.out HG1.out (show 5 ≠ 26 from by decide))
 clear HO2 HBD2 HG1 HWwb5 HXC
 subst hr6
 go_wp2_with (first | ((with_reducible refine isLd 26 ?_); (refine L_fa H rfl 26 _ rfl 2 rfl rfl Try.underlying26 rfl (by kernel_rfl) ?_); simp only [pA]) | ((with_reducible refine isLd 31 ?_); (refine L_fg H rfl 31 _ rfl 0 rfl _ rfl _ rfl (partsFr (reqH (stB 2#8) 11) (req_ok (hs6 2#8) k11.1 k11.2) p2 i2 j2) rfl Try.underlying31 rfl (by kernel_rfl) ?_); simp only [pA]) | (go_at_call 36; have HSZ := kp H.out.1.size; refine (st4_any _ _ _ _ _ _ _ _ _ HO.out HBD.out.2.2.2.1).mono ?_; rintro e wa ⟨ad2, n2, c2, rfl, ho, hx⟩; have HO2 := kp (owns_weak ho HSZ.out); have HBD2 := kp (HBD.out.ext hx); clear HO HBD ho HSZ; replace H := kp (H.out.ext hx); have HXC := kp hx; clear hx; have HG1 := kp (H.out.at 2 rfl)) | ((with_reducible refine isSt 26 ?_); refine L_sa H rfl rfl 26 _ _ rfl 2 rfl rfl (partsA aX haX ad2 n2 c2) rfl rfl (by kernel_rfl) ?_; clear H; intro wb6 HWwb6 H; simp only [ssA, szA] at H))
 have HO := kp (owns_wroteT HO2.out HWwb6.out HG1.out (show 39 ≠ 26 from by decide))
 have HBD := kp (HBD2.out.wrote HWwb6.out HG1.out (show 5 ≠ 26 from by decide))
 clear HO2 HBD2 HG1 HWwb6 HXC
 subst hr7
 go_wp2_with (first | ((with_reducible refine isLd 26 ?_); (refine L_fa H rfl 26 _ rfl 2 rfl rfl Try.underlying26 rfl (by kernel_rfl) ?_); simp only [pA]) | ((with_reducible refine isLd 31 ?_); (refine L_fg H rfl 31 _ rfl 0 rfl _ rfl _ rfl (partsFr (reqH (stB 2#8) 0) (req_ok (hs6 2#8) k0.1 k0.2) q2 m2 o2) rfl Try.underlying31 rfl (by kernel_rfl) ?_); simp only [pA]) | (go_at_call 36; have HSZ := kp H.out.1.size; refine (st5_any _ _ _ _ _ _ _ _ _ HO.out HBD.out.2.2.2.2).mono ?_; rintro e wa ⟨ad2, n2, c2, rfl, ho, hx⟩; have HO2 := kp (owns_weak ho HSZ.out); have HBD2 := kp (HBD.out.ext hx); clear HO HBD ho HSZ; replace H := kp (H.out.ext hx); have HXC := kp hx; clear hx; have HG1 := kp (H.out.at 2 rfl)) | ((with_reducible refine isSt 26 ?_); refine L_sa H rfl rfl 26 _ _ rfl 2 rfl rfl (partsA aX haX ad2 n2 c2) rfl rfl (by kernel_rfl) ?_; clear H; intro wb7 HWwb7 H; simp only [ssA, szA] at H))
 have HO := kp (owns_wroteT HO2.out HWwb7.out HG1.out (show 39 ≠ 26 from by decide))
 have HBD := kp (HBD2.out.wrote HWwb7.out HG1.out (show 5 ≠ 26 from by decide))
 clear HO2 HBD2 HG1 HWwb7 HXC
 subst hr8
 go_wp2_with (first | ((with_reducible refine isLd 26 ?_); (refine L_fa H rfl 26 _ rfl 2 rfl rfl Try.underlying26 rfl (by kernel_rfl) ?_); simp only [pA]) | ((with_reducible refine isLd 31 ?_); (refine L_fg H rfl 31 _ rfl 1 rfl _ rfl _ rfl (partsFr (reqH (stB 1#8) 10) (req_ok (hs6 1#8) k10.1 k10.2) r1 s1 u1) rfl Try.underlying31 rfl (by kernel_rfl) ?_); simp only [pA]) | (go_at_call 38; have HSZ := kp H.out.1.size; refine (st6_any _ _ _ _ _ _ _ _ _ HO.out HBD.out.2.2.1).mono ?_; rintro e wa ⟨ad2, n2, c2, rfl, ho, hx⟩; have HO2 := kp (owns_weak ho HSZ.out); have HBD2 := kp (HBD.out.ext hx); clear HO HBD ho HSZ; replace H := kp (H.out.ext hx); have HXC := kp hx; clear hx; have HG1 := kp (H.out.at 2 rfl)) | ((with_reducible refine isSt 26 ?_); refine L_sa H rfl rfl 26 _ _ rfl 2 rfl rfl (partsA aX haX ad2 n2 c2) rfl rfl (by kernel_rfl) ?_; clear H; intro wb8 HWwb8 H; simp only [ssA, szA] at H))
 have HO := kp (owns_wroteT HO2.out HWwb8.out HG1.out (show 39 ≠ 26 from by decide))
 have HBD := kp (HBD2.out.wrote HWwb8.out HG1.out (show 5 ≠ 26 from by decide))
 clear HO2 HBD2 HG1 HWwb8 HXC
 subst hr9
 go_wp2_with (first | ((with_reducible refine isLd 26 ?_); (refine L_fa H rfl 26 _ rfl 2 rfl rfl Try.underlying26 rfl (by kernel_rfl) ?_); simp only [pA]) | ((with_reducible refine isLd 31 ?_); (refine L_fg H rfl 31 _ rfl 0 rfl _ rfl _ rfl (partsFr (reqH (stB 2#8) 0) (req_ok (hs6 2#8) k0.1 k0.2) q2 m2 o2) rfl Try.underlying31 rfl (by kernel_rfl) ?_); simp only [pA]) | (go_at_call 36; have HSZ := kp H.out.1.size; refine (st7_any _ _ _ _ _ _ _ _ _ HO.out HBD.out.2.2.2.2).mono ?_; rintro e wa ⟨ad2, n2, c2, rfl, ho, hx⟩; have HO2 := kp (owns_weak ho HSZ.out); have HBD2 := kp (HBD.out.ext hx); clear HO HBD ho HSZ; replace H := kp (H.out.ext hx); have HXC := kp hx; clear hx; have HG1 := kp (H.out.at 2 rfl)) | ((with_reducible refine isSt 26 ?_); refine L_sa H rfl rfl 26 _ _ rfl 2 rfl rfl (partsA aX haX ad2 n2 c2) rfl rfl (by kernel_rfl) ?_; clear H; intro wb9 HWwb9 H; simp only [ssA, szA] at H))
 have HO := kp (owns_wroteT HO2.out HWwb9.out HG1.out (show 39 ≠ 26 from by decide))
 have HBD := kp (HBD2.out.wrote HWwb9.out HG1.out (show 5 ≠ 26 from by decide))
 clear HO2 HBD2 HG1 HWwb9 HXC
 obtain ⟨t2, e2⟩ := owe_len HO.out
 subst e2
 subst hr10
 go_wp2_with ((with_reducible refine isLd 24 ?_); (refine L_f1 H rfl 24 _ rfl 2 rfl _ rfl _ rfl _ rfl Try.underlying24 rfl ?_); simp only [pA])
 go_ret
 exact ⟨rfl, H.out.1⟩
theorem sil_find {a : As} {l : List En} (h : OkL a l) (p : En → Bool) {x : En} (hx : x ∈ l) : findE a (l.filter p) x.addr = if p x then (x, true) else (en0, false) := by
 rw [findE_look, (valid_iff a _).2 (ok_sub h List.filter_sublist), if_pos rfl, look_filter p h.sorted, look_mem h.sorted hx]
 show (match (if p x then some x else none) with | some e => (e, true) | none => (en0, false)) = _
 cases p x <;> rfl
theorem fil_two (l : List En) (p : En → Bool) : (l.filter p).length + (l.filter fun s => !p s).length = l.length := by
 induction l with
 | nil => rfl
 | cons x t ih =>
  cases h : p x <;> simp [h] <;> omega
theorem fil_at {l : List En} {j : Nat} {x : En} (h : l[j]? = some x) (p : En → Bool) (hp : p x = true) : (l.filter p)[((l.take j).filter p).length]? = some x := by
 have h1 : l = l.take j ++ x :: l.drop (j + 1) := by
  have h3 := (List.getElem?_eq_some_iff.1 h)
  obtain ⟨hlt, he⟩ := h3
  rw [← he, ← List.drop_eq_getElem_cons hlt, List.take_append_drop]
 have h2 : l.filter p = (l.take j).filter p ++ x :: (l.drop (j + 1)).filter p := by
  conv => lhs; rw [h1]
  rw [List.filter_append, List.filter_cons, if_pos hp]
 rw [h2, List.getElem?_append_right (Nat.le_refl _), Nat.sub_self]
 rfl
theorem frs_at {B : Nat} {outs : List Fm} {v : Value} {w : World} (h : FrS B outs v w) (hok : ∀ o ∈ outs, o.1.Ok) : ∃ ad n c, v = .slice ad n c ∧ n = outs.length ∧ n ≤ c ∧ ∀ (k : Nat) o, outs[k]? = some o → ∃ b bd bn bc, ad = some ⟨b, 0, none⟩ ∧ b < w.heap.size ∧ w.rangeAt b (k * 41) (cellsF o.1 (.slice bd bn bc)) ∧ OwB B w (.slice bd bn bc) o.2 := by
 obtain ⟨vs, h1, h2, h3⟩ := h
 have hz : (outs.zip vs).length = outs.length := by rw [List.length_zip, h1, Nat.min_self]
 obtain ⟨q1, ⟨e, q2⟩ | ⟨g, c, cur, e, hb, hg, hn, hc, hs, ht⟩⟩ := h2
 ·refine ⟨none, 0, 0, e, by rw [← hz, q2], Nat.le_refl _, fun k o ho => ?_⟩
  have : outs = [] := List.length_eq_zero_iff.1 (by rw [← hz, q2])
  rw [this] at ho; cases ho
 ·refine ⟨some ⟨g, 0, none⟩, _, c, e, hz, hn, fun k o ho => ?_⟩
  have hk := (List.getElem?_eq_some_iff.1 ho).1
  obtain ⟨u, hu⟩ : ∃ u, vs[k]? = some u := ⟨vs[k]'(by omega), by simp⟩
  have hzk : (outs.zip vs)[k]? = some (o, u) := by rw [List.getElem?_zip_eq_some]; exact ⟨ho, hu⟩
  have hm := List.mem_of_getElem? hzk
  have hbo := h3 _ hm
  obtain ⟨bd, bn, bc, rfl⟩ := owns_form2 hbo
  refine ⟨g, bd, bn, bc, rfl, (Array.getElem?_eq_some_iff.1 hg).1, ?_, hbo⟩
  have hlc : Lc w g 31 cur.toList := by unfold Lc; rw [Array.toArray_toList]; exact hg
  refine hlc.range ?_
  have hlen : ∀ p ∈ outs.zip vs, (cellsF p.1.1 p.2).length = 41 := fun p hp => by
   have hp1 := hok p.1 (List.of_mem_zip hp).1
   have hp3 := h3 p hp
   exact len_F hp1 p.2
  have h41 : (cellsF o.1 (.slice bd bn bc)).length = 41 := hlen _ hm
  have hpart := flatMap_at (f := fun p : Fm × Value => cellsF p.1.1 p.2) (sz := 41) _ hlen k _ hzk
  rw [h41]
  rw [← ht] at hpart
  rw [List.drop_take, List.take_take, Nat.min_eq_left (by rw [hz]; have : (k + 1) * 41 ≤ outs.length * 41 := Nat.mul_le_mul_right _ hk; omega)] at hpart
  exact hpart
theorem L_x1 {P : Program} {ops : Array Oper} {rest : List Oper} {o : Oper} {a : Act} {w : World} {Q : Exit → Act → World → Prop} (hgd : Region.wanted o (yielded ops a.tmps) = true) (ty : TypeId) (x : Operand) (ho : o.op = .load ty x) (g off : Nat)
  (hx : a.eval x = .pointer (some ⟨g, off, none⟩)) (v : Value) (hc : w.cell? ⟨g, off, none⟩ = some v) {d : TypeDesc} (hu : P.underlying ty = some d) (hd : d.isRow = false)
  (h : wpList P ops Q rest (a.put o.dst v) w) : wpList P ops Q (o :: rest) a w := by
 refine wpList_step fun K hK => ?_
 rw [if_pos hgd]
 unfold Oper.wp execOp
 simp only [ho, hx, Instr.loadAt, Instr.sureAddr, Sem.run_bind, Sem.run_pure, Result.andThen_ok, run_loadVar_cell w g off ty v hc hu hd]
 exact hK _ _ h
theorem qz_r {P : Program} {o : Oper} {a : Act} {w : World} {x0 : Xtra} {K : Act → Prop} (ty : TypeId) (x : Operand) (ho : o.op = .load ty x) (g off : Nat) (hx : a.eval x = .pointer (some ⟨g, off, none⟩)) (ds : List Value) (hr : ∀ w', Ext w w' → w'.rangeAt g off ds) {d : TypeDesc} (hu : P.underlying ty = some d) (hd : d.isRow = true) (hz : (P.info? ty).map (·.size) = some ds.length)
  (h : K (a.put o.dst (.agg ds.toArray))) : o.quiet P a (Cx w x0) K := by
 refine ⟨_, fun w' hw => ?_, h⟩
 unfold Oper.quietAt execOp
 simp only [ho, hx, Instr.loadAt, Instr.sureAddr, Sem.run_bind, Sem.run_pure, Result.andThen_ok, run_loadVar_mid w' g off ty ds d (hr w' (cx_ext hw)) hu hd hz]
 exact ⟨rfl, rfl⟩
theorem range_part {w : World} {b o : Nat} {ps : List Lf} (h : w.rangeAt b o (cat ps)) {off i : Nat} {p : Lf} (hf : fat ps off = some i) (hp : nth ps i = some p) : w.rangeAt b (o + off) p.cs := by
 intro j v hv
 have h1 := cat_part hf hp
 have hj := (List.getElem?_eq_some_iff.1 hv).1
 rw [← h1, List.getElem?_take, if_pos hj, List.getElem?_drop] at hv
 have := h (off + j) v hv
 rw [show o + off + j = o + (off + j) by omega]
 exact this
theorem range_cell {w : World} {b o : Nat} {ps : List Lf} (h : w.rangeAt b o (cat ps)) {off i : Nat} {v : Value} {hh : [v].length = 1} {oo : [v].all (·.oneCell') = true} (hf : fat ps off = some i) (hp : nth ps i = some ⟨1, [v], hh, oo⟩) : w.cell? ⟨b, o + off, none⟩ = some v :=
 h off v (cat_cell hf hp)
theorem hanE {a : As} {E : Int} (hE : E ≠ 0) {w w' : World} {e : Ending} (h : HanR a ([], [], E) w e w') : ∃ ad n c va vc, e = .returned (.tuple #[.agg (cat (partsA as0 rfl ad n c)).toArray, .slice va 0 vc, .int .i64 E]) ∧ OwE w.heap.size w' (.slice ad n c) [] ∧ Ext w w' := by
 obtain ⟨ad, n, c, v, rfl, h1, h2, h3⟩ := h
 obtain ⟨va, vc, rfl⟩ := frs_nil h2
 refine ⟨ad, n, c, va, vc, ?_, h1, h3⟩
 show Ending.returned (.tuple #[.agg (cellsA (if E = 0 then a else as0) (.slice ad n c)).toArray, _, .int .i64 E]) = _
 rw [if_neg hE, cat_A as0 rfl]
theorem neEnS (w : World) (x : En) (hx : x.Ok) (h6 : x.addr.length = 6) : (binOp .neq 39 (.agg (cat (partsE x h6)).toArray) (.agg (cat (partsE x h6)).toArray)).run Try.prog w = .ok (.bool false) w := by
 rw [run_neq_struct, ← cat_E x h6, eqEnIn w x x hx hx]
 simp [Result.andThen]
theorem fil_len {l : List En} {j : Nat} {x : En} (h : l[j]? = some x) (p : En → Bool) : ((l.take (j + 1)).filter p).length = ((l.take j).filter p).length + if p x then 1 else 0 := by
 rw [fil_snoc h p, List.length_append]
 cases p x <;> rfl
def SilR (l : List En) (gone : En → Bool) (w wT : World) (b6 b2 : Bk) (vs : Tmp → Value) (wr : World) : Prop :=
 ∃ j : Nat, j ≤ l.length ∧ vs 10 = .int .i64 j ∧ vs 9 = .int .i64 (((l.take j).filter gone).length : Nat) ∧ Kp (Loc w wr [b6, b2]) ∧ Kp (Ext wT wr)
set_option maxRecDepth 10000 in
set_option maxHeartbeats 12800000 in
theorem assocSilence_walk (a : As) (ha : a.own.length = 6) (v : Value) (l : List En) (hl : ∀ x ∈ l, x.Ok) (hn : l.length ≤ 9223372036854775807) (now : Int) (w : World) (hsl : SlT 11 cellsE w v l) :
  Calls Try.prog 4 #[.agg (cellsA a v).toArray, .int .i64 now] w fun e w' => e = .returned (.bool true) ∧ Ext w w' := by
 have HSL := kp hsl
 have HLO := kp hl
 have HL6 := kp (show L6 l from fun x hx => (hl x hx).l)
 have H := kp (Loc.start w)
 have HT0 := fun hn9 w' hs => tick_any a ha v l HL6.out hn9 now w' hs
 obtain ⟨ad, n, c, rfl, hnl, hcap, hat⟩ := hsl
 have HAT := kp hat; have HNL := kp hnl
 have hnn : n ≤ 9223372036854775807 := by omega
 rw [cat_A a ha] at HT0
 rw [cat_A a ha]
 clear hat hl hcap
 by_cases h100 : n ≤ 100
 ·have HT := kp (HT0 (by omega))
  clear HT0 hnl hn
  cases hv : validA a l with
  | false =>
   have HR := kp (show tickF a l now = ([], [], 8) by unfold tickF; rw [hv]; rfl)
   rw [HR.out] at HT
   clear hv
   go_enter Try.func4, Try.ntmps4
   go_wp2_with (first | ((with_reducible refine isBx 2 26 ?_); (refine L_box H rfl 26 _ rfl (cat (partsA a ha ad n c)) rfl ?_); clear H; intro g2 w2 HGg2 HEg2 H; simp only [pA]) | (go_at_call 21; refine (alive_any _).mono ?_; rintro e wv ⟨rfl, hx⟩; replace H := kp (H.out.ext hx); have HXC := kp hx; clear hx) | ((with_reducible refine isLd 24 ?_); (refine L_f1 H rfl 24 _ rfl 0 rfl _ rfl _ rfl _ rfl Try.underlying24 rfl ?_); simp only [pA]) | ((with_reducible refine isLd 26 ?_); (refine L_fa H rfl 26 _ rfl 0 rfl rfl Try.underlying26 rfl (by kernel_rfl) ?_); simp only [pA]) | (go_at_call 22; refine (HT.out _ (HSL.out.ext H.out.1)).mono ?_; intro e wt hrr; obtain ⟨ad2, n2, c2, va, vc, rfl, ho, hx⟩ := hanE (by decide) hrr; clear hrr ho; replace H := kp (H.out.ext hx); have HXC := kp hx; clear hx) | ((with_reducible refine isAl 6 26 ?_); (refine L_alloc H rfl 26 rfl (cat (partsA as0 rfl none 0 0)) (fun _ _ => by kernel_rfl) ?_); clear H; intro g6 w6 HGg6 HEg6 H; simp only [pA]) | ((with_reducible refine isSt 26 ?_); refine L_sa H rfl rfl 26 _ _ rfl 0 rfl rfl (partsA as0 rfl ad2 n2 c2) rfl rfl (by kernel_rfl) ?_; clear H; intro w6b HWw6b H; simp only [szA] at H))
   go_ret
   exact ⟨rfl, H.out.1⟩
  | true =>
   cases hm : momentF now with
   | false =>
    have HR := kp (show tickF a l now = ([], [], 2) by unfold tickF; rw [hv, hm]; rfl)
    rw [HR.out] at HT
    clear hv hm
    go_enter Try.func4, Try.ntmps4
    go_wp2_with (first | ((with_reducible refine isBx 2 26 ?_); (refine L_box H rfl 26 _ rfl (cat (partsA a ha ad n c)) rfl ?_); clear H; intro g2 w2 HGg2 HEg2 H; simp only [pA]) | (go_at_call 21; refine (alive_any _).mono ?_; rintro e wv ⟨rfl, hx⟩; replace H := kp (H.out.ext hx); have HXC := kp hx; clear hx) | ((with_reducible refine isLd 24 ?_); (refine L_f1 H rfl 24 _ rfl 0 rfl _ rfl _ rfl _ rfl Try.underlying24 rfl ?_); simp only [pA]) | ((with_reducible refine isLd 26 ?_); (refine L_fa H rfl 26 _ rfl 0 rfl rfl Try.underlying26 rfl (by kernel_rfl) ?_); simp only [pA]) | (go_at_call 22; refine (HT.out _ (HSL.out.ext H.out.1)).mono ?_; intro e wt hrr; obtain ⟨ad2, n2, c2, va, vc, rfl, ho, hx⟩ := hanE (by decide) hrr; clear hrr ho; replace H := kp (H.out.ext hx); have HXC := kp hx; clear hx) | ((with_reducible refine isAl 6 26 ?_); (refine L_alloc H rfl 26 rfl (cat (partsA as0 rfl none 0 0)) (fun _ _ => by kernel_rfl) ?_); clear H; intro g6 w6 HGg6 HEg6 H; simp only [pA]) | ((with_reducible refine isSt 26 ?_); refine L_sa H rfl rfl 26 _ _ rfl 0 rfl rfl (partsA as0 rfl ad2 n2 c2) rfl rfl (by kernel_rfl) ?_; clear H; intro w6b HWw6b H; simp only [szA] at H))
    go_ret
    exact ⟨rfl, H.out.1⟩
   | true =>
    have HR := kp (show tickF a l now = (l.filter (fun s => !goneE a now s), (l.filter (goneE a now)).map (fun s => byeF a s.addr 12 4), 0) by unfold tickF; rw [hv, hm]; rfl)
    rw [HR.out] at HT
    have hok := (valid_iff a l).1 hv
    have HOK := kp hok
    have HEN := kp (fun (x : En) (hx : x ∈ l) => moment_iff.1 (ent_seen_range (hok.ent x hx)))
    have hmo := moment_iff.1 hm
    have hid : 1 ≤ a.idle ∧ a.idle ≤ 1073741824 := by
     have := hok.head
     simp only [headF, inF, Bool.and_eq_true, decide_eq_true_eq] at this
     exact this.1.2
    clear hv hm hok
    go_enter Try.func4, Try.ntmps4
    generalize hr7 : (Code.region 7 _ _ : Code) = R7
    go_wp2_with (first | ((with_reducible refine isBx 2 26 ?_); (refine L_box H rfl 26 _ rfl (cat (partsA a ha ad n c)) rfl ?_); clear H; intro g2 w2 HGg2 HEg2 H; simp only [pA]) | (go_at_call 21; refine (alive_any _).mono ?_; rintro e wv ⟨rfl, hx⟩; replace H := kp (H.out.ext hx); have HXC := kp hx; clear hx) | ((with_reducible refine isLd 24 ?_); (refine L_f1 H rfl 24 _ rfl 0 rfl _ rfl _ rfl _ rfl Try.underlying24 rfl ?_); simp only [pA]) | ((with_reducible refine isLd 26 ?_); (refine L_fa H rfl 26 _ rfl 0 rfl rfl Try.underlying26 rfl (by kernel_rfl) ?_); simp only [pA]) | (go_at_call 22; refine (HT.out _ (HSL.out.ext H.out.1)).mono ?_; intro e wt hrr; obtain ⟨ad2, n2, c2, vo, rfl, ho, hf, hx⟩ := han1 (ha := ha) hrr; clear hrr; have HO := kp ho; have HF := kp hf; clear ho hf; replace H := kp (H.out.ext hx); have HXC := kp hx; clear hx) | ((with_reducible refine isAl 6 26 ?_); (refine L_alloc H rfl 26 rfl (cat (partsA as0 rfl none 0 0)) (fun _ _ => by kernel_rfl) ?_); clear H; intro g6 w6 HGg6 HEg6 H; simp only [pA]) | ((with_reducible refine isSt 26 ?_); refine L_sa H rfl rfl 26 _ _ rfl 0 rfl rfl (partsA a ha ad2 n2 c2) rfl rfl (by kernel_rfl) ?_; clear H; intro w6b HWw6b H; simp only [szA] at H))
    have HE6 := kp (ext_wrote HEg6.out HWw6b.out (Nat.le_of_eq HGg6.out.symm))
    have HSE := kp ((HO.out.ext HE6.out).slt (HL6.out.sub List.filter_sublist))
    obtain ⟨va, vn, vc, rfl, hvn, hvc, hfr⟩ := frs_at (HF.out.ext HE6.out) (fun o ho => by
     obtain ⟨s, hs, rfl⟩ := List.mem_map.1 ho
     exact msg_ok ha (HL6.out s (List.mem_filter.1 hs).1) (show (0:Int) ≤ 12 by decide) (by decide))
    have HFR := kp hfr
    have HVN := kp hvn
    have HVC := kp hvc
    rw [List.length_map] at HVN
    have HN2 := kp (owe_len HO.out).2
    clear hfr hvn hvc HO HF HE6 HR HT HEg6 HWw6b HGg6 HEg2 HGg2
    subst hr7
    go_wp2_with fail
    refine wp_loopC (9 :: 10 :: 11 :: 12 :: 13 :: 14 :: 15 :: 41 :: 42 :: 43 :: 44 :: 45 :: 46 :: 47 :: 48 :: 49 :: 50 :: 51 :: 52 :: 53 :: 54 :: 55 :: 56 :: 57 :: 58 :: 59 :: 60 :: 61 :: 62 :: 63 :: 64 :: 65 :: 66 :: 67 :: 68 :: 69 :: 70 :: 71 :: 72 :: 73 :: 74 :: 75 :: 76 :: 77 :: 78 :: 79 :: 80 :: 81 :: 82 :: 83 :: 84 :: 85 :: 86 :: 87 :: 88 :: 89 :: 90 :: 91 :: 92 :: 93 :: 94 :: 95 :: 96 :: 97 :: 98 :: 99 :: 100 :: 101 :: 102 :: 103 :: 104 :: 105 :: 106 :: 107 :: 108 :: 109 :: 110 :: 111 :: 112 :: 113 :: 114 :: 115 :: 116 :: 117 :: 118 :: 119 :: []) (SilR l (goneE a now) w w6b (g6, 26, cat (partsA a ha ad2 n2 c2)) (g2, 26, cat (partsA a ha ad n c))) (fun vs _ => n - (intOf (vs 10)).toNat) (by kernel_rfl) ⟨0, Nat.zero_le _, rfl, rfl, H, kp (Ext.refl _)⟩ ?_
    clear H
    rintro vs wr ⟨j, hj, q10, q9, H, HXT⟩
    simp only [putMany, List.setIfInBounds_toArray, List.set_cons_zero, List.set_cons_succ]
    rw [q10, q9]
    clear q10 q9
    generalize hr16 : (Code.region 16 _ _ : Code) = R16
    by_cases hlt : j < n
    ·obtain ⟨x, hx⟩ : ∃ x, l[j]? = some x := ⟨l[j]'(by rw [← HNL.out]; exact hlt), by simp⟩
     obtain ⟨b, off, rfl, hb, hr⟩ := HAT.out j x hx
     have hxm := List.mem_of_getElem? hx
     have HXA := kp (HL6.out x hxm)
     have hse := HEN.out x hxm
     have HR3 := kp (show wr.rangeAt b (off + j * 11) (cat (partsE x HXA.out)) from cat_E x HXA.out ▸ rangeAt_ext hr hb H.out.1)
     have HZX := kp (show (Try.prog.info? 39).map (·.size) = some (cat (partsE x HXA.out)).length by rw [cat_len]; kernel_rfl)
     have HG := kp (fil_len hx (goneE a now))
     have HAG := kp (fun hp => fil_at hx (goneE a now) hp)
     have HJ := kp (show ((l.take j).filter (goneE a now)).length ≤ j from Nat.le_trans (List.length_filter_le _ _) (List.length_take_le _ _))
     have HFD := kp (fun w' (hx : Ext w6b w') => find_any a ha (.slice ad2 n2 c2) (l.filter fun s => !goneE a now s) (HL6.out.sub List.filter_sublist) (by have h1 := List.length_filter_le (fun s => !goneE a now s) l; have h2 := HNL.out; omega) x.addr HXA.out w' (HSE.out.ext hx))
     rw [cat_A a ha, sil_find HOK.out _ hxm] at HFD
     have HXO := kp (HLO.out x hxm)
     clear hb hr hx hxm
     generalize ((l.take j).filter (goneE a now)).length = k at *
     by_cases hg : x.seen + a.idle ≤ now
     ·have HGE := kp (show goneE a now x = true from decide_eq_true hg)
      rw [HGE.out, if_neg (by simp), show cellsE en0 = cat (partsE en0 rfl) from cat_E en0 rfl] at HFD
      have hdd : decide (now - x.seen < a.idle) = false := decide_eq_false (by omega)
      go_wp2_with (first | ((with_reducible refine isLd 24 ?_); (refine L_f1 H rfl 24 _ rfl 1 rfl _ rfl _ rfl _ rfl Try.underlying24 rfl ?_); simp only [pA]) | ((with_reducible refine isLd 39 ?_); (refine wpList_load_midG (by kernel_rfl) 39 _ rfl (b) (off + j * 11) rfl (cat (partsE x HXA.out)) _ (HR3.out) Try.underlying39 rfl (HZX.out) ?_); simp only [pA]) | ((with_reducible refine isAl 11 39 ?_); (refine L_alloc H rfl 39 rfl (cat (partsE en0 rfl)) (fun _ _ => by kernel_rfl) ?_); clear H; intro g11 w11 HGg11 HEg11 H; simp only [pA]) | ((with_reducible show wpList _ _ _ (Oper.mk none (Op.store 39 (.tmp 11) _) _ _ _ _ :: _) _ _); ((with_reducible refine isSt 39 ?_); refine L_sa H rfl rfl 39 _ _ rfl 0 rfl rfl (partsE x HXA.out) rfl rfl (by kernel_rfl) ?_; clear H; intro w11b HWw11b H; simp only [szA] at H)) | ((with_reducible show wpList _ _ _ (Oper.mk none (Op.store 39 (.tmp 12) _) _ _ _ _ :: _) _ _); ((with_reducible refine isSt 39 ?_); refine L_sa H rfl rfl 39 _ _ rfl 0 rfl rfl (partsE en0 rfl) rfl rfl (by kernel_rfl) ?_; clear H; intro w12b HWw12b H; simp only [szA] at H)) | ((with_reducible refine isLd 26 ?_); (refine L_fa H rfl 26 _ rfl 1 rfl rfl Try.underlying26 rfl (by kernel_rfl) ?_); simp only [pA]) | ((with_reducible refine isLd 23 ?_); (refine L_fv H rfl 23 _ rfl 0 rfl _ rfl _ rfl rfl Try.underlying23 rfl (by kernel_rfl) ?_); simp only [pA]) | (go_at_call 12; have HX11 := kp (HXT.out.trans (ext_wrote HEg11.out HWw11b.out (Nat.le_of_eq HGg11.out.symm))); refine (HFD.out _ HX11.out).mono ?_; rintro e wq ⟨rfl, hx⟩; replace H := kp (H.out.ext hx); have HXC := kp hx; clear hx) | ((with_reducible refine isAl 12 39 ?_); (refine L_alloc H rfl 39 rfl (cat (partsE en0 rfl)) (fun _ _ => by kernel_rfl) ?_); clear H; intro g12 w12 HGg12 HEg12 H; simp only [pA]) | ((with_reducible refine isLd 3 ?_); (first | (refine L_f1 H rfl 3 _ rfl 1 rfl _ rfl _ rfl _ rfl Try.underlying3 rfl ?_) | (refine L_f1 H rfl 3 _ rfl 3 rfl _ rfl _ rfl _ rfl Try.underlying3 rfl ?_)); simp only [pA]))
      have HX12 := kp (HX11.out.trans (HXC.out.trans (ext_wrote HEg12.out HWw12b.out (Nat.le_of_eq HGg12.out.symm))))
      have hak := HAG.out HGE.out
      obtain ⟨bf, bd, bn, bc, rfl, hbf, hrf, hbo⟩ := HFR.out k (byeF a x.addr 12 4) (by rw [List.getElem?_map, hak]; rfl)
      have hkv : k < vn := by rw [HVN.out]; exact (List.getElem?_eq_some_iff.1 hak).1
      have hkd : decide ((vn : Int) ≤ (k : Int)) = false := decide_eq_false (by omega)
      have hkd2 : decide (vn ≤ k) = false := decide_eq_false (by omega)
      have hvl : vn ≤ 100 := by rw [HVN.out]; have h1 := List.length_filter_le (goneE a now) l; have h2 := HNL.out; omega
      have HOM := kp (msg_ok (t := x.addr) ha HXA.out (show (0:Int) ≤ 12 by decide) (by decide))
      have HRF := kp (fun W (hx : Ext w6b W) => show W.rangeAt bf (k * 41) (cat (partsFr (msgH a x.addr 12) HOM.out bd bn bc)) from by rw [← cat_Fr]; exact rangeAt_ext hrf hbf hx)
      have HBO := kp hbo
      have HEQ := kp (eqAddrS x.addr HXA.out)
      clear HAG hak hrf hbo hbf HX11 HXC HEg11 HEg12 HWw12b HWw11b HGg11 HGg12 HXT HFD HAT
      subst hr16
      refine region_z H 24 (by kernel_rfl) (by kernel_rfl) (by kernel_rfl) (by kernel_rfl) (by decide) (Nat.le_of_ble_eq_true (by kernel_rfl)) ?_
      apply Exists.intro
      refine ⟨fun xz4 => ?_, fun wz4 HXZ H => ?_⟩
      ·simp only [List.take_succ_cons, List.take_zero]
       unfold Cx
       repeat (first | ((with_reducible show wpQuiet _ _ _ _ (Oper.mk _ (Op.load 23 (.tmp 87)) _ _ _ _ :: _) _); go_big_quiet_want; refine qz_r 23 _ rfl bf _ rfl (x.addr.map V8) (fun W hx => range_part (HRF.out W (HX12.out.trans hx)) (off := 10) (i := 10) rfl rfl) Try.underlying23 rfl (by rw [List.length_map, HXA.out]; kernel_rfl) ?_; simp only [pA]; go_big_quiet_on) | ((with_reducible show wpQuiet _ _ _ _ (Oper.mk _ (Op.load 5 _) _ _ _ _ :: _) _); go_big_quiet_want; refine qz_c 5 _ rfl _ _ rfl (.int .u8 12) (fun W hx => range_cell (HRF.out W (HX12.out.trans hx)) (off := 1) (i := 1) rfl rfl) Try.underlying5 rfl ?_; simp only [pA]; go_big_quiet_on) | ((with_reducible show wpQuiet _ _ _ _ (Oper.mk _ (Op.load 23 _) _ _ _ _ :: _) _); go_big_quiet_want; (refine qz_v H 23 _ rfl 1 rfl _ rfl _ rfl rfl Try.underlying23 rfl (by kernel_rfl) ?_); simp only [pA]; go_big_quiet_on) | ((with_reducible show wpQuiet _ _ _ _ (Oper.mk _ (Op.binOp _ 23 _ _ _) _ _ _ _ :: _) _); go_big_quiet_want; (refine qz_ne 23 _ _ _ rfl _ _ _ rfl rfl Try.eqGuardType23 (fun _ => HEQ.out _) ?_); simp only [pA]; go_big_quiet_on) | go_big_quiet_step (fail))
       exact wpQuiet_nil rfl
      simp only [List.drop_succ_cons, List.drop_zero]
      have HXY := kp (HX12.out.trans HXZ.out)
      have HBN := kp (owns_lenle HBO.out (show (two16 4).length ≤ 1000 by decide))
      have HDR := kp (fun w' hs => (decReason_any bd bn bc (two16 4) HBN.out.1 HBN.out.2 w' hs).mono (fun e w' h => re_ok (c := 4) (by kernel_rfl) (by kernel_rfl) h))
      have HSB := kp (SlB.of_owns (owns_ext HBO.out HXY.out))
      rw [HGE.out, if_pos rfl] at HG
      clear HX12 HXZ HBO HBN HFR HSE
      go_wp2_with (first | ((with_reducible refine isLd 29 ?_); refine L_x1 (by kernel_rfl) 29 _ rfl bf _ rfl _ (range_cell (HRF.out _ HXY.out) (off := 40) (i := 20) rfl rfl) Try.underlying29 rfl ?_; simp only [pA]) | (go_at_call 23; refine (HDR.out _ HSB.out).mono ?_; rintro e wd ⟨qa, qk, qq, rfl, hx⟩; replace H := kp (H.out.ext hx); have HXC := kp hx; clear hx) | ((with_reducible refine isAl 14 57 ?_); (refine L_alloc H rfl 57 rfl (cat (pRe 0 none 0 0)) (fun _ _ => by kernel_rfl) ?_); clear H; intro g14 w14 HGg14 HEg14 H; simp only [pA]) | ((with_reducible refine isSt 57 ?_); refine L_sa H rfl rfl 57 _ _ rfl 0 rfl rfl (pRe 4 qa qk qq) rfl rfl (by kernel_rfl) ?_; clear H; intro w14b HWw14b H; simp only [szA] at H) | ((with_reducible refine isLd 54 ?_); (refine L_f1 H rfl 54 _ rfl 0 rfl _ rfl _ rfl _ rfl Try.underlying54 rfl ?_); simp only [pA]))
      exact LoopP.of rfl (by kernel_rfl) ⟨j + 1, (by have q := HNL.out; omega), by simp, (by rw [HG.out]; simp), kp H.out.tail.tail.tail, kp (HXY.out.trans (HXC.out.trans (ext_wrote HEg14.out HWw14b.out (Nat.le_of_eq HGg14.out.symm))))⟩ (by simp [intOf]; omega)
     ·have HGE := kp (show goneE a now x = false from decide_eq_false hg)
      rw [HGE.out, if_neg (by simp)] at HG
      rw [HGE.out, if_pos (show (!false) = true from rfl), show cellsE x = cat (partsE x HXA.out) from cat_E x HXA.out] at HFD
      have hdd : decide (now - x.seen < a.idle) = true := decide_eq_true (by omega)
      have HGT := kp Try.eqGuardType39
      have HEI := kp (fun w => neEnS w x HXO.out HXA.out)
      go_wp2_with (first | ((with_reducible refine isLd 24 ?_); (refine L_f1 H rfl 24 _ rfl 1 rfl _ rfl _ rfl _ rfl Try.underlying24 rfl ?_); simp only [pA]) | ((with_reducible refine isLd 39 ?_); (refine wpList_load_midG (by kernel_rfl) 39 _ rfl (b) (off + j * 11) rfl (cat (partsE x HXA.out)) _ (HR3.out) Try.underlying39 rfl (HZX.out) ?_); simp only [pA]) | ((with_reducible refine isAl 11 39 ?_); (refine L_alloc H rfl 39 rfl (cat (partsE en0 rfl)) (fun _ _ => by kernel_rfl) ?_); clear H; intro g11 w11 HGg11 HEg11 H; simp only [pA]) | ((with_reducible show wpList _ _ _ (Oper.mk none (Op.store 39 (.tmp 11) _) _ _ _ _ :: _) _ _); ((with_reducible refine isSt 39 ?_); refine L_sa H rfl rfl 39 _ _ rfl 0 rfl rfl (partsE x HXA.out) rfl rfl (by kernel_rfl) ?_; clear H; intro w11b HWw11b H; simp only [szA] at H)) | ((with_reducible show wpList _ _ _ (Oper.mk none (Op.store 39 (.tmp 12) _) _ _ _ _ :: _) _ _); ((with_reducible refine isSt 39 ?_); refine L_sa H rfl rfl 39 _ _ rfl 0 rfl rfl (partsE x HXA.out) rfl rfl (by kernel_rfl) ?_; clear H; intro w12b HWw12b H; simp only [szA] at H)) | ((with_reducible refine isLd 26 ?_); (refine L_fa H rfl 26 _ rfl 1 rfl rfl Try.underlying26 rfl (by kernel_rfl) ?_); simp only [pA]) | ((with_reducible refine isLd 23 ?_); (refine L_fv H rfl 23 _ rfl 0 rfl _ rfl _ rfl rfl Try.underlying23 rfl (by kernel_rfl) ?_); simp only [pA]) | (go_at_call 12; have HX11 := kp (HXT.out.trans (ext_wrote HEg11.out HWw11b.out (Nat.le_of_eq HGg11.out.symm))); refine (HFD.out _ HX11.out).mono ?_; rintro e wq ⟨rfl, hx⟩; replace H := kp (H.out.ext hx); have HXC := kp hx; clear hx) | ((with_reducible refine isAl 12 39 ?_); (refine L_alloc H rfl 39 rfl (cat (partsE en0 rfl)) (fun _ _ => by kernel_rfl) ?_); clear H; intro g12 w12 HGg12 HEg12 H; simp only [pA]) | ((with_reducible refine isLd 3 ?_); (first | (refine L_f1 H rfl 3 _ rfl 1 rfl _ rfl _ rfl _ rfl Try.underlying3 rfl ?_) | (refine L_f1 H rfl 3 _ rfl 3 rfl _ rfl _ rfl _ rfl Try.underlying3 rfl ?_)); simp only [pA]) | (((with_reducible refine isLd 39 ?_); (first | (refine L_fa H rfl 39 _ rfl 0 rfl rfl Try.underlying39 rfl (by kernel_rfl) ?_) | (refine L_fa H rfl 39 _ rfl 1 rfl rfl Try.underlying39 rfl (by kernel_rfl) ?_)); simp only [pA])) | ((with_reducible show wpList _ _ _ (Oper.mk _ (Op.binOp .neq 39 _ _ _) _ _ _ _ :: _) _ _); (refine wpList_bin (by kernel_rfl) .neq 39 39 (.tmp 72) (.tmp 73) rfl (.agg (cat (partsE x HXA.out)).toArray) (.agg (cat (partsE x HXA.out)).toArray) (.bool false) rfl rfl (run_eqGuard_agg _ _ _ _ _ _ _ HGT.out) (HEI.out _) ?_); simp only [pA]))
      exact LoopP.of rfl (by kernel_rfl) ⟨j + 1, (by have q := HNL.out; omega), by simp, (by rw [HG.out]; simp), kp H.out.tail.tail, kp (HX11.out.trans (HXC.out.trans (ext_wrote HEg12.out HWw12b.out (Nat.le_of_eq HGg12.out.symm))))⟩ (by simp [intOf]; omega)
    ·obtain rfl : j = n := by have := HNL.out; omega
     have HTL := kp (show l.take j = l from List.take_of_length_le (by rw [HNL.out]; exact Nat.le_refl _))
     rw [HTL.out, ← HVN.out]
     have hf2 := fil_two l (goneE a now)
     rw [← HVN.out, ← HN2.out, ← HNL.out] at hf2
     go_wp2_with ((with_reducible refine isLd 24 ?_); (first | (refine L_f1 H rfl 24 _ rfl 0 rfl _ rfl _ rfl _ rfl Try.underlying24 rfl ?_) | (refine L_f1 H rfl 24 _ rfl 1 rfl _ rfl _ rfl _ rfl Try.underlying24 rfl ?_)); simp only [pA])
     go_ret
     exact ⟨by simp; omega, H.out.1⟩
 ·have h101 : (100:Int) < n := by omega
  clear hn hnl HT0 h100
  go_enter Try.func4, Try.ntmps4
  go_wp2_with (first | ((with_reducible refine isBx 2 26 ?_); (refine L_box H rfl 26 _ rfl (cat (partsA a ha ad n c)) rfl ?_); clear H; intro g2 w2 HGg2 HEg2 H; simp only [pA]) | (go_at_call 21; refine (alive_any _).mono ?_; rintro e wv ⟨rfl, hx⟩; replace H := kp (H.out.ext hx); have HXC := kp hx; clear hx) | ((with_reducible refine isLd 24 ?_); (refine L_f1 H rfl 24 _ rfl 0 rfl _ rfl _ rfl _ rfl Try.underlying24 rfl ?_); simp only [pA]))
  go_ret
  exact ⟨rfl, H.out.1⟩
end Go.Proofs.Ytfecopfofkdnpaa
