/- Texts of this proof, put together: MsE, App, LoopC, RunP. -/
import Derived.Test.YtibncchobkaaiaaA31
import Derived.Test.YtibncchobkaaiaaA11
import Derived.Test.YtibncchobkaaiaaA10
import Derived.Great.BuildSlice
import Derived.Test.YtibncchobkaaiaaA1
namespace Go.Proofs.Ytibncchobkaaiaa
open Go.RowKit
theorem owns_open {w : World} {base E n : Nat} {v : Value} {xs : List Value} (h : w.ownsRow base E 1 v n xs) (hn : 0 < n) : ∃ g cap cs, v = .slice (some ⟨g, 0, none⟩) n cap ∧ base ≤ g ∧ Lc w g E cs ∧ n ≤ cap ∧ cap ≤ maxLen ∧ cs.length = cap ∧ cs.take n = xs := by
 obtain ⟨h1, ⟨_, h2⟩ | ⟨g, cap, cur, rfl, hb, hg, h5, h6, h7, h8⟩⟩ := h
 ·omega
 ·exact ⟨g, cap, cur.toList, rfl, hb, hg, h5, h6, by simpa using h7, by simpa using h8⟩
theorem owns_close {w : World} {base E n g cap : Nat} {cs xs : List Value} (hb : base ≤ g) (hl : Lc w g E cs) (h5 : n ≤ cap) (h6 : cap ≤ maxLen) (h7 : cs.length = cap) (h8 : cs.take n = xs) : w.ownsRow base E 1 (.slice (some ⟨g, 0, none⟩) n cap) n xs := by
 refine ⟨?_, .inr ⟨g, cap, cs.toArray, rfl, hb, hl, h5, h6, by simp [h7], by simp [h8]⟩⟩
 rw [← h8, List.length_take]; omega
theorem SlBB.nth {B : Nat} {w : World} {v : Value} {ls : List By} (h : SlBB B w v ls) {j : Nat} {l : By} (hj : ls[j]? = some l) : ∃ b c u, v = .slice (some ⟨b, 0, none⟩) ls.length c ∧ b < w.heap.size ∧ w.cell? ⟨b, j, none⟩ = some u ∧ w.ownsRow B 5 1 u l.length (l.map V8) := by
 obtain ⟨vs, ho, h4, h3⟩ := h
 have hl := (List.getElem?_eq_some_iff.1 hj).1
 obtain ⟨g, cap, cs, rfl, _, hL, h5, h6, h7, h8⟩ := owns_open ho (by omega)
 obtain ⟨u, hu⟩ : ∃ u, vs[j]? = some u := ⟨_, List.getElem?_eq_getElem (by omega)⟩
 refine ⟨g, cap, u, rfl, hL.lt, hL.cell ?_, h3 j u l hu hj⟩
 rw [← h8, List.getElem?_take] at hu
 by_cases q : j < ls.length
 ·rwa [if_pos q] at hu
 ·omega
def MsgR (m : Option By) (w : World) (e : Ending) (w' : World) : Prop := ∃ u, e = .returned (.tuple #[u, .bool m.isSome]) ∧ (∀ b, m = some b → w'.ownsRow w.heap.size 5 1 u b.length (b.map V8)) ∧ (m = none → u = .slice none 0 0) ∧ Ext w w'
theorem msgR_some {m : Option By} {b : By} {u : Value} {w w' : World} (h : m = some b) (ho : w'.ownsRow w.heap.size 5 1 u b.length (b.map V8)) (hx : Ext w w') : MsgR m w (.returned (.tuple #[u, .bool true])) w' := by
 subst h
 exact ⟨u, rfl, fun c hc => by cases hc; exact ho, (fun q => by cases q), hx⟩
theorem msgR_none {m : Option By} {w w' : World} (h : m = none) (hx : Ext w w') : MsgR m w (.returned (.tuple #[.slice none 0 0, .bool false])) w' := by
 subst h
 exact ⟨_, rfl, (fun c hc => by cases hc), fun _ => rfl, hx⟩
theorem mod_nat {x : Int} {n : Nat} (h : 0 ≤ x) : x.tmod n = ((x.toNat % n : Nat) : Int) := by
 rw [Int.tmod_eq_emod_of_nonneg h]
 obtain ⟨m, rfl⟩ := Int.eq_ofNat_of_zero_le h
 simp
theorem owns_nilB {w : World} {g base : Nat} (h : Lc w g 5 []) (hb : base ≤ g) : w.ownsRow base 5 1 (.slice (some ⟨g, 0, none⟩) 0 0) ([] : By).length (([] : By).map V8) :=
 owns_close (cs := []) hb h (Nat.le_refl _) (by unfold maxLen; omega) rfl rfl
set_option maxRecDepth 4000 in
set_option maxHeartbeats 1600000 in
theorem message_any (o : Ev) (hc0 : 0 ≤ o.counter) (hc1 : o.counter ≤ 1099511627776) (hw0 : 0 ≤ o.which) (hp0 : 0 ≤ o.pos) (sent : List By) (hsl : ∀ m ∈ sent, m.length ≤ 100000) (hsn : sent.length ≤ 1000) (B : Nat) (v : Value) (w : World) (hv : SlBB B w v sent) :
  Calls Try.prog 23 #[.agg (cellsV o).toArray, v] w (MsgR (msgF o sent) w) := by
 have H := kp (Loc.start w)
 have HV := kp hv
 have HSL := kp hsl
 obtain ⟨ad, c, rfl⟩ := hv.form
 have HM := kp (fun w => rmessage1_any (zv 16) o.counter hc0 (by omega) o.nonce w)
 clear hv hc0 hc1 hsl
 go_enter Try.func23, Try.ntmps23
 by_cases h3 : o.kind = 3
 ·have hk3 : (o.kind == 3) = true := by simp [h3]
  have HK := kp (show msgF o sent = some (signedF (zv 16).1 1 o.counter o.nonce.1 []) from by unfold msgF; rw [if_pos h3])
  go_wp2_with (first | ((with_reducible show wpList _ _ _ (Oper.mk (some 2) (Op.box 57 _) _ _ _ _ :: _) _ _); (refine L_box H rfl 57 _ rfl (cat (partsE o)) rfl ?_); clear H; intro g2 w2 HGg2 HEg2 H; simp only [Act.put, sbA, szA, ssA]) | ((with_reducible refine isLd 5 ?_); (refine L_f1 H rfl 5 _ rfl 0 rfl _ rfl _ rfl _ rfl Try.underlying5 rfl ?_); simp only [Act.put, sbA, szA, ssA]) | ((with_reducible refine isLd 3 ?_); (refine L_f1 H rfl 3 _ rfl 0 rfl _ rfl _ rfl _ rfl Try.underlying3 rfl ?_); simp only [Act.put, sbA, szA, ssA]) | ((with_reducible show wpList _ _ _ (Oper.mk _ (Op.build 25 _) _ _ _ _ :: _) _ _); (refine L_bd rfl 25 _ rfl #[] (by kernel_rfl) ((zv 16).1.map V8) (fun _ => by kernel_rfl) ?_); simp only [Act.put, sbA, szA, ssA]) | ((with_reducible refine isLd 26 ?_); (refine L_fv H rfl 26 _ rfl 0 rfl _ rfl _ rfl rfl Try.underlying26 rfl (by kernel_rfl) ?_); simp only [Act.put, sbA, szA, ssA]) | (go_at_call 44; refine (HM.out _).mono ?_; rintro e wa ⟨u, rfl, ho, hx⟩; have HO := kp ho; clear ho; have H2 := kp (H.out.ext hx); have HXC := kp hx; clear H hx; have H := H2; clear H2))
  go_ret2
  exact msgR_some HK.out (owns_weak HO.out HEg2.out.size) H.out.1
 ·have hk3 : (o.kind == 3) = false := by simp [h3]
  by_cases h2 : o.kind = 2
  ·have hk2 : (o.kind != 2) = false := by simp [h2]
   cases sent with
   | nil =>
    have HK := kp (show msgF o [] = none from by unfold msgF; rw [if_neg h3, if_pos (.inr rfl)])
    go_wp2_with (first | ((with_reducible show wpList _ _ _ (Oper.mk (some 2) (Op.box 57 _) _ _ _ _ :: _) _ _); (refine L_box H rfl 57 _ rfl (cat (partsE o)) rfl ?_); clear H; intro g2 w2 HGg2 HEg2 H; simp only [Act.put, sbA, szA, ssA]) | ((with_reducible refine isLd 5 ?_); (refine L_f1 H rfl 5 _ rfl 0 rfl _ rfl _ rfl _ rfl Try.underlying5 rfl ?_); simp only [Act.put, sbA, szA, ssA]))
    go_ret2
    exact msgR_none HK.out H.out.1
   | cons m0 ms =>
    generalize hse : m0 :: ms = sent at *
    have hs0 : ((sent.length : Int) == 0) = false := by rw [beq_eq_false_iff_ne, ← hse]; simp; omega
    have hln : 0 < sent.length := by rw [← hse]; simp
    have hT := mod_nat (n := sent.length) hw0
    obtain ⟨i, hi⟩ : ∃ i, i = o.which.toNat % sent.length := ⟨_, rfl⟩
    rw [← hi] at hT
    have hil : i < sent.length := by rw [hi]; exact Nat.mod_lt _ hln
    obtain ⟨m, hm⟩ : ∃ m, sent[i]? = some m := ⟨_, List.getElem?_eq_getElem hil⟩
    have HK := kp (show msgF o sent = some (altF o m) from by
     unfold msgF
     rw [if_neg h3, if_neg (by rintro (q | q); exact q h2; rw [q] at hln; exact absurd hln (by decide)), ← hi, List.getD_eq_getElem?_getD, hm]; rfl)
    have HML := kp (HSL.out m (List.mem_of_getElem? hm))
    obtain ⟨sb, sc, u, hv1, hsb, hcu, hou⟩ := HV.out.nth hm
    cases hv1
    obtain ⟨um, uc, rfl⟩ := owns_form hou
    have HCE := kp (show ∀ W, Ext w W → W.cell? ⟨sb, i, none⟩ = some (.slice um m.length uc) from fun W hx => (hx.cell hsb).trans hcu)
    have HOU := kp hou
    clear hm hi hcu hou hsb hse h3 h2 HSL HV HM
    generalize h5 : (Code.region 5 _ _ : Code) = R5
    generalize h6 : (Code.region 6 _ _ : Code) = R6
    generalize h7 : (Code.region 7 _ _ : Code) = R7
    go_wp2_with (first | ((with_reducible show wpList _ _ _ (Oper.mk (some 2) (Op.box 57 _) _ _ _ _ :: _) _ _); (refine L_box H rfl 57 _ rfl (cat (partsE o)) rfl ?_); clear H; intro g2 w2 HGg2 HEg2 H; simp only [Act.put, sbA, szA, ssA]) | ((with_reducible refine isLd 5 ?_); (refine L_f1 H rfl 5 _ rfl 0 rfl _ rfl _ rfl _ rfl Try.underlying5 rfl ?_); simp only [Act.put, sbA, szA, ssA]))
    have HLT2 := kp (H.out.lt 0 rfl)
    subst h5
    go_wp2_with (first | (((with_reducible show wpList _ _ _ (Oper.mk (some 24) (Op.buildSlice 33 _ _) _ _ _ _ :: _) _ _); (refine L_bs H (by kernel_rfl) 33 0 _ rfl (#[]) (by kernel_rfl) 5 ([]) (fun _ => by kernel_rfl) ?_); clear H; intro g24 w24 HGg24 HEg24 H; simp only [Act.put, sbA, szA, ssA]); have hc := HCE.out _ H.out.1) | ((with_reducible refine isLd 3 ?_); (refine L_f1 H rfl 3 _ rfl 1 rfl _ rfl _ rfl _ rfl Try.underlying3 rfl ?_); simp only [Act.put, sbA, szA, ssA]) | (at_builtin; (have HSX := kp ((SlB.of_owns HOU.out).ext H.out.1); have HOX2 := kp (owns_nilB (base := g2 + 1) (H.out.at 0 rfl) (by have := HLT2.out; have := HGg24.out; omega)); have H2 := kp H.out.tl; clear H; have H := H2; clear H2; refine L_appB H rfl _ _ rfl (g2 + 1) (by have q1 := HGg2.out; have q2 := HEg2.out.size; have q3 := HEg24.out.size; have q4 := HLT2.out; omega) (by have q1 := HGg2.out; have q2 := HEg2.out.size; have q3 := HEg24.out.size; have q4 := HLT2.out; omega) (by intro zz hz; simp at hz; have q1 := HGg2.out; have q2 := HEg2.out.size; have q3 := HEg24.out.size; have q4 := HLT2.out; omega) _ _ rfl HOX2.out _ _ rfl HSX.out ((by have := HML.out; simp; omega)) ?_; clear H HSX HOX2; intro vb wb HO2 HGwb H; simp only [Act.put, sbA, szA, ssA])))
    have HO3 := kp (show wb.ownsRow (g2 + 1) 5 1 vb m.length (m.map V8) from by simpa using HO2.out)
    have HB1 := kp (show w.heap.size ≤ g2 + 1 from by have := HGg2.out; omega)
    clear HO2 HCE HOU
    by_cases h0 : 0 < m.length
    ·obtain ⟨g, cap, cs, rfl, hge, hL, hnc, hcm, hcl, hct⟩ := owns_open HO3.out h0
     have HLG := kp (show g2 < g from by omega)
     have H2 := kp (H.out.add (g2 + 1) (by intro z hz; simp at hz; omega) HB1.out hge hL)
     clear H
     have H := H2
     clear H2
     have hT2 := mod_nat (n := m.length) hp0
     obtain ⟨k, hk⟩ : ∃ k, k = o.pos.toNat % m.length := ⟨_, rfl⟩
     rw [← hk] at hT2
     have hkl : k < m.length := by rw [hk]; exact Nat.mod_lt _ h0
     obtain ⟨x, hx⟩ : ∃ x, m[k]? = some x := ⟨_, List.getElem?_eq_getElem hkl⟩
     have HCK := kp (show cs[k]? = some (.int .u8 (wI x)) from by
      have h1 : (m.map V8)[k]? = some (V8 x) := by rw [List.getElem?_map, hx]; rfl
      rw [← hct, List.getElem?_take, if_pos hkl] at h1
      exact h1)
     have HKC := kp (show k < cs.length from by omega)
     have HAL := kp (show (cs.set k (.int .u8 (wI (x ^^^ o.by_)))).take m.length = (altF o m).map V8 ∧ (altF o m).length = m.length from by
      have h1 : altF o m = m.set k (x ^^^ o.by_) := by
       unfold altF
       rw [← hk, List.getD_eq_getElem?_getD, hx]; rfl
      rw [h1]
      refine ⟨?_, List.length_set ..⟩
      rw [List.take_set, hct, List.map_set])
     have hm0 : ((m.length : Int) == 0) = false := by rw [beq_eq_false_iff_ne]; omega
     have HCAP := kp (And.intro hnc (And.intro hcm hcl))
     have HGE := kp hge
     clear hx hk hct hL hnc hcm hcl hge
     subst h6
     go_wp2_with fail
     all_goals try (exfalso; omega)
     subst h7
     refine region_free H (tabS [(37, fun vQ _ => vQ = .slice (some ⟨g, 0, none⟩) m.length cap), (38, fun vQ _ => vQ = .pointer (some ⟨g2, 3, none⟩)), (39, fun vQ _ => vQ = .int .i64 o.pos), (40, fun vQ _ => vQ = .slice (some ⟨g, 0, none⟩) m.length cap), (41, fun vQ _ => vQ = .int .i64 m.length), (42, fun vQ _ => vQ = .int .i64 k), (43, fun vQ _ => vQ = .slice (some ⟨g, 0, none⟩) m.length cap), (44, fun vQ _ => vQ = .pointer (some ⟨g2, 3, none⟩)), (45, fun vQ _ => vQ = .int .i64 o.pos), (46, fun vQ _ => vQ = .slice (some ⟨g, 0, none⟩) m.length cap), (47, fun vQ _ => vQ = .int .i64 m.length), (48, fun vQ _ => vQ = .int .i64 k), (49, fun vQ _ => vQ = .pointer (some ⟨g, k, none⟩)), (50, fun vQ _ => vQ = .int .u8 (wI x)), (51, fun vQ _ => vQ = .pointer (some ⟨g2, 4, none⟩)), (52, fun vQ _ => vQ = .int .u8 (wI o.by_)), (53, fun vQ _ => vQ = .int .u8 (wI (x ^^^ o.by_))), (54, fun vQ _ => vQ = .pointer (some ⟨g, k, none⟩))]) [] (tabS_out _ _ (by simp only [List.forall_mem_cons]; exact ⟨mono_eqO _ _, mono_eqO _ _, mono_eqO _ _, mono_eqO _ _, mono_eqO _ _, mono_eqO _ _, mono_eqO _ _, mono_eqO _ _, mono_eqO _ _, mono_eqO _ _, mono_eqO _ _, mono_eqO _ _, mono_eqO _ _, mono_eqO _ _, mono_eqO _ _, mono_eqO _ _, mono_eqO _ _, mono_eqO _ _, by simp⟩)) 18 (by kernel_rfl) (by kernel_rfl) (by kernel_rfl) (by kernel_rfl) [] [] rfl rfl (by decide) (by decide) (by decide) trivial ?_
     simp only [List.take_succ_cons, List.take_zero]
     refine ⟨fun wv37 hov37 hSv37 => ?_, fun v37 => ?_⟩
     ·clear hSv37
      clear hov37
      go_wp2_with fail
      exact ⟨rfl, _, rfl, fun d hd => by cases hd; exact rfl, Ext.refl _⟩
     simp only [Act.put, sbA, szA, ssA]
     refine ⟨fun wv38 hov38 hSv38 => ?_, fun v38 => ?_⟩
     ·clear hSv38
      clear hov38
      go_wp2_with fail
      exact ⟨rfl, _, rfl, fun d hd => by cases hd; exact rfl, Ext.refl _⟩
     simp only [Act.put, sbA, szA, ssA]
     refine ⟨fun wv39 hov39 hSv39 => ?_, fun v39 => ?_⟩
     ·obtain rfl : v38 = .pointer (some ⟨g2, 3, none⟩) := hSv39 38 (by decide) (by decide)
      clear hSv39
      have H := kp (H.out.keep [0, 1] (St := []) trivial hov39 (by decide) (by kernel_rfl))
      have HOX := kp hov39
      clear hov39
      go_wp2_with ((with_reducible refine isLd 3 ?_); (refine L_f1 H rfl 3 _ rfl 1 rfl _ rfl _ rfl _ rfl Try.underlying3 rfl ?_); simp only [Act.put, sbA, szA, ssA])
      exact ⟨rfl, _, rfl, fun d hd => by cases hd; exact rfl, Ext.refl _⟩
     simp only [Act.put, sbA, szA, ssA]
     refine ⟨fun wv40 hov40 hSv40 => ?_, fun v40 => ?_⟩
     ·clear hSv40
      clear hov40
      go_wp2_with fail
      exact ⟨rfl, _, rfl, fun d hd => by cases hd; exact rfl, Ext.refl _⟩
     simp only [Act.put, sbA, szA, ssA]
     refine ⟨fun wv41 hov41 hSv41 => ?_, fun v41 => ?_⟩
     ·obtain rfl : v40 = .slice (some ⟨g, 0, none⟩) m.length cap := hSv41 40 (by decide) (by decide)
      clear hSv41 hov41
      go_wp2_with fail
      exact ⟨rfl, _, rfl, fun d hd => by cases hd; exact rfl, Ext.refl _⟩
     simp only [Act.put, sbA, szA, ssA]
     refine ⟨fun wv42 hov42 hSv42 => ?_, fun v42 => ?_⟩
     ·obtain rfl : v39 = .int .i64 o.pos := hSv42 39 (by decide) (by decide)
      obtain rfl : v41 = .int .i64 m.length := hSv42 41 (by decide) (by decide)
      clear hSv42 hov42
      go_wp2_with fail
      exact ⟨rfl, _, rfl, fun d hd => by cases hd; exact rfl, Ext.refl _⟩
     simp only [Act.put, sbA, szA, ssA]
     refine ⟨fun wv43 hov43 hSv43 => ?_, fun v43 => ?_⟩
     ·clear hSv43
      clear hov43
      go_wp2_with fail
      exact ⟨rfl, _, rfl, fun d hd => by cases hd; exact rfl, Ext.refl _⟩
     simp only [Act.put, sbA, szA, ssA]
     refine ⟨fun wv44 hov44 hSv44 => ?_, fun v44 => ?_⟩
     ·clear hSv44
      clear hov44
      go_wp2_with fail
      exact ⟨rfl, _, rfl, fun d hd => by cases hd; exact rfl, Ext.refl _⟩
     simp only [Act.put, sbA, szA, ssA]
     refine ⟨fun wv45 hov45 hSv45 => ?_, fun v45 => ?_⟩
     ·obtain rfl : v44 = .pointer (some ⟨g2, 3, none⟩) := hSv45 44 (by decide) (by decide)
      clear hSv45
      have H := kp (H.out.keep [0, 1] (St := []) trivial hov45 (by decide) (by kernel_rfl))
      have HOX := kp hov45
      clear hov45
      go_wp2_with ((with_reducible refine isLd 3 ?_); (refine L_f1 H rfl 3 _ rfl 1 rfl _ rfl _ rfl _ rfl Try.underlying3 rfl ?_); simp only [Act.put, sbA, szA, ssA])
      exact ⟨rfl, _, rfl, fun d hd => by cases hd; exact rfl, Ext.refl _⟩
     simp only [Act.put, sbA, szA, ssA]
     refine ⟨fun wv46 hov46 hSv46 => ?_, fun v46 => ?_⟩
     ·clear hSv46
      clear hov46
      go_wp2_with fail
      exact ⟨rfl, _, rfl, fun d hd => by cases hd; exact rfl, Ext.refl _⟩
     simp only [Act.put, sbA, szA, ssA]
     refine ⟨fun wv47 hov47 hSv47 => ?_, fun v47 => ?_⟩
     ·obtain rfl : v46 = .slice (some ⟨g, 0, none⟩) m.length cap := hSv47 46 (by decide) (by decide)
      clear hSv47 hov47
      go_wp2_with fail
      exact ⟨rfl, _, rfl, fun d hd => by cases hd; exact rfl, Ext.refl _⟩
     simp only [Act.put, sbA, szA, ssA]
     refine ⟨fun wv48 hov48 hSv48 => ?_, fun v48 => ?_⟩
     ·obtain rfl : v45 = .int .i64 o.pos := hSv48 45 (by decide) (by decide)
      obtain rfl : v47 = .int .i64 m.length := hSv48 47 (by decide) (by decide)
      clear hSv48 hov48
      go_wp2_with fail
      exact ⟨rfl, _, rfl, fun d hd => by cases hd; exact rfl, Ext.refl _⟩
     simp only [Act.put, sbA, szA, ssA]
     refine ⟨fun wv49 hov49 hSv49 => ?_, fun v49 => ?_⟩
     ·obtain rfl : v43 = .slice (some ⟨g, 0, none⟩) m.length cap := hSv49 43 (by decide) (by decide)
      obtain rfl : v48 = .int .i64 k := hSv49 48 (by decide) (by decide)
      clear hSv49 hov49
      go_wp2_with fail
      exact ⟨rfl, _, rfl, fun d hd => by cases hd; exact rfl, Ext.refl _⟩
     simp only [Act.put, sbA, szA, ssA]
     refine ⟨fun wv50 hov50 hSv50 => ?_, fun v50 => ?_⟩
     ·obtain rfl : v49 = .pointer (some ⟨g, k, none⟩) := hSv50 49 (by decide) (by decide)
      clear hSv50
      have H := kp (H.out.keep [0, 1] (St := []) trivial hov50 (by decide) (by kernel_rfl))
      have HOX := kp hov50
      clear hov50
      have hc := run_load_cell H.out 0 rfl _ _ HCK.out
      go_wp2_with fail
      exact ⟨rfl, _, rfl, fun d hd => by cases hd; exact rfl, Ext.refl _⟩
     simp only [Act.put, sbA, szA, ssA]
     refine ⟨fun wv51 hov51 hSv51 => ?_, fun v51 => ?_⟩
     ·clear hSv51
      clear hov51
      go_wp2_with fail
      exact ⟨rfl, _, rfl, fun d hd => by cases hd; exact rfl, Ext.refl _⟩
     simp only [Act.put, sbA, szA, ssA]
     refine ⟨fun wv52 hov52 hSv52 => ?_, fun v52 => ?_⟩
     ·obtain rfl : v51 = .pointer (some ⟨g2, 4, none⟩) := hSv52 51 (by decide) (by decide)
      clear hSv52
      have H := kp (H.out.keep [0, 1] (St := []) trivial hov52 (by decide) (by kernel_rfl))
      have HOX := kp hov52
      clear hov52
      go_wp2_with ((with_reducible refine isLd 5 ?_); (refine L_f1 H rfl 5 _ rfl 1 rfl _ rfl _ rfl _ rfl Try.underlying5 rfl ?_); simp only [Act.put, sbA, szA, ssA])
      exact ⟨rfl, _, rfl, fun d hd => by cases hd; exact rfl, Ext.refl _⟩
     simp only [Act.put, sbA, szA, ssA]
     refine ⟨fun wv53 hov53 hSv53 => ?_, fun v53 => ?_⟩
     ·obtain rfl : v50 = .int .u8 (wI x) := hSv53 50 (by decide) (by decide)
      obtain rfl : v52 = .int .u8 (wI o.by_) := hSv53 52 (by decide) (by decide)
      clear hSv53 hov53
      go_wp2_with fail
      exact ⟨rfl, _, rfl, fun d hd => by cases hd; exact rfl, Ext.refl _⟩
     simp only [Act.put, sbA, szA, ssA]
     refine ⟨fun wv54 hov54 hSv54 => ?_, fun v54 => ?_⟩
     ·obtain rfl : v37 = .slice (some ⟨g, 0, none⟩) m.length cap := hSv54 37 (by decide) (by decide)
      obtain rfl : v42 = .int .i64 k := hSv54 42 (by decide) (by decide)
      clear hSv54 hov54
      go_wp2_with fail
      exact ⟨rfl, _, rfl, fun d hd => by cases hd; exact rfl, Ext.refl _⟩
     simp only [Act.put, sbA, szA, ssA]
     clear H
     intro wc HOX H hfin
     obtain rfl : v37 = .slice (some ⟨g, 0, none⟩) m.length cap := hfin 37 (by decide)
     obtain rfl : v38 = .pointer (some ⟨g2, 3, none⟩) := hfin 38 (by decide)
     obtain rfl : v39 = .int .i64 o.pos := hfin 39 (by decide)
     obtain rfl : v40 = .slice (some ⟨g, 0, none⟩) m.length cap := hfin 40 (by decide)
     obtain rfl : v41 = .int .i64 m.length := hfin 41 (by decide)
     obtain rfl : v42 = .int .i64 k := hfin 42 (by decide)
     obtain rfl : v43 = .slice (some ⟨g, 0, none⟩) m.length cap := hfin 43 (by decide)
     obtain rfl : v44 = .pointer (some ⟨g2, 3, none⟩) := hfin 44 (by decide)
     obtain rfl : v45 = .int .i64 o.pos := hfin 45 (by decide)
     obtain rfl : v46 = .slice (some ⟨g, 0, none⟩) m.length cap := hfin 46 (by decide)
     obtain rfl : v47 = .int .i64 m.length := hfin 47 (by decide)
     obtain rfl : v48 = .int .i64 k := hfin 48 (by decide)
     obtain rfl : v49 = .pointer (some ⟨g, k, none⟩) := hfin 49 (by decide)
     obtain rfl : v50 = .int .u8 (wI x) := hfin 50 (by decide)
     obtain rfl : v51 = .pointer (some ⟨g2, 4, none⟩) := hfin 51 (by decide)
     obtain rfl : v52 = .int .u8 (wI o.by_) := hfin 52 (by decide)
     obtain rfl : v53 = .int .u8 (wI (x ^^^ o.by_)) := hfin 53 (by decide)
     obtain rfl : v54 = .pointer (some ⟨g, k, none⟩) := hfin 54 (by decide)
     clear hfin
     simp only [List.drop_succ_cons, List.drop_zero]
     simp only [applyS] at H
     have HXN := kp (HOX.out.ext (Ext.refl wb) (fun g hg => by cases hg))
     go_wp2_with ((with_reducible refine isSt 5 ?_); (refine L_cell H rfl rfl 5 _ _ rfl 0 rfl (k) rfl (.int .u8 (wI (x ^^^ o.by_))) rfl (rfl) (size5) (HKC.out) (cs.set k (.int .u8 (wI (x ^^^ o.by_)))) (rfl) ?_; clear H; intro wz HWwz H; simp only [szA] at H))
     go_ret2
     refine msgR_some HK.out ?_ H.out.1
     rw [HAL.out.2]
     exact owns_close (Nat.le_trans HB1.out HGE.out) (H.out.at 0 rfl) HCAP.out.1 HCAP.out.2.1 (by rw [List.length_set]; exact HCAP.out.2.2) HAL.out.1
    ·obtain rfl : m = [] := List.eq_nil_of_length_eq_zero (by omega)
     obtain ⟨va, vc, rfl⟩ := owns_form HO3.out
     subst h6
     go_wp2_with fail
     go_ret2
     exact msgR_some HK.out (owns_weak HO3.out HB1.out) H.out.1
  ·have hk2 : (o.kind != 2) = true := by simp [h2]
   have HK := kp (show msgF o sent = none from by unfold msgF; rw [if_neg h3, if_pos (.inl h2)])
   go_wp2_with (first | ((with_reducible show wpList _ _ _ (Oper.mk (some 2) (Op.box 57 _) _ _ _ _ :: _) _ _); (refine L_box H rfl 57 _ rfl (cat (partsE o)) rfl ?_); clear H; intro g2 w2 HGg2 HEg2 H; simp only [Act.put, sbA, szA, ssA]) | ((with_reducible refine isLd 5 ?_); (refine L_f1 H rfl 5 _ rfl 0 rfl _ rfl _ rfl _ rfl Try.underlying5 rfl ?_); simp only [Act.put, sbA, szA, ssA]))
   go_ret2
   exact msgR_none HK.out H.out.1
end Go.Proofs.Ytibncchobkaaiaa
namespace Go.Proofs.Ytibncchobkaaiaa
open Go.RowKit
section
variable {P : Program}
theorem append_where (w : World) (base : Nat) (t ty e : TypeId) (i : TypeInfo) (z : Value) (ht : P.underlying t = some (.slice e)) (hi : P.info? e = some i) (hz : i.zero = some z)
  (v : Value) (n : Nat) (xs : List Value) (hown : w.ownsRow base e i.size v n xs)
  (a : Addr) (m c : Nat) (news : List Value) (hl : news.length = m * i.size) (hnews : ∀ j u, news[j]? = some u → w.cell? (a.add j) = some u) (h1 : ∀ u ∈ news, u.oneCell' = true)
  (h63 : n + m ≤ maxLen) (hbytes : (n + m) * i.bytes ≤ 140737488355328) (v' : Value) (w' : World) (hr : (Builtin.append_ #[t, t] ty #[v, .slice (some a) m c]).run P w = .ok v' w') (hm : 0 < m) :
  v'.ownBlock = v.ownBlock ∨ v'.ownBlock = some w.heap.size := by
 have hsmall : n + m ≤ 9223372036854775807 := by simp only [maxLen] at h63; omega
 rcases hown with ⟨hlen, ⟨rfl, rfl⟩ | ⟨g, cap, cur, rfl, hbg, hg, hnc, hcm, hcs, htake⟩⟩
 ·have h2 := run_append_nil (P := P) w t ty e i z ht hi hz a m c news hl hnews hm (by omega) (by have hb := hbytes; simp only [Nat.zero_add] at hb; omega)
  rw [h2] at hr
  cases hr
  exact .inr rfl
 ·by_cases hroom : n + m ≤ cap
  ·have hfit : n * i.size + news.length ≤ cur.size := by rw [hl, hcs, ← Nat.add_mul]; exact Nat.mul_le_mul_right _ hroom
   have h2 := run_append_room (P := P) w t ty e i ht hi g n cap cur hg a m c news hl hnews h1 hroom hfit
   rw [h2] at hr
   cases hr
   exact .inl rfl
  ·have holds : ∀ j u, xs[j]? = some u → w.cell? ((⟨g, 0, none⟩ : Addr).add j) = some u := World.ownsRow.cells (base := base) (e := e) (size := i.size) (n := n) (v := .slice (some ⟨g, 0, none⟩) n cap) ⟨hlen, .inr ⟨g, cap, cur, rfl, hbg, hg, hnc, hcm, hcs, htake⟩⟩ rfl
   have h2 := run_append_grow (P := P) w t ty e i z ht hi hz ⟨g, 0, none⟩ n cap xs hlen holds a m c news hl hnews (by omega) (by omega) (growslice_fits (by omega) hbytes)
   rw [h2] at hr
   cases hr
   exact .inr rfl
structure ElemT (P : Program) (t e : TypeId) (sz bytes : Nat) : Prop where
 under : P.underlying t = some (.slice e)
 info : ∃ i z, P.info? e = some i ∧ i.zero = some z ∧ i.size = sz ∧ i.bytes = bytes ∧ z.cells.size = sz
 pos : 0 < sz
theorem L_appT {α : Type} {sz : Nat} {f : α → List Value} {t e : TypeId} {bytes : Nat} (he : ElemT P t e sz bytes) 
  {w0 w : World} {bs : List Bk} {ops : Array Oper} {rest : List Oper} {o : Oper} {a : Act} {Q : Exit → Act → World → Prop} (H : Kp (Loc w0 w bs)) (hgd : o.guard = none) (s x : Operand)
  (ho : o.op = .call { callee := .builtin .append, args := #[s, x], argTypes := #[t, t] })
  (base : Nat) (hb0 : w0.heap.size ≤ base) (hbase : base ≤ w.heap.size) (v : Value) (xs : List α) (hs : a.eval s = v) (hown : w.ownsRow base e sz v xs.length (xs.flatMap f)) (hsep : ∀ g ∈ bs.map (·.1), v.ownBlock ≠ some g)
  (g : Nat) (y : α) (hx : a.eval x = .slice (some ⟨g, 0, none⟩) 1 1) (E : TypeId) (hy : Lc w g E (f y)) (hf : (f y).length = sz) (h1 : ∀ u ∈ f y, u.oneCell' = true) (hlen : (xs.length + 1) * bytes ≤ 140737488355328) (hlen2 : xs.length + 1 ≤ 100000000)
  (h : ∀ v' w', Kp (w'.ownsRow base e sz v' (xs ++ [y]).length ((xs ++ [y]).flatMap f)) → Kp (w.grownBy w' v.ownBlock) → Kp (v'.ownBlock = v.ownBlock ∨ v'.ownBlock = some w.heap.size) → Kp (Loc w0 w' bs) → wpList P ops Q rest (a.put o.dst v') w') : wpList P ops Q (o :: rest) a w := by
 obtain ⟨i, z, hi, hz, hsz, hby, hzs⟩ := he.info
 subst hsz hby
 have hl : (f y).length = 1 * i.size := by rw [hf, Nat.one_mul]
 have hnews : ∀ j u, (f y)[j]? = some u → w.cell? ((⟨g, 0, none⟩ : Addr).add j) = some u := fun j u hu => by
  rw [Addr.add_mid, Nat.zero_add]; exact hy.cell hu
 have h63 : xs.length + 1 ≤ maxLen := by simp only [maxLen]; omega
 refine wpList_plain hgd fun K hK => ?_
 obtain ⟨v', w', hr, h2, h3, _⟩ := run_append_own (P := P) w base t o.type e i z i.size i.bytes he.under hi hz rfl rfl hzs he.pos v xs.length (xs.flatMap f) hown ⟨g, 0, none⟩ 1 1 (f y) hl hnews h1 h63 hlen hbase
 have h4 := append_where (P := P) w base t o.type e i z he.under hi hz v xs.length (xs.flatMap f) hown ⟨g, 0, none⟩ 1 1 (f y) hl hnews h1 h63 hlen v' w' hr (by omega)
 unfold Oper.wp execOp
 simp only [ho, resolve, invoke, builtin, Sem.run_bind, Sem.run_pure, Result.andThen_ok, List.map_toArray, List.map_cons, List.map_nil, hs, hx, hr]
 refine hK _ _ (h v' w' (kp ?_) (kp h3) (kp h4) (kp ?_))
 ·rw [List.length_append, List.flatMap_append, List.flatMap_cons, List.flatMap_nil, List.append_nil]; exact h2
 ·refine ⟨H.out.1.grown h3 (fun k hk => Nat.le_trans hb0 (ownsT_block hown k hk)), H.out.2.1, fun b hbm => ⟨(H.out.2.2 b hbm).1, ?_⟩⟩
  have h5 := (H.out.2.2 b hbm).2
  exact (h3.block b.1 h5.lt (fun e => hsep b.1 (List.mem_map.2 ⟨b, hbm, rfl⟩) e.symm)).trans h5
end
theorem ownsT_lt {w : World} {base E n sz : Nat} {v : Value} {xs : List Value} (h : w.ownsRow base E sz v n xs) : ∀ k, v.ownBlock = some k → k < w.heap.size := by
 intro k hk
 obtain ⟨_, h2⟩ := h
 rcases h2 with ⟨rfl, _⟩ | ⟨g, cap, cur, rfl, hb, hg, _⟩
 ·cases hk
 ·have : g = k := by simpa [Value.ownBlock] using hk
  subst this
  exact (Array.getElem?_eq_some_iff.1 hg).1
theorem ownsT_grown {w w' : World} {base E n sz : Nat} {v : Value} {xs : List Value} {row : Option Nat} (h : w.ownsRow base E sz v n xs) (hg : w.grownBy w' row) (hne : ∀ k, v.ownBlock = some k → row ≠ some k) : w'.ownsRow base E sz v n xs :=
 ownsT_keep h fun k hk => hg.block k (ownsT_lt h k hk) (fun e => hne k hk e.symm)
end Go.Proofs.Ytibncchobkaaiaa
namespace Go.Proofs.Ytibncchobkaaiaa
open Go.RowKit
def LoopP (D : List Tmp) (R : (Tmp → Value) → World → Prop) (mu : (Tmp → Value) → World → Nat) (a0 : Act) (m : Nat) (a' : Act) (w' : World) : Prop :=
 a'.defers = a0.defers ∧ a'.tmps = putMany (fun d => a'.tmps.getD d undef) D a0.tmps ∧ R (fun d => a'.tmps.getD d undef) w' ∧ mu (fun d => a'.tmps.getD d undef) w' < m
theorem LoopP.of {D : List Tmp} {R : (Tmp → Value) → World → Prop} {mu : (Tmp → Value) → World → Nat} {a0 a' : Act} {m : Nat} {w' : World} (hd : a'.defers = a0.defers) (ht : a'.tmps = putMany (fun d => a'.tmps.getD d undef) D a0.tmps) (hr : R (fun d => a'.tmps.getD d undef) w') (hm : mu (fun d => a'.tmps.getD d undef) w' < m) : LoopP D R mu a0 m a' w' := ⟨hd, ht, hr, hm⟩
theorem act_eq {a a' : Act} {t : Array Value} (hd : a'.defers = a.defers) (ht : a'.tmps = t) : a' = ⟨t, a.defers⟩ := by
 cases a' with
 | mk t2 d => simp only at hd ht; rw [← hd]; congr 1
theorem wp_loopC {P : Program} {c : Code} {Q : Exit → Act → World → Prop} {a : Act} {w : World} (D : List Tmp) (R : (Tmp → Value) → World → Prop) (mu : (Tmp → Value) → World → Nat)
  (ht : a.tmps = putMany (fun d => a.tmps.getD d undef) D a.tmps) (h0 : R (fun d => a.tmps.getD d undef) w)
  (round : ∀ vs w', R vs w' → c.wp P (Exit.then (LoopP D R mu a (mu vs w')) Q) ⟨putMany vs D a.tmps, a.defers⟩ w') : (Code.loop c).wp P Q a w := by
 refine wp_loop (fun a' w' => a'.defers = a.defers ∧ a'.tmps = putMany (fun d => a'.tmps.getD d undef) D a.tmps ∧ R (fun d => a'.tmps.getD d undef) w') (fun a' w' => mu (fun d => a'.tmps.getD d undef) w') ⟨rfl, ht, h0⟩ ?_
 rintro a' w' ⟨h1, h2, h3⟩
 have h := round _ _ h3
 rw [← act_eq h1 h2] at h
 refine Code.wp_mono (fun e b v hb => ?_) h
 cases e with
 | normal =>
  obtain ⟨k1, k2, k3, k4⟩ := hb
  exact ⟨⟨k1, k2, k3⟩, k4⟩
 | _ => exact hb
end Go.Proofs.Ytibncchobkaaiaa
namespace Go.Proofs.Ytibncchobkaaiaa
open Go.RowKit
theorem ownsT_lt2 {w : World} {base E n sz : Nat} {v : Value} {xs : List Value} (h : w.ownsRow base E sz v n xs) {k : Nat} (hk : v.ownBlock = some k) : ∃ cs, w.heap[k]? = some (.cells cs E (0, 0)) := by
 obtain ⟨_, ⟨rfl, _⟩ | ⟨g, cap, cur, rfl, _, hg, _⟩⟩ := h
 ·cases hk
 ·have : g = k := by simpa [Value.ownBlock] using hk
  subst this
  exact ⟨cur, hg⟩
theorem owns_sep {w : World} {b1 E1 n1 s1 b2 E2 n2 s2 : Nat} {v1 v2 : Value} {x1 x2 : List Value} (h1 : w.ownsRow b1 E1 s1 v1 n1 x1) (h2 : w.ownsRow b2 E2 s2 v2 n2 x2) (hE : E1 ≠ E2) {k : Nat} (hk : v1.ownBlock = some k) : v2.ownBlock ≠ some k := by
 intro q
 obtain ⟨c1, e1⟩ := ownsT_lt2 h1 hk
 obtain ⟨c2, e2⟩ := ownsT_lt2 h2 q
 rw [e1] at e2
 cases e2
 exact hE rfl
theorem ownsT_sepG {w w' : World} {b1 E1 n1 s1 b2 E2 n2 s2 : Nat} {v1 v2 : Value} {x1 x2 : List Value} (h1 : w.ownsRow b1 E1 s1 v1 n1 x1) (h2 : w.ownsRow b2 E2 s2 v2 n2 x2) (hE : E1 ≠ E2) (hg : w.grownBy w' v2.ownBlock) : w'.ownsRow b1 E1 s1 v1 n1 x1 :=
 ownsT_grown h1 hg fun _ hk q => owns_sep h1 h2 hE hk q
theorem SlBB.chg {B : Nat} {w w' : World} {v : Value} {ls : List By} (h : SlBB B w v ls) (hc : Chg w.heap.size w w') : SlBB B w' v ls := by
 obtain ⟨vs, h1, h2, h3⟩ := h
 exact ⟨vs, ownsT_chgB h1 hc, h2, fun j u l hu hl => ownsT_chgB (h3 j u l hu hl) hc⟩
theorem SlBB.sepG {B b2 E2 n2 s2 : Nat} {w w' : World} {v v2 : Value} {x2 : List Value} {ls : List By} (h : SlBB B w v ls) (h2 : w.ownsRow b2 E2 s2 v2 n2 x2) (hE : E2 ≠ 5) (hE2 : E2 ≠ 33) (hg : w.grownBy w' v2.ownBlock) : SlBB B w' v ls := by
 obtain ⟨vs, h1, k2, h3⟩ := h
 exact ⟨vs, ownsT_sepG h1 h2 (Ne.symm hE2) hg, k2, fun j u l hu hl => ownsT_sepG (h3 j u l hu hl) h2 (Ne.symm hE) hg⟩
theorem elemB : ElemT Try.prog 34 33 1 24 := by
 refine ⟨Try.underlying34, ?_, by decide⟩
 have h : (Try.prog.info? 33).map (fun i => (i.zero, i.size, i.bytes)) = some (some (.slice none 0 0), 1, 24) := by kernel_rfl
 cases hq : Try.prog.info? 33 with
 | none => simp [hq] at h
 | some i =>
  rw [hq] at h
  simp only [Option.map_some, Option.some.injEq, Prod.mk.injEq] at h
  exact ⟨i, _, rfl, h.1, h.2.1, h.2.2, rfl⟩
def cells2 (s : Fw × Fw) : List Value := cat (parts2 s)
theorem cells2_len (s : Fw × Fw) : (cells2 s).length = 262 := by
 unfold cells2 parts2
 rw [cat_len, lsum_append, show lsum (partsF s.1) = 131 from by kernel_rfl, show lsum (partsF s.2) = 131 from by kernel_rfl]
theorem cells2_one (s : Fw × Fw) : ∀ u ∈ cells2 s, u.oneCell' = true := List.all_eq_true.1 (cat_one _)
theorem elem2 : ElemT Try.prog 65 55 262 336 := by
 refine ⟨Try.underlying65, ?_, by decide⟩
 have h : (Try.prog.info? 55).map (fun i => (i.zero, i.size, i.bytes)) = some (some (.agg (cells2 (fw0, fw0)).toArray), 262, 336) := by kernel_rfl
 cases hq : Try.prog.info? 55 with
 | none => simp [hq] at h
 | some i =>
  rw [hq] at h
  simp only [Option.map_some, Option.some.injEq, Prod.mk.injEq] at h
  exact ⟨i, _, rfl, h.1, h.2.1, h.2.2, by show (cells2 (fw0, fw0)).toArray.size = 262; rw [List.size_toArray, cells2_len]⟩
theorem run_bs2 (s : Fw × Fw) (w : World) : (Instr.buildSlice 65 1 #[(0, .agg (cells2 s).toArray)]).run Try.prog w = .ok (.slice (some ⟨w.heap.size, 0, none⟩) 1 1) (w.alloc (.cells (cells2 s).toArray 55)) := by
 obtain ⟨i, z, hi, hz, hsz, _, hzs⟩ := elem2.info
 have hz2 : z = .agg (cells2 (fw0, fw0)).toArray := by
  have h : (Try.prog.info? 55).map (·.zero) = some (some (.agg (cells2 (fw0, fw0)).toArray)) := by kernel_rfl
  rw [hi] at h
  simp only [Option.map_some, Option.some.injEq] at h
  rw [hz] at h
  exact Option.some.inj h
 refine run_buildSlice w _ _ 1 _ (cells2 s).toArray i z Try.underlying65 hi hz (by rw [hsz]; decide) (by rw [hsz]; decide) ?_
 rw [hsz, hz2]
 have e : (Array.range (1 * 262)).map ((Value.agg (cells2 (fw0, fw0)).toArray).cells[· % (Value.agg (cells2 (fw0, fw0)).toArray).cells.size]!) = (cat (parts2 (fw0, fw0))).toArray := by kernel_rfl
 rw [e]
 exact (fill_cat _ _ 0 _ [] 0 0 32 (parts2 s) rfl (by show some (0 * 262, 262) = _; rw [show lsum (parts2 s) = 262 from by kernel_rfl]) (by kernel_rfl) (by kernel_rfl) (parts2 s) (by kernel_rfl)).trans rfl
theorem L_appM {w0 w : World} {bs : List Bk} {ops : Array Oper} {rest : List Oper} {o : Oper} {a : Act} {Q : Exit → Act → World → Prop} (H : Kp (Loc w0 w bs)) (hgd : o.guard = none) (s x : Operand)
  (ho : o.op = .call { callee := .builtin .append, args := #[s, x], argTypes := #[34, 34] })
  (base : Nat) (hb0 : w0.heap.size ≤ base) (hbase : base ≤ w.heap.size) (hlt : ∀ g ∈ bs.map (·.1), g < base) (v : Value) (ls : List By) (hs : a.eval s = v) (hown : SlBB base w v ls)
  (vx : Value) (ms : List By) (base2 : Nat) (hx : a.eval x = vx) (hms : SlBB base2 w vx ms) (hb2 : base ≤ base2) (hlen : ls.length + ms.length ≤ 100000)
  (h : ∀ v' w', Kp (SlBB base w' v' (ls ++ ms)) → Kp (w.grownBy w' v.ownBlock) → Kp (Loc w0 w' bs) → wpList Try.prog ops Q rest (a.put o.dst v') w') : wpList Try.prog ops Q (o :: rest) a w := by
 obtain ⟨i, z, hi, hz, hsz, hby, hzs⟩ := elemB.info
 obtain ⟨vs, h1, h2, h3⟩ := hown
 obtain ⟨us, k1, k2, k3⟩ := hms
 have hl1 : vs.length = ls.length := h2
 have hl2 : us.length = ms.length := k2
 have hlocG : ∀ w', w.grownBy w' v.ownBlock → Loc w0 w' bs := fun w' hg => by
  refine ⟨H.out.1.grown hg (fun k hk => Nat.le_trans hb0 (ownsT_block h1 k hk)), H.out.2.1, fun b hbm => ⟨(H.out.2.2 b hbm).1, ?_⟩⟩
  have h5 := (H.out.2.2 b hbm).2
  have h6 := hlt b.1 (List.mem_map.2 ⟨b, hbm, rfl⟩)
  exact (hg.block b.1 h5.lt (fun e => by have := ownsT_block h1 b.1 e.symm; omega)).trans h5
 have hfin : ∀ v' w', w'.ownsRow base 33 1 v' (ls.length + ms.length) (vs ++ us) → w.grownBy w' v.ownBlock → SlBB base w' v' (ls ++ ms) := fun v' w' q1 q2 => by
  refine ⟨vs ++ us, by rw [List.length_append]; exact q1, by rw [List.length_append, List.length_append, hl1, hl2], fun j u l hu hl => ?_⟩
  by_cases hj : j < ls.length
  ·rw [List.getElem?_append_left (by omega)] at hu
   rw [List.getElem?_append_left hj] at hl
   exact ownsT_sepG (h3 j u l hu hl) h1 (by decide) q2
  ·rw [List.getElem?_append_right (by omega)] at hu
   rw [List.getElem?_append_right (by omega)] at hl
   exact ownsT_sepG (owns_weak (k3 (j - ls.length) u l (by rwa [hl1] at hu) hl) hb2) h1 (by decide) q2
 rcases k1 with ⟨k1, ⟨rfl, hn⟩ | ⟨g, cap, cur, rfl, _, hg, h5, h6, h7, h8⟩⟩
 ·refine wpList_append_own_none hgd s x 34 ho base 33 i 1 Try.underlying34 hi v ls.length vs hs h1 hx ?_
  have hus : us = [] := List.eq_nil_of_length_eq_zero (by omega)
  have hgr : w.grownBy w v.ownBlock := ⟨rfl, rfl, rfl, Nat.le_refl _, fun _ _ _ => rfl⟩
  refine h v w (kp (hfin v w ?_ hgr)) (kp hgr) (kp (hlocG w hgr))
  rw [hus, List.append_nil, hn, Nat.add_zero]; exact h1
 ·refine wpList_append_own w hgd s x 34 ho base 33 i z 1 24 Try.underlying34 hi hz hsz hby hzs (by decide) v ls.length vs hs h1 ⟨g, 0, none⟩ ms.length cap us hx (by omega) (fun j u hu => ?_) (fun u hu => ?_) (by unfold maxLen; omega) (by omega) hbase ?_
  ·rw [Addr.add_mid, Nat.zero_add]
   have hL : Lc w g 33 cur.toList := hg
   refine hL.cell ?_
   have hj := (List.getElem?_eq_some_iff.1 hu).1
   rw [← h8, List.getElem?_take, if_pos (by omega)] at hu
   exact hu
  ·obtain ⟨j, hj⟩ := List.getElem?_of_mem hu
   obtain ⟨l, hl⟩ : ∃ l, ms[j]? = some l := ⟨_, List.getElem?_eq_getElem (by have := (List.getElem?_eq_some_iff.1 hj).1; omega)⟩
   obtain ⟨a, c, rfl⟩ := owns_form (k3 j u l hj hl)
   rfl
  ·intro v' w' q1 q2 _
   exact h v' w' (kp (hfin v' w' q1 q2)) (kp q2) (kp (hlocG w' q2))
theorem start_out (s : Fw) (now : Int) : (∀ m ∈ (startF s now).2.1, m.length ≤ 100000) ∧ (startF s now).2.1.length ≤ 1 := by
 unfold startF
 split
 ·exact ⟨(fun m hm => by cases hm), by simp [errR]⟩
 ·split
  ·exact ⟨(fun m hm => by cases hm), by simp [errR]⟩
  ·exact ⟨(fun m hm => by obtain rfl := List.mem_singleton.1 hm; exact send_len _), by simp⟩
theorem tick_out (s : Fw) (now : Int) : (∀ m ∈ (tickF s now).2.1, m.length ≤ 100000) ∧ (tickF s now).2.1.length ≤ 1 := by
 unfold tickF
 split
 ·exact ⟨(fun m hm => by cases hm), by simp [errR]⟩
 ·split
  ·exact ⟨(fun m hm => by cases hm), by simp⟩
  ·split
   ·exact ⟨(fun m hm => by cases hm), by simp⟩
   ·exact ⟨(fun m hm => by obtain rfl := List.mem_singleton.1 hm; exact send_len _), by simp⟩
theorem handle_one (s : Fw) (b : By) (now : Int) : (handleF s b now).2.1.length ≤ 1 := by
 have hs2 : (secondF s b now).2.1.length ≤ 1 := by unfold secondF; split <;> simp [errR]
 have hs4 : (fourthF s b).2.1.length ≤ 1 := by unfold fourthF; split <;> simp [errR]
 have hs3 : (thirdF s b).2.1.length ≤ 1 := by unfold thirdF; split <;> simp [errR]
 unfold handleF
 split
 ·simp [errR]
 ·split
  ·simp [errR]
  ·split
   ·exact hs2
   ·split
    ·exact hs4
    ·split
     ·simp [firstF]
     ·split
      ·exact hs3
      ·simp [errR]
theorem step_out (o : Ev) (now : Int) (sent : List By) (s : Fw) : (∀ m ∈ (stepF o now sent s).2.1, m.length ≤ 100000) ∧ (stepF o now sent s).2.1.length ≤ 1 := by
 unfold stepF
 split
 ·exact start_out s now
 ·split
  ·exact ⟨handle_len s _ now, handle_one s _ now⟩
  ·exact tick_out s now
theorem msgF_len {o : Ev} {sent : List By} (h : ∀ m ∈ sent, m.length ≤ 100000) {b : By} (hb : msgF o sent = some b) : b.length ≤ 100000 := by
 unfold msgF at hb
 split at hb
 ·cases hb; rw [signedF_len _ _ _ _ _ o.nonce.2]; decide
 ·split at hb
  ·cases hb
  ·rename_i q
   cases hb
   have hs : sent ≠ [] := fun e => q (.inr e)
   have hlt : o.which.toNat % sent.length < sent.length := Nat.mod_lt _ (List.length_pos_iff.2 hs)
   unfold altF
   rw [List.length_set, List.getD_eq_getElem?_getD, List.getElem?_eq_getElem hlt]
   exact h _ (List.getElem_mem hlt)
theorem run_cons {x : Ev} {l : List Ev} {s : Fw × Fw} {sent : List By} {now : Int} {r : Res} (hr : stepF x (now + x.wait) sent (sideF x s) = r) : runF (x :: l) s sent now = if r.2.2 = 0 ∧ badB x sent = true then [] else nextF x s r :: runF l (nextF x s r) (sentF sent r) (now + x.wait) := by
 rw [← hr]; rfl
end Go.Proofs.Ytibncchobkaaiaa
