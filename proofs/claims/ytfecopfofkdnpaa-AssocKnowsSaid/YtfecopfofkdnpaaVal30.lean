/- hotspotref30.Valid: it answers valid30F. -/
import Derived.Test.YtfecopfofkdnpaaChk
namespace Go.Proofs.Ytfecopfofkdnpaa
open Go.RowKit
theorem bad30_at {a : As} {l : List En} {j : Nat} (hj : j < l.length) (h : ok30At a.own l j = false) : valid30F a l = false := by
  have : all30 a.own l = false := by
    rw [all30, List.all_eq_false]
    exact ⟨j, List.mem_range.2 hj, by simp [h]⟩
  simp [valid30F, this]
theorem all30_at {own : List (BitVec 8)} {l : List En} (h : ∀ k, k < l.length → ok30At own l k = true) : all30 own l = true := by
  rw [all30, List.all_eq_true]
  exact fun k hk => h k (List.mem_range.1 hk)
def pre7 (own : List (BitVec 8)) (l : List En) (x : En) (j : Nat) : Bool := !groupF x.addr && !(x.addr == own) && inF x.seen 0 1099511627776 && ordAt l j
def zero7 (x : En) : Bool := x.aid == 0 && x.caps == 0 && x.listen == 0
def mem7 (l : List En) (x : En) (j : Nat) : Bool := inF x.aid 1 255 && inF x.caps 0 65535 && inF x.listen 0 65535 && holderF l x.aid == j
theorem ok30_of {own : List (BitVec 8)} {l : List En} {j : Nat} {x : En} (hx : l[j]? = some x) : ok30At own l j = (pre7 own l x j && (if x.state = 1 then zero7 x else if x.state = 2 then mem7 l x j else false)) := by
  rw [ok30At, enAt_some hx]
  unfold entF pre7 zero7 mem7 bne
  by_cases h1 : x.state = 1
  · simp only [h1, if_true]
    cases groupF x.addr <;> cases (x.addr == own) <;> cases inF x.seen 0 1099511627776 <;> cases ordAt l j <;> simp
  · by_cases h2 : x.state = 2
    · simp only [h2, if_true]
      cases groupF x.addr <;> cases (x.addr == own) <;> cases inF x.seen 0 1099511627776 <;> cases ordAt l j <;> simp [Bool.and_assoc]
    · have e1 : (x.state == 2) = false := by simp [h2]
      simp [h1, h2, e1]
set_option maxRecDepth 10000 in
set_option maxHeartbeats 6400000 in
theorem valid30_any (a : As) (ha : a.own.length = 6) (v : Value) (l : List En) (hl : ∀ x ∈ l, x.addr.length = 6) (hn : l.length ≤ 100000) (w : World) (hs : SlT 11 cellsE w v l) :
    Calls Try.prog 14 #[.agg (cellsA a v).toArray] w fun e w' => e = .returned (.bool (valid30F a l)) ∧ Ext w w' := by
  have HSL := kp hs
  have HLN := kp hn
  obtain ⟨ad, n, c, rfl, hnl, hcap, hat⟩ := hs
  have HAT := kp hat; have HNL := kp hnl; have HLK := kp hl; have H := kp (Loc.start w); have hn2 : n ≤ 100000 := by omega
  have HC6 := kp (cA6 (a := a) (.slice ad n c) ha)
  have HC7 := kp (cA7 (a := a) (.slice ad n c) ha)
  have HC8 := kp (cA8 (a := a) (.slice ad n c) ha)
  have HC9 := kp (cA9 (a := a) (.slice ad n c) ha)
  have HOW := kp (cellsA_own (a := a) (.slice ad n c) ha)
  have HZO6 := kp (sizeA8 ha)
  have HOL := kp ha
  have HGR := kp (group2_any a.own ha)
  have H22 := kp (in30_any a.caps 0 65535)
  have H33 := kp (in30_any a.limit 1 255)
  have H44 := kp (in30_any a.idle 1 1073741824)
  have HZE0 := kp (show (Try.prog.info? 39).map (·.size) = some (cellsE en0).length by kernel_rfl)
  have HOE := kp one_cellsE
  have HME := kp (fun w' hx => members30_any (.slice ad n c) l hl hn w' (HSL.out.ext hx))
  have HHO := kp (fun aid w' hx => holder_any (.slice ad n c) l hl hn aid w' (HSL.out.ext hx))
  have HHF := kp (show headF a l.length = (!groupF a.own && inF a.caps 0 65535 && inF a.limit 1 255 && inF a.idle 1 1073741824 && decide (l.length ≤ 64)) from rfl)
  have HVA := kp (show valid30F a l = (headF a l.length && decide ((membersF l : Int) ≤ a.limit) && all30 a.own l) from rfl)
  have HML := kp (mem_le l)
  clear hat hl hnl hcap hn ha
  go_enter Try.func14, Try.ntmps14
  generalize h1 : (Code.region 1 _ _ : Code) = R1
  go_wp2_with (first | ((with_reducible show wpList _ _ _ (Oper.mk (some 1) (Op.box 26 _) _ _ _ _ :: _) _ _); (with_reducible refine L_box H rfl 26 _ rfl (cellsA a (.slice ad n c)) rfl ?_); clear H; intro g1 w1 HGg1 HEg1 H; simp only [Act.put, List.setIfInBounds_toArray, List.set_cons_zero, List.set_cons_succ]))
  subst h1
  refine wp_cut [5, 6, 7, 8, 9, 10, 11, 12, 13, 14, 15, 16, 17, 18, 19, 20, 21, 22, 23, 24, 25, 26, 27, 28, 29, 30, 31, 32, 33, 34, 35, 36, 37, 38, 39] (fun vs w' => Kp (Loc w w' [(g1, 26, cellsA a (.slice ad n c))]) ∧ vs 39 = .bool (!(headF a l.length && decide ((membersF l : Int) ≤ a.limit)))) ?_ ?_
  · rw [HHF.out, ← HNL.out]
    cases hb1 : groupF a.own with
    | true =>
      rw [hb1] at HGR
      clear hb1
      refine region_free H (tabS [(5, fun zv _ => zv = .pointer (some ⟨g1, 0, none⟩)), (6, fun zv _ => zv = .agg (a.own.map V8).toArray), (7, fun zv _ => zv = .bool true), (8, fun zv _ => zv = .bool true), (9, fun zv _ => zv = undef), (10, fun zv _ => zv = undef), (11, fun zv _ => zv = undef), (12, fun zv _ => zv = undef), (13, fun zv _ => zv = .bool true), (14, fun zv _ => zv = .bool true), (15, fun zv _ => zv = undef), (16, fun zv _ => zv = undef), (17, fun zv _ => zv = undef), (18, fun zv _ => zv = undef), (19, fun zv _ => zv = .bool true), (20, fun zv _ => zv = .bool true), (21, fun zv _ => zv = undef), (22, fun zv _ => zv = undef), (23, fun zv _ => zv = undef), (24, fun zv _ => zv = undef), (25, fun zv _ => zv = .bool true), (26, fun zv _ => zv = .bool true), (27, fun zv _ => zv = undef), (28, fun zv _ => zv = undef), (29, fun zv _ => zv = undef), (30, fun zv _ => zv = undef), (31, fun zv _ => zv = .bool true), (32, fun zv _ => zv = .bool true), (33, fun zv _ => zv = undef), (34, fun zv _ => zv = undef), (35, fun zv _ => zv = undef), (36, fun zv _ => zv = undef), (37, fun zv _ => zv = undef), (38, fun zv _ => zv = undef), (39, fun zv _ => zv = .bool true)]) [] (tabS_out _ _ (by simp only [List.forall_mem_cons]; exact ⟨mono_eqO _ _, mono_eqO _ _, mono_eqO _ _, mono_eqO _ _, mono_eqO _ _, mono_eqO _ _, mono_eqO _ _, mono_eqO _ _, mono_eqO _ _, mono_eqO _ _, mono_eqO _ _, mono_eqO _ _, mono_eqO _ _, mono_eqO _ _, mono_eqO _ _, mono_eqO _ _, mono_eqO _ _, mono_eqO _ _, mono_eqO _ _, mono_eqO _ _, mono_eqO _ _, mono_eqO _ _, mono_eqO _ _, mono_eqO _ _, mono_eqO _ _, mono_eqO _ _, mono_eqO _ _, mono_eqO _ _, mono_eqO _ _, mono_eqO _ _, mono_eqO _ _, mono_eqO _ _, mono_eqO _ _, mono_eqO _ _, mono_eqO _ _, by simp⟩)) 35 (by kernel_rfl) (by kernel_rfl) (by kernel_rfl) (by kernel_rfl) [] [] rfl rfl (by decide) (by decide) (by decide) trivial ?_
      simp only [List.take_succ_cons, List.take_zero]
      refine ⟨fun wv5 hov5 hSv5 => ?_, fun v5 => ?_⟩
      · clear hSv5
        clear hov5
        go_wp2_with fail
        exact ⟨rfl, _, rfl, fun d hd => by cases hd; exact rfl, Ext.refl _⟩
      simp only [Act.put, List.setIfInBounds_toArray, List.set_cons_zero, List.set_cons_succ]
      refine ⟨fun wv6 hov6 hSv6 => ?_, fun v6 => ?_⟩
      · obtain rfl : v5 = .pointer (some ⟨g1, 0, none⟩) := hSv6 5 (by decide) (by decide)
        clear hSv6
        have H := kp (H.out.keep [0] (St := []) trivial hov6 (by decide) (by kernel_rfl))
        have HOX := kp hov6
        clear hov6
        go_wp2_with ((with_reducible show wpList _ _ _ (Oper.mk _ (Op.load 23 _) _ _ _ _ :: _) _ _); refine L_subG H (by kernel_rfl) 23 _ rfl 0 rfl (0) rfl (a.own.map V8) (HOW.out) Try.underlying23 rfl (HZO6.out) ?_; simp only [Act.put, List.setIfInBounds_toArray, List.set_cons_zero, List.set_cons_succ])
        exact ⟨rfl, _, rfl, fun d hd => by cases hd; exact rfl, Ext.refl _⟩
      simp only [Act.put, List.setIfInBounds_toArray, List.set_cons_zero, List.set_cons_succ]
      refine ⟨fun wv7 hov7 hSv7 => ?_, fun v7 => ?_⟩
      · obtain rfl : v6 = .agg (a.own.map V8).toArray := hSv7 6 (by decide) (by decide)
        clear hSv7
        have H := kp (H.out.keep [0] (St := []) trivial hov7 (by decide) (by kernel_rfl))
        have HOX := kp hov7
        clear hov7
        go_wp2_with fail
        refine (HGR.out _).mono ?_
        rintro e w2 ⟨rfl, hx⟩
        have HXW := kp hx
        clear hx
        go_wp2_with fail
        exact ⟨rfl, _, rfl, fun d hd => by cases hd; exact rfl, HXW.out⟩
      simp only [Act.put, List.setIfInBounds_toArray, List.set_cons_zero, List.set_cons_succ]
      refine ⟨fun wv8 hov8 hSv8 => ?_, fun v8 => ?_⟩
      · obtain rfl : v7 = .bool true := hSv8 7 (by decide) (by decide)
        clear hSv8
        clear hov8
        go_wp2_with fail
        exact ⟨rfl, _, rfl, fun d hd => by cases hd; exact rfl, Ext.refl _⟩
      simp only [Act.put, List.setIfInBounds_toArray, List.set_cons_zero, List.set_cons_succ]
      refine ⟨fun wv9 hov9 hSv9 => ?_, fun v9 => ?_⟩
      · obtain rfl : v8 = .bool true := hSv9 8 (by decide) (by decide)
        clear hSv9
        clear hov9
        go_wp2_with fail
        exact ⟨rfl, _, rfl, fun d hd => by cases hd; exact rfl, Ext.refl _⟩
      simp only [Act.put, List.setIfInBounds_toArray, List.set_cons_zero, List.set_cons_succ]
      refine ⟨fun wv10 hov10 hSv10 => ?_, fun v10 => ?_⟩
      · obtain rfl : v8 = .bool true := hSv10 8 (by decide) (by decide)
        clear hSv10
        clear hov10
        go_wp2_with fail
        exact ⟨rfl, _, rfl, fun d hd => by cases hd; exact rfl, Ext.refl _⟩
      simp only [Act.put, List.setIfInBounds_toArray, List.set_cons_zero, List.set_cons_succ]
      refine ⟨fun wv11 hov11 hSv11 => ?_, fun v11 => ?_⟩
      · obtain rfl : v8 = .bool true := hSv11 8 (by decide) (by decide)
        clear hSv11
        clear hov11
        go_wp2_with fail
        exact ⟨rfl, _, rfl, fun d hd => by cases hd; exact rfl, Ext.refl _⟩
      simp only [Act.put, List.setIfInBounds_toArray, List.set_cons_zero, List.set_cons_succ]
      refine ⟨fun wv12 hov12 hSv12 => ?_, fun v12 => ?_⟩
      · obtain rfl : v8 = .bool true := hSv12 8 (by decide) (by decide)
        clear hSv12
        clear hov12
        go_wp2_with fail
        exact ⟨rfl, _, rfl, fun d hd => by cases hd; exact rfl, Ext.refl _⟩
      simp only [Act.put, List.setIfInBounds_toArray, List.set_cons_zero, List.set_cons_succ]
      refine ⟨fun wv13 hov13 hSv13 => ?_, fun v13 => ?_⟩
      · obtain rfl : v8 = .bool true := hSv13 8 (by decide) (by decide)
        obtain rfl : v12 = undef := hSv13 12 (by decide) (by decide)
        clear hSv13
        clear hov13
        go_wp2_with fail
        exact ⟨rfl, _, rfl, fun d hd => by cases hd; exact rfl, Ext.refl _⟩
      simp only [Act.put, List.setIfInBounds_toArray, List.set_cons_zero, List.set_cons_succ]
      refine ⟨fun wv14 hov14 hSv14 => ?_, fun v14 => ?_⟩
      · obtain rfl : v13 = .bool true := hSv14 13 (by decide) (by decide)
        clear hSv14
        clear hov14
        go_wp2_with fail
        exact ⟨rfl, _, rfl, fun d hd => by cases hd; exact rfl, Ext.refl _⟩
      simp only [Act.put, List.setIfInBounds_toArray, List.set_cons_zero, List.set_cons_succ]
      refine ⟨fun wv15 hov15 hSv15 => ?_, fun v15 => ?_⟩
      · obtain rfl : v14 = .bool true := hSv15 14 (by decide) (by decide)
        clear hSv15
        clear hov15
        go_wp2_with fail
        exact ⟨rfl, _, rfl, fun d hd => by cases hd; exact rfl, Ext.refl _⟩
      simp only [Act.put, List.setIfInBounds_toArray, List.set_cons_zero, List.set_cons_succ]
      refine ⟨fun wv16 hov16 hSv16 => ?_, fun v16 => ?_⟩
      · obtain rfl : v14 = .bool true := hSv16 14 (by decide) (by decide)
        clear hSv16
        clear hov16
        go_wp2_with fail
        exact ⟨rfl, _, rfl, fun d hd => by cases hd; exact rfl, Ext.refl _⟩
      simp only [Act.put, List.setIfInBounds_toArray, List.set_cons_zero, List.set_cons_succ]
      refine ⟨fun wv17 hov17 hSv17 => ?_, fun v17 => ?_⟩
      · obtain rfl : v14 = .bool true := hSv17 14 (by decide) (by decide)
        clear hSv17
        clear hov17
        go_wp2_with fail
        exact ⟨rfl, _, rfl, fun d hd => by cases hd; exact rfl, Ext.refl _⟩
      simp only [Act.put, List.setIfInBounds_toArray, List.set_cons_zero, List.set_cons_succ]
      refine ⟨fun wv18 hov18 hSv18 => ?_, fun v18 => ?_⟩
      · obtain rfl : v14 = .bool true := hSv18 14 (by decide) (by decide)
        clear hSv18
        clear hov18
        go_wp2_with fail
        exact ⟨rfl, _, rfl, fun d hd => by cases hd; exact rfl, Ext.refl _⟩
      simp only [Act.put, List.setIfInBounds_toArray, List.set_cons_zero, List.set_cons_succ]
      refine ⟨fun wv19 hov19 hSv19 => ?_, fun v19 => ?_⟩
      · obtain rfl : v14 = .bool true := hSv19 14 (by decide) (by decide)
        obtain rfl : v18 = undef := hSv19 18 (by decide) (by decide)
        clear hSv19
        clear hov19
        go_wp2_with fail
        exact ⟨rfl, _, rfl, fun d hd => by cases hd; exact rfl, Ext.refl _⟩
      simp only [Act.put, List.setIfInBounds_toArray, List.set_cons_zero, List.set_cons_succ]
      refine ⟨fun wv20 hov20 hSv20 => ?_, fun v20 => ?_⟩
      · obtain rfl : v19 = .bool true := hSv20 19 (by decide) (by decide)
        clear hSv20
        clear hov20
        go_wp2_with fail
        exact ⟨rfl, _, rfl, fun d hd => by cases hd; exact rfl, Ext.refl _⟩
      simp only [Act.put, List.setIfInBounds_toArray, List.set_cons_zero, List.set_cons_succ]
      refine ⟨fun wv21 hov21 hSv21 => ?_, fun v21 => ?_⟩
      · obtain rfl : v20 = .bool true := hSv21 20 (by decide) (by decide)
        clear hSv21
        clear hov21
        go_wp2_with fail
        exact ⟨rfl, _, rfl, fun d hd => by cases hd; exact rfl, Ext.refl _⟩
      simp only [Act.put, List.setIfInBounds_toArray, List.set_cons_zero, List.set_cons_succ]
      refine ⟨fun wv22 hov22 hSv22 => ?_, fun v22 => ?_⟩
      · obtain rfl : v20 = .bool true := hSv22 20 (by decide) (by decide)
        clear hSv22
        clear hov22
        go_wp2_with fail
        exact ⟨rfl, _, rfl, fun d hd => by cases hd; exact rfl, Ext.refl _⟩
      simp only [Act.put, List.setIfInBounds_toArray, List.set_cons_zero, List.set_cons_succ]
      refine ⟨fun wv23 hov23 hSv23 => ?_, fun v23 => ?_⟩
      · obtain rfl : v20 = .bool true := hSv23 20 (by decide) (by decide)
        clear hSv23
        clear hov23
        go_wp2_with fail
        exact ⟨rfl, _, rfl, fun d hd => by cases hd; exact rfl, Ext.refl _⟩
      simp only [Act.put, List.setIfInBounds_toArray, List.set_cons_zero, List.set_cons_succ]
      refine ⟨fun wv24 hov24 hSv24 => ?_, fun v24 => ?_⟩
      · obtain rfl : v20 = .bool true := hSv24 20 (by decide) (by decide)
        clear hSv24
        clear hov24
        go_wp2_with fail
        exact ⟨rfl, _, rfl, fun d hd => by cases hd; exact rfl, Ext.refl _⟩
      simp only [Act.put, List.setIfInBounds_toArray, List.set_cons_zero, List.set_cons_succ]
      refine ⟨fun wv25 hov25 hSv25 => ?_, fun v25 => ?_⟩
      · obtain rfl : v20 = .bool true := hSv25 20 (by decide) (by decide)
        obtain rfl : v24 = undef := hSv25 24 (by decide) (by decide)
        clear hSv25
        clear hov25
        go_wp2_with fail
        exact ⟨rfl, _, rfl, fun d hd => by cases hd; exact rfl, Ext.refl _⟩
      simp only [Act.put, List.setIfInBounds_toArray, List.set_cons_zero, List.set_cons_succ]
      refine ⟨fun wv26 hov26 hSv26 => ?_, fun v26 => ?_⟩
      · obtain rfl : v25 = .bool true := hSv26 25 (by decide) (by decide)
        clear hSv26
        clear hov26
        go_wp2_with fail
        exact ⟨rfl, _, rfl, fun d hd => by cases hd; exact rfl, Ext.refl _⟩
      simp only [Act.put, List.setIfInBounds_toArray, List.set_cons_zero, List.set_cons_succ]
      refine ⟨fun wv27 hov27 hSv27 => ?_, fun v27 => ?_⟩
      · obtain rfl : v26 = .bool true := hSv27 26 (by decide) (by decide)
        clear hSv27
        clear hov27
        go_wp2_with fail
        exact ⟨rfl, _, rfl, fun d hd => by cases hd; exact rfl, Ext.refl _⟩
      simp only [Act.put, List.setIfInBounds_toArray, List.set_cons_zero, List.set_cons_succ]
      refine ⟨fun wv28 hov28 hSv28 => ?_, fun v28 => ?_⟩
      · obtain rfl : v26 = .bool true := hSv28 26 (by decide) (by decide)
        clear hSv28
        clear hov28
        go_wp2_with fail
        exact ⟨rfl, _, rfl, fun d hd => by cases hd; exact rfl, Ext.refl _⟩
      simp only [Act.put, List.setIfInBounds_toArray, List.set_cons_zero, List.set_cons_succ]
      refine ⟨fun wv29 hov29 hSv29 => ?_, fun v29 => ?_⟩
      · obtain rfl : v26 = .bool true := hSv29 26 (by decide) (by decide)
        clear hSv29
        clear hov29
        go_wp2_with fail
        exact ⟨rfl, _, rfl, fun d hd => by cases hd; exact rfl, Ext.refl _⟩
      simp only [Act.put, List.setIfInBounds_toArray, List.set_cons_zero, List.set_cons_succ]
      refine ⟨fun wv30 hov30 hSv30 => ?_, fun v30 => ?_⟩
      · obtain rfl : v26 = .bool true := hSv30 26 (by decide) (by decide)
        clear hSv30
        clear hov30
        go_wp2_with fail
        exact ⟨rfl, _, rfl, fun d hd => by cases hd; exact rfl, Ext.refl _⟩
      simp only [Act.put, List.setIfInBounds_toArray, List.set_cons_zero, List.set_cons_succ]
      refine ⟨fun wv31 hov31 hSv31 => ?_, fun v31 => ?_⟩
      · obtain rfl : v26 = .bool true := hSv31 26 (by decide) (by decide)
        obtain rfl : v30 = undef := hSv31 30 (by decide) (by decide)
        clear hSv31
        clear hov31
        go_wp2_with fail
        exact ⟨rfl, _, rfl, fun d hd => by cases hd; exact rfl, Ext.refl _⟩
      simp only [Act.put, List.setIfInBounds_toArray, List.set_cons_zero, List.set_cons_succ]
      refine ⟨fun wv32 hov32 hSv32 => ?_, fun v32 => ?_⟩
      · obtain rfl : v31 = .bool true := hSv32 31 (by decide) (by decide)
        clear hSv32
        clear hov32
        go_wp2_with fail
        exact ⟨rfl, _, rfl, fun d hd => by cases hd; exact rfl, Ext.refl _⟩
      simp only [Act.put, List.setIfInBounds_toArray, List.set_cons_zero, List.set_cons_succ]
      refine ⟨fun wv33 hov33 hSv33 => ?_, fun v33 => ?_⟩
      · obtain rfl : v32 = .bool true := hSv33 32 (by decide) (by decide)
        clear hSv33
        clear hov33
        go_wp2_with fail
        exact ⟨rfl, _, rfl, fun d hd => by cases hd; exact rfl, Ext.refl _⟩
      simp only [Act.put, List.setIfInBounds_toArray, List.set_cons_zero, List.set_cons_succ]
      refine ⟨fun wv34 hov34 hSv34 => ?_, fun v34 => ?_⟩
      · obtain rfl : v32 = .bool true := hSv34 32 (by decide) (by decide)
        clear hSv34
        clear hov34
        go_wp2_with fail
        exact ⟨rfl, _, rfl, fun d hd => by cases hd; exact rfl, Ext.refl _⟩
      simp only [Act.put, List.setIfInBounds_toArray, List.set_cons_zero, List.set_cons_succ]
      refine ⟨fun wv35 hov35 hSv35 => ?_, fun v35 => ?_⟩
      · obtain rfl : v32 = .bool true := hSv35 32 (by decide) (by decide)
        clear hSv35
        clear hov35
        go_wp2_with fail
        exact ⟨rfl, _, rfl, fun d hd => by cases hd; exact rfl, Ext.refl _⟩
      simp only [Act.put, List.setIfInBounds_toArray, List.set_cons_zero, List.set_cons_succ]
      refine ⟨fun wv36 hov36 hSv36 => ?_, fun v36 => ?_⟩
      · obtain rfl : v32 = .bool true := hSv36 32 (by decide) (by decide)
        clear hSv36
        clear hov36
        go_wp2_with fail
        exact ⟨rfl, _, rfl, fun d hd => by cases hd; exact rfl, Ext.refl _⟩
      simp only [Act.put, List.setIfInBounds_toArray, List.set_cons_zero, List.set_cons_succ]
      refine ⟨fun wv37 hov37 hSv37 => ?_, fun v37 => ?_⟩
      · obtain rfl : v32 = .bool true := hSv37 32 (by decide) (by decide)
        clear hSv37
        clear hov37
        go_wp2_with fail
        exact ⟨rfl, _, rfl, fun d hd => by cases hd; exact rfl, Ext.refl _⟩
      simp only [Act.put, List.setIfInBounds_toArray, List.set_cons_zero, List.set_cons_succ]
      refine ⟨fun wv38 hov38 hSv38 => ?_, fun v38 => ?_⟩
      · obtain rfl : v32 = .bool true := hSv38 32 (by decide) (by decide)
        clear hSv38
        clear hov38
        go_wp2_with fail
        exact ⟨rfl, _, rfl, fun d hd => by cases hd; exact rfl, Ext.refl _⟩
      simp only [Act.put, List.setIfInBounds_toArray, List.set_cons_zero, List.set_cons_succ]
      refine ⟨fun wv39 hov39 hSv39 => ?_, fun v39 => ?_⟩
      · obtain rfl : v32 = .bool true := hSv39 32 (by decide) (by decide)
        obtain rfl : v38 = undef := hSv39 38 (by decide) (by decide)
        clear hSv39
        clear hov39
        go_wp2_with fail
        exact ⟨rfl, _, rfl, fun d hd => by cases hd; exact rfl, Ext.refl _⟩
      simp only [Act.put, List.setIfInBounds_toArray, List.set_cons_zero, List.set_cons_succ]
      clear H
      intro w2 HOX H hfin
      obtain rfl : v5 = .pointer (some ⟨g1, 0, none⟩) := hfin 5 (by decide)
      obtain rfl : v6 = .agg (a.own.map V8).toArray := hfin 6 (by decide)
      obtain rfl : v7 = .bool true := hfin 7 (by decide)
      obtain rfl : v8 = .bool true := hfin 8 (by decide)
      obtain rfl : v9 = undef := hfin 9 (by decide)
      obtain rfl : v10 = undef := hfin 10 (by decide)
      obtain rfl : v11 = undef := hfin 11 (by decide)
      obtain rfl : v12 = undef := hfin 12 (by decide)
      obtain rfl : v13 = .bool true := hfin 13 (by decide)
      obtain rfl : v14 = .bool true := hfin 14 (by decide)
      obtain rfl : v15 = undef := hfin 15 (by decide)
      obtain rfl : v16 = undef := hfin 16 (by decide)
      obtain rfl : v17 = undef := hfin 17 (by decide)
      obtain rfl : v18 = undef := hfin 18 (by decide)
      obtain rfl : v19 = .bool true := hfin 19 (by decide)
      obtain rfl : v20 = .bool true := hfin 20 (by decide)
      obtain rfl : v21 = undef := hfin 21 (by decide)
      obtain rfl : v22 = undef := hfin 22 (by decide)
      obtain rfl : v23 = undef := hfin 23 (by decide)
      obtain rfl : v24 = undef := hfin 24 (by decide)
      obtain rfl : v25 = .bool true := hfin 25 (by decide)
      obtain rfl : v26 = .bool true := hfin 26 (by decide)
      obtain rfl : v27 = undef := hfin 27 (by decide)
      obtain rfl : v28 = undef := hfin 28 (by decide)
      obtain rfl : v29 = undef := hfin 29 (by decide)
      obtain rfl : v30 = undef := hfin 30 (by decide)
      obtain rfl : v31 = .bool true := hfin 31 (by decide)
      obtain rfl : v32 = .bool true := hfin 32 (by decide)
      obtain rfl : v33 = undef := hfin 33 (by decide)
      obtain rfl : v34 = undef := hfin 34 (by decide)
      obtain rfl : v35 = undef := hfin 35 (by decide)
      obtain rfl : v36 = undef := hfin 36 (by decide)
      obtain rfl : v37 = undef := hfin 37 (by decide)
      obtain rfl : v38 = undef := hfin 38 (by decide)
      obtain rfl : v39 = .bool true := hfin 39 (by decide)
      clear hfin
      simp only [List.drop_succ_cons, List.drop_zero]
      simp only [applyS] at H
      have HXN := kp (HOX.out.ext (Ext.refl w1) (fun g hg => by cases hg))
      go_wp2_with fail
      exact CutP.of rfl (by kernel_rfl) ⟨H, congrArg Value.bool (by rfl)⟩
    | false =>
      rw [hb1] at HGR
      clear hb1
      cases hb2 : inF a.caps 0 65535 with
      | false =>
        rw [hb2] at H22
        clear hb2
        refine region_free H (tabS [(5, fun zv _ => zv = .pointer (some ⟨g1, 0, none⟩)), (6, fun zv _ => zv = .agg (a.own.map V8).toArray), (7, fun zv _ => zv = .bool false), (8, fun zv _ => zv = .bool false), (9, fun zv _ => zv = .pointer (some ⟨g1, 6, none⟩)), (10, fun zv _ => zv = .int .i64 a.caps), (11, fun zv _ => zv = .bool false), (12, fun zv _ => zv = .bool true), (13, fun zv _ => zv = .bool true), (14, fun zv _ => zv = .bool true), (15, fun zv _ => zv = undef), (16, fun zv _ => zv = undef), (17, fun zv _ => zv = undef), (18, fun zv _ => zv = undef), (19, fun zv _ => zv = .bool true), (20, fun zv _ => zv = .bool true), (21, fun zv _ => zv = undef), (22, fun zv _ => zv = undef), (23, fun zv _ => zv = undef), (24, fun zv _ => zv = undef), (25, fun zv _ => zv = .bool true), (26, fun zv _ => zv = .bool true), (27, fun zv _ => zv = undef), (28, fun zv _ => zv = undef), (29, fun zv _ => zv = undef), (30, fun zv _ => zv = undef), (31, fun zv _ => zv = .bool true), (32, fun zv _ => zv = .bool true), (33, fun zv _ => zv = undef), (34, fun zv _ => zv = undef), (35, fun zv _ => zv = undef), (36, fun zv _ => zv = undef), (37, fun zv _ => zv = undef), (38, fun zv _ => zv = undef), (39, fun zv _ => zv = .bool true)]) [] (tabS_out _ _ (by simp only [List.forall_mem_cons]; exact ⟨mono_eqO _ _, mono_eqO _ _, mono_eqO _ _, mono_eqO _ _, mono_eqO _ _, mono_eqO _ _, mono_eqO _ _, mono_eqO _ _, mono_eqO _ _, mono_eqO _ _, mono_eqO _ _, mono_eqO _ _, mono_eqO _ _, mono_eqO _ _, mono_eqO _ _, mono_eqO _ _, mono_eqO _ _, mono_eqO _ _, mono_eqO _ _, mono_eqO _ _, mono_eqO _ _, mono_eqO _ _, mono_eqO _ _, mono_eqO _ _, mono_eqO _ _, mono_eqO _ _, mono_eqO _ _, mono_eqO _ _, mono_eqO _ _, mono_eqO _ _, mono_eqO _ _, mono_eqO _ _, mono_eqO _ _, mono_eqO _ _, mono_eqO _ _, by simp⟩)) 35 (by kernel_rfl) (by kernel_rfl) (by kernel_rfl) (by kernel_rfl) [] [] rfl rfl (by decide) (by decide) (by decide) trivial ?_
        simp only [List.take_succ_cons, List.take_zero]
        refine ⟨fun wv5 hov5 hSv5 => ?_, fun v5 => ?_⟩
        · clear hSv5
          clear hov5
          go_wp2_with fail
          exact ⟨rfl, _, rfl, fun d hd => by cases hd; exact rfl, Ext.refl _⟩
        simp only [Act.put, List.setIfInBounds_toArray, List.set_cons_zero, List.set_cons_succ]
        refine ⟨fun wv6 hov6 hSv6 => ?_, fun v6 => ?_⟩
        · obtain rfl : v5 = .pointer (some ⟨g1, 0, none⟩) := hSv6 5 (by decide) (by decide)
          clear hSv6
          have H := kp (H.out.keep [0] (St := []) trivial hov6 (by decide) (by kernel_rfl))
          have HOX := kp hov6
          clear hov6
          go_wp2_with ((with_reducible show wpList _ _ _ (Oper.mk _ (Op.load 23 _) _ _ _ _ :: _) _ _); refine L_subG H (by kernel_rfl) 23 _ rfl 0 rfl (0) rfl (a.own.map V8) (HOW.out) Try.underlying23 rfl (HZO6.out) ?_; simp only [Act.put, List.setIfInBounds_toArray, List.set_cons_zero, List.set_cons_succ])
          exact ⟨rfl, _, rfl, fun d hd => by cases hd; exact rfl, Ext.refl _⟩
        simp only [Act.put, List.setIfInBounds_toArray, List.set_cons_zero, List.set_cons_succ]
        refine ⟨fun wv7 hov7 hSv7 => ?_, fun v7 => ?_⟩
        · obtain rfl : v6 = .agg (a.own.map V8).toArray := hSv7 6 (by decide) (by decide)
          clear hSv7
          have H := kp (H.out.keep [0] (St := []) trivial hov7 (by decide) (by kernel_rfl))
          have HOX := kp hov7
          clear hov7
          go_wp2_with fail
          refine (HGR.out _).mono ?_
          rintro e w2 ⟨rfl, hx⟩
          have HXW := kp hx
          clear hx
          go_wp2_with fail
          exact ⟨rfl, _, rfl, fun d hd => by cases hd; exact rfl, HXW.out⟩
        simp only [Act.put, List.setIfInBounds_toArray, List.set_cons_zero, List.set_cons_succ]
        refine ⟨fun wv8 hov8 hSv8 => ?_, fun v8 => ?_⟩
        · obtain rfl : v7 = .bool false := hSv8 7 (by decide) (by decide)
          clear hSv8
          clear hov8
          go_wp2_with fail
          exact ⟨rfl, _, rfl, fun d hd => by cases hd; exact rfl, Ext.refl _⟩
        simp only [Act.put, List.setIfInBounds_toArray, List.set_cons_zero, List.set_cons_succ]
        refine ⟨fun wv9 hov9 hSv9 => ?_, fun v9 => ?_⟩
        · obtain rfl : v8 = .bool false := hSv9 8 (by decide) (by decide)
          clear hSv9
          clear hov9
          go_wp2_with fail
          exact ⟨rfl, _, rfl, fun d hd => by cases hd; exact rfl, Ext.refl _⟩
        simp only [Act.put, List.setIfInBounds_toArray, List.set_cons_zero, List.set_cons_succ]
        refine ⟨fun wv10 hov10 hSv10 => ?_, fun v10 => ?_⟩
        · obtain rfl : v8 = .bool false := hSv10 8 (by decide) (by decide)
          obtain rfl : v9 = .pointer (some ⟨g1, 6, none⟩) := hSv10 9 (by decide) (by decide)
          clear hSv10
          have H := kp (H.out.keep [0] (St := []) trivial hov10 (by decide) (by kernel_rfl))
          have HOX := kp hov10
          clear hov10
          have hc := run_load_cell H.out 0 rfl _ _ HC6.out
          go_wp2_with fail
          exact ⟨rfl, _, rfl, fun d hd => by cases hd; exact rfl, Ext.refl _⟩
        simp only [Act.put, List.setIfInBounds_toArray, List.set_cons_zero, List.set_cons_succ]
        refine ⟨fun wv11 hov11 hSv11 => ?_, fun v11 => ?_⟩
        · obtain rfl : v8 = .bool false := hSv11 8 (by decide) (by decide)
          obtain rfl : v10 = .int .i64 a.caps := hSv11 10 (by decide) (by decide)
          clear hSv11
          have H := kp (H.out.keep [0] (St := []) trivial hov11 (by decide) (by kernel_rfl))
          have HOX := kp hov11
          clear hov11
          go_wp2_with fail
          refine (H22.out _).mono ?_
          rintro e w2 ⟨rfl, hx⟩
          have HXW := kp hx
          clear hx
          go_wp2_with fail
          exact ⟨rfl, _, rfl, fun d hd => by cases hd; exact rfl, HXW.out⟩
        simp only [Act.put, List.setIfInBounds_toArray, List.set_cons_zero, List.set_cons_succ]
        refine ⟨fun wv12 hov12 hSv12 => ?_, fun v12 => ?_⟩
        · obtain rfl : v8 = .bool false := hSv12 8 (by decide) (by decide)
          obtain rfl : v11 = .bool false := hSv12 11 (by decide) (by decide)
          clear hSv12
          clear hov12
          go_wp2_with fail
          exact ⟨rfl, _, rfl, fun d hd => by cases hd; exact rfl, Ext.refl _⟩
        simp only [Act.put, List.setIfInBounds_toArray, List.set_cons_zero, List.set_cons_succ]
        refine ⟨fun wv13 hov13 hSv13 => ?_, fun v13 => ?_⟩
        · obtain rfl : v8 = .bool false := hSv13 8 (by decide) (by decide)
          obtain rfl : v12 = .bool true := hSv13 12 (by decide) (by decide)
          clear hSv13
          clear hov13
          go_wp2_with fail
          exact ⟨rfl, _, rfl, fun d hd => by cases hd; exact rfl, Ext.refl _⟩
        simp only [Act.put, List.setIfInBounds_toArray, List.set_cons_zero, List.set_cons_succ]
        refine ⟨fun wv14 hov14 hSv14 => ?_, fun v14 => ?_⟩
        · obtain rfl : v13 = .bool true := hSv14 13 (by decide) (by decide)
          clear hSv14
          clear hov14
          go_wp2_with fail
          exact ⟨rfl, _, rfl, fun d hd => by cases hd; exact rfl, Ext.refl _⟩
        simp only [Act.put, List.setIfInBounds_toArray, List.set_cons_zero, List.set_cons_succ]
        refine ⟨fun wv15 hov15 hSv15 => ?_, fun v15 => ?_⟩
        · obtain rfl : v14 = .bool true := hSv15 14 (by decide) (by decide)
          clear hSv15
          clear hov15
          go_wp2_with fail
          exact ⟨rfl, _, rfl, fun d hd => by cases hd; exact rfl, Ext.refl _⟩
        simp only [Act.put, List.setIfInBounds_toArray, List.set_cons_zero, List.set_cons_succ]
        refine ⟨fun wv16 hov16 hSv16 => ?_, fun v16 => ?_⟩
        · obtain rfl : v14 = .bool true := hSv16 14 (by decide) (by decide)
          clear hSv16
          clear hov16
          go_wp2_with fail
          exact ⟨rfl, _, rfl, fun d hd => by cases hd; exact rfl, Ext.refl _⟩
        simp only [Act.put, List.setIfInBounds_toArray, List.set_cons_zero, List.set_cons_succ]
        refine ⟨fun wv17 hov17 hSv17 => ?_, fun v17 => ?_⟩
        · obtain rfl : v14 = .bool true := hSv17 14 (by decide) (by decide)
          clear hSv17
          clear hov17
          go_wp2_with fail
          exact ⟨rfl, _, rfl, fun d hd => by cases hd; exact rfl, Ext.refl _⟩
        simp only [Act.put, List.setIfInBounds_toArray, List.set_cons_zero, List.set_cons_succ]
        refine ⟨fun wv18 hov18 hSv18 => ?_, fun v18 => ?_⟩
        · obtain rfl : v14 = .bool true := hSv18 14 (by decide) (by decide)
          clear hSv18
          clear hov18
          go_wp2_with fail
          exact ⟨rfl, _, rfl, fun d hd => by cases hd; exact rfl, Ext.refl _⟩
        simp only [Act.put, List.setIfInBounds_toArray, List.set_cons_zero, List.set_cons_succ]
        refine ⟨fun wv19 hov19 hSv19 => ?_, fun v19 => ?_⟩
        · obtain rfl : v14 = .bool true := hSv19 14 (by decide) (by decide)
          obtain rfl : v18 = undef := hSv19 18 (by decide) (by decide)
          clear hSv19
          clear hov19
          go_wp2_with fail
          exact ⟨rfl, _, rfl, fun d hd => by cases hd; exact rfl, Ext.refl _⟩
        simp only [Act.put, List.setIfInBounds_toArray, List.set_cons_zero, List.set_cons_succ]
        refine ⟨fun wv20 hov20 hSv20 => ?_, fun v20 => ?_⟩
        · obtain rfl : v19 = .bool true := hSv20 19 (by decide) (by decide)
          clear hSv20
          clear hov20
          go_wp2_with fail
          exact ⟨rfl, _, rfl, fun d hd => by cases hd; exact rfl, Ext.refl _⟩
        simp only [Act.put, List.setIfInBounds_toArray, List.set_cons_zero, List.set_cons_succ]
        refine ⟨fun wv21 hov21 hSv21 => ?_, fun v21 => ?_⟩
        · obtain rfl : v20 = .bool true := hSv21 20 (by decide) (by decide)
          clear hSv21
          clear hov21
          go_wp2_with fail
          exact ⟨rfl, _, rfl, fun d hd => by cases hd; exact rfl, Ext.refl _⟩
        simp only [Act.put, List.setIfInBounds_toArray, List.set_cons_zero, List.set_cons_succ]
        refine ⟨fun wv22 hov22 hSv22 => ?_, fun v22 => ?_⟩
        · obtain rfl : v20 = .bool true := hSv22 20 (by decide) (by decide)
          clear hSv22
          clear hov22
          go_wp2_with fail
          exact ⟨rfl, _, rfl, fun d hd => by cases hd; exact rfl, Ext.refl _⟩
        simp only [Act.put, List.setIfInBounds_toArray, List.set_cons_zero, List.set_cons_succ]
        refine ⟨fun wv23 hov23 hSv23 => ?_, fun v23 => ?_⟩
        · obtain rfl : v20 = .bool true := hSv23 20 (by decide) (by decide)
          clear hSv23
          clear hov23
          go_wp2_with fail
          exact ⟨rfl, _, rfl, fun d hd => by cases hd; exact rfl, Ext.refl _⟩
        simp only [Act.put, List.setIfInBounds_toArray, List.set_cons_zero, List.set_cons_succ]
        refine ⟨fun wv24 hov24 hSv24 => ?_, fun v24 => ?_⟩
        · obtain rfl : v20 = .bool true := hSv24 20 (by decide) (by decide)
          clear hSv24
          clear hov24
          go_wp2_with fail
          exact ⟨rfl, _, rfl, fun d hd => by cases hd; exact rfl, Ext.refl _⟩
        simp only [Act.put, List.setIfInBounds_toArray, List.set_cons_zero, List.set_cons_succ]
        refine ⟨fun wv25 hov25 hSv25 => ?_, fun v25 => ?_⟩
        · obtain rfl : v20 = .bool true := hSv25 20 (by decide) (by decide)
          obtain rfl : v24 = undef := hSv25 24 (by decide) (by decide)
          clear hSv25
          clear hov25
          go_wp2_with fail
          exact ⟨rfl, _, rfl, fun d hd => by cases hd; exact rfl, Ext.refl _⟩
        simp only [Act.put, List.setIfInBounds_toArray, List.set_cons_zero, List.set_cons_succ]
        refine ⟨fun wv26 hov26 hSv26 => ?_, fun v26 => ?_⟩
        · obtain rfl : v25 = .bool true := hSv26 25 (by decide) (by decide)
          clear hSv26
          clear hov26
          go_wp2_with fail
          exact ⟨rfl, _, rfl, fun d hd => by cases hd; exact rfl, Ext.refl _⟩
        simp only [Act.put, List.setIfInBounds_toArray, List.set_cons_zero, List.set_cons_succ]
        refine ⟨fun wv27 hov27 hSv27 => ?_, fun v27 => ?_⟩
        · obtain rfl : v26 = .bool true := hSv27 26 (by decide) (by decide)
          clear hSv27
          clear hov27
          go_wp2_with fail
          exact ⟨rfl, _, rfl, fun d hd => by cases hd; exact rfl, Ext.refl _⟩
        simp only [Act.put, List.setIfInBounds_toArray, List.set_cons_zero, List.set_cons_succ]
        refine ⟨fun wv28 hov28 hSv28 => ?_, fun v28 => ?_⟩
        · obtain rfl : v26 = .bool true := hSv28 26 (by decide) (by decide)
          clear hSv28
          clear hov28
          go_wp2_with fail
          exact ⟨rfl, _, rfl, fun d hd => by cases hd; exact rfl, Ext.refl _⟩
        simp only [Act.put, List.setIfInBounds_toArray, List.set_cons_zero, List.set_cons_succ]
        refine ⟨fun wv29 hov29 hSv29 => ?_, fun v29 => ?_⟩
        · obtain rfl : v26 = .bool true := hSv29 26 (by decide) (by decide)
          clear hSv29
          clear hov29
          go_wp2_with fail
          exact ⟨rfl, _, rfl, fun d hd => by cases hd; exact rfl, Ext.refl _⟩
        simp only [Act.put, List.setIfInBounds_toArray, List.set_cons_zero, List.set_cons_succ]
        refine ⟨fun wv30 hov30 hSv30 => ?_, fun v30 => ?_⟩
        · obtain rfl : v26 = .bool true := hSv30 26 (by decide) (by decide)
          clear hSv30
          clear hov30
          go_wp2_with fail
          exact ⟨rfl, _, rfl, fun d hd => by cases hd; exact rfl, Ext.refl _⟩
        simp only [Act.put, List.setIfInBounds_toArray, List.set_cons_zero, List.set_cons_succ]
        refine ⟨fun wv31 hov31 hSv31 => ?_, fun v31 => ?_⟩
        · obtain rfl : v26 = .bool true := hSv31 26 (by decide) (by decide)
          obtain rfl : v30 = undef := hSv31 30 (by decide) (by decide)
          clear hSv31
          clear hov31
          go_wp2_with fail
          exact ⟨rfl, _, rfl, fun d hd => by cases hd; exact rfl, Ext.refl _⟩
        simp only [Act.put, List.setIfInBounds_toArray, List.set_cons_zero, List.set_cons_succ]
        refine ⟨fun wv32 hov32 hSv32 => ?_, fun v32 => ?_⟩
        · obtain rfl : v31 = .bool true := hSv32 31 (by decide) (by decide)
          clear hSv32
          clear hov32
          go_wp2_with fail
          exact ⟨rfl, _, rfl, fun d hd => by cases hd; exact rfl, Ext.refl _⟩
        simp only [Act.put, List.setIfInBounds_toArray, List.set_cons_zero, List.set_cons_succ]
        refine ⟨fun wv33 hov33 hSv33 => ?_, fun v33 => ?_⟩
        · obtain rfl : v32 = .bool true := hSv33 32 (by decide) (by decide)
          clear hSv33
          clear hov33
          go_wp2_with fail
          exact ⟨rfl, _, rfl, fun d hd => by cases hd; exact rfl, Ext.refl _⟩
        simp only [Act.put, List.setIfInBounds_toArray, List.set_cons_zero, List.set_cons_succ]
        refine ⟨fun wv34 hov34 hSv34 => ?_, fun v34 => ?_⟩
        · obtain rfl : v32 = .bool true := hSv34 32 (by decide) (by decide)
          clear hSv34
          clear hov34
          go_wp2_with fail
          exact ⟨rfl, _, rfl, fun d hd => by cases hd; exact rfl, Ext.refl _⟩
        simp only [Act.put, List.setIfInBounds_toArray, List.set_cons_zero, List.set_cons_succ]
        refine ⟨fun wv35 hov35 hSv35 => ?_, fun v35 => ?_⟩
        · obtain rfl : v32 = .bool true := hSv35 32 (by decide) (by decide)
          clear hSv35
          clear hov35
          go_wp2_with fail
          exact ⟨rfl, _, rfl, fun d hd => by cases hd; exact rfl, Ext.refl _⟩
        simp only [Act.put, List.setIfInBounds_toArray, List.set_cons_zero, List.set_cons_succ]
        refine ⟨fun wv36 hov36 hSv36 => ?_, fun v36 => ?_⟩
        · obtain rfl : v32 = .bool true := hSv36 32 (by decide) (by decide)
          clear hSv36
          clear hov36
          go_wp2_with fail
          exact ⟨rfl, _, rfl, fun d hd => by cases hd; exact rfl, Ext.refl _⟩
        simp only [Act.put, List.setIfInBounds_toArray, List.set_cons_zero, List.set_cons_succ]
        refine ⟨fun wv37 hov37 hSv37 => ?_, fun v37 => ?_⟩
        · obtain rfl : v32 = .bool true := hSv37 32 (by decide) (by decide)
          clear hSv37
          clear hov37
          go_wp2_with fail
          exact ⟨rfl, _, rfl, fun d hd => by cases hd; exact rfl, Ext.refl _⟩
        simp only [Act.put, List.setIfInBounds_toArray, List.set_cons_zero, List.set_cons_succ]
        refine ⟨fun wv38 hov38 hSv38 => ?_, fun v38 => ?_⟩
        · obtain rfl : v32 = .bool true := hSv38 32 (by decide) (by decide)
          clear hSv38
          clear hov38
          go_wp2_with fail
          exact ⟨rfl, _, rfl, fun d hd => by cases hd; exact rfl, Ext.refl _⟩
        simp only [Act.put, List.setIfInBounds_toArray, List.set_cons_zero, List.set_cons_succ]
        refine ⟨fun wv39 hov39 hSv39 => ?_, fun v39 => ?_⟩
        · obtain rfl : v32 = .bool true := hSv39 32 (by decide) (by decide)
          obtain rfl : v38 = undef := hSv39 38 (by decide) (by decide)
          clear hSv39
          clear hov39
          go_wp2_with fail
          exact ⟨rfl, _, rfl, fun d hd => by cases hd; exact rfl, Ext.refl _⟩
        simp only [Act.put, List.setIfInBounds_toArray, List.set_cons_zero, List.set_cons_succ]
        clear H
        intro w2 HOX H hfin
        obtain rfl : v5 = .pointer (some ⟨g1, 0, none⟩) := hfin 5 (by decide)
        obtain rfl : v6 = .agg (a.own.map V8).toArray := hfin 6 (by decide)
        obtain rfl : v7 = .bool false := hfin 7 (by decide)
        obtain rfl : v8 = .bool false := hfin 8 (by decide)
        obtain rfl : v9 = .pointer (some ⟨g1, 6, none⟩) := hfin 9 (by decide)
        obtain rfl : v10 = .int .i64 a.caps := hfin 10 (by decide)
        obtain rfl : v11 = .bool false := hfin 11 (by decide)
        obtain rfl : v12 = .bool true := hfin 12 (by decide)
        obtain rfl : v13 = .bool true := hfin 13 (by decide)
        obtain rfl : v14 = .bool true := hfin 14 (by decide)
        obtain rfl : v15 = undef := hfin 15 (by decide)
        obtain rfl : v16 = undef := hfin 16 (by decide)
        obtain rfl : v17 = undef := hfin 17 (by decide)
        obtain rfl : v18 = undef := hfin 18 (by decide)
        obtain rfl : v19 = .bool true := hfin 19 (by decide)
        obtain rfl : v20 = .bool true := hfin 20 (by decide)
        obtain rfl : v21 = undef := hfin 21 (by decide)
        obtain rfl : v22 = undef := hfin 22 (by decide)
        obtain rfl : v23 = undef := hfin 23 (by decide)
        obtain rfl : v24 = undef := hfin 24 (by decide)
        obtain rfl : v25 = .bool true := hfin 25 (by decide)
        obtain rfl : v26 = .bool true := hfin 26 (by decide)
        obtain rfl : v27 = undef := hfin 27 (by decide)
        obtain rfl : v28 = undef := hfin 28 (by decide)
        obtain rfl : v29 = undef := hfin 29 (by decide)
        obtain rfl : v30 = undef := hfin 30 (by decide)
        obtain rfl : v31 = .bool true := hfin 31 (by decide)
        obtain rfl : v32 = .bool true := hfin 32 (by decide)
        obtain rfl : v33 = undef := hfin 33 (by decide)
        obtain rfl : v34 = undef := hfin 34 (by decide)
        obtain rfl : v35 = undef := hfin 35 (by decide)
        obtain rfl : v36 = undef := hfin 36 (by decide)
        obtain rfl : v37 = undef := hfin 37 (by decide)
        obtain rfl : v38 = undef := hfin 38 (by decide)
        obtain rfl : v39 = .bool true := hfin 39 (by decide)
        clear hfin
        simp only [List.drop_succ_cons, List.drop_zero]
        simp only [applyS] at H
        have HXN := kp (HOX.out.ext (Ext.refl w1) (fun g hg => by cases hg))
        go_wp2_with fail
        exact CutP.of rfl (by kernel_rfl) ⟨H, congrArg Value.bool (by rfl)⟩
      | true =>
        rw [hb2] at H22
        clear hb2
        cases hb3 : inF a.limit 1 255 with
        | false =>
          rw [hb3] at H33
          clear hb3
          refine region_free H (tabS [(5, fun zv _ => zv = .pointer (some ⟨g1, 0, none⟩)), (6, fun zv _ => zv = .agg (a.own.map V8).toArray), (7, fun zv _ => zv = .bool false), (8, fun zv _ => zv = .bool false), (9, fun zv _ => zv = .pointer (some ⟨g1, 6, none⟩)), (10, fun zv _ => zv = .int .i64 a.caps), (11, fun zv _ => zv = .bool true), (12, fun zv _ => zv = .bool false), (13, fun zv _ => zv = .bool false), (14, fun zv _ => zv = .bool false), (15, fun zv _ => zv = .pointer (some ⟨g1, 7, none⟩)), (16, fun zv _ => zv = .int .i64 a.limit), (17, fun zv _ => zv = .bool false), (18, fun zv _ => zv = .bool true), (19, fun zv _ => zv = .bool true), (20, fun zv _ => zv = .bool true), (21, fun zv _ => zv = undef), (22, fun zv _ => zv = undef), (23, fun zv _ => zv = undef), (24, fun zv _ => zv = undef), (25, fun zv _ => zv = .bool true), (26, fun zv _ => zv = .bool true), (27, fun zv _ => zv = undef), (28, fun zv _ => zv = undef), (29, fun zv _ => zv = undef), (30, fun zv _ => zv = undef), (31, fun zv _ => zv = .bool true), (32, fun zv _ => zv = .bool true), (33, fun zv _ => zv = undef), (34, fun zv _ => zv = undef), (35, fun zv _ => zv = undef), (36, fun zv _ => zv = undef), (37, fun zv _ => zv = undef), (38, fun zv _ => zv = undef), (39, fun zv _ => zv = .bool true)]) [] (tabS_out _ _ (by simp only [List.forall_mem_cons]; exact ⟨mono_eqO _ _, mono_eqO _ _, mono_eqO _ _, mono_eqO _ _, mono_eqO _ _, mono_eqO _ _, mono_eqO _ _, mono_eqO _ _, mono_eqO _ _, mono_eqO _ _, mono_eqO _ _, mono_eqO _ _, mono_eqO _ _, mono_eqO _ _, mono_eqO _ _, mono_eqO _ _, mono_eqO _ _, mono_eqO _ _, mono_eqO _ _, mono_eqO _ _, mono_eqO _ _, mono_eqO _ _, mono_eqO _ _, mono_eqO _ _, mono_eqO _ _, mono_eqO _ _, mono_eqO _ _, mono_eqO _ _, mono_eqO _ _, mono_eqO _ _, mono_eqO _ _, mono_eqO _ _, mono_eqO _ _, mono_eqO _ _, mono_eqO _ _, by simp⟩)) 35 (by kernel_rfl) (by kernel_rfl) (by kernel_rfl) (by kernel_rfl) [] [] rfl rfl (by decide) (by decide) (by decide) trivial ?_
          simp only [List.take_succ_cons, List.take_zero]
          refine ⟨fun wv5 hov5 hSv5 => ?_, fun v5 => ?_⟩
          · clear hSv5
            clear hov5
            go_wp2_with fail
            exact ⟨rfl, _, rfl, fun d hd => by cases hd; exact rfl, Ext.refl _⟩
          simp only [Act.put, List.setIfInBounds_toArray, List.set_cons_zero, List.set_cons_succ]
          refine ⟨fun wv6 hov6 hSv6 => ?_, fun v6 => ?_⟩
          · obtain rfl : v5 = .pointer (some ⟨g1, 0, none⟩) := hSv6 5 (by decide) (by decide)
            clear hSv6
            have H := kp (H.out.keep [0] (St := []) trivial hov6 (by decide) (by kernel_rfl))
            have HOX := kp hov6
            clear hov6
            go_wp2_with ((with_reducible show wpList _ _ _ (Oper.mk _ (Op.load 23 _) _ _ _ _ :: _) _ _); refine L_subG H (by kernel_rfl) 23 _ rfl 0 rfl (0) rfl (a.own.map V8) (HOW.out) Try.underlying23 rfl (HZO6.out) ?_; simp only [Act.put, List.setIfInBounds_toArray, List.set_cons_zero, List.set_cons_succ])
            exact ⟨rfl, _, rfl, fun d hd => by cases hd; exact rfl, Ext.refl _⟩
          simp only [Act.put, List.setIfInBounds_toArray, List.set_cons_zero, List.set_cons_succ]
          refine ⟨fun wv7 hov7 hSv7 => ?_, fun v7 => ?_⟩
          · obtain rfl : v6 = .agg (a.own.map V8).toArray := hSv7 6 (by decide) (by decide)
            clear hSv7
            have H := kp (H.out.keep [0] (St := []) trivial hov7 (by decide) (by kernel_rfl))
            have HOX := kp hov7
            clear hov7
            go_wp2_with fail
            refine (HGR.out _).mono ?_
            rintro e w2 ⟨rfl, hx⟩
            have HXW := kp hx
            clear hx
            go_wp2_with fail
            exact ⟨rfl, _, rfl, fun d hd => by cases hd; exact rfl, HXW.out⟩
          simp only [Act.put, List.setIfInBounds_toArray, List.set_cons_zero, List.set_cons_succ]
          refine ⟨fun wv8 hov8 hSv8 => ?_, fun v8 => ?_⟩
          · obtain rfl : v7 = .bool false := hSv8 7 (by decide) (by decide)
            clear hSv8
            clear hov8
            go_wp2_with fail
            exact ⟨rfl, _, rfl, fun d hd => by cases hd; exact rfl, Ext.refl _⟩
          simp only [Act.put, List.setIfInBounds_toArray, List.set_cons_zero, List.set_cons_succ]
          refine ⟨fun wv9 hov9 hSv9 => ?_, fun v9 => ?_⟩
          · obtain rfl : v8 = .bool false := hSv9 8 (by decide) (by decide)
            clear hSv9
            clear hov9
            go_wp2_with fail
            exact ⟨rfl, _, rfl, fun d hd => by cases hd; exact rfl, Ext.refl _⟩
          simp only [Act.put, List.setIfInBounds_toArray, List.set_cons_zero, List.set_cons_succ]
          refine ⟨fun wv10 hov10 hSv10 => ?_, fun v10 => ?_⟩
          · obtain rfl : v8 = .bool false := hSv10 8 (by decide) (by decide)
            obtain rfl : v9 = .pointer (some ⟨g1, 6, none⟩) := hSv10 9 (by decide) (by decide)
            clear hSv10
            have H := kp (H.out.keep [0] (St := []) trivial hov10 (by decide) (by kernel_rfl))
            have HOX := kp hov10
            clear hov10
            have hc := run_load_cell H.out 0 rfl _ _ HC6.out
            go_wp2_with fail
            exact ⟨rfl, _, rfl, fun d hd => by cases hd; exact rfl, Ext.refl _⟩
          simp only [Act.put, List.setIfInBounds_toArray, List.set_cons_zero, List.set_cons_succ]
          refine ⟨fun wv11 hov11 hSv11 => ?_, fun v11 => ?_⟩
          · obtain rfl : v8 = .bool false := hSv11 8 (by decide) (by decide)
            obtain rfl : v10 = .int .i64 a.caps := hSv11 10 (by decide) (by decide)
            clear hSv11
            have H := kp (H.out.keep [0] (St := []) trivial hov11 (by decide) (by kernel_rfl))
            have HOX := kp hov11
            clear hov11
            go_wp2_with fail
            refine (H22.out _).mono ?_
            rintro e w2 ⟨rfl, hx⟩
            have HXW := kp hx
            clear hx
            go_wp2_with fail
            exact ⟨rfl, _, rfl, fun d hd => by cases hd; exact rfl, HXW.out⟩
          simp only [Act.put, List.setIfInBounds_toArray, List.set_cons_zero, List.set_cons_succ]
          refine ⟨fun wv12 hov12 hSv12 => ?_, fun v12 => ?_⟩
          · obtain rfl : v8 = .bool false := hSv12 8 (by decide) (by decide)
            obtain rfl : v11 = .bool true := hSv12 11 (by decide) (by decide)
            clear hSv12
            clear hov12
            go_wp2_with fail
            exact ⟨rfl, _, rfl, fun d hd => by cases hd; exact rfl, Ext.refl _⟩
          simp only [Act.put, List.setIfInBounds_toArray, List.set_cons_zero, List.set_cons_succ]
          refine ⟨fun wv13 hov13 hSv13 => ?_, fun v13 => ?_⟩
          · obtain rfl : v8 = .bool false := hSv13 8 (by decide) (by decide)
            obtain rfl : v12 = .bool false := hSv13 12 (by decide) (by decide)
            clear hSv13
            clear hov13
            go_wp2_with fail
            exact ⟨rfl, _, rfl, fun d hd => by cases hd; exact rfl, Ext.refl _⟩
          simp only [Act.put, List.setIfInBounds_toArray, List.set_cons_zero, List.set_cons_succ]
          refine ⟨fun wv14 hov14 hSv14 => ?_, fun v14 => ?_⟩
          · obtain rfl : v13 = .bool false := hSv14 13 (by decide) (by decide)
            clear hSv14
            clear hov14
            go_wp2_with fail
            exact ⟨rfl, _, rfl, fun d hd => by cases hd; exact rfl, Ext.refl _⟩
          simp only [Act.put, List.setIfInBounds_toArray, List.set_cons_zero, List.set_cons_succ]
          refine ⟨fun wv15 hov15 hSv15 => ?_, fun v15 => ?_⟩
          · obtain rfl : v14 = .bool false := hSv15 14 (by decide) (by decide)
            clear hSv15
            clear hov15
            go_wp2_with fail
            exact ⟨rfl, _, rfl, fun d hd => by cases hd; exact rfl, Ext.refl _⟩
          simp only [Act.put, List.setIfInBounds_toArray, List.set_cons_zero, List.set_cons_succ]
          refine ⟨fun wv16 hov16 hSv16 => ?_, fun v16 => ?_⟩
          · obtain rfl : v14 = .bool false := hSv16 14 (by decide) (by decide)
            obtain rfl : v15 = .pointer (some ⟨g1, 7, none⟩) := hSv16 15 (by decide) (by decide)
            clear hSv16
            have H := kp (H.out.keep [0] (St := []) trivial hov16 (by decide) (by kernel_rfl))
            have HOX := kp hov16
            clear hov16
            have hc := run_load_cell H.out 0 rfl _ _ HC7.out
            go_wp2_with fail
            exact ⟨rfl, _, rfl, fun d hd => by cases hd; exact rfl, Ext.refl _⟩
          simp only [Act.put, List.setIfInBounds_toArray, List.set_cons_zero, List.set_cons_succ]
          refine ⟨fun wv17 hov17 hSv17 => ?_, fun v17 => ?_⟩
          · obtain rfl : v14 = .bool false := hSv17 14 (by decide) (by decide)
            obtain rfl : v16 = .int .i64 a.limit := hSv17 16 (by decide) (by decide)
            clear hSv17
            have H := kp (H.out.keep [0] (St := []) trivial hov17 (by decide) (by kernel_rfl))
            have HOX := kp hov17
            clear hov17
            go_wp2_with fail
            refine (H33.out _).mono ?_
            rintro e w2 ⟨rfl, hx⟩
            have HXW := kp hx
            clear hx
            go_wp2_with fail
            exact ⟨rfl, _, rfl, fun d hd => by cases hd; exact rfl, HXW.out⟩
          simp only [Act.put, List.setIfInBounds_toArray, List.set_cons_zero, List.set_cons_succ]
          refine ⟨fun wv18 hov18 hSv18 => ?_, fun v18 => ?_⟩
          · obtain rfl : v14 = .bool false := hSv18 14 (by decide) (by decide)
            obtain rfl : v17 = .bool false := hSv18 17 (by decide) (by decide)
            clear hSv18
            clear hov18
            go_wp2_with fail
            exact ⟨rfl, _, rfl, fun d hd => by cases hd; exact rfl, Ext.refl _⟩
          simp only [Act.put, List.setIfInBounds_toArray, List.set_cons_zero, List.set_cons_succ]
          refine ⟨fun wv19 hov19 hSv19 => ?_, fun v19 => ?_⟩
          · obtain rfl : v14 = .bool false := hSv19 14 (by decide) (by decide)
            obtain rfl : v18 = .bool true := hSv19 18 (by decide) (by decide)
            clear hSv19
            clear hov19
            go_wp2_with fail
            exact ⟨rfl, _, rfl, fun d hd => by cases hd; exact rfl, Ext.refl _⟩
          simp only [Act.put, List.setIfInBounds_toArray, List.set_cons_zero, List.set_cons_succ]
          refine ⟨fun wv20 hov20 hSv20 => ?_, fun v20 => ?_⟩
          · obtain rfl : v19 = .bool true := hSv20 19 (by decide) (by decide)
            clear hSv20
            clear hov20
            go_wp2_with fail
            exact ⟨rfl, _, rfl, fun d hd => by cases hd; exact rfl, Ext.refl _⟩
          simp only [Act.put, List.setIfInBounds_toArray, List.set_cons_zero, List.set_cons_succ]
          refine ⟨fun wv21 hov21 hSv21 => ?_, fun v21 => ?_⟩
          · obtain rfl : v20 = .bool true := hSv21 20 (by decide) (by decide)
            clear hSv21
            clear hov21
            go_wp2_with fail
            exact ⟨rfl, _, rfl, fun d hd => by cases hd; exact rfl, Ext.refl _⟩
          simp only [Act.put, List.setIfInBounds_toArray, List.set_cons_zero, List.set_cons_succ]
          refine ⟨fun wv22 hov22 hSv22 => ?_, fun v22 => ?_⟩
          · obtain rfl : v20 = .bool true := hSv22 20 (by decide) (by decide)
            clear hSv22
            clear hov22
            go_wp2_with fail
            exact ⟨rfl, _, rfl, fun d hd => by cases hd; exact rfl, Ext.refl _⟩
          simp only [Act.put, List.setIfInBounds_toArray, List.set_cons_zero, List.set_cons_succ]
          refine ⟨fun wv23 hov23 hSv23 => ?_, fun v23 => ?_⟩
          · obtain rfl : v20 = .bool true := hSv23 20 (by decide) (by decide)
            clear hSv23
            clear hov23
            go_wp2_with fail
            exact ⟨rfl, _, rfl, fun d hd => by cases hd; exact rfl, Ext.refl _⟩
          simp only [Act.put, List.setIfInBounds_toArray, List.set_cons_zero, List.set_cons_succ]
          refine ⟨fun wv24 hov24 hSv24 => ?_, fun v24 => ?_⟩
          · obtain rfl : v20 = .bool true := hSv24 20 (by decide) (by decide)
            clear hSv24
            clear hov24
            go_wp2_with fail
            exact ⟨rfl, _, rfl, fun d hd => by cases hd; exact rfl, Ext.refl _⟩
          simp only [Act.put, List.setIfInBounds_toArray, List.set_cons_zero, List.set_cons_succ]
          refine ⟨fun wv25 hov25 hSv25 => ?_, fun v25 => ?_⟩
          · obtain rfl : v20 = .bool true := hSv25 20 (by decide) (by decide)
            obtain rfl : v24 = undef := hSv25 24 (by decide) (by decide)
            clear hSv25
            clear hov25
            go_wp2_with fail
            exact ⟨rfl, _, rfl, fun d hd => by cases hd; exact rfl, Ext.refl _⟩
          simp only [Act.put, List.setIfInBounds_toArray, List.set_cons_zero, List.set_cons_succ]
          refine ⟨fun wv26 hov26 hSv26 => ?_, fun v26 => ?_⟩
          · obtain rfl : v25 = .bool true := hSv26 25 (by decide) (by decide)
            clear hSv26
            clear hov26
            go_wp2_with fail
            exact ⟨rfl, _, rfl, fun d hd => by cases hd; exact rfl, Ext.refl _⟩
          simp only [Act.put, List.setIfInBounds_toArray, List.set_cons_zero, List.set_cons_succ]
          refine ⟨fun wv27 hov27 hSv27 => ?_, fun v27 => ?_⟩
          · obtain rfl : v26 = .bool true := hSv27 26 (by decide) (by decide)
            clear hSv27
            clear hov27
            go_wp2_with fail
            exact ⟨rfl, _, rfl, fun d hd => by cases hd; exact rfl, Ext.refl _⟩
          simp only [Act.put, List.setIfInBounds_toArray, List.set_cons_zero, List.set_cons_succ]
          refine ⟨fun wv28 hov28 hSv28 => ?_, fun v28 => ?_⟩
          · obtain rfl : v26 = .bool true := hSv28 26 (by decide) (by decide)
            clear hSv28
            clear hov28
            go_wp2_with fail
            exact ⟨rfl, _, rfl, fun d hd => by cases hd; exact rfl, Ext.refl _⟩
          simp only [Act.put, List.setIfInBounds_toArray, List.set_cons_zero, List.set_cons_succ]
          refine ⟨fun wv29 hov29 hSv29 => ?_, fun v29 => ?_⟩
          · obtain rfl : v26 = .bool true := hSv29 26 (by decide) (by decide)
            clear hSv29
            clear hov29
            go_wp2_with fail
            exact ⟨rfl, _, rfl, fun d hd => by cases hd; exact rfl, Ext.refl _⟩
          simp only [Act.put, List.setIfInBounds_toArray, List.set_cons_zero, List.set_cons_succ]
          refine ⟨fun wv30 hov30 hSv30 => ?_, fun v30 => ?_⟩
          · obtain rfl : v26 = .bool true := hSv30 26 (by decide) (by decide)
            clear hSv30
            clear hov30
            go_wp2_with fail
            exact ⟨rfl, _, rfl, fun d hd => by cases hd; exact rfl, Ext.refl _⟩
          simp only [Act.put, List.setIfInBounds_toArray, List.set_cons_zero, List.set_cons_succ]
          refine ⟨fun wv31 hov31 hSv31 => ?_, fun v31 => ?_⟩
          · obtain rfl : v26 = .bool true := hSv31 26 (by decide) (by decide)
            obtain rfl : v30 = undef := hSv31 30 (by decide) (by decide)
            clear hSv31
            clear hov31
            go_wp2_with fail
            exact ⟨rfl, _, rfl, fun d hd => by cases hd; exact rfl, Ext.refl _⟩
          simp only [Act.put, List.setIfInBounds_toArray, List.set_cons_zero, List.set_cons_succ]
          refine ⟨fun wv32 hov32 hSv32 => ?_, fun v32 => ?_⟩
          · obtain rfl : v31 = .bool true := hSv32 31 (by decide) (by decide)
            clear hSv32
            clear hov32
            go_wp2_with fail
            exact ⟨rfl, _, rfl, fun d hd => by cases hd; exact rfl, Ext.refl _⟩
          simp only [Act.put, List.setIfInBounds_toArray, List.set_cons_zero, List.set_cons_succ]
          refine ⟨fun wv33 hov33 hSv33 => ?_, fun v33 => ?_⟩
          · obtain rfl : v32 = .bool true := hSv33 32 (by decide) (by decide)
            clear hSv33
            clear hov33
            go_wp2_with fail
            exact ⟨rfl, _, rfl, fun d hd => by cases hd; exact rfl, Ext.refl _⟩
          simp only [Act.put, List.setIfInBounds_toArray, List.set_cons_zero, List.set_cons_succ]
          refine ⟨fun wv34 hov34 hSv34 => ?_, fun v34 => ?_⟩
          · obtain rfl : v32 = .bool true := hSv34 32 (by decide) (by decide)
            clear hSv34
            clear hov34
            go_wp2_with fail
            exact ⟨rfl, _, rfl, fun d hd => by cases hd; exact rfl, Ext.refl _⟩
          simp only [Act.put, List.setIfInBounds_toArray, List.set_cons_zero, List.set_cons_succ]
          refine ⟨fun wv35 hov35 hSv35 => ?_, fun v35 => ?_⟩
          · obtain rfl : v32 = .bool true := hSv35 32 (by decide) (by decide)
            clear hSv35
            clear hov35
            go_wp2_with fail
            exact ⟨rfl, _, rfl, fun d hd => by cases hd; exact rfl, Ext.refl _⟩
          simp only [Act.put, List.setIfInBounds_toArray, List.set_cons_zero, List.set_cons_succ]
          refine ⟨fun wv36 hov36 hSv36 => ?_, fun v36 => ?_⟩
          · obtain rfl : v32 = .bool true := hSv36 32 (by decide) (by decide)
            clear hSv36
            clear hov36
            go_wp2_with fail
            exact ⟨rfl, _, rfl, fun d hd => by cases hd; exact rfl, Ext.refl _⟩
          simp only [Act.put, List.setIfInBounds_toArray, List.set_cons_zero, List.set_cons_succ]
          refine ⟨fun wv37 hov37 hSv37 => ?_, fun v37 => ?_⟩
          · obtain rfl : v32 = .bool true := hSv37 32 (by decide) (by decide)
            clear hSv37
            clear hov37
            go_wp2_with fail
            exact ⟨rfl, _, rfl, fun d hd => by cases hd; exact rfl, Ext.refl _⟩
          simp only [Act.put, List.setIfInBounds_toArray, List.set_cons_zero, List.set_cons_succ]
          refine ⟨fun wv38 hov38 hSv38 => ?_, fun v38 => ?_⟩
          · obtain rfl : v32 = .bool true := hSv38 32 (by decide) (by decide)
            clear hSv38
            clear hov38
            go_wp2_with fail
            exact ⟨rfl, _, rfl, fun d hd => by cases hd; exact rfl, Ext.refl _⟩
          simp only [Act.put, List.setIfInBounds_toArray, List.set_cons_zero, List.set_cons_succ]
          refine ⟨fun wv39 hov39 hSv39 => ?_, fun v39 => ?_⟩
          · obtain rfl : v32 = .bool true := hSv39 32 (by decide) (by decide)
            obtain rfl : v38 = undef := hSv39 38 (by decide) (by decide)
            clear hSv39
            clear hov39
            go_wp2_with fail
            exact ⟨rfl, _, rfl, fun d hd => by cases hd; exact rfl, Ext.refl _⟩
          simp only [Act.put, List.setIfInBounds_toArray, List.set_cons_zero, List.set_cons_succ]
          clear H
          intro w2 HOX H hfin
          obtain rfl : v5 = .pointer (some ⟨g1, 0, none⟩) := hfin 5 (by decide)
          obtain rfl : v6 = .agg (a.own.map V8).toArray := hfin 6 (by decide)
          obtain rfl : v7 = .bool false := hfin 7 (by decide)
          obtain rfl : v8 = .bool false := hfin 8 (by decide)
          obtain rfl : v9 = .pointer (some ⟨g1, 6, none⟩) := hfin 9 (by decide)
          obtain rfl : v10 = .int .i64 a.caps := hfin 10 (by decide)
          obtain rfl : v11 = .bool true := hfin 11 (by decide)
          obtain rfl : v12 = .bool false := hfin 12 (by decide)
          obtain rfl : v13 = .bool false := hfin 13 (by decide)
          obtain rfl : v14 = .bool false := hfin 14 (by decide)
          obtain rfl : v15 = .pointer (some ⟨g1, 7, none⟩) := hfin 15 (by decide)
          obtain rfl : v16 = .int .i64 a.limit := hfin 16 (by decide)
          obtain rfl : v17 = .bool false := hfin 17 (by decide)
          obtain rfl : v18 = .bool true := hfin 18 (by decide)
          obtain rfl : v19 = .bool true := hfin 19 (by decide)
          obtain rfl : v20 = .bool true := hfin 20 (by decide)
          obtain rfl : v21 = undef := hfin 21 (by decide)
          obtain rfl : v22 = undef := hfin 22 (by decide)
          obtain rfl : v23 = undef := hfin 23 (by decide)
          obtain rfl : v24 = undef := hfin 24 (by decide)
          obtain rfl : v25 = .bool true := hfin 25 (by decide)
          obtain rfl : v26 = .bool true := hfin 26 (by decide)
          obtain rfl : v27 = undef := hfin 27 (by decide)
          obtain rfl : v28 = undef := hfin 28 (by decide)
          obtain rfl : v29 = undef := hfin 29 (by decide)
          obtain rfl : v30 = undef := hfin 30 (by decide)
          obtain rfl : v31 = .bool true := hfin 31 (by decide)
          obtain rfl : v32 = .bool true := hfin 32 (by decide)
          obtain rfl : v33 = undef := hfin 33 (by decide)
          obtain rfl : v34 = undef := hfin 34 (by decide)
          obtain rfl : v35 = undef := hfin 35 (by decide)
          obtain rfl : v36 = undef := hfin 36 (by decide)
          obtain rfl : v37 = undef := hfin 37 (by decide)
          obtain rfl : v38 = undef := hfin 38 (by decide)
          obtain rfl : v39 = .bool true := hfin 39 (by decide)
          clear hfin
          simp only [List.drop_succ_cons, List.drop_zero]
          simp only [applyS] at H
          have HXN := kp (HOX.out.ext (Ext.refl w1) (fun g hg => by cases hg))
          go_wp2_with fail
          exact CutP.of rfl (by kernel_rfl) ⟨H, congrArg Value.bool (by rfl)⟩
        | true =>
          rw [hb3] at H33
          clear hb3
          cases hb4 : inF a.idle 1 1073741824 with
          | false =>
            rw [hb4] at H44
            clear hb4
            refine region_free H (tabS [(5, fun zv _ => zv = .pointer (some ⟨g1, 0, none⟩)), (6, fun zv _ => zv = .agg (a.own.map V8).toArray), (7, fun zv _ => zv = .bool false), (8, fun zv _ => zv = .bool false), (9, fun zv _ => zv = .pointer (some ⟨g1, 6, none⟩)), (10, fun zv _ => zv = .int .i64 a.caps), (11, fun zv _ => zv = .bool true), (12, fun zv _ => zv = .bool false), (13, fun zv _ => zv = .bool false), (14, fun zv _ => zv = .bool false), (15, fun zv _ => zv = .pointer (some ⟨g1, 7, none⟩)), (16, fun zv _ => zv = .int .i64 a.limit), (17, fun zv _ => zv = .bool true), (18, fun zv _ => zv = .bool false), (19, fun zv _ => zv = .bool false), (20, fun zv _ => zv = .bool false), (21, fun zv _ => zv = .pointer (some ⟨g1, 8, none⟩)), (22, fun zv _ => zv = .int .i64 a.idle), (23, fun zv _ => zv = .bool false), (24, fun zv _ => zv = .bool true), (25, fun zv _ => zv = .bool true), (26, fun zv _ => zv = .bool true), (27, fun zv _ => zv = undef), (28, fun zv _ => zv = undef), (29, fun zv _ => zv = undef), (30, fun zv _ => zv = undef), (31, fun zv _ => zv = .bool true), (32, fun zv _ => zv = .bool true), (33, fun zv _ => zv = undef), (34, fun zv _ => zv = undef), (35, fun zv _ => zv = undef), (36, fun zv _ => zv = undef), (37, fun zv _ => zv = undef), (38, fun zv _ => zv = undef), (39, fun zv _ => zv = .bool true)]) [] (tabS_out _ _ (by simp only [List.forall_mem_cons]; exact ⟨mono_eqO _ _, mono_eqO _ _, mono_eqO _ _, mono_eqO _ _, mono_eqO _ _, mono_eqO _ _, mono_eqO _ _, mono_eqO _ _, mono_eqO _ _, mono_eqO _ _, mono_eqO _ _, mono_eqO _ _, mono_eqO _ _, mono_eqO _ _, mono_eqO _ _, mono_eqO _ _, mono_eqO _ _, mono_eqO _ _, mono_eqO _ _, mono_eqO _ _, mono_eqO _ _, mono_eqO _ _, mono_eqO _ _, mono_eqO _ _, mono_eqO _ _, mono_eqO _ _, mono_eqO _ _, mono_eqO _ _, mono_eqO _ _, mono_eqO _ _, mono_eqO _ _, mono_eqO _ _, mono_eqO _ _, mono_eqO _ _, mono_eqO _ _, by simp⟩)) 35 (by kernel_rfl) (by kernel_rfl) (by kernel_rfl) (by kernel_rfl) [] [] rfl rfl (by decide) (by decide) (by decide) trivial ?_
            simp only [List.take_succ_cons, List.take_zero]
            refine ⟨fun wv5 hov5 hSv5 => ?_, fun v5 => ?_⟩
            · clear hSv5
              clear hov5
              go_wp2_with fail
              exact ⟨rfl, _, rfl, fun d hd => by cases hd; exact rfl, Ext.refl _⟩
            simp only [Act.put, List.setIfInBounds_toArray, List.set_cons_zero, List.set_cons_succ]
            refine ⟨fun wv6 hov6 hSv6 => ?_, fun v6 => ?_⟩
            · obtain rfl : v5 = .pointer (some ⟨g1, 0, none⟩) := hSv6 5 (by decide) (by decide)
              clear hSv6
              have H := kp (H.out.keep [0] (St := []) trivial hov6 (by decide) (by kernel_rfl))
              have HOX := kp hov6
              clear hov6
              go_wp2_with ((with_reducible show wpList _ _ _ (Oper.mk _ (Op.load 23 _) _ _ _ _ :: _) _ _); refine L_subG H (by kernel_rfl) 23 _ rfl 0 rfl (0) rfl (a.own.map V8) (HOW.out) Try.underlying23 rfl (HZO6.out) ?_; simp only [Act.put, List.setIfInBounds_toArray, List.set_cons_zero, List.set_cons_succ])
              exact ⟨rfl, _, rfl, fun d hd => by cases hd; exact rfl, Ext.refl _⟩
            simp only [Act.put, List.setIfInBounds_toArray, List.set_cons_zero, List.set_cons_succ]
            refine ⟨fun wv7 hov7 hSv7 => ?_, fun v7 => ?_⟩
            · obtain rfl : v6 = .agg (a.own.map V8).toArray := hSv7 6 (by decide) (by decide)
              clear hSv7
              have H := kp (H.out.keep [0] (St := []) trivial hov7 (by decide) (by kernel_rfl))
              have HOX := kp hov7
              clear hov7
              go_wp2_with fail
              refine (HGR.out _).mono ?_
              rintro e w2 ⟨rfl, hx⟩
              have HXW := kp hx
              clear hx
              go_wp2_with fail
              exact ⟨rfl, _, rfl, fun d hd => by cases hd; exact rfl, HXW.out⟩
            simp only [Act.put, List.setIfInBounds_toArray, List.set_cons_zero, List.set_cons_succ]
            refine ⟨fun wv8 hov8 hSv8 => ?_, fun v8 => ?_⟩
            · obtain rfl : v7 = .bool false := hSv8 7 (by decide) (by decide)
              clear hSv8
              clear hov8
              go_wp2_with fail
              exact ⟨rfl, _, rfl, fun d hd => by cases hd; exact rfl, Ext.refl _⟩
            simp only [Act.put, List.setIfInBounds_toArray, List.set_cons_zero, List.set_cons_succ]
            refine ⟨fun wv9 hov9 hSv9 => ?_, fun v9 => ?_⟩
            · obtain rfl : v8 = .bool false := hSv9 8 (by decide) (by decide)
              clear hSv9
              clear hov9
              go_wp2_with fail
              exact ⟨rfl, _, rfl, fun d hd => by cases hd; exact rfl, Ext.refl _⟩
            simp only [Act.put, List.setIfInBounds_toArray, List.set_cons_zero, List.set_cons_succ]
            refine ⟨fun wv10 hov10 hSv10 => ?_, fun v10 => ?_⟩
            · obtain rfl : v8 = .bool false := hSv10 8 (by decide) (by decide)
              obtain rfl : v9 = .pointer (some ⟨g1, 6, none⟩) := hSv10 9 (by decide) (by decide)
              clear hSv10
              have H := kp (H.out.keep [0] (St := []) trivial hov10 (by decide) (by kernel_rfl))
              have HOX := kp hov10
              clear hov10
              have hc := run_load_cell H.out 0 rfl _ _ HC6.out
              go_wp2_with fail
              exact ⟨rfl, _, rfl, fun d hd => by cases hd; exact rfl, Ext.refl _⟩
            simp only [Act.put, List.setIfInBounds_toArray, List.set_cons_zero, List.set_cons_succ]
            refine ⟨fun wv11 hov11 hSv11 => ?_, fun v11 => ?_⟩
            · obtain rfl : v8 = .bool false := hSv11 8 (by decide) (by decide)
              obtain rfl : v10 = .int .i64 a.caps := hSv11 10 (by decide) (by decide)
              clear hSv11
              have H := kp (H.out.keep [0] (St := []) trivial hov11 (by decide) (by kernel_rfl))
              have HOX := kp hov11
              clear hov11
              go_wp2_with fail
              refine (H22.out _).mono ?_
              rintro e w2 ⟨rfl, hx⟩
              have HXW := kp hx
              clear hx
              go_wp2_with fail
              exact ⟨rfl, _, rfl, fun d hd => by cases hd; exact rfl, HXW.out⟩
            simp only [Act.put, List.setIfInBounds_toArray, List.set_cons_zero, List.set_cons_succ]
            refine ⟨fun wv12 hov12 hSv12 => ?_, fun v12 => ?_⟩
            · obtain rfl : v8 = .bool false := hSv12 8 (by decide) (by decide)
              obtain rfl : v11 = .bool true := hSv12 11 (by decide) (by decide)
              clear hSv12
              clear hov12
              go_wp2_with fail
              exact ⟨rfl, _, rfl, fun d hd => by cases hd; exact rfl, Ext.refl _⟩
            simp only [Act.put, List.setIfInBounds_toArray, List.set_cons_zero, List.set_cons_succ]
            refine ⟨fun wv13 hov13 hSv13 => ?_, fun v13 => ?_⟩
            · obtain rfl : v8 = .bool false := hSv13 8 (by decide) (by decide)
              obtain rfl : v12 = .bool false := hSv13 12 (by decide) (by decide)
              clear hSv13
              clear hov13
              go_wp2_with fail
              exact ⟨rfl, _, rfl, fun d hd => by cases hd; exact rfl, Ext.refl _⟩
            simp only [Act.put, List.setIfInBounds_toArray, List.set_cons_zero, List.set_cons_succ]
            refine ⟨fun wv14 hov14 hSv14 => ?_, fun v14 => ?_⟩
            · obtain rfl : v13 = .bool false := hSv14 13 (by decide) (by decide)
              clear hSv14
              clear hov14
              go_wp2_with fail
              exact ⟨rfl, _, rfl, fun d hd => by cases hd; exact rfl, Ext.refl _⟩
            simp only [Act.put, List.setIfInBounds_toArray, List.set_cons_zero, List.set_cons_succ]
            refine ⟨fun wv15 hov15 hSv15 => ?_, fun v15 => ?_⟩
            · obtain rfl : v14 = .bool false := hSv15 14 (by decide) (by decide)
              clear hSv15
              clear hov15
              go_wp2_with fail
              exact ⟨rfl, _, rfl, fun d hd => by cases hd; exact rfl, Ext.refl _⟩
            simp only [Act.put, List.setIfInBounds_toArray, List.set_cons_zero, List.set_cons_succ]
            refine ⟨fun wv16 hov16 hSv16 => ?_, fun v16 => ?_⟩
            · obtain rfl : v14 = .bool false := hSv16 14 (by decide) (by decide)
              obtain rfl : v15 = .pointer (some ⟨g1, 7, none⟩) := hSv16 15 (by decide) (by decide)
              clear hSv16
              have H := kp (H.out.keep [0] (St := []) trivial hov16 (by decide) (by kernel_rfl))
              have HOX := kp hov16
              clear hov16
              have hc := run_load_cell H.out 0 rfl _ _ HC7.out
              go_wp2_with fail
              exact ⟨rfl, _, rfl, fun d hd => by cases hd; exact rfl, Ext.refl _⟩
            simp only [Act.put, List.setIfInBounds_toArray, List.set_cons_zero, List.set_cons_succ]
            refine ⟨fun wv17 hov17 hSv17 => ?_, fun v17 => ?_⟩
            · obtain rfl : v14 = .bool false := hSv17 14 (by decide) (by decide)
              obtain rfl : v16 = .int .i64 a.limit := hSv17 16 (by decide) (by decide)
              clear hSv17
              have H := kp (H.out.keep [0] (St := []) trivial hov17 (by decide) (by kernel_rfl))
              have HOX := kp hov17
              clear hov17
              go_wp2_with fail
              refine (H33.out _).mono ?_
              rintro e w2 ⟨rfl, hx⟩
              have HXW := kp hx
              clear hx
              go_wp2_with fail
              exact ⟨rfl, _, rfl, fun d hd => by cases hd; exact rfl, HXW.out⟩
            simp only [Act.put, List.setIfInBounds_toArray, List.set_cons_zero, List.set_cons_succ]
            refine ⟨fun wv18 hov18 hSv18 => ?_, fun v18 => ?_⟩
            · obtain rfl : v14 = .bool false := hSv18 14 (by decide) (by decide)
              obtain rfl : v17 = .bool true := hSv18 17 (by decide) (by decide)
              clear hSv18
              clear hov18
              go_wp2_with fail
              exact ⟨rfl, _, rfl, fun d hd => by cases hd; exact rfl, Ext.refl _⟩
            simp only [Act.put, List.setIfInBounds_toArray, List.set_cons_zero, List.set_cons_succ]
            refine ⟨fun wv19 hov19 hSv19 => ?_, fun v19 => ?_⟩
            · obtain rfl : v14 = .bool false := hSv19 14 (by decide) (by decide)
              obtain rfl : v18 = .bool false := hSv19 18 (by decide) (by decide)
              clear hSv19
              clear hov19
              go_wp2_with fail
              exact ⟨rfl, _, rfl, fun d hd => by cases hd; exact rfl, Ext.refl _⟩
            simp only [Act.put, List.setIfInBounds_toArray, List.set_cons_zero, List.set_cons_succ]
            refine ⟨fun wv20 hov20 hSv20 => ?_, fun v20 => ?_⟩
            · obtain rfl : v19 = .bool false := hSv20 19 (by decide) (by decide)
              clear hSv20
              clear hov20
              go_wp2_with fail
              exact ⟨rfl, _, rfl, fun d hd => by cases hd; exact rfl, Ext.refl _⟩
            simp only [Act.put, List.setIfInBounds_toArray, List.set_cons_zero, List.set_cons_succ]
            refine ⟨fun wv21 hov21 hSv21 => ?_, fun v21 => ?_⟩
            · obtain rfl : v20 = .bool false := hSv21 20 (by decide) (by decide)
              clear hSv21
              clear hov21
              go_wp2_with fail
              exact ⟨rfl, _, rfl, fun d hd => by cases hd; exact rfl, Ext.refl _⟩
            simp only [Act.put, List.setIfInBounds_toArray, List.set_cons_zero, List.set_cons_succ]
            refine ⟨fun wv22 hov22 hSv22 => ?_, fun v22 => ?_⟩
            · obtain rfl : v20 = .bool false := hSv22 20 (by decide) (by decide)
              obtain rfl : v21 = .pointer (some ⟨g1, 8, none⟩) := hSv22 21 (by decide) (by decide)
              clear hSv22
              have H := kp (H.out.keep [0] (St := []) trivial hov22 (by decide) (by kernel_rfl))
              have HOX := kp hov22
              clear hov22
              have hc := run_load_cell H.out 0 rfl _ _ HC8.out
              go_wp2_with fail
              exact ⟨rfl, _, rfl, fun d hd => by cases hd; exact rfl, Ext.refl _⟩
            simp only [Act.put, List.setIfInBounds_toArray, List.set_cons_zero, List.set_cons_succ]
            refine ⟨fun wv23 hov23 hSv23 => ?_, fun v23 => ?_⟩
            · obtain rfl : v20 = .bool false := hSv23 20 (by decide) (by decide)
              obtain rfl : v22 = .int .i64 a.idle := hSv23 22 (by decide) (by decide)
              clear hSv23
              have H := kp (H.out.keep [0] (St := []) trivial hov23 (by decide) (by kernel_rfl))
              have HOX := kp hov23
              clear hov23
              go_wp2_with fail
              refine (H44.out _).mono ?_
              rintro e w2 ⟨rfl, hx⟩
              have HXW := kp hx
              clear hx
              go_wp2_with fail
              exact ⟨rfl, _, rfl, fun d hd => by cases hd; exact rfl, HXW.out⟩
            simp only [Act.put, List.setIfInBounds_toArray, List.set_cons_zero, List.set_cons_succ]
            refine ⟨fun wv24 hov24 hSv24 => ?_, fun v24 => ?_⟩
            · obtain rfl : v20 = .bool false := hSv24 20 (by decide) (by decide)
              obtain rfl : v23 = .bool false := hSv24 23 (by decide) (by decide)
              clear hSv24
              clear hov24
              go_wp2_with fail
              exact ⟨rfl, _, rfl, fun d hd => by cases hd; exact rfl, Ext.refl _⟩
            simp only [Act.put, List.setIfInBounds_toArray, List.set_cons_zero, List.set_cons_succ]
            refine ⟨fun wv25 hov25 hSv25 => ?_, fun v25 => ?_⟩
            · obtain rfl : v20 = .bool false := hSv25 20 (by decide) (by decide)
              obtain rfl : v24 = .bool true := hSv25 24 (by decide) (by decide)
              clear hSv25
              clear hov25
              go_wp2_with fail
              exact ⟨rfl, _, rfl, fun d hd => by cases hd; exact rfl, Ext.refl _⟩
            simp only [Act.put, List.setIfInBounds_toArray, List.set_cons_zero, List.set_cons_succ]
            refine ⟨fun wv26 hov26 hSv26 => ?_, fun v26 => ?_⟩
            · obtain rfl : v25 = .bool true := hSv26 25 (by decide) (by decide)
              clear hSv26
              clear hov26
              go_wp2_with fail
              exact ⟨rfl, _, rfl, fun d hd => by cases hd; exact rfl, Ext.refl _⟩
            simp only [Act.put, List.setIfInBounds_toArray, List.set_cons_zero, List.set_cons_succ]
            refine ⟨fun wv27 hov27 hSv27 => ?_, fun v27 => ?_⟩
            · obtain rfl : v26 = .bool true := hSv27 26 (by decide) (by decide)
              clear hSv27
              clear hov27
              go_wp2_with fail
              exact ⟨rfl, _, rfl, fun d hd => by cases hd; exact rfl, Ext.refl _⟩
            simp only [Act.put, List.setIfInBounds_toArray, List.set_cons_zero, List.set_cons_succ]
            refine ⟨fun wv28 hov28 hSv28 => ?_, fun v28 => ?_⟩
            · obtain rfl : v26 = .bool true := hSv28 26 (by decide) (by decide)
              clear hSv28
              clear hov28
              go_wp2_with fail
              exact ⟨rfl, _, rfl, fun d hd => by cases hd; exact rfl, Ext.refl _⟩
            simp only [Act.put, List.setIfInBounds_toArray, List.set_cons_zero, List.set_cons_succ]
            refine ⟨fun wv29 hov29 hSv29 => ?_, fun v29 => ?_⟩
            · obtain rfl : v26 = .bool true := hSv29 26 (by decide) (by decide)
              clear hSv29
              clear hov29
              go_wp2_with fail
              exact ⟨rfl, _, rfl, fun d hd => by cases hd; exact rfl, Ext.refl _⟩
            simp only [Act.put, List.setIfInBounds_toArray, List.set_cons_zero, List.set_cons_succ]
            refine ⟨fun wv30 hov30 hSv30 => ?_, fun v30 => ?_⟩
            · obtain rfl : v26 = .bool true := hSv30 26 (by decide) (by decide)
              clear hSv30
              clear hov30
              go_wp2_with fail
              exact ⟨rfl, _, rfl, fun d hd => by cases hd; exact rfl, Ext.refl _⟩
            simp only [Act.put, List.setIfInBounds_toArray, List.set_cons_zero, List.set_cons_succ]
            refine ⟨fun wv31 hov31 hSv31 => ?_, fun v31 => ?_⟩
            · obtain rfl : v26 = .bool true := hSv31 26 (by decide) (by decide)
              obtain rfl : v30 = undef := hSv31 30 (by decide) (by decide)
              clear hSv31
              clear hov31
              go_wp2_with fail
              exact ⟨rfl, _, rfl, fun d hd => by cases hd; exact rfl, Ext.refl _⟩
            simp only [Act.put, List.setIfInBounds_toArray, List.set_cons_zero, List.set_cons_succ]
            refine ⟨fun wv32 hov32 hSv32 => ?_, fun v32 => ?_⟩
            · obtain rfl : v31 = .bool true := hSv32 31 (by decide) (by decide)
              clear hSv32
              clear hov32
              go_wp2_with fail
              exact ⟨rfl, _, rfl, fun d hd => by cases hd; exact rfl, Ext.refl _⟩
            simp only [Act.put, List.setIfInBounds_toArray, List.set_cons_zero, List.set_cons_succ]
            refine ⟨fun wv33 hov33 hSv33 => ?_, fun v33 => ?_⟩
            · obtain rfl : v32 = .bool true := hSv33 32 (by decide) (by decide)
              clear hSv33
              clear hov33
              go_wp2_with fail
              exact ⟨rfl, _, rfl, fun d hd => by cases hd; exact rfl, Ext.refl _⟩
            simp only [Act.put, List.setIfInBounds_toArray, List.set_cons_zero, List.set_cons_succ]
            refine ⟨fun wv34 hov34 hSv34 => ?_, fun v34 => ?_⟩
            · obtain rfl : v32 = .bool true := hSv34 32 (by decide) (by decide)
              clear hSv34
              clear hov34
              go_wp2_with fail
              exact ⟨rfl, _, rfl, fun d hd => by cases hd; exact rfl, Ext.refl _⟩
            simp only [Act.put, List.setIfInBounds_toArray, List.set_cons_zero, List.set_cons_succ]
            refine ⟨fun wv35 hov35 hSv35 => ?_, fun v35 => ?_⟩
            · obtain rfl : v32 = .bool true := hSv35 32 (by decide) (by decide)
              clear hSv35
              clear hov35
              go_wp2_with fail
              exact ⟨rfl, _, rfl, fun d hd => by cases hd; exact rfl, Ext.refl _⟩
            simp only [Act.put, List.setIfInBounds_toArray, List.set_cons_zero, List.set_cons_succ]
            refine ⟨fun wv36 hov36 hSv36 => ?_, fun v36 => ?_⟩
            · obtain rfl : v32 = .bool true := hSv36 32 (by decide) (by decide)
              clear hSv36
              clear hov36
              go_wp2_with fail
              exact ⟨rfl, _, rfl, fun d hd => by cases hd; exact rfl, Ext.refl _⟩
            simp only [Act.put, List.setIfInBounds_toArray, List.set_cons_zero, List.set_cons_succ]
            refine ⟨fun wv37 hov37 hSv37 => ?_, fun v37 => ?_⟩
            · obtain rfl : v32 = .bool true := hSv37 32 (by decide) (by decide)
              clear hSv37
              clear hov37
              go_wp2_with fail
              exact ⟨rfl, _, rfl, fun d hd => by cases hd; exact rfl, Ext.refl _⟩
            simp only [Act.put, List.setIfInBounds_toArray, List.set_cons_zero, List.set_cons_succ]
            refine ⟨fun wv38 hov38 hSv38 => ?_, fun v38 => ?_⟩
            · obtain rfl : v32 = .bool true := hSv38 32 (by decide) (by decide)
              clear hSv38
              clear hov38
              go_wp2_with fail
              exact ⟨rfl, _, rfl, fun d hd => by cases hd; exact rfl, Ext.refl _⟩
            simp only [Act.put, List.setIfInBounds_toArray, List.set_cons_zero, List.set_cons_succ]
            refine ⟨fun wv39 hov39 hSv39 => ?_, fun v39 => ?_⟩
            · obtain rfl : v32 = .bool true := hSv39 32 (by decide) (by decide)
              obtain rfl : v38 = undef := hSv39 38 (by decide) (by decide)
              clear hSv39
              clear hov39
              go_wp2_with fail
              exact ⟨rfl, _, rfl, fun d hd => by cases hd; exact rfl, Ext.refl _⟩
            simp only [Act.put, List.setIfInBounds_toArray, List.set_cons_zero, List.set_cons_succ]
            clear H
            intro w2 HOX H hfin
            obtain rfl : v5 = .pointer (some ⟨g1, 0, none⟩) := hfin 5 (by decide)
            obtain rfl : v6 = .agg (a.own.map V8).toArray := hfin 6 (by decide)
            obtain rfl : v7 = .bool false := hfin 7 (by decide)
            obtain rfl : v8 = .bool false := hfin 8 (by decide)
            obtain rfl : v9 = .pointer (some ⟨g1, 6, none⟩) := hfin 9 (by decide)
            obtain rfl : v10 = .int .i64 a.caps := hfin 10 (by decide)
            obtain rfl : v11 = .bool true := hfin 11 (by decide)
            obtain rfl : v12 = .bool false := hfin 12 (by decide)
            obtain rfl : v13 = .bool false := hfin 13 (by decide)
            obtain rfl : v14 = .bool false := hfin 14 (by decide)
            obtain rfl : v15 = .pointer (some ⟨g1, 7, none⟩) := hfin 15 (by decide)
            obtain rfl : v16 = .int .i64 a.limit := hfin 16 (by decide)
            obtain rfl : v17 = .bool true := hfin 17 (by decide)
            obtain rfl : v18 = .bool false := hfin 18 (by decide)
            obtain rfl : v19 = .bool false := hfin 19 (by decide)
            obtain rfl : v20 = .bool false := hfin 20 (by decide)
            obtain rfl : v21 = .pointer (some ⟨g1, 8, none⟩) := hfin 21 (by decide)
            obtain rfl : v22 = .int .i64 a.idle := hfin 22 (by decide)
            obtain rfl : v23 = .bool false := hfin 23 (by decide)
            obtain rfl : v24 = .bool true := hfin 24 (by decide)
            obtain rfl : v25 = .bool true := hfin 25 (by decide)
            obtain rfl : v26 = .bool true := hfin 26 (by decide)
            obtain rfl : v27 = undef := hfin 27 (by decide)
            obtain rfl : v28 = undef := hfin 28 (by decide)
            obtain rfl : v29 = undef := hfin 29 (by decide)
            obtain rfl : v30 = undef := hfin 30 (by decide)
            obtain rfl : v31 = .bool true := hfin 31 (by decide)
            obtain rfl : v32 = .bool true := hfin 32 (by decide)
            obtain rfl : v33 = undef := hfin 33 (by decide)
            obtain rfl : v34 = undef := hfin 34 (by decide)
            obtain rfl : v35 = undef := hfin 35 (by decide)
            obtain rfl : v36 = undef := hfin 36 (by decide)
            obtain rfl : v37 = undef := hfin 37 (by decide)
            obtain rfl : v38 = undef := hfin 38 (by decide)
            obtain rfl : v39 = .bool true := hfin 39 (by decide)
            clear hfin
            simp only [List.drop_succ_cons, List.drop_zero]
            simp only [applyS] at H
            have HXN := kp (HOX.out.ext (Ext.refl w1) (fun g hg => by cases hg))
            go_wp2_with fail
            exact CutP.of rfl (by kernel_rfl) ⟨H, congrArg Value.bool (by rfl)⟩
          | true =>
            rw [hb4] at H44
            clear hb4
            by_cases h64 : n ≤ 64
            · have h64b : decide (n ≤ 64) = true := decide_eq_true h64
              have H64 := kp (show decide ((64:Int) < (n:Int)) = false from decide_eq_false (by omega))
              refine region_free H (tabS [(5, fun zv _ => zv = .pointer (some ⟨g1, 0, none⟩)), (6, fun zv _ => zv = .agg (a.own.map V8).toArray), (7, fun zv _ => zv = .bool false), (8, fun zv _ => zv = .bool false), (9, fun zv _ => zv = .pointer (some ⟨g1, 6, none⟩)), (10, fun zv _ => zv = .int .i64 a.caps), (11, fun zv _ => zv = .bool true), (12, fun zv _ => zv = .bool false), (13, fun zv _ => zv = .bool false), (14, fun zv _ => zv = .bool false), (15, fun zv _ => zv = .pointer (some ⟨g1, 7, none⟩)), (16, fun zv _ => zv = .int .i64 a.limit), (17, fun zv _ => zv = .bool true), (18, fun zv _ => zv = .bool false), (19, fun zv _ => zv = .bool false), (20, fun zv _ => zv = .bool false), (21, fun zv _ => zv = .pointer (some ⟨g1, 8, none⟩)), (22, fun zv _ => zv = .int .i64 a.idle), (23, fun zv _ => zv = .bool true), (24, fun zv _ => zv = .bool false), (25, fun zv _ => zv = .bool false), (26, fun zv _ => zv = .bool false), (27, fun zv _ => zv = .pointer (some ⟨g1, 9, none⟩)), (28, fun zv _ => zv = .slice ad n c), (29, fun zv _ => zv = .int .i64 n), (30, fun zv _ => zv = .bool false), (31, fun zv _ => zv = .bool false), (32, fun zv _ => zv = .bool false), (33, fun zv _ => zv = .pointer (some ⟨g1, 9, none⟩)), (34, fun zv _ => zv = .slice ad n c), (35, fun zv _ => zv = .int .i64 (membersF l)), (36, fun zv _ => zv = .pointer (some ⟨g1, 7, none⟩)), (37, fun zv _ => zv = .int .i64 a.limit), (38, fun zv _ => zv = .bool (decide (a.limit < membersF l))), (39, fun zv _ => zv = .bool (decide (a.limit < membersF l)))]) [] (tabS_out _ _ (by simp only [List.forall_mem_cons]; exact ⟨mono_eqO _ _, mono_eqO _ _, mono_eqO _ _, mono_eqO _ _, mono_eqO _ _, mono_eqO _ _, mono_eqO _ _, mono_eqO _ _, mono_eqO _ _, mono_eqO _ _, mono_eqO _ _, mono_eqO _ _, mono_eqO _ _, mono_eqO _ _, mono_eqO _ _, mono_eqO _ _, mono_eqO _ _, mono_eqO _ _, mono_eqO _ _, mono_eqO _ _, mono_eqO _ _, mono_eqO _ _, mono_eqO _ _, mono_eqO _ _, mono_eqO _ _, mono_eqO _ _, mono_eqO _ _, mono_eqO _ _, mono_eqO _ _, mono_eqO _ _, mono_eqO _ _, mono_eqO _ _, mono_eqO _ _, mono_eqO _ _, mono_eqO _ _, by simp⟩)) 35 (by kernel_rfl) (by kernel_rfl) (by kernel_rfl) (by kernel_rfl) [] [] rfl rfl (by decide) (by decide) (by decide) trivial ?_
              simp only [List.take_succ_cons, List.take_zero]
              refine ⟨fun wv5 hov5 hSv5 => ?_, fun v5 => ?_⟩
              · clear hSv5
                clear hov5
                go_wp2_with fail
                exact ⟨rfl, _, rfl, fun d hd => by cases hd; exact rfl, Ext.refl _⟩
              simp only [Act.put, List.setIfInBounds_toArray, List.set_cons_zero, List.set_cons_succ]
              refine ⟨fun wv6 hov6 hSv6 => ?_, fun v6 => ?_⟩
              · obtain rfl : v5 = .pointer (some ⟨g1, 0, none⟩) := hSv6 5 (by decide) (by decide)
                clear hSv6
                have H := kp (H.out.keep [0] (St := []) trivial hov6 (by decide) (by kernel_rfl))
                have HOX := kp hov6
                clear hov6
                go_wp2_with ((with_reducible show wpList _ _ _ (Oper.mk _ (Op.load 23 _) _ _ _ _ :: _) _ _); refine L_subG H (by kernel_rfl) 23 _ rfl 0 rfl (0) rfl (a.own.map V8) (HOW.out) Try.underlying23 rfl (HZO6.out) ?_; simp only [Act.put, List.setIfInBounds_toArray, List.set_cons_zero, List.set_cons_succ])
                exact ⟨rfl, _, rfl, fun d hd => by cases hd; exact rfl, Ext.refl _⟩
              simp only [Act.put, List.setIfInBounds_toArray, List.set_cons_zero, List.set_cons_succ]
              refine ⟨fun wv7 hov7 hSv7 => ?_, fun v7 => ?_⟩
              · obtain rfl : v6 = .agg (a.own.map V8).toArray := hSv7 6 (by decide) (by decide)
                clear hSv7
                have H := kp (H.out.keep [0] (St := []) trivial hov7 (by decide) (by kernel_rfl))
                have HOX := kp hov7
                clear hov7
                go_wp2_with fail
                refine (HGR.out _).mono ?_
                rintro e w2 ⟨rfl, hx⟩
                have HXW := kp hx
                clear hx
                go_wp2_with fail
                exact ⟨rfl, _, rfl, fun d hd => by cases hd; exact rfl, HXW.out⟩
              simp only [Act.put, List.setIfInBounds_toArray, List.set_cons_zero, List.set_cons_succ]
              refine ⟨fun wv8 hov8 hSv8 => ?_, fun v8 => ?_⟩
              · obtain rfl : v7 = .bool false := hSv8 7 (by decide) (by decide)
                clear hSv8
                clear hov8
                go_wp2_with fail
                exact ⟨rfl, _, rfl, fun d hd => by cases hd; exact rfl, Ext.refl _⟩
              simp only [Act.put, List.setIfInBounds_toArray, List.set_cons_zero, List.set_cons_succ]
              refine ⟨fun wv9 hov9 hSv9 => ?_, fun v9 => ?_⟩
              · obtain rfl : v8 = .bool false := hSv9 8 (by decide) (by decide)
                clear hSv9
                clear hov9
                go_wp2_with fail
                exact ⟨rfl, _, rfl, fun d hd => by cases hd; exact rfl, Ext.refl _⟩
              simp only [Act.put, List.setIfInBounds_toArray, List.set_cons_zero, List.set_cons_succ]
              refine ⟨fun wv10 hov10 hSv10 => ?_, fun v10 => ?_⟩
              · obtain rfl : v8 = .bool false := hSv10 8 (by decide) (by decide)
                obtain rfl : v9 = .pointer (some ⟨g1, 6, none⟩) := hSv10 9 (by decide) (by decide)
                clear hSv10
                have H := kp (H.out.keep [0] (St := []) trivial hov10 (by decide) (by kernel_rfl))
                have HOX := kp hov10
                clear hov10
                have hc := run_load_cell H.out 0 rfl _ _ HC6.out
                go_wp2_with fail
                exact ⟨rfl, _, rfl, fun d hd => by cases hd; exact rfl, Ext.refl _⟩
              simp only [Act.put, List.setIfInBounds_toArray, List.set_cons_zero, List.set_cons_succ]
              refine ⟨fun wv11 hov11 hSv11 => ?_, fun v11 => ?_⟩
              · obtain rfl : v8 = .bool false := hSv11 8 (by decide) (by decide)
                obtain rfl : v10 = .int .i64 a.caps := hSv11 10 (by decide) (by decide)
                clear hSv11
                have H := kp (H.out.keep [0] (St := []) trivial hov11 (by decide) (by kernel_rfl))
                have HOX := kp hov11
                clear hov11
                go_wp2_with fail
                refine (H22.out _).mono ?_
                rintro e w2 ⟨rfl, hx⟩
                have HXW := kp hx
                clear hx
                go_wp2_with fail
                exact ⟨rfl, _, rfl, fun d hd => by cases hd; exact rfl, HXW.out⟩
              simp only [Act.put, List.setIfInBounds_toArray, List.set_cons_zero, List.set_cons_succ]
              refine ⟨fun wv12 hov12 hSv12 => ?_, fun v12 => ?_⟩
              · obtain rfl : v8 = .bool false := hSv12 8 (by decide) (by decide)
                obtain rfl : v11 = .bool true := hSv12 11 (by decide) (by decide)
                clear hSv12
                clear hov12
                go_wp2_with fail
                exact ⟨rfl, _, rfl, fun d hd => by cases hd; exact rfl, Ext.refl _⟩
              simp only [Act.put, List.setIfInBounds_toArray, List.set_cons_zero, List.set_cons_succ]
              refine ⟨fun wv13 hov13 hSv13 => ?_, fun v13 => ?_⟩
              · obtain rfl : v8 = .bool false := hSv13 8 (by decide) (by decide)
                obtain rfl : v12 = .bool false := hSv13 12 (by decide) (by decide)
                clear hSv13
                clear hov13
                go_wp2_with fail
                exact ⟨rfl, _, rfl, fun d hd => by cases hd; exact rfl, Ext.refl _⟩
              simp only [Act.put, List.setIfInBounds_toArray, List.set_cons_zero, List.set_cons_succ]
              refine ⟨fun wv14 hov14 hSv14 => ?_, fun v14 => ?_⟩
              · obtain rfl : v13 = .bool false := hSv14 13 (by decide) (by decide)
                clear hSv14
                clear hov14
                go_wp2_with fail
                exact ⟨rfl, _, rfl, fun d hd => by cases hd; exact rfl, Ext.refl _⟩
              simp only [Act.put, List.setIfInBounds_toArray, List.set_cons_zero, List.set_cons_succ]
              refine ⟨fun wv15 hov15 hSv15 => ?_, fun v15 => ?_⟩
              · obtain rfl : v14 = .bool false := hSv15 14 (by decide) (by decide)
                clear hSv15
                clear hov15
                go_wp2_with fail
                exact ⟨rfl, _, rfl, fun d hd => by cases hd; exact rfl, Ext.refl _⟩
              simp only [Act.put, List.setIfInBounds_toArray, List.set_cons_zero, List.set_cons_succ]
              refine ⟨fun wv16 hov16 hSv16 => ?_, fun v16 => ?_⟩
              · obtain rfl : v14 = .bool false := hSv16 14 (by decide) (by decide)
                obtain rfl : v15 = .pointer (some ⟨g1, 7, none⟩) := hSv16 15 (by decide) (by decide)
                clear hSv16
                have H := kp (H.out.keep [0] (St := []) trivial hov16 (by decide) (by kernel_rfl))
                have HOX := kp hov16
                clear hov16
                have hc := run_load_cell H.out 0 rfl _ _ HC7.out
                go_wp2_with fail
                exact ⟨rfl, _, rfl, fun d hd => by cases hd; exact rfl, Ext.refl _⟩
              simp only [Act.put, List.setIfInBounds_toArray, List.set_cons_zero, List.set_cons_succ]
              refine ⟨fun wv17 hov17 hSv17 => ?_, fun v17 => ?_⟩
              · obtain rfl : v14 = .bool false := hSv17 14 (by decide) (by decide)
                obtain rfl : v16 = .int .i64 a.limit := hSv17 16 (by decide) (by decide)
                clear hSv17
                have H := kp (H.out.keep [0] (St := []) trivial hov17 (by decide) (by kernel_rfl))
                have HOX := kp hov17
                clear hov17
                go_wp2_with fail
                refine (H33.out _).mono ?_
                rintro e w2 ⟨rfl, hx⟩
                have HXW := kp hx
                clear hx
                go_wp2_with fail
                exact ⟨rfl, _, rfl, fun d hd => by cases hd; exact rfl, HXW.out⟩
              simp only [Act.put, List.setIfInBounds_toArray, List.set_cons_zero, List.set_cons_succ]
              refine ⟨fun wv18 hov18 hSv18 => ?_, fun v18 => ?_⟩
              · obtain rfl : v14 = .bool false := hSv18 14 (by decide) (by decide)
                obtain rfl : v17 = .bool true := hSv18 17 (by decide) (by decide)
                clear hSv18
                clear hov18
                go_wp2_with fail
                exact ⟨rfl, _, rfl, fun d hd => by cases hd; exact rfl, Ext.refl _⟩
              simp only [Act.put, List.setIfInBounds_toArray, List.set_cons_zero, List.set_cons_succ]
              refine ⟨fun wv19 hov19 hSv19 => ?_, fun v19 => ?_⟩
              · obtain rfl : v14 = .bool false := hSv19 14 (by decide) (by decide)
                obtain rfl : v18 = .bool false := hSv19 18 (by decide) (by decide)
                clear hSv19
                clear hov19
                go_wp2_with fail
                exact ⟨rfl, _, rfl, fun d hd => by cases hd; exact rfl, Ext.refl _⟩
              simp only [Act.put, List.setIfInBounds_toArray, List.set_cons_zero, List.set_cons_succ]
              refine ⟨fun wv20 hov20 hSv20 => ?_, fun v20 => ?_⟩
              · obtain rfl : v19 = .bool false := hSv20 19 (by decide) (by decide)
                clear hSv20
                clear hov20
                go_wp2_with fail
                exact ⟨rfl, _, rfl, fun d hd => by cases hd; exact rfl, Ext.refl _⟩
              simp only [Act.put, List.setIfInBounds_toArray, List.set_cons_zero, List.set_cons_succ]
              refine ⟨fun wv21 hov21 hSv21 => ?_, fun v21 => ?_⟩
              · obtain rfl : v20 = .bool false := hSv21 20 (by decide) (by decide)
                clear hSv21
                clear hov21
                go_wp2_with fail
                exact ⟨rfl, _, rfl, fun d hd => by cases hd; exact rfl, Ext.refl _⟩
              simp only [Act.put, List.setIfInBounds_toArray, List.set_cons_zero, List.set_cons_succ]
              refine ⟨fun wv22 hov22 hSv22 => ?_, fun v22 => ?_⟩
              · obtain rfl : v20 = .bool false := hSv22 20 (by decide) (by decide)
                obtain rfl : v21 = .pointer (some ⟨g1, 8, none⟩) := hSv22 21 (by decide) (by decide)
                clear hSv22
                have H := kp (H.out.keep [0] (St := []) trivial hov22 (by decide) (by kernel_rfl))
                have HOX := kp hov22
                clear hov22
                have hc := run_load_cell H.out 0 rfl _ _ HC8.out
                go_wp2_with fail
                exact ⟨rfl, _, rfl, fun d hd => by cases hd; exact rfl, Ext.refl _⟩
              simp only [Act.put, List.setIfInBounds_toArray, List.set_cons_zero, List.set_cons_succ]
              refine ⟨fun wv23 hov23 hSv23 => ?_, fun v23 => ?_⟩
              · obtain rfl : v20 = .bool false := hSv23 20 (by decide) (by decide)
                obtain rfl : v22 = .int .i64 a.idle := hSv23 22 (by decide) (by decide)
                clear hSv23
                have H := kp (H.out.keep [0] (St := []) trivial hov23 (by decide) (by kernel_rfl))
                have HOX := kp hov23
                clear hov23
                go_wp2_with fail
                refine (H44.out _).mono ?_
                rintro e w2 ⟨rfl, hx⟩
                have HXW := kp hx
                clear hx
                go_wp2_with fail
                exact ⟨rfl, _, rfl, fun d hd => by cases hd; exact rfl, HXW.out⟩
              simp only [Act.put, List.setIfInBounds_toArray, List.set_cons_zero, List.set_cons_succ]
              refine ⟨fun wv24 hov24 hSv24 => ?_, fun v24 => ?_⟩
              · obtain rfl : v20 = .bool false := hSv24 20 (by decide) (by decide)
                obtain rfl : v23 = .bool true := hSv24 23 (by decide) (by decide)
                clear hSv24
                clear hov24
                go_wp2_with fail
                exact ⟨rfl, _, rfl, fun d hd => by cases hd; exact rfl, Ext.refl _⟩
              simp only [Act.put, List.setIfInBounds_toArray, List.set_cons_zero, List.set_cons_succ]
              refine ⟨fun wv25 hov25 hSv25 => ?_, fun v25 => ?_⟩
              · obtain rfl : v20 = .bool false := hSv25 20 (by decide) (by decide)
                obtain rfl : v24 = .bool false := hSv25 24 (by decide) (by decide)
                clear hSv25
                clear hov25
                go_wp2_with fail
                exact ⟨rfl, _, rfl, fun d hd => by cases hd; exact rfl, Ext.refl _⟩
              simp only [Act.put, List.setIfInBounds_toArray, List.set_cons_zero, List.set_cons_succ]
              refine ⟨fun wv26 hov26 hSv26 => ?_, fun v26 => ?_⟩
              · obtain rfl : v25 = .bool false := hSv26 25 (by decide) (by decide)
                clear hSv26
                clear hov26
                go_wp2_with fail
                exact ⟨rfl, _, rfl, fun d hd => by cases hd; exact rfl, Ext.refl _⟩
              simp only [Act.put, List.setIfInBounds_toArray, List.set_cons_zero, List.set_cons_succ]
              refine ⟨fun wv27 hov27 hSv27 => ?_, fun v27 => ?_⟩
              · obtain rfl : v26 = .bool false := hSv27 26 (by decide) (by decide)
                clear hSv27
                clear hov27
                go_wp2_with fail
                exact ⟨rfl, _, rfl, fun d hd => by cases hd; exact rfl, Ext.refl _⟩
              simp only [Act.put, List.setIfInBounds_toArray, List.set_cons_zero, List.set_cons_succ]
              refine ⟨fun wv28 hov28 hSv28 => ?_, fun v28 => ?_⟩
              · obtain rfl : v26 = .bool false := hSv28 26 (by decide) (by decide)
                obtain rfl : v27 = .pointer (some ⟨g1, 9, none⟩) := hSv28 27 (by decide) (by decide)
                clear hSv28
                have H := kp (H.out.keep [0] (St := []) trivial hov28 (by decide) (by kernel_rfl))
                have HOX := kp hov28
                clear hov28
                have hc := run_load_cell H.out 0 rfl _ _ HC9.out
                go_wp2_with fail
                exact ⟨rfl, _, rfl, fun d hd => by cases hd; exact rfl, Ext.refl _⟩
              simp only [Act.put, List.setIfInBounds_toArray, List.set_cons_zero, List.set_cons_succ]
              refine ⟨fun wv29 hov29 hSv29 => ?_, fun v29 => ?_⟩
              · obtain rfl : v26 = .bool false := hSv29 26 (by decide) (by decide)
                obtain rfl : v28 = .slice ad n c := hSv29 28 (by decide) (by decide)
                clear hSv29
                clear hov29
                go_wp2_with fail
                exact ⟨rfl, _, rfl, fun d hd => by cases hd; exact rfl, Ext.refl _⟩
              simp only [Act.put, List.setIfInBounds_toArray, List.set_cons_zero, List.set_cons_succ]
              refine ⟨fun wv30 hov30 hSv30 => ?_, fun v30 => ?_⟩
              · obtain rfl : v26 = .bool false := hSv30 26 (by decide) (by decide)
                obtain rfl : v29 = .int .i64 n := hSv30 29 (by decide) (by decide)
                clear hSv30
                clear hov30
                go_wp2_with fail
                exact ⟨rfl, _, rfl, fun d hd => by cases hd; exact (congrArg Value.bool H64.out), Ext.refl _⟩
              simp only [Act.put, List.setIfInBounds_toArray, List.set_cons_zero, List.set_cons_succ]
              refine ⟨fun wv31 hov31 hSv31 => ?_, fun v31 => ?_⟩
              · obtain rfl : v26 = .bool false := hSv31 26 (by decide) (by decide)
                obtain rfl : v30 = .bool false := hSv31 30 (by decide) (by decide)
                clear hSv31
                clear hov31
                go_wp2_with fail
                exact ⟨rfl, _, rfl, fun d hd => by cases hd; exact rfl, Ext.refl _⟩
              simp only [Act.put, List.setIfInBounds_toArray, List.set_cons_zero, List.set_cons_succ]
              refine ⟨fun wv32 hov32 hSv32 => ?_, fun v32 => ?_⟩
              · obtain rfl : v31 = .bool false := hSv32 31 (by decide) (by decide)
                clear hSv32
                clear hov32
                go_wp2_with fail
                exact ⟨rfl, _, rfl, fun d hd => by cases hd; exact rfl, Ext.refl _⟩
              simp only [Act.put, List.setIfInBounds_toArray, List.set_cons_zero, List.set_cons_succ]
              refine ⟨fun wv33 hov33 hSv33 => ?_, fun v33 => ?_⟩
              · obtain rfl : v32 = .bool false := hSv33 32 (by decide) (by decide)
                clear hSv33
                clear hov33
                go_wp2_with fail
                exact ⟨rfl, _, rfl, fun d hd => by cases hd; exact rfl, Ext.refl _⟩
              simp only [Act.put, List.setIfInBounds_toArray, List.set_cons_zero, List.set_cons_succ]
              refine ⟨fun wv34 hov34 hSv34 => ?_, fun v34 => ?_⟩
              · obtain rfl : v32 = .bool false := hSv34 32 (by decide) (by decide)
                obtain rfl : v33 = .pointer (some ⟨g1, 9, none⟩) := hSv34 33 (by decide) (by decide)
                clear hSv34
                have H := kp (H.out.keep [0] (St := []) trivial hov34 (by decide) (by kernel_rfl))
                have HOX := kp hov34
                clear hov34
                have hc := run_load_cell H.out 0 rfl _ _ HC9.out
                go_wp2_with fail
                exact ⟨rfl, _, rfl, fun d hd => by cases hd; exact rfl, Ext.refl _⟩
              simp only [Act.put, List.setIfInBounds_toArray, List.set_cons_zero, List.set_cons_succ]
              refine ⟨fun wv35 hov35 hSv35 => ?_, fun v35 => ?_⟩
              · obtain rfl : v32 = .bool false := hSv35 32 (by decide) (by decide)
                obtain rfl : v34 = .slice ad n c := hSv35 34 (by decide) (by decide)
                clear hSv35
                have H := kp (H.out.keep [0] (St := []) trivial hov35 (by decide) (by kernel_rfl))
                have HOX := kp hov35
                clear hov35
                go_wp2_with fail
                refine (HME.out _ H.out.1).mono ?_
                rintro e w2 ⟨rfl, hx⟩
                have HXW := kp hx
                clear hx
                go_wp2_with fail
                exact ⟨rfl, _, rfl, fun d hd => by cases hd; exact rfl, HXW.out⟩
              simp only [Act.put, List.setIfInBounds_toArray, List.set_cons_zero, List.set_cons_succ]
              refine ⟨fun wv36 hov36 hSv36 => ?_, fun v36 => ?_⟩
              · obtain rfl : v32 = .bool false := hSv36 32 (by decide) (by decide)
                clear hSv36
                clear hov36
                go_wp2_with fail
                exact ⟨rfl, _, rfl, fun d hd => by cases hd; exact rfl, Ext.refl _⟩
              simp only [Act.put, List.setIfInBounds_toArray, List.set_cons_zero, List.set_cons_succ]
              refine ⟨fun wv37 hov37 hSv37 => ?_, fun v37 => ?_⟩
              · obtain rfl : v32 = .bool false := hSv37 32 (by decide) (by decide)
                obtain rfl : v36 = .pointer (some ⟨g1, 7, none⟩) := hSv37 36 (by decide) (by decide)
                clear hSv37
                have H := kp (H.out.keep [0] (St := []) trivial hov37 (by decide) (by kernel_rfl))
                have HOX := kp hov37
                clear hov37
                have hc := run_load_cell H.out 0 rfl _ _ HC7.out
                go_wp2_with fail
                exact ⟨rfl, _, rfl, fun d hd => by cases hd; exact rfl, Ext.refl _⟩
              simp only [Act.put, List.setIfInBounds_toArray, List.set_cons_zero, List.set_cons_succ]
              refine ⟨fun wv38 hov38 hSv38 => ?_, fun v38 => ?_⟩
              · obtain rfl : v32 = .bool false := hSv38 32 (by decide) (by decide)
                obtain rfl : v35 = .int .i64 (membersF l) := hSv38 35 (by decide) (by decide)
                obtain rfl : v37 = .int .i64 a.limit := hSv38 37 (by decide) (by decide)
                clear hSv38
                clear hov38
                go_wp2_with fail
                exact ⟨rfl, _, rfl, fun d hd => by cases hd; exact rfl, Ext.refl _⟩
              simp only [Act.put, List.setIfInBounds_toArray, List.set_cons_zero, List.set_cons_succ]
              refine ⟨fun wv39 hov39 hSv39 => ?_, fun v39 => ?_⟩
              · obtain rfl : v32 = .bool false := hSv39 32 (by decide) (by decide)
                obtain rfl : v38 = .bool (decide (a.limit < membersF l)) := hSv39 38 (by decide) (by decide)
                clear hSv39
                clear hov39
                go_wp2_with fail
                exact ⟨rfl, _, rfl, fun d hd => by cases hd; exact rfl, Ext.refl _⟩
              simp only [Act.put, List.setIfInBounds_toArray, List.set_cons_zero, List.set_cons_succ]
              clear H
              intro w2 HOX H hfin
              obtain rfl : v5 = .pointer (some ⟨g1, 0, none⟩) := hfin 5 (by decide)
              obtain rfl : v6 = .agg (a.own.map V8).toArray := hfin 6 (by decide)
              obtain rfl : v7 = .bool false := hfin 7 (by decide)
              obtain rfl : v8 = .bool false := hfin 8 (by decide)
              obtain rfl : v9 = .pointer (some ⟨g1, 6, none⟩) := hfin 9 (by decide)
              obtain rfl : v10 = .int .i64 a.caps := hfin 10 (by decide)
              obtain rfl : v11 = .bool true := hfin 11 (by decide)
              obtain rfl : v12 = .bool false := hfin 12 (by decide)
              obtain rfl : v13 = .bool false := hfin 13 (by decide)
              obtain rfl : v14 = .bool false := hfin 14 (by decide)
              obtain rfl : v15 = .pointer (some ⟨g1, 7, none⟩) := hfin 15 (by decide)
              obtain rfl : v16 = .int .i64 a.limit := hfin 16 (by decide)
              obtain rfl : v17 = .bool true := hfin 17 (by decide)
              obtain rfl : v18 = .bool false := hfin 18 (by decide)
              obtain rfl : v19 = .bool false := hfin 19 (by decide)
              obtain rfl : v20 = .bool false := hfin 20 (by decide)
              obtain rfl : v21 = .pointer (some ⟨g1, 8, none⟩) := hfin 21 (by decide)
              obtain rfl : v22 = .int .i64 a.idle := hfin 22 (by decide)
              obtain rfl : v23 = .bool true := hfin 23 (by decide)
              obtain rfl : v24 = .bool false := hfin 24 (by decide)
              obtain rfl : v25 = .bool false := hfin 25 (by decide)
              obtain rfl : v26 = .bool false := hfin 26 (by decide)
              obtain rfl : v27 = .pointer (some ⟨g1, 9, none⟩) := hfin 27 (by decide)
              obtain rfl : v28 = .slice ad n c := hfin 28 (by decide)
              obtain rfl : v29 = .int .i64 n := hfin 29 (by decide)
              obtain rfl : v30 = .bool false := hfin 30 (by decide)
              obtain rfl : v31 = .bool false := hfin 31 (by decide)
              obtain rfl : v32 = .bool false := hfin 32 (by decide)
              obtain rfl : v33 = .pointer (some ⟨g1, 9, none⟩) := hfin 33 (by decide)
              obtain rfl : v34 = .slice ad n c := hfin 34 (by decide)
              obtain rfl : v35 = .int .i64 (membersF l) := hfin 35 (by decide)
              obtain rfl : v36 = .pointer (some ⟨g1, 7, none⟩) := hfin 36 (by decide)
              obtain rfl : v37 = .int .i64 a.limit := hfin 37 (by decide)
              obtain rfl : v38 = .bool (decide (a.limit < membersF l)) := hfin 38 (by decide)
              obtain rfl : v39 = .bool (decide (a.limit < membersF l)) := hfin 39 (by decide)
              clear hfin
              simp only [List.drop_succ_cons, List.drop_zero]
              simp only [applyS] at H
              have HXN := kp (HOX.out.ext (Ext.refl w1) (fun g hg => by cases hg))
              go_wp2_with fail
              exact CutP.of rfl (by kernel_rfl) ⟨H, congrArg Value.bool (by rw [h64b]; refine Bool.eq_iff_iff.2 ?_; simp)⟩
            · have h64b : decide (n ≤ 64) = false := decide_eq_false h64
              have H64 := kp (show decide ((64:Int) < (n:Int)) = true from decide_eq_true (by omega))
              refine region_free H (tabS [(5, fun zv _ => zv = .pointer (some ⟨g1, 0, none⟩)), (6, fun zv _ => zv = .agg (a.own.map V8).toArray), (7, fun zv _ => zv = .bool false), (8, fun zv _ => zv = .bool false), (9, fun zv _ => zv = .pointer (some ⟨g1, 6, none⟩)), (10, fun zv _ => zv = .int .i64 a.caps), (11, fun zv _ => zv = .bool true), (12, fun zv _ => zv = .bool false), (13, fun zv _ => zv = .bool false), (14, fun zv _ => zv = .bool false), (15, fun zv _ => zv = .pointer (some ⟨g1, 7, none⟩)), (16, fun zv _ => zv = .int .i64 a.limit), (17, fun zv _ => zv = .bool true), (18, fun zv _ => zv = .bool false), (19, fun zv _ => zv = .bool false), (20, fun zv _ => zv = .bool false), (21, fun zv _ => zv = .pointer (some ⟨g1, 8, none⟩)), (22, fun zv _ => zv = .int .i64 a.idle), (23, fun zv _ => zv = .bool true), (24, fun zv _ => zv = .bool false), (25, fun zv _ => zv = .bool false), (26, fun zv _ => zv = .bool false), (27, fun zv _ => zv = .pointer (some ⟨g1, 9, none⟩)), (28, fun zv _ => zv = .slice ad n c), (29, fun zv _ => zv = .int .i64 n), (30, fun zv _ => zv = .bool true), (31, fun zv _ => zv = .bool true), (32, fun zv _ => zv = .bool true), (33, fun zv _ => zv = undef), (34, fun zv _ => zv = undef), (35, fun zv _ => zv = undef), (36, fun zv _ => zv = undef), (37, fun zv _ => zv = undef), (38, fun zv _ => zv = undef), (39, fun zv _ => zv = .bool true)]) [] (tabS_out _ _ (by simp only [List.forall_mem_cons]; exact ⟨mono_eqO _ _, mono_eqO _ _, mono_eqO _ _, mono_eqO _ _, mono_eqO _ _, mono_eqO _ _, mono_eqO _ _, mono_eqO _ _, mono_eqO _ _, mono_eqO _ _, mono_eqO _ _, mono_eqO _ _, mono_eqO _ _, mono_eqO _ _, mono_eqO _ _, mono_eqO _ _, mono_eqO _ _, mono_eqO _ _, mono_eqO _ _, mono_eqO _ _, mono_eqO _ _, mono_eqO _ _, mono_eqO _ _, mono_eqO _ _, mono_eqO _ _, mono_eqO _ _, mono_eqO _ _, mono_eqO _ _, mono_eqO _ _, mono_eqO _ _, mono_eqO _ _, mono_eqO _ _, mono_eqO _ _, mono_eqO _ _, mono_eqO _ _, by simp⟩)) 35 (by kernel_rfl) (by kernel_rfl) (by kernel_rfl) (by kernel_rfl) [] [] rfl rfl (by decide) (by decide) (by decide) trivial ?_
              simp only [List.take_succ_cons, List.take_zero]
              refine ⟨fun wv5 hov5 hSv5 => ?_, fun v5 => ?_⟩
              · clear hSv5
                clear hov5
                go_wp2_with fail
                exact ⟨rfl, _, rfl, fun d hd => by cases hd; exact rfl, Ext.refl _⟩
              simp only [Act.put, List.setIfInBounds_toArray, List.set_cons_zero, List.set_cons_succ]
              refine ⟨fun wv6 hov6 hSv6 => ?_, fun v6 => ?_⟩
              · obtain rfl : v5 = .pointer (some ⟨g1, 0, none⟩) := hSv6 5 (by decide) (by decide)
                clear hSv6
                have H := kp (H.out.keep [0] (St := []) trivial hov6 (by decide) (by kernel_rfl))
                have HOX := kp hov6
                clear hov6
                go_wp2_with ((with_reducible show wpList _ _ _ (Oper.mk _ (Op.load 23 _) _ _ _ _ :: _) _ _); refine L_subG H (by kernel_rfl) 23 _ rfl 0 rfl (0) rfl (a.own.map V8) (HOW.out) Try.underlying23 rfl (HZO6.out) ?_; simp only [Act.put, List.setIfInBounds_toArray, List.set_cons_zero, List.set_cons_succ])
                exact ⟨rfl, _, rfl, fun d hd => by cases hd; exact rfl, Ext.refl _⟩
              simp only [Act.put, List.setIfInBounds_toArray, List.set_cons_zero, List.set_cons_succ]
              refine ⟨fun wv7 hov7 hSv7 => ?_, fun v7 => ?_⟩
              · obtain rfl : v6 = .agg (a.own.map V8).toArray := hSv7 6 (by decide) (by decide)
                clear hSv7
                have H := kp (H.out.keep [0] (St := []) trivial hov7 (by decide) (by kernel_rfl))
                have HOX := kp hov7
                clear hov7
                go_wp2_with fail
                refine (HGR.out _).mono ?_
                rintro e w2 ⟨rfl, hx⟩
                have HXW := kp hx
                clear hx
                go_wp2_with fail
                exact ⟨rfl, _, rfl, fun d hd => by cases hd; exact rfl, HXW.out⟩
              simp only [Act.put, List.setIfInBounds_toArray, List.set_cons_zero, List.set_cons_succ]
              refine ⟨fun wv8 hov8 hSv8 => ?_, fun v8 => ?_⟩
              · obtain rfl : v7 = .bool false := hSv8 7 (by decide) (by decide)
                clear hSv8
                clear hov8
                go_wp2_with fail
                exact ⟨rfl, _, rfl, fun d hd => by cases hd; exact rfl, Ext.refl _⟩
              simp only [Act.put, List.setIfInBounds_toArray, List.set_cons_zero, List.set_cons_succ]
              refine ⟨fun wv9 hov9 hSv9 => ?_, fun v9 => ?_⟩
              · obtain rfl : v8 = .bool false := hSv9 8 (by decide) (by decide)
                clear hSv9
                clear hov9
                go_wp2_with fail
                exact ⟨rfl, _, rfl, fun d hd => by cases hd; exact rfl, Ext.refl _⟩
              simp only [Act.put, List.setIfInBounds_toArray, List.set_cons_zero, List.set_cons_succ]
              refine ⟨fun wv10 hov10 hSv10 => ?_, fun v10 => ?_⟩
              · obtain rfl : v8 = .bool false := hSv10 8 (by decide) (by decide)
                obtain rfl : v9 = .pointer (some ⟨g1, 6, none⟩) := hSv10 9 (by decide) (by decide)
                clear hSv10
                have H := kp (H.out.keep [0] (St := []) trivial hov10 (by decide) (by kernel_rfl))
                have HOX := kp hov10
                clear hov10
                have hc := run_load_cell H.out 0 rfl _ _ HC6.out
                go_wp2_with fail
                exact ⟨rfl, _, rfl, fun d hd => by cases hd; exact rfl, Ext.refl _⟩
              simp only [Act.put, List.setIfInBounds_toArray, List.set_cons_zero, List.set_cons_succ]
              refine ⟨fun wv11 hov11 hSv11 => ?_, fun v11 => ?_⟩
              · obtain rfl : v8 = .bool false := hSv11 8 (by decide) (by decide)
                obtain rfl : v10 = .int .i64 a.caps := hSv11 10 (by decide) (by decide)
                clear hSv11
                have H := kp (H.out.keep [0] (St := []) trivial hov11 (by decide) (by kernel_rfl))
                have HOX := kp hov11
                clear hov11
                go_wp2_with fail
                refine (H22.out _).mono ?_
                rintro e w2 ⟨rfl, hx⟩
                have HXW := kp hx
                clear hx
                go_wp2_with fail
                exact ⟨rfl, _, rfl, fun d hd => by cases hd; exact rfl, HXW.out⟩
              simp only [Act.put, List.setIfInBounds_toArray, List.set_cons_zero, List.set_cons_succ]
              refine ⟨fun wv12 hov12 hSv12 => ?_, fun v12 => ?_⟩
              · obtain rfl : v8 = .bool false := hSv12 8 (by decide) (by decide)
                obtain rfl : v11 = .bool true := hSv12 11 (by decide) (by decide)
                clear hSv12
                clear hov12
                go_wp2_with fail
                exact ⟨rfl, _, rfl, fun d hd => by cases hd; exact rfl, Ext.refl _⟩
              simp only [Act.put, List.setIfInBounds_toArray, List.set_cons_zero, List.set_cons_succ]
              refine ⟨fun wv13 hov13 hSv13 => ?_, fun v13 => ?_⟩
              · obtain rfl : v8 = .bool false := hSv13 8 (by decide) (by decide)
                obtain rfl : v12 = .bool false := hSv13 12 (by decide) (by decide)
                clear hSv13
                clear hov13
                go_wp2_with fail
                exact ⟨rfl, _, rfl, fun d hd => by cases hd; exact rfl, Ext.refl _⟩
              simp only [Act.put, List.setIfInBounds_toArray, List.set_cons_zero, List.set_cons_succ]
              refine ⟨fun wv14 hov14 hSv14 => ?_, fun v14 => ?_⟩
              · obtain rfl : v13 = .bool false := hSv14 13 (by decide) (by decide)
                clear hSv14
                clear hov14
                go_wp2_with fail
                exact ⟨rfl, _, rfl, fun d hd => by cases hd; exact rfl, Ext.refl _⟩
              simp only [Act.put, List.setIfInBounds_toArray, List.set_cons_zero, List.set_cons_succ]
              refine ⟨fun wv15 hov15 hSv15 => ?_, fun v15 => ?_⟩
              · obtain rfl : v14 = .bool false := hSv15 14 (by decide) (by decide)
                clear hSv15
                clear hov15
                go_wp2_with fail
                exact ⟨rfl, _, rfl, fun d hd => by cases hd; exact rfl, Ext.refl _⟩
              simp only [Act.put, List.setIfInBounds_toArray, List.set_cons_zero, List.set_cons_succ]
              refine ⟨fun wv16 hov16 hSv16 => ?_, fun v16 => ?_⟩
              · obtain rfl : v14 = .bool false := hSv16 14 (by decide) (by decide)
                obtain rfl : v15 = .pointer (some ⟨g1, 7, none⟩) := hSv16 15 (by decide) (by decide)
                clear hSv16
                have H := kp (H.out.keep [0] (St := []) trivial hov16 (by decide) (by kernel_rfl))
                have HOX := kp hov16
                clear hov16
                have hc := run_load_cell H.out 0 rfl _ _ HC7.out
                go_wp2_with fail
                exact ⟨rfl, _, rfl, fun d hd => by cases hd; exact rfl, Ext.refl _⟩
              simp only [Act.put, List.setIfInBounds_toArray, List.set_cons_zero, List.set_cons_succ]
              refine ⟨fun wv17 hov17 hSv17 => ?_, fun v17 => ?_⟩
              · obtain rfl : v14 = .bool false := hSv17 14 (by decide) (by decide)
                obtain rfl : v16 = .int .i64 a.limit := hSv17 16 (by decide) (by decide)
                clear hSv17
                have H := kp (H.out.keep [0] (St := []) trivial hov17 (by decide) (by kernel_rfl))
                have HOX := kp hov17
                clear hov17
                go_wp2_with fail
                refine (H33.out _).mono ?_
                rintro e w2 ⟨rfl, hx⟩
                have HXW := kp hx
                clear hx
                go_wp2_with fail
                exact ⟨rfl, _, rfl, fun d hd => by cases hd; exact rfl, HXW.out⟩
              simp only [Act.put, List.setIfInBounds_toArray, List.set_cons_zero, List.set_cons_succ]
              refine ⟨fun wv18 hov18 hSv18 => ?_, fun v18 => ?_⟩
              · obtain rfl : v14 = .bool false := hSv18 14 (by decide) (by decide)
                obtain rfl : v17 = .bool true := hSv18 17 (by decide) (by decide)
                clear hSv18
                clear hov18
                go_wp2_with fail
                exact ⟨rfl, _, rfl, fun d hd => by cases hd; exact rfl, Ext.refl _⟩
              simp only [Act.put, List.setIfInBounds_toArray, List.set_cons_zero, List.set_cons_succ]
              refine ⟨fun wv19 hov19 hSv19 => ?_, fun v19 => ?_⟩
              · obtain rfl : v14 = .bool false := hSv19 14 (by decide) (by decide)
                obtain rfl : v18 = .bool false := hSv19 18 (by decide) (by decide)
                clear hSv19
                clear hov19
                go_wp2_with fail
                exact ⟨rfl, _, rfl, fun d hd => by cases hd; exact rfl, Ext.refl _⟩
              simp only [Act.put, List.setIfInBounds_toArray, List.set_cons_zero, List.set_cons_succ]
              refine ⟨fun wv20 hov20 hSv20 => ?_, fun v20 => ?_⟩
              · obtain rfl : v19 = .bool false := hSv20 19 (by decide) (by decide)
                clear hSv20
                clear hov20
                go_wp2_with fail
                exact ⟨rfl, _, rfl, fun d hd => by cases hd; exact rfl, Ext.refl _⟩
              simp only [Act.put, List.setIfInBounds_toArray, List.set_cons_zero, List.set_cons_succ]
              refine ⟨fun wv21 hov21 hSv21 => ?_, fun v21 => ?_⟩
              · obtain rfl : v20 = .bool false := hSv21 20 (by decide) (by decide)
                clear hSv21
                clear hov21
                go_wp2_with fail
                exact ⟨rfl, _, rfl, fun d hd => by cases hd; exact rfl, Ext.refl _⟩
              simp only [Act.put, List.setIfInBounds_toArray, List.set_cons_zero, List.set_cons_succ]
              refine ⟨fun wv22 hov22 hSv22 => ?_, fun v22 => ?_⟩
              · obtain rfl : v20 = .bool false := hSv22 20 (by decide) (by decide)
                obtain rfl : v21 = .pointer (some ⟨g1, 8, none⟩) := hSv22 21 (by decide) (by decide)
                clear hSv22
                have H := kp (H.out.keep [0] (St := []) trivial hov22 (by decide) (by kernel_rfl))
                have HOX := kp hov22
                clear hov22
                have hc := run_load_cell H.out 0 rfl _ _ HC8.out
                go_wp2_with fail
                exact ⟨rfl, _, rfl, fun d hd => by cases hd; exact rfl, Ext.refl _⟩
              simp only [Act.put, List.setIfInBounds_toArray, List.set_cons_zero, List.set_cons_succ]
              refine ⟨fun wv23 hov23 hSv23 => ?_, fun v23 => ?_⟩
              · obtain rfl : v20 = .bool false := hSv23 20 (by decide) (by decide)
                obtain rfl : v22 = .int .i64 a.idle := hSv23 22 (by decide) (by decide)
                clear hSv23
                have H := kp (H.out.keep [0] (St := []) trivial hov23 (by decide) (by kernel_rfl))
                have HOX := kp hov23
                clear hov23
                go_wp2_with fail
                refine (H44.out _).mono ?_
                rintro e w2 ⟨rfl, hx⟩
                have HXW := kp hx
                clear hx
                go_wp2_with fail
                exact ⟨rfl, _, rfl, fun d hd => by cases hd; exact rfl, HXW.out⟩
              simp only [Act.put, List.setIfInBounds_toArray, List.set_cons_zero, List.set_cons_succ]
              refine ⟨fun wv24 hov24 hSv24 => ?_, fun v24 => ?_⟩
              · obtain rfl : v20 = .bool false := hSv24 20 (by decide) (by decide)
                obtain rfl : v23 = .bool true := hSv24 23 (by decide) (by decide)
                clear hSv24
                clear hov24
                go_wp2_with fail
                exact ⟨rfl, _, rfl, fun d hd => by cases hd; exact rfl, Ext.refl _⟩
              simp only [Act.put, List.setIfInBounds_toArray, List.set_cons_zero, List.set_cons_succ]
              refine ⟨fun wv25 hov25 hSv25 => ?_, fun v25 => ?_⟩
              · obtain rfl : v20 = .bool false := hSv25 20 (by decide) (by decide)
                obtain rfl : v24 = .bool false := hSv25 24 (by decide) (by decide)
                clear hSv25
                clear hov25
                go_wp2_with fail
                exact ⟨rfl, _, rfl, fun d hd => by cases hd; exact rfl, Ext.refl _⟩
              simp only [Act.put, List.setIfInBounds_toArray, List.set_cons_zero, List.set_cons_succ]
              refine ⟨fun wv26 hov26 hSv26 => ?_, fun v26 => ?_⟩
              · obtain rfl : v25 = .bool false := hSv26 25 (by decide) (by decide)
                clear hSv26
                clear hov26
                go_wp2_with fail
                exact ⟨rfl, _, rfl, fun d hd => by cases hd; exact rfl, Ext.refl _⟩
              simp only [Act.put, List.setIfInBounds_toArray, List.set_cons_zero, List.set_cons_succ]
              refine ⟨fun wv27 hov27 hSv27 => ?_, fun v27 => ?_⟩
              · obtain rfl : v26 = .bool false := hSv27 26 (by decide) (by decide)
                clear hSv27
                clear hov27
                go_wp2_with fail
                exact ⟨rfl, _, rfl, fun d hd => by cases hd; exact rfl, Ext.refl _⟩
              simp only [Act.put, List.setIfInBounds_toArray, List.set_cons_zero, List.set_cons_succ]
              refine ⟨fun wv28 hov28 hSv28 => ?_, fun v28 => ?_⟩
              · obtain rfl : v26 = .bool false := hSv28 26 (by decide) (by decide)
                obtain rfl : v27 = .pointer (some ⟨g1, 9, none⟩) := hSv28 27 (by decide) (by decide)
                clear hSv28
                have H := kp (H.out.keep [0] (St := []) trivial hov28 (by decide) (by kernel_rfl))
                have HOX := kp hov28
                clear hov28
                have hc := run_load_cell H.out 0 rfl _ _ HC9.out
                go_wp2_with fail
                exact ⟨rfl, _, rfl, fun d hd => by cases hd; exact rfl, Ext.refl _⟩
              simp only [Act.put, List.setIfInBounds_toArray, List.set_cons_zero, List.set_cons_succ]
              refine ⟨fun wv29 hov29 hSv29 => ?_, fun v29 => ?_⟩
              · obtain rfl : v26 = .bool false := hSv29 26 (by decide) (by decide)
                obtain rfl : v28 = .slice ad n c := hSv29 28 (by decide) (by decide)
                clear hSv29
                clear hov29
                go_wp2_with fail
                exact ⟨rfl, _, rfl, fun d hd => by cases hd; exact rfl, Ext.refl _⟩
              simp only [Act.put, List.setIfInBounds_toArray, List.set_cons_zero, List.set_cons_succ]
              refine ⟨fun wv30 hov30 hSv30 => ?_, fun v30 => ?_⟩
              · obtain rfl : v26 = .bool false := hSv30 26 (by decide) (by decide)
                obtain rfl : v29 = .int .i64 n := hSv30 29 (by decide) (by decide)
                clear hSv30
                clear hov30
                go_wp2_with fail
                exact ⟨rfl, _, rfl, fun d hd => by cases hd; exact (congrArg Value.bool H64.out), Ext.refl _⟩
              simp only [Act.put, List.setIfInBounds_toArray, List.set_cons_zero, List.set_cons_succ]
              refine ⟨fun wv31 hov31 hSv31 => ?_, fun v31 => ?_⟩
              · obtain rfl : v26 = .bool false := hSv31 26 (by decide) (by decide)
                obtain rfl : v30 = .bool true := hSv31 30 (by decide) (by decide)
                clear hSv31
                clear hov31
                go_wp2_with fail
                exact ⟨rfl, _, rfl, fun d hd => by cases hd; exact rfl, Ext.refl _⟩
              simp only [Act.put, List.setIfInBounds_toArray, List.set_cons_zero, List.set_cons_succ]
              refine ⟨fun wv32 hov32 hSv32 => ?_, fun v32 => ?_⟩
              · obtain rfl : v31 = .bool true := hSv32 31 (by decide) (by decide)
                clear hSv32
                clear hov32
                go_wp2_with fail
                exact ⟨rfl, _, rfl, fun d hd => by cases hd; exact rfl, Ext.refl _⟩
              simp only [Act.put, List.setIfInBounds_toArray, List.set_cons_zero, List.set_cons_succ]
              refine ⟨fun wv33 hov33 hSv33 => ?_, fun v33 => ?_⟩
              · obtain rfl : v32 = .bool true := hSv33 32 (by decide) (by decide)
                clear hSv33
                clear hov33
                go_wp2_with fail
                exact ⟨rfl, _, rfl, fun d hd => by cases hd; exact rfl, Ext.refl _⟩
              simp only [Act.put, List.setIfInBounds_toArray, List.set_cons_zero, List.set_cons_succ]
              refine ⟨fun wv34 hov34 hSv34 => ?_, fun v34 => ?_⟩
              · obtain rfl : v32 = .bool true := hSv34 32 (by decide) (by decide)
                clear hSv34
                clear hov34
                go_wp2_with fail
                exact ⟨rfl, _, rfl, fun d hd => by cases hd; exact rfl, Ext.refl _⟩
              simp only [Act.put, List.setIfInBounds_toArray, List.set_cons_zero, List.set_cons_succ]
              refine ⟨fun wv35 hov35 hSv35 => ?_, fun v35 => ?_⟩
              · obtain rfl : v32 = .bool true := hSv35 32 (by decide) (by decide)
                clear hSv35
                clear hov35
                go_wp2_with fail
                exact ⟨rfl, _, rfl, fun d hd => by cases hd; exact rfl, Ext.refl _⟩
              simp only [Act.put, List.setIfInBounds_toArray, List.set_cons_zero, List.set_cons_succ]
              refine ⟨fun wv36 hov36 hSv36 => ?_, fun v36 => ?_⟩
              · obtain rfl : v32 = .bool true := hSv36 32 (by decide) (by decide)
                clear hSv36
                clear hov36
                go_wp2_with fail
                exact ⟨rfl, _, rfl, fun d hd => by cases hd; exact rfl, Ext.refl _⟩
              simp only [Act.put, List.setIfInBounds_toArray, List.set_cons_zero, List.set_cons_succ]
              refine ⟨fun wv37 hov37 hSv37 => ?_, fun v37 => ?_⟩
              · obtain rfl : v32 = .bool true := hSv37 32 (by decide) (by decide)
                clear hSv37
                clear hov37
                go_wp2_with fail
                exact ⟨rfl, _, rfl, fun d hd => by cases hd; exact rfl, Ext.refl _⟩
              simp only [Act.put, List.setIfInBounds_toArray, List.set_cons_zero, List.set_cons_succ]
              refine ⟨fun wv38 hov38 hSv38 => ?_, fun v38 => ?_⟩
              · obtain rfl : v32 = .bool true := hSv38 32 (by decide) (by decide)
                clear hSv38
                clear hov38
                go_wp2_with fail
                exact ⟨rfl, _, rfl, fun d hd => by cases hd; exact rfl, Ext.refl _⟩
              simp only [Act.put, List.setIfInBounds_toArray, List.set_cons_zero, List.set_cons_succ]
              refine ⟨fun wv39 hov39 hSv39 => ?_, fun v39 => ?_⟩
              · obtain rfl : v32 = .bool true := hSv39 32 (by decide) (by decide)
                obtain rfl : v38 = undef := hSv39 38 (by decide) (by decide)
                clear hSv39
                clear hov39
                go_wp2_with fail
                exact ⟨rfl, _, rfl, fun d hd => by cases hd; exact rfl, Ext.refl _⟩
              simp only [Act.put, List.setIfInBounds_toArray, List.set_cons_zero, List.set_cons_succ]
              clear H
              intro w2 HOX H hfin
              obtain rfl : v5 = .pointer (some ⟨g1, 0, none⟩) := hfin 5 (by decide)
              obtain rfl : v6 = .agg (a.own.map V8).toArray := hfin 6 (by decide)
              obtain rfl : v7 = .bool false := hfin 7 (by decide)
              obtain rfl : v8 = .bool false := hfin 8 (by decide)
              obtain rfl : v9 = .pointer (some ⟨g1, 6, none⟩) := hfin 9 (by decide)
              obtain rfl : v10 = .int .i64 a.caps := hfin 10 (by decide)
              obtain rfl : v11 = .bool true := hfin 11 (by decide)
              obtain rfl : v12 = .bool false := hfin 12 (by decide)
              obtain rfl : v13 = .bool false := hfin 13 (by decide)
              obtain rfl : v14 = .bool false := hfin 14 (by decide)
              obtain rfl : v15 = .pointer (some ⟨g1, 7, none⟩) := hfin 15 (by decide)
              obtain rfl : v16 = .int .i64 a.limit := hfin 16 (by decide)
              obtain rfl : v17 = .bool true := hfin 17 (by decide)
              obtain rfl : v18 = .bool false := hfin 18 (by decide)
              obtain rfl : v19 = .bool false := hfin 19 (by decide)
              obtain rfl : v20 = .bool false := hfin 20 (by decide)
              obtain rfl : v21 = .pointer (some ⟨g1, 8, none⟩) := hfin 21 (by decide)
              obtain rfl : v22 = .int .i64 a.idle := hfin 22 (by decide)
              obtain rfl : v23 = .bool true := hfin 23 (by decide)
              obtain rfl : v24 = .bool false := hfin 24 (by decide)
              obtain rfl : v25 = .bool false := hfin 25 (by decide)
              obtain rfl : v26 = .bool false := hfin 26 (by decide)
              obtain rfl : v27 = .pointer (some ⟨g1, 9, none⟩) := hfin 27 (by decide)
              obtain rfl : v28 = .slice ad n c := hfin 28 (by decide)
              obtain rfl : v29 = .int .i64 n := hfin 29 (by decide)
              obtain rfl : v30 = .bool true := hfin 30 (by decide)
              obtain rfl : v31 = .bool true := hfin 31 (by decide)
              obtain rfl : v32 = .bool true := hfin 32 (by decide)
              obtain rfl : v33 = undef := hfin 33 (by decide)
              obtain rfl : v34 = undef := hfin 34 (by decide)
              obtain rfl : v35 = undef := hfin 35 (by decide)
              obtain rfl : v36 = undef := hfin 36 (by decide)
              obtain rfl : v37 = undef := hfin 37 (by decide)
              obtain rfl : v38 = undef := hfin 38 (by decide)
              obtain rfl : v39 = .bool true := hfin 39 (by decide)
              clear hfin
              simp only [List.drop_succ_cons, List.drop_zero]
              simp only [applyS] at H
              have HXN := kp (HOX.out.ext (Ext.refl w1) (fun g hg => by cases hg))
              go_wp2_with fail
              exact CutP.of rfl (by kernel_rfl) ⟨H, congrArg Value.bool (by rw [h64b]; rfl)⟩
  rintro vs w2 ⟨H, e39⟩
  simp only [putMany, List.setIfInBounds_toArray, List.set_cons_zero, List.set_cons_succ]
  rw [e39]
  clear e39
  cases hh : (headF a l.length && decide ((membersF l : Int) ≤ a.limit)) with
  | false =>
    have HK := kp (show valid30F a l = false by rw [HVA.out, hh]; rfl)
    clear hh
    go_wp2_with fail
    go_ret
    exact ⟨congrArg (fun z => Ending.returned (.bool z)) HK.out.symm, H.out.1⟩
  | true =>
    have HV2 := kp (show valid30F a l = all30 a.own l by rw [HVA.out, hh]; rfl)
    clear hh
    go_wp2_with fail
    go_loopw [3] (fun i wr => ∃ j : Nat, j ≤ n ∧ i = .int .i64 j ∧ Kp (∀ k, k < j → ok30At a.own l k = true) ∧ Kp (Loc w wr [(g1, 26, cellsA a (.slice ad n c))])) (fun i _ => n - (intOf i).toNat)
    case atStart => exact ⟨0, by omega, rfl, kp (fun k hk => by omega), H⟩
    case round =>
      generalize h7 : (Code.region 7 _ _ : Code) = R7
      generalize h12 : (Code.region 12 _ _ : Code) = R12
      generalize h15 : (Code.region 15 _ _ : Code) = R15
      obtain ⟨j, hj, rfl, HT, H⟩ := hrel
      have hc9 := run_load_cell H.out 0 rfl _ _ HC9.out
      by_cases hlt : j < n
      · obtain ⟨x, hx⟩ : ∃ x, l[j]? = some x := ⟨l[j]'(by rw [← HNL.out]; omega), by simp⟩
        obtain ⟨b, off, rfl, hb, hr⟩ := HAT.out j x hx; have HB := kp hb; have HR := kp hr; have HX := kp hx; have HXK := kp (HLK.out x (List.mem_of_getElem? hx)); clear hb hr hx
        have HR3 := kp (rangeAt_ext HR.out HB.out H.out.1)
        have HZX := kp (sizeE HXK.out)
        have HZXa := kp (sizeEa HXK.out)
        have HLE := kp (show (cellsE en0).length = (cellsE x).length by rw [cellsE_len HXK.out]; rfl)
        have HPX := kp (cE0 HXK.out)
        have HZX6 := kp (sizeA8 HXK.out)
        have H6 := kp (cE6 HXK.out)
        have H7 := kp (cE7 HXK.out)
        have H8 := kp (cE8 HXK.out)
        have H9 := kp (cE9 HXK.out)
        have H10 := kp (cE10 HXK.out)
        have HGX := kp (group2_any x.addr HXK.out)
        have HSE := kp (in30_any x.seen 0 1099511627776)
        have HJL := kp (show j < l.length by rw [← HNL.out]; exact hlt)
        have heq := fun w => eqAddr x.addr a.own HXK.out HOL.out w
        have HOK := kp (ok30_of (own := a.own) HX.out)
        go_wp2_with (first | ((with_reducible show wpList _ _ _ (Oper.mk _ (Op.load 39 _) _ _ _ _ :: _) _ _); (refine wpList_load_midG (by kernel_rfl) 39 _ rfl (b) (off + j * 11) rfl (cellsE x) _ (HR3.out) Try.underlying39 rfl (HZX.out) ?_); simp only [Act.put, List.setIfInBounds_toArray, List.set_cons_zero, List.set_cons_succ]) | ((with_reducible show wpList _ _ _ (Oper.mk (some 4) (Op.alloc 39) _ _ _ _ :: _) _ _); (with_reducible refine L_alloc H rfl 39 rfl (cellsE en0) (fun _ _ => by kernel_rfl) ?_); clear H; intro g4 w4 HGg4 HEg4 H; simp only [Act.put, List.setIfInBounds_toArray, List.set_cons_zero, List.set_cons_succ]) | ((with_reducible show wpList _ _ _ (Oper.mk none (Op.store 39 _ _) _ _ _ _ :: _) _ _); (first | (refine L_store H rfl rfl 39 _ _ rfl 0 rfl rfl (cellsE x) rfl (HZXa.out) (HLE.out) (HOE.out _) ?_; clear H; intro w6 HWw6 H; simp only [List.set_cons_zero] at H) | (refine L_store H rfl rfl 39 _ _ rfl 1 rfl rfl (cellsE x) rfl (HZXa.out) (HLE.out) (HOE.out _) ?_; clear H; intro w6 HWw6 H; simp only [List.set_cons_succ, List.set_cons_zero] at H) | (refine L_store H rfl rfl 39 _ _ rfl 2 rfl rfl (cellsE x) rfl (HZXa.out) (HLE.out) (HOE.out _) ?_; clear H; intro w6 HWw6 H; simp only [List.set_cons_succ, List.set_cons_zero] at H) | (refine L_store H rfl rfl 39 _ _ rfl 3 rfl rfl (cellsE x) rfl (HZXa.out) (HLE.out) (HOE.out _) ?_; clear H; intro w6 HWw6 H; simp only [List.set_cons_succ, List.set_cons_zero] at H) | (refine L_store H rfl rfl 39 _ _ rfl 4 rfl rfl (cellsE x) rfl (HZXa.out) (HLE.out) (HOE.out _) ?_; clear H; intro w6 HWw6 H; simp only [List.set_cons_succ, List.set_cons_zero] at H) | (refine L_store H rfl rfl 39 _ _ rfl 5 rfl rfl (cellsE x) rfl (HZXa.out) (HLE.out) (HOE.out _) ?_; clear H; intro w6 HWw6 H; simp only [List.set_cons_succ, List.set_cons_zero] at H))))
        clear hc9
        subst h7
        refine wp_cut [52, 53, 54, 55, 56, 57, 58, 59, 60, 61, 62, 63, 64, 65, 66, 67, 68, 69, 70, 71, 72, 73, 74, 75, 76, 77, 78, 79, 80, 81, 82, 83, 84] (fun vs w' => Kp (Loc w w' [(g4, 39, cellsE x), (g1, 26, cellsA a (.slice (some ⟨b, off, none⟩) n c))]) ∧ vs 84 = .bool (!pre7 a.own l x j)) ?_ ?_
        · unfold pre7
          cases hb1 : groupF x.addr with
          | true =>
            rw [hb1] at HGX
            clear hb1
            refine region_free H (tabS [(52, fun zv _ => zv = .pointer (some ⟨g4, 0, none⟩)), (53, fun zv _ => zv = .agg (x.addr.map V8).toArray), (54, fun zv _ => zv = .bool true), (55, fun zv _ => zv = .bool true), (56, fun zv _ => zv = undef), (57, fun zv _ => zv = undef), (58, fun zv _ => zv = undef), (59, fun zv _ => zv = undef), (60, fun zv _ => zv = undef), (61, fun zv _ => zv = .bool true), (62, fun zv _ => zv = .bool true), (63, fun zv _ => zv = undef), (64, fun zv _ => zv = undef), (65, fun zv _ => zv = undef), (66, fun zv _ => zv = undef), (67, fun zv _ => zv = .bool true), (68, fun zv _ => zv = .bool true), (69, fun zv _ => zv = undef), (70, fun zv _ => zv = undef), (71, fun zv _ => zv = undef), (72, fun zv _ => zv = undef), (73, fun zv _ => zv = undef), (74, fun zv _ => zv = undef), (75, fun zv _ => zv = undef), (76, fun zv _ => zv = undef), (77, fun zv _ => zv = undef), (78, fun zv _ => zv = undef), (79, fun zv _ => zv = undef), (80, fun zv _ => zv = undef), (81, fun zv _ => zv = undef), (82, fun zv _ => zv = undef), (83, fun zv _ => zv = undef), (84, fun zv _ => zv = .bool true)]) [] (tabS_out _ _ (by simp only [List.forall_mem_cons]; exact ⟨mono_eqO _ _, mono_eqO _ _, mono_eqO _ _, mono_eqO _ _, mono_eqO _ _, mono_eqO _ _, mono_eqO _ _, mono_eqO _ _, mono_eqO _ _, mono_eqO _ _, mono_eqO _ _, mono_eqO _ _, mono_eqO _ _, mono_eqO _ _, mono_eqO _ _, mono_eqO _ _, mono_eqO _ _, mono_eqO _ _, mono_eqO _ _, mono_eqO _ _, mono_eqO _ _, mono_eqO _ _, mono_eqO _ _, mono_eqO _ _, mono_eqO _ _, mono_eqO _ _, mono_eqO _ _, mono_eqO _ _, mono_eqO _ _, mono_eqO _ _, mono_eqO _ _, mono_eqO _ _, mono_eqO _ _, by simp⟩)) 33 (by kernel_rfl) (by kernel_rfl) (by kernel_rfl) (by kernel_rfl) [] [] rfl rfl (by decide) (by decide) (by decide) trivial ?_
            simp only [List.take_succ_cons, List.take_zero]
            refine ⟨fun wv52 hov52 hSv52 => ?_, fun v52 => ?_⟩
            · clear hSv52
              clear hov52
              go_wp2_with fail
              exact ⟨rfl, _, rfl, fun d hd => by cases hd; exact rfl, Ext.refl _⟩
            simp only [Act.put, List.setIfInBounds_toArray, List.set_cons_zero, List.set_cons_succ]
            refine ⟨fun wv53 hov53 hSv53 => ?_, fun v53 => ?_⟩
            · obtain rfl : v52 = .pointer (some ⟨g4, 0, none⟩) := hSv53 52 (by decide) (by decide)
              clear hSv53
              have H := kp (H.out.keep [0, 1] (St := []) trivial hov53 (by decide) (by kernel_rfl))
              have HOX := kp hov53
              clear hov53
              go_wp2_with ((with_reducible show wpList _ _ _ (Oper.mk _ (Op.load 23 _) _ _ _ _ :: _) _ _); refine L_subG H (by kernel_rfl) 23 _ rfl 0 rfl (0) rfl (x.addr.map V8) (HPX.out) Try.underlying23 rfl (HZX6.out) ?_; simp only [Act.put, List.setIfInBounds_toArray, List.set_cons_zero, List.set_cons_succ])
              exact ⟨rfl, _, rfl, fun d hd => by cases hd; exact rfl, Ext.refl _⟩
            simp only [Act.put, List.setIfInBounds_toArray, List.set_cons_zero, List.set_cons_succ]
            refine ⟨fun wv54 hov54 hSv54 => ?_, fun v54 => ?_⟩
            · obtain rfl : v53 = .agg (x.addr.map V8).toArray := hSv54 53 (by decide) (by decide)
              clear hSv54
              have H := kp (H.out.keep [0, 1] (St := []) trivial hov54 (by decide) (by kernel_rfl))
              have HOX := kp hov54
              clear hov54
              go_wp2_with fail
              refine (HGX.out _).mono ?_
              rintro e w2 ⟨rfl, hx⟩
              have HXW := kp hx
              clear hx
              go_wp2_with fail
              exact ⟨rfl, _, rfl, fun d hd => by cases hd; exact rfl, HXW.out⟩
            simp only [Act.put, List.setIfInBounds_toArray, List.set_cons_zero, List.set_cons_succ]
            refine ⟨fun wv55 hov55 hSv55 => ?_, fun v55 => ?_⟩
            · obtain rfl : v54 = .bool true := hSv55 54 (by decide) (by decide)
              clear hSv55
              clear hov55
              go_wp2_with fail
              exact ⟨rfl, _, rfl, fun d hd => by cases hd; exact rfl, Ext.refl _⟩
            simp only [Act.put, List.setIfInBounds_toArray, List.set_cons_zero, List.set_cons_succ]
            refine ⟨fun wv56 hov56 hSv56 => ?_, fun v56 => ?_⟩
            · obtain rfl : v55 = .bool true := hSv56 55 (by decide) (by decide)
              clear hSv56
              clear hov56
              go_wp2_with fail
              exact ⟨rfl, _, rfl, fun d hd => by cases hd; exact rfl, Ext.refl _⟩
            simp only [Act.put, List.setIfInBounds_toArray, List.set_cons_zero, List.set_cons_succ]
            refine ⟨fun wv57 hov57 hSv57 => ?_, fun v57 => ?_⟩
            · obtain rfl : v55 = .bool true := hSv57 55 (by decide) (by decide)
              clear hSv57
              clear hov57
              go_wp2_with fail
              exact ⟨rfl, _, rfl, fun d hd => by cases hd; exact rfl, Ext.refl _⟩
            simp only [Act.put, List.setIfInBounds_toArray, List.set_cons_zero, List.set_cons_succ]
            refine ⟨fun wv58 hov58 hSv58 => ?_, fun v58 => ?_⟩
            · obtain rfl : v55 = .bool true := hSv58 55 (by decide) (by decide)
              clear hSv58
              clear hov58
              go_wp2_with fail
              exact ⟨rfl, _, rfl, fun d hd => by cases hd; exact rfl, Ext.refl _⟩
            simp only [Act.put, List.setIfInBounds_toArray, List.set_cons_zero, List.set_cons_succ]
            refine ⟨fun wv59 hov59 hSv59 => ?_, fun v59 => ?_⟩
            · obtain rfl : v55 = .bool true := hSv59 55 (by decide) (by decide)
              clear hSv59
              clear hov59
              go_wp2_with fail
              exact ⟨rfl, _, rfl, fun d hd => by cases hd; exact rfl, Ext.refl _⟩
            simp only [Act.put, List.setIfInBounds_toArray, List.set_cons_zero, List.set_cons_succ]
            refine ⟨fun wv60 hov60 hSv60 => ?_, fun v60 => ?_⟩
            · obtain rfl : v55 = .bool true := hSv60 55 (by decide) (by decide)
              clear hSv60
              clear hov60
              go_wp2_with fail
              exact ⟨rfl, _, rfl, fun d hd => by cases hd; exact rfl, Ext.refl _⟩
            simp only [Act.put, List.setIfInBounds_toArray, List.set_cons_zero, List.set_cons_succ]
            refine ⟨fun wv61 hov61 hSv61 => ?_, fun v61 => ?_⟩
            · obtain rfl : v55 = .bool true := hSv61 55 (by decide) (by decide)
              obtain rfl : v60 = undef := hSv61 60 (by decide) (by decide)
              clear hSv61
              clear hov61
              go_wp2_with fail
              exact ⟨rfl, _, rfl, fun d hd => by cases hd; exact rfl, Ext.refl _⟩
            simp only [Act.put, List.setIfInBounds_toArray, List.set_cons_zero, List.set_cons_succ]
            refine ⟨fun wv62 hov62 hSv62 => ?_, fun v62 => ?_⟩
            · obtain rfl : v61 = .bool true := hSv62 61 (by decide) (by decide)
              clear hSv62
              clear hov62
              go_wp2_with fail
              exact ⟨rfl, _, rfl, fun d hd => by cases hd; exact rfl, Ext.refl _⟩
            simp only [Act.put, List.setIfInBounds_toArray, List.set_cons_zero, List.set_cons_succ]
            refine ⟨fun wv63 hov63 hSv63 => ?_, fun v63 => ?_⟩
            · obtain rfl : v62 = .bool true := hSv63 62 (by decide) (by decide)
              clear hSv63
              clear hov63
              go_wp2_with fail
              exact ⟨rfl, _, rfl, fun d hd => by cases hd; exact rfl, Ext.refl _⟩
            simp only [Act.put, List.setIfInBounds_toArray, List.set_cons_zero, List.set_cons_succ]
            refine ⟨fun wv64 hov64 hSv64 => ?_, fun v64 => ?_⟩
            · obtain rfl : v62 = .bool true := hSv64 62 (by decide) (by decide)
              clear hSv64
              clear hov64
              go_wp2_with fail
              exact ⟨rfl, _, rfl, fun d hd => by cases hd; exact rfl, Ext.refl _⟩
            simp only [Act.put, List.setIfInBounds_toArray, List.set_cons_zero, List.set_cons_succ]
            refine ⟨fun wv65 hov65 hSv65 => ?_, fun v65 => ?_⟩
            · obtain rfl : v62 = .bool true := hSv65 62 (by decide) (by decide)
              clear hSv65
              clear hov65
              go_wp2_with fail
              exact ⟨rfl, _, rfl, fun d hd => by cases hd; exact rfl, Ext.refl _⟩
            simp only [Act.put, List.setIfInBounds_toArray, List.set_cons_zero, List.set_cons_succ]
            refine ⟨fun wv66 hov66 hSv66 => ?_, fun v66 => ?_⟩
            · obtain rfl : v62 = .bool true := hSv66 62 (by decide) (by decide)
              clear hSv66
              clear hov66
              go_wp2_with fail
              exact ⟨rfl, _, rfl, fun d hd => by cases hd; exact rfl, Ext.refl _⟩
            simp only [Act.put, List.setIfInBounds_toArray, List.set_cons_zero, List.set_cons_succ]
            refine ⟨fun wv67 hov67 hSv67 => ?_, fun v67 => ?_⟩
            · obtain rfl : v62 = .bool true := hSv67 62 (by decide) (by decide)
              obtain rfl : v66 = undef := hSv67 66 (by decide) (by decide)
              clear hSv67
              clear hov67
              go_wp2_with fail
              exact ⟨rfl, _, rfl, fun d hd => by cases hd; exact rfl, Ext.refl _⟩
            simp only [Act.put, List.setIfInBounds_toArray, List.set_cons_zero, List.set_cons_succ]
            refine ⟨fun wv68 hov68 hSv68 => ?_, fun v68 => ?_⟩
            · obtain rfl : v67 = .bool true := hSv68 67 (by decide) (by decide)
              clear hSv68
              clear hov68
              go_wp2_with fail
              exact ⟨rfl, _, rfl, fun d hd => by cases hd; exact rfl, Ext.refl _⟩
            simp only [Act.put, List.setIfInBounds_toArray, List.set_cons_zero, List.set_cons_succ]
            refine ⟨fun wv69 hov69 hSv69 => ?_, fun v69 => ?_⟩
            · obtain rfl : v68 = .bool true := hSv69 68 (by decide) (by decide)
              clear hSv69
              clear hov69
              go_wp2_with fail
              exact ⟨rfl, _, rfl, fun d hd => by cases hd; exact rfl, Ext.refl _⟩
            simp only [Act.put, List.setIfInBounds_toArray, List.set_cons_zero, List.set_cons_succ]
            refine ⟨fun wv70 hov70 hSv70 => ?_, fun v70 => ?_⟩
            · obtain rfl : v68 = .bool true := hSv70 68 (by decide) (by decide)
              clear hSv70
              clear hov70
              go_wp2_with fail
              exact ⟨rfl, _, rfl, fun d hd => by cases hd; exact rfl, Ext.refl _⟩
            simp only [Act.put, List.setIfInBounds_toArray, List.set_cons_zero, List.set_cons_succ]
            refine ⟨fun wv71 hov71 hSv71 => ?_, fun v71 => ?_⟩
            · obtain rfl : v68 = .bool true := hSv71 68 (by decide) (by decide)
              clear hSv71
              clear hov71
              go_wp2_with fail
              exact ⟨rfl, _, rfl, fun d hd => by cases hd; exact rfl, Ext.refl _⟩
            simp only [Act.put, List.setIfInBounds_toArray, List.set_cons_zero, List.set_cons_succ]
            refine ⟨fun wv72 hov72 hSv72 => ?_, fun v72 => ?_⟩
            · obtain rfl : v71 = undef := hSv72 71 (by decide) (by decide)
              clear hSv72
              clear hov72
              go_wp2_with fail
              exact ⟨rfl, _, rfl, fun d hd => by cases hd; exact rfl, Ext.refl _⟩
            simp only [Act.put, List.setIfInBounds_toArray, List.set_cons_zero, List.set_cons_succ]
            refine ⟨fun wv73 hov73 hSv73 => ?_, fun v73 => ?_⟩
            · obtain rfl : v71 = undef := hSv73 71 (by decide) (by decide)
              clear hSv73
              clear hov73
              go_wp2_with fail
              exact ⟨rfl, _, rfl, fun d hd => by cases hd; exact rfl, Ext.refl _⟩
            simp only [Act.put, List.setIfInBounds_toArray, List.set_cons_zero, List.set_cons_succ]
            refine ⟨fun wv74 hov74 hSv74 => ?_, fun v74 => ?_⟩
            · obtain rfl : v71 = undef := hSv74 71 (by decide) (by decide)
              clear hSv74
              clear hov74
              go_wp2_with fail
              exact ⟨rfl, _, rfl, fun d hd => by cases hd; exact rfl, Ext.refl _⟩
            simp only [Act.put, List.setIfInBounds_toArray, List.set_cons_zero, List.set_cons_succ]
            refine ⟨fun wv75 hov75 hSv75 => ?_, fun v75 => ?_⟩
            · obtain rfl : v71 = undef := hSv75 71 (by decide) (by decide)
              clear hSv75
              clear hov75
              go_wp2_with fail
              exact ⟨rfl, _, rfl, fun d hd => by cases hd; exact rfl, Ext.refl _⟩
            simp only [Act.put, List.setIfInBounds_toArray, List.set_cons_zero, List.set_cons_succ]
            refine ⟨fun wv76 hov76 hSv76 => ?_, fun v76 => ?_⟩
            · obtain rfl : v71 = undef := hSv76 71 (by decide) (by decide)
              clear hSv76
              clear hov76
              go_wp2_with fail
              exact ⟨rfl, _, rfl, fun d hd => by cases hd; exact rfl, Ext.refl _⟩
            simp only [Act.put, List.setIfInBounds_toArray, List.set_cons_zero, List.set_cons_succ]
            refine ⟨fun wv77 hov77 hSv77 => ?_, fun v77 => ?_⟩
            · obtain rfl : v71 = undef := hSv77 71 (by decide) (by decide)
              clear hSv77
              clear hov77
              go_wp2_with fail
              exact ⟨rfl, _, rfl, fun d hd => by cases hd; exact rfl, Ext.refl _⟩
            simp only [Act.put, List.setIfInBounds_toArray, List.set_cons_zero, List.set_cons_succ]
            refine ⟨fun wv78 hov78 hSv78 => ?_, fun v78 => ?_⟩
            · obtain rfl : v71 = undef := hSv78 71 (by decide) (by decide)
              clear hSv78
              clear hov78
              go_wp2_with fail
              exact ⟨rfl, _, rfl, fun d hd => by cases hd; exact rfl, Ext.refl _⟩
            simp only [Act.put, List.setIfInBounds_toArray, List.set_cons_zero, List.set_cons_succ]
            refine ⟨fun wv79 hov79 hSv79 => ?_, fun v79 => ?_⟩
            · obtain rfl : v71 = undef := hSv79 71 (by decide) (by decide)
              clear hSv79
              clear hov79
              go_wp2_with fail
              exact ⟨rfl, _, rfl, fun d hd => by cases hd; exact rfl, Ext.refl _⟩
            simp only [Act.put, List.setIfInBounds_toArray, List.set_cons_zero, List.set_cons_succ]
            refine ⟨fun wv80 hov80 hSv80 => ?_, fun v80 => ?_⟩
            · obtain rfl : v71 = undef := hSv80 71 (by decide) (by decide)
              clear hSv80
              clear hov80
              go_wp2_with fail
              exact ⟨rfl, _, rfl, fun d hd => by cases hd; exact rfl, Ext.refl _⟩
            simp only [Act.put, List.setIfInBounds_toArray, List.set_cons_zero, List.set_cons_succ]
            refine ⟨fun wv81 hov81 hSv81 => ?_, fun v81 => ?_⟩
            · obtain rfl : v71 = undef := hSv81 71 (by decide) (by decide)
              clear hSv81
              clear hov81
              go_wp2_with fail
              exact ⟨rfl, _, rfl, fun d hd => by cases hd; exact rfl, Ext.refl _⟩
            simp only [Act.put, List.setIfInBounds_toArray, List.set_cons_zero, List.set_cons_succ]
            refine ⟨fun wv82 hov82 hSv82 => ?_, fun v82 => ?_⟩
            · obtain rfl : v71 = undef := hSv82 71 (by decide) (by decide)
              clear hSv82
              clear hov82
              go_wp2_with fail
              exact ⟨rfl, _, rfl, fun d hd => by cases hd; exact rfl, Ext.refl _⟩
            simp only [Act.put, List.setIfInBounds_toArray, List.set_cons_zero, List.set_cons_succ]
            refine ⟨fun wv83 hov83 hSv83 => ?_, fun v83 => ?_⟩
            · obtain rfl : v68 = .bool true := hSv83 68 (by decide) (by decide)
              clear hSv83
              clear hov83
              go_wp2_with fail
              exact ⟨rfl, _, rfl, fun d hd => by cases hd; exact rfl, Ext.refl _⟩
            simp only [Act.put, List.setIfInBounds_toArray, List.set_cons_zero, List.set_cons_succ]
            refine ⟨fun wv84 hov84 hSv84 => ?_, fun v84 => ?_⟩
            · obtain rfl : v68 = .bool true := hSv84 68 (by decide) (by decide)
              obtain rfl : v83 = undef := hSv84 83 (by decide) (by decide)
              clear hSv84
              clear hov84
              go_wp2_with fail
              exact ⟨rfl, _, rfl, fun d hd => by cases hd; exact rfl, Ext.refl _⟩
            simp only [Act.put, List.setIfInBounds_toArray, List.set_cons_zero, List.set_cons_succ]
            clear H
            intro w7 HOX H hfin
            obtain rfl : v52 = .pointer (some ⟨g4, 0, none⟩) := hfin 52 (by decide)
            obtain rfl : v53 = .agg (x.addr.map V8).toArray := hfin 53 (by decide)
            obtain rfl : v54 = .bool true := hfin 54 (by decide)
            obtain rfl : v55 = .bool true := hfin 55 (by decide)
            obtain rfl : v56 = undef := hfin 56 (by decide)
            obtain rfl : v57 = undef := hfin 57 (by decide)
            obtain rfl : v58 = undef := hfin 58 (by decide)
            obtain rfl : v59 = undef := hfin 59 (by decide)
            obtain rfl : v60 = undef := hfin 60 (by decide)
            obtain rfl : v61 = .bool true := hfin 61 (by decide)
            obtain rfl : v62 = .bool true := hfin 62 (by decide)
            obtain rfl : v63 = undef := hfin 63 (by decide)
            obtain rfl : v64 = undef := hfin 64 (by decide)
            obtain rfl : v65 = undef := hfin 65 (by decide)
            obtain rfl : v66 = undef := hfin 66 (by decide)
            obtain rfl : v67 = .bool true := hfin 67 (by decide)
            obtain rfl : v68 = .bool true := hfin 68 (by decide)
            obtain rfl : v69 = undef := hfin 69 (by decide)
            obtain rfl : v70 = undef := hfin 70 (by decide)
            obtain rfl : v71 = undef := hfin 71 (by decide)
            obtain rfl : v72 = undef := hfin 72 (by decide)
            obtain rfl : v73 = undef := hfin 73 (by decide)
            obtain rfl : v74 = undef := hfin 74 (by decide)
            obtain rfl : v75 = undef := hfin 75 (by decide)
            obtain rfl : v76 = undef := hfin 76 (by decide)
            obtain rfl : v77 = undef := hfin 77 (by decide)
            obtain rfl : v78 = undef := hfin 78 (by decide)
            obtain rfl : v79 = undef := hfin 79 (by decide)
            obtain rfl : v80 = undef := hfin 80 (by decide)
            obtain rfl : v81 = undef := hfin 81 (by decide)
            obtain rfl : v82 = undef := hfin 82 (by decide)
            obtain rfl : v83 = undef := hfin 83 (by decide)
            obtain rfl : v84 = .bool true := hfin 84 (by decide)
            clear hfin
            simp only [List.drop_succ_cons, List.drop_zero]
            simp only [applyS] at H
            have HXN := kp (HOX.out.ext (Ext.refl w6) (fun g hg => by cases hg))
            go_wp2_with fail
            exact CutP.of rfl (by kernel_rfl) ⟨H, congrArg Value.bool (by rfl)⟩
          | false =>
            rw [hb1] at HGX
            clear hb1
            cases ho : (x.addr == a.own) with
            | true =>
              rw [ho] at heq
              clear ho
              refine region_free H (tabS [(52, fun zv _ => zv = .pointer (some ⟨g4, 0, none⟩)), (53, fun zv _ => zv = .agg (x.addr.map V8).toArray), (54, fun zv _ => zv = .bool false), (55, fun zv _ => zv = .bool false), (56, fun zv _ => zv = .pointer (some ⟨g4, 0, none⟩)), (57, fun zv _ => zv = .agg (x.addr.map V8).toArray), (58, fun zv _ => zv = .pointer (some ⟨g1, 0, none⟩)), (59, fun zv _ => zv = .agg (a.own.map V8).toArray), (60, fun zv _ => zv = .bool true), (61, fun zv _ => zv = .bool true), (62, fun zv _ => zv = .bool true), (63, fun zv _ => zv = undef), (64, fun zv _ => zv = undef), (65, fun zv _ => zv = undef), (66, fun zv _ => zv = undef), (67, fun zv _ => zv = .bool true), (68, fun zv _ => zv = .bool true), (69, fun zv _ => zv = undef), (70, fun zv _ => zv = undef), (71, fun zv _ => zv = undef), (72, fun zv _ => zv = undef), (73, fun zv _ => zv = undef), (74, fun zv _ => zv = undef), (75, fun zv _ => zv = undef), (76, fun zv _ => zv = undef), (77, fun zv _ => zv = undef), (78, fun zv _ => zv = undef), (79, fun zv _ => zv = undef), (80, fun zv _ => zv = undef), (81, fun zv _ => zv = undef), (82, fun zv _ => zv = undef), (83, fun zv _ => zv = undef), (84, fun zv _ => zv = .bool true)]) [] (tabS_out _ _ (by simp only [List.forall_mem_cons]; exact ⟨mono_eqO _ _, mono_eqO _ _, mono_eqO _ _, mono_eqO _ _, mono_eqO _ _, mono_eqO _ _, mono_eqO _ _, mono_eqO _ _, mono_eqO _ _, mono_eqO _ _, mono_eqO _ _, mono_eqO _ _, mono_eqO _ _, mono_eqO _ _, mono_eqO _ _, mono_eqO _ _, mono_eqO _ _, mono_eqO _ _, mono_eqO _ _, mono_eqO _ _, mono_eqO _ _, mono_eqO _ _, mono_eqO _ _, mono_eqO _ _, mono_eqO _ _, mono_eqO _ _, mono_eqO _ _, mono_eqO _ _, mono_eqO _ _, mono_eqO _ _, mono_eqO _ _, mono_eqO _ _, mono_eqO _ _, by simp⟩)) 33 (by kernel_rfl) (by kernel_rfl) (by kernel_rfl) (by kernel_rfl) [] [] rfl rfl (by decide) (by decide) (by decide) trivial ?_
              simp only [List.take_succ_cons, List.take_zero]
              refine ⟨fun wv52 hov52 hSv52 => ?_, fun v52 => ?_⟩
              · clear hSv52
                clear hov52
                go_wp2_with fail
                exact ⟨rfl, _, rfl, fun d hd => by cases hd; exact rfl, Ext.refl _⟩
              simp only [Act.put, List.setIfInBounds_toArray, List.set_cons_zero, List.set_cons_succ]
              refine ⟨fun wv53 hov53 hSv53 => ?_, fun v53 => ?_⟩
              · obtain rfl : v52 = .pointer (some ⟨g4, 0, none⟩) := hSv53 52 (by decide) (by decide)
                clear hSv53
                have H := kp (H.out.keep [0, 1] (St := []) trivial hov53 (by decide) (by kernel_rfl))
                have HOX := kp hov53
                clear hov53
                go_wp2_with ((with_reducible show wpList _ _ _ (Oper.mk _ (Op.load 23 _) _ _ _ _ :: _) _ _); refine L_subG H (by kernel_rfl) 23 _ rfl 0 rfl (0) rfl (x.addr.map V8) (HPX.out) Try.underlying23 rfl (HZX6.out) ?_; simp only [Act.put, List.setIfInBounds_toArray, List.set_cons_zero, List.set_cons_succ])
                exact ⟨rfl, _, rfl, fun d hd => by cases hd; exact rfl, Ext.refl _⟩
              simp only [Act.put, List.setIfInBounds_toArray, List.set_cons_zero, List.set_cons_succ]
              refine ⟨fun wv54 hov54 hSv54 => ?_, fun v54 => ?_⟩
              · obtain rfl : v53 = .agg (x.addr.map V8).toArray := hSv54 53 (by decide) (by decide)
                clear hSv54
                have H := kp (H.out.keep [0, 1] (St := []) trivial hov54 (by decide) (by kernel_rfl))
                have HOX := kp hov54
                clear hov54
                go_wp2_with fail
                refine (HGX.out _).mono ?_
                rintro e w2 ⟨rfl, hx⟩
                have HXW := kp hx
                clear hx
                go_wp2_with fail
                exact ⟨rfl, _, rfl, fun d hd => by cases hd; exact rfl, HXW.out⟩
              simp only [Act.put, List.setIfInBounds_toArray, List.set_cons_zero, List.set_cons_succ]
              refine ⟨fun wv55 hov55 hSv55 => ?_, fun v55 => ?_⟩
              · obtain rfl : v54 = .bool false := hSv55 54 (by decide) (by decide)
                clear hSv55
                clear hov55
                go_wp2_with fail
                exact ⟨rfl, _, rfl, fun d hd => by cases hd; exact rfl, Ext.refl _⟩
              simp only [Act.put, List.setIfInBounds_toArray, List.set_cons_zero, List.set_cons_succ]
              refine ⟨fun wv56 hov56 hSv56 => ?_, fun v56 => ?_⟩
              · obtain rfl : v55 = .bool false := hSv56 55 (by decide) (by decide)
                clear hSv56
                clear hov56
                go_wp2_with fail
                exact ⟨rfl, _, rfl, fun d hd => by cases hd; exact rfl, Ext.refl _⟩
              simp only [Act.put, List.setIfInBounds_toArray, List.set_cons_zero, List.set_cons_succ]
              refine ⟨fun wv57 hov57 hSv57 => ?_, fun v57 => ?_⟩
              · obtain rfl : v55 = .bool false := hSv57 55 (by decide) (by decide)
                obtain rfl : v56 = .pointer (some ⟨g4, 0, none⟩) := hSv57 56 (by decide) (by decide)
                clear hSv57
                have H := kp (H.out.keep [0, 1] (St := []) trivial hov57 (by decide) (by kernel_rfl))
                have HOX := kp hov57
                clear hov57
                go_wp2_with ((with_reducible show wpList _ _ _ (Oper.mk _ (Op.load 23 _) _ _ _ _ :: _) _ _); refine L_subG H (by kernel_rfl) 23 _ rfl 0 rfl (0) rfl (x.addr.map V8) (HPX.out) Try.underlying23 rfl (HZX6.out) ?_; simp only [Act.put, List.setIfInBounds_toArray, List.set_cons_zero, List.set_cons_succ])
                exact ⟨rfl, _, rfl, fun d hd => by cases hd; exact rfl, Ext.refl _⟩
              simp only [Act.put, List.setIfInBounds_toArray, List.set_cons_zero, List.set_cons_succ]
              refine ⟨fun wv58 hov58 hSv58 => ?_, fun v58 => ?_⟩
              · obtain rfl : v55 = .bool false := hSv58 55 (by decide) (by decide)
                clear hSv58
                clear hov58
                go_wp2_with fail
                exact ⟨rfl, _, rfl, fun d hd => by cases hd; exact rfl, Ext.refl _⟩
              simp only [Act.put, List.setIfInBounds_toArray, List.set_cons_zero, List.set_cons_succ]
              refine ⟨fun wv59 hov59 hSv59 => ?_, fun v59 => ?_⟩
              · obtain rfl : v55 = .bool false := hSv59 55 (by decide) (by decide)
                obtain rfl : v58 = .pointer (some ⟨g1, 0, none⟩) := hSv59 58 (by decide) (by decide)
                clear hSv59
                have H := kp (H.out.keep [0, 1] (St := []) trivial hov59 (by decide) (by kernel_rfl))
                have HOX := kp hov59
                clear hov59
                go_wp2_with ((with_reducible show wpList _ _ _ (Oper.mk _ (Op.load 23 _) _ _ _ _ :: _) _ _); refine L_subG H (by kernel_rfl) 23 _ rfl 1 rfl (0) rfl (a.own.map V8) (HOW.out) Try.underlying23 rfl (HZO6.out) ?_; simp only [Act.put, List.setIfInBounds_toArray, List.set_cons_zero, List.set_cons_succ])
                exact ⟨rfl, _, rfl, fun d hd => by cases hd; exact rfl, Ext.refl _⟩
              simp only [Act.put, List.setIfInBounds_toArray, List.set_cons_zero, List.set_cons_succ]
              refine ⟨fun wv60 hov60 hSv60 => ?_, fun v60 => ?_⟩
              · obtain rfl : v55 = .bool false := hSv60 55 (by decide) (by decide)
                obtain rfl : v57 = .agg (x.addr.map V8).toArray := hSv60 57 (by decide) (by decide)
                obtain rfl : v59 = .agg (a.own.map V8).toArray := hSv60 59 (by decide) (by decide)
                clear hSv60
                clear hov60
                go_wp2_with fail
                exact ⟨rfl, _, rfl, fun d hd => by cases hd; exact rfl, Ext.refl _⟩
              simp only [Act.put, List.setIfInBounds_toArray, List.set_cons_zero, List.set_cons_succ]
              refine ⟨fun wv61 hov61 hSv61 => ?_, fun v61 => ?_⟩
              · obtain rfl : v55 = .bool false := hSv61 55 (by decide) (by decide)
                obtain rfl : v60 = .bool true := hSv61 60 (by decide) (by decide)
                clear hSv61
                clear hov61
                go_wp2_with fail
                exact ⟨rfl, _, rfl, fun d hd => by cases hd; exact rfl, Ext.refl _⟩
              simp only [Act.put, List.setIfInBounds_toArray, List.set_cons_zero, List.set_cons_succ]
              refine ⟨fun wv62 hov62 hSv62 => ?_, fun v62 => ?_⟩
              · obtain rfl : v61 = .bool true := hSv62 61 (by decide) (by decide)
                clear hSv62
                clear hov62
                go_wp2_with fail
                exact ⟨rfl, _, rfl, fun d hd => by cases hd; exact rfl, Ext.refl _⟩
              simp only [Act.put, List.setIfInBounds_toArray, List.set_cons_zero, List.set_cons_succ]
              refine ⟨fun wv63 hov63 hSv63 => ?_, fun v63 => ?_⟩
              · obtain rfl : v62 = .bool true := hSv63 62 (by decide) (by decide)
                clear hSv63
                clear hov63
                go_wp2_with fail
                exact ⟨rfl, _, rfl, fun d hd => by cases hd; exact rfl, Ext.refl _⟩
              simp only [Act.put, List.setIfInBounds_toArray, List.set_cons_zero, List.set_cons_succ]
              refine ⟨fun wv64 hov64 hSv64 => ?_, fun v64 => ?_⟩
              · obtain rfl : v62 = .bool true := hSv64 62 (by decide) (by decide)
                clear hSv64
                clear hov64
                go_wp2_with fail
                exact ⟨rfl, _, rfl, fun d hd => by cases hd; exact rfl, Ext.refl _⟩
              simp only [Act.put, List.setIfInBounds_toArray, List.set_cons_zero, List.set_cons_succ]
              refine ⟨fun wv65 hov65 hSv65 => ?_, fun v65 => ?_⟩
              · obtain rfl : v62 = .bool true := hSv65 62 (by decide) (by decide)
                clear hSv65
                clear hov65
                go_wp2_with fail
                exact ⟨rfl, _, rfl, fun d hd => by cases hd; exact rfl, Ext.refl _⟩
              simp only [Act.put, List.setIfInBounds_toArray, List.set_cons_zero, List.set_cons_succ]
              refine ⟨fun wv66 hov66 hSv66 => ?_, fun v66 => ?_⟩
              · obtain rfl : v62 = .bool true := hSv66 62 (by decide) (by decide)
                clear hSv66
                clear hov66
                go_wp2_with fail
                exact ⟨rfl, _, rfl, fun d hd => by cases hd; exact rfl, Ext.refl _⟩
              simp only [Act.put, List.setIfInBounds_toArray, List.set_cons_zero, List.set_cons_succ]
              refine ⟨fun wv67 hov67 hSv67 => ?_, fun v67 => ?_⟩
              · obtain rfl : v62 = .bool true := hSv67 62 (by decide) (by decide)
                obtain rfl : v66 = undef := hSv67 66 (by decide) (by decide)
                clear hSv67
                clear hov67
                go_wp2_with fail
                exact ⟨rfl, _, rfl, fun d hd => by cases hd; exact rfl, Ext.refl _⟩
              simp only [Act.put, List.setIfInBounds_toArray, List.set_cons_zero, List.set_cons_succ]
              refine ⟨fun wv68 hov68 hSv68 => ?_, fun v68 => ?_⟩
              · obtain rfl : v67 = .bool true := hSv68 67 (by decide) (by decide)
                clear hSv68
                clear hov68
                go_wp2_with fail
                exact ⟨rfl, _, rfl, fun d hd => by cases hd; exact rfl, Ext.refl _⟩
              simp only [Act.put, List.setIfInBounds_toArray, List.set_cons_zero, List.set_cons_succ]
              refine ⟨fun wv69 hov69 hSv69 => ?_, fun v69 => ?_⟩
              · obtain rfl : v68 = .bool true := hSv69 68 (by decide) (by decide)
                clear hSv69
                clear hov69
                go_wp2_with fail
                exact ⟨rfl, _, rfl, fun d hd => by cases hd; exact rfl, Ext.refl _⟩
              simp only [Act.put, List.setIfInBounds_toArray, List.set_cons_zero, List.set_cons_succ]
              refine ⟨fun wv70 hov70 hSv70 => ?_, fun v70 => ?_⟩
              · obtain rfl : v68 = .bool true := hSv70 68 (by decide) (by decide)
                clear hSv70
                clear hov70
                go_wp2_with fail
                exact ⟨rfl, _, rfl, fun d hd => by cases hd; exact rfl, Ext.refl _⟩
              simp only [Act.put, List.setIfInBounds_toArray, List.set_cons_zero, List.set_cons_succ]
              refine ⟨fun wv71 hov71 hSv71 => ?_, fun v71 => ?_⟩
              · obtain rfl : v68 = .bool true := hSv71 68 (by decide) (by decide)
                clear hSv71
                clear hov71
                go_wp2_with fail
                exact ⟨rfl, _, rfl, fun d hd => by cases hd; exact rfl, Ext.refl _⟩
              simp only [Act.put, List.setIfInBounds_toArray, List.set_cons_zero, List.set_cons_succ]
              refine ⟨fun wv72 hov72 hSv72 => ?_, fun v72 => ?_⟩
              · obtain rfl : v71 = undef := hSv72 71 (by decide) (by decide)
                clear hSv72
                clear hov72
                go_wp2_with fail
                exact ⟨rfl, _, rfl, fun d hd => by cases hd; exact rfl, Ext.refl _⟩
              simp only [Act.put, List.setIfInBounds_toArray, List.set_cons_zero, List.set_cons_succ]
              refine ⟨fun wv73 hov73 hSv73 => ?_, fun v73 => ?_⟩
              · obtain rfl : v71 = undef := hSv73 71 (by decide) (by decide)
                clear hSv73
                clear hov73
                go_wp2_with fail
                exact ⟨rfl, _, rfl, fun d hd => by cases hd; exact rfl, Ext.refl _⟩
              simp only [Act.put, List.setIfInBounds_toArray, List.set_cons_zero, List.set_cons_succ]
              refine ⟨fun wv74 hov74 hSv74 => ?_, fun v74 => ?_⟩
              · obtain rfl : v71 = undef := hSv74 71 (by decide) (by decide)
                clear hSv74
                clear hov74
                go_wp2_with fail
                exact ⟨rfl, _, rfl, fun d hd => by cases hd; exact rfl, Ext.refl _⟩
              simp only [Act.put, List.setIfInBounds_toArray, List.set_cons_zero, List.set_cons_succ]
              refine ⟨fun wv75 hov75 hSv75 => ?_, fun v75 => ?_⟩
              · obtain rfl : v71 = undef := hSv75 71 (by decide) (by decide)
                clear hSv75
                clear hov75
                go_wp2_with fail
                exact ⟨rfl, _, rfl, fun d hd => by cases hd; exact rfl, Ext.refl _⟩
              simp only [Act.put, List.setIfInBounds_toArray, List.set_cons_zero, List.set_cons_succ]
              refine ⟨fun wv76 hov76 hSv76 => ?_, fun v76 => ?_⟩
              · obtain rfl : v71 = undef := hSv76 71 (by decide) (by decide)
                clear hSv76
                clear hov76
                go_wp2_with fail
                exact ⟨rfl, _, rfl, fun d hd => by cases hd; exact rfl, Ext.refl _⟩
              simp only [Act.put, List.setIfInBounds_toArray, List.set_cons_zero, List.set_cons_succ]
              refine ⟨fun wv77 hov77 hSv77 => ?_, fun v77 => ?_⟩
              · obtain rfl : v71 = undef := hSv77 71 (by decide) (by decide)
                clear hSv77
                clear hov77
                go_wp2_with fail
                exact ⟨rfl, _, rfl, fun d hd => by cases hd; exact rfl, Ext.refl _⟩
              simp only [Act.put, List.setIfInBounds_toArray, List.set_cons_zero, List.set_cons_succ]
              refine ⟨fun wv78 hov78 hSv78 => ?_, fun v78 => ?_⟩
              · obtain rfl : v71 = undef := hSv78 71 (by decide) (by decide)
                clear hSv78
                clear hov78
                go_wp2_with fail
                exact ⟨rfl, _, rfl, fun d hd => by cases hd; exact rfl, Ext.refl _⟩
              simp only [Act.put, List.setIfInBounds_toArray, List.set_cons_zero, List.set_cons_succ]
              refine ⟨fun wv79 hov79 hSv79 => ?_, fun v79 => ?_⟩
              · obtain rfl : v71 = undef := hSv79 71 (by decide) (by decide)
                clear hSv79
                clear hov79
                go_wp2_with fail
                exact ⟨rfl, _, rfl, fun d hd => by cases hd; exact rfl, Ext.refl _⟩
              simp only [Act.put, List.setIfInBounds_toArray, List.set_cons_zero, List.set_cons_succ]
              refine ⟨fun wv80 hov80 hSv80 => ?_, fun v80 => ?_⟩
              · obtain rfl : v71 = undef := hSv80 71 (by decide) (by decide)
                clear hSv80
                clear hov80
                go_wp2_with fail
                exact ⟨rfl, _, rfl, fun d hd => by cases hd; exact rfl, Ext.refl _⟩
              simp only [Act.put, List.setIfInBounds_toArray, List.set_cons_zero, List.set_cons_succ]
              refine ⟨fun wv81 hov81 hSv81 => ?_, fun v81 => ?_⟩
              · obtain rfl : v71 = undef := hSv81 71 (by decide) (by decide)
                clear hSv81
                clear hov81
                go_wp2_with fail
                exact ⟨rfl, _, rfl, fun d hd => by cases hd; exact rfl, Ext.refl _⟩
              simp only [Act.put, List.setIfInBounds_toArray, List.set_cons_zero, List.set_cons_succ]
              refine ⟨fun wv82 hov82 hSv82 => ?_, fun v82 => ?_⟩
              · obtain rfl : v71 = undef := hSv82 71 (by decide) (by decide)
                clear hSv82
                clear hov82
                go_wp2_with fail
                exact ⟨rfl, _, rfl, fun d hd => by cases hd; exact rfl, Ext.refl _⟩
              simp only [Act.put, List.setIfInBounds_toArray, List.set_cons_zero, List.set_cons_succ]
              refine ⟨fun wv83 hov83 hSv83 => ?_, fun v83 => ?_⟩
              · obtain rfl : v68 = .bool true := hSv83 68 (by decide) (by decide)
                clear hSv83
                clear hov83
                go_wp2_with fail
                exact ⟨rfl, _, rfl, fun d hd => by cases hd; exact rfl, Ext.refl _⟩
              simp only [Act.put, List.setIfInBounds_toArray, List.set_cons_zero, List.set_cons_succ]
              refine ⟨fun wv84 hov84 hSv84 => ?_, fun v84 => ?_⟩
              · obtain rfl : v68 = .bool true := hSv84 68 (by decide) (by decide)
                obtain rfl : v83 = undef := hSv84 83 (by decide) (by decide)
                clear hSv84
                clear hov84
                go_wp2_with fail
                exact ⟨rfl, _, rfl, fun d hd => by cases hd; exact rfl, Ext.refl _⟩
              simp only [Act.put, List.setIfInBounds_toArray, List.set_cons_zero, List.set_cons_succ]
              clear H
              intro w7 HOX H hfin
              obtain rfl : v52 = .pointer (some ⟨g4, 0, none⟩) := hfin 52 (by decide)
              obtain rfl : v53 = .agg (x.addr.map V8).toArray := hfin 53 (by decide)
              obtain rfl : v54 = .bool false := hfin 54 (by decide)
              obtain rfl : v55 = .bool false := hfin 55 (by decide)
              obtain rfl : v56 = .pointer (some ⟨g4, 0, none⟩) := hfin 56 (by decide)
              obtain rfl : v57 = .agg (x.addr.map V8).toArray := hfin 57 (by decide)
              obtain rfl : v58 = .pointer (some ⟨g1, 0, none⟩) := hfin 58 (by decide)
              obtain rfl : v59 = .agg (a.own.map V8).toArray := hfin 59 (by decide)
              obtain rfl : v60 = .bool true := hfin 60 (by decide)
              obtain rfl : v61 = .bool true := hfin 61 (by decide)
              obtain rfl : v62 = .bool true := hfin 62 (by decide)
              obtain rfl : v63 = undef := hfin 63 (by decide)
              obtain rfl : v64 = undef := hfin 64 (by decide)
              obtain rfl : v65 = undef := hfin 65 (by decide)
              obtain rfl : v66 = undef := hfin 66 (by decide)
              obtain rfl : v67 = .bool true := hfin 67 (by decide)
              obtain rfl : v68 = .bool true := hfin 68 (by decide)
              obtain rfl : v69 = undef := hfin 69 (by decide)
              obtain rfl : v70 = undef := hfin 70 (by decide)
              obtain rfl : v71 = undef := hfin 71 (by decide)
              obtain rfl : v72 = undef := hfin 72 (by decide)
              obtain rfl : v73 = undef := hfin 73 (by decide)
              obtain rfl : v74 = undef := hfin 74 (by decide)
              obtain rfl : v75 = undef := hfin 75 (by decide)
              obtain rfl : v76 = undef := hfin 76 (by decide)
              obtain rfl : v77 = undef := hfin 77 (by decide)
              obtain rfl : v78 = undef := hfin 78 (by decide)
              obtain rfl : v79 = undef := hfin 79 (by decide)
              obtain rfl : v80 = undef := hfin 80 (by decide)
              obtain rfl : v81 = undef := hfin 81 (by decide)
              obtain rfl : v82 = undef := hfin 82 (by decide)
              obtain rfl : v83 = undef := hfin 83 (by decide)
              obtain rfl : v84 = .bool true := hfin 84 (by decide)
              clear hfin
              simp only [List.drop_succ_cons, List.drop_zero]
              simp only [applyS] at H
              have HXN := kp (HOX.out.ext (Ext.refl w6) (fun g hg => by cases hg))
              go_wp2_with fail
              exact CutP.of rfl (by kernel_rfl) ⟨H, congrArg Value.bool (by rfl)⟩
            | false =>
              rw [ho] at heq
              clear ho
              cases hb3 : inF x.seen 0 1099511627776 with
              | false =>
                rw [hb3] at HSE
                clear hb3
                refine region_free H (tabS [(52, fun zv _ => zv = .pointer (some ⟨g4, 0, none⟩)), (53, fun zv _ => zv = .agg (x.addr.map V8).toArray), (54, fun zv _ => zv = .bool false), (55, fun zv _ => zv = .bool false), (56, fun zv _ => zv = .pointer (some ⟨g4, 0, none⟩)), (57, fun zv _ => zv = .agg (x.addr.map V8).toArray), (58, fun zv _ => zv = .pointer (some ⟨g1, 0, none⟩)), (59, fun zv _ => zv = .agg (a.own.map V8).toArray), (60, fun zv _ => zv = .bool false), (61, fun zv _ => zv = .bool false), (62, fun zv _ => zv = .bool false), (63, fun zv _ => zv = .pointer (some ⟨g4, 10, none⟩)), (64, fun zv _ => zv = .int .i64 x.seen), (65, fun zv _ => zv = .bool false), (66, fun zv _ => zv = .bool true), (67, fun zv _ => zv = .bool true), (68, fun zv _ => zv = .bool true), (69, fun zv _ => zv = undef), (70, fun zv _ => zv = undef), (71, fun zv _ => zv = undef), (72, fun zv _ => zv = undef), (73, fun zv _ => zv = undef), (74, fun zv _ => zv = undef), (75, fun zv _ => zv = undef), (76, fun zv _ => zv = undef), (77, fun zv _ => zv = undef), (78, fun zv _ => zv = undef), (79, fun zv _ => zv = undef), (80, fun zv _ => zv = undef), (81, fun zv _ => zv = undef), (82, fun zv _ => zv = undef), (83, fun zv _ => zv = undef), (84, fun zv _ => zv = .bool true)]) [] (tabS_out _ _ (by simp only [List.forall_mem_cons]; exact ⟨mono_eqO _ _, mono_eqO _ _, mono_eqO _ _, mono_eqO _ _, mono_eqO _ _, mono_eqO _ _, mono_eqO _ _, mono_eqO _ _, mono_eqO _ _, mono_eqO _ _, mono_eqO _ _, mono_eqO _ _, mono_eqO _ _, mono_eqO _ _, mono_eqO _ _, mono_eqO _ _, mono_eqO _ _, mono_eqO _ _, mono_eqO _ _, mono_eqO _ _, mono_eqO _ _, mono_eqO _ _, mono_eqO _ _, mono_eqO _ _, mono_eqO _ _, mono_eqO _ _, mono_eqO _ _, mono_eqO _ _, mono_eqO _ _, mono_eqO _ _, mono_eqO _ _, mono_eqO _ _, mono_eqO _ _, by simp⟩)) 33 (by kernel_rfl) (by kernel_rfl) (by kernel_rfl) (by kernel_rfl) [] [] rfl rfl (by decide) (by decide) (by decide) trivial ?_
                simp only [List.take_succ_cons, List.take_zero]
                refine ⟨fun wv52 hov52 hSv52 => ?_, fun v52 => ?_⟩
                · clear hSv52
                  clear hov52
                  go_wp2_with fail
                  exact ⟨rfl, _, rfl, fun d hd => by cases hd; exact rfl, Ext.refl _⟩
                simp only [Act.put, List.setIfInBounds_toArray, List.set_cons_zero, List.set_cons_succ]
                refine ⟨fun wv53 hov53 hSv53 => ?_, fun v53 => ?_⟩
                · obtain rfl : v52 = .pointer (some ⟨g4, 0, none⟩) := hSv53 52 (by decide) (by decide)
                  clear hSv53
                  have H := kp (H.out.keep [0, 1] (St := []) trivial hov53 (by decide) (by kernel_rfl))
                  have HOX := kp hov53
                  clear hov53
                  go_wp2_with ((with_reducible show wpList _ _ _ (Oper.mk _ (Op.load 23 _) _ _ _ _ :: _) _ _); refine L_subG H (by kernel_rfl) 23 _ rfl 0 rfl (0) rfl (x.addr.map V8) (HPX.out) Try.underlying23 rfl (HZX6.out) ?_; simp only [Act.put, List.setIfInBounds_toArray, List.set_cons_zero, List.set_cons_succ])
                  exact ⟨rfl, _, rfl, fun d hd => by cases hd; exact rfl, Ext.refl _⟩
                simp only [Act.put, List.setIfInBounds_toArray, List.set_cons_zero, List.set_cons_succ]
                refine ⟨fun wv54 hov54 hSv54 => ?_, fun v54 => ?_⟩
                · obtain rfl : v53 = .agg (x.addr.map V8).toArray := hSv54 53 (by decide) (by decide)
                  clear hSv54
                  have H := kp (H.out.keep [0, 1] (St := []) trivial hov54 (by decide) (by kernel_rfl))
                  have HOX := kp hov54
                  clear hov54
                  go_wp2_with fail
                  refine (HGX.out _).mono ?_
                  rintro e w2 ⟨rfl, hx⟩
                  have HXW := kp hx
                  clear hx
                  go_wp2_with fail
                  exact ⟨rfl, _, rfl, fun d hd => by cases hd; exact rfl, HXW.out⟩
                simp only [Act.put, List.setIfInBounds_toArray, List.set_cons_zero, List.set_cons_succ]
                refine ⟨fun wv55 hov55 hSv55 => ?_, fun v55 => ?_⟩
                · obtain rfl : v54 = .bool false := hSv55 54 (by decide) (by decide)
                  clear hSv55
                  clear hov55
                  go_wp2_with fail
                  exact ⟨rfl, _, rfl, fun d hd => by cases hd; exact rfl, Ext.refl _⟩
                simp only [Act.put, List.setIfInBounds_toArray, List.set_cons_zero, List.set_cons_succ]
                refine ⟨fun wv56 hov56 hSv56 => ?_, fun v56 => ?_⟩
                · obtain rfl : v55 = .bool false := hSv56 55 (by decide) (by decide)
                  clear hSv56
                  clear hov56
                  go_wp2_with fail
                  exact ⟨rfl, _, rfl, fun d hd => by cases hd; exact rfl, Ext.refl _⟩
                simp only [Act.put, List.setIfInBounds_toArray, List.set_cons_zero, List.set_cons_succ]
                refine ⟨fun wv57 hov57 hSv57 => ?_, fun v57 => ?_⟩
                · obtain rfl : v55 = .bool false := hSv57 55 (by decide) (by decide)
                  obtain rfl : v56 = .pointer (some ⟨g4, 0, none⟩) := hSv57 56 (by decide) (by decide)
                  clear hSv57
                  have H := kp (H.out.keep [0, 1] (St := []) trivial hov57 (by decide) (by kernel_rfl))
                  have HOX := kp hov57
                  clear hov57
                  go_wp2_with ((with_reducible show wpList _ _ _ (Oper.mk _ (Op.load 23 _) _ _ _ _ :: _) _ _); refine L_subG H (by kernel_rfl) 23 _ rfl 0 rfl (0) rfl (x.addr.map V8) (HPX.out) Try.underlying23 rfl (HZX6.out) ?_; simp only [Act.put, List.setIfInBounds_toArray, List.set_cons_zero, List.set_cons_succ])
                  exact ⟨rfl, _, rfl, fun d hd => by cases hd; exact rfl, Ext.refl _⟩
                simp only [Act.put, List.setIfInBounds_toArray, List.set_cons_zero, List.set_cons_succ]
                refine ⟨fun wv58 hov58 hSv58 => ?_, fun v58 => ?_⟩
                · obtain rfl : v55 = .bool false := hSv58 55 (by decide) (by decide)
                  clear hSv58
                  clear hov58
                  go_wp2_with fail
                  exact ⟨rfl, _, rfl, fun d hd => by cases hd; exact rfl, Ext.refl _⟩
                simp only [Act.put, List.setIfInBounds_toArray, List.set_cons_zero, List.set_cons_succ]
                refine ⟨fun wv59 hov59 hSv59 => ?_, fun v59 => ?_⟩
                · obtain rfl : v55 = .bool false := hSv59 55 (by decide) (by decide)
                  obtain rfl : v58 = .pointer (some ⟨g1, 0, none⟩) := hSv59 58 (by decide) (by decide)
                  clear hSv59
                  have H := kp (H.out.keep [0, 1] (St := []) trivial hov59 (by decide) (by kernel_rfl))
                  have HOX := kp hov59
                  clear hov59
                  go_wp2_with ((with_reducible show wpList _ _ _ (Oper.mk _ (Op.load 23 _) _ _ _ _ :: _) _ _); refine L_subG H (by kernel_rfl) 23 _ rfl 1 rfl (0) rfl (a.own.map V8) (HOW.out) Try.underlying23 rfl (HZO6.out) ?_; simp only [Act.put, List.setIfInBounds_toArray, List.set_cons_zero, List.set_cons_succ])
                  exact ⟨rfl, _, rfl, fun d hd => by cases hd; exact rfl, Ext.refl _⟩
                simp only [Act.put, List.setIfInBounds_toArray, List.set_cons_zero, List.set_cons_succ]
                refine ⟨fun wv60 hov60 hSv60 => ?_, fun v60 => ?_⟩
                · obtain rfl : v55 = .bool false := hSv60 55 (by decide) (by decide)
                  obtain rfl : v57 = .agg (x.addr.map V8).toArray := hSv60 57 (by decide) (by decide)
                  obtain rfl : v59 = .agg (a.own.map V8).toArray := hSv60 59 (by decide) (by decide)
                  clear hSv60
                  clear hov60
                  go_wp2_with fail
                  exact ⟨rfl, _, rfl, fun d hd => by cases hd; exact rfl, Ext.refl _⟩
                simp only [Act.put, List.setIfInBounds_toArray, List.set_cons_zero, List.set_cons_succ]
                refine ⟨fun wv61 hov61 hSv61 => ?_, fun v61 => ?_⟩
                · obtain rfl : v55 = .bool false := hSv61 55 (by decide) (by decide)
                  obtain rfl : v60 = .bool false := hSv61 60 (by decide) (by decide)
                  clear hSv61
                  clear hov61
                  go_wp2_with fail
                  exact ⟨rfl, _, rfl, fun d hd => by cases hd; exact rfl, Ext.refl _⟩
                simp only [Act.put, List.setIfInBounds_toArray, List.set_cons_zero, List.set_cons_succ]
                refine ⟨fun wv62 hov62 hSv62 => ?_, fun v62 => ?_⟩
                · obtain rfl : v61 = .bool false := hSv62 61 (by decide) (by decide)
                  clear hSv62
                  clear hov62
                  go_wp2_with fail
                  exact ⟨rfl, _, rfl, fun d hd => by cases hd; exact rfl, Ext.refl _⟩
                simp only [Act.put, List.setIfInBounds_toArray, List.set_cons_zero, List.set_cons_succ]
                refine ⟨fun wv63 hov63 hSv63 => ?_, fun v63 => ?_⟩
                · obtain rfl : v62 = .bool false := hSv63 62 (by decide) (by decide)
                  clear hSv63
                  clear hov63
                  go_wp2_with fail
                  exact ⟨rfl, _, rfl, fun d hd => by cases hd; exact rfl, Ext.refl _⟩
                simp only [Act.put, List.setIfInBounds_toArray, List.set_cons_zero, List.set_cons_succ]
                refine ⟨fun wv64 hov64 hSv64 => ?_, fun v64 => ?_⟩
                · obtain rfl : v62 = .bool false := hSv64 62 (by decide) (by decide)
                  obtain rfl : v63 = .pointer (some ⟨g4, 10, none⟩) := hSv64 63 (by decide) (by decide)
                  clear hSv64
                  have H := kp (H.out.keep [0, 1] (St := []) trivial hov64 (by decide) (by kernel_rfl))
                  have HOX := kp hov64
                  clear hov64
                  have hc := run_load_cell H.out 0 rfl _ _ H10.out
                  go_wp2_with fail
                  exact ⟨rfl, _, rfl, fun d hd => by cases hd; exact rfl, Ext.refl _⟩
                simp only [Act.put, List.setIfInBounds_toArray, List.set_cons_zero, List.set_cons_succ]
                refine ⟨fun wv65 hov65 hSv65 => ?_, fun v65 => ?_⟩
                · obtain rfl : v62 = .bool false := hSv65 62 (by decide) (by decide)
                  obtain rfl : v64 = .int .i64 x.seen := hSv65 64 (by decide) (by decide)
                  clear hSv65
                  have H := kp (H.out.keep [0, 1] (St := []) trivial hov65 (by decide) (by kernel_rfl))
                  have HOX := kp hov65
                  clear hov65
                  go_wp2_with fail
                  refine (HSE.out _).mono ?_
                  rintro e w2 ⟨rfl, hx⟩
                  have HXW := kp hx
                  clear hx
                  go_wp2_with fail
                  exact ⟨rfl, _, rfl, fun d hd => by cases hd; exact rfl, HXW.out⟩
                simp only [Act.put, List.setIfInBounds_toArray, List.set_cons_zero, List.set_cons_succ]
                refine ⟨fun wv66 hov66 hSv66 => ?_, fun v66 => ?_⟩
                · obtain rfl : v62 = .bool false := hSv66 62 (by decide) (by decide)
                  obtain rfl : v65 = .bool false := hSv66 65 (by decide) (by decide)
                  clear hSv66
                  clear hov66
                  go_wp2_with fail
                  exact ⟨rfl, _, rfl, fun d hd => by cases hd; exact rfl, Ext.refl _⟩
                simp only [Act.put, List.setIfInBounds_toArray, List.set_cons_zero, List.set_cons_succ]
                refine ⟨fun wv67 hov67 hSv67 => ?_, fun v67 => ?_⟩
                · obtain rfl : v62 = .bool false := hSv67 62 (by decide) (by decide)
                  obtain rfl : v66 = .bool true := hSv67 66 (by decide) (by decide)
                  clear hSv67
                  clear hov67
                  go_wp2_with fail
                  exact ⟨rfl, _, rfl, fun d hd => by cases hd; exact rfl, Ext.refl _⟩
                simp only [Act.put, List.setIfInBounds_toArray, List.set_cons_zero, List.set_cons_succ]
                refine ⟨fun wv68 hov68 hSv68 => ?_, fun v68 => ?_⟩
                · obtain rfl : v67 = .bool true := hSv68 67 (by decide) (by decide)
                  clear hSv68
                  clear hov68
                  go_wp2_with fail
                  exact ⟨rfl, _, rfl, fun d hd => by cases hd; exact rfl, Ext.refl _⟩
                simp only [Act.put, List.setIfInBounds_toArray, List.set_cons_zero, List.set_cons_succ]
                refine ⟨fun wv69 hov69 hSv69 => ?_, fun v69 => ?_⟩
                · obtain rfl : v68 = .bool true := hSv69 68 (by decide) (by decide)
                  clear hSv69
                  clear hov69
                  go_wp2_with fail
                  exact ⟨rfl, _, rfl, fun d hd => by cases hd; exact rfl, Ext.refl _⟩
                simp only [Act.put, List.setIfInBounds_toArray, List.set_cons_zero, List.set_cons_succ]
                refine ⟨fun wv70 hov70 hSv70 => ?_, fun v70 => ?_⟩
                · obtain rfl : v68 = .bool true := hSv70 68 (by decide) (by decide)
                  clear hSv70
                  clear hov70
                  go_wp2_with fail
                  exact ⟨rfl, _, rfl, fun d hd => by cases hd; exact rfl, Ext.refl _⟩
                simp only [Act.put, List.setIfInBounds_toArray, List.set_cons_zero, List.set_cons_succ]
                refine ⟨fun wv71 hov71 hSv71 => ?_, fun v71 => ?_⟩
                · obtain rfl : v68 = .bool true := hSv71 68 (by decide) (by decide)
                  clear hSv71
                  clear hov71
                  go_wp2_with fail
                  exact ⟨rfl, _, rfl, fun d hd => by cases hd; exact rfl, Ext.refl _⟩
                simp only [Act.put, List.setIfInBounds_toArray, List.set_cons_zero, List.set_cons_succ]
                refine ⟨fun wv72 hov72 hSv72 => ?_, fun v72 => ?_⟩
                · obtain rfl : v71 = undef := hSv72 71 (by decide) (by decide)
                  clear hSv72
                  clear hov72
                  go_wp2_with fail
                  exact ⟨rfl, _, rfl, fun d hd => by cases hd; exact rfl, Ext.refl _⟩
                simp only [Act.put, List.setIfInBounds_toArray, List.set_cons_zero, List.set_cons_succ]
                refine ⟨fun wv73 hov73 hSv73 => ?_, fun v73 => ?_⟩
                · obtain rfl : v71 = undef := hSv73 71 (by decide) (by decide)
                  clear hSv73
                  clear hov73
                  go_wp2_with fail
                  exact ⟨rfl, _, rfl, fun d hd => by cases hd; exact rfl, Ext.refl _⟩
                simp only [Act.put, List.setIfInBounds_toArray, List.set_cons_zero, List.set_cons_succ]
                refine ⟨fun wv74 hov74 hSv74 => ?_, fun v74 => ?_⟩
                · obtain rfl : v71 = undef := hSv74 71 (by decide) (by decide)
                  clear hSv74
                  clear hov74
                  go_wp2_with fail
                  exact ⟨rfl, _, rfl, fun d hd => by cases hd; exact rfl, Ext.refl _⟩
                simp only [Act.put, List.setIfInBounds_toArray, List.set_cons_zero, List.set_cons_succ]
                refine ⟨fun wv75 hov75 hSv75 => ?_, fun v75 => ?_⟩
                · obtain rfl : v71 = undef := hSv75 71 (by decide) (by decide)
                  clear hSv75
                  clear hov75
                  go_wp2_with fail
                  exact ⟨rfl, _, rfl, fun d hd => by cases hd; exact rfl, Ext.refl _⟩
                simp only [Act.put, List.setIfInBounds_toArray, List.set_cons_zero, List.set_cons_succ]
                refine ⟨fun wv76 hov76 hSv76 => ?_, fun v76 => ?_⟩
                · obtain rfl : v71 = undef := hSv76 71 (by decide) (by decide)
                  clear hSv76
                  clear hov76
                  go_wp2_with fail
                  exact ⟨rfl, _, rfl, fun d hd => by cases hd; exact rfl, Ext.refl _⟩
                simp only [Act.put, List.setIfInBounds_toArray, List.set_cons_zero, List.set_cons_succ]
                refine ⟨fun wv77 hov77 hSv77 => ?_, fun v77 => ?_⟩
                · obtain rfl : v71 = undef := hSv77 71 (by decide) (by decide)
                  clear hSv77
                  clear hov77
                  go_wp2_with fail
                  exact ⟨rfl, _, rfl, fun d hd => by cases hd; exact rfl, Ext.refl _⟩
                simp only [Act.put, List.setIfInBounds_toArray, List.set_cons_zero, List.set_cons_succ]
                refine ⟨fun wv78 hov78 hSv78 => ?_, fun v78 => ?_⟩
                · obtain rfl : v71 = undef := hSv78 71 (by decide) (by decide)
                  clear hSv78
                  clear hov78
                  go_wp2_with fail
                  exact ⟨rfl, _, rfl, fun d hd => by cases hd; exact rfl, Ext.refl _⟩
                simp only [Act.put, List.setIfInBounds_toArray, List.set_cons_zero, List.set_cons_succ]
                refine ⟨fun wv79 hov79 hSv79 => ?_, fun v79 => ?_⟩
                · obtain rfl : v71 = undef := hSv79 71 (by decide) (by decide)
                  clear hSv79
                  clear hov79
                  go_wp2_with fail
                  exact ⟨rfl, _, rfl, fun d hd => by cases hd; exact rfl, Ext.refl _⟩
                simp only [Act.put, List.setIfInBounds_toArray, List.set_cons_zero, List.set_cons_succ]
                refine ⟨fun wv80 hov80 hSv80 => ?_, fun v80 => ?_⟩
                · obtain rfl : v71 = undef := hSv80 71 (by decide) (by decide)
                  clear hSv80
                  clear hov80
                  go_wp2_with fail
                  exact ⟨rfl, _, rfl, fun d hd => by cases hd; exact rfl, Ext.refl _⟩
                simp only [Act.put, List.setIfInBounds_toArray, List.set_cons_zero, List.set_cons_succ]
                refine ⟨fun wv81 hov81 hSv81 => ?_, fun v81 => ?_⟩
                · obtain rfl : v71 = undef := hSv81 71 (by decide) (by decide)
                  clear hSv81
                  clear hov81
                  go_wp2_with fail
                  exact ⟨rfl, _, rfl, fun d hd => by cases hd; exact rfl, Ext.refl _⟩
                simp only [Act.put, List.setIfInBounds_toArray, List.set_cons_zero, List.set_cons_succ]
                refine ⟨fun wv82 hov82 hSv82 => ?_, fun v82 => ?_⟩
                · obtain rfl : v71 = undef := hSv82 71 (by decide) (by decide)
                  clear hSv82
                  clear hov82
                  go_wp2_with fail
                  exact ⟨rfl, _, rfl, fun d hd => by cases hd; exact rfl, Ext.refl _⟩
                simp only [Act.put, List.setIfInBounds_toArray, List.set_cons_zero, List.set_cons_succ]
                refine ⟨fun wv83 hov83 hSv83 => ?_, fun v83 => ?_⟩
                · obtain rfl : v68 = .bool true := hSv83 68 (by decide) (by decide)
                  clear hSv83
                  clear hov83
                  go_wp2_with fail
                  exact ⟨rfl, _, rfl, fun d hd => by cases hd; exact rfl, Ext.refl _⟩
                simp only [Act.put, List.setIfInBounds_toArray, List.set_cons_zero, List.set_cons_succ]
                refine ⟨fun wv84 hov84 hSv84 => ?_, fun v84 => ?_⟩
                · obtain rfl : v68 = .bool true := hSv84 68 (by decide) (by decide)
                  obtain rfl : v83 = undef := hSv84 83 (by decide) (by decide)
                  clear hSv84
                  clear hov84
                  go_wp2_with fail
                  exact ⟨rfl, _, rfl, fun d hd => by cases hd; exact rfl, Ext.refl _⟩
                simp only [Act.put, List.setIfInBounds_toArray, List.set_cons_zero, List.set_cons_succ]
                clear H
                intro w7 HOX H hfin
                obtain rfl : v52 = .pointer (some ⟨g4, 0, none⟩) := hfin 52 (by decide)
                obtain rfl : v53 = .agg (x.addr.map V8).toArray := hfin 53 (by decide)
                obtain rfl : v54 = .bool false := hfin 54 (by decide)
                obtain rfl : v55 = .bool false := hfin 55 (by decide)
                obtain rfl : v56 = .pointer (some ⟨g4, 0, none⟩) := hfin 56 (by decide)
                obtain rfl : v57 = .agg (x.addr.map V8).toArray := hfin 57 (by decide)
                obtain rfl : v58 = .pointer (some ⟨g1, 0, none⟩) := hfin 58 (by decide)
                obtain rfl : v59 = .agg (a.own.map V8).toArray := hfin 59 (by decide)
                obtain rfl : v60 = .bool false := hfin 60 (by decide)
                obtain rfl : v61 = .bool false := hfin 61 (by decide)
                obtain rfl : v62 = .bool false := hfin 62 (by decide)
                obtain rfl : v63 = .pointer (some ⟨g4, 10, none⟩) := hfin 63 (by decide)
                obtain rfl : v64 = .int .i64 x.seen := hfin 64 (by decide)
                obtain rfl : v65 = .bool false := hfin 65 (by decide)
                obtain rfl : v66 = .bool true := hfin 66 (by decide)
                obtain rfl : v67 = .bool true := hfin 67 (by decide)
                obtain rfl : v68 = .bool true := hfin 68 (by decide)
                obtain rfl : v69 = undef := hfin 69 (by decide)
                obtain rfl : v70 = undef := hfin 70 (by decide)
                obtain rfl : v71 = undef := hfin 71 (by decide)
                obtain rfl : v72 = undef := hfin 72 (by decide)
                obtain rfl : v73 = undef := hfin 73 (by decide)
                obtain rfl : v74 = undef := hfin 74 (by decide)
                obtain rfl : v75 = undef := hfin 75 (by decide)
                obtain rfl : v76 = undef := hfin 76 (by decide)
                obtain rfl : v77 = undef := hfin 77 (by decide)
                obtain rfl : v78 = undef := hfin 78 (by decide)
                obtain rfl : v79 = undef := hfin 79 (by decide)
                obtain rfl : v80 = undef := hfin 80 (by decide)
                obtain rfl : v81 = undef := hfin 81 (by decide)
                obtain rfl : v82 = undef := hfin 82 (by decide)
                obtain rfl : v83 = undef := hfin 83 (by decide)
                obtain rfl : v84 = .bool true := hfin 84 (by decide)
                clear hfin
                simp only [List.drop_succ_cons, List.drop_zero]
                simp only [applyS] at H
                have HXN := kp (HOX.out.ext (Ext.refl w6) (fun g hg => by cases hg))
                go_wp2_with fail
                exact CutP.of rfl (by kernel_rfl) ⟨H, congrArg Value.bool (by rfl)⟩
              | true =>
                rw [hb3] at HSE
                clear hb3
                by_cases hj0 : j = 0
                · subst hj0
                  refine region_free H (tabS [(52, fun zv _ => zv = .pointer (some ⟨g4, 0, none⟩)), (53, fun zv _ => zv = .agg (x.addr.map V8).toArray), (54, fun zv _ => zv = .bool false), (55, fun zv _ => zv = .bool false), (56, fun zv _ => zv = .pointer (some ⟨g4, 0, none⟩)), (57, fun zv _ => zv = .agg (x.addr.map V8).toArray), (58, fun zv _ => zv = .pointer (some ⟨g1, 0, none⟩)), (59, fun zv _ => zv = .agg (a.own.map V8).toArray), (60, fun zv _ => zv = .bool false), (61, fun zv _ => zv = .bool false), (62, fun zv _ => zv = .bool false), (63, fun zv _ => zv = .pointer (some ⟨g4, 10, none⟩)), (64, fun zv _ => zv = .int .i64 x.seen), (65, fun zv _ => zv = .bool true), (66, fun zv _ => zv = .bool false), (67, fun zv _ => zv = .bool false), (68, fun zv _ => zv = .bool false), (69, fun zv _ => zv = .int .i64 (0 : Nat)), (70, fun zv _ => zv = .bool false), (71, fun zv _ => zv = .bool false), (72, fun zv _ => zv = undef), (73, fun zv _ => zv = undef), (74, fun zv _ => zv = undef), (75, fun zv _ => zv = undef), (76, fun zv _ => zv = undef), (77, fun zv _ => zv = undef), (78, fun zv _ => zv = undef), (79, fun zv _ => zv = undef), (80, fun zv _ => zv = undef), (81, fun zv _ => zv = undef), (82, fun zv _ => zv = undef), (83, fun zv _ => zv = .bool false), (84, fun zv _ => zv = .bool false)]) [] (tabS_out _ _ (by simp only [List.forall_mem_cons]; exact ⟨mono_eqO _ _, mono_eqO _ _, mono_eqO _ _, mono_eqO _ _, mono_eqO _ _, mono_eqO _ _, mono_eqO _ _, mono_eqO _ _, mono_eqO _ _, mono_eqO _ _, mono_eqO _ _, mono_eqO _ _, mono_eqO _ _, mono_eqO _ _, mono_eqO _ _, mono_eqO _ _, mono_eqO _ _, mono_eqO _ _, mono_eqO _ _, mono_eqO _ _, mono_eqO _ _, mono_eqO _ _, mono_eqO _ _, mono_eqO _ _, mono_eqO _ _, mono_eqO _ _, mono_eqO _ _, mono_eqO _ _, mono_eqO _ _, mono_eqO _ _, mono_eqO _ _, mono_eqO _ _, mono_eqO _ _, by simp⟩)) 33 (by kernel_rfl) (by kernel_rfl) (by kernel_rfl) (by kernel_rfl) [] [] rfl rfl (by decide) (by decide) (by decide) trivial ?_
                  simp only [List.take_succ_cons, List.take_zero]
                  refine ⟨fun wv52 hov52 hSv52 => ?_, fun v52 => ?_⟩
                  · clear hSv52
                    clear hov52
                    go_wp2_with fail
                    exact ⟨rfl, _, rfl, fun d hd => by cases hd; exact rfl, Ext.refl _⟩
                  simp only [Act.put, List.setIfInBounds_toArray, List.set_cons_zero, List.set_cons_succ]
                  refine ⟨fun wv53 hov53 hSv53 => ?_, fun v53 => ?_⟩
                  · obtain rfl : v52 = .pointer (some ⟨g4, 0, none⟩) := hSv53 52 (by decide) (by decide)
                    clear hSv53
                    have H := kp (H.out.keep [0, 1] (St := []) trivial hov53 (by decide) (by kernel_rfl))
                    have HOX := kp hov53
                    clear hov53
                    go_wp2_with ((with_reducible show wpList _ _ _ (Oper.mk _ (Op.load 23 _) _ _ _ _ :: _) _ _); refine L_subG H (by kernel_rfl) 23 _ rfl 0 rfl (0) rfl (x.addr.map V8) (HPX.out) Try.underlying23 rfl (HZX6.out) ?_; simp only [Act.put, List.setIfInBounds_toArray, List.set_cons_zero, List.set_cons_succ])
                    exact ⟨rfl, _, rfl, fun d hd => by cases hd; exact rfl, Ext.refl _⟩
                  simp only [Act.put, List.setIfInBounds_toArray, List.set_cons_zero, List.set_cons_succ]
                  refine ⟨fun wv54 hov54 hSv54 => ?_, fun v54 => ?_⟩
                  · obtain rfl : v53 = .agg (x.addr.map V8).toArray := hSv54 53 (by decide) (by decide)
                    clear hSv54
                    have H := kp (H.out.keep [0, 1] (St := []) trivial hov54 (by decide) (by kernel_rfl))
                    have HOX := kp hov54
                    clear hov54
                    go_wp2_with fail
                    refine (HGX.out _).mono ?_
                    rintro e w2 ⟨rfl, hx⟩
                    have HXW := kp hx
                    clear hx
                    go_wp2_with fail
                    exact ⟨rfl, _, rfl, fun d hd => by cases hd; exact rfl, HXW.out⟩
                  simp only [Act.put, List.setIfInBounds_toArray, List.set_cons_zero, List.set_cons_succ]
                  refine ⟨fun wv55 hov55 hSv55 => ?_, fun v55 => ?_⟩
                  · obtain rfl : v54 = .bool false := hSv55 54 (by decide) (by decide)
                    clear hSv55
                    clear hov55
                    go_wp2_with fail
                    exact ⟨rfl, _, rfl, fun d hd => by cases hd; exact rfl, Ext.refl _⟩
                  simp only [Act.put, List.setIfInBounds_toArray, List.set_cons_zero, List.set_cons_succ]
                  refine ⟨fun wv56 hov56 hSv56 => ?_, fun v56 => ?_⟩
                  · obtain rfl : v55 = .bool false := hSv56 55 (by decide) (by decide)
                    clear hSv56
                    clear hov56
                    go_wp2_with fail
                    exact ⟨rfl, _, rfl, fun d hd => by cases hd; exact rfl, Ext.refl _⟩
                  simp only [Act.put, List.setIfInBounds_toArray, List.set_cons_zero, List.set_cons_succ]
                  refine ⟨fun wv57 hov57 hSv57 => ?_, fun v57 => ?_⟩
                  · obtain rfl : v55 = .bool false := hSv57 55 (by decide) (by decide)
                    obtain rfl : v56 = .pointer (some ⟨g4, 0, none⟩) := hSv57 56 (by decide) (by decide)
                    clear hSv57
                    have H := kp (H.out.keep [0, 1] (St := []) trivial hov57 (by decide) (by kernel_rfl))
                    have HOX := kp hov57
                    clear hov57
                    go_wp2_with ((with_reducible show wpList _ _ _ (Oper.mk _ (Op.load 23 _) _ _ _ _ :: _) _ _); refine L_subG H (by kernel_rfl) 23 _ rfl 0 rfl (0) rfl (x.addr.map V8) (HPX.out) Try.underlying23 rfl (HZX6.out) ?_; simp only [Act.put, List.setIfInBounds_toArray, List.set_cons_zero, List.set_cons_succ])
                    exact ⟨rfl, _, rfl, fun d hd => by cases hd; exact rfl, Ext.refl _⟩
                  simp only [Act.put, List.setIfInBounds_toArray, List.set_cons_zero, List.set_cons_succ]
                  refine ⟨fun wv58 hov58 hSv58 => ?_, fun v58 => ?_⟩
                  · obtain rfl : v55 = .bool false := hSv58 55 (by decide) (by decide)
                    clear hSv58
                    clear hov58
                    go_wp2_with fail
                    exact ⟨rfl, _, rfl, fun d hd => by cases hd; exact rfl, Ext.refl _⟩
                  simp only [Act.put, List.setIfInBounds_toArray, List.set_cons_zero, List.set_cons_succ]
                  refine ⟨fun wv59 hov59 hSv59 => ?_, fun v59 => ?_⟩
                  · obtain rfl : v55 = .bool false := hSv59 55 (by decide) (by decide)
                    obtain rfl : v58 = .pointer (some ⟨g1, 0, none⟩) := hSv59 58 (by decide) (by decide)
                    clear hSv59
                    have H := kp (H.out.keep [0, 1] (St := []) trivial hov59 (by decide) (by kernel_rfl))
                    have HOX := kp hov59
                    clear hov59
                    go_wp2_with ((with_reducible show wpList _ _ _ (Oper.mk _ (Op.load 23 _) _ _ _ _ :: _) _ _); refine L_subG H (by kernel_rfl) 23 _ rfl 1 rfl (0) rfl (a.own.map V8) (HOW.out) Try.underlying23 rfl (HZO6.out) ?_; simp only [Act.put, List.setIfInBounds_toArray, List.set_cons_zero, List.set_cons_succ])
                    exact ⟨rfl, _, rfl, fun d hd => by cases hd; exact rfl, Ext.refl _⟩
                  simp only [Act.put, List.setIfInBounds_toArray, List.set_cons_zero, List.set_cons_succ]
                  refine ⟨fun wv60 hov60 hSv60 => ?_, fun v60 => ?_⟩
                  · obtain rfl : v55 = .bool false := hSv60 55 (by decide) (by decide)
                    obtain rfl : v57 = .agg (x.addr.map V8).toArray := hSv60 57 (by decide) (by decide)
                    obtain rfl : v59 = .agg (a.own.map V8).toArray := hSv60 59 (by decide) (by decide)
                    clear hSv60
                    clear hov60
                    go_wp2_with fail
                    exact ⟨rfl, _, rfl, fun d hd => by cases hd; exact rfl, Ext.refl _⟩
                  simp only [Act.put, List.setIfInBounds_toArray, List.set_cons_zero, List.set_cons_succ]
                  refine ⟨fun wv61 hov61 hSv61 => ?_, fun v61 => ?_⟩
                  · obtain rfl : v55 = .bool false := hSv61 55 (by decide) (by decide)
                    obtain rfl : v60 = .bool false := hSv61 60 (by decide) (by decide)
                    clear hSv61
                    clear hov61
                    go_wp2_with fail
                    exact ⟨rfl, _, rfl, fun d hd => by cases hd; exact rfl, Ext.refl _⟩
                  simp only [Act.put, List.setIfInBounds_toArray, List.set_cons_zero, List.set_cons_succ]
                  refine ⟨fun wv62 hov62 hSv62 => ?_, fun v62 => ?_⟩
                  · obtain rfl : v61 = .bool false := hSv62 61 (by decide) (by decide)
                    clear hSv62
                    clear hov62
                    go_wp2_with fail
                    exact ⟨rfl, _, rfl, fun d hd => by cases hd; exact rfl, Ext.refl _⟩
                  simp only [Act.put, List.setIfInBounds_toArray, List.set_cons_zero, List.set_cons_succ]
                  refine ⟨fun wv63 hov63 hSv63 => ?_, fun v63 => ?_⟩
                  · obtain rfl : v62 = .bool false := hSv63 62 (by decide) (by decide)
                    clear hSv63
                    clear hov63
                    go_wp2_with fail
                    exact ⟨rfl, _, rfl, fun d hd => by cases hd; exact rfl, Ext.refl _⟩
                  simp only [Act.put, List.setIfInBounds_toArray, List.set_cons_zero, List.set_cons_succ]
                  refine ⟨fun wv64 hov64 hSv64 => ?_, fun v64 => ?_⟩
                  · obtain rfl : v62 = .bool false := hSv64 62 (by decide) (by decide)
                    obtain rfl : v63 = .pointer (some ⟨g4, 10, none⟩) := hSv64 63 (by decide) (by decide)
                    clear hSv64
                    have H := kp (H.out.keep [0, 1] (St := []) trivial hov64 (by decide) (by kernel_rfl))
                    have HOX := kp hov64
                    clear hov64
                    have hc := run_load_cell H.out 0 rfl _ _ H10.out
                    go_wp2_with fail
                    exact ⟨rfl, _, rfl, fun d hd => by cases hd; exact rfl, Ext.refl _⟩
                  simp only [Act.put, List.setIfInBounds_toArray, List.set_cons_zero, List.set_cons_succ]
                  refine ⟨fun wv65 hov65 hSv65 => ?_, fun v65 => ?_⟩
                  · obtain rfl : v62 = .bool false := hSv65 62 (by decide) (by decide)
                    obtain rfl : v64 = .int .i64 x.seen := hSv65 64 (by decide) (by decide)
                    clear hSv65
                    have H := kp (H.out.keep [0, 1] (St := []) trivial hov65 (by decide) (by kernel_rfl))
                    have HOX := kp hov65
                    clear hov65
                    go_wp2_with fail
                    refine (HSE.out _).mono ?_
                    rintro e w2 ⟨rfl, hx⟩
                    have HXW := kp hx
                    clear hx
                    go_wp2_with fail
                    exact ⟨rfl, _, rfl, fun d hd => by cases hd; exact rfl, HXW.out⟩
                  simp only [Act.put, List.setIfInBounds_toArray, List.set_cons_zero, List.set_cons_succ]
                  refine ⟨fun wv66 hov66 hSv66 => ?_, fun v66 => ?_⟩
                  · obtain rfl : v62 = .bool false := hSv66 62 (by decide) (by decide)
                    obtain rfl : v65 = .bool true := hSv66 65 (by decide) (by decide)
                    clear hSv66
                    clear hov66
                    go_wp2_with fail
                    exact ⟨rfl, _, rfl, fun d hd => by cases hd; exact rfl, Ext.refl _⟩
                  simp only [Act.put, List.setIfInBounds_toArray, List.set_cons_zero, List.set_cons_succ]
                  refine ⟨fun wv67 hov67 hSv67 => ?_, fun v67 => ?_⟩
                  · obtain rfl : v62 = .bool false := hSv67 62 (by decide) (by decide)
                    obtain rfl : v66 = .bool false := hSv67 66 (by decide) (by decide)
                    clear hSv67
                    clear hov67
                    go_wp2_with fail
                    exact ⟨rfl, _, rfl, fun d hd => by cases hd; exact rfl, Ext.refl _⟩
                  simp only [Act.put, List.setIfInBounds_toArray, List.set_cons_zero, List.set_cons_succ]
                  refine ⟨fun wv68 hov68 hSv68 => ?_, fun v68 => ?_⟩
                  · obtain rfl : v67 = .bool false := hSv68 67 (by decide) (by decide)
                    clear hSv68
                    clear hov68
                    go_wp2_with fail
                    exact ⟨rfl, _, rfl, fun d hd => by cases hd; exact rfl, Ext.refl _⟩
                  simp only [Act.put, List.setIfInBounds_toArray, List.set_cons_zero, List.set_cons_succ]
                  refine ⟨fun wv69 hov69 hSv69 => ?_, fun v69 => ?_⟩
                  · obtain rfl : v68 = .bool false := hSv69 68 (by decide) (by decide)
                    clear hSv69
                    clear hov69
                    go_wp2_with fail
                    exact ⟨rfl, _, rfl, fun d hd => by cases hd; exact rfl, Ext.refl _⟩
                  simp only [Act.put, List.setIfInBounds_toArray, List.set_cons_zero, List.set_cons_succ]
                  refine ⟨fun wv70 hov70 hSv70 => ?_, fun v70 => ?_⟩
                  · obtain rfl : v68 = .bool false := hSv70 68 (by decide) (by decide)
                    obtain rfl : v69 = .int .i64 (0 : Nat) := hSv70 69 (by decide) (by decide)
                    clear hSv70
                    clear hov70
                    go_wp2_with fail
                    exact ⟨rfl, _, rfl, fun d hd => by cases hd; exact rfl, Ext.refl _⟩
                  simp only [Act.put, List.setIfInBounds_toArray, List.set_cons_zero, List.set_cons_succ]
                  refine ⟨fun wv71 hov71 hSv71 => ?_, fun v71 => ?_⟩
                  · obtain rfl : v68 = .bool false := hSv71 68 (by decide) (by decide)
                    obtain rfl : v70 = .bool false := hSv71 70 (by decide) (by decide)
                    clear hSv71
                    clear hov71
                    go_wp2_with fail
                    exact ⟨rfl, _, rfl, fun d hd => by cases hd; exact rfl, Ext.refl _⟩
                  simp only [Act.put, List.setIfInBounds_toArray, List.set_cons_zero, List.set_cons_succ]
                  refine ⟨fun wv72 hov72 hSv72 => ?_, fun v72 => ?_⟩
                  · obtain rfl : v71 = .bool false := hSv72 71 (by decide) (by decide)
                    clear hSv72
                    clear hov72
                    go_wp2_with fail
                    exact ⟨rfl, _, rfl, fun d hd => by cases hd; exact rfl, Ext.refl _⟩
                  simp only [Act.put, List.setIfInBounds_toArray, List.set_cons_zero, List.set_cons_succ]
                  refine ⟨fun wv73 hov73 hSv73 => ?_, fun v73 => ?_⟩
                  · obtain rfl : v71 = .bool false := hSv73 71 (by decide) (by decide)
                    clear hSv73
                    clear hov73
                    go_wp2_with fail
                    exact ⟨rfl, _, rfl, fun d hd => by cases hd; exact rfl, Ext.refl _⟩
                  simp only [Act.put, List.setIfInBounds_toArray, List.set_cons_zero, List.set_cons_succ]
                  refine ⟨fun wv74 hov74 hSv74 => ?_, fun v74 => ?_⟩
                  · obtain rfl : v71 = .bool false := hSv74 71 (by decide) (by decide)
                    clear hSv74
                    clear hov74
                    go_wp2_with fail
                    exact ⟨rfl, _, rfl, fun d hd => by cases hd; exact rfl, Ext.refl _⟩
                  simp only [Act.put, List.setIfInBounds_toArray, List.set_cons_zero, List.set_cons_succ]
                  refine ⟨fun wv75 hov75 hSv75 => ?_, fun v75 => ?_⟩
                  · obtain rfl : v71 = .bool false := hSv75 71 (by decide) (by decide)
                    clear hSv75
                    clear hov75
                    go_wp2_with fail
                    exact ⟨rfl, _, rfl, fun d hd => by cases hd; exact rfl, Ext.refl _⟩
                  simp only [Act.put, List.setIfInBounds_toArray, List.set_cons_zero, List.set_cons_succ]
                  refine ⟨fun wv76 hov76 hSv76 => ?_, fun v76 => ?_⟩
                  · obtain rfl : v71 = .bool false := hSv76 71 (by decide) (by decide)
                    clear hSv76
                    clear hov76
                    go_wp2_with fail
                    exact ⟨rfl, _, rfl, fun d hd => by cases hd; exact rfl, Ext.refl _⟩
                  simp only [Act.put, List.setIfInBounds_toArray, List.set_cons_zero, List.set_cons_succ]
                  refine ⟨fun wv77 hov77 hSv77 => ?_, fun v77 => ?_⟩
                  · obtain rfl : v71 = .bool false := hSv77 71 (by decide) (by decide)
                    clear hSv77
                    clear hov77
                    go_wp2_with fail
                    exact ⟨rfl, _, rfl, fun d hd => by cases hd; exact rfl, Ext.refl _⟩
                  simp only [Act.put, List.setIfInBounds_toArray, List.set_cons_zero, List.set_cons_succ]
                  refine ⟨fun wv78 hov78 hSv78 => ?_, fun v78 => ?_⟩
                  · obtain rfl : v71 = .bool false := hSv78 71 (by decide) (by decide)
                    clear hSv78
                    clear hov78
                    go_wp2_with fail
                    exact ⟨rfl, _, rfl, fun d hd => by cases hd; exact rfl, Ext.refl _⟩
                  simp only [Act.put, List.setIfInBounds_toArray, List.set_cons_zero, List.set_cons_succ]
                  refine ⟨fun wv79 hov79 hSv79 => ?_, fun v79 => ?_⟩
                  · obtain rfl : v71 = .bool false := hSv79 71 (by decide) (by decide)
                    clear hSv79
                    clear hov79
                    go_wp2_with fail
                    exact ⟨rfl, _, rfl, fun d hd => by cases hd; exact rfl, Ext.refl _⟩
                  simp only [Act.put, List.setIfInBounds_toArray, List.set_cons_zero, List.set_cons_succ]
                  refine ⟨fun wv80 hov80 hSv80 => ?_, fun v80 => ?_⟩
                  · obtain rfl : v71 = .bool false := hSv80 71 (by decide) (by decide)
                    clear hSv80
                    clear hov80
                    go_wp2_with fail
                    exact ⟨rfl, _, rfl, fun d hd => by cases hd; exact rfl, Ext.refl _⟩
                  simp only [Act.put, List.setIfInBounds_toArray, List.set_cons_zero, List.set_cons_succ]
                  refine ⟨fun wv81 hov81 hSv81 => ?_, fun v81 => ?_⟩
                  · obtain rfl : v71 = .bool false := hSv81 71 (by decide) (by decide)
                    clear hSv81
                    clear hov81
                    go_wp2_with fail
                    exact ⟨rfl, _, rfl, fun d hd => by cases hd; exact rfl, Ext.refl _⟩
                  simp only [Act.put, List.setIfInBounds_toArray, List.set_cons_zero, List.set_cons_succ]
                  refine ⟨fun wv82 hov82 hSv82 => ?_, fun v82 => ?_⟩
                  · obtain rfl : v71 = .bool false := hSv82 71 (by decide) (by decide)
                    clear hSv82
                    clear hov82
                    go_wp2_with fail
                    exact ⟨rfl, _, rfl, fun d hd => by cases hd; exact rfl, Ext.refl _⟩
                  simp only [Act.put, List.setIfInBounds_toArray, List.set_cons_zero, List.set_cons_succ]
                  refine ⟨fun wv83 hov83 hSv83 => ?_, fun v83 => ?_⟩
                  · obtain rfl : v68 = .bool false := hSv83 68 (by decide) (by decide)
                    obtain rfl : v71 = .bool false := hSv83 71 (by decide) (by decide)
                    obtain rfl : v82 = undef := hSv83 82 (by decide) (by decide)
                    clear hSv83
                    clear hov83
                    go_wp2_with fail
                    exact ⟨rfl, _, rfl, fun d hd => by cases hd; exact rfl, Ext.refl _⟩
                  simp only [Act.put, List.setIfInBounds_toArray, List.set_cons_zero, List.set_cons_succ]
                  refine ⟨fun wv84 hov84 hSv84 => ?_, fun v84 => ?_⟩
                  · obtain rfl : v68 = .bool false := hSv84 68 (by decide) (by decide)
                    obtain rfl : v83 = .bool false := hSv84 83 (by decide) (by decide)
                    clear hSv84
                    clear hov84
                    go_wp2_with fail
                    exact ⟨rfl, _, rfl, fun d hd => by cases hd; exact rfl, Ext.refl _⟩
                  simp only [Act.put, List.setIfInBounds_toArray, List.set_cons_zero, List.set_cons_succ]
                  clear H
                  intro w7 HOX H hfin
                  obtain rfl : v52 = .pointer (some ⟨g4, 0, none⟩) := hfin 52 (by decide)
                  obtain rfl : v53 = .agg (x.addr.map V8).toArray := hfin 53 (by decide)
                  obtain rfl : v54 = .bool false := hfin 54 (by decide)
                  obtain rfl : v55 = .bool false := hfin 55 (by decide)
                  obtain rfl : v56 = .pointer (some ⟨g4, 0, none⟩) := hfin 56 (by decide)
                  obtain rfl : v57 = .agg (x.addr.map V8).toArray := hfin 57 (by decide)
                  obtain rfl : v58 = .pointer (some ⟨g1, 0, none⟩) := hfin 58 (by decide)
                  obtain rfl : v59 = .agg (a.own.map V8).toArray := hfin 59 (by decide)
                  obtain rfl : v60 = .bool false := hfin 60 (by decide)
                  obtain rfl : v61 = .bool false := hfin 61 (by decide)
                  obtain rfl : v62 = .bool false := hfin 62 (by decide)
                  obtain rfl : v63 = .pointer (some ⟨g4, 10, none⟩) := hfin 63 (by decide)
                  obtain rfl : v64 = .int .i64 x.seen := hfin 64 (by decide)
                  obtain rfl : v65 = .bool true := hfin 65 (by decide)
                  obtain rfl : v66 = .bool false := hfin 66 (by decide)
                  obtain rfl : v67 = .bool false := hfin 67 (by decide)
                  obtain rfl : v68 = .bool false := hfin 68 (by decide)
                  obtain rfl : v69 = .int .i64 (0 : Nat) := hfin 69 (by decide)
                  obtain rfl : v70 = .bool false := hfin 70 (by decide)
                  obtain rfl : v71 = .bool false := hfin 71 (by decide)
                  obtain rfl : v72 = undef := hfin 72 (by decide)
                  obtain rfl : v73 = undef := hfin 73 (by decide)
                  obtain rfl : v74 = undef := hfin 74 (by decide)
                  obtain rfl : v75 = undef := hfin 75 (by decide)
                  obtain rfl : v76 = undef := hfin 76 (by decide)
                  obtain rfl : v77 = undef := hfin 77 (by decide)
                  obtain rfl : v78 = undef := hfin 78 (by decide)
                  obtain rfl : v79 = undef := hfin 79 (by decide)
                  obtain rfl : v80 = undef := hfin 80 (by decide)
                  obtain rfl : v81 = undef := hfin 81 (by decide)
                  obtain rfl : v82 = undef := hfin 82 (by decide)
                  obtain rfl : v83 = .bool false := hfin 83 (by decide)
                  obtain rfl : v84 = .bool false := hfin 84 (by decide)
                  clear hfin
                  simp only [List.drop_succ_cons, List.drop_zero]
                  simp only [applyS] at H
                  have HXN := kp (HOX.out.ext (Ext.refl w6) (fun g hg => by cases hg))
                  go_wp2_with fail
                  exact CutP.of rfl (by kernel_rfl) ⟨H, congrArg Value.bool (by rfl)⟩
                · obtain ⟨k, rfl⟩ : ∃ k, j = k + 1 := ⟨j - 1, by omega⟩
                  obtain ⟨y, hy⟩ : ∃ y, l[k]? = some y := ⟨l[k]'(by have := HJL.out; omega), by simp⟩
                  obtain ⟨b', off', hbb, hb', hr'⟩ := HAT.out k y hy
                  cases hbb
                  have HRY := kp (show w.rangeAt b (off + k * 11) (y.addr.map V8) from fun i v hv => hr' i v (by
                    have h6 := HLK.out y (List.mem_of_getElem? hy)
                    rw [cellsE, List.getElem?_append_left (by rw [List.length_map, h6]; have := (List.getElem?_eq_some_iff.1 hv).1; rw [List.length_map, h6] at this; exact this)]
                    exact hv))
                  have HYK := kp (HLK.out y (List.mem_of_getElem? hy))
                  have HZY6 := kp (sizeA8 HYK.out)
                  have HCM := kp (compare2_any y.addr x.addr HYK.out HXK.out)
                  have HORD := kp (show ordAt l (k + 1) = decide (numF y.addr < numF x.addr) by
                    rw [ordAt, enAt_some HX.out, show k + 1 - 1 = k from rfl, enAt_some hy]; rfl)
                  clear hy hb' hr' hj0
                  cases hq : decide (0 ≤ cmpF y.addr x.addr) with
                  | true =>
                    have HQ := kp hq
                    have HO2 := kp (show ordAt l (k + 1) = false by
                      rw [HORD.out]; exact decide_eq_false (by have := cmp_ge.1 (of_decide_eq_true hq); omega))
                    clear hq
                    refine region_free H (tabS [(52, fun zv _ => zv = .pointer (some ⟨g4, 0, none⟩)), (53, fun zv _ => zv = .agg (x.addr.map V8).toArray), (54, fun zv _ => zv = .bool false), (55, fun zv _ => zv = .bool false), (56, fun zv _ => zv = .pointer (some ⟨g4, 0, none⟩)), (57, fun zv _ => zv = .agg (x.addr.map V8).toArray), (58, fun zv _ => zv = .pointer (some ⟨g1, 0, none⟩)), (59, fun zv _ => zv = .agg (a.own.map V8).toArray), (60, fun zv _ => zv = .bool false), (61, fun zv _ => zv = .bool false), (62, fun zv _ => zv = .bool false), (63, fun zv _ => zv = .pointer (some ⟨g4, 10, none⟩)), (64, fun zv _ => zv = .int .i64 x.seen), (65, fun zv _ => zv = .bool true), (66, fun zv _ => zv = .bool false), (67, fun zv _ => zv = .bool false), (68, fun zv _ => zv = .bool false), (69, fun zv _ => zv = .int .i64 (k + 1 : Nat)), (70, fun zv _ => zv = .bool true), (71, fun zv _ => zv = .bool true), (72, fun zv _ => zv = .pointer (some ⟨g1, 9, none⟩)), (73, fun zv _ => zv = .slice (some ⟨b, off, none⟩) n c), (74, fun zv _ => zv = .int .i64 (k + 1 : Nat)), (75, fun zv _ => zv = .int .i64 k), (76, fun zv _ => zv = .pointer (some ⟨b, off + k * 11, none⟩)), (77, fun zv _ => zv = .pointer (some ⟨b, off + k * 11, none⟩)), (78, fun zv _ => zv = .agg (y.addr.map V8).toArray), (79, fun zv _ => zv = .pointer (some ⟨g4, 0, none⟩)), (80, fun zv _ => zv = .agg (x.addr.map V8).toArray), (81, fun zv _ => zv = .int .i64 (cmpF y.addr x.addr)), (82, fun zv _ => zv = .bool true), (83, fun zv _ => zv = .bool true), (84, fun zv _ => zv = .bool true)]) [] (tabS_out _ _ (by simp only [List.forall_mem_cons]; exact ⟨mono_eqO _ _, mono_eqO _ _, mono_eqO _ _, mono_eqO _ _, mono_eqO _ _, mono_eqO _ _, mono_eqO _ _, mono_eqO _ _, mono_eqO _ _, mono_eqO _ _, mono_eqO _ _, mono_eqO _ _, mono_eqO _ _, mono_eqO _ _, mono_eqO _ _, mono_eqO _ _, mono_eqO _ _, mono_eqO _ _, mono_eqO _ _, mono_eqO _ _, mono_eqO _ _, mono_eqO _ _, mono_eqO _ _, mono_eqO _ _, mono_eqO _ _, mono_eqO _ _, mono_eqO _ _, mono_eqO _ _, mono_eqO _ _, mono_eqO _ _, mono_eqO _ _, mono_eqO _ _, mono_eqO _ _, by simp⟩)) 33 (by kernel_rfl) (by kernel_rfl) (by kernel_rfl) (by kernel_rfl) [] [] rfl rfl (by decide) (by decide) (by decide) trivial ?_
                    simp only [List.take_succ_cons, List.take_zero]
                    refine ⟨fun wv52 hov52 hSv52 => ?_, fun v52 => ?_⟩
                    · clear hSv52
                      clear hov52
                      go_wp2_with fail
                      exact ⟨rfl, _, rfl, fun d hd => by cases hd; exact rfl, Ext.refl _⟩
                    simp only [Act.put, List.setIfInBounds_toArray, List.set_cons_zero, List.set_cons_succ]
                    refine ⟨fun wv53 hov53 hSv53 => ?_, fun v53 => ?_⟩
                    · obtain rfl : v52 = .pointer (some ⟨g4, 0, none⟩) := hSv53 52 (by decide) (by decide)
                      clear hSv53
                      have H := kp (H.out.keep [0, 1] (St := []) trivial hov53 (by decide) (by kernel_rfl))
                      have HOX := kp hov53
                      clear hov53
                      go_wp2_with ((with_reducible show wpList _ _ _ (Oper.mk _ (Op.load 23 _) _ _ _ _ :: _) _ _); refine L_subG H (by kernel_rfl) 23 _ rfl 0 rfl (0) rfl (x.addr.map V8) (HPX.out) Try.underlying23 rfl (HZX6.out) ?_; simp only [Act.put, List.setIfInBounds_toArray, List.set_cons_zero, List.set_cons_succ])
                      exact ⟨rfl, _, rfl, fun d hd => by cases hd; exact rfl, Ext.refl _⟩
                    simp only [Act.put, List.setIfInBounds_toArray, List.set_cons_zero, List.set_cons_succ]
                    refine ⟨fun wv54 hov54 hSv54 => ?_, fun v54 => ?_⟩
                    · obtain rfl : v53 = .agg (x.addr.map V8).toArray := hSv54 53 (by decide) (by decide)
                      clear hSv54
                      have H := kp (H.out.keep [0, 1] (St := []) trivial hov54 (by decide) (by kernel_rfl))
                      have HOX := kp hov54
                      clear hov54
                      go_wp2_with fail
                      refine (HGX.out _).mono ?_
                      rintro e w2 ⟨rfl, hx⟩
                      have HXW := kp hx
                      clear hx
                      go_wp2_with fail
                      exact ⟨rfl, _, rfl, fun d hd => by cases hd; exact rfl, HXW.out⟩
                    simp only [Act.put, List.setIfInBounds_toArray, List.set_cons_zero, List.set_cons_succ]
                    refine ⟨fun wv55 hov55 hSv55 => ?_, fun v55 => ?_⟩
                    · obtain rfl : v54 = .bool false := hSv55 54 (by decide) (by decide)
                      clear hSv55
                      clear hov55
                      go_wp2_with fail
                      exact ⟨rfl, _, rfl, fun d hd => by cases hd; exact rfl, Ext.refl _⟩
                    simp only [Act.put, List.setIfInBounds_toArray, List.set_cons_zero, List.set_cons_succ]
                    refine ⟨fun wv56 hov56 hSv56 => ?_, fun v56 => ?_⟩
                    · obtain rfl : v55 = .bool false := hSv56 55 (by decide) (by decide)
                      clear hSv56
                      clear hov56
                      go_wp2_with fail
                      exact ⟨rfl, _, rfl, fun d hd => by cases hd; exact rfl, Ext.refl _⟩
                    simp only [Act.put, List.setIfInBounds_toArray, List.set_cons_zero, List.set_cons_succ]
                    refine ⟨fun wv57 hov57 hSv57 => ?_, fun v57 => ?_⟩
                    · obtain rfl : v55 = .bool false := hSv57 55 (by decide) (by decide)
                      obtain rfl : v56 = .pointer (some ⟨g4, 0, none⟩) := hSv57 56 (by decide) (by decide)
                      clear hSv57
                      have H := kp (H.out.keep [0, 1] (St := []) trivial hov57 (by decide) (by kernel_rfl))
                      have HOX := kp hov57
                      clear hov57
                      go_wp2_with ((with_reducible show wpList _ _ _ (Oper.mk _ (Op.load 23 _) _ _ _ _ :: _) _ _); refine L_subG H (by kernel_rfl) 23 _ rfl 0 rfl (0) rfl (x.addr.map V8) (HPX.out) Try.underlying23 rfl (HZX6.out) ?_; simp only [Act.put, List.setIfInBounds_toArray, List.set_cons_zero, List.set_cons_succ])
                      exact ⟨rfl, _, rfl, fun d hd => by cases hd; exact rfl, Ext.refl _⟩
                    simp only [Act.put, List.setIfInBounds_toArray, List.set_cons_zero, List.set_cons_succ]
                    refine ⟨fun wv58 hov58 hSv58 => ?_, fun v58 => ?_⟩
                    · obtain rfl : v55 = .bool false := hSv58 55 (by decide) (by decide)
                      clear hSv58
                      clear hov58
                      go_wp2_with fail
                      exact ⟨rfl, _, rfl, fun d hd => by cases hd; exact rfl, Ext.refl _⟩
                    simp only [Act.put, List.setIfInBounds_toArray, List.set_cons_zero, List.set_cons_succ]
                    refine ⟨fun wv59 hov59 hSv59 => ?_, fun v59 => ?_⟩
                    · obtain rfl : v55 = .bool false := hSv59 55 (by decide) (by decide)
                      obtain rfl : v58 = .pointer (some ⟨g1, 0, none⟩) := hSv59 58 (by decide) (by decide)
                      clear hSv59
                      have H := kp (H.out.keep [0, 1] (St := []) trivial hov59 (by decide) (by kernel_rfl))
                      have HOX := kp hov59
                      clear hov59
                      go_wp2_with ((with_reducible show wpList _ _ _ (Oper.mk _ (Op.load 23 _) _ _ _ _ :: _) _ _); refine L_subG H (by kernel_rfl) 23 _ rfl 1 rfl (0) rfl (a.own.map V8) (HOW.out) Try.underlying23 rfl (HZO6.out) ?_; simp only [Act.put, List.setIfInBounds_toArray, List.set_cons_zero, List.set_cons_succ])
                      exact ⟨rfl, _, rfl, fun d hd => by cases hd; exact rfl, Ext.refl _⟩
                    simp only [Act.put, List.setIfInBounds_toArray, List.set_cons_zero, List.set_cons_succ]
                    refine ⟨fun wv60 hov60 hSv60 => ?_, fun v60 => ?_⟩
                    · obtain rfl : v55 = .bool false := hSv60 55 (by decide) (by decide)
                      obtain rfl : v57 = .agg (x.addr.map V8).toArray := hSv60 57 (by decide) (by decide)
                      obtain rfl : v59 = .agg (a.own.map V8).toArray := hSv60 59 (by decide) (by decide)
                      clear hSv60
                      clear hov60
                      go_wp2_with fail
                      exact ⟨rfl, _, rfl, fun d hd => by cases hd; exact rfl, Ext.refl _⟩
                    simp only [Act.put, List.setIfInBounds_toArray, List.set_cons_zero, List.set_cons_succ]
                    refine ⟨fun wv61 hov61 hSv61 => ?_, fun v61 => ?_⟩
                    · obtain rfl : v55 = .bool false := hSv61 55 (by decide) (by decide)
                      obtain rfl : v60 = .bool false := hSv61 60 (by decide) (by decide)
                      clear hSv61
                      clear hov61
                      go_wp2_with fail
                      exact ⟨rfl, _, rfl, fun d hd => by cases hd; exact rfl, Ext.refl _⟩
                    simp only [Act.put, List.setIfInBounds_toArray, List.set_cons_zero, List.set_cons_succ]
                    refine ⟨fun wv62 hov62 hSv62 => ?_, fun v62 => ?_⟩
                    · obtain rfl : v61 = .bool false := hSv62 61 (by decide) (by decide)
                      clear hSv62
                      clear hov62
                      go_wp2_with fail
                      exact ⟨rfl, _, rfl, fun d hd => by cases hd; exact rfl, Ext.refl _⟩
                    simp only [Act.put, List.setIfInBounds_toArray, List.set_cons_zero, List.set_cons_succ]
                    refine ⟨fun wv63 hov63 hSv63 => ?_, fun v63 => ?_⟩
                    · obtain rfl : v62 = .bool false := hSv63 62 (by decide) (by decide)
                      clear hSv63
                      clear hov63
                      go_wp2_with fail
                      exact ⟨rfl, _, rfl, fun d hd => by cases hd; exact rfl, Ext.refl _⟩
                    simp only [Act.put, List.setIfInBounds_toArray, List.set_cons_zero, List.set_cons_succ]
                    refine ⟨fun wv64 hov64 hSv64 => ?_, fun v64 => ?_⟩
                    · obtain rfl : v62 = .bool false := hSv64 62 (by decide) (by decide)
                      obtain rfl : v63 = .pointer (some ⟨g4, 10, none⟩) := hSv64 63 (by decide) (by decide)
                      clear hSv64
                      have H := kp (H.out.keep [0, 1] (St := []) trivial hov64 (by decide) (by kernel_rfl))
                      have HOX := kp hov64
                      clear hov64
                      have hc := run_load_cell H.out 0 rfl _ _ H10.out
                      go_wp2_with fail
                      exact ⟨rfl, _, rfl, fun d hd => by cases hd; exact rfl, Ext.refl _⟩
                    simp only [Act.put, List.setIfInBounds_toArray, List.set_cons_zero, List.set_cons_succ]
                    refine ⟨fun wv65 hov65 hSv65 => ?_, fun v65 => ?_⟩
                    · obtain rfl : v62 = .bool false := hSv65 62 (by decide) (by decide)
                      obtain rfl : v64 = .int .i64 x.seen := hSv65 64 (by decide) (by decide)
                      clear hSv65
                      have H := kp (H.out.keep [0, 1] (St := []) trivial hov65 (by decide) (by kernel_rfl))
                      have HOX := kp hov65
                      clear hov65
                      go_wp2_with fail
                      refine (HSE.out _).mono ?_
                      rintro e w2 ⟨rfl, hx⟩
                      have HXW := kp hx
                      clear hx
                      go_wp2_with fail
                      exact ⟨rfl, _, rfl, fun d hd => by cases hd; exact rfl, HXW.out⟩
                    simp only [Act.put, List.setIfInBounds_toArray, List.set_cons_zero, List.set_cons_succ]
                    refine ⟨fun wv66 hov66 hSv66 => ?_, fun v66 => ?_⟩
                    · obtain rfl : v62 = .bool false := hSv66 62 (by decide) (by decide)
                      obtain rfl : v65 = .bool true := hSv66 65 (by decide) (by decide)
                      clear hSv66
                      clear hov66
                      go_wp2_with fail
                      exact ⟨rfl, _, rfl, fun d hd => by cases hd; exact rfl, Ext.refl _⟩
                    simp only [Act.put, List.setIfInBounds_toArray, List.set_cons_zero, List.set_cons_succ]
                    refine ⟨fun wv67 hov67 hSv67 => ?_, fun v67 => ?_⟩
                    · obtain rfl : v62 = .bool false := hSv67 62 (by decide) (by decide)
                      obtain rfl : v66 = .bool false := hSv67 66 (by decide) (by decide)
                      clear hSv67
                      clear hov67
                      go_wp2_with fail
                      exact ⟨rfl, _, rfl, fun d hd => by cases hd; exact rfl, Ext.refl _⟩
                    simp only [Act.put, List.setIfInBounds_toArray, List.set_cons_zero, List.set_cons_succ]
                    refine ⟨fun wv68 hov68 hSv68 => ?_, fun v68 => ?_⟩
                    · obtain rfl : v67 = .bool false := hSv68 67 (by decide) (by decide)
                      clear hSv68
                      clear hov68
                      go_wp2_with fail
                      exact ⟨rfl, _, rfl, fun d hd => by cases hd; exact rfl, Ext.refl _⟩
                    simp only [Act.put, List.setIfInBounds_toArray, List.set_cons_zero, List.set_cons_succ]
                    refine ⟨fun wv69 hov69 hSv69 => ?_, fun v69 => ?_⟩
                    · obtain rfl : v68 = .bool false := hSv69 68 (by decide) (by decide)
                      clear hSv69
                      clear hov69
                      go_wp2_with fail
                      exact ⟨rfl, _, rfl, fun d hd => by cases hd; exact rfl, Ext.refl _⟩
                    simp only [Act.put, List.setIfInBounds_toArray, List.set_cons_zero, List.set_cons_succ]
                    refine ⟨fun wv70 hov70 hSv70 => ?_, fun v70 => ?_⟩
                    · obtain rfl : v68 = .bool false := hSv70 68 (by decide) (by decide)
                      obtain rfl : v69 = .int .i64 (k + 1 : Nat) := hSv70 69 (by decide) (by decide)
                      clear hSv70
                      clear hov70
                      go_wp2_with fail
                      exact ⟨rfl, _, rfl, fun d hd => by cases hd; exact rfl, Ext.refl _⟩
                    simp only [Act.put, List.setIfInBounds_toArray, List.set_cons_zero, List.set_cons_succ]
                    refine ⟨fun wv71 hov71 hSv71 => ?_, fun v71 => ?_⟩
                    · obtain rfl : v68 = .bool false := hSv71 68 (by decide) (by decide)
                      obtain rfl : v70 = .bool true := hSv71 70 (by decide) (by decide)
                      clear hSv71
                      clear hov71
                      go_wp2_with fail
                      exact ⟨rfl, _, rfl, fun d hd => by cases hd; exact rfl, Ext.refl _⟩
                    simp only [Act.put, List.setIfInBounds_toArray, List.set_cons_zero, List.set_cons_succ]
                    refine ⟨fun wv72 hov72 hSv72 => ?_, fun v72 => ?_⟩
                    · obtain rfl : v71 = .bool true := hSv72 71 (by decide) (by decide)
                      clear hSv72
                      clear hov72
                      go_wp2_with fail
                      exact ⟨rfl, _, rfl, fun d hd => by cases hd; exact rfl, Ext.refl _⟩
                    simp only [Act.put, List.setIfInBounds_toArray, List.set_cons_zero, List.set_cons_succ]
                    refine ⟨fun wv73 hov73 hSv73 => ?_, fun v73 => ?_⟩
                    · obtain rfl : v71 = .bool true := hSv73 71 (by decide) (by decide)
                      obtain rfl : v72 = .pointer (some ⟨g1, 9, none⟩) := hSv73 72 (by decide) (by decide)
                      clear hSv73
                      have H := kp (H.out.keep [0, 1] (St := []) trivial hov73 (by decide) (by kernel_rfl))
                      have HOX := kp hov73
                      clear hov73
                      have hc := run_load_cell H.out 1 rfl _ _ HC9.out
                      go_wp2_with fail
                      exact ⟨rfl, _, rfl, fun d hd => by cases hd; exact rfl, Ext.refl _⟩
                    simp only [Act.put, List.setIfInBounds_toArray, List.set_cons_zero, List.set_cons_succ]
                    refine ⟨fun wv74 hov74 hSv74 => ?_, fun v74 => ?_⟩
                    · obtain rfl : v71 = .bool true := hSv74 71 (by decide) (by decide)
                      clear hSv74
                      clear hov74
                      go_wp2_with fail
                      exact ⟨rfl, _, rfl, fun d hd => by cases hd; exact rfl, Ext.refl _⟩
                    simp only [Act.put, List.setIfInBounds_toArray, List.set_cons_zero, List.set_cons_succ]
                    refine ⟨fun wv75 hov75 hSv75 => ?_, fun v75 => ?_⟩
                    · obtain rfl : v71 = .bool true := hSv75 71 (by decide) (by decide)
                      obtain rfl : v74 = .int .i64 (k + 1 : Nat) := hSv75 74 (by decide) (by decide)
                      clear hSv75
                      clear hov75
                      go_wp2_with fail
                      exact ⟨rfl, _, rfl, fun d hd => by cases hd; exact rfl, Ext.refl _⟩
                    simp only [Act.put, List.setIfInBounds_toArray, List.set_cons_zero, List.set_cons_succ]
                    refine ⟨fun wv76 hov76 hSv76 => ?_, fun v76 => ?_⟩
                    · obtain rfl : v71 = .bool true := hSv76 71 (by decide) (by decide)
                      obtain rfl : v73 = .slice (some ⟨b, off, none⟩) n c := hSv76 73 (by decide) (by decide)
                      obtain rfl : v75 = .int .i64 k := hSv76 75 (by decide) (by decide)
                      clear hSv76
                      clear hov76
                      go_wp2_with fail
                      exact ⟨rfl, _, rfl, fun d hd => by cases hd; exact rfl, Ext.refl _⟩
                    simp only [Act.put, List.setIfInBounds_toArray, List.set_cons_zero, List.set_cons_succ]
                    refine ⟨fun wv77 hov77 hSv77 => ?_, fun v77 => ?_⟩
                    · obtain rfl : v71 = .bool true := hSv77 71 (by decide) (by decide)
                      obtain rfl : v76 = .pointer (some ⟨b, off + k * 11, none⟩) := hSv77 76 (by decide) (by decide)
                      clear hSv77
                      clear hov77
                      go_wp2_with fail
                      exact ⟨rfl, _, rfl, fun d hd => by cases hd; exact rfl, Ext.refl _⟩
                    simp only [Act.put, List.setIfInBounds_toArray, List.set_cons_zero, List.set_cons_succ]
                    refine ⟨fun wv78 hov78 hSv78 => ?_, fun v78 => ?_⟩
                    · obtain rfl : v71 = .bool true := hSv78 71 (by decide) (by decide)
                      obtain rfl : v77 = .pointer (some ⟨b, off + k * 11, none⟩) := hSv78 77 (by decide) (by decide)
                      clear hSv78
                      have H := kp (H.out.keep [0, 1] (St := []) trivial hov78 (by decide) (by kernel_rfl))
                      have HOX := kp hov78
                      clear hov78
                      go_wp2_with ((with_reducible show wpList _ _ _ (Oper.mk _ (Op.load 23 _) _ _ _ _ :: _) _ _); (refine wpList_load_midG (by kernel_rfl) 23 _ rfl (b) (off + k * 11) rfl (y.addr.map V8) _ ((rangeAt_ext HRY.out HB.out H.out.1)) Try.underlying23 rfl (HZY6.out) ?_); simp only [Act.put, List.setIfInBounds_toArray, List.set_cons_zero, List.set_cons_succ])
                      exact ⟨rfl, _, rfl, fun d hd => by cases hd; exact rfl, Ext.refl _⟩
                    simp only [Act.put, List.setIfInBounds_toArray, List.set_cons_zero, List.set_cons_succ]
                    refine ⟨fun wv79 hov79 hSv79 => ?_, fun v79 => ?_⟩
                    · obtain rfl : v71 = .bool true := hSv79 71 (by decide) (by decide)
                      clear hSv79
                      clear hov79
                      go_wp2_with fail
                      exact ⟨rfl, _, rfl, fun d hd => by cases hd; exact rfl, Ext.refl _⟩
                    simp only [Act.put, List.setIfInBounds_toArray, List.set_cons_zero, List.set_cons_succ]
                    refine ⟨fun wv80 hov80 hSv80 => ?_, fun v80 => ?_⟩
                    · obtain rfl : v71 = .bool true := hSv80 71 (by decide) (by decide)
                      obtain rfl : v79 = .pointer (some ⟨g4, 0, none⟩) := hSv80 79 (by decide) (by decide)
                      clear hSv80
                      have H := kp (H.out.keep [0, 1] (St := []) trivial hov80 (by decide) (by kernel_rfl))
                      have HOX := kp hov80
                      clear hov80
                      go_wp2_with ((with_reducible show wpList _ _ _ (Oper.mk _ (Op.load 23 _) _ _ _ _ :: _) _ _); refine L_subG H (by kernel_rfl) 23 _ rfl 0 rfl (0) rfl (x.addr.map V8) (HPX.out) Try.underlying23 rfl (HZX6.out) ?_; simp only [Act.put, List.setIfInBounds_toArray, List.set_cons_zero, List.set_cons_succ])
                      exact ⟨rfl, _, rfl, fun d hd => by cases hd; exact rfl, Ext.refl _⟩
                    simp only [Act.put, List.setIfInBounds_toArray, List.set_cons_zero, List.set_cons_succ]
                    refine ⟨fun wv81 hov81 hSv81 => ?_, fun v81 => ?_⟩
                    · obtain rfl : v71 = .bool true := hSv81 71 (by decide) (by decide)
                      obtain rfl : v78 = .agg (y.addr.map V8).toArray := hSv81 78 (by decide) (by decide)
                      obtain rfl : v80 = .agg (x.addr.map V8).toArray := hSv81 80 (by decide) (by decide)
                      clear hSv81
                      have H := kp (H.out.keep [0, 1] (St := []) trivial hov81 (by decide) (by kernel_rfl))
                      have HOX := kp hov81
                      clear hov81
                      go_wp2_with fail
                      refine (HCM.out _).mono ?_
                      rintro e w2 ⟨rfl, hx⟩
                      have HXW := kp hx
                      clear hx
                      go_wp2_with fail
                      exact ⟨rfl, _, rfl, fun d hd => by cases hd; exact rfl, HXW.out⟩
                    simp only [Act.put, List.setIfInBounds_toArray, List.set_cons_zero, List.set_cons_succ]
                    refine ⟨fun wv82 hov82 hSv82 => ?_, fun v82 => ?_⟩
                    · obtain rfl : v71 = .bool true := hSv82 71 (by decide) (by decide)
                      obtain rfl : v81 = .int .i64 (cmpF y.addr x.addr) := hSv82 81 (by decide) (by decide)
                      clear hSv82
                      clear hov82
                      go_wp2_with fail
                      exact ⟨rfl, _, rfl, fun d hd => by cases hd; exact (congrArg Value.bool HQ.out), Ext.refl _⟩
                    simp only [Act.put, List.setIfInBounds_toArray, List.set_cons_zero, List.set_cons_succ]
                    refine ⟨fun wv83 hov83 hSv83 => ?_, fun v83 => ?_⟩
                    · obtain rfl : v68 = .bool false := hSv83 68 (by decide) (by decide)
                      obtain rfl : v71 = .bool true := hSv83 71 (by decide) (by decide)
                      obtain rfl : v82 = .bool true := hSv83 82 (by decide) (by decide)
                      clear hSv83
                      clear hov83
                      go_wp2_with fail
                      exact ⟨rfl, _, rfl, fun d hd => by cases hd; exact rfl, Ext.refl _⟩
                    simp only [Act.put, List.setIfInBounds_toArray, List.set_cons_zero, List.set_cons_succ]
                    refine ⟨fun wv84 hov84 hSv84 => ?_, fun v84 => ?_⟩
                    · obtain rfl : v68 = .bool false := hSv84 68 (by decide) (by decide)
                      obtain rfl : v83 = .bool true := hSv84 83 (by decide) (by decide)
                      clear hSv84
                      clear hov84
                      go_wp2_with fail
                      exact ⟨rfl, _, rfl, fun d hd => by cases hd; exact rfl, Ext.refl _⟩
                    simp only [Act.put, List.setIfInBounds_toArray, List.set_cons_zero, List.set_cons_succ]
                    clear H
                    intro w7 HOX H hfin
                    obtain rfl : v52 = .pointer (some ⟨g4, 0, none⟩) := hfin 52 (by decide)
                    obtain rfl : v53 = .agg (x.addr.map V8).toArray := hfin 53 (by decide)
                    obtain rfl : v54 = .bool false := hfin 54 (by decide)
                    obtain rfl : v55 = .bool false := hfin 55 (by decide)
                    obtain rfl : v56 = .pointer (some ⟨g4, 0, none⟩) := hfin 56 (by decide)
                    obtain rfl : v57 = .agg (x.addr.map V8).toArray := hfin 57 (by decide)
                    obtain rfl : v58 = .pointer (some ⟨g1, 0, none⟩) := hfin 58 (by decide)
                    obtain rfl : v59 = .agg (a.own.map V8).toArray := hfin 59 (by decide)
                    obtain rfl : v60 = .bool false := hfin 60 (by decide)
                    obtain rfl : v61 = .bool false := hfin 61 (by decide)
                    obtain rfl : v62 = .bool false := hfin 62 (by decide)
                    obtain rfl : v63 = .pointer (some ⟨g4, 10, none⟩) := hfin 63 (by decide)
                    obtain rfl : v64 = .int .i64 x.seen := hfin 64 (by decide)
                    obtain rfl : v65 = .bool true := hfin 65 (by decide)
                    obtain rfl : v66 = .bool false := hfin 66 (by decide)
                    obtain rfl : v67 = .bool false := hfin 67 (by decide)
                    obtain rfl : v68 = .bool false := hfin 68 (by decide)
                    obtain rfl : v69 = .int .i64 (k + 1 : Nat) := hfin 69 (by decide)
                    obtain rfl : v70 = .bool true := hfin 70 (by decide)
                    obtain rfl : v71 = .bool true := hfin 71 (by decide)
                    obtain rfl : v72 = .pointer (some ⟨g1, 9, none⟩) := hfin 72 (by decide)
                    obtain rfl : v73 = .slice (some ⟨b, off, none⟩) n c := hfin 73 (by decide)
                    obtain rfl : v74 = .int .i64 (k + 1 : Nat) := hfin 74 (by decide)
                    obtain rfl : v75 = .int .i64 k := hfin 75 (by decide)
                    obtain rfl : v76 = .pointer (some ⟨b, off + k * 11, none⟩) := hfin 76 (by decide)
                    obtain rfl : v77 = .pointer (some ⟨b, off + k * 11, none⟩) := hfin 77 (by decide)
                    obtain rfl : v78 = .agg (y.addr.map V8).toArray := hfin 78 (by decide)
                    obtain rfl : v79 = .pointer (some ⟨g4, 0, none⟩) := hfin 79 (by decide)
                    obtain rfl : v80 = .agg (x.addr.map V8).toArray := hfin 80 (by decide)
                    obtain rfl : v81 = .int .i64 (cmpF y.addr x.addr) := hfin 81 (by decide)
                    obtain rfl : v82 = .bool true := hfin 82 (by decide)
                    obtain rfl : v83 = .bool true := hfin 83 (by decide)
                    obtain rfl : v84 = .bool true := hfin 84 (by decide)
                    clear hfin
                    simp only [List.drop_succ_cons, List.drop_zero]
                    simp only [applyS] at H
                    have HXN := kp (HOX.out.ext (Ext.refl w6) (fun g hg => by cases hg))
                    go_wp2_with fail
                    exact CutP.of rfl (by kernel_rfl) ⟨H, congrArg Value.bool (by rw [HO2.out]; rfl)⟩
                  | false =>
                    have HQ := kp hq
                    have HO2 := kp (show ordAt l (k + 1) = true by
                      rw [HORD.out]; exact decide_eq_true (by have := of_decide_eq_false hq; rw [cmp_ge] at this; omega))
                    clear hq
                    refine region_free H (tabS [(52, fun zv _ => zv = .pointer (some ⟨g4, 0, none⟩)), (53, fun zv _ => zv = .agg (x.addr.map V8).toArray), (54, fun zv _ => zv = .bool false), (55, fun zv _ => zv = .bool false), (56, fun zv _ => zv = .pointer (some ⟨g4, 0, none⟩)), (57, fun zv _ => zv = .agg (x.addr.map V8).toArray), (58, fun zv _ => zv = .pointer (some ⟨g1, 0, none⟩)), (59, fun zv _ => zv = .agg (a.own.map V8).toArray), (60, fun zv _ => zv = .bool false), (61, fun zv _ => zv = .bool false), (62, fun zv _ => zv = .bool false), (63, fun zv _ => zv = .pointer (some ⟨g4, 10, none⟩)), (64, fun zv _ => zv = .int .i64 x.seen), (65, fun zv _ => zv = .bool true), (66, fun zv _ => zv = .bool false), (67, fun zv _ => zv = .bool false), (68, fun zv _ => zv = .bool false), (69, fun zv _ => zv = .int .i64 (k + 1 : Nat)), (70, fun zv _ => zv = .bool true), (71, fun zv _ => zv = .bool true), (72, fun zv _ => zv = .pointer (some ⟨g1, 9, none⟩)), (73, fun zv _ => zv = .slice (some ⟨b, off, none⟩) n c), (74, fun zv _ => zv = .int .i64 (k + 1 : Nat)), (75, fun zv _ => zv = .int .i64 k), (76, fun zv _ => zv = .pointer (some ⟨b, off + k * 11, none⟩)), (77, fun zv _ => zv = .pointer (some ⟨b, off + k * 11, none⟩)), (78, fun zv _ => zv = .agg (y.addr.map V8).toArray), (79, fun zv _ => zv = .pointer (some ⟨g4, 0, none⟩)), (80, fun zv _ => zv = .agg (x.addr.map V8).toArray), (81, fun zv _ => zv = .int .i64 (cmpF y.addr x.addr)), (82, fun zv _ => zv = .bool false), (83, fun zv _ => zv = .bool false), (84, fun zv _ => zv = .bool false)]) [] (tabS_out _ _ (by simp only [List.forall_mem_cons]; exact ⟨mono_eqO _ _, mono_eqO _ _, mono_eqO _ _, mono_eqO _ _, mono_eqO _ _, mono_eqO _ _, mono_eqO _ _, mono_eqO _ _, mono_eqO _ _, mono_eqO _ _, mono_eqO _ _, mono_eqO _ _, mono_eqO _ _, mono_eqO _ _, mono_eqO _ _, mono_eqO _ _, mono_eqO _ _, mono_eqO _ _, mono_eqO _ _, mono_eqO _ _, mono_eqO _ _, mono_eqO _ _, mono_eqO _ _, mono_eqO _ _, mono_eqO _ _, mono_eqO _ _, mono_eqO _ _, mono_eqO _ _, mono_eqO _ _, mono_eqO _ _, mono_eqO _ _, mono_eqO _ _, mono_eqO _ _, by simp⟩)) 33 (by kernel_rfl) (by kernel_rfl) (by kernel_rfl) (by kernel_rfl) [] [] rfl rfl (by decide) (by decide) (by decide) trivial ?_
                    simp only [List.take_succ_cons, List.take_zero]
                    refine ⟨fun wv52 hov52 hSv52 => ?_, fun v52 => ?_⟩
                    · clear hSv52
                      clear hov52
                      go_wp2_with fail
                      exact ⟨rfl, _, rfl, fun d hd => by cases hd; exact rfl, Ext.refl _⟩
                    simp only [Act.put, List.setIfInBounds_toArray, List.set_cons_zero, List.set_cons_succ]
                    refine ⟨fun wv53 hov53 hSv53 => ?_, fun v53 => ?_⟩
                    · obtain rfl : v52 = .pointer (some ⟨g4, 0, none⟩) := hSv53 52 (by decide) (by decide)
                      clear hSv53
                      have H := kp (H.out.keep [0, 1] (St := []) trivial hov53 (by decide) (by kernel_rfl))
                      have HOX := kp hov53
                      clear hov53
                      go_wp2_with ((with_reducible show wpList _ _ _ (Oper.mk _ (Op.load 23 _) _ _ _ _ :: _) _ _); refine L_subG H (by kernel_rfl) 23 _ rfl 0 rfl (0) rfl (x.addr.map V8) (HPX.out) Try.underlying23 rfl (HZX6.out) ?_; simp only [Act.put, List.setIfInBounds_toArray, List.set_cons_zero, List.set_cons_succ])
                      exact ⟨rfl, _, rfl, fun d hd => by cases hd; exact rfl, Ext.refl _⟩
                    simp only [Act.put, List.setIfInBounds_toArray, List.set_cons_zero, List.set_cons_succ]
                    refine ⟨fun wv54 hov54 hSv54 => ?_, fun v54 => ?_⟩
                    · obtain rfl : v53 = .agg (x.addr.map V8).toArray := hSv54 53 (by decide) (by decide)
                      clear hSv54
                      have H := kp (H.out.keep [0, 1] (St := []) trivial hov54 (by decide) (by kernel_rfl))
                      have HOX := kp hov54
                      clear hov54
                      go_wp2_with fail
                      refine (HGX.out _).mono ?_
                      rintro e w2 ⟨rfl, hx⟩
                      have HXW := kp hx
                      clear hx
                      go_wp2_with fail
                      exact ⟨rfl, _, rfl, fun d hd => by cases hd; exact rfl, HXW.out⟩
                    simp only [Act.put, List.setIfInBounds_toArray, List.set_cons_zero, List.set_cons_succ]
                    refine ⟨fun wv55 hov55 hSv55 => ?_, fun v55 => ?_⟩
                    · obtain rfl : v54 = .bool false := hSv55 54 (by decide) (by decide)
                      clear hSv55
                      clear hov55
                      go_wp2_with fail
                      exact ⟨rfl, _, rfl, fun d hd => by cases hd; exact rfl, Ext.refl _⟩
                    simp only [Act.put, List.setIfInBounds_toArray, List.set_cons_zero, List.set_cons_succ]
                    refine ⟨fun wv56 hov56 hSv56 => ?_, fun v56 => ?_⟩
                    · obtain rfl : v55 = .bool false := hSv56 55 (by decide) (by decide)
                      clear hSv56
                      clear hov56
                      go_wp2_with fail
                      exact ⟨rfl, _, rfl, fun d hd => by cases hd; exact rfl, Ext.refl _⟩
                    simp only [Act.put, List.setIfInBounds_toArray, List.set_cons_zero, List.set_cons_succ]
                    refine ⟨fun wv57 hov57 hSv57 => ?_, fun v57 => ?_⟩
                    · obtain rfl : v55 = .bool false := hSv57 55 (by decide) (by decide)
                      obtain rfl : v56 = .pointer (some ⟨g4, 0, none⟩) := hSv57 56 (by decide) (by decide)
                      clear hSv57
                      have H := kp (H.out.keep [0, 1] (St := []) trivial hov57 (by decide) (by kernel_rfl))
                      have HOX := kp hov57
                      clear hov57
                      go_wp2_with ((with_reducible show wpList _ _ _ (Oper.mk _ (Op.load 23 _) _ _ _ _ :: _) _ _); refine L_subG H (by kernel_rfl) 23 _ rfl 0 rfl (0) rfl (x.addr.map V8) (HPX.out) Try.underlying23 rfl (HZX6.out) ?_; simp only [Act.put, List.setIfInBounds_toArray, List.set_cons_zero, List.set_cons_succ])
                      exact ⟨rfl, _, rfl, fun d hd => by cases hd; exact rfl, Ext.refl _⟩
                    simp only [Act.put, List.setIfInBounds_toArray, List.set_cons_zero, List.set_cons_succ]
                    refine ⟨fun wv58 hov58 hSv58 => ?_, fun v58 => ?_⟩
                    · obtain rfl : v55 = .bool false := hSv58 55 (by decide) (by decide)
                      clear hSv58
                      clear hov58
                      go_wp2_with fail
                      exact ⟨rfl, _, rfl, fun d hd => by cases hd; exact rfl, Ext.refl _⟩
                    simp only [Act.put, List.setIfInBounds_toArray, List.set_cons_zero, List.set_cons_succ]
                    refine ⟨fun wv59 hov59 hSv59 => ?_, fun v59 => ?_⟩
                    · obtain rfl : v55 = .bool false := hSv59 55 (by decide) (by decide)
                      obtain rfl : v58 = .pointer (some ⟨g1, 0, none⟩) := hSv59 58 (by decide) (by decide)
                      clear hSv59
                      have H := kp (H.out.keep [0, 1] (St := []) trivial hov59 (by decide) (by kernel_rfl))
                      have HOX := kp hov59
                      clear hov59
                      go_wp2_with ((with_reducible show wpList _ _ _ (Oper.mk _ (Op.load 23 _) _ _ _ _ :: _) _ _); refine L_subG H (by kernel_rfl) 23 _ rfl 1 rfl (0) rfl (a.own.map V8) (HOW.out) Try.underlying23 rfl (HZO6.out) ?_; simp only [Act.put, List.setIfInBounds_toArray, List.set_cons_zero, List.set_cons_succ])
                      exact ⟨rfl, _, rfl, fun d hd => by cases hd; exact rfl, Ext.refl _⟩
                    simp only [Act.put, List.setIfInBounds_toArray, List.set_cons_zero, List.set_cons_succ]
                    refine ⟨fun wv60 hov60 hSv60 => ?_, fun v60 => ?_⟩
                    · obtain rfl : v55 = .bool false := hSv60 55 (by decide) (by decide)
                      obtain rfl : v57 = .agg (x.addr.map V8).toArray := hSv60 57 (by decide) (by decide)
                      obtain rfl : v59 = .agg (a.own.map V8).toArray := hSv60 59 (by decide) (by decide)
                      clear hSv60
                      clear hov60
                      go_wp2_with fail
                      exact ⟨rfl, _, rfl, fun d hd => by cases hd; exact rfl, Ext.refl _⟩
                    simp only [Act.put, List.setIfInBounds_toArray, List.set_cons_zero, List.set_cons_succ]
                    refine ⟨fun wv61 hov61 hSv61 => ?_, fun v61 => ?_⟩
                    · obtain rfl : v55 = .bool false := hSv61 55 (by decide) (by decide)
                      obtain rfl : v60 = .bool false := hSv61 60 (by decide) (by decide)
                      clear hSv61
                      clear hov61
                      go_wp2_with fail
                      exact ⟨rfl, _, rfl, fun d hd => by cases hd; exact rfl, Ext.refl _⟩
                    simp only [Act.put, List.setIfInBounds_toArray, List.set_cons_zero, List.set_cons_succ]
                    refine ⟨fun wv62 hov62 hSv62 => ?_, fun v62 => ?_⟩
                    · obtain rfl : v61 = .bool false := hSv62 61 (by decide) (by decide)
                      clear hSv62
                      clear hov62
                      go_wp2_with fail
                      exact ⟨rfl, _, rfl, fun d hd => by cases hd; exact rfl, Ext.refl _⟩
                    simp only [Act.put, List.setIfInBounds_toArray, List.set_cons_zero, List.set_cons_succ]
                    refine ⟨fun wv63 hov63 hSv63 => ?_, fun v63 => ?_⟩
                    · obtain rfl : v62 = .bool false := hSv63 62 (by decide) (by decide)
                      clear hSv63
                      clear hov63
                      go_wp2_with fail
                      exact ⟨rfl, _, rfl, fun d hd => by cases hd; exact rfl, Ext.refl _⟩
                    simp only [Act.put, List.setIfInBounds_toArray, List.set_cons_zero, List.set_cons_succ]
                    refine ⟨fun wv64 hov64 hSv64 => ?_, fun v64 => ?_⟩
                    · obtain rfl : v62 = .bool false := hSv64 62 (by decide) (by decide)
                      obtain rfl : v63 = .pointer (some ⟨g4, 10, none⟩) := hSv64 63 (by decide) (by decide)
                      clear hSv64
                      have H := kp (H.out.keep [0, 1] (St := []) trivial hov64 (by decide) (by kernel_rfl))
                      have HOX := kp hov64
                      clear hov64
                      have hc := run_load_cell H.out 0 rfl _ _ H10.out
                      go_wp2_with fail
                      exact ⟨rfl, _, rfl, fun d hd => by cases hd; exact rfl, Ext.refl _⟩
                    simp only [Act.put, List.setIfInBounds_toArray, List.set_cons_zero, List.set_cons_succ]
                    refine ⟨fun wv65 hov65 hSv65 => ?_, fun v65 => ?_⟩
                    · obtain rfl : v62 = .bool false := hSv65 62 (by decide) (by decide)
                      obtain rfl : v64 = .int .i64 x.seen := hSv65 64 (by decide) (by decide)
                      clear hSv65
                      have H := kp (H.out.keep [0, 1] (St := []) trivial hov65 (by decide) (by kernel_rfl))
                      have HOX := kp hov65
                      clear hov65
                      go_wp2_with fail
                      refine (HSE.out _).mono ?_
                      rintro e w2 ⟨rfl, hx⟩
                      have HXW := kp hx
                      clear hx
                      go_wp2_with fail
                      exact ⟨rfl, _, rfl, fun d hd => by cases hd; exact rfl, HXW.out⟩
                    simp only [Act.put, List.setIfInBounds_toArray, List.set_cons_zero, List.set_cons_succ]
                    refine ⟨fun wv66 hov66 hSv66 => ?_, fun v66 => ?_⟩
                    · obtain rfl : v62 = .bool false := hSv66 62 (by decide) (by decide)
                      obtain rfl : v65 = .bool true := hSv66 65 (by decide) (by decide)
                      clear hSv66
                      clear hov66
                      go_wp2_with fail
                      exact ⟨rfl, _, rfl, fun d hd => by cases hd; exact rfl, Ext.refl _⟩
                    simp only [Act.put, List.setIfInBounds_toArray, List.set_cons_zero, List.set_cons_succ]
                    refine ⟨fun wv67 hov67 hSv67 => ?_, fun v67 => ?_⟩
                    · obtain rfl : v62 = .bool false := hSv67 62 (by decide) (by decide)
                      obtain rfl : v66 = .bool false := hSv67 66 (by decide) (by decide)
                      clear hSv67
                      clear hov67
                      go_wp2_with fail
                      exact ⟨rfl, _, rfl, fun d hd => by cases hd; exact rfl, Ext.refl _⟩
                    simp only [Act.put, List.setIfInBounds_toArray, List.set_cons_zero, List.set_cons_succ]
                    refine ⟨fun wv68 hov68 hSv68 => ?_, fun v68 => ?_⟩
                    · obtain rfl : v67 = .bool false := hSv68 67 (by decide) (by decide)
                      clear hSv68
                      clear hov68
                      go_wp2_with fail
                      exact ⟨rfl, _, rfl, fun d hd => by cases hd; exact rfl, Ext.refl _⟩
                    simp only [Act.put, List.setIfInBounds_toArray, List.set_cons_zero, List.set_cons_succ]
                    refine ⟨fun wv69 hov69 hSv69 => ?_, fun v69 => ?_⟩
                    · obtain rfl : v68 = .bool false := hSv69 68 (by decide) (by decide)
                      clear hSv69
                      clear hov69
                      go_wp2_with fail
                      exact ⟨rfl, _, rfl, fun d hd => by cases hd; exact rfl, Ext.refl _⟩
                    simp only [Act.put, List.setIfInBounds_toArray, List.set_cons_zero, List.set_cons_succ]
                    refine ⟨fun wv70 hov70 hSv70 => ?_, fun v70 => ?_⟩
                    · obtain rfl : v68 = .bool false := hSv70 68 (by decide) (by decide)
                      obtain rfl : v69 = .int .i64 (k + 1 : Nat) := hSv70 69 (by decide) (by decide)
                      clear hSv70
                      clear hov70
                      go_wp2_with fail
                      exact ⟨rfl, _, rfl, fun d hd => by cases hd; exact rfl, Ext.refl _⟩
                    simp only [Act.put, List.setIfInBounds_toArray, List.set_cons_zero, List.set_cons_succ]
                    refine ⟨fun wv71 hov71 hSv71 => ?_, fun v71 => ?_⟩
                    · obtain rfl : v68 = .bool false := hSv71 68 (by decide) (by decide)
                      obtain rfl : v70 = .bool true := hSv71 70 (by decide) (by decide)
                      clear hSv71
                      clear hov71
                      go_wp2_with fail
                      exact ⟨rfl, _, rfl, fun d hd => by cases hd; exact rfl, Ext.refl _⟩
                    simp only [Act.put, List.setIfInBounds_toArray, List.set_cons_zero, List.set_cons_succ]
                    refine ⟨fun wv72 hov72 hSv72 => ?_, fun v72 => ?_⟩
                    · obtain rfl : v71 = .bool true := hSv72 71 (by decide) (by decide)
                      clear hSv72
                      clear hov72
                      go_wp2_with fail
                      exact ⟨rfl, _, rfl, fun d hd => by cases hd; exact rfl, Ext.refl _⟩
                    simp only [Act.put, List.setIfInBounds_toArray, List.set_cons_zero, List.set_cons_succ]
                    refine ⟨fun wv73 hov73 hSv73 => ?_, fun v73 => ?_⟩
                    · obtain rfl : v71 = .bool true := hSv73 71 (by decide) (by decide)
                      obtain rfl : v72 = .pointer (some ⟨g1, 9, none⟩) := hSv73 72 (by decide) (by decide)
                      clear hSv73
                      have H := kp (H.out.keep [0, 1] (St := []) trivial hov73 (by decide) (by kernel_rfl))
                      have HOX := kp hov73
                      clear hov73
                      have hc := run_load_cell H.out 1 rfl _ _ HC9.out
                      go_wp2_with fail
                      exact ⟨rfl, _, rfl, fun d hd => by cases hd; exact rfl, Ext.refl _⟩
                    simp only [Act.put, List.setIfInBounds_toArray, List.set_cons_zero, List.set_cons_succ]
                    refine ⟨fun wv74 hov74 hSv74 => ?_, fun v74 => ?_⟩
                    · obtain rfl : v71 = .bool true := hSv74 71 (by decide) (by decide)
                      clear hSv74
                      clear hov74
                      go_wp2_with fail
                      exact ⟨rfl, _, rfl, fun d hd => by cases hd; exact rfl, Ext.refl _⟩
                    simp only [Act.put, List.setIfInBounds_toArray, List.set_cons_zero, List.set_cons_succ]
                    refine ⟨fun wv75 hov75 hSv75 => ?_, fun v75 => ?_⟩
                    · obtain rfl : v71 = .bool true := hSv75 71 (by decide) (by decide)
                      obtain rfl : v74 = .int .i64 (k + 1 : Nat) := hSv75 74 (by decide) (by decide)
                      clear hSv75
                      clear hov75
                      go_wp2_with fail
                      exact ⟨rfl, _, rfl, fun d hd => by cases hd; exact rfl, Ext.refl _⟩
                    simp only [Act.put, List.setIfInBounds_toArray, List.set_cons_zero, List.set_cons_succ]
                    refine ⟨fun wv76 hov76 hSv76 => ?_, fun v76 => ?_⟩
                    · obtain rfl : v71 = .bool true := hSv76 71 (by decide) (by decide)
                      obtain rfl : v73 = .slice (some ⟨b, off, none⟩) n c := hSv76 73 (by decide) (by decide)
                      obtain rfl : v75 = .int .i64 k := hSv76 75 (by decide) (by decide)
                      clear hSv76
                      clear hov76
                      go_wp2_with fail
                      exact ⟨rfl, _, rfl, fun d hd => by cases hd; exact rfl, Ext.refl _⟩
                    simp only [Act.put, List.setIfInBounds_toArray, List.set_cons_zero, List.set_cons_succ]
                    refine ⟨fun wv77 hov77 hSv77 => ?_, fun v77 => ?_⟩
                    · obtain rfl : v71 = .bool true := hSv77 71 (by decide) (by decide)
                      obtain rfl : v76 = .pointer (some ⟨b, off + k * 11, none⟩) := hSv77 76 (by decide) (by decide)
                      clear hSv77
                      clear hov77
                      go_wp2_with fail
                      exact ⟨rfl, _, rfl, fun d hd => by cases hd; exact rfl, Ext.refl _⟩
                    simp only [Act.put, List.setIfInBounds_toArray, List.set_cons_zero, List.set_cons_succ]
                    refine ⟨fun wv78 hov78 hSv78 => ?_, fun v78 => ?_⟩
                    · obtain rfl : v71 = .bool true := hSv78 71 (by decide) (by decide)
                      obtain rfl : v77 = .pointer (some ⟨b, off + k * 11, none⟩) := hSv78 77 (by decide) (by decide)
                      clear hSv78
                      have H := kp (H.out.keep [0, 1] (St := []) trivial hov78 (by decide) (by kernel_rfl))
                      have HOX := kp hov78
                      clear hov78
                      go_wp2_with ((with_reducible show wpList _ _ _ (Oper.mk _ (Op.load 23 _) _ _ _ _ :: _) _ _); (refine wpList_load_midG (by kernel_rfl) 23 _ rfl (b) (off + k * 11) rfl (y.addr.map V8) _ ((rangeAt_ext HRY.out HB.out H.out.1)) Try.underlying23 rfl (HZY6.out) ?_); simp only [Act.put, List.setIfInBounds_toArray, List.set_cons_zero, List.set_cons_succ])
                      exact ⟨rfl, _, rfl, fun d hd => by cases hd; exact rfl, Ext.refl _⟩
                    simp only [Act.put, List.setIfInBounds_toArray, List.set_cons_zero, List.set_cons_succ]
                    refine ⟨fun wv79 hov79 hSv79 => ?_, fun v79 => ?_⟩
                    · obtain rfl : v71 = .bool true := hSv79 71 (by decide) (by decide)
                      clear hSv79
                      clear hov79
                      go_wp2_with fail
                      exact ⟨rfl, _, rfl, fun d hd => by cases hd; exact rfl, Ext.refl _⟩
                    simp only [Act.put, List.setIfInBounds_toArray, List.set_cons_zero, List.set_cons_succ]
                    refine ⟨fun wv80 hov80 hSv80 => ?_, fun v80 => ?_⟩
                    · obtain rfl : v71 = .bool true := hSv80 71 (by decide) (by decide)
                      obtain rfl : v79 = .pointer (some ⟨g4, 0, none⟩) := hSv80 79 (by decide) (by decide)
                      clear hSv80
                      have H := kp (H.out.keep [0, 1] (St := []) trivial hov80 (by decide) (by kernel_rfl))
                      have HOX := kp hov80
                      clear hov80
                      go_wp2_with ((with_reducible show wpList _ _ _ (Oper.mk _ (Op.load 23 _) _ _ _ _ :: _) _ _); refine L_subG H (by kernel_rfl) 23 _ rfl 0 rfl (0) rfl (x.addr.map V8) (HPX.out) Try.underlying23 rfl (HZX6.out) ?_; simp only [Act.put, List.setIfInBounds_toArray, List.set_cons_zero, List.set_cons_succ])
                      exact ⟨rfl, _, rfl, fun d hd => by cases hd; exact rfl, Ext.refl _⟩
                    simp only [Act.put, List.setIfInBounds_toArray, List.set_cons_zero, List.set_cons_succ]
                    refine ⟨fun wv81 hov81 hSv81 => ?_, fun v81 => ?_⟩
                    · obtain rfl : v71 = .bool true := hSv81 71 (by decide) (by decide)
                      obtain rfl : v78 = .agg (y.addr.map V8).toArray := hSv81 78 (by decide) (by decide)
                      obtain rfl : v80 = .agg (x.addr.map V8).toArray := hSv81 80 (by decide) (by decide)
                      clear hSv81
                      have H := kp (H.out.keep [0, 1] (St := []) trivial hov81 (by decide) (by kernel_rfl))
                      have HOX := kp hov81
                      clear hov81
                      go_wp2_with fail
                      refine (HCM.out _).mono ?_
                      rintro e w2 ⟨rfl, hx⟩
                      have HXW := kp hx
                      clear hx
                      go_wp2_with fail
                      exact ⟨rfl, _, rfl, fun d hd => by cases hd; exact rfl, HXW.out⟩
                    simp only [Act.put, List.setIfInBounds_toArray, List.set_cons_zero, List.set_cons_succ]
                    refine ⟨fun wv82 hov82 hSv82 => ?_, fun v82 => ?_⟩
                    · obtain rfl : v71 = .bool true := hSv82 71 (by decide) (by decide)
                      obtain rfl : v81 = .int .i64 (cmpF y.addr x.addr) := hSv82 81 (by decide) (by decide)
                      clear hSv82
                      clear hov82
                      go_wp2_with fail
                      exact ⟨rfl, _, rfl, fun d hd => by cases hd; exact (congrArg Value.bool HQ.out), Ext.refl _⟩
                    simp only [Act.put, List.setIfInBounds_toArray, List.set_cons_zero, List.set_cons_succ]
                    refine ⟨fun wv83 hov83 hSv83 => ?_, fun v83 => ?_⟩
                    · obtain rfl : v68 = .bool false := hSv83 68 (by decide) (by decide)
                      obtain rfl : v71 = .bool true := hSv83 71 (by decide) (by decide)
                      obtain rfl : v82 = .bool false := hSv83 82 (by decide) (by decide)
                      clear hSv83
                      clear hov83
                      go_wp2_with fail
                      exact ⟨rfl, _, rfl, fun d hd => by cases hd; exact rfl, Ext.refl _⟩
                    simp only [Act.put, List.setIfInBounds_toArray, List.set_cons_zero, List.set_cons_succ]
                    refine ⟨fun wv84 hov84 hSv84 => ?_, fun v84 => ?_⟩
                    · obtain rfl : v68 = .bool false := hSv84 68 (by decide) (by decide)
                      obtain rfl : v83 = .bool false := hSv84 83 (by decide) (by decide)
                      clear hSv84
                      clear hov84
                      go_wp2_with fail
                      exact ⟨rfl, _, rfl, fun d hd => by cases hd; exact rfl, Ext.refl _⟩
                    simp only [Act.put, List.setIfInBounds_toArray, List.set_cons_zero, List.set_cons_succ]
                    clear H
                    intro w7 HOX H hfin
                    obtain rfl : v52 = .pointer (some ⟨g4, 0, none⟩) := hfin 52 (by decide)
                    obtain rfl : v53 = .agg (x.addr.map V8).toArray := hfin 53 (by decide)
                    obtain rfl : v54 = .bool false := hfin 54 (by decide)
                    obtain rfl : v55 = .bool false := hfin 55 (by decide)
                    obtain rfl : v56 = .pointer (some ⟨g4, 0, none⟩) := hfin 56 (by decide)
                    obtain rfl : v57 = .agg (x.addr.map V8).toArray := hfin 57 (by decide)
                    obtain rfl : v58 = .pointer (some ⟨g1, 0, none⟩) := hfin 58 (by decide)
                    obtain rfl : v59 = .agg (a.own.map V8).toArray := hfin 59 (by decide)
                    obtain rfl : v60 = .bool false := hfin 60 (by decide)
                    obtain rfl : v61 = .bool false := hfin 61 (by decide)
                    obtain rfl : v62 = .bool false := hfin 62 (by decide)
                    obtain rfl : v63 = .pointer (some ⟨g4, 10, none⟩) := hfin 63 (by decide)
                    obtain rfl : v64 = .int .i64 x.seen := hfin 64 (by decide)
                    obtain rfl : v65 = .bool true := hfin 65 (by decide)
                    obtain rfl : v66 = .bool false := hfin 66 (by decide)
                    obtain rfl : v67 = .bool false := hfin 67 (by decide)
                    obtain rfl : v68 = .bool false := hfin 68 (by decide)
                    obtain rfl : v69 = .int .i64 (k + 1 : Nat) := hfin 69 (by decide)
                    obtain rfl : v70 = .bool true := hfin 70 (by decide)
                    obtain rfl : v71 = .bool true := hfin 71 (by decide)
                    obtain rfl : v72 = .pointer (some ⟨g1, 9, none⟩) := hfin 72 (by decide)
                    obtain rfl : v73 = .slice (some ⟨b, off, none⟩) n c := hfin 73 (by decide)
                    obtain rfl : v74 = .int .i64 (k + 1 : Nat) := hfin 74 (by decide)
                    obtain rfl : v75 = .int .i64 k := hfin 75 (by decide)
                    obtain rfl : v76 = .pointer (some ⟨b, off + k * 11, none⟩) := hfin 76 (by decide)
                    obtain rfl : v77 = .pointer (some ⟨b, off + k * 11, none⟩) := hfin 77 (by decide)
                    obtain rfl : v78 = .agg (y.addr.map V8).toArray := hfin 78 (by decide)
                    obtain rfl : v79 = .pointer (some ⟨g4, 0, none⟩) := hfin 79 (by decide)
                    obtain rfl : v80 = .agg (x.addr.map V8).toArray := hfin 80 (by decide)
                    obtain rfl : v81 = .int .i64 (cmpF y.addr x.addr) := hfin 81 (by decide)
                    obtain rfl : v82 = .bool false := hfin 82 (by decide)
                    obtain rfl : v83 = .bool false := hfin 83 (by decide)
                    obtain rfl : v84 = .bool false := hfin 84 (by decide)
                    clear hfin
                    simp only [List.drop_succ_cons, List.drop_zero]
                    simp only [applyS] at H
                    have HXN := kp (HOX.out.ext (Ext.refl w6) (fun g hg => by cases hg))
                    go_wp2_with fail
                    exact CutP.of rfl (by kernel_rfl) ⟨H, congrArg Value.bool (by rw [HO2.out]; rfl)⟩
        rintro vs w7 ⟨H, e84⟩
        simp only [putMany, List.setIfInBounds_toArray, List.set_cons_zero, List.set_cons_succ]
        rw [e84]
        clear e84 heq
        cases hp : pre7 a.own l x j with
        | false =>
          have HK := kp (bad30_at HJL.out (show ok30At a.own l j = false by rw [HOK.out, hp]; rfl))
          clear hp
          go_wp2_with fail
          go_ret
          exact ⟨congrArg (fun z => Ending.returned (.bool z)) HK.out.symm, H.out.1⟩
        | true =>
          have HOK2 := kp (show ok30At a.own l j = (if x.state = 1 then zero7 x else if x.state = 2 then mem7 l x j else false) by rw [HOK.out, hp]; rfl)
          clear hp
          by_cases hs1 : x.state = 1
          · have HK := kp (show ok30At a.own l j = zero7 x by rw [HOK2.out, if_pos hs1])
            have hs1b : (x.state == 1) = true := by simp [hs1]
            have hc6 := run_load_cell H.out 0 rfl _ _ H6.out
            rw [hs1] at hc6
            clear hs1
            go_wp2_with fail
            subst h12
            refine wp_cut [89, 90, 91, 92, 93, 94, 95, 96, 97, 98, 99, 100, 101] (fun vs w' => Kp (Loc w w' [(g4, 39, cellsE x), (g1, 26, cellsA a (.slice (some ⟨b, off, none⟩) n c))]) ∧ vs 101 = .bool (!zero7 x)) ?_ ?_
            · unfold zero7
              have hc6 := run_load_cell H.out 0 rfl _ _ H6.out; have hc7 := run_load_cell H.out 0 rfl _ _ H7.out; have hc8 := run_load_cell H.out 0 rfl _ _ H8.out; have hc9 := run_load_cell H.out 0 rfl _ _ H9.out; have hc19 := run_load_cell H.out 1 rfl _ _ HC9.out
              go_wp2_with fail
              all_goals exact CutP.of rfl (by kernel_rfl) ⟨H, congrArg Value.bool (by first | (simp [*]; done) | (simp [bne, *]; done) | simp_all)⟩
            rintro vs w8 ⟨H, e101⟩
            simp only [putMany, List.setIfInBounds_toArray, List.set_cons_zero, List.set_cons_succ]
            rw [e101]
            clear e101
            cases hz : zero7 x with
            | false =>
              have HK := kp (bad30_at HJL.out (HK.out.trans hz))
              clear hz
              go_wp2_with fail
              go_ret
              exact ⟨congrArg (fun z => Ending.returned (.bool z)) HK.out.symm, H.out.1⟩
            | true =>
              have HK := kp (HK.out.trans hz)
              clear hz
              go_wp2_with fail
              go_roundw
              case rel => exact ⟨j + 1, by omega, by go_num, kp (fun i hi => by
                rcases Nat.lt_succ_iff_lt_or_eq.1 hi with q | q
                · exact HT.out i q
                · subst q; exact HK.out), kp H.out.tl⟩
              case measure => simp [intOf]; omega
          · by_cases hs2 : x.state = 2
            · have HK := kp (show ok30At a.own l j = mem7 l x j by rw [HOK2.out, if_neg hs1, if_pos hs2])
              have hc6 := run_load_cell H.out 0 rfl _ _ H6.out
              rw [hs2] at hc6
              clear hs1 hs2
              go_wp2_with fail
              subst h15
              refine wp_cut [104, 105, 106, 107, 108, 109, 110, 111, 112, 113, 114, 115, 116, 117, 118, 119, 120, 121, 122, 123, 124, 125, 126, 127, 128] (fun vs w' => Kp (Loc w w' [(g4, 39, cellsE x), (g1, 26, cellsA a (.slice (some ⟨b, off, none⟩) n c))]) ∧ vs 128 = .bool (!mem7 l x j)) ?_ ?_
              · unfold mem7
                have HA1 := kp (in30_any x.aid 1 255)
                have HA2 := kp (in30_any x.caps 0 65535)
                have HA3 := kp (in30_any x.listen 0 65535)
                generalize inF x.aid 1 255 = b1 at *
                generalize inF x.caps 0 65535 = b2 at *
                generalize inF x.listen 0 65535 = b3 at *
                have HHA := kp (HHO.out x.aid)
                generalize holderF l x.aid = hd at *
                have hc6 := run_load_cell H.out 0 rfl _ _ H6.out; have hc7 := run_load_cell H.out 0 rfl _ _ H7.out; have hc8 := run_load_cell H.out 0 rfl _ _ H8.out; have hc9 := run_load_cell H.out 0 rfl _ _ H9.out; have hc19 := run_load_cell H.out 1 rfl _ _ HC9.out
                go_wp2_with (first | (go_at_call 45; (first | with_reducible refine (HA1.out _).mono ?_ | with_reducible refine (HA2.out _).mono ?_ | with_reducible refine (HA3.out _).mono ?_); rintro e wa ⟨rfl, hx⟩; have H2 := kp (H.out.ext hx); have HXC := kp hx; clear H hx; have H := H2; clear H2; have hc6 := run_load_cell H.out 0 rfl _ _ H6.out; have hc7 := run_load_cell H.out 0 rfl _ _ H7.out; have hc8 := run_load_cell H.out 0 rfl _ _ H8.out; have hc9 := run_load_cell H.out 0 rfl _ _ H9.out; have hc19 := run_load_cell H.out 1 rfl _ _ HC9.out) | (go_at_call 16; refine (HHA.out _ H.out.1).mono ?_; rintro e wa ⟨rfl, hx⟩; have H2 := kp (H.out.ext hx); have HXC := kp hx; clear H hx; have H := H2; clear H2; have hc6 := run_load_cell H.out 0 rfl _ _ H6.out; have hc7 := run_load_cell H.out 0 rfl _ _ H7.out; have hc8 := run_load_cell H.out 0 rfl _ _ H8.out; have hc9 := run_load_cell H.out 0 rfl _ _ H9.out; have hc19 := run_load_cell H.out 1 rfl _ _ HC9.out))
                all_goals exact CutP.of rfl (by kernel_rfl) ⟨H, congrArg Value.bool (by first | (simp [*]; done) | (simp [bne, *]; done) | simp_all)⟩
              rintro vs w8 ⟨H, e128⟩
              simp only [putMany, List.setIfInBounds_toArray, List.set_cons_zero, List.set_cons_succ]
              rw [e128]
              clear e128
              cases hz : mem7 l x j with
              | false =>
                have HK := kp (bad30_at HJL.out (HK.out.trans hz))
                clear hz
                go_wp2_with fail
                go_ret
                exact ⟨congrArg (fun z => Ending.returned (.bool z)) HK.out.symm, H.out.1⟩
              | true =>
                have HK := kp (HK.out.trans hz)
                clear hz
                go_wp2_with fail
                go_roundw
                case rel => exact ⟨j + 1, by omega, by go_num, kp (fun i hi => by
                  rcases Nat.lt_succ_iff_lt_or_eq.1 hi with q | q
                  · exact HT.out i q
                  · subst q; exact HK.out), kp H.out.tl⟩
                case measure => simp [intOf]; omega
            · have HK := kp (bad30_at HJL.out (show ok30At a.own l j = false by rw [HOK2.out, if_neg hs1, if_neg hs2]))
              have hb1 : (x.state == 1) = false := by simp [hs1]
              have hb2 : (x.state == 2) = false := by simp [hs2]
              have hc6 := run_load_cell H.out 0 rfl _ _ H6.out
              go_wp2_with fail
              go_ret
              exact ⟨congrArg (fun z => Ending.returned (.bool z)) HK.out.symm, H.out.1⟩
      · obtain rfl : j = n := by omega
        have HK := kp (HV2.out.trans (all30_at (own := a.own) (l := l) fun k hk => HT.out k (by rw [HNL.out]; exact hk)))
        go_wp2_with fail
        go_ret
        exact ⟨congrArg (fun z => Ending.returned (.bool z)) HK.out.symm, H.out.1⟩
end Go.Proofs.Ytfecopfofkdnpaa
