/- Texts of this proof, put together: Rem30, Tick30, Av1, Av2. -/
import Derived.Test.YtfecopfofkdnpaaS27
import Derived.Test.YtfecopfofkdnpaaS10
import Derived.Test.YtfecopfofkdnpaaS1
namespace Go.Proofs.Ytfecopfofkdnpaa
open Go.RowKit
theorem owns_grown_ne {w w' : World} {B1 E1 s1 n1 B2 E2 s2 n2 : Nat} {v1 v2 : Value} {x1 x2 : List Value} (h1 : w.ownsRow B1 E1 s1 v1 n1 x1) (h2 : w.ownsRow B2 E2 s2 v2 n2 x2) (hE : E1 ≠ E2) (hg : w.grownBy w' v2.ownBlock) : w'.ownsRow B1 E1 s1 v1 n1 x1 := by
 refine ownsT_keep h1 fun k hk => hg.block k (ownsT_lt h1 k hk) fun e => ?_
 obtain ⟨_, ⟨r1, _⟩ | ⟨g1, c1, q1, r1, _, hg1, _⟩⟩ := h1
 ·rw [r1] at hk; cases hk
 ·obtain ⟨_, ⟨r2, _⟩ | ⟨g2, c2, q2, r2, _, hg2, _⟩⟩ := h2
  ·rw [r2] at e; cases e
  ·rw [r1] at hk; rw [r2] at e
   cases hk; cases e
   rw [hg1] at hg2
   cases hg2; exact hE rfl
theorem frs_app {B : Nat} {outs : List Fm} {v v' : Value} {w w' : World} {o : Fm} {u : Value} {vs : List Value} (h1 : vs.length = outs.length) (h2 : w.ownsRow B 31 41 v (outs.zip vs).length ((outs.zip vs).flatMap fun p => cellsF p.1.1 p.2)) (h3 : ∀ p ∈ outs.zip vs, OwB B w p.2 p.1.2) (hu : OwB B w u o.2)
  (hg : w.grownBy w' v.ownBlock) (hn : w'.ownsRow B 31 41 v' (outs.zip vs ++ [(o, u)]).length ((outs.zip vs ++ [(o, u)]).flatMap fun p => cellsF p.1.1 p.2)) : FrS B (outs ++ [o]) v' w' := by
 have hz : (outs ++ [o]).zip (vs ++ [u]) = outs.zip vs ++ [(o, u)] := by rw [List.zip_append h1.symm]; rfl
 refine ⟨vs ++ [u], by simp [h1], by rw [hz]; exact hn, fun p hp => ?_⟩
 rw [hz] at hp
 rcases List.mem_append.1 hp with h | h
 ·exact owns_grown_ne (h3 p h) h2 (by decide) hg
 ·rw [List.mem_singleton.1 h]; exact owns_grown_ne hu h2 (by decide) hg
theorem frs_grown {B B2 E2 s2 n2 : Nat} {outs : List Fm} {v v2 : Value} {w w' : World} {x2 : List Value} (h : FrS B outs v w) (h2 : w.ownsRow B2 E2 s2 v2 n2 x2) (hE : 31 ≠ E2) (hU : 5 ≠ E2) (hg : w.grownBy w' v2.ownBlock) : FrS B outs v w' := by
 obtain ⟨vs, h1, h3, h4⟩ := h
 exact ⟨vs, h1, owns_grown_ne h3 h2 hE hg, fun p hp => owns_grown_ne (h4 p hp) h2 hU hg⟩
theorem ext_wrote {w0 w w' : World} {g : Nat} (h : Ext w0 w) (hw : Wrote w w' g) (hg : w0.heap.size ≤ g) : Ext w0 w' := by
 obtain ⟨ds, rfl⟩ := hw
 exact ext_setRow h hg
theorem frs_lt {B : Nat} {outs : List Fm} {v : Value} {w : World} (h : FrS B outs v w) : ∀ k, v.ownBlock = some k → k < w.heap.size := by
 obtain ⟨vs, _, h2, _⟩ := h
 exact ownsT_lt h2
theorem sep4 {g4 g2 g9 gf B m z : Nat} (h : g4 < B ∧ g2 < B) (_ : B ≤ m) (h9 : g9 = m) (hf : m ≤ gf) (h1 : B ≤ z) (h2 : z < m) (hz : z ∈ [gf, g9, g4, g2]) : False := by
 simp only [List.mem_cons, List.not_mem_nil, or_false] at hz
 omega
def bx (a : As) (s : En) : Fm := byeF a s.addr 12 4
def TikR (a : As) (ha : a.own.length = 6) (l : List En) (now : Int) (w : World) (g4 B : Nat) (b2 : Bk) (vs : Tmp → Value) (wr : World) : Prop :=
 ∃ j vo ad n c, j ≤ l.length ∧ vs 25 = .int .i64 (j : Nat) ∧ vs 5 = vo ∧ Kp (Loc w wr [(g4, 26, cat (partsA a ha ad n c)), b2]) ∧ Kp (OwE B wr (.slice ad n c) ((l.take j).filter fun s => !goneE a now s)) ∧ Kp (FrS B (((l.take j).filter (goneE a now)).map (bx a)) vo wr) ∧ Kp (B ≤ wr.heap.size)
theorem fil_snoc {l : List En} {j : Nat} {x : En} (h : l[j]? = some x) (p : En → Bool) : (l.take (j + 1)).filter p = (l.take j).filter p ++ if p x then [x] else [] := by
 rw [List.take_add_one, h, Option.toList_some, List.filter_append]
 cases hp : p x <;> simp [hp]
theorem bs_entry (x : En) (hx : x.addr.length = 6) (w : World) : (Instr.buildSlice 24 1 #[(0, .agg (cat (partsE x hx)).toArray)]).run Try.prog w = .ok (.slice (some ⟨w.heap.size, 0, none⟩) 1 1) (w.alloc (.cells (cat (partsE x hx)).toArray 39)) := by
 obtain ⟨ad, st, ai, ca, li, se⟩ := x
 obtain ⟨_, _, _, _, _, _, rfl⟩ := six hx
 kernel_rfl
theorem frs_form {B : Nat} {outs : List Fm} {v : Value} {w : World} (h : FrS B outs v w) : ∃ a n c, v = .slice a n c := by
 obtain ⟨vs, _, h2, _⟩ := h
 exact owns_form2 h2
theorem size_setRow9 (w : World) (g : Nat) (cs : Array Value) : (w.setRow g cs).heap.size = w.heap.size := by unfold World.setRow; simp
theorem one_E (x : En) : ∀ u ∈ cellsE x, u.oneCell' = true := by have := one_flat [x]; simpa using this
set_option maxRecDepth 4000 in
set_option maxHeartbeats 1600000 in
theorem tick_any (a : As) (ha : a.own.length = 6) (v : Value) (l : List En) (hl : L6 l) (hn : l.length ≤ 100000) (now : Int) (w : World) (hs : SlT 11 cellsE w v l) :
  Calls Try.prog 22 #[.agg (cellsA a v).toArray, .int .i64 now] w (HanR a (tickF a l now) w) := by
 have H := kp (Loc.start w)
 have HSL := kp hs
 have HLK := kp hl
 have HCH := kp (fun w' hs => check_any a ha v l hl hn w' hs)
 have HMO := kp (fun w' => moment_any now w')
 have HBY := kp (fun t ht w' => bye_any a ha v t ht 12 (by decide) (by decide) 4 (by decide) (by decide) w')
 obtain ⟨ad, n, c, rfl, hnl, hcap, hat⟩ := hs
 have HAT := kp hat
 have HNL := kp hnl
 rw [cat_A a ha] at HCH HBY
 rw [cat_A a ha]
 clear hcap hat
 cases hv : validA a l with
 | false =>
  have HR := kp (show tickF a l now = ([], [], 8) by unfold tickF; rw [hv]; rfl)
  have HCC := kp (chk_bad hv)
  rw [HCC.out] at HCH
  clear hv hl hn hnl
  go_enter Try.func22, Try.ntmps22
  go_wp2_with (first | ((with_reducible refine isBx 2 26 ?_); (refine L_box H rfl 26 _ rfl (cat (partsA a ha ad n c)) rfl ?_); clear H; intro g2 w2 HGg2 HEg2 H; simp only [pA]) | ((with_reducible refine isAl 4 26 ?_); (refine L_alloc H rfl 26 rfl (cat (partsA as0 rfl none 0 0)) (fun _ _ => by kernel_rfl) ?_); clear H; intro g4 w4 HGg4 HEg4 H; simp only [pA]) | ((with_reducible refine isLd 26 ?_); (refine L_fa H rfl 26 _ rfl 1 rfl rfl Try.underlying26 rfl (by kernel_rfl) ?_); simp only [pA]) | (go_at_call 20; refine (HCH.out _ (HSL.out.ext H.out.1)).mono ?_; rintro e wa ⟨rfl, hx⟩; replace H := kp (H.out.ext hx); have HXC := kp hx; clear hx) | ((with_reducible show wpList _ _ _ (Oper.mk (some 14) (Op.build 26 _) _ _ _ _ :: _) _ _); (refine L_bd (by kernel_rfl) 26 _ rfl (#[]) (by kernel_rfl) (cat (partsA as0 rfl none 0 0)) (fun _ => by kernel_rfl) ?_); simp only [pA]) | ((with_reducible refine isSt 26 ?_); (refine L_sa H rfl rfl 26 _ _ rfl 0 rfl rfl (partsA as0 rfl none 0 0) rfl rfl (by kernel_rfl) ?_; clear H; intro wz HWwz H; simp only [szA] at H)))
  exact ret_f3 H Try.results22 0 rfl rfl _ _ rfl rfl Try.underlying26 rfl (by kernel_rfl) rfl (hanR_err HR.out (by decide) H.out.1)
 | true =>
  have HCC := kp (chk_good hv)
  rw [HCC.out] at HCH
  cases hm : momentF now with
  | false =>
   have HR := kp (show tickF a l now = ([], [], 2) by unfold tickF; rw [hv, hm]; rfl)
   unfold momentF at hm
   rw [hm] at HMO
   clear hv hl hn hm hnl
   go_enter Try.func22, Try.ntmps22
   go_wp2_with (first | ((with_reducible refine isBx 2 26 ?_); (refine L_box H rfl 26 _ rfl (cat (partsA a ha ad n c)) rfl ?_); clear H; intro g2 w2 HGg2 HEg2 H; simp only [pA]) | ((with_reducible refine isAl 4 26 ?_); (refine L_alloc H rfl 26 rfl (cat (partsA as0 rfl none 0 0)) (fun _ _ => by kernel_rfl) ?_); clear H; intro g4 w4 HGg4 HEg4 H; simp only [pA]) | ((with_reducible refine isLd 26 ?_); (refine L_fa H rfl 26 _ rfl 1 rfl rfl Try.underlying26 rfl (by kernel_rfl) ?_); simp only [pA]) | (go_at_call 20; refine (HCH.out _ (HSL.out.ext H.out.1)).mono ?_; rintro e wa ⟨rfl, hx⟩; replace H := kp (H.out.ext hx); have HXC := kp hx; clear hx) | (go_at_call 56; refine (HMO.out _).mono ?_; rintro e wa ⟨rfl, hx⟩; replace H := kp (H.out.ext hx); have HXC := kp hx; clear hx) | ((with_reducible show wpList _ _ _ (Oper.mk (some 19) (Op.build 26 _) _ _ _ _ :: _) _ _); (refine L_bd (by kernel_rfl) 26 _ rfl (#[]) (by kernel_rfl) (cat (partsA as0 rfl none 0 0)) (fun _ => by kernel_rfl) ?_); simp only [pA]) | ((with_reducible refine isSt 26 ?_); (refine L_sa H rfl rfl 26 _ _ rfl 0 rfl rfl (partsA as0 rfl none 0 0) rfl rfl (by kernel_rfl) ?_; clear H; intro wz HWwz H; simp only [szA] at H)))
   exact ret_f3 H Try.results22 0 rfl rfl _ _ rfl rfl Try.underlying26 rfl (by kernel_rfl) rfl (hanR_err HR.out (by decide) H.out.1)
  | true =>
   have HR := kp (show tickF a l now = (l.filter (fun s => !goneE a now s), (l.filter (goneE a now)).map (fun s => byeF a s.addr 12 4), 0) by unfold tickF; rw [hv, hm]; rfl)
   have hok := (valid_iff a l).1 hv
   have hn64 : n ≤ 64 := by rw [hnl]; exact ok_len hok
   have HEN := kp (fun (x : En) (hx : x ∈ l) => moment_iff.1 (ent_seen_range (hok.ent x hx)))
   have hid : 1 ≤ a.idle ∧ a.idle ≤ 1073741824 := by
    have := hok.head
    simp only [headF, inF, Bool.and_eq_true, decide_eq_true_eq] at this
    exact this.1.2
   unfold momentF at hm
   rw [hm] at HMO
   clear hv hl hn hm hok hnl
   go_enter Try.func22, Try.ntmps22
   generalize h8 : (Code.region 8 _ _ : Code) = R8
   go_wp2_with (first | ((with_reducible refine isBx 2 26 ?_); (refine L_box H rfl 26 _ rfl (cat (partsA a ha ad n c)) rfl ?_); clear H; intro g2 w2 HGg2 HEg2 H; simp only [pA]) | ((with_reducible refine isAl 4 26 ?_); (refine L_alloc H rfl 26 rfl (cat (partsA as0 rfl none 0 0)) (fun _ _ => by kernel_rfl) ?_); clear H; intro g4 w4 HGg4 HEg4 H; simp only [pA]) | ((with_reducible refine isLd 26 ?_); (refine L_fa H rfl 26 _ rfl 1 rfl rfl Try.underlying26 rfl (by kernel_rfl) ?_); simp only [pA]) | (go_at_call 20; refine (HCH.out _ (HSL.out.ext H.out.1)).mono ?_; rintro e wa ⟨rfl, hx⟩; replace H := kp (H.out.ext hx); have HXC := kp hx; clear hx) | (go_at_call 56; refine (HMO.out _).mono ?_; rintro e wa ⟨rfl, hx⟩; replace H := kp (H.out.ext hx); have HXC := kp hx; clear hx) | ((with_reducible refine isSt 26 ?_); ((with_reducible refine isSt 26 ?_); refine L_sa H rfl rfl 26 _ _ rfl 0 rfl rfl (partsA a ha ad n c) rfl rfl (by kernel_rfl) ?_; clear H; intro wz HWwz H; simp only [szA] at H)) | ((with_reducible refine isSt 24 ?_); (refine L_s1 H rfl rfl 24 _ _ rfl 0 rfl _ rfl _ rfl _ rfl rfl rfl rfl (by kernel_rfl) (partsA a ha none 0 0) rfl ?_; clear H; intro wz1 HWwz1 H; simp only [szA] at H)))
   subst h8
   go_wp2_with ((with_reducible refine isLd 24 ?_); (refine L_f1 H rfl 24 _ rfl 1 rfl _ rfl _ rfl _ rfl Try.underlying24 rfl ?_); simp only [pA])
   have hgl := H.out.lt 0 rfl
   have hgl2 := H.out.lt 1 rfl
   have HGB := kp (show g4 < wz1.heap.size ∧ g2 < wz1.heap.size from ⟨hgl, hgl2⟩)
   have HB0 := kp H.out.1.size
   clear hgl hgl2
   refine wp_loopC (5 :: 9 :: 25 :: 26 :: 27 :: 28 :: 29 :: 30 :: 31 :: 32 :: 33 :: 34 :: 35 :: 36 :: 37 :: 38 :: 39 :: 40 :: 41 :: 42 :: 43 :: 44 :: 45 :: 46 :: 47 :: 48 :: 49 :: []) (TikR a ha l now w g4 wz1.heap.size (g2, 26, cat (partsA a ha ad n c))) (fun vs _ => n - (intOf (vs 25)).toNat) (by kernel_rfl) ⟨0, _, none, 0, 0, Nat.zero_le _, rfl, rfl, H, kp (OwE.nil _ _), kp (FrS.nil _ _), kp (Nat.le_refl _)⟩ ?_
   clear H
   rintro vs wr ⟨j, vo, ad2, n2, c2, hj, q25, q5, H, HO, HF, HB⟩
   simp only [putMany, List.setIfInBounds_toArray, List.set_cons_zero, List.set_cons_succ]
   rw [q25, q5]
   clear q25 q5
   generalize h12 : (Code.region 12 _ _ : Code) = R12
   generalize h13 : (Code.region 13 _ _ : Code) = R13
   by_cases hlt : j < n
   ·obtain ⟨x, hx⟩ : ∃ x, l[j]? = some x := ⟨l[j]'(by rw [← HNL.out]; exact hlt), by simp⟩
    obtain ⟨b, off, rfl, hb, hr⟩ := HAT.out j x hx
    have hxm := List.mem_of_getElem? hx
    have HXA := kp (HLK.out x hxm)
    have hse := HEN.out x hxm
    have HR3 := kp (show wr.rangeAt b (off + j * 11) (cat (partsE x HXA.out)) from cat_E x HXA.out ▸ rangeAt_ext hr hb H.out.1)
    have HZX := kp (show (Try.prog.info? 39).map (·.size) = some (cat (partsE x HXA.out)).length by rw [cat_len]; kernel_rfl)
    have HG := kp (fil_snoc hx (goneE a now))
    have HK := kp (fil_snoc hx (fun s => !goneE a now s))
    have HOL := kp (ownsT_lt HO.out)
    have HJ := kp (show (l.take j).length ≤ 64 from Nat.le_trans (List.length_take_le _ _) (by omega))
    clear hb hr hx hxm
    generalize hgn : (l.take j).filter (goneE a now) = ga at *
    generalize hkn : (l.take j).filter (fun s => !goneE a now s) = ka at *
    have HGA := kp (show ga.length ≤ 64 by rw [← hgn]; exact Nat.le_trans (List.length_filter_le _ _) HJ.out)
    have HKA := kp (show ka.length ≤ 64 by rw [← hkn]; exact Nat.le_trans (List.length_filter_le _ _) HJ.out)
    clear hgn hkn
    by_cases hg : x.seen + a.idle ≤ now
    ·have HGE := kp (show goneE a now x = true from decide_eq_true hg)
     rw [HGE.out, if_pos rfl] at HG
     rw [HGE.out, if_neg (by simp), List.append_nil] at HK
     go_wp2_with (first | ((with_reducible refine isLd 39 ?_); (refine wpList_load_midG (by kernel_rfl) 39 _ rfl (b) (off + j * 11) rfl (cat (partsE x HXA.out)) _ (HR3.out) Try.underlying39 rfl (HZX.out) ?_); simp only [pA]) | ((with_reducible refine isAl 9 39 ?_); (refine L_alloc H rfl 39 rfl (cat (partsE en0 rfl)) (fun _ _ => by kernel_rfl) ?_); clear H; intro g9 w9 HGg9 HEg9 H; simp only [pA]) | ((with_reducible refine isSt 39 ?_); refine L_sa H rfl rfl 39 _ _ rfl 0 rfl rfl (partsE x HXA.out) rfl rfl (by kernel_rfl) ?_; clear H; intro w9b HWw9b H; simp only [szA] at H) | ((with_reducible refine isLd 3 ?_); (first | (refine L_f1 H rfl 3 _ rfl 0 rfl _ rfl _ rfl _ rfl Try.underlying3 rfl ?_) | (refine L_f1 H rfl 3 _ rfl 2 rfl _ rfl _ rfl _ rfl Try.underlying3 rfl ?_)); simp only [pA]))
     have HX9 := kp (ext_wrote HEg9.out HWw9b.out (Nat.le_of_eq HGg9.out.symm))
     have HOKM := kp (msg_ok (t := x.addr) ha HXA.out (show (0:Int) ≤ 12 by decide) (by decide))
     have HBF := kp (fun ad n c w => bs_frame HOKM.out ad n c w)
     have HBX := kp (HBY.out x.addr HXA.out)
     subst h12
     go_wp2_with (first | ((with_reducible refine isLd 26 ?_); refine L_fa H rfl 26 _ rfl 2 rfl rfl Try.underlying26 rfl (by kernel_rfl) ?_; simp only [pA]) | ((with_reducible refine isLd 23 ?_); (refine L_fv H rfl 23 _ rfl 0 rfl _ rfl _ rfl rfl Try.underlying23 rfl (by kernel_rfl) ?_); simp only [pA]) | (go_at_call 57; refine (HBX.out _).mono ?_; rintro e wa ⟨bd, bn, bc, rfl, ho, hx⟩; have HOB := kp (owns_weak ho (Nat.le_trans HB.out HX9.out.size)); clear ho; replace H := kp (H.out.ext hx); have HXC := kp hx; clear hx) | ((with_reducible show wpList _ _ _ (Oper.mk (some 41) (Op.buildSlice 51 _ _) _ _ _ _ :: _) _ _); (refine L_bs H (by kernel_rfl) 51 1 _ rfl (#[(0, .agg (cellsF (msgH a x.addr 12) (.slice bd bn bc)).toArray)]) (by kernel_rfl) 31 (cellsF (msgH a x.addr 12) (.slice bd bn bc)) (HBF.out bd bn bc) ?_); clear H; intro gf wf HGgf HEgf H; simp only [pA]) | ((with_reducible show wpList _ _ _ (Oper.mk _ (Op.call { callee := .builtin .append, args := _, argTypes := _ }) _ _ _ _ :: _) _ _); have HXW := kp (HX9.out.trans (HXC.out.trans HEgf.out)); obtain ⟨vs0, f1, f2, f3⟩ := HF.out.ext HXW.out; have HFF := kp (And.intro f1 (And.intro f2 f3)); have HOW := kp (ownsT_ext HO.out HXW.out); have HOF := kp (fun k hk => frs_lt HF.out k hk); go_loud (refine L_appT (f := fun p : Fm × Value => cellsF p.1.1 p.2) elemFr H rfl _ _ rfl wz1.heap.size HB0.out (Nat.le_trans HB.out HXW.out.size) _ ((ga.map (bx a)).zip vs0) rfl f2 (fun z hz e => sep4 (gf := gf) (g9 := g9) (m := wr.heap.size) HGB.out HB.out HGg9.out (by have q1 := HX9.out.size; have q2 := HXC.out.size; have q3 := HGgf.out; omega) (ownsT_block f2 z e) (HOF.out z e) hz) gf (bx a x, .slice bd bn bc) rfl 31 (H.out.at 0 rfl) (len_F HOKM.out _) (fun u hu => by have q := one_F (msgH a x.addr 12) bd bn bc; rw [← Array.all_toList] at q; exact List.all_eq_true.1 q u hu) (by have q := HGA.out; rw [List.length_zip, List.length_map]; omega) (by have q := HGA.out; rw [List.length_zip, List.length_map]; omega) ?_); clear f1 f2 f3; intro v2 w2 HO2 HG2 HW2 H2; simp only [pA]))
     obtain ⟨f1, f2, f3⟩ := HFF.out
     have HFN := frs_app (o := bx a x) (u := .slice bd bn bc) f1 f2 f3 (owns_ext HOB.out HEgf.out) HG2.out HO2.out
     exact LoopP.of rfl (by kernel_rfl) ⟨j + 1, v2, ad2, n2, c2, (by have q := HNL.out; rw [← q]; exact hlt), by simp, rfl, kp H2.out.tail.tail, kp (by rw [HK.out]; exact owns_grown_ne HOW.out f2 (by decide) HG2.out), kp (by rw [HG.out, List.map_append]; exact HFN), kp (Nat.le_trans (Nat.le_trans HB.out HXW.out.size) HG2.out.size)⟩ (by simp [intOf]; omega)
    ·have HGE := kp (show goneE a now x = false from decide_eq_false hg)
     rw [HGE.out, if_neg (by simp), List.append_nil] at HG
     rw [HGE.out, if_pos (show (!false) = true from rfl)] at HK
     have HBS := kp (bs_entry x HXA.out)
     go_wp2_with (first | ((with_reducible refine isLd 39 ?_); (refine wpList_load_midG (by kernel_rfl) 39 _ rfl (b) (off + j * 11) rfl (cat (partsE x HXA.out)) _ (HR3.out) Try.underlying39 rfl (HZX.out) ?_); simp only [pA]) | ((with_reducible refine isAl 9 39 ?_); (refine L_alloc H rfl 39 rfl (cat (partsE en0 rfl)) (fun _ _ => by kernel_rfl) ?_); clear H; intro g9 w9 HGg9 HEg9 H; simp only [pA]) | ((with_reducible refine isSt 39 ?_); refine L_sa H rfl rfl 39 _ _ rfl 0 rfl rfl (partsE x HXA.out) rfl rfl (by kernel_rfl) ?_; clear H; intro w9b HWw9b H; simp only [szA] at H) | ((with_reducible refine isLd 3 ?_); (first | (refine L_f1 H rfl 3 _ rfl 0 rfl _ rfl _ rfl _ rfl Try.underlying3 rfl ?_) | (refine L_f1 H rfl 3 _ rfl 2 rfl _ rfl _ rfl _ rfl Try.underlying3 rfl ?_)); simp only [pA]))
     have HX9 := kp (ext_wrote HEg9.out HWw9b.out (Nat.le_of_eq HGg9.out.symm))
     subst h13
     go_wp2_with (first | ((with_reducible refine isLd 24 ?_); (refine L_f1 H rfl 24 _ rfl 1 rfl _ rfl _ rfl _ rfl Try.underlying24 rfl ?_); simp only [pA]) | ((with_reducible refine isLd 39 ?_); refine L_fa H rfl 39 _ rfl 0 rfl rfl Try.underlying39 rfl (by kernel_rfl) ?_; simp only [pA]) | ((with_reducible show wpList _ _ _ (Oper.mk (some 46) (Op.buildSlice 24 _ _) _ _ _ _ :: _) _ _); (refine L_bs H (by kernel_rfl) 24 1 _ rfl (#[(0, .agg (cat (partsE x HXA.out)).toArray)]) (by kernel_rfl) 39 (cat (partsE x HXA.out)) (HBS.out) ?_); clear H; intro gf wf HGgf HEgf H; simp only [pA]) | ((with_reducible show wpList _ _ _ (Oper.mk _ (Op.call { callee := .builtin .append, args := _, argTypes := _ }) _ _ _ _ :: _) _ _); have HXW := kp (HX9.out.trans HEgf.out); have HFW := kp (HF.out.ext HXW.out); have HOW := kp (ownsT_ext HO.out HXW.out); go_loud (refine L_appT (f := cellsE) elemEn H rfl _ _ rfl wz1.heap.size HB0.out (Nat.le_trans HB.out HXW.out.size) _ ka rfl HOW.out (fun z hz e => sep4 (gf := gf) (g9 := g9) (m := wr.heap.size) HGB.out HB.out HGg9.out (by have q1 := HX9.out.size; have q3 := HGgf.out; omega) (ownsT_block HOW.out z e) (HOL.out z e) hz) gf x rfl 39 (by rw [cat_E x HXA.out]; exact H.out.at 0 rfl) (cellsE_len HXA.out) (one_E x) (by have q := HKA.out; omega) (by have q := HKA.out; omega) ?_); intro v2 w2 HO2 HG2 HW2 H2; obtain ⟨ad3, n3, c3, rfl⟩ := owns_form2 HO2.out; simp only [pA]; clear H; have H := H2; have H4 := kp (H.out.at 2 rfl); clear H2) | ((with_reducible refine isSt 24 ?_); (refine L_s1 H rfl rfl 24 _ _ rfl 2 rfl _ rfl _ rfl _ rfl rfl rfl rfl (by kernel_rfl) (partsA a ha ad3 n3 c3) rfl ?_; clear H; intro wz2 HWwz2 H; simp only [ssA, szA] at H)))
     have HLG := H4.out
     exact LoopP.of rfl (by kernel_rfl) ⟨j + 1, vo, ad3, n3, c3, (by have q := HNL.out; rw [← q]; exact hlt), by simp, rfl, kp H.out.tail.tail, kp (by rw [HK.out]; exact owns_wroteT HO2.out HWwz2.out HLG (by decide)), kp (by rw [HG.out]; exact (frs_grown HFW.out HOW.out (by decide) (by decide) HG2.out).wrote HWwz2.out HGB.out.1), kp (Nat.le_trans (Nat.le_trans HB.out HXW.out.size) (by have q := HG2.out.size; obtain ⟨ds, rfl⟩ := HWwz2.out; rw [size_setRow9]; exact q))⟩ (by simp [intOf]; omega)
   ·obtain rfl : j = n := by have := HNL.out; omega
    have HTL := kp (show l.take j = l from List.take_of_length_le (by rw [HNL.out]; exact Nat.le_refl _))
    rw [HTL.out] at HO HF
    have HG4 := kp (H.out.at 0 rfl)
    obtain ⟨va, vn, vc, rfl⟩ := frs_form HF.out
    go_wp2_with (first | ((with_reducible refine isLd 26 ?_); refine L_fa H rfl 26 _ rfl 0 rfl rfl Try.underlying26 rfl (by kernel_rfl) ?_; simp only [pA]) | ((with_reducible refine isSt 26 ?_); ((with_reducible refine isSt 26 ?_); refine L_sa H rfl rfl 26 _ _ rfl 0 rfl rfl (partsA a ha ad2 n2 c2) rfl rfl (by kernel_rfl) ?_; clear H; intro wz9 HWwz9 H; simp only [szA] at H)))
    have HOO := owns_wroteT HO.out HWwz9.out HG4.out (show 39 ≠ 26 from by decide)
    exact ret_f3 H Try.results22 0 rfl rfl _ _ rfl rfl Try.underlying26 rfl (by kernel_rfl) rfl (by rw [HR.out]; exact hanR_ok ha rfl (owns_weak HOO HB0.out) ((HF.out.wrote HWwz9.out HGB.out.1).weak HB0.out) H.out.1)
def ptB : By := [2#8, 1#8, 0#8, 0#8, 0#8, 0#8]
def stB (i : BitVec 8) : By := [4#8, i, 0#8, 0#8, 0#8, 0#8]
theorem point_any (w : World) : Calls Try.prog 30 #[] w fun e w' => e = .returned (.agg (ptB.map V8).toArray) ∧ Ext w w' := by
 have H := kp (Loc.start w)
 go_enter Try.func30, Try.ntmps30
 go_wp2_with (first | ((with_reducible refine isAl 0 23 ?_); (refine L_alloc H rfl 23 rfl (cat ([Lf.v ⟨zero6, rfl⟩])) (fun _ _ => by kernel_rfl) ?_); clear H; intro g0 w0 HGg0 HEg0 H; simp only [Act.put, sbA, szA]) | ((with_reducible show wpList _ _ _ (Oper.mk (some 1) (Op.build 23 _) _ _ _ _ :: _) _ _); (refine L_bd (by kernel_rfl) 23 _ rfl (#[(0, .int .u8 2), (1, .int .u8 1)]) (by kernel_rfl) (cat [Lf.v ⟨ptB, rfl⟩]) (fun w => by kernel_rfl) ?_); simp only [pA]) | ((with_reducible refine isSt 23 ?_); (first | (refine L_sa H rfl rfl 23 _ _ rfl 0 rfl rfl ([Lf.v ⟨ptB, rfl⟩]) rfl rfl (by kernel_rfl) ?_; clear H; intro w1 HWw1 H; simp only [szA] at H) | (refine L_sa H rfl rfl 23 _ _ rfl 1 rfl rfl ([Lf.v ⟨ptB, rfl⟩]) rfl rfl (by kernel_rfl) ?_; clear H; intro w1 HWw1 H; simp only [ssA, szA] at H) | (refine L_sa H rfl rfl 23 _ _ rfl 2 rfl rfl ([Lf.v ⟨ptB, rfl⟩]) rfl rfl (by kernel_rfl) ?_; clear H; intro w1 HWw1 H; simp only [ssA, szA] at H) | (refine L_sa H rfl rfl 23 _ _ rfl 3 rfl rfl ([Lf.v ⟨ptB, rfl⟩]) rfl rfl (by kernel_rfl) ?_; clear H; intro w1 HWw1 H; simp only [ssA, szA] at H) | (refine L_sa H rfl rfl 23 _ _ rfl 4 rfl rfl ([Lf.v ⟨ptB, rfl⟩]) rfl rfl (by kernel_rfl) ?_; clear H; intro w1 HWw1 H; simp only [ssA, szA] at H) | (refine L_sa H rfl rfl 23 _ _ rfl 5 rfl rfl ([Lf.v ⟨ptB, rfl⟩]) rfl rfl (by kernel_rfl) ?_; clear H; intro w1 HWw1 H; simp only [ssA, szA] at H))))
 exact ret_f1 H Try.results30 0 rfl rfl Try.underlying23 rfl (by kernel_rfl) rfl ⟨by simp [cat], H.out.1⟩
theorem sta_any (i : BitVec 8) (w : World) : Calls Try.prog 32 #[V8 i] w fun e w' => e = .returned (.agg ((stB i).map V8).toArray) ∧ Ext w w' := by
 have H := kp (Loc.start w)
 go_enter Try.func32, Try.ntmps32
 go_wp2_with (first | ((with_reducible refine isAl 2 23 ?_); (refine L_alloc H rfl 23 rfl (cat ([Lf.v ⟨zero6, rfl⟩])) (fun _ _ => by kernel_rfl) ?_); clear H; intro g0 w0 HGg0 HEg0 H; simp only [pA]) | ((with_reducible show wpList _ _ _ (Oper.mk (some 4) (Op.build 23 _) _ _ _ _ :: _) _ _); (refine L_bd (by kernel_rfl) 23 _ rfl (#[(0, .int .u8 4), (1, V8 i)]) (by kernel_rfl) (cat [Lf.v ⟨stB i, rfl⟩]) (fun w => by kernel_rfl) ?_); simp only [pA]) | ((with_reducible refine isSt 23 ?_); (first | (refine L_sa H rfl rfl 23 _ _ rfl 0 rfl rfl ([Lf.v ⟨stB i, rfl⟩]) rfl rfl (by kernel_rfl) ?_; clear H; intro w1 HWw1 H; simp only [szA] at H) | (refine L_sa H rfl rfl 23 _ _ rfl 1 rfl rfl ([Lf.v ⟨stB i, rfl⟩]) rfl rfl (by kernel_rfl) ?_; clear H; intro w1 HWw1 H; simp only [ssA, szA] at H) | (refine L_sa H rfl rfl 23 _ _ rfl 2 rfl rfl ([Lf.v ⟨stB i, rfl⟩]) rfl rfl (by kernel_rfl) ?_; clear H; intro w1 HWw1 H; simp only [ssA, szA] at H) | (refine L_sa H rfl rfl 23 _ _ rfl 3 rfl rfl ([Lf.v ⟨stB i, rfl⟩]) rfl rfl (by kernel_rfl) ?_; clear H; intro w1 HWw1 H; simp only [ssA, szA] at H) | (refine L_sa H rfl rfl 23 _ _ rfl 4 rfl rfl ([Lf.v ⟨stB i, rfl⟩]) rfl rfl (by kernel_rfl) ?_; clear H; intro w1 HWw1 H; simp only [ssA, szA] at H) | (refine L_sa H rfl rfl 23 _ _ rfl 5 rfl rfl ([Lf.v ⟨stB i, rfl⟩]) rfl rfl (by kernel_rfl) ?_; clear H; intro w1 HWw1 H; simp only [ssA, szA] at H))))
 exact ret_f1 H Try.results32 0 rfl rfl Try.underlying23 rfl (by kernel_rfl) rfl ⟨by simp [cat], H.out.1⟩
def reqH (t : By) (sub : Int) : Hd := ⟨0, sub, false, false, false, false, false, false, false, 0, ptB, t, ptB, zero6, 0, 0, 0, 0, false, false⟩
theorem req_ok {t : By} {sub : Int} (ht : t.length = 6) (h0 : 0 ≤ sub) (h1 : sub < 256) : (reqH t sub).Ok := ⟨Int.le_refl _, by show (0:Int) < 256; omega, h0, h1, by show (0:Int) ≤ 0; omega, by show (0:Int) < 256; omega, rfl, ht, rfl, rfl⟩
theorem hd0_ok : hd0.Ok := ⟨Int.le_refl _, by decide, Int.le_refl _, by decide, Int.le_refl _, by decide, rfl, rfl, rfl, rfl⟩
theorem build_req (t : By) (sub : Int) (ht : t.length = 6) (h0 : 0 ≤ sub) (h1 : sub < 256) (w : World) : (Instr.build 28 #[(1, .int .u8 sub), (10, .agg (ptB.map V8).toArray), (11, .agg (t.map V8).toArray), (12, .agg (ptB.map V8).toArray)]).run Try.prog w = .ok (.agg (cat (partsH (reqH t sub) (req_ok ht h0 h1))).toArray) w := by
 obtain ⟨_, _, _, _, _, _, rfl⟩ := six ht
 kernel_rfl
theorem build_rfr (t : By) (sub : Int) (ht : t.length = 6) (h0 : 0 ≤ sub) (h1 : sub < 256) (ad : Option Addr) (n c : Nat) (w : World) : (Instr.build 31 #[(0, .agg (cat (partsH (reqH t sub) (req_ok ht h0 h1))).toArray), (1, .slice ad n c)]).run Try.prog w = .ok (.agg (cat (partsFr (reqH t sub) (req_ok ht h0 h1) ad n c)).toArray) w := by
 obtain ⟨_, _, _, _, _, _, rfl⟩ := six ht
 kernel_rfl
set_option maxRecDepth 4000 in
set_option maxHeartbeats 1600000 in
theorem frame_any (t : By) (ht : t.length = 6) (sub : Int) (h0 : 0 ≤ sub) (h1 : sub < 256) (ad : Option Addr) (n c : Nat) (w : World) :
  Calls Try.prog 37 #[.agg (t.map V8).toArray, .int .u8 sub, .slice ad n c] w fun e w' => e = .returned (.agg (cat (partsFr (reqH t sub) (req_ok ht h0 h1) ad n c)).toArray) ∧ Ext w w' := by
 have H := kp (Loc.start w)
 have HB1 := kp (build_req t sub ht h0 h1)
 have HB2 := kp (build_rfr t sub ht h0 h1 ad n c)
 have HOK := kp (req_ok ht h0 h1)
 have HT := kp ht
 generalize hP : partsH (reqH t sub) (req_ok ht h0 h1) = P at HB1 HB2
 go_enter Try.func37, Try.ntmps37
 generalize hr1 : (Code.region 1 _ _ : Code) = R1
 go_wp2_with (first | ((with_reducible refine isBx 3 23 ?_); (refine L_box H rfl 23 _ rfl (cat ([Lf.v ⟨t, HT.out⟩])) rfl ?_); clear H; intro g3 w3 HGg3 HEg3 H; simp only [pA]) | ((with_reducible refine isAl 6 31 ?_); (refine L_alloc H rfl 31 rfl (cat (partsFr hd0 hd0_ok none 0 0)) (fun _ _ => by kernel_rfl) ?_); clear H; intro g6 w6 HGg6 HEg6 H; simp only [pA]))
 subst hr1
 refine region_z H 7 (by kernel_rfl) (by kernel_rfl) (by kernel_rfl) (by kernel_rfl) (by decide) (Nat.le_of_ble_eq_true (by kernel_rfl)) ?_
 apply Exists.intro
 refine ⟨fun xz2 => ?_, fun wz2 HXZ H => ?_⟩
 ·simp only [List.take_succ_cons, List.take_zero]
  unfold Cx
  repeat (first | ((with_reducible show wpQuiet _ _ _ _ (Oper.mk _ (Op.load 23 _) _ _ _ _ :: _) _); go_big_quiet_want; (first | (refine qz_v H 23 _ rfl 0 rfl _ rfl _ rfl rfl Try.underlying23 rfl (by kernel_rfl) ?_) | (refine qz_v H 23 _ rfl 1 rfl _ rfl _ rfl rfl Try.underlying23 rfl (by kernel_rfl) ?_) | (refine qz_v H 23 _ rfl 2 rfl _ rfl _ rfl rfl Try.underlying23 rfl (by kernel_rfl) ?_) | (refine qz_v H 23 _ rfl 3 rfl _ rfl _ rfl rfl Try.underlying23 rfl (by kernel_rfl) ?_) | (refine qz_v H 23 _ rfl 4 rfl _ rfl _ rfl rfl Try.underlying23 rfl (by kernel_rfl) ?_) | (refine qz_v H 23 _ rfl 5 rfl _ rfl _ rfl rfl Try.underlying23 rfl (by kernel_rfl) ?_)); simp only [pA]; go_big_quiet_on) | ((with_reducible show wpQuiet _ _ _ _ (Oper.mk _ (Op.build 28 _) _ _ _ _ :: _) _); go_big_quiet_want; refine qz_bd 28 _ rfl (#[(1, .int .u8 sub), (10, .agg (ptB.map V8).toArray), (11, .agg (t.map V8).toArray), (12, .agg (ptB.map V8).toArray)]) (by kernel_rfl) (cat (P)) (HB1.out) ?_; simp only [pA]; go_big_quiet_on) | ((with_reducible show wpQuiet _ _ _ _ (Oper.mk _ (Op.build 31 _) _ _ _ _ :: _) _); go_big_quiet_want; refine qz_bd 31 _ rfl (#[(0, .agg (cat P).toArray), (1, .slice ad n c)]) (by kernel_rfl) (cat (partsFr (reqH t sub) HOK.out ad n c)) (HB2.out) ?_; simp only [pA]; go_big_quiet_on) | go_big_quiet_step (exact Calls.cx_of (point_any _)))
  exact wpQuiet_nil rfl
 simp only [List.drop_succ_cons, List.drop_zero]
 go_wp2_with (first | ((with_reducible refine isSt 31 ?_); refine L_sa H rfl rfl 31 _ _ rfl 0 rfl rfl (partsFr (reqH t sub) HOK.out ad n c) rfl rfl (by kernel_rfl) ?_; clear H; intro wz HWwz H; simp only [szA] at H))
 exact ret_f1 H Try.results37 0 rfl rfl Try.underlying31 rfl (by kernel_rfl) rfl ⟨rfl, H.out.1⟩
def dtH (t : By) : Hd := ⟨2, 0, true, false, false, false, false, false, false, 0, ptB, t, zero6, zero6, 0, 0, 0, 0, false, false⟩
theorem dt_ok {t : By} (ht : t.length = 6) : (dtH t).Ok := ⟨by show (0:Int) ≤ 2; decide, by show (2:Int) < 256; decide, by show (0:Int) ≤ 0; decide, by show (0:Int) < 256; decide, by show (0:Int) ≤ 0; decide, by show (0:Int) < 256; decide, rfl, ht, rfl, rfl⟩
def bAu : By := two16 0 ++ two16 1 ++ two16 0
def bRq : By := two16 3 ++ two16 5
def bRe : By := two16 1
theorem k11 : (0:Int) ≤ 11 ∧ (11:Int) < 256 := by decide
theorem k0 : (0:Int) ≤ 0 ∧ (0:Int) < 256 := by decide
theorem k10 : (0:Int) ≤ 10 ∧ (10:Int) < 256 := by decide
def askP (t : By) (ht : t.length = 6) (a0 : Option Addr) (n0 c0 : Nat) (a1 : Option Addr) (n1 c1 : Nat) (a2 : Option Addr) (n2 c2 : Nat) : List Lf :=
 partsFr (reqH t 11) (req_ok ht k11.1 k11.2) a0 n0 c0 ++ (partsFr (reqH t 0) (req_ok ht k0.1 k0.2) a1 n1 c1 ++ (partsFr (reqH t 10) (req_ok ht k10.1 k10.2) a2 n2 c2 ++ partsFr (dtH t) (dt_ok ht) none 0 0))
def askZ : List Lf := partsFr hd0 hd0_ok none 0 0 ++ (partsFr hd0 hd0_ok none 0 0 ++ (partsFr hd0 hd0_ok none 0 0 ++ partsFr hd0 hd0_ok none 0 0))
theorem build_ask (t : By) (ht : t.length = 6) (a0 : Option Addr) (n0 c0 : Nat) (a1 : Option Addr) (n1 c1 : Nat) (a2 : Option Addr) (n2 c2 : Nat) (w : World) : (Instr.build 82 #[(0, .agg (cat (partsFr (reqH t 11) (req_ok ht k11.1 k11.2) a0 n0 c0)).toArray), (1, .agg (cat (partsFr (reqH t 0) (req_ok ht k0.1 k0.2) a1 n1 c1)).toArray), (2, .agg (cat (partsFr (reqH t 10) (req_ok ht k10.1 k10.2) a2 n2 c2)).toArray), (3, .agg (cat (partsFr (dtH t) (dt_ok ht) none 0 0)).toArray)]).run Try.prog w = .ok (.agg (cat (askP t ht a0 n0 c0 a1 n1 c1 a2 n2 c2)).toArray) w := by
 obtain ⟨_, _, _, _, _, _, rfl⟩ := six ht
 kernel_rfl
theorem build_dt (t : By) (ht : t.length = 6) (w : World) : (Instr.build 28 #[(0, .int .u8 2), (2, .bool true), (10, .agg (ptB.map V8).toArray), (11, .agg (t.map V8).toArray)]).run Try.prog w = .ok (.agg (cat (partsH (dtH t) (dt_ok ht))).toArray) w := by
 obtain ⟨_, _, _, _, _, _, rfl⟩ := six ht
 kernel_rfl
theorem build_df (t : By) (ht : t.length = 6) (w : World) : (Instr.build 31 #[(0, .agg (cat (partsH (dtH t) (dt_ok ht))).toArray)]).run Try.prog w = .ok (.agg (cat (partsFr (dtH t) (dt_ok ht) none 0 0)).toArray) w := by
 obtain ⟨_, _, _, _, _, _, rfl⟩ := six ht
 kernel_rfl
def AskR (t : By) (ht : t.length = 6) (w : World) (e : Ending) (w' : World) : Prop := ∃ a0 n0 c0 a1 n1 c1 a2 n2 c2, e = .returned (.agg (cat (askP t ht a0 n0 c0 a1 n1 c1 a2 n2 c2)).toArray) ∧ OwB w.heap.size w' (.slice a0 n0 c0) bAu ∧ OwB w.heap.size w' (.slice a1 n1 c1) bRq ∧ OwB w.heap.size w' (.slice a2 n2 c2) bRe ∧ Ext w w'
set_option maxRecDepth 4000 in
set_option maxHeartbeats 1600000 in
theorem asks_any (t : By) (ht : t.length = 6) (w : World) : Calls Try.prog 33 #[.agg (t.map V8).toArray] w (AskR t ht w) := by
 have H := kp (Loc.start w)
 have HT := kp ht
 have HB1 := kp (build_dt t ht)
 have HB2 := kp (build_df t ht)
 have HB4 := kp (fun a0 n0 c0 a1 n1 c1 a2 n2 c2 w => build_ask t ht a0 n0 c0 a1 n1 c1 a2 n2 c2 w)
 generalize hP : partsH (dtH t) (dt_ok ht) = P at HB1 HB2
 go_enter Try.func33, Try.ntmps33
 generalize hr4 : (Code.region 4 _ _ : Code) = R4
 generalize hr5 : (Code.region 5 _ _ : Code) = R5
 go_wp2_with (first | ((with_reducible refine isBx 1 23 ?_); (refine L_box H rfl 23 _ rfl (cat ([Lf.v ⟨t, HT.out⟩])) rfl ?_); clear H; intro g1 w1 HGg1 HEg1 H; simp only [pA]) | ((with_reducible refine isAl 2 82 ?_); (refine L_alloc H rfl 82 rfl (cat (askZ)) (fun _ _ => by kernel_rfl) ?_); clear H; intro g2 w2 HGg2 HEg2 H; simp only [pA]) | ((with_reducible show wpList _ _ _ (Oper.mk (some 11) (Op.build 74 _) _ _ _ _ :: _) _ _); (refine L_bd (by kernel_rfl) 74 _ rfl (#[(1, .int .u16 1)]) (by kernel_rfl) (cat (partsAu 0 1 0)) (fun w => by kernel_rfl) ?_); simp only [pA]) | ((with_reducible show wpList _ _ _ (Oper.mk (some 16) (Op.build 87 _) _ _ _ _ :: _) _ _); (refine L_bd (by kernel_rfl) 87 _ rfl (#[(0, .int .u16 3), (1, .int .u16 5)]) (by kernel_rfl) (cat (partsRq 3 5 zv6 none 0 0)) (fun w => by kernel_rfl) ?_); simp only [pA]) | ((with_reducible show wpList _ _ _ (Oper.mk (some 21) (Op.build 57 _) _ _ _ _ :: _) _ _); (refine L_bd (by kernel_rfl) 57 _ rfl (#[(0, .int .u16 1)]) (by kernel_rfl) (cat (partsRe 1)) (fun w => by kernel_rfl) ?_); simp only [pA]) | (go_at_call 35; refine (encAuth_any 0 1 0 (by decide) (by decide) (by decide) _).mono ?_; rintro e we ⟨v, rfl, ho, hx⟩; obtain ⟨a0, n0, c0, rfl⟩ := owns_form2 ho; have HO0 := kp (owns_weak ho H.out.1.size); clear ho; replace H := kp (H.out.ext hx); have HXC := kp hx; clear hx) | (go_at_call 34; refine (encReq_any 3 5 (by decide) (by decide) _).mono ?_; rintro e we ⟨v, rfl, ho, hx⟩; obtain ⟨a1, n1, c1, rfl⟩ := owns_form2 ho; have HO1 := kp (owns_weak ho H.out.1.size); clear ho; have HQ := kp (ownsT_ext HO0.out hx); clear HO0; have HO0 := HQ; clear HQ; replace H := kp (H.out.ext hx); have HXC := kp hx; clear hx) | (go_at_call 73; refine (encReason_any 1 (by decide) (by decide) _).mono ?_; rintro e we ⟨v, rfl, ho, hx⟩; obtain ⟨a2, n2, c2, rfl⟩ := owns_form2 ho; have HO2 := kp (owns_weak ho H.out.1.size); clear ho; have HQ := kp (ownsT_ext HO0.out hx); clear HO0; have HO0 := HQ; clear HQ; have HQ := kp (ownsT_ext HO1.out hx); clear HO1; have HO1 := HQ; clear HQ; replace H := kp (H.out.ext hx); have HXC := kp hx; clear hx))
 subst hr4
 refine region_za H 5 4 9 31 (cat (partsFr hd0 hd0_ok none 0 0)) (by kernel_rfl) (by kernel_rfl) (by kernel_rfl) (by kernel_rfl) (by intro o ho; cases ho; exact ⟨rfl, rfl, by simp, fun _ _ => by kernel_rfl⟩) (by decide) ?_
 apply Exists.intro
 refine ⟨fun xz2 => ?_, fun g9 wz2 HG9 HXZ H => ?_⟩
 ·simp only [List.take_succ_cons, List.take_zero, List.eraseIdx_cons_succ, List.eraseIdx_cons_zero]
  unfold Cx
  repeat (first | ((with_reducible show wpQuiet _ _ _ _ (Oper.mk _ (Op.load 23 _) _ _ _ _ :: _) _); go_big_quiet_want; (first | (refine qz_v H 23 _ rfl 0 rfl _ rfl _ rfl rfl Try.underlying23 rfl (by kernel_rfl) ?_) | (refine qz_v H 23 _ rfl 1 rfl _ rfl _ rfl rfl Try.underlying23 rfl (by kernel_rfl) ?_) | (refine qz_v H 23 _ rfl 2 rfl _ rfl _ rfl rfl Try.underlying23 rfl (by kernel_rfl) ?_) | (refine qz_v H 23 _ rfl 3 rfl _ rfl _ rfl rfl Try.underlying23 rfl (by kernel_rfl) ?_) | (refine qz_v H 23 _ rfl 4 rfl _ rfl _ rfl rfl Try.underlying23 rfl (by kernel_rfl) ?_) | (refine qz_v H 23 _ rfl 5 rfl _ rfl _ rfl rfl Try.underlying23 rfl (by kernel_rfl) ?_)); simp only [pA]; go_big_quiet_on) | ((with_reducible show wpQuiet _ _ _ _ (Oper.mk _ (Op.build 28 _) _ _ _ _ :: _) _); go_big_quiet_want; refine qz_bd 28 _ rfl (#[(0, .int .u8 2), (2, .bool true), (10, .agg (ptB.map V8).toArray), (11, .agg (t.map V8).toArray)]) (by kernel_rfl) (cat (P)) (HB1.out) ?_; simp only [pA]; go_big_quiet_on) | ((with_reducible show wpQuiet _ _ _ _ (Oper.mk _ (Op.build 31 _) _ _ _ _ :: _) _); go_big_quiet_want; refine qz_bd 31 _ rfl (#[(0, .agg (cat P).toArray)]) (by kernel_rfl) (cat (partsFr (dtH t) (dt_ok HT.out) none 0 0)) (HB2.out) ?_; simp only [pA]; go_big_quiet_on) | go_big_quiet_step (exact Calls.cx_of (point_any _)))
  exact wpQuiet_nil rfl
 simp only [List.drop_succ_cons, List.drop_zero, Act.put, List.setIfInBounds_toArray, List.set_cons_zero, List.set_cons_succ]
 go_wp2_with (first | ((with_reducible refine isSt 31 ?_); refine L_sa H rfl rfl 31 _ _ rfl 0 rfl rfl (partsFr (dtH t) (dt_ok HT.out) none 0 0) rfl rfl (by kernel_rfl) ?_; clear H; intro w9 HWw9 H; simp only [szA] at H))
 have HXZ1 := kp HXZ.out
 have HB4a := kp (HB4.out a0 n0 c0 a1 n1 c1 a2 n2 c2)
 clear HB4
 subst hr5
 have HF11 := kp (fun ad n c w => frame_any t HT.out 11 k11.1 k11.2 ad n c w)
 have HF0 := kp (fun ad n c w => frame_any t HT.out 0 k0.1 k0.2 ad n c w)
 have HF10 := kp (fun ad n c w => frame_any t HT.out 10 k10.1 k10.2 ad n c w)
 generalize h11 : partsFr (reqH t 11) (req_ok HT.out k11.1 k11.2) = C11 at HF11
 generalize h0 : partsFr (reqH t 0) (req_ok HT.out k0.1 k0.2) = C0 at HF0
 generalize h10 : partsFr (reqH t 10) (req_ok HT.out k10.1 k10.2) = C10 at HF10
 refine region_z H 10 (by kernel_rfl) (by kernel_rfl) (by kernel_rfl) (by kernel_rfl) (by decide) (Nat.le_of_ble_eq_true (by kernel_rfl)) ?_
 apply Exists.intro
 refine ⟨fun xz3 => ?_, fun wz3 HXZ H => ?_⟩
 ·simp only [List.take_succ_cons, List.take_zero]
  unfold Cx
  repeat (first | ((with_reducible show wpQuiet _ _ _ _ (Oper.mk _ (Op.load 23 _) _ _ _ _ :: _) _); go_big_quiet_want; (first | (refine qz_v H 23 _ rfl 0 rfl _ rfl _ rfl rfl Try.underlying23 rfl (by kernel_rfl) ?_) | (refine qz_v H 23 _ rfl 1 rfl _ rfl _ rfl rfl Try.underlying23 rfl (by kernel_rfl) ?_) | (refine qz_v H 23 _ rfl 2 rfl _ rfl _ rfl rfl Try.underlying23 rfl (by kernel_rfl) ?_) | (refine qz_v H 23 _ rfl 3 rfl _ rfl _ rfl rfl Try.underlying23 rfl (by kernel_rfl) ?_) | (refine qz_v H 23 _ rfl 4 rfl _ rfl _ rfl rfl Try.underlying23 rfl (by kernel_rfl) ?_) | (refine qz_v H 23 _ rfl 5 rfl _ rfl _ rfl rfl Try.underlying23 rfl (by kernel_rfl) ?_)); simp only [pA]; go_big_quiet_on) | ((with_reducible show wpQuiet _ _ _ _ (Oper.mk _ (Op.load 31 _) _ _ _ _ :: _) _); go_big_quiet_want; (first | (refine qz_a H 31 _ rfl 0 rfl rfl Try.underlying31 rfl (by kernel_rfl) ?_) | (refine qz_a H 31 _ rfl 1 rfl rfl Try.underlying31 rfl (by kernel_rfl) ?_) | (refine qz_a H 31 _ rfl 2 rfl rfl Try.underlying31 rfl (by kernel_rfl) ?_) | (refine qz_a H 31 _ rfl 3 rfl rfl Try.underlying31 rfl (by kernel_rfl) ?_) | (refine qz_a H 31 _ rfl 4 rfl rfl Try.underlying31 rfl (by kernel_rfl) ?_) | (refine qz_a H 31 _ rfl 5 rfl rfl Try.underlying31 rfl (by kernel_rfl) ?_)); simp only [pA]; go_big_quiet_on) | go_big_quiet_step (first | ((with_reducible show Calls _ _ #[_, Value.int IntKind.u8 11, _] _ _); exact Calls.cx_of (HF11.out _ _ _ _)) | ((with_reducible show Calls _ _ #[_, Value.int IntKind.u8 0, _] _ _); exact Calls.cx_of (HF0.out _ _ _ _)) | ((with_reducible show Calls _ _ #[_, Value.int IntKind.u8 10, _] _ _); exact Calls.cx_of (HF10.out _ _ _ _))))
  exact wpQuiet_nil rfl
 simp only [List.drop_succ_cons, List.drop_zero]
 subst h11 h0 h10
 have HO0a := kp (ownsT_ext (ownsT_ext HO0.out (ext_wrote HXZ1.out HWw9.out HG9.out)) HXZ.out)
 have HO1a := kp (ownsT_ext (ownsT_ext HO1.out (ext_wrote HXZ1.out HWw9.out HG9.out)) HXZ.out)
 have HO2a := kp (ownsT_ext (ownsT_ext HO2.out (ext_wrote HXZ1.out HWw9.out HG9.out)) HXZ.out)
 have HGG := kp (H.out.at 1 rfl)
 clear HO0 HO1 HO2 HF11 HF0 HF10 HB1 HB2
 go_wp2_with (first | ((with_reducible show wpList _ _ _ (Oper.mk (some 39) (Op.build 82 _) _ _ _ _ :: _) _ _); (refine L_bd (by kernel_rfl) 82 _ rfl (#[(0, .agg (cat (partsFr (reqH t 11) (req_ok HT.out k11.1 k11.2) a0 n0 c0)).toArray), (1, .agg (cat (partsFr (reqH t 0) (req_ok HT.out k0.1 k0.2) a1 n1 c1)).toArray), (2, .agg (cat (partsFr (reqH t 10) (req_ok HT.out k10.1 k10.2) a2 n2 c2)).toArray), (3, .agg (cat (partsFr (dtH t) (dt_ok HT.out) none 0 0)).toArray)]) (by kernel_rfl) (cat (askP t HT.out a0 n0 c0 a1 n1 c1 a2 n2 c2)) (HB4a.out) ?_); simp only [pA]) | ((with_reducible refine isSt 82 ?_); refine L_sa H rfl rfl 82 _ _ rfl 1 rfl rfl (askP t HT.out a0 n0 c0 a1 n1 c1 a2 n2 c2) rfl rfl (by kernel_rfl) ?_; clear H; intro wF HWwF H; simp only [ssA, szA] at H))
 exact ret_f1 H Try.results33 1 rfl rfl Try.underlying82 rfl (by kernel_rfl) rfl ⟨a0, n0, c0, a1, n1, c1, a2, n2, c2, rfl, owns_wroteT HO0a.out HWwF.out HGG.out (show 5 ≠ 82 from by decide), owns_wroteT HO1a.out HWwF.out HGG.out (show 5 ≠ 82 from by decide), owns_wroteT HO2a.out HWwF.out HGG.out (show 5 ≠ 82 from by decide), H.out.1⟩
end Go.Proofs.Ytfecopfofkdnpaa
