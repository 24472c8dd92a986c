/- Texts of this proof, put together: Aid. -/
import Derived.Test.YtfecopfofkdnpaaA4
import Derived.Test.YtfecopfofkdnpaaS1
import Derived.Test.YtfecopfofkdnpaaS2
import Derived.Test.YtfecopfofkdnpaaS3
import Derived.Test.YtfecopfofkdnpaaS4
import Derived.Test.YtfecopfofkdnpaaS5
import Derived.Test.YtfecopfofkdnpaaS6
import Derived.Test.YtfecopfofkdnpaaS7
import Derived.Test.YtfecopfofkdnpaaS8
import Derived.Test.YtfecopfofkdnpaaS9
import Derived.Test.YtfecopfofkdnpaaS10
import Derived.Test.YtfecopfofkdnpaaS11
import Derived.Test.YtfecopfofkdnpaaS12
import Derived.Test.YtfecopfofkdnpaaS13
import Derived.Test.YtfecopfofkdnpaaS14
import Derived.Test.YtfecopfofkdnpaaS15
import Derived.Test.YtfecopfofkdnpaaS16
import Derived.Test.YtfecopfofkdnpaaS17
import Derived.Test.YtfecopfofkdnpaaS18
import Derived.Test.YtfecopfofkdnpaaS19
import Derived.Test.YtfecopfofkdnpaaS20
import Derived.Test.YtfecopfofkdnpaaS21
import Derived.Test.YtfecopfofkdnpaaS22
import Derived.Test.YtfecopfofkdnpaaS23
import Derived.Test.YtfecopfofkdnpaaS24
import Derived.Test.YtfecopfofkdnpaaS25
import Derived.Test.YtfecopfofkdnpaaS26
import Derived.Test.YtfecopfofkdnpaaS27
import Derived.Test.YtfecopfofkdnpaaS28
import Derived.Test.YtfecopfofkdnpaaS29
import Derived.Test.YtfecopfofkdnpaaS30
import Derived.Test.YtfecopfofkdnpaaA1
namespace Go.Proofs.Ytfecopfofkdnpaa
open Go.RowKit
def AidO (a : As) (ha : a.own.length = 6) (L : List SI) (w : World) (g12 : Nat) (b5 : Bk) (vs : Tmp → Value) (wr : World) : Prop :=
 ∃ (j : Nat) (la : List En) (ad : Option Addr) (n c : Nat), j ≤ L.length ∧ vs 14 = .int .i64 j ∧ Kp (OkL a la ∧ L6 la) ∧ Kp (Loc w wr [(g12, 26, cat (partsA a ha ad n c)), b5]) ∧ Kp (OwE w.heap.size wr (.slice ad n c) la)
def AidI (m : List En) (w wT : World) (g18 : Nat) (rest : List Bk) (vs : Tmp → Value) (wr : World) : Prop :=
 ∃ k : Nat, k ≤ m.length ∧ vs 20 = .int .i64 k ∧ vs 19 = .int .i64 (membersF (m.take k) : Nat) ∧ Kp (Loc w wr ((g18, 66, heldC (m.take k)) :: rest)) ∧ Kp (Ext wT wr)
theorem do_ans (a : As) (l : List En) (s : Stp) (h0 : s.kind = 0) : ∀ o ∈ (doF a l s).2.1, AnsP a s.h.a2 o := by
 unfold doF
 rw [if_pos h0]
 exact (handle_ans a l s.h s.b s.now).2
theorem rp_all {bb : By} {x y z : Int} (h0 : respE bb = 0) (hr : rdF bb 0 = x ∧ rdF bb 2 = y ∧ rdF bb 4 = z) {w w' : World} {e : Ending} (h : RpR bb w e w') : ∃ a k q, e = .returned (.tuple #[.agg (cat (pRs x y z a k q)).toArray, .int .i64 0]) ∧ Ext w w' := by
 obtain ⟨x', y', z', a, k, q, rfl, hx, h1, _⟩ := h
 obtain ⟨rfl, rfl, rfl⟩ := h1 h0
 obtain ⟨rfl, rfl, rfl⟩ := hr
 exact ⟨a, k, q, by rw [h0], hx⟩
set_option maxRecDepth 10000 in
set_option maxHeartbeats 12800000 in
theorem assocAids_walk (own : By) (ho : own.length = 6) (caps limit idle : Int) (v : Value) (L : List SI) (hn : L.length ≤ 9223372036854775807) (w : World) (hsl : SlT 49 cellsSI w v L ∧ ∀ x ∈ L, SIOk w x) :
  Calls Try.prog 5 #[.agg (own.map V8).toArray, .int .i64 caps, .int .i64 limit, .int .i64 idle, v] w fun e w' => e = .returned (.bool true) ∧ Ext w w' := by
 obtain ⟨hs, hok⟩ := hsl
 have HSL := kp hs
 have HOK := kp hok
 have HOW := kp ho
 have H := kp (Loc.start w)
 obtain ⟨sd, sn, sc, rfl, hnl, hcap, hat⟩ := hs
 have HAT := kp hat; have HNL := kp hnl
 have hnn : sn ≤ 9223372036854775807 := by omega
 have HGR := kp (fun w' hs => great30_any sd sn sc L (fun x hx => (HOK.out x hx).ok) w' hs)
 have HNW := kp (fun w' => new_any ⟨own, caps, limit, idle⟩ HOW.out w')
 obtain ⟨a, hae⟩ : ∃ a : As, a = ⟨own, caps, limit, idle⟩ := ⟨_, rfl⟩
 have HAE := kp hae
 have HA6 := kp (show a.own.length = 6 from by rw [hae]; exact ho)
 have HCA := kp (show cellsA ⟨own, caps, limit, idle⟩ nilV = cat (partsA a HA6.out none 0 0) from by rw [← hae]; exact cat_A _ HA6.out none 0 0)
 clear hat hok hn hcap hnl
 cases hv : validA ⟨own, caps, limit, idle⟩ [] with
 | false =>
  rw [(new_bad hv).1, (new_bad hv).2, show cellsA as0 nilV = cat (partsA as0 rfl none 0 0) from cat_A as0 rfl none 0 0] at HNW
  clear hv hae
  go_enter Try.func5, Try.ntmps5
  go_wp2_with (first | ((with_reducible refine isBx 5 23 ?_); (refine L_box H rfl 23 _ rfl (cat ([Lf.v ⟨own, HOW.out⟩])) rfl ?_); clear H; intro g5 w5 HGg5 HEg5 H; simp only [pA]) | (go_at_call 21; refine (alive_any _).mono ?_; rintro e wv ⟨rfl, hx⟩; replace H := kp (H.out.ext hx); have HXC := kp hx; clear hx) | ((with_reducible refine isLd 23 ?_); (first | (refine L_fv H rfl 23 _ rfl 0 rfl _ rfl _ rfl rfl Try.underlying23 rfl (by kernel_rfl) ?_) | (refine L_fv H rfl 23 _ rfl 1 rfl _ rfl _ rfl rfl Try.underlying23 rfl (by kernel_rfl) ?_) | (refine L_fv H rfl 23 _ rfl 2 rfl _ rfl _ rfl rfl Try.underlying23 rfl (by kernel_rfl) ?_) | (refine L_fv H rfl 23 _ rfl 3 rfl _ rfl _ rfl rfl Try.underlying23 rfl (by kernel_rfl) ?_) | (refine L_fv H rfl 23 _ rfl 4 rfl _ rfl _ rfl rfl Try.underlying23 rfl (by kernel_rfl) ?_) | (refine L_fv H rfl 23 _ rfl 5 rfl _ rfl _ rfl rfl Try.underlying23 rfl (by kernel_rfl) ?_)); simp only [pA]) | (go_at_call 10; refine (HNW.out _).mono ?_; rintro e wn ⟨rfl, hx⟩; replace H := kp (H.out.ext hx); have HXC := kp hx; clear hx) | ((with_reducible refine isAl 12 26 ?_); (refine L_alloc H rfl 26 rfl (cat (partsA as0 rfl none 0 0)) (fun _ _ => by kernel_rfl) ?_); clear H; intro g12 w12 HGg12 HEg12 H; simp only [pA]) | ((with_reducible refine isSt 26 ?_); refine L_sa H rfl rfl 26 _ _ rfl 0 rfl rfl (partsA as0 rfl none 0 0) rfl rfl (by kernel_rfl) ?_; clear H; intro w12b HWw12b H; simp only [szA] at H))
  go_ret
  exact ⟨rfl, H.out.1⟩
 | true =>
  have HOA := kp ((valid_iff _ _).1 hv)
  rw [(new_good hv).1, (new_good hv).2, HCA.out] at HNW
  rw [← hae] at HOA
  clear hv hae
  cases hg : greatS L with
  | true =>
   rw [hg] at HGR
   clear hg
   go_enter Try.func5, Try.ntmps5
   go_wp2_with (first | ((with_reducible refine isBx 5 23 ?_); (refine L_box H rfl 23 _ rfl (cat ([Lf.v ⟨own, HOW.out⟩])) rfl ?_); clear H; intro g5 w5 HGg5 HEg5 H; simp only [pA]) | (go_at_call 21; refine (alive_any _).mono ?_; rintro e wv ⟨rfl, hx⟩; replace H := kp (H.out.ext hx); have HXC := kp hx; clear hx) | ((with_reducible refine isLd 23 ?_); (first | (refine L_fv H rfl 23 _ rfl 0 rfl _ rfl _ rfl rfl Try.underlying23 rfl (by kernel_rfl) ?_) | (refine L_fv H rfl 23 _ rfl 1 rfl _ rfl _ rfl rfl Try.underlying23 rfl (by kernel_rfl) ?_) | (refine L_fv H rfl 23 _ rfl 2 rfl _ rfl _ rfl rfl Try.underlying23 rfl (by kernel_rfl) ?_) | (refine L_fv H rfl 23 _ rfl 3 rfl _ rfl _ rfl rfl Try.underlying23 rfl (by kernel_rfl) ?_) | (refine L_fv H rfl 23 _ rfl 4 rfl _ rfl _ rfl rfl Try.underlying23 rfl (by kernel_rfl) ?_) | (refine L_fv H rfl 23 _ rfl 5 rfl _ rfl _ rfl rfl Try.underlying23 rfl (by kernel_rfl) ?_)); simp only [pA]) | (go_at_call 10; refine (HNW.out _).mono ?_; rintro e wn ⟨rfl, hx⟩; replace H := kp (H.out.ext hx); have HXC := kp hx; clear hx) | ((with_reducible refine isAl 12 26 ?_); (refine L_alloc H rfl 26 rfl (cat (partsA as0 rfl none 0 0)) (fun _ _ => by kernel_rfl) ?_); clear H; intro g12 w12 HGg12 HEg12 H; simp only [pA]) | ((with_reducible refine isSt 26 ?_); refine L_sa H rfl rfl 26 _ _ rfl 0 rfl rfl (partsA a HA6.out none 0 0) rfl rfl (by kernel_rfl) ?_; clear H; intro w12b HWw12b H; simp only [szA] at H) | (go_at_call 24; refine (HGR.out _ (HSL.out.ext H.out.1)).mono ?_; rintro e wg ⟨rfl, hx⟩; replace H := kp (H.out.ext hx); have HXC := kp hx; clear hx))
   go_ret
   exact ⟨rfl, H.out.1⟩
  | false =>
   have HGF := kp hg
   rw [hg] at HGR
   clear hg
   go_enter Try.func5, Try.ntmps5
   generalize hr5 : (Code.region 5 _ _ : Code) = R5
   go_wp2_with (first | ((with_reducible refine isBx 5 23 ?_); (refine L_box H rfl 23 _ rfl (cat ([Lf.v ⟨own, HOW.out⟩])) rfl ?_); clear H; intro g5 w5 HGg5 HEg5 H; simp only [pA]) | (go_at_call 21; refine (alive_any _).mono ?_; rintro e wv ⟨rfl, hx⟩; replace H := kp (H.out.ext hx); have HXC := kp hx; clear hx) | ((with_reducible refine isLd 23 ?_); (first | (refine L_fv H rfl 23 _ rfl 0 rfl _ rfl _ rfl rfl Try.underlying23 rfl (by kernel_rfl) ?_) | (refine L_fv H rfl 23 _ rfl 1 rfl _ rfl _ rfl rfl Try.underlying23 rfl (by kernel_rfl) ?_) | (refine L_fv H rfl 23 _ rfl 2 rfl _ rfl _ rfl rfl Try.underlying23 rfl (by kernel_rfl) ?_) | (refine L_fv H rfl 23 _ rfl 3 rfl _ rfl _ rfl rfl Try.underlying23 rfl (by kernel_rfl) ?_) | (refine L_fv H rfl 23 _ rfl 4 rfl _ rfl _ rfl rfl Try.underlying23 rfl (by kernel_rfl) ?_) | (refine L_fv H rfl 23 _ rfl 5 rfl _ rfl _ rfl rfl Try.underlying23 rfl (by kernel_rfl) ?_)); simp only [pA]) | (go_at_call 10; refine (HNW.out _).mono ?_; rintro e wn ⟨rfl, hx⟩; replace H := kp (H.out.ext hx); have HXC := kp hx; clear hx) | ((with_reducible refine isAl 12 26 ?_); (refine L_alloc H rfl 26 rfl (cat (partsA as0 rfl none 0 0)) (fun _ _ => by kernel_rfl) ?_); clear H; intro g12 w12 HGg12 HEg12 H; simp only [pA]) | ((with_reducible refine isSt 26 ?_); refine L_sa H rfl rfl 26 _ _ rfl 0 rfl rfl (partsA a HA6.out none 0 0) rfl rfl (by kernel_rfl) ?_; clear H; intro w12b HWw12b H; simp only [szA] at H) | (go_at_call 24; refine (HGR.out _ (HSL.out.ext H.out.1)).mono ?_; rintro e wg ⟨rfl, hx⟩; replace H := kp (H.out.ext hx); have HXC := kp hx; clear hx))
   subst hr5
   go_wp2_with fail
   have HOE := kp (OwE.nil w.heap.size wg)
   refine wp_loopC (14 :: 15 :: 16 :: 17 :: 18 :: 19 :: 20 :: 21 :: 22 :: 23 :: 24 :: 25 :: 46 :: 47 :: 48 :: 49 :: 50 :: 51 :: 52 :: 53 :: 54 :: 55 :: 56 :: 57 :: 58 :: 59 :: 60 :: 61 :: 62 :: 63 :: 64 :: 65 :: 66 :: 67 :: 68 :: 69 :: 70 :: 71 :: 72 :: 73 :: 74 :: 75 :: 76 :: 77 :: 78 :: 79 :: 80 :: 81 :: 82 :: 83 :: 84 :: 85 :: 86 :: 87 :: 88 :: 89 :: 90 :: 91 :: 92 :: 93 :: 94 :: 95 :: 96 :: 97 :: 98 :: 99 :: 100 :: 101 :: 102 :: 103 :: 104 :: 105 :: 106 :: 107 :: 108 :: 109 :: 110 :: 111 :: 112 :: 113 :: 114 :: 115 :: 116 :: 117 :: 118 :: 119 :: 120 :: 121 :: 122 :: 123 :: 124 :: 125 :: 126 :: 127 :: 128 :: 129 :: 130 :: 131 :: 132 :: 133 :: 134 :: 135 :: 136 :: 137 :: 138 :: 139 :: 140 :: 141 :: 142 :: 143 :: 144 :: 145 :: 146 :: 147 :: 148 :: 149 :: 150 :: 151 :: 152 :: 153 :: 154 :: 155 :: 156 :: 157 :: 158 :: 159 :: 160 :: 161 :: 162 :: 163 :: 164 :: 165 :: 166 :: 167 :: 168 :: 169 :: 170 :: 171 :: 172 :: 173 :: 174 :: 175 :: 176 :: 177 :: 178 :: 179 :: 180 :: 181 :: 182 :: 183 :: 184 :: []) (AidO a HA6.out L w g12 (g5, 23, cat [Lf.v ⟨own, HOW.out⟩])) (fun vs _ => sn - (intOf (vs 14)).toNat) (by kernel_rfl) ⟨0, [], none, 0, 0, Nat.zero_le _, rfl, kp ⟨HOA.out, fun x hx => by cases hx⟩, H, HOE⟩ ?_
   clear H HOE HOA HNW HGR HCA
   rintro vs wr ⟨j, la, ad, n, c, hj, q14, HLA, H, HOE⟩
   simp only [putMany, List.setIfInBounds_toArray, List.set_cons_zero, List.set_cons_succ]
   rw [q14]
   clear q14
   generalize hr8 : (Code.region 8 _ _ : Code) = R8
   generalize hr10 : (Code.region 10 _ _ : Code) = R10
   generalize hr28 : (Code.region 28 _ _ : Code) = R28
   by_cases hlt : j < sn
   ·obtain ⟨x, hx⟩ : ∃ x, L[j]? = some x := ⟨L[j]'(by rw [← HNL.out]; exact hlt), by simp⟩
    obtain ⟨b, off, rfl, hb, hr⟩ := HAT.out j x hx
    have hxm := List.mem_of_getElem? hx
    have HXO := kp (HOK.out x hxm)
    have HR3 := kp (fun W (hW : Ext wr W) => show W.rangeAt b (off + j * 49) (cat (partsS x.1 HXO.out.ok x.2.1 x.1.b.length x.2.2)) from cat_SI x HXO.out.ok ▸ rangeAt_ext hr hb (H.out.1.trans hW))
    have HZX := kp (show (Try.prog.info? 65).map (·.size) = some (cat (partsS x.1 HXO.out.ok x.2.1 x.1.b.length x.2.2)).length by rw [cat_len]; kernel_rfl)
    have HBL := kp (show x.1.b.length ≤ 100000 from by
     have h1 := HGF.out
     simp only [greatS, Bool.or_eq_false_iff, List.any_eq_false, bigS, decide_eq_true_eq] at h1
     have := h1.2 x hxm
     omega)
    have HSB := kp (HXO.out.b)
    have HDO := kp (fun W (hW : Ext wr W) => do_any a HA6.out la HLA.out.2 (Nat.le_trans (ok_len HLA.out.1) (by decide)) ad n c x.1 HXO.out.ok x.2.1 x.1.b.length x.2.2 HBL.out HXO.out.le W ((HOE.out.slt HLA.out.2).ext hW) (HSB.out.ext (H.out.1.trans hW)))
    have HAP := kp (fun h0 => do_ans a la x.1 h0)
    have HKC := kp (fun W (hW : Ext wr W) => show W.cell? ⟨b, off + j * 49, none⟩ = some (.int .i64 x.1.kind) from range_cell (HR3.out W hW) (off := 0) (i := 0) rfl rfl)
    have HDK := kp (fun he => do_ok (s := x.1) HLA.out.1 HLA.out.2 HXO.out.ok he)
    generalize hX : partsS x.1 HXO.out.ok x.2.1 x.1.b.length x.2.2 = X at *
    generalize doF a la x.1 = r at *
    clear hb hr hx hxm
    go_wp2_with fail
    subst hr8
    refine region_freeE H (tabS [(53, fun vQ _ => vQ = .agg (cat (partsA a HA6.out ad n c)).toArray), (54, fun vQ _ => vQ = .slice (some ⟨b, off, none⟩) sn sc), (55, fun vQ _ => vQ = .int .i64 (j : Int)), (56, fun vQ _ => vQ = .pointer (some ⟨b, off + j * 49, none⟩)), (57, fun vQ _ => vQ = .agg (cat X).toArray), (58, fun vQ wQ => DoV w.heap.size a r vQ wQ), (52, fun vQ wQ => DoV w.heap.size a r vQ wQ), (59, fun vQ wQ => AsV w.heap.size a r vQ wQ), (60, fun vQ wQ => FrS w.heap.size r.2.1 vQ wQ), (61, fun vQ _ => vQ = .int .i64 r.2.2), (16, fun vQ wQ => FrS w.heap.size r.2.1 vQ wQ), (17, fun vQ _ => vQ = .int .i64 r.2.2)]) 10 11 15 59 26 (cat (partsA as0 rfl none 0 0)) 14 (tabS_trE _ _ _ (by simp only [List.forall_mem_cons]; exact ⟨monoE_eq _ _ _, monoE_eq _ _ _, monoE_eq _ _ _, monoE_eq _ _ _, monoE_eq _ _ _, (monoE_DoV _ _ _ _), (monoE_DoV _ _ _ _), (monoE_AsV _ _ _ _), (monoE_FrS _ _ _), monoE_eq _ _ _, (monoE_FrS _ _ _), monoE_eq _ _ _, by simp⟩)) (fun _ _ => trivial) ((fun _ _ h => asV_one h)) (by kernel_rfl) (by kernel_rfl) (by kernel_rfl) (by kernel_rfl) _ _ rfl rfl (by decide) (by decide) (by decide) rfl rfl rfl (fun _ => by kernel_rfl) rfl rfl rfl (by kernel_rfl) (by kernel_rfl) (by kernel_rfl) ((by kernel_rfl)) (by kernel_rfl) ?_
    simp only [List.take_succ_cons, List.take_zero]
    refine ⟨fun _ w_ o_ S_ => ?_, fun v53 => ?_⟩
    ·clear S_
     have H := kp (H.out.ext o_)
     have HOX := kp o_
     clear o_
     go_wp2_with ((with_reducible refine isLd 26 ?_); (first | (refine L_fa H rfl 26 _ rfl 0 rfl rfl Try.underlying26 rfl (by kernel_rfl) ?_) | (refine L_fa H rfl 26 _ rfl 1 rfl rfl Try.underlying26 rfl (by kernel_rfl) ?_) | (refine L_fa H rfl 26 _ rfl 2 rfl rfl Try.underlying26 rfl (by kernel_rfl) ?_) | (refine L_fa H rfl 26 _ rfl 3 rfl rfl Try.underlying26 rfl (by kernel_rfl) ?_) | (refine L_fa H rfl 26 _ rfl 4 rfl rfl Try.underlying26 rfl (by kernel_rfl) ?_) | (refine L_fa H rfl 26 _ rfl 5 rfl rfl Try.underlying26 rfl (by kernel_rfl) ?_)); simp only [pA])
     exact kso
    simp only [pA]
    refine ⟨fun _ w_ o_ S_ => ?_, fun v54 => ?_⟩
    ·clear S_
     clear o_
     go_wp2_with fail
     exact kso
    simp only [pA]
    refine ⟨fun _ w_ o_ S_ => ?_, fun v55 => ?_⟩
    ·clear S_
     clear o_
     go_wp2_with fail
     exact kso
    simp only [pA]
    refine ⟨fun _ w_ o_ S_ => ?_, fun v56 => ?_⟩
    ·obtain rfl : v54 = .slice (some ⟨b, off, none⟩) sn sc := hsR S_ 54 rfl
     obtain rfl : v55 = .int .i64 (j : Int) := hsR S_ 55 rfl
     clear S_
     have H := kp (H.out.ext o_)
     have HOX := kp o_
     clear o_
     go_wp2_with fail
     exact kso
    simp only [pA]
    refine ⟨fun _ w_ o_ S_ => ?_, fun v57 => ?_⟩
    ·obtain rfl : v56 = .pointer (some ⟨b, off + j * 49, none⟩) := hsR S_ 56 rfl
     clear S_
     have H := kp (H.out.ext o_)
     have HOX := kp o_
     clear o_
     go_wp2_with ((with_reducible refine isLd 65 ?_); (refine wpList_load_midG (by kernel_rfl) 65 _ rfl (b) (off + j * 49) rfl (cat X) _ (HR3.out _ HOX.out) Try.underlying65 rfl (HZX.out) ?_); simp only [pA])
     exact kso
    simp only [pA]
    refine ⟨fun _ w_ o_ S_ => ?_, fun v58 => ?_⟩
    ·obtain rfl : v53 = .agg (cat (partsA a HA6.out ad n c)).toArray := hsR S_ 53 rfl
     obtain rfl : v57 = .agg (cat X).toArray := hsR S_ 57 rfl
     clear S_
     have H := kp (H.out.ext o_)
     have HOX := kp o_
     clear o_
     go_wp2_with fail
     refine (HDO.out _ HOX.out).mono ?_
     intro e w2 hrr
     obtain ⟨v2, rfl, hd, hx⟩ := doV_of HA6.out hrr H.out.1.size
     have HDV := kp hd
     have HXC := kp hx
     clear hrr hd hx
     go_wp2_with fail
     exact ⟨rfl, _, rfl, fun d hd => by cases hd; exact HDV.out, HXC.out⟩
    simp only [pA]
    refine ⟨fun _ w_ o_ S_ => ?_, fun v52 => ?_⟩
    ·have h58 := kp (show DoV w.heap.size a r v58 w_ from hsR S_ 58 rfl)
     clear S_ o_
     go_wp2_with fail
     exact ⟨rfl, _, rfl, fun d hd => by cases hd; exact h58.out, Ext.refl _⟩
    simp only [pA]
    refine ⟨fun _ w_ o_ S_ => ?_, fun v59 => ?_⟩
    ·have h52 := kp (show DoV w.heap.size a r v52 w_ from hsR S_ 52 rfl)
     clear S_
     have H := kp (H.out.ext o_)
     have HOX := kp o_
     clear o_
     obtain ⟨u, vo, rfl, hs, hf⟩ := h52.out
     have HAV := kp hs
     clear hs hf
     go_wp2_with fail
     exact ⟨rfl, _, rfl, fun d hd => by cases hd; exact HAV.out, Ext.refl _⟩
    simp only [pA]
    refine ⟨fun _ w_ o_ S_ => ?_, fun v60 => ?_⟩
    ·have h52 := kp (show DoV w.heap.size a r v52 w_ from hsR S_ 52 rfl)
     clear S_
     have H := kp (H.out.ext o_)
     have HOX := kp o_
     clear o_
     obtain ⟨u, vo, rfl, hs, hf⟩ := h52.out
     have HFV := kp hf
     clear hs hf
     go_wp2_with fail
     exact ⟨rfl, _, rfl, fun d hd => by cases hd; exact HFV.out, Ext.refl _⟩
    simp only [pA]
    refine ⟨fun _ w_ o_ S_ => ?_, fun v61 => ?_⟩
    ·have h52 := kp (show DoV w.heap.size a r v52 w_ from hsR S_ 52 rfl)
     clear S_
     have H := kp (H.out.ext o_)
     have HOX := kp o_
     clear o_
     obtain ⟨u, vo, rfl, hs, hf⟩ := h52.out
     clear hs hf
     go_wp2_with fail
     exact kso
    simp only [pA]
    refine ⟨(fun h => by cases h), fun v15 => ?_⟩
    simp only [pA]
    refine ⟨(fun h => by cases h), fun _ => ?_⟩
    refine ⟨fun _ w_ o_ S_ => ?_, fun v16 => ?_⟩
    ·have h60 := kp (show FrS w.heap.size r.2.1 v60 w_ from hsR S_ 60 rfl)
     clear S_ o_
     go_wp2_with fail
     exact ⟨rfl, _, rfl, fun d hd => by cases hd; exact h60.out, Ext.refl _⟩
    simp only [pA]
    refine ⟨fun _ w_ o_ S_ => ?_, fun v17 => ?_⟩
    ·obtain rfl : v61 = .int .i64 r.2.2 := hsR S_ 61 rfl
     clear S_ o_
     go_wp2_with fail
     exact kso
    simp only [pA]
    clear H
    intro wn HOX hfin hvar
    obtain ⟨g15, csg15, hvg, hvb, hvv, H⟩ := hvar
    have HBg15 := kp hvb
    have HVg15 := kp (show v59 = .agg csg15.toArray from hvv)
    clear hvb hvv
    obtain rfl : v15 = .pointer (some ⟨g15, 0, none⟩) := hvg
    obtain rfl : v53 = .agg (cat (partsA a HA6.out ad n c)).toArray := hfin 53 (by decide)
    obtain rfl : v54 = .slice (some ⟨b, off, none⟩) sn sc := hfin 54 (by decide)
    obtain rfl : v55 = .int .i64 (j : Int) := hfin 55 (by decide)
    obtain rfl : v56 = .pointer (some ⟨b, off + j * 49, none⟩) := hfin 56 (by decide)
    obtain rfl : v57 = .agg (cat X).toArray := hfin 57 (by decide)
    have F58 := kp (show DoV w.heap.size a r v58 wn from hfin 58 (by decide))
    have F52 := kp (show DoV w.heap.size a r v52 wn from hfin 52 (by decide))
    have F59 := kp (show AsV w.heap.size a r v59 wn from hfin 59 (by decide))
    have F60 := kp (show FrS w.heap.size r.2.1 v60 wn from hfin 60 (by decide))
    obtain rfl : v61 = .int .i64 r.2.2 := hfin 61 (by decide)
    have F16 := kp (show FrS w.heap.size r.2.1 v16 wn from hfin 16 (by decide))
    obtain rfl : v17 = .int .i64 r.2.2 := hfin 17 (by decide)
    clear hfin
    simp only [List.drop_succ_cons, List.drop_zero]
    try simp only [applyS] at H
    have HXN := HOX
    obtain ⟨aN, hN, ad2, n2, c2, haN, e59, hO⟩ := F59.out
    have hcs := HVg15.out.symm.trans e59
    injection hcs with hcs
    have hcs : csg15 = cat (partsA aN hN ad2 n2 c2) := congrArg Array.toList hcs
    subst hcs e59
    have HOW2 := kp hO
    obtain ⟨va, vn, vc, rfl⟩ := frs_form F16.out
    have HAN := kp haN
    clear F59 F58 F52 F60 HVg15 HXN hO haN
    by_cases he : r.2.2 = 0
    ·have HE := kp he
     rw [he]
     rw [if_pos he] at HAN
     have hso := HDK.out he
     obtain rfl : a = aN := HAN.out.symm
     have HSO := kp hso
     clear he hso HDO HDK
     subst hr10
     go_wp2_with (first | ((with_reducible refine isAl 18 66 ?_); (refine L_alloc H rfl 66 rfl (cat ([⟨256, List.replicate 256 (.bool false), by simp, by decide⟩])) (fun _ _ => by kernel_rfl) ?_); clear H; intro g18 w18 HGg18 HEg18 H; simp only [pA]))
     have hso9 := HSO
     obtain ⟨_, hnl2⟩ := owe_len HOW2.out
     obtain ⟨_, _, _, he9, -, -, hat2⟩ := HOW2.out.slt HSO.out.l6
     cases he9
     have HAT2 := kp hat2
     have HNL2 := kp hnl2
     have hn64 : n2 ≤ 64 := by rw [hnl2]; exact ok_len HSO.out.ok
     clear hat2 hnl2
     have HO0 : Kp (Loc w w18 ((g18, 66, heldC (r.1.take 0)) :: [(g15, 26, cat (partsA a hN ad2 n2 c2)), (g12, 26, cat (partsA a HA6.out ad n c)), (g5, 23, cat [Lf.v ⟨own, HOW.out⟩])])) := by rw [show heldC (r.1.take 0) = List.replicate 256 (Value.bool false) from heldC_nil]; exact H
     refine wp_loopC (19 :: 20 :: 21 :: 22 :: 23 :: 24 :: 25 :: 64 :: 65 :: 66 :: 67 :: 68 :: 69 :: 70 :: 71 :: 72 :: 73 :: 74 :: 75 :: 76 :: 77 :: 78 :: 79 :: 80 :: 81 :: 82 :: 83 :: 84 :: 85 :: 86 :: 87 :: 88 :: 89 :: 90 :: 91 :: 92 :: 93 :: 94 :: 95 :: 96 :: 97 :: 98 :: 99 :: 100 :: 101 :: 102 :: 103 :: 104 :: 105 :: 106 :: 107 :: 108 :: 109 :: 110 :: 111 :: 112 :: 113 :: 114 :: 115 :: 116 :: 117 :: 118 :: 119 :: 120 :: 121 :: 122 :: 123 :: 124 :: 125 :: 126 :: 127 :: 128 :: 129 :: 130 :: 131 :: 132 :: 133 :: 134 :: 135 :: 136 :: 137 :: 138 :: 139 :: 140 :: 141 :: 142 :: 143 :: 144 :: 145 :: 146 :: 147 :: 148 :: 149 :: 150 :: 151 :: 152 :: 153 :: 154 :: 155 :: 156 :: 157 :: 158 :: 159 :: 160 :: 161 :: 162 :: 163 :: 164 :: 165 :: 166 :: 167 :: 168 :: 169 :: 170 :: 171 :: 172 :: 173 :: 174 :: 175 :: []) (AidI r.1 w wn g18 [(g15, 26, cat (partsA a hN ad2 n2 c2)), (g12, 26, cat (partsA a HA6.out ad n c)), (g5, 23, cat [Lf.v ⟨own, HOW.out⟩])]) (fun vs _ => n2 - (intOf (vs 20)).toNat) (by kernel_rfl) ⟨0, Nat.zero_le _, rfl, rfl, HO0, HEg18⟩ ?_
     clear H HO0
     rintro vs2 wq ⟨k, hk, q20, q19, H, HXT⟩
     simp only [putMany, List.setIfInBounds_toArray, List.set_cons_zero, List.set_cons_succ]
     rw [q20, q19]
     clear q20 q19
     generalize hr23 : (Code.region 23 _ _ : Code) = R23
     by_cases hkn : k < n2
     ·obtain ⟨y, hy⟩ : ∃ y, r.1[k]? = some y := ⟨r.1[k]'(by rw [← HNL2.out]; exact hkn), by simp⟩
      obtain ⟨b2, off2, rfl, hb2, hr2⟩ := HAT2.out k y hy
      have hym := List.mem_of_getElem? hy
      have HYA := kp (HSO.out.l6 y hym)
      have HR5 := kp (fun W (hW : Ext wn W) => show W.rangeAt b2 (off2 + k * 11) (cat (partsE y HYA.out)) from cat_E y HYA.out ▸ rangeAt_ext hr2 hb2 hW)
      have HZY := kp (show (Try.prog.info? 39).map (·.size) = some (cat (partsE y HYA.out)).length by rw [cat_len]; kernel_rfl)
      have HM := kp (mem_snoc hy)
      have HTS := kp (take_snoc9 hy)
      have HY := kp hy
      have HKP := kp (hso9.out.kept y hym)
      have HEA := kp (fun h2 => ent_aid (hso9.out.ok.ent y hym) h2)
      clear hb2 hr2 hy hym
      by_cases hst : y.state = 2
      ·obtain ⟨yad, yst, yai, yca, yli, yse⟩ := y
       obtain rfl : yst = 2 := hst
       obtain ⟨i, rfl⟩ : ∃ i : Nat, yai = i := ⟨yai.toNat, by have := (HEA.out rfl).1; have h2 : 1 ≤ yai := this; omega⟩
       have hi : 1 ≤ i ∧ i ≤ 255 := by have h1 : (1:Int) ≤ (i:Int) ∧ (i:Int) ≤ 255 := HEA.out rfl; omega
       have HCE := kp (show (heldC (r.1.take k))[i]? = some (Value.bool false) by rw [heldC_at _ (by omega), held_free hso9.out.ok HY.out rfl rfl])
       have HCT := kp (heldC_set (l := r.1.take k) (e := ⟨yad, 2, i, yca, yli, yse⟩) rfl rfl (by omega : i < 256))
       have H256 := kp (show i < (heldC (r.1.take k)).length by rw [heldC_len]; omega)
       rw [if_pos rfl] at HM
       have HFD := kp (fun W (hW : Ext wr W) => find_any a HA6.out (.slice ad n c) la HLA.out.2 (Nat.le_trans (ok_len HLA.out.1) (by decide)) yad HYA.out W ((HOE.out.slt HLA.out.2).ext hW))
       rw [cat_A a HA6.out, findE_look, (valid_iff a la).2 HLA.out.1, if_pos rfl] at HFD
       clear HEA
       generalize heldC (r.1.take k) = C0 at *
       have hmk : membersF (r.1.take k) ≤ 64 := Nat.le_trans List.countP_le_length (Nat.le_trans (List.length_take_le _ _) (by omega))
       generalize membersF (r.1.take k) = mk at *
       obtain ⟨hi1, hi2⟩ := hi
       have hd1 : decide ((i : Int) < 1) = false := decide_eq_false (by omega)
       have hd2 : decide ((255 : Int) < (i : Int)) = false := decide_eq_false (by omega)
       rcases HKP.out rfl with ⟨w0, hk1, hk2, hk3⟩ | ⟨hk1, hk2⟩
       ·rw [show lookF la yad = some w0 from hk1] at HFD
        obtain ⟨wad, wst, wai, wca, wli, wse⟩ := w0
        obtain rfl : wst = 2 := hk2
        obtain rfl : wai = i := hk3
        have HWA := kp (show wad.length = 6 from HLA.out.2 _ (look_some (show lookF la yad = some _ from hk1)).1)
        rw [show cellsE (⟨wad, 2, i, wca, wli, wse⟩, true).1 = cat (partsE ⟨wad, 2, i, wca, wli, wse⟩ HWA.out) from cat_E _ HWA.out] at HFD
        clear hk1 HKP
        go_wp2_with (first | ((with_reducible refine isLd 24 ?_); (first | (refine L_f1 H rfl 24 _ rfl 0 rfl _ rfl _ rfl _ rfl Try.underlying24 rfl ?_) | (refine L_f1 H rfl 24 _ rfl 1 rfl _ rfl _ rfl _ rfl Try.underlying24 rfl ?_) | (refine L_f1 H rfl 24 _ rfl 2 rfl _ rfl _ rfl _ rfl Try.underlying24 rfl ?_) | (refine L_f1 H rfl 24 _ rfl 3 rfl _ rfl _ rfl _ rfl Try.underlying24 rfl ?_) | (refine L_f1 H rfl 24 _ rfl 4 rfl _ rfl _ rfl _ rfl Try.underlying24 rfl ?_) | (refine L_f1 H rfl 24 _ rfl 5 rfl _ rfl _ rfl _ rfl Try.underlying24 rfl ?_)); simp only [pA]) | ((with_reducible refine isLd 39 ?_); (refine wpList_load_midG (by kernel_rfl) 39 _ rfl (b2) (off2 + k * 11) rfl (cat (partsE ⟨yad, 2, (i : Int), yca, yli, yse⟩ HYA.out)) _ (HR5.out _ HXT.out) Try.underlying39 rfl (HZY.out) ?_); simp only [pA]) | ((with_reducible refine isAl 21 39 ?_); (refine L_alloc H rfl 39 rfl (cat (partsE en0 rfl)) (fun _ _ => by kernel_rfl) ?_); clear H; intro g21 w21 HGg21 HEg21 H; simp only [pA]) | ((with_reducible show wpList _ _ _ (Oper.mk none (Op.store 39 (.tmp 21) _) _ _ _ _ :: _) _ _); ((with_reducible refine isSt 39 ?_); refine L_sa H rfl rfl 39 _ _ rfl 0 rfl rfl (partsE ⟨yad, 2, (i : Int), yca, yli, yse⟩ HYA.out) rfl rfl (by kernel_rfl) ?_; clear H; intro w21b HWw21b H; simp only [szA] at H)) | ((with_reducible refine isLd 5 ?_); (first | (refine L_f1 H rfl 5 _ rfl 0 rfl _ rfl _ rfl _ rfl Try.underlying5 rfl ?_) | (refine L_f1 H rfl 5 _ rfl 1 rfl _ rfl _ rfl _ rfl Try.underlying5 rfl ?_) | (refine L_f1 H rfl 5 _ rfl 2 rfl _ rfl _ rfl _ rfl Try.underlying5 rfl ?_) | (refine L_f1 H rfl 5 _ rfl 3 rfl _ rfl _ rfl _ rfl Try.underlying5 rfl ?_) | (refine L_f1 H rfl 5 _ rfl 4 rfl _ rfl _ rfl _ rfl Try.underlying5 rfl ?_) | (refine L_f1 H rfl 5 _ rfl 5 rfl _ rfl _ rfl _ rfl Try.underlying5 rfl ?_)); simp only [pA]) | ((with_reducible refine isLd 4 ?_); refine L_c1 H (by kernel_rfl) 4 _ rfl 1 rfl i rfl (.bool false) HCE.out Try.underlying4 rfl ?_; simp only [pA]) | ((with_reducible refine isSt 4 ?_); refine L_cell H rfl rfl 4 _ _ rfl 1 rfl i rfl (.bool true) rfl rfl (by kernel_rfl) H256.out _ HCT.out ?_; clear H; intro wh HWwh H; simp only [ssA, szA] at H) | ((with_reducible refine isLd 26 ?_); (first | (refine L_fa H rfl 26 _ rfl 0 rfl rfl Try.underlying26 rfl (by kernel_rfl) ?_) | (refine L_fa H rfl 26 _ rfl 1 rfl rfl Try.underlying26 rfl (by kernel_rfl) ?_) | (refine L_fa H rfl 26 _ rfl 2 rfl rfl Try.underlying26 rfl (by kernel_rfl) ?_) | (refine L_fa H rfl 26 _ rfl 3 rfl rfl Try.underlying26 rfl (by kernel_rfl) ?_) | (refine L_fa H rfl 26 _ rfl 4 rfl rfl Try.underlying26 rfl (by kernel_rfl) ?_) | (refine L_fa H rfl 26 _ rfl 5 rfl rfl Try.underlying26 rfl (by kernel_rfl) ?_)); simp only [pA]) | ((with_reducible refine isLd 23 ?_); (first | (refine L_fv H rfl 23 _ rfl 0 rfl _ rfl _ rfl rfl Try.underlying23 rfl (by kernel_rfl) ?_) | (refine L_fv H rfl 23 _ rfl 1 rfl _ rfl _ rfl rfl Try.underlying23 rfl (by kernel_rfl) ?_) | (refine L_fv H rfl 23 _ rfl 2 rfl _ rfl _ rfl rfl Try.underlying23 rfl (by kernel_rfl) ?_) | (refine L_fv H rfl 23 _ rfl 3 rfl _ rfl _ rfl rfl Try.underlying23 rfl (by kernel_rfl) ?_) | (refine L_fv H rfl 23 _ rfl 4 rfl _ rfl _ rfl rfl Try.underlying23 rfl (by kernel_rfl) ?_) | (refine L_fv H rfl 23 _ rfl 5 rfl _ rfl _ rfl rfl Try.underlying23 rfl (by kernel_rfl) ?_)); simp only [pA]) | (go_at_call 12; have HXF := kp (ext_wrote (HXT.out.trans (ext_wrote HEg21.out HWw21b.out (Nat.le_of_eq HGg21.out.symm))) HWwh.out (Nat.le_of_eq HGg18.out.symm)); refine (HFD.out _ (HOX.out.trans HXF.out)).mono ?_; rintro e wq2 ⟨rfl, hx⟩; replace H := kp (H.out.ext hx); have HXC := kp hx; clear hx) | ((with_reducible refine isAl 22 39 ?_); (refine L_alloc H rfl 39 rfl (cat (partsE en0 rfl)) (fun _ _ => by kernel_rfl) ?_); clear H; intro g22 w22 HGg22 HEg22 H; simp only [pA]) | ((with_reducible show wpList _ _ _ (Oper.mk none (Op.store 39 (.tmp 22) _) _ _ _ _ :: _) _ _); ((with_reducible refine isSt 39 ?_); refine L_sa H rfl rfl 39 _ _ rfl 0 rfl rfl (partsE ⟨wad, 2, i, wca, wli, wse⟩ HWA.out) rfl rfl (by kernel_rfl) ?_; clear H; intro w22b HWw22b H; simp only [szA] at H)) | ((with_reducible refine isLd 3 ?_); (first | (refine L_f1 H rfl 3 _ rfl 0 rfl _ rfl _ rfl _ rfl Try.underlying3 rfl ?_) | (refine L_f1 H rfl 3 _ rfl 1 rfl _ rfl _ rfl _ rfl Try.underlying3 rfl ?_) | (refine L_f1 H rfl 3 _ rfl 2 rfl _ rfl _ rfl _ rfl Try.underlying3 rfl ?_) | (refine L_f1 H rfl 3 _ rfl 3 rfl _ rfl _ rfl _ rfl Try.underlying3 rfl ?_) | (refine L_f1 H rfl 3 _ rfl 4 rfl _ rfl _ rfl _ rfl Try.underlying3 rfl ?_) | (refine L_f1 H rfl 3 _ rfl 5 rfl _ rfl _ rfl _ rfl Try.underlying3 rfl ?_)); simp only [pA]))
        exact LoopP.of rfl (by kernel_rfl) ⟨k + 1, (by have q := HNL2.out; omega), by simp, (by rw [HM.out]; simp), kp (by rw [HTS.out]; exact H.out.tail.tail), kp (HXF.out.trans (HXC.out.trans (ext_wrote HEg22.out HWw22b.out (Nat.le_of_eq HGg22.out.symm))))⟩ (by simp [intOf]; omega)
       ·obtain ⟨hk0, hka, sub, hso⟩ := hk2
        have hka : yad = x.1.h.a2 := hka
        have hsb : subsA sub := by
         obtain ⟨sub', h1, h2, _⟩ := HAP.out hk0 _ (by rw [hso]; exact List.mem_singleton.2 rfl)
         have : sub = sub' := congrArg Hd.sub h2
         rw [this]; exact h1
        have hF := F16.out
        rw [hso] at hF
        obtain ⟨gf, cf, cs, bd, bn, bc, hve, hgf, hlc, hbo, _, hc10, hc40⟩ := frs_known (msg_ok HA6.out HXO.out.ok.h.l2 (by rcases hsb with h | h | h | h | h <;> omega) (by rcases hsb with h | h | h | h | h <;> omega)) hF
        cases hve
        have HKC2 := kp (show ∀ W, Ext wr W → W.cell? ⟨b, off + j * 49, none⟩ = some (.int .i64 0) from by rw [← hk0]; exact HKC.out)
        have HLC := kp (fun W (hW : Ext wn W) => hlc.ext hW)
        have HC10 := kp (show (cs.drop 10).take (yad.map V8).length = yad.map V8 from by rw [hka]; exact hc10)
        have HC40 := kp hc40
        have HBO := kp (show OwB w.heap.size wn (.slice bd bn bc) (respB a 0 i) from hbo)
        have hcp := ok_caps HLA.out.1
        have HCP := kp (show a.caps = caps from by rw [HAE.out])
        have HBN := kp (owns_lenle HBO.out (Nat.le_trans (six_le _ _ _) (by decide)))
        have HDR := kp (fun w' hs => (decResp_any bd bn bc (respB a 0 i) HBN.out.1 HBN.out.2 w' hs).mono (fun e w' h => rp_all (resp_six (by omega)) (six_rd hcp (by omega) (by omega : 0 ≤ (i : Int) ∧ (i : Int) ≤ 65535)) h))
        have HEQ := kp (eqAddrS yad HYA.out)
        have hw : wrap64 caps = caps := by rw [← HCP.out]; unfold wrap64; omega
        rw [HCP.out] at HDR
        have HL6A := kp HLA.out.2
        clear hso hF hgf hlc hbo hc10 hc40 hka hsb HAP HKP HLA hcp HKC
        cases hlk : lookF la yad with
        | none =>
         rw [hlk, show cellsE ((match (none : Option En) with | some e => (e, true) | none => (en0, false)) : En × Bool).1 = cat (partsE en0 rfl) from cat_E en0 rfl] at HFD
         clear hlk hk1
         go_wp2_with (first | ((with_reducible refine isLd 24 ?_); (first | (refine L_f1 H rfl 24 _ rfl 0 rfl _ rfl _ rfl _ rfl Try.underlying24 rfl ?_) | (refine L_f1 H rfl 24 _ rfl 1 rfl _ rfl _ rfl _ rfl Try.underlying24 rfl ?_) | (refine L_f1 H rfl 24 _ rfl 2 rfl _ rfl _ rfl _ rfl Try.underlying24 rfl ?_) | (refine L_f1 H rfl 24 _ rfl 3 rfl _ rfl _ rfl _ rfl Try.underlying24 rfl ?_) | (refine L_f1 H rfl 24 _ rfl 4 rfl _ rfl _ rfl _ rfl Try.underlying24 rfl ?_) | (refine L_f1 H rfl 24 _ rfl 5 rfl _ rfl _ rfl _ rfl Try.underlying24 rfl ?_)); simp only [pA]) | ((with_reducible refine isLd 39 ?_); (refine wpList_load_midG (by kernel_rfl) 39 _ rfl (b2) (off2 + k * 11) rfl (cat (partsE ⟨yad, 2, (i : Int), yca, yli, yse⟩ HYA.out)) _ (HR5.out _ HXT.out) Try.underlying39 rfl (HZY.out) ?_); simp only [pA]) | ((with_reducible refine isAl 21 39 ?_); (refine L_alloc H rfl 39 rfl (cat (partsE en0 rfl)) (fun _ _ => by kernel_rfl) ?_); clear H; intro g21 w21 HGg21 HEg21 H; simp only [pA]) | ((with_reducible show wpList _ _ _ (Oper.mk none (Op.store 39 (.tmp 21) _) _ _ _ _ :: _) _ _); ((with_reducible refine isSt 39 ?_); refine L_sa H rfl rfl 39 _ _ rfl 0 rfl rfl (partsE ⟨yad, 2, (i : Int), yca, yli, yse⟩ HYA.out) rfl rfl (by kernel_rfl) ?_; clear H; intro w21b HWw21b H; simp only [szA] at H)) | ((with_reducible refine isLd 5 ?_); (first | (refine L_f1 H rfl 5 _ rfl 0 rfl _ rfl _ rfl _ rfl Try.underlying5 rfl ?_) | (refine L_f1 H rfl 5 _ rfl 1 rfl _ rfl _ rfl _ rfl Try.underlying5 rfl ?_) | (refine L_f1 H rfl 5 _ rfl 2 rfl _ rfl _ rfl _ rfl Try.underlying5 rfl ?_) | (refine L_f1 H rfl 5 _ rfl 3 rfl _ rfl _ rfl _ rfl Try.underlying5 rfl ?_) | (refine L_f1 H rfl 5 _ rfl 4 rfl _ rfl _ rfl _ rfl Try.underlying5 rfl ?_) | (refine L_f1 H rfl 5 _ rfl 5 rfl _ rfl _ rfl _ rfl Try.underlying5 rfl ?_)); simp only [pA]) | ((with_reducible refine isLd 4 ?_); refine L_c1 H (by kernel_rfl) 4 _ rfl 1 rfl i rfl (.bool false) HCE.out Try.underlying4 rfl ?_; simp only [pA]) | ((with_reducible refine isSt 4 ?_); refine L_cell H rfl rfl 4 _ _ rfl 1 rfl i rfl (.bool true) rfl rfl (by kernel_rfl) H256.out _ HCT.out ?_; clear H; intro wh HWwh H; simp only [ssA, szA] at H) | ((with_reducible refine isLd 26 ?_); (first | (refine L_fa H rfl 26 _ rfl 0 rfl rfl Try.underlying26 rfl (by kernel_rfl) ?_) | (refine L_fa H rfl 26 _ rfl 1 rfl rfl Try.underlying26 rfl (by kernel_rfl) ?_) | (refine L_fa H rfl 26 _ rfl 2 rfl rfl Try.underlying26 rfl (by kernel_rfl) ?_) | (refine L_fa H rfl 26 _ rfl 3 rfl rfl Try.underlying26 rfl (by kernel_rfl) ?_) | (refine L_fa H rfl 26 _ rfl 4 rfl rfl Try.underlying26 rfl (by kernel_rfl) ?_) | (refine L_fa H rfl 26 _ rfl 5 rfl rfl Try.underlying26 rfl (by kernel_rfl) ?_)); simp only [pA]) | ((with_reducible refine isLd 23 ?_); (first | (refine L_fv H rfl 23 _ rfl 0 rfl _ rfl _ rfl rfl Try.underlying23 rfl (by kernel_rfl) ?_) | (refine L_fv H rfl 23 _ rfl 1 rfl _ rfl _ rfl rfl Try.underlying23 rfl (by kernel_rfl) ?_) | (refine L_fv H rfl 23 _ rfl 2 rfl _ rfl _ rfl rfl Try.underlying23 rfl (by kernel_rfl) ?_) | (refine L_fv H rfl 23 _ rfl 3 rfl _ rfl _ rfl rfl Try.underlying23 rfl (by kernel_rfl) ?_) | (refine L_fv H rfl 23 _ rfl 4 rfl _ rfl _ rfl rfl Try.underlying23 rfl (by kernel_rfl) ?_) | (refine L_fv H rfl 23 _ rfl 5 rfl _ rfl _ rfl rfl Try.underlying23 rfl (by kernel_rfl) ?_)); simp only [pA]) | (go_at_call 12; have HXF := kp (ext_wrote (HXT.out.trans (ext_wrote HEg21.out HWw21b.out (Nat.le_of_eq HGg21.out.symm))) HWwh.out (Nat.le_of_eq HGg18.out.symm)); refine (HFD.out _ (HOX.out.trans HXF.out)).mono ?_; rintro e wq2 ⟨rfl, hx⟩; replace H := kp (H.out.ext hx); have HXC := kp hx; clear hx) | ((with_reducible refine isAl 22 39 ?_); (refine L_alloc H rfl 39 rfl (cat (partsE en0 rfl)) (fun _ _ => by kernel_rfl) ?_); clear H; intro g22 w22 HGg22 HEg22 H; simp only [pA]) | ((with_reducible show wpList _ _ _ (Oper.mk none (Op.store 39 (.tmp 22) _) _ _ _ _ :: _) _ _); ((with_reducible refine isSt 39 ?_); refine L_sa H rfl rfl 39 _ _ rfl 0 rfl rfl (partsE en0 rfl) rfl rfl (by kernel_rfl) ?_; clear H; intro w22b HWw22b H; simp only [szA] at H)) | ((with_reducible refine isLd 3 ?_); (first | (refine L_f1 H rfl 3 _ rfl 0 rfl _ rfl _ rfl _ rfl Try.underlying3 rfl ?_) | (refine L_f1 H rfl 3 _ rfl 1 rfl _ rfl _ rfl _ rfl Try.underlying3 rfl ?_) | (refine L_f1 H rfl 3 _ rfl 2 rfl _ rfl _ rfl _ rfl Try.underlying3 rfl ?_) | (refine L_f1 H rfl 3 _ rfl 3 rfl _ rfl _ rfl _ rfl Try.underlying3 rfl ?_) | (refine L_f1 H rfl 3 _ rfl 4 rfl _ rfl _ rfl _ rfl Try.underlying3 rfl ?_) | (refine L_f1 H rfl 3 _ rfl 5 rfl _ rfl _ rfl _ rfl Try.underlying3 rfl ?_)); simp only [pA]) | ((with_reducible refine isLd 5 ?_); (first | (refine L_f1 H rfl 5 _ rfl 0 rfl _ rfl _ rfl _ rfl Try.underlying5 rfl ?_) | (refine L_f1 H rfl 5 _ rfl 1 rfl _ rfl _ rfl _ rfl Try.underlying5 rfl ?_) | (refine L_f1 H rfl 5 _ rfl 2 rfl _ rfl _ rfl _ rfl Try.underlying5 rfl ?_) | (refine L_f1 H rfl 5 _ rfl 3 rfl _ rfl _ rfl _ rfl Try.underlying5 rfl ?_) | (refine L_f1 H rfl 5 _ rfl 4 rfl _ rfl _ rfl _ rfl Try.underlying5 rfl ?_) | (refine L_f1 H rfl 5 _ rfl 5 rfl _ rfl _ rfl _ rfl Try.underlying5 rfl ?_)); simp only [pA]))
         have HXG := kp (HXF.out.trans (HXC.out.trans (ext_wrote HEg22.out HWw22b.out (Nat.le_of_eq HGg22.out.symm))))
         clear HXF HXC HEg22 HWw22b HGg22 HEg21 HWw21b HGg21 HWwh HXT
         subst hr23
         refine region_z H 29 (by kernel_rfl) (by kernel_rfl) (by kernel_rfl) (by kernel_rfl) (by decide) (Nat.le_of_ble_eq_true (by kernel_rfl)) ?_
         apply Exists.intro
         refine ⟨fun xz4 => ?_, fun wz4 HXZ H => ?_⟩
         ·simp only [List.take_succ_cons, List.take_zero]
          unfold Cx
          repeat (first | ((with_reducible show wpQuiet _ _ _ _ (Oper.mk _ (Op.load 23 (.tmp 141)) _ _ _ _ :: _) _); go_big_quiet_want; refine qz_r 23 _ rfl gf 10 rfl (yad.map V8) (fun W hx => (HLC.out W (HXG.out.trans hx)).range HC10.out) Try.underlying23 rfl (by rw [List.length_map, HYA.out]; kernel_rfl) ?_; simp only [pA]; go_big_quiet_on) | ((with_reducible show wpQuiet _ _ _ _ (Oper.mk _ (Op.load 3 _) _ _ _ _ :: _) _); go_big_quiet_want; refine qz_c 3 _ rfl _ _ rfl (.int .i64 0) (fun W hx => HKC2.out W (HOX.out.trans (HXG.out.trans hx))) Try.underlying3 rfl ?_; simp only [pA]; go_big_quiet_on) | ((with_reducible show wpQuiet _ _ _ _ (Oper.mk _ (Op.load 23 _) _ _ _ _ :: _) _); go_big_quiet_want; (first | (refine qz_v H 23 _ rfl 0 rfl _ rfl _ rfl rfl Try.underlying23 rfl (by kernel_rfl) ?_) | (refine qz_v H 23 _ rfl 1 rfl _ rfl _ rfl rfl Try.underlying23 rfl (by kernel_rfl) ?_) | (refine qz_v H 23 _ rfl 2 rfl _ rfl _ rfl rfl Try.underlying23 rfl (by kernel_rfl) ?_) | (refine qz_v H 23 _ rfl 3 rfl _ rfl _ rfl rfl Try.underlying23 rfl (by kernel_rfl) ?_) | (refine qz_v H 23 _ rfl 4 rfl _ rfl _ rfl rfl Try.underlying23 rfl (by kernel_rfl) ?_) | (refine qz_v H 23 _ rfl 5 rfl _ rfl _ rfl rfl Try.underlying23 rfl (by kernel_rfl) ?_)); simp only [pA]; go_big_quiet_on) | ((with_reducible show wpQuiet _ _ _ _ (Oper.mk _ (Op.binOp _ 23 _ _ _) _ _ _ _ :: _) _); go_big_quiet_want; (first | refine qz_eq 23 _ _ _ rfl _ _ _ rfl rfl Try.eqGuardType23 (fun _ => HEQ.out _) ?_ | refine qz_ne 23 _ _ _ rfl _ _ _ rfl rfl Try.eqGuardType23 (fun _ => HEQ.out _) ?_); simp only [pA]; go_big_quiet_on) | ((with_reducible show wpQuiet _ _ _ _ (Oper.mk _ (Op.load 5 _) _ _ _ _ :: _) _); go_big_quiet_want; (first | (refine qz_1 H 5 _ rfl 0 rfl _ rfl _ rfl _ rfl Try.underlying5 rfl ?_) | (refine qz_1 H 5 _ rfl 1 rfl _ rfl _ rfl _ rfl Try.underlying5 rfl ?_) | (refine qz_1 H 5 _ rfl 2 rfl _ rfl _ rfl _ rfl Try.underlying5 rfl ?_) | (refine qz_1 H 5 _ rfl 3 rfl _ rfl _ rfl _ rfl Try.underlying5 rfl ?_) | (refine qz_1 H 5 _ rfl 4 rfl _ rfl _ rfl _ rfl Try.underlying5 rfl ?_) | (refine qz_1 H 5 _ rfl 5 rfl _ rfl _ rfl _ rfl Try.underlying5 rfl ?_)); simp only [pA]; go_big_quiet_on) | go_big_quiet_step (fail))
          exact wpQuiet_nil rfl
         simp only [List.drop_succ_cons, List.drop_zero]
         have HXY := kp (HXG.out.trans HXZ.out)
         have HSB2 := kp (SlB.of_owns (owns_ext HBO.out HXY.out))
         go_wp2_with (first | ((with_reducible refine isLd 29 ?_); refine L_x1 (by kernel_rfl) 29 _ rfl gf 40 rfl _ ((HLC.out _ HXY.out).cell HC40.out) Try.underlying29 rfl ?_; simp only [pA]) | (go_at_call 26; refine (HDR.out _ HSB2.out).mono ?_; rintro e wd ⟨qa, qk, qq, rfl, hx⟩; replace H := kp (H.out.ext hx); have HXC := kp hx; clear hx) | ((with_reducible refine isAl 24 68 ?_); (refine L_alloc H rfl 68 rfl (cat (pRs 0 0 0 none 0 0)) (fun _ _ => by kernel_rfl) ?_); clear H; intro g24 w24 HGg24 HEg24 H; simp only [pA]) | ((with_reducible refine isSt 68 ?_); refine L_sa H rfl rfl 68 _ _ rfl 0 rfl rfl (pRs caps 0 i qa qk qq) rfl rfl (by kernel_rfl) ?_; clear H; intro w24b HWw24b H; simp only [szA] at H) | ((with_reducible refine isLd 54 ?_); (first | (refine L_f1 H rfl 54 _ rfl 0 rfl _ rfl _ rfl _ rfl Try.underlying54 rfl ?_) | (refine L_f1 H rfl 54 _ rfl 1 rfl _ rfl _ rfl _ rfl Try.underlying54 rfl ?_) | (refine L_f1 H rfl 54 _ rfl 2 rfl _ rfl _ rfl _ rfl Try.underlying54 rfl ?_) | (refine L_f1 H rfl 54 _ rfl 3 rfl _ rfl _ rfl _ rfl Try.underlying54 rfl ?_) | (refine L_f1 H rfl 54 _ rfl 4 rfl _ rfl _ rfl _ rfl Try.underlying54 rfl ?_) | (refine L_f1 H rfl 54 _ rfl 5 rfl _ rfl _ rfl _ rfl Try.underlying54 rfl ?_)); simp only [pA]) | ((with_reducible refine isLd 3 ?_); (first | (refine L_f1 H rfl 3 _ rfl 0 rfl _ rfl _ rfl _ rfl Try.underlying3 rfl ?_) | (refine L_f1 H rfl 3 _ rfl 1 rfl _ rfl _ rfl _ rfl Try.underlying3 rfl ?_) | (refine L_f1 H rfl 3 _ rfl 2 rfl _ rfl _ rfl _ rfl Try.underlying3 rfl ?_) | (refine L_f1 H rfl 3 _ rfl 3 rfl _ rfl _ rfl _ rfl Try.underlying3 rfl ?_) | (refine L_f1 H rfl 3 _ rfl 4 rfl _ rfl _ rfl _ rfl Try.underlying3 rfl ?_) | (refine L_f1 H rfl 3 _ rfl 5 rfl _ rfl _ rfl _ rfl Try.underlying3 rfl ?_)); simp only [pA]))
         exact LoopP.of rfl (by kernel_rfl) ⟨k + 1, (by have q := HNL2.out; omega), by simp, (by rw [HM.out]; simp), kp (by rw [HTS.out]; exact H.out.tail.tail.tail), kp (HXY.out.trans (HXC.out.trans (ext_wrote HEg24.out HWw24b.out (Nat.le_of_eq HGg24.out.symm))))⟩ (by simp [intOf]; omega)
        | some w0 =>
         have hw2 := hk1 w0 hlk
         rw [hlk] at HFD
         obtain ⟨wad, wst, wai, wca, wli, wse⟩ := w0
         have hw3 : ¬ wst = 2 := hw2
         have HWA := kp (show wad.length = 6 from HL6A.out _ (look_some hlk).1)
         rw [show cellsE (⟨wad, wst, wai, wca, wli, wse⟩, true).1 = cat (partsE ⟨wad, wst, wai, wca, wli, wse⟩ HWA.out) from cat_E _ HWA.out] at HFD
         have hdw : decide (wst = 2) = false := decide_eq_false hw3
         have hdw2 : (wst == 2) = false := by simpa using hw3
         clear hlk hk1 hw2 hw3
         go_wp2_with (first | ((with_reducible refine isLd 24 ?_); (first | (refine L_f1 H rfl 24 _ rfl 0 rfl _ rfl _ rfl _ rfl Try.underlying24 rfl ?_) | (refine L_f1 H rfl 24 _ rfl 1 rfl _ rfl _ rfl _ rfl Try.underlying24 rfl ?_) | (refine L_f1 H rfl 24 _ rfl 2 rfl _ rfl _ rfl _ rfl Try.underlying24 rfl ?_) | (refine L_f1 H rfl 24 _ rfl 3 rfl _ rfl _ rfl _ rfl Try.underlying24 rfl ?_) | (refine L_f1 H rfl 24 _ rfl 4 rfl _ rfl _ rfl _ rfl Try.underlying24 rfl ?_) | (refine L_f1 H rfl 24 _ rfl 5 rfl _ rfl _ rfl _ rfl Try.underlying24 rfl ?_)); simp only [pA]) | ((with_reducible refine isLd 39 ?_); (refine wpList_load_midG (by kernel_rfl) 39 _ rfl (b2) (off2 + k * 11) rfl (cat (partsE ⟨yad, 2, (i : Int), yca, yli, yse⟩ HYA.out)) _ (HR5.out _ HXT.out) Try.underlying39 rfl (HZY.out) ?_); simp only [pA]) | ((with_reducible refine isAl 21 39 ?_); (refine L_alloc H rfl 39 rfl (cat (partsE en0 rfl)) (fun _ _ => by kernel_rfl) ?_); clear H; intro g21 w21 HGg21 HEg21 H; simp only [pA]) | ((with_reducible show wpList _ _ _ (Oper.mk none (Op.store 39 (.tmp 21) _) _ _ _ _ :: _) _ _); ((with_reducible refine isSt 39 ?_); refine L_sa H rfl rfl 39 _ _ rfl 0 rfl rfl (partsE ⟨yad, 2, (i : Int), yca, yli, yse⟩ HYA.out) rfl rfl (by kernel_rfl) ?_; clear H; intro w21b HWw21b H; simp only [szA] at H)) | ((with_reducible refine isLd 5 ?_); (first | (refine L_f1 H rfl 5 _ rfl 0 rfl _ rfl _ rfl _ rfl Try.underlying5 rfl ?_) | (refine L_f1 H rfl 5 _ rfl 1 rfl _ rfl _ rfl _ rfl Try.underlying5 rfl ?_) | (refine L_f1 H rfl 5 _ rfl 2 rfl _ rfl _ rfl _ rfl Try.underlying5 rfl ?_) | (refine L_f1 H rfl 5 _ rfl 3 rfl _ rfl _ rfl _ rfl Try.underlying5 rfl ?_) | (refine L_f1 H rfl 5 _ rfl 4 rfl _ rfl _ rfl _ rfl Try.underlying5 rfl ?_) | (refine L_f1 H rfl 5 _ rfl 5 rfl _ rfl _ rfl _ rfl Try.underlying5 rfl ?_)); simp only [pA]) | ((with_reducible refine isLd 4 ?_); refine L_c1 H (by kernel_rfl) 4 _ rfl 1 rfl i rfl (.bool false) HCE.out Try.underlying4 rfl ?_; simp only [pA]) | ((with_reducible refine isSt 4 ?_); refine L_cell H rfl rfl 4 _ _ rfl 1 rfl i rfl (.bool true) rfl rfl (by kernel_rfl) H256.out _ HCT.out ?_; clear H; intro wh HWwh H; simp only [ssA, szA] at H) | ((with_reducible refine isLd 26 ?_); (first | (refine L_fa H rfl 26 _ rfl 0 rfl rfl Try.underlying26 rfl (by kernel_rfl) ?_) | (refine L_fa H rfl 26 _ rfl 1 rfl rfl Try.underlying26 rfl (by kernel_rfl) ?_) | (refine L_fa H rfl 26 _ rfl 2 rfl rfl Try.underlying26 rfl (by kernel_rfl) ?_) | (refine L_fa H rfl 26 _ rfl 3 rfl rfl Try.underlying26 rfl (by kernel_rfl) ?_) | (refine L_fa H rfl 26 _ rfl 4 rfl rfl Try.underlying26 rfl (by kernel_rfl) ?_) | (refine L_fa H rfl 26 _ rfl 5 rfl rfl Try.underlying26 rfl (by kernel_rfl) ?_)); simp only [pA]) | ((with_reducible refine isLd 23 ?_); (first | (refine L_fv H rfl 23 _ rfl 0 rfl _ rfl _ rfl rfl Try.underlying23 rfl (by kernel_rfl) ?_) | (refine L_fv H rfl 23 _ rfl 1 rfl _ rfl _ rfl rfl Try.underlying23 rfl (by kernel_rfl) ?_) | (refine L_fv H rfl 23 _ rfl 2 rfl _ rfl _ rfl rfl Try.underlying23 rfl (by kernel_rfl) ?_) | (refine L_fv H rfl 23 _ rfl 3 rfl _ rfl _ rfl rfl Try.underlying23 rfl (by kernel_rfl) ?_) | (refine L_fv H rfl 23 _ rfl 4 rfl _ rfl _ rfl rfl Try.underlying23 rfl (by kernel_rfl) ?_) | (refine L_fv H rfl 23 _ rfl 5 rfl _ rfl _ rfl rfl Try.underlying23 rfl (by kernel_rfl) ?_)); simp only [pA]) | (go_at_call 12; have HXF := kp (ext_wrote (HXT.out.trans (ext_wrote HEg21.out HWw21b.out (Nat.le_of_eq HGg21.out.symm))) HWwh.out (Nat.le_of_eq HGg18.out.symm)); refine (HFD.out _ (HOX.out.trans HXF.out)).mono ?_; rintro e wq2 ⟨rfl, hx⟩; replace H := kp (H.out.ext hx); have HXC := kp hx; clear hx) | ((with_reducible refine isAl 22 39 ?_); (refine L_alloc H rfl 39 rfl (cat (partsE en0 rfl)) (fun _ _ => by kernel_rfl) ?_); clear H; intro g22 w22 HGg22 HEg22 H; simp only [pA]) | ((with_reducible show wpList _ _ _ (Oper.mk none (Op.store 39 (.tmp 22) _) _ _ _ _ :: _) _ _); ((with_reducible refine isSt 39 ?_); refine L_sa H rfl rfl 39 _ _ rfl 0 rfl rfl (partsE ⟨wad, wst, wai, wca, wli, wse⟩ HWA.out) rfl rfl (by kernel_rfl) ?_; clear H; intro w22b HWw22b H; simp only [szA] at H)) | ((with_reducible refine isLd 3 ?_); (first | (refine L_f1 H rfl 3 _ rfl 0 rfl _ rfl _ rfl _ rfl Try.underlying3 rfl ?_) | (refine L_f1 H rfl 3 _ rfl 1 rfl _ rfl _ rfl _ rfl Try.underlying3 rfl ?_) | (refine L_f1 H rfl 3 _ rfl 2 rfl _ rfl _ rfl _ rfl Try.underlying3 rfl ?_) | (refine L_f1 H rfl 3 _ rfl 3 rfl _ rfl _ rfl _ rfl Try.underlying3 rfl ?_) | (refine L_f1 H rfl 3 _ rfl 4 rfl _ rfl _ rfl _ rfl Try.underlying3 rfl ?_) | (refine L_f1 H rfl 3 _ rfl 5 rfl _ rfl _ rfl _ rfl Try.underlying3 rfl ?_)); simp only [pA]) | ((with_reducible refine isLd 5 ?_); (first | (refine L_f1 H rfl 5 _ rfl 0 rfl _ rfl _ rfl _ rfl Try.underlying5 rfl ?_) | (refine L_f1 H rfl 5 _ rfl 1 rfl _ rfl _ rfl _ rfl Try.underlying5 rfl ?_) | (refine L_f1 H rfl 5 _ rfl 2 rfl _ rfl _ rfl _ rfl Try.underlying5 rfl ?_) | (refine L_f1 H rfl 5 _ rfl 3 rfl _ rfl _ rfl _ rfl Try.underlying5 rfl ?_) | (refine L_f1 H rfl 5 _ rfl 4 rfl _ rfl _ rfl _ rfl Try.underlying5 rfl ?_) | (refine L_f1 H rfl 5 _ rfl 5 rfl _ rfl _ rfl _ rfl Try.underlying5 rfl ?_)); simp only [pA]))
         have HXG := kp (HXF.out.trans (HXC.out.trans (ext_wrote HEg22.out HWw22b.out (Nat.le_of_eq HGg22.out.symm))))
         clear HXF HXC HEg22 HWw22b HGg22 HEg21 HWw21b HGg21 HWwh HXT
         subst hr23
         refine region_z H 29 (by kernel_rfl) (by kernel_rfl) (by kernel_rfl) (by kernel_rfl) (by decide) (Nat.le_of_ble_eq_true (by kernel_rfl)) ?_
         apply Exists.intro
         refine ⟨fun xz5 => ?_, fun wz5 HXZ H => ?_⟩
         ·simp only [List.take_succ_cons, List.take_zero]
          unfold Cx
          repeat (first | ((with_reducible show wpQuiet _ _ _ _ (Oper.mk _ (Op.load 23 (.tmp 141)) _ _ _ _ :: _) _); go_big_quiet_want; refine qz_r 23 _ rfl gf 10 rfl (yad.map V8) (fun W hx => (HLC.out W (HXG.out.trans hx)).range HC10.out) Try.underlying23 rfl (by rw [List.length_map, HYA.out]; kernel_rfl) ?_; simp only [pA]; go_big_quiet_on) | ((with_reducible show wpQuiet _ _ _ _ (Oper.mk _ (Op.load 3 _) _ _ _ _ :: _) _); go_big_quiet_want; refine qz_c 3 _ rfl _ _ rfl (.int .i64 0) (fun W hx => HKC2.out W (HOX.out.trans (HXG.out.trans hx))) Try.underlying3 rfl ?_; simp only [pA]; go_big_quiet_on) | ((with_reducible show wpQuiet _ _ _ _ (Oper.mk _ (Op.load 23 _) _ _ _ _ :: _) _); go_big_quiet_want; (first | (refine qz_v H 23 _ rfl 0 rfl _ rfl _ rfl rfl Try.underlying23 rfl (by kernel_rfl) ?_) | (refine qz_v H 23 _ rfl 1 rfl _ rfl _ rfl rfl Try.underlying23 rfl (by kernel_rfl) ?_) | (refine qz_v H 23 _ rfl 2 rfl _ rfl _ rfl rfl Try.underlying23 rfl (by kernel_rfl) ?_) | (refine qz_v H 23 _ rfl 3 rfl _ rfl _ rfl rfl Try.underlying23 rfl (by kernel_rfl) ?_) | (refine qz_v H 23 _ rfl 4 rfl _ rfl _ rfl rfl Try.underlying23 rfl (by kernel_rfl) ?_) | (refine qz_v H 23 _ rfl 5 rfl _ rfl _ rfl rfl Try.underlying23 rfl (by kernel_rfl) ?_)); simp only [pA]; go_big_quiet_on) | ((with_reducible show wpQuiet _ _ _ _ (Oper.mk _ (Op.binOp _ 23 _ _ _) _ _ _ _ :: _) _); go_big_quiet_want; (first | refine qz_eq 23 _ _ _ rfl _ _ _ rfl rfl Try.eqGuardType23 (fun _ => HEQ.out _) ?_ | refine qz_ne 23 _ _ _ rfl _ _ _ rfl rfl Try.eqGuardType23 (fun _ => HEQ.out _) ?_); simp only [pA]; go_big_quiet_on) | ((with_reducible show wpQuiet _ _ _ _ (Oper.mk _ (Op.load 5 _) _ _ _ _ :: _) _); go_big_quiet_want; (first | (refine qz_1 H 5 _ rfl 0 rfl _ rfl _ rfl _ rfl Try.underlying5 rfl ?_) | (refine qz_1 H 5 _ rfl 1 rfl _ rfl _ rfl _ rfl Try.underlying5 rfl ?_) | (refine qz_1 H 5 _ rfl 2 rfl _ rfl _ rfl _ rfl Try.underlying5 rfl ?_) | (refine qz_1 H 5 _ rfl 3 rfl _ rfl _ rfl _ rfl Try.underlying5 rfl ?_) | (refine qz_1 H 5 _ rfl 4 rfl _ rfl _ rfl _ rfl Try.underlying5 rfl ?_) | (refine qz_1 H 5 _ rfl 5 rfl _ rfl _ rfl _ rfl Try.underlying5 rfl ?_)); simp only [pA]; go_big_quiet_on) | go_big_quiet_step (fail))
          exact wpQuiet_nil rfl
         simp only [List.drop_succ_cons, List.drop_zero]
         have HXY := kp (HXG.out.trans HXZ.out)
         have HSB2 := kp (SlB.of_owns (owns_ext HBO.out HXY.out))
         go_wp2_with (first | ((with_reducible refine isLd 29 ?_); refine L_x1 (by kernel_rfl) 29 _ rfl gf 40 rfl _ ((HLC.out _ HXY.out).cell HC40.out) Try.underlying29 rfl ?_; simp only [pA]) | (go_at_call 26; refine (HDR.out _ HSB2.out).mono ?_; rintro e wd ⟨qa, qk, qq, rfl, hx⟩; replace H := kp (H.out.ext hx); have HXC := kp hx; clear hx) | ((with_reducible refine isAl 24 68 ?_); (refine L_alloc H rfl 68 rfl (cat (pRs 0 0 0 none 0 0)) (fun _ _ => by kernel_rfl) ?_); clear H; intro g24 w24 HGg24 HEg24 H; simp only [pA]) | ((with_reducible refine isSt 68 ?_); refine L_sa H rfl rfl 68 _ _ rfl 0 rfl rfl (pRs caps 0 i qa qk qq) rfl rfl (by kernel_rfl) ?_; clear H; intro w24b HWw24b H; simp only [szA] at H) | ((with_reducible refine isLd 54 ?_); (first | (refine L_f1 H rfl 54 _ rfl 0 rfl _ rfl _ rfl _ rfl Try.underlying54 rfl ?_) | (refine L_f1 H rfl 54 _ rfl 1 rfl _ rfl _ rfl _ rfl Try.underlying54 rfl ?_) | (refine L_f1 H rfl 54 _ rfl 2 rfl _ rfl _ rfl _ rfl Try.underlying54 rfl ?_) | (refine L_f1 H rfl 54 _ rfl 3 rfl _ rfl _ rfl _ rfl Try.underlying54 rfl ?_) | (refine L_f1 H rfl 54 _ rfl 4 rfl _ rfl _ rfl _ rfl Try.underlying54 rfl ?_) | (refine L_f1 H rfl 54 _ rfl 5 rfl _ rfl _ rfl _ rfl Try.underlying54 rfl ?_)); simp only [pA]) | ((with_reducible refine isLd 3 ?_); (first | (refine L_f1 H rfl 3 _ rfl 0 rfl _ rfl _ rfl _ rfl Try.underlying3 rfl ?_) | (refine L_f1 H rfl 3 _ rfl 1 rfl _ rfl _ rfl _ rfl Try.underlying3 rfl ?_) | (refine L_f1 H rfl 3 _ rfl 2 rfl _ rfl _ rfl _ rfl Try.underlying3 rfl ?_) | (refine L_f1 H rfl 3 _ rfl 3 rfl _ rfl _ rfl _ rfl Try.underlying3 rfl ?_) | (refine L_f1 H rfl 3 _ rfl 4 rfl _ rfl _ rfl _ rfl Try.underlying3 rfl ?_) | (refine L_f1 H rfl 3 _ rfl 5 rfl _ rfl _ rfl _ rfl Try.underlying3 rfl ?_)); simp only [pA]))
         exact LoopP.of rfl (by kernel_rfl) ⟨k + 1, (by have q := HNL2.out; omega), by simp, (by rw [HM.out]; simp), kp (by rw [HTS.out]; exact H.out.tail.tail.tail), kp (HXY.out.trans (HXC.out.trans (ext_wrote HEg24.out HWw24b.out (Nat.le_of_eq HGg24.out.symm))))⟩ (by simp [intOf]; omega)
      ·rw [if_neg hst] at HM
       have HCS := kp (heldC_skip (l := r.1.take k) hst)
       generalize membersF (r.1.take k) = mk at *
       go_wp2_with (first | ((with_reducible refine isLd 24 ?_); (first | (refine L_f1 H rfl 24 _ rfl 0 rfl _ rfl _ rfl _ rfl Try.underlying24 rfl ?_) | (refine L_f1 H rfl 24 _ rfl 1 rfl _ rfl _ rfl _ rfl Try.underlying24 rfl ?_) | (refine L_f1 H rfl 24 _ rfl 2 rfl _ rfl _ rfl _ rfl Try.underlying24 rfl ?_) | (refine L_f1 H rfl 24 _ rfl 3 rfl _ rfl _ rfl _ rfl Try.underlying24 rfl ?_) | (refine L_f1 H rfl 24 _ rfl 4 rfl _ rfl _ rfl _ rfl Try.underlying24 rfl ?_) | (refine L_f1 H rfl 24 _ rfl 5 rfl _ rfl _ rfl _ rfl Try.underlying24 rfl ?_)); simp only [pA]) | ((with_reducible refine isLd 39 ?_); (refine wpList_load_midG (by kernel_rfl) 39 _ rfl (b2) (off2 + k * 11) rfl (cat (partsE y HYA.out)) _ (HR5.out _ HXT.out) Try.underlying39 rfl (HZY.out) ?_); simp only [pA]) | ((with_reducible refine isAl 21 39 ?_); (refine L_alloc H rfl 39 rfl (cat (partsE en0 rfl)) (fun _ _ => by kernel_rfl) ?_); clear H; intro g21 w21 HGg21 HEg21 H; simp only [pA]) | ((with_reducible refine isSt 39 ?_); refine L_sa H rfl rfl 39 _ _ rfl 0 rfl rfl (partsE y HYA.out) rfl rfl (by kernel_rfl) ?_; clear H; intro w21b HWw21b H; simp only [szA] at H) | ((with_reducible refine isLd 5 ?_); (first | (refine L_f1 H rfl 5 _ rfl 0 rfl _ rfl _ rfl _ rfl Try.underlying5 rfl ?_) | (refine L_f1 H rfl 5 _ rfl 1 rfl _ rfl _ rfl _ rfl Try.underlying5 rfl ?_) | (refine L_f1 H rfl 5 _ rfl 2 rfl _ rfl _ rfl _ rfl Try.underlying5 rfl ?_) | (refine L_f1 H rfl 5 _ rfl 3 rfl _ rfl _ rfl _ rfl Try.underlying5 rfl ?_) | (refine L_f1 H rfl 5 _ rfl 4 rfl _ rfl _ rfl _ rfl Try.underlying5 rfl ?_) | (refine L_f1 H rfl 5 _ rfl 5 rfl _ rfl _ rfl _ rfl Try.underlying5 rfl ?_)); simp only [pA]))
       exact LoopP.of rfl (by kernel_rfl) ⟨k + 1, (by have q := HNL2.out; omega), by simp, (by rw [HM.out]; simp), kp (by rw [HTS.out, HCS.out]; exact H.out.tail), kp (HXT.out.trans (ext_wrote HEg21.out HWw21b.out (Nat.le_of_eq HGg21.out.symm)))⟩ (by simp [intOf]; omega)
     ·obtain rfl : k = n2 := by have := HNL2.out; omega
      have HTL := kp (show r.1.take k = r.1 from List.take_of_length_le (by rw [HNL2.out]; exact Nat.le_refl _))
      rw [HTL.out] at H ⊢
      have hml := hso9.out.ok.mem
      have HCH := kp (fun W (hW : Ext wn W) => check_any a HA6.out (.slice ad2 k c2) r.1 hso9.out.l6 (Nat.le_trans (ok_len hso9.out.ok) (by decide)) W ((HOW2.out.slt hso9.out.l6).ext hW))
      rw [chk_good ((valid_iff a r.1).2 hso9.out.ok), cat_A a HA6.out] at HCH
      have hlm : a.limit = limit := by rw [HAE.out]
      rw [hlm] at hml
      generalize membersF r.1 = mk at *
      have hdm : decide (limit < (mk : Int)) = false := decide_eq_false (by omega)
      have HG12 := kp (H.out.at 2 rfl)
      go_wp2_with (first | ((with_reducible refine isLd 24 ?_); (first | (refine L_f1 H rfl 24 _ rfl 0 rfl _ rfl _ rfl _ rfl Try.underlying24 rfl ?_) | (refine L_f1 H rfl 24 _ rfl 1 rfl _ rfl _ rfl _ rfl Try.underlying24 rfl ?_) | (refine L_f1 H rfl 24 _ rfl 2 rfl _ rfl _ rfl _ rfl Try.underlying24 rfl ?_) | (refine L_f1 H rfl 24 _ rfl 3 rfl _ rfl _ rfl _ rfl Try.underlying24 rfl ?_) | (refine L_f1 H rfl 24 _ rfl 4 rfl _ rfl _ rfl _ rfl Try.underlying24 rfl ?_) | (refine L_f1 H rfl 24 _ rfl 5 rfl _ rfl _ rfl _ rfl Try.underlying24 rfl ?_)); simp only [pA]))
      subst hr28
      go_wp2_with (first | ((with_reducible refine isLd 26 ?_); (first | (refine L_fa H rfl 26 _ rfl 0 rfl rfl Try.underlying26 rfl (by kernel_rfl) ?_) | (refine L_fa H rfl 26 _ rfl 1 rfl rfl Try.underlying26 rfl (by kernel_rfl) ?_) | (refine L_fa H rfl 26 _ rfl 2 rfl rfl Try.underlying26 rfl (by kernel_rfl) ?_) | (refine L_fa H rfl 26 _ rfl 3 rfl rfl Try.underlying26 rfl (by kernel_rfl) ?_) | (refine L_fa H rfl 26 _ rfl 4 rfl rfl Try.underlying26 rfl (by kernel_rfl) ?_) | (refine L_fa H rfl 26 _ rfl 5 rfl rfl Try.underlying26 rfl (by kernel_rfl) ?_)); simp only [pA]) | (go_at_call 20; refine (HCH.out _ HXT.out).mono ?_; rintro e wc ⟨rfl, hx⟩; replace H := kp (H.out.ext hx); have HXC := kp hx; clear hx; clear HG12; have HG12 := kp (H.out.at 2 rfl)) | ((with_reducible refine isSt 26 ?_); refine L_sa H rfl rfl 26 _ _ rfl 2 rfl rfl (partsA a hN ad2 k c2) rfl rfl (by kernel_rfl) ?_; clear H; intro w12c HWw12c H; simp only [ssA, szA] at H))
      all_goals try (exfalso; omega)
      exact LoopP.of rfl (by kernel_rfl) ⟨j + 1, r.1, ad2, k, c2, (by have q := HNL.out; omega), by simp, kp ⟨hso9.out.ok, hso9.out.l6⟩, kp H.out.tail.tail, kp (owns_wroteT (ownsT_ext HOW2.out (HXT.out.trans HXC.out)) HWw12c.out HG12.out (show 39 ≠ 26 from by decide))⟩ (by simp [intOf]; omega)
    ·generalize r.2.2 = E at *
     go_wp2_with fail
     exact LoopP.of rfl (by kernel_rfl) ⟨j + 1, la, ad, n, c, (by have q := HNL.out; omega), by simp, HLA, kp H.out.tail, kp (HOE.out.ext HOX.out)⟩ (by simp [intOf]; omega)
   ·go_wp2_with fail
    go_ret
    exact ⟨rfl, H.out.1⟩
end Go.Proofs.Ytfecopfofkdnpaa
