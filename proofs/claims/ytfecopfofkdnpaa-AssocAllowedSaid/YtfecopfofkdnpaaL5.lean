/- Texts of this proof, put together: All. -/
import Derived.Test.YtfecopfofkdnpaaL4
import Derived.Test.YtfecopfofkdnpaaS1
import Derived.Test.YtfecopfofkdnpaaS2
import Derived.Test.YtfecopfofkdnpaaS3
import Derived.Test.YtfecopfofkdnpaaS4
import Derived.Test.YtfecopfofkdnpaaS5
import Derived.Test.YtfecopfofkdnpaaS6
import Derived.Test.YtfecopfofkdnpaaS7
import Derived.Test.YtfecopfofkdnpaaS8
import Derived.Test.YtfecopfofkdnpaaS9
import Derived.Test.YtfecopfofkdnpaaS10
import Derived.Test.YtfecopfofkdnpaaS11
import Derived.Test.YtfecopfofkdnpaaS12
import Derived.Test.YtfecopfofkdnpaaS13
import Derived.Test.YtfecopfofkdnpaaS14
import Derived.Test.YtfecopfofkdnpaaS15
import Derived.Test.YtfecopfofkdnpaaS16
import Derived.Test.YtfecopfofkdnpaaS17
import Derived.Test.YtfecopfofkdnpaaS18
import Derived.Test.YtfecopfofkdnpaaS19
import Derived.Test.YtfecopfofkdnpaaS20
import Derived.Test.YtfecopfofkdnpaaS21
import Derived.Test.YtfecopfofkdnpaaS22
import Derived.Test.YtfecopfofkdnpaaS23
import Derived.Test.YtfecopfofkdnpaaS24
import Derived.Test.YtfecopfofkdnpaaS25
import Derived.Test.YtfecopfofkdnpaaS26
import Derived.Test.YtfecopfofkdnpaaS27
import Derived.Test.YtfecopfofkdnpaaS28
import Derived.Test.YtfecopfofkdnpaaS29
import Derived.Test.YtfecopfofkdnpaaS30
import Derived.Test.YtfecopfofkdnpaaL1
namespace Go.Proofs.Ytfecopfofkdnpaa
open Go.RowKit
def AllO (a : As) (ha : a.own.length = 6) (L : List SI) (who : By) (w : World) (g14 : Nat) (b16 b11 b6 : Bk) (vs : Tmp → Value) (wr : World) : Prop :=
 ∃ (j : Nat) (la : List En) (ad : Option Addr) (n c : Nat), j ≤ L.length ∧ vs 18 = .int .i64 j ∧ vs 17 = .bool (isM la who) ∧ Kp (OkL a la ∧ L6 la) ∧ Kp (Loc w wr [b16, (g14, 26, cat (partsA a ha ad n c)), b11, b6]) ∧ Kp (OwE w.heap.size wr (.slice ad n c) la)
def AllE (m : Bool) (w w0 : World) (B : List Bk) (vs : Tmp → Value) (wr : World) : Prop := vs 17 = .bool m ∧ Kp (Loc w wr B) ∧ Kp (Ext w0 wr)
def AllK (mn m1 : Bool) (o : List Fm) (w w0 : World) (B : List Bk) (vs : Tmp → Value) (wr : World) : Prop :=
 ∃ i : Nat, i ≤ o.length ∧ vs 24 = .int .i64 i ∧ vs 17 = .bool (if mn then (o.take i).foldl outF m1 else m1) ∧ Kp (Loc w wr B) ∧ Kp (Ext w0 wr)
def AllT (k : Int) (who : By) (m3 : Bool) (o : List Fm) (w w0 : World) (B : List Bk) (vs : Tmp → Value) (wr : World) : Prop :=
 ∃ i : Nat, i ≤ o.length ∧ vs 30 = .int .i64 i ∧ vs 17 = .bool (if k = 1 then (o.take i).foldl (tickO who) m3 else m3) ∧ Kp (Loc w wr B) ∧ Kp (Ext w0 wr)
def AllS (t : Tmp) (m : Bool) (w0 : World) (vs : Tmp → Value) (wr : World) : Prop := vs t = .bool m ∧ wr = w0
set_option maxRecDepth 10000 in
set_option maxHeartbeats 12800000 in
theorem assocAllowed_walk (own : By) (ho : own.length = 6) (caps limit idle : Int) (v : Value) (L : List SI) (hn : L.length ≤ 9223372036854775807) (who : By) (hwh : who.length = 6) (w : World) (hsl : SlT 49 cellsSI w v L ∧ ∀ x ∈ L, SIOk w x) :
  Calls Try.prog 6 #[.agg (own.map V8).toArray, .int .i64 caps, .int .i64 limit, .int .i64 idle, v, .agg (who.map V8).toArray] w fun e w' => e = .returned (.bool true) ∧ Ext w w' := by
 obtain ⟨hs, hok⟩ := hsl
 have HSL := kp hs
 have HOK := kp hok
 have HOW := kp ho
 have HWH := kp hwh
 have H := kp (Loc.start w)
 obtain ⟨sd, sn, sc, rfl, hnl, hcap, hat⟩ := hs
 have HAT := kp hat; have HNL := kp hnl
 have hnn : sn ≤ 9223372036854775807 := by omega
 have HGR := kp (fun w' hs => great30_any sd sn sc L (fun x hx => (HOK.out x hx).ok) w' hs)
 have HNW := kp (fun w' => new_any ⟨own, caps, limit, idle⟩ HOW.out w')
 obtain ⟨a, hae⟩ : ∃ a : As, a = ⟨own, caps, limit, idle⟩ := ⟨_, rfl⟩
 have HAO := kp (show a.own = own from by rw [hae])
 have HA6 := kp (show a.own.length = 6 from by rw [hae]; exact ho)
 have HCA := kp (show cellsA ⟨own, caps, limit, idle⟩ nilV = cat (partsA a HA6.out none 0 0) from by rw [← hae]; exact cat_A _ HA6.out none 0 0)
 obtain ⟨PH, hph⟩ : ∃ PH, PH = probeH a who := ⟨_, rfl⟩
 have HPH := kp hph
 have HPO := kp (show PH.Ok from by rw [hph]; exact probe_ok HA6.out HWH.out)
 have HB1 := kp (build_probe a who HA6.out HWH.out)
 have HB2 := kp (show ∀ w, (Instr.build 31 #[(0, .agg (cellsH PH).toArray)]).run Try.prog w = .ok (.agg (cat (partsFr PH HPO.out none 0 0)).toArray) w from by subst hph; exact build_probe2 a who HA6.out HWH.out)
 have HHC := kp (fun w' => checkH_any PH HPO.out w')
 rw [← hph, HAO.out, cat_H PH HPO.out] at HB1
 rw [cat_H _ HPO.out] at HB2 HHC
 clear hat hok hn hcap hnl ho hwh hph
 cases hv : validA ⟨own, caps, limit, idle⟩ [] with
 | false =>
  rw [(new_bad hv).1, (new_bad hv).2, show cellsA as0 nilV = cat (partsA as0 rfl none 0 0) from cat_A as0 rfl none 0 0] at HNW
  clear hv hae
  go_enter Try.func6, Try.ntmps6
  go_wp2_with (first | ((with_reducible refine isBx 6 23 ?_); (refine L_box H rfl 23 _ rfl (cat ([Lf.v ⟨own, HOW.out⟩])) rfl ?_); clear H; intro g6 w6 HGg6 HEg6 H; refine unput (d := some _) ?_) | ((with_reducible refine isBx 11 23 ?_); (refine L_box H rfl 23 _ rfl (cat ([Lf.v ⟨who, HWH.out⟩])) rfl ?_); clear H; intro g11 w11 HGg11 HEg11 H; refine unput (d := some _) ?_) | (go_at_call 21; refine (alive_any _).mono ?_; rintro e wv ⟨rfl, hx⟩; replace H := kp (H.out.ext hx); have HXC := kp hx; clear hx) | ((with_reducible refine isLd 23 ?_); (first | (refine L_fv H rfl 23 _ rfl 0 rfl _ rfl _ rfl rfl Try.underlying23 rfl (by kernel_rfl) ?_) | (refine L_fv H rfl 23 _ rfl 1 rfl _ rfl _ rfl rfl Try.underlying23 rfl (by kernel_rfl) ?_) | (refine L_fv H rfl 23 _ rfl 2 rfl _ rfl _ rfl rfl Try.underlying23 rfl (by kernel_rfl) ?_) | (refine L_fv H rfl 23 _ rfl 3 rfl _ rfl _ rfl rfl Try.underlying23 rfl (by kernel_rfl) ?_) | (refine L_fv H rfl 23 _ rfl 4 rfl _ rfl _ rfl rfl Try.underlying23 rfl (by kernel_rfl) ?_) | (refine L_fv H rfl 23 _ rfl 5 rfl _ rfl _ rfl rfl Try.underlying23 rfl (by kernel_rfl) ?_)); refine unput (d := some _) ?_) | (go_at_call 10; refine (HNW.out _).mono ?_; rintro e wn ⟨rfl, hx⟩; replace H := kp (H.out.ext hx); have HXC := kp hx; clear hx) | ((with_reducible refine isAl 14 26 ?_); (refine L_alloc H rfl 26 rfl (cat (partsA as0 rfl none 0 0)) (fun _ _ => by kernel_rfl) ?_); clear H; intro g14 w14 HGg14 HEg14 H; refine unput (d := some _) ?_) | ((with_reducible refine isSt 26 ?_); refine L_sa H rfl rfl 26 _ _ rfl 0 rfl rfl (partsA as0 rfl none 0 0) rfl rfl (by kernel_rfl) ?_; clear H; intro w14b HWw14b H; simp only [szA] at H))
  go_ret
  exact ⟨rfl, H.out.1⟩
 | true =>
  have HOA := kp ((valid_iff _ _).1 hv)
  rw [(new_good hv).1, (new_good hv).2, HCA.out] at HNW
  rw [← hae] at HOA
  clear hv hae
  cases hg : greatS L with
  | true =>
   rw [hg] at HGR
   clear hg
   go_enter Try.func6, Try.ntmps6
   go_wp2_with (first | ((with_reducible refine isBx 6 23 ?_); (refine L_box H rfl 23 _ rfl (cat ([Lf.v ⟨own, HOW.out⟩])) rfl ?_); clear H; intro g6 w6 HGg6 HEg6 H; refine unput (d := some _) ?_) | ((with_reducible refine isBx 11 23 ?_); (refine L_box H rfl 23 _ rfl (cat ([Lf.v ⟨who, HWH.out⟩])) rfl ?_); clear H; intro g11 w11 HGg11 HEg11 H; refine unput (d := some _) ?_) | (go_at_call 21; refine (alive_any _).mono ?_; rintro e wv ⟨rfl, hx⟩; replace H := kp (H.out.ext hx); have HXC := kp hx; clear hx) | ((with_reducible refine isLd 23 ?_); (first | (refine L_fv H rfl 23 _ rfl 0 rfl _ rfl _ rfl rfl Try.underlying23 rfl (by kernel_rfl) ?_) | (refine L_fv H rfl 23 _ rfl 1 rfl _ rfl _ rfl rfl Try.underlying23 rfl (by kernel_rfl) ?_) | (refine L_fv H rfl 23 _ rfl 2 rfl _ rfl _ rfl rfl Try.underlying23 rfl (by kernel_rfl) ?_) | (refine L_fv H rfl 23 _ rfl 3 rfl _ rfl _ rfl rfl Try.underlying23 rfl (by kernel_rfl) ?_) | (refine L_fv H rfl 23 _ rfl 4 rfl _ rfl _ rfl rfl Try.underlying23 rfl (by kernel_rfl) ?_) | (refine L_fv H rfl 23 _ rfl 5 rfl _ rfl _ rfl rfl Try.underlying23 rfl (by kernel_rfl) ?_)); refine unput (d := some _) ?_) | (go_at_call 10; refine (HNW.out _).mono ?_; rintro e wn ⟨rfl, hx⟩; replace H := kp (H.out.ext hx); have HXC := kp hx; clear hx) | ((with_reducible refine isAl 14 26 ?_); (refine L_alloc H rfl 26 rfl (cat (partsA as0 rfl none 0 0)) (fun _ _ => by kernel_rfl) ?_); clear H; intro g14 w14 HGg14 HEg14 H; refine unput (d := some _) ?_) | ((with_reducible refine isSt 26 ?_); refine L_sa H rfl rfl 26 _ _ rfl 0 rfl rfl (partsA a HA6.out none 0 0) rfl rfl (by kernel_rfl) ?_; clear H; intro w14b HWw14b H; simp only [szA] at H) | (go_at_call 24; refine (HGR.out _ (HSL.out.ext H.out.1)).mono ?_; rintro e wg ⟨rfl, hx⟩; replace H := kp (H.out.ext hx); have HXC := kp hx; clear hx))
   go_ret
   exact ⟨rfl, H.out.1⟩
  | false =>
   have HGF := kp hg
   rw [hg] at HGR
   clear hg
   cases hvp : validH PH with
   | false =>
    rw [checkF_bad hvp] at HHC
    clear hvp
    go_enter Try.func6, Try.ntmps6
    go_wp2_with (first | ((with_reducible refine isBx 6 23 ?_); (refine L_box H rfl 23 _ rfl (cat ([Lf.v ⟨own, HOW.out⟩])) rfl ?_); clear H; intro g6 w6 HGg6 HEg6 H; refine unput (d := some _) ?_) | ((with_reducible refine isBx 11 23 ?_); (refine L_box H rfl 23 _ rfl (cat ([Lf.v ⟨who, HWH.out⟩])) rfl ?_); clear H; intro g11 w11 HGg11 HEg11 H; refine unput (d := some _) ?_) | (go_at_call 21; refine (alive_any _).mono ?_; rintro e wv ⟨rfl, hx⟩; replace H := kp (H.out.ext hx); have HXC := kp hx; clear hx) | ((with_reducible refine isLd 23 ?_); (first | (refine L_fv H rfl 23 _ rfl 0 rfl _ rfl _ rfl rfl Try.underlying23 rfl (by kernel_rfl) ?_) | (refine L_fv H rfl 23 _ rfl 1 rfl _ rfl _ rfl rfl Try.underlying23 rfl (by kernel_rfl) ?_) | (refine L_fv H rfl 23 _ rfl 2 rfl _ rfl _ rfl rfl Try.underlying23 rfl (by kernel_rfl) ?_) | (refine L_fv H rfl 23 _ rfl 3 rfl _ rfl _ rfl rfl Try.underlying23 rfl (by kernel_rfl) ?_) | (refine L_fv H rfl 23 _ rfl 4 rfl _ rfl _ rfl rfl Try.underlying23 rfl (by kernel_rfl) ?_) | (refine L_fv H rfl 23 _ rfl 5 rfl _ rfl _ rfl rfl Try.underlying23 rfl (by kernel_rfl) ?_)); refine unput (d := some _) ?_) | (go_at_call 10; refine (HNW.out _).mono ?_; rintro e wn ⟨rfl, hx⟩; replace H := kp (H.out.ext hx); have HXC := kp hx; clear hx) | ((with_reducible refine isAl 14 26 ?_); (refine L_alloc H rfl 26 rfl (cat (partsA as0 rfl none 0 0)) (fun _ _ => by kernel_rfl) ?_); clear H; intro g14 w14 HGg14 HEg14 H; refine unput (d := some _) ?_) | (go_at_call 24; refine (HGR.out _ (HSL.out.ext H.out.1)).mono ?_; rintro e wg ⟨rfl, hx⟩; replace H := kp (H.out.ext hx); have HXC := kp hx; clear hx) | ((with_reducible show wpList _ _ _ (Oper.mk (some 56) (Op.build 28 _) _ _ _ _ :: _) _ _); (refine L_bd (by kernel_rfl) 28 _ rfl (#[(0, .int .u8 2), (2, .bool true), (10, .agg (own.map V8).toArray), (11, .agg (who.map V8).toArray)]) (by kernel_rfl) (cat (partsH PH HPO.out)) (HB1.out) ?_); refine unput (d := some _) ?_) | ((with_reducible show wpList _ _ _ (Oper.mk (some 57) (Op.build 31 _) _ _ _ _ :: _) _ _); (refine L_bd (by kernel_rfl) 31 _ rfl (#[(0, .agg (cat (partsH PH HPO.out)).toArray)]) (by kernel_rfl) (cat (partsFr PH HPO.out none 0 0)) (HB2.out) ?_); refine unput (d := some _) ?_) | ((with_reducible refine isAl 16 31 ?_); (refine L_alloc H rfl 31 rfl (cat (partsFr hd0 hd0_ok none 0 0)) (fun _ _ => by kernel_rfl) ?_); clear H; intro g16 w16 HGg16 HEg16 H; refine unput (d := some _) ?_) | ((with_reducible show wpList _ _ _ (Oper.mk none (Op.store 31 (.tmp 16) _) _ _ _ _ :: _) _ _); ((with_reducible refine isSt 31 ?_); refine L_sa H rfl rfl 31 _ _ rfl 0 rfl rfl (partsFr PH HPO.out none 0 0) rfl rfl (by kernel_rfl) ?_; clear H; intro w16b HWw16b H; simp only [szA] at H)) | ((with_reducible refine isLd 28 ?_); refine L_fg H rfl 28 _ rfl 0 rfl _ rfl _ rfl (partsH PH HPO.out) rfl Try.underlying28 rfl (by kernel_rfl) ?_; refine unput (d := some _) ?_) | (go_at_call 27; refine (HHC.out _).mono ?_; rintro e wc ⟨rfl, hx⟩; replace H := kp (H.out.ext hx); have HXC := kp hx; clear hx) | ((with_reducible refine isSt 26 ?_); refine L_sa H rfl rfl 26 _ _ rfl 0 rfl rfl (partsA a HA6.out none 0 0) rfl rfl (by kernel_rfl) ?_; clear H; intro w14b HWw14b H; simp only [szA] at H))
    go_ret
    exact ⟨rfl, H.out.1⟩
   | true =>
    have HVP := kp hvp
    rw [checkF_good hvp] at HHC
    clear hvp
    cases hww : (who == own) with
    | true =>
     have HWW := kp hww
     clear hww
     go_enter Try.func6, Try.ntmps6
     go_wp2_with (first | ((with_reducible refine isBx 6 23 ?_); (refine L_box H rfl 23 _ rfl (cat ([Lf.v ⟨own, HOW.out⟩])) rfl ?_); clear H; intro g6 w6 HGg6 HEg6 H; refine unput (d := some _) ?_) | ((with_reducible refine isBx 11 23 ?_); (refine L_box H rfl 23 _ rfl (cat ([Lf.v ⟨who, HWH.out⟩])) rfl ?_); clear H; intro g11 w11 HGg11 HEg11 H; refine unput (d := some _) ?_) | (go_at_call 21; refine (alive_any _).mono ?_; rintro e wv ⟨rfl, hx⟩; replace H := kp (H.out.ext hx); have HXC := kp hx; clear hx) | ((with_reducible refine isLd 23 ?_); (first | (refine L_fv H rfl 23 _ rfl 0 rfl _ rfl _ rfl rfl Try.underlying23 rfl (by kernel_rfl) ?_) | (refine L_fv H rfl 23 _ rfl 1 rfl _ rfl _ rfl rfl Try.underlying23 rfl (by kernel_rfl) ?_) | (refine L_fv H rfl 23 _ rfl 2 rfl _ rfl _ rfl rfl Try.underlying23 rfl (by kernel_rfl) ?_) | (refine L_fv H rfl 23 _ rfl 3 rfl _ rfl _ rfl rfl Try.underlying23 rfl (by kernel_rfl) ?_) | (refine L_fv H rfl 23 _ rfl 4 rfl _ rfl _ rfl rfl Try.underlying23 rfl (by kernel_rfl) ?_) | (refine L_fv H rfl 23 _ rfl 5 rfl _ rfl _ rfl rfl Try.underlying23 rfl (by kernel_rfl) ?_)); refine unput (d := some _) ?_) | (go_at_call 10; refine (HNW.out _).mono ?_; rintro e wn ⟨rfl, hx⟩; replace H := kp (H.out.ext hx); have HXC := kp hx; clear hx) | ((with_reducible refine isAl 14 26 ?_); (refine L_alloc H rfl 26 rfl (cat (partsA as0 rfl none 0 0)) (fun _ _ => by kernel_rfl) ?_); clear H; intro g14 w14 HGg14 HEg14 H; refine unput (d := some _) ?_) | (go_at_call 24; refine (HGR.out _ (HSL.out.ext H.out.1)).mono ?_; rintro e wg ⟨rfl, hx⟩; replace H := kp (H.out.ext hx); have HXC := kp hx; clear hx) | ((with_reducible show wpList _ _ _ (Oper.mk (some 56) (Op.build 28 _) _ _ _ _ :: _) _ _); (refine L_bd (by kernel_rfl) 28 _ rfl (#[(0, .int .u8 2), (2, .bool true), (10, .agg (own.map V8).toArray), (11, .agg (who.map V8).toArray)]) (by kernel_rfl) (cat (partsH PH HPO.out)) (HB1.out) ?_); refine unput (d := some _) ?_) | ((with_reducible show wpList _ _ _ (Oper.mk (some 57) (Op.build 31 _) _ _ _ _ :: _) _ _); (refine L_bd (by kernel_rfl) 31 _ rfl (#[(0, .agg (cat (partsH PH HPO.out)).toArray)]) (by kernel_rfl) (cat (partsFr PH HPO.out none 0 0)) (HB2.out) ?_); refine unput (d := some _) ?_) | ((with_reducible refine isAl 16 31 ?_); (refine L_alloc H rfl 31 rfl (cat (partsFr hd0 hd0_ok none 0 0)) (fun _ _ => by kernel_rfl) ?_); clear H; intro g16 w16 HGg16 HEg16 H; refine unput (d := some _) ?_) | ((with_reducible show wpList _ _ _ (Oper.mk none (Op.store 31 (.tmp 16) _) _ _ _ _ :: _) _ _); ((with_reducible refine isSt 31 ?_); refine L_sa H rfl rfl 31 _ _ rfl 0 rfl rfl (partsFr PH HPO.out none 0 0) rfl rfl (by kernel_rfl) ?_; clear H; intro w16b HWw16b H; simp only [szA] at H)) | ((with_reducible refine isLd 28 ?_); refine L_fg H rfl 28 _ rfl 0 rfl _ rfl _ rfl (partsH PH HPO.out) rfl Try.underlying28 rfl (by kernel_rfl) ?_; refine unput (d := some _) ?_) | (go_at_call 27; refine (HHC.out _).mono ?_; rintro e wc ⟨rfl, hx⟩; replace H := kp (H.out.ext hx); have HXC := kp hx; clear hx) | ((with_reducible refine isSt 26 ?_); refine L_sa H rfl rfl 26 _ _ rfl 0 rfl rfl (partsA a HA6.out none 0 0) rfl rfl (by kernel_rfl) ?_; clear H; intro w14b HWw14b H; simp only [szA] at H) | ((with_reducible show wpList _ _ _ (Oper.mk (some 65) (Op.binOp .eql 23 _ _ _) _ _ _ _ :: _) _ _); refine L_eqA rfl _ _ rfl (who) (own) (HWH.out) (HOW.out) _ (HWW.out) rfl rfl ?_; refine unput (d := some _) ?_))
     go_ret
     exact ⟨rfl, H.out.1⟩
    | false =>
     have HWW := kp hww
     clear hww
     go_enter Try.func6, Try.ntmps6
     generalize hr8 : (Code.region 8 _ _ : Code) = R8
     go_wp2_with (first | ((with_reducible refine isBx 6 23 ?_); (refine L_box H rfl 23 _ rfl (cat ([Lf.v ⟨own, HOW.out⟩])) rfl ?_); clear H; intro g6 w6 HGg6 HEg6 H; refine unput (d := some _) ?_) | ((with_reducible refine isBx 11 23 ?_); (refine L_box H rfl 23 _ rfl (cat ([Lf.v ⟨who, HWH.out⟩])) rfl ?_); clear H; intro g11 w11 HGg11 HEg11 H; refine unput (d := some _) ?_) | (go_at_call 21; refine (alive_any _).mono ?_; rintro e wv ⟨rfl, hx⟩; replace H := kp (H.out.ext hx); have HXC := kp hx; clear hx) | ((with_reducible refine isLd 23 ?_); (first | (refine L_fv H rfl 23 _ rfl 0 rfl _ rfl _ rfl rfl Try.underlying23 rfl (by kernel_rfl) ?_) | (refine L_fv H rfl 23 _ rfl 1 rfl _ rfl _ rfl rfl Try.underlying23 rfl (by kernel_rfl) ?_) | (refine L_fv H rfl 23 _ rfl 2 rfl _ rfl _ rfl rfl Try.underlying23 rfl (by kernel_rfl) ?_) | (refine L_fv H rfl 23 _ rfl 3 rfl _ rfl _ rfl rfl Try.underlying23 rfl (by kernel_rfl) ?_) | (refine L_fv H rfl 23 _ rfl 4 rfl _ rfl _ rfl rfl Try.underlying23 rfl (by kernel_rfl) ?_) | (refine L_fv H rfl 23 _ rfl 5 rfl _ rfl _ rfl rfl Try.underlying23 rfl (by kernel_rfl) ?_)); refine unput (d := some _) ?_) | (go_at_call 10; refine (HNW.out _).mono ?_; rintro e wn ⟨rfl, hx⟩; replace H := kp (H.out.ext hx); have HXC := kp hx; clear hx) | ((with_reducible refine isAl 14 26 ?_); (refine L_alloc H rfl 26 rfl (cat (partsA as0 rfl none 0 0)) (fun _ _ => by kernel_rfl) ?_); clear H; intro g14 w14 HGg14 HEg14 H; refine unput (d := some _) ?_) | (go_at_call 24; refine (HGR.out _ (HSL.out.ext H.out.1)).mono ?_; rintro e wg ⟨rfl, hx⟩; replace H := kp (H.out.ext hx); have HXC := kp hx; clear hx) | ((with_reducible show wpList _ _ _ (Oper.mk (some 56) (Op.build 28 _) _ _ _ _ :: _) _ _); (refine L_bd (by kernel_rfl) 28 _ rfl (#[(0, .int .u8 2), (2, .bool true), (10, .agg (own.map V8).toArray), (11, .agg (who.map V8).toArray)]) (by kernel_rfl) (cat (partsH PH HPO.out)) (HB1.out) ?_); refine unput (d := some _) ?_) | ((with_reducible show wpList _ _ _ (Oper.mk (some 57) (Op.build 31 _) _ _ _ _ :: _) _ _); (refine L_bd (by kernel_rfl) 31 _ rfl (#[(0, .agg (cat (partsH PH HPO.out)).toArray)]) (by kernel_rfl) (cat (partsFr PH HPO.out none 0 0)) (HB2.out) ?_); refine unput (d := some _) ?_) | ((with_reducible refine isAl 16 31 ?_); (refine L_alloc H rfl 31 rfl (cat (partsFr hd0 hd0_ok none 0 0)) (fun _ _ => by kernel_rfl) ?_); clear H; intro g16 w16 HGg16 HEg16 H; refine unput (d := some _) ?_) | ((with_reducible show wpList _ _ _ (Oper.mk none (Op.store 31 (.tmp 16) _) _ _ _ _ :: _) _ _); ((with_reducible refine isSt 31 ?_); refine L_sa H rfl rfl 31 _ _ rfl 0 rfl rfl (partsFr PH HPO.out none 0 0) rfl rfl (by kernel_rfl) ?_; clear H; intro w16b HWw16b H; simp only [szA] at H)) | ((with_reducible refine isLd 28 ?_); refine L_fg H rfl 28 _ rfl 0 rfl _ rfl _ rfl (partsH PH HPO.out) rfl Try.underlying28 rfl (by kernel_rfl) ?_; refine unput (d := some _) ?_) | (go_at_call 27; refine (HHC.out _).mono ?_; rintro e wc ⟨rfl, hx⟩; replace H := kp (H.out.ext hx); have HXC := kp hx; clear hx) | ((with_reducible refine isSt 26 ?_); refine L_sa H rfl rfl 26 _ _ rfl 0 rfl rfl (partsA a HA6.out none 0 0) rfl rfl (by kernel_rfl) ?_; clear H; intro w14b HWw14b H; simp only [szA] at H) | ((with_reducible show wpList _ _ _ (Oper.mk (some 65) (Op.binOp .eql 23 _ _ _) _ _ _ _ :: _) _ _); refine L_eqA rfl _ _ rfl (who) (own) (HWH.out) (HOW.out) _ (HWW.out) rfl rfl ?_; refine unput (d := some _) ?_))
     subst hr8
     go_wp2_with fail
     have HOE := kp (OwE.nil w.heap.size wc)
     have HWO := kp (show who ≠ a.own from by rw [HAO.out]; simpa using HWW.out)
     refine wp_loopM [(false, 17), (true, 17), (false, 34), (true, 184), (false, 1)] (AllO a HA6.out L who w g14 (g16, 31, cat (partsFr PH HPO.out none 0 0)) (g11, 23, cat [Lf.v ⟨who, HWH.out⟩]) (g6, 23, cat [Lf.v ⟨own, HOW.out⟩])) (fun vs _ => sn - (intOf (vs 18)).toNat) (by kernel_rfl) ⟨0, [], none, 0, 0, Nat.zero_le _, rfl, rfl, kp ⟨HOA.out, fun x hx => by cases hx⟩, H, HOE⟩ ?_
     clear H HOE HOA HNW HGR HCA HB1 HB2 HHC HWW
     rintro vs wr ⟨j, la, ad, n, c, hj, q18, q17, HLA, H, HOE⟩
     simp only [mixF_t, mixF_f, mixF_t0, mixF_f0, mixF_e, Nat.reduceAdd]
     rw [q18, q17]
     clear q18 q17
     generalize hr14 : (Code.region 14 _ _ : Code) = R14
     generalize hc15 : (Code.region 15 _ _ : Code) = C15
     generalize hc16 : ((Code.region 16 _ _ : Code).seq _) = C16
     generalize hc18 : ((Code.region 18 _ _ : Code).seq _) = C18
     generalize hc28 : ((Code.region 28 _ _ : Code).seq _) = C28
     generalize hc30 : ((Code.region 30 _ _ : Code).seq _) = C30
     generalize hr35 : (Code.region 35 _ _ : Code) = R35
     generalize hr38 : (Code.region 38 _ _ : Code) = R38
     by_cases hlt : j < sn
     ·obtain ⟨x, hx⟩ : ∃ x, L[j]? = some x := ⟨L[j]'(by rw [← HNL.out]; exact hlt), by simp⟩
      obtain ⟨⟨k, now, hd, bb, sta⟩, fa, fc⟩ := x
      obtain ⟨b, off, rfl, hb, hr⟩ := HAT.out j _ hx
      have hxm := List.mem_of_getElem? hx
      have HXO := kp (HOK.out _ hxm)
      have HST := kp (show (⟨k, now, hd, bb, sta⟩ : Stp).Ok from HXO.out.ok)
      have HR3 := kp (fun W (hW : Ext wr W) => show W.rangeAt b (off + j * 49) (cat (partsS ⟨k, now, hd, bb, sta⟩ HST.out fa bb.length fc)) from cat_SI (⟨k, now, hd, bb, sta⟩, fa, fc) HST.out ▸ rangeAt_ext hr hb (H.out.1.trans hW))
      have HZX := kp (show (Try.prog.info? 65).map (·.size) = some (cat (partsS ⟨k, now, hd, bb, sta⟩ HST.out fa bb.length fc)).length by rw [cat_len]; kernel_rfl)
      have HBL := kp (show bb.length ≤ 100000 from by
       have h1 := HGF.out
       simp only [greatS, Bool.or_eq_false_iff, List.any_eq_false, bigS, decide_eq_true_eq] at h1
       have h2 := h1.2 _ hxm
       dsimp only at h2
       omega)
      have HSB := kp (HXO.out.b)
      have HLE := kp (show bb.length ≤ fc from HXO.out.le)
      have HDO := kp (fun W (hW : Ext wr W) => do_any a HA6.out la HLA.out.2 (Nat.le_trans (ok_len HLA.out.1) (by decide)) ad n c ⟨k, now, hd, bb, sta⟩ HST.out fa bb.length fc HBL.out HLE.out W ((HOE.out.slt HLA.out.2).ext hW) (HSB.out.ext (H.out.1.trans hW)))
      have HAP := kp (fun h0 => do_ans a la ⟨k, now, hd, bb, sta⟩ h0)
      have HDK := kp (fun he => do_ok (s := ⟨k, now, hd, bb, sta⟩) HLA.out.1 HLA.out.2 HST.out he)
      have HMS := kp (do_msg a HLA.out.2 (ok_len HLA.out.1) HST.out)
      have HUP := kp (fun he => allow_upd (s := ⟨k, now, hd, bb, sta⟩) HLA.out.1 HLA.out.2 HST.out HWH.out HWO.out he)
      obtain ⟨m0, hm0⟩ : ∃ m0, isM la who = m0 := ⟨_, rfl⟩
      have HM0 := kp hm0
      rw [hm0] at HUP ⊢
      generalize doF a la ⟨k, now, hd, bb, sta⟩ = r at *
      clear hb hr hx hxm hm0
      go_wp2_with (first | ((with_reducible show wpList _ _ _ (Oper.mk (some 77) _ _ _ _ _ :: _) _ _); ((with_reducible refine isLd 65 ?_); (refine wpList_load_midG (by kernel_rfl) 65 _ rfl (b) (off + j * 49) rfl (cat (partsS ⟨k, now, hd, bb, sta⟩ HST.out fa bb.length fc)) _ (HR3.out _ (Ext.refl _)) Try.underlying65 rfl (HZX.out) ?_); refine unput (d := some _) ?_)) | ((with_reducible refine isAl 19 65 ?_); (refine L_alloc H rfl 65 rfl (cat (partsS stp0 stp0_ok none 0 0)) (fun _ _ => by kernel_rfl) ?_); clear H; intro g19 w19 HGg19 HEg19 H; refine unput (d := some _) ?_) | ((with_reducible refine isSt 65 ?_); refine L_sa H rfl rfl 65 _ _ rfl 0 rfl rfl (partsS ⟨k, now, hd, bb, sta⟩ HST.out fa bb.length fc) rfl rfl (by kernel_rfl) ?_; clear H; intro w19b HWw19b H; simp only [szA] at H) | ((with_reducible refine isLd 26 ?_); (first | (refine L_fa H rfl 26 _ rfl 0 rfl rfl Try.underlying26 rfl (by kernel_rfl) ?_) | (refine L_fa H rfl 26 _ rfl 1 rfl rfl Try.underlying26 rfl (by kernel_rfl) ?_) | (refine L_fa H rfl 26 _ rfl 2 rfl rfl Try.underlying26 rfl (by kernel_rfl) ?_) | (refine L_fa H rfl 26 _ rfl 3 rfl rfl Try.underlying26 rfl (by kernel_rfl) ?_) | (refine L_fa H rfl 26 _ rfl 4 rfl rfl Try.underlying26 rfl (by kernel_rfl) ?_) | (refine L_fa H rfl 26 _ rfl 5 rfl rfl Try.underlying26 rfl (by kernel_rfl) ?_)); refine unput (d := some _) ?_) | ((with_reducible refine isLd 65 ?_); (first | (refine L_fa H rfl 65 _ rfl 0 rfl rfl Try.underlying65 rfl (by kernel_rfl) ?_) | (refine L_fa H rfl 65 _ rfl 1 rfl rfl Try.underlying65 rfl (by kernel_rfl) ?_) | (refine L_fa H rfl 65 _ rfl 2 rfl rfl Try.underlying65 rfl (by kernel_rfl) ?_) | (refine L_fa H rfl 65 _ rfl 3 rfl rfl Try.underlying65 rfl (by kernel_rfl) ?_) | (refine L_fa H rfl 65 _ rfl 4 rfl rfl Try.underlying65 rfl (by kernel_rfl) ?_) | (refine L_fa H rfl 65 _ rfl 5 rfl rfl Try.underlying65 rfl (by kernel_rfl) ?_)); refine unput (d := some _) ?_) | (go_at_call 25; have HSZ := kp H.out.1.size; refine (HDO.out _ (ext_wrote HEg19.out HWw19b.out (Nat.le_of_eq HGg19.out.symm))).mono ?_; intro e wd hrr; obtain ⟨aN, hN, ad2, n2, c2, vo, E, haN, hE, rfl, hO, hF, hx⟩ := hanG HA6.out hrr; have HO := kp (owns_weak hO HSZ.out); have HF := kp (hF.weak HSZ.out); have HE := kp (And.intro haN hE); clear hrr hO hF haN hE HSZ; replace H := kp (H.out.ext hx); have HXC := kp hx; clear hx) | ((with_reducible refine isAl 20 26 ?_); (refine L_alloc H rfl 26 rfl (cat (partsA as0 rfl none 0 0)) (fun _ _ => by kernel_rfl) ?_); clear H; intro g20 w20 HGg20 HEg20 H; refine unput (d := some _) ?_) | ((with_reducible show wpList _ _ _ (Oper.mk none (Op.store 26 (.tmp 20) _) _ _ _ _ :: _) _ _); ((with_reducible refine isSt 26 ?_); refine L_sa H rfl rfl 26 _ _ rfl 0 rfl rfl (partsA aN hN ad2 n2 c2) rfl rfl (by kernel_rfl) ?_; clear H; intro w20b HWw20b H; simp only [szA] at H)))
      have HE20 := kp (ext_wrote HEg20.out HWw20b.out (Nat.le_of_eq HGg20.out.symm))
      have HX20 := kp ((ext_wrote HEg19.out HWw19b.out (Nat.le_of_eq HGg19.out.symm)).trans (HXC.out.trans HE20.out))
      obtain ⟨haN, hE⟩ := HE.out
      subst hr14
      clear HXC HE HDO HEg19 HWw19b HGg19 HEg20 HWw20b HR3 HZX HXO
      by_cases he : r.2.2 = 0
      ·rw [he] at hE
       rw [if_pos he] at haN
       obtain rfl : a = aN := haN.symm
       have HSO := kp (HDK.out he)
       have HUQ := kp (HUP.out he)
       subst hE
       have HOW2 := kp (show OwE w.heap.size w20b (.slice ad2 n2 c2) r.1 from ownsT_ext HO.out HE20.out)
       obtain ⟨va, vn, vc, rfl, hvn, hvc, hfr⟩ := frs_at (HF.out.ext HE20.out) (fun o ho => msgO_ok HA6.out (HMS.out.1 o ho))
       have HVN := kp hvn
       have HFR := kp hfr
       have hv64 : vn ≤ 64 := by rw [hvn]; exact HMS.out.2
       obtain ⟨mn, hmn⟩ : ∃ m, mineS a who ⟨k, now, hd, bb, sta⟩ = m := ⟨_, rfl⟩
       obtain ⟨m1, hm1⟩ : ∃ m, mem1 a who ⟨k, now, hd, bb, sta⟩ m0 = m := ⟨_, rfl⟩
       obtain ⟨m2, hm2⟩ : ∃ m, (if mn then r.2.1.foldl outF m1 else m1) = m := ⟨_, rfl⟩
       obtain ⟨m3, hm3⟩ : ∃ m, mem3 who ⟨k, now, hd, bb, sta⟩ m2 = m := ⟨_, rfl⟩
       obtain ⟨m4, hm4⟩ : ∃ m, (if k = 1 then r.2.1.foldl (tickO who) m3 else m3) = m := ⟨_, rfl⟩
       have HMM := kp (show isM r.1 who = m4 from by
        have e2 : mem2 a who ⟨k, now, hd, bb, sta⟩ r.2.1 m0 = m2 := by unfold mem2; rw [hmn, hm1]; exact hm2
        have h := HUQ.out
        rw [e2, hm3] at h
        rw [h]; exact hm4)
       have HMN := kp hmn; have HM1 := kp hm1; have HM2 := kp hm2; have HM3 := kp hm3; have HM4 := kp hm4
       clear hmn hm1 hm2 hm3 hm4 he haN hfr hvn hvc HDK HUP HUQ HO HF HE20
       go_wp2_with fail
       subst hc15
       refine wp_cutM [(false, 23), (true, 1), (false, 63), (true, 34), (false, 132)] (AllS 23 mn w20b) ?_ ?_
       ·rcases mine_six HAO.out HMN.out with ⟨e1, rfl⟩ | ⟨e1, e2, rfl⟩ | ⟨e1, e2, e3, rfl⟩ | ⟨e1, e2, e3, e4, rfl⟩ | ⟨e1, e2, e3, e4, e5⟩
        ·
         go_wp2_with (first | ((with_reducible refine isLd 3 ?_); (first | (refine L_f1 H rfl 3 _ rfl 0 rfl _ rfl _ rfl _ rfl Try.underlying3 rfl ?_) | (refine L_f1 H rfl 3 _ rfl 1 rfl _ rfl _ rfl _ rfl Try.underlying3 rfl ?_) | (refine L_f1 H rfl 3 _ rfl 2 rfl _ rfl _ rfl _ rfl Try.underlying3 rfl ?_) | (refine L_f1 H rfl 3 _ rfl 3 rfl _ rfl _ rfl _ rfl Try.underlying3 rfl ?_) | (refine L_f1 H rfl 3 _ rfl 4 rfl _ rfl _ rfl _ rfl Try.underlying3 rfl ?_) | (refine L_f1 H rfl 3 _ rfl 5 rfl _ rfl _ rfl _ rfl Try.underlying3 rfl ?_)); refine unput (d := some _) ?_) | ((with_reducible refine isLd 5 ?_); (first | (refine L_f1 H rfl 5 _ rfl 0 rfl _ rfl _ rfl _ rfl Try.underlying5 rfl ?_) | (refine L_f1 H rfl 5 _ rfl 1 rfl _ rfl _ rfl _ rfl Try.underlying5 rfl ?_) | (refine L_f1 H rfl 5 _ rfl 2 rfl _ rfl _ rfl _ rfl Try.underlying5 rfl ?_) | (refine L_f1 H rfl 5 _ rfl 3 rfl _ rfl _ rfl _ rfl Try.underlying5 rfl ?_) | (refine L_f1 H rfl 5 _ rfl 4 rfl _ rfl _ rfl _ rfl Try.underlying5 rfl ?_) | (refine L_f1 H rfl 5 _ rfl 5 rfl _ rfl _ rfl _ rfl Try.underlying5 rfl ?_)); refine unput (d := some _) ?_) | ((with_reducible refine isLd 23 ?_); (first | (refine L_fv H rfl 23 _ rfl 0 rfl _ rfl _ rfl rfl Try.underlying23 rfl (by kernel_rfl) ?_) | (refine L_fv H rfl 23 _ rfl 1 rfl _ rfl _ rfl rfl Try.underlying23 rfl (by kernel_rfl) ?_) | (refine L_fv H rfl 23 _ rfl 2 rfl _ rfl _ rfl rfl Try.underlying23 rfl (by kernel_rfl) ?_) | (refine L_fv H rfl 23 _ rfl 3 rfl _ rfl _ rfl rfl Try.underlying23 rfl (by kernel_rfl) ?_) | (refine L_fv H rfl 23 _ rfl 4 rfl _ rfl _ rfl rfl Try.underlying23 rfl (by kernel_rfl) ?_) | (refine L_fv H rfl 23 _ rfl 5 rfl _ rfl _ rfl rfl Try.underlying23 rfl (by kernel_rfl) ?_)); refine unput (d := some _) ?_) | fail)
         exact CutQ.of rfl (by kernel_rfl) rfl ⟨rfl, rfl⟩
        ·
         go_wp2_with (first | ((with_reducible refine isLd 3 ?_); (first | (refine L_f1 H rfl 3 _ rfl 0 rfl _ rfl _ rfl _ rfl Try.underlying3 rfl ?_) | (refine L_f1 H rfl 3 _ rfl 1 rfl _ rfl _ rfl _ rfl Try.underlying3 rfl ?_) | (refine L_f1 H rfl 3 _ rfl 2 rfl _ rfl _ rfl _ rfl Try.underlying3 rfl ?_) | (refine L_f1 H rfl 3 _ rfl 3 rfl _ rfl _ rfl _ rfl Try.underlying3 rfl ?_) | (refine L_f1 H rfl 3 _ rfl 4 rfl _ rfl _ rfl _ rfl Try.underlying3 rfl ?_) | (refine L_f1 H rfl 3 _ rfl 5 rfl _ rfl _ rfl _ rfl Try.underlying3 rfl ?_)); refine unput (d := some _) ?_) | ((with_reducible refine isLd 5 ?_); (first | (refine L_f1 H rfl 5 _ rfl 0 rfl _ rfl _ rfl _ rfl Try.underlying5 rfl ?_) | (refine L_f1 H rfl 5 _ rfl 1 rfl _ rfl _ rfl _ rfl Try.underlying5 rfl ?_) | (refine L_f1 H rfl 5 _ rfl 2 rfl _ rfl _ rfl _ rfl Try.underlying5 rfl ?_) | (refine L_f1 H rfl 5 _ rfl 3 rfl _ rfl _ rfl _ rfl Try.underlying5 rfl ?_) | (refine L_f1 H rfl 5 _ rfl 4 rfl _ rfl _ rfl _ rfl Try.underlying5 rfl ?_) | (refine L_f1 H rfl 5 _ rfl 5 rfl _ rfl _ rfl _ rfl Try.underlying5 rfl ?_)); refine unput (d := some _) ?_) | ((with_reducible refine isLd 23 ?_); (first | (refine L_fv H rfl 23 _ rfl 0 rfl _ rfl _ rfl rfl Try.underlying23 rfl (by kernel_rfl) ?_) | (refine L_fv H rfl 23 _ rfl 1 rfl _ rfl _ rfl rfl Try.underlying23 rfl (by kernel_rfl) ?_) | (refine L_fv H rfl 23 _ rfl 2 rfl _ rfl _ rfl rfl Try.underlying23 rfl (by kernel_rfl) ?_) | (refine L_fv H rfl 23 _ rfl 3 rfl _ rfl _ rfl rfl Try.underlying23 rfl (by kernel_rfl) ?_) | (refine L_fv H rfl 23 _ rfl 4 rfl _ rfl _ rfl rfl Try.underlying23 rfl (by kernel_rfl) ?_) | (refine L_fv H rfl 23 _ rfl 5 rfl _ rfl _ rfl rfl Try.underlying23 rfl (by kernel_rfl) ?_)); refine unput (d := some _) ?_) | fail)
         exact CutQ.of rfl (by kernel_rfl) rfl ⟨rfl, rfl⟩
        ·have E3 := kp e3
         clear e3
         go_wp2_with (first | ((with_reducible refine isLd 3 ?_); (first | (refine L_f1 H rfl 3 _ rfl 0 rfl _ rfl _ rfl _ rfl Try.underlying3 rfl ?_) | (refine L_f1 H rfl 3 _ rfl 1 rfl _ rfl _ rfl _ rfl Try.underlying3 rfl ?_) | (refine L_f1 H rfl 3 _ rfl 2 rfl _ rfl _ rfl _ rfl Try.underlying3 rfl ?_) | (refine L_f1 H rfl 3 _ rfl 3 rfl _ rfl _ rfl _ rfl Try.underlying3 rfl ?_) | (refine L_f1 H rfl 3 _ rfl 4 rfl _ rfl _ rfl _ rfl Try.underlying3 rfl ?_) | (refine L_f1 H rfl 3 _ rfl 5 rfl _ rfl _ rfl _ rfl Try.underlying3 rfl ?_)); refine unput (d := some _) ?_) | ((with_reducible refine isLd 5 ?_); (first | (refine L_f1 H rfl 5 _ rfl 0 rfl _ rfl _ rfl _ rfl Try.underlying5 rfl ?_) | (refine L_f1 H rfl 5 _ rfl 1 rfl _ rfl _ rfl _ rfl Try.underlying5 rfl ?_) | (refine L_f1 H rfl 5 _ rfl 2 rfl _ rfl _ rfl _ rfl Try.underlying5 rfl ?_) | (refine L_f1 H rfl 5 _ rfl 3 rfl _ rfl _ rfl _ rfl Try.underlying5 rfl ?_) | (refine L_f1 H rfl 5 _ rfl 4 rfl _ rfl _ rfl _ rfl Try.underlying5 rfl ?_) | (refine L_f1 H rfl 5 _ rfl 5 rfl _ rfl _ rfl _ rfl Try.underlying5 rfl ?_)); refine unput (d := some _) ?_) | ((with_reducible refine isLd 23 ?_); (first | (refine L_fv H rfl 23 _ rfl 0 rfl _ rfl _ rfl rfl Try.underlying23 rfl (by kernel_rfl) ?_) | (refine L_fv H rfl 23 _ rfl 1 rfl _ rfl _ rfl rfl Try.underlying23 rfl (by kernel_rfl) ?_) | (refine L_fv H rfl 23 _ rfl 2 rfl _ rfl _ rfl rfl Try.underlying23 rfl (by kernel_rfl) ?_) | (refine L_fv H rfl 23 _ rfl 3 rfl _ rfl _ rfl rfl Try.underlying23 rfl (by kernel_rfl) ?_) | (refine L_fv H rfl 23 _ rfl 4 rfl _ rfl _ rfl rfl Try.underlying23 rfl (by kernel_rfl) ?_) | (refine L_fv H rfl 23 _ rfl 5 rfl _ rfl _ rfl rfl Try.underlying23 rfl (by kernel_rfl) ?_)); refine unput (d := some _) ?_) | ((with_reducible show wpList _ _ _ (Oper.mk (some 103) (Op.binOp .eql 23 _ _ _) _ _ _ _ :: _) _ _); refine L_eqA rfl _ _ rfl (hd.a1) (own) (HST.out.h.l1) (HOW.out) _ (E3.out) rfl rfl ?_; refine unput (d := some _) ?_))
         exact CutQ.of rfl (by kernel_rfl) rfl ⟨rfl, rfl⟩
        ·have E3 := kp e3; have E4 := kp e4
         clear e3 e4
         go_wp2_with (first | ((with_reducible refine isLd 3 ?_); (first | (refine L_f1 H rfl 3 _ rfl 0 rfl _ rfl _ rfl _ rfl Try.underlying3 rfl ?_) | (refine L_f1 H rfl 3 _ rfl 1 rfl _ rfl _ rfl _ rfl Try.underlying3 rfl ?_) | (refine L_f1 H rfl 3 _ rfl 2 rfl _ rfl _ rfl _ rfl Try.underlying3 rfl ?_) | (refine L_f1 H rfl 3 _ rfl 3 rfl _ rfl _ rfl _ rfl Try.underlying3 rfl ?_) | (refine L_f1 H rfl 3 _ rfl 4 rfl _ rfl _ rfl _ rfl Try.underlying3 rfl ?_) | (refine L_f1 H rfl 3 _ rfl 5 rfl _ rfl _ rfl _ rfl Try.underlying3 rfl ?_)); refine unput (d := some _) ?_) | ((with_reducible refine isLd 5 ?_); (first | (refine L_f1 H rfl 5 _ rfl 0 rfl _ rfl _ rfl _ rfl Try.underlying5 rfl ?_) | (refine L_f1 H rfl 5 _ rfl 1 rfl _ rfl _ rfl _ rfl Try.underlying5 rfl ?_) | (refine L_f1 H rfl 5 _ rfl 2 rfl _ rfl _ rfl _ rfl Try.underlying5 rfl ?_) | (refine L_f1 H rfl 5 _ rfl 3 rfl _ rfl _ rfl _ rfl Try.underlying5 rfl ?_) | (refine L_f1 H rfl 5 _ rfl 4 rfl _ rfl _ rfl _ rfl Try.underlying5 rfl ?_) | (refine L_f1 H rfl 5 _ rfl 5 rfl _ rfl _ rfl _ rfl Try.underlying5 rfl ?_)); refine unput (d := some _) ?_) | ((with_reducible refine isLd 23 ?_); (first | (refine L_fv H rfl 23 _ rfl 0 rfl _ rfl _ rfl rfl Try.underlying23 rfl (by kernel_rfl) ?_) | (refine L_fv H rfl 23 _ rfl 1 rfl _ rfl _ rfl rfl Try.underlying23 rfl (by kernel_rfl) ?_) | (refine L_fv H rfl 23 _ rfl 2 rfl _ rfl _ rfl rfl Try.underlying23 rfl (by kernel_rfl) ?_) | (refine L_fv H rfl 23 _ rfl 3 rfl _ rfl _ rfl rfl Try.underlying23 rfl (by kernel_rfl) ?_) | (refine L_fv H rfl 23 _ rfl 4 rfl _ rfl _ rfl rfl Try.underlying23 rfl (by kernel_rfl) ?_) | (refine L_fv H rfl 23 _ rfl 5 rfl _ rfl _ rfl rfl Try.underlying23 rfl (by kernel_rfl) ?_)); refine unput (d := some _) ?_) | ((with_reducible show wpList _ _ _ (Oper.mk (some 103) (Op.binOp .eql 23 _ _ _) _ _ _ _ :: _) _ _); refine L_eqA rfl _ _ rfl (hd.a1) (own) (HST.out.h.l1) (HOW.out) _ (E3.out) rfl rfl ?_; refine unput (d := some _) ?_) | ((with_reducible show wpList _ _ _ (Oper.mk (some 111) (Op.binOp .eql 23 _ _ _) _ _ _ _ :: _) _ _); refine L_eqA rfl _ _ rfl (hd.a2) (who) (HST.out.h.l2) (HWH.out) _ (E4.out) rfl rfl ?_; refine unput (d := some _) ?_))
         exact CutQ.of rfl (by kernel_rfl) rfl ⟨rfl, rfl⟩
        ·have E3 := kp e3; have E4 := kp e4; have E5 := kp e5
         clear e3 e4 e5
         go_wp2_with (first | ((with_reducible refine isLd 3 ?_); (first | (refine L_f1 H rfl 3 _ rfl 0 rfl _ rfl _ rfl _ rfl Try.underlying3 rfl ?_) | (refine L_f1 H rfl 3 _ rfl 1 rfl _ rfl _ rfl _ rfl Try.underlying3 rfl ?_) | (refine L_f1 H rfl 3 _ rfl 2 rfl _ rfl _ rfl _ rfl Try.underlying3 rfl ?_) | (refine L_f1 H rfl 3 _ rfl 3 rfl _ rfl _ rfl _ rfl Try.underlying3 rfl ?_) | (refine L_f1 H rfl 3 _ rfl 4 rfl _ rfl _ rfl _ rfl Try.underlying3 rfl ?_) | (refine L_f1 H rfl 3 _ rfl 5 rfl _ rfl _ rfl _ rfl Try.underlying3 rfl ?_)); refine unput (d := some _) ?_) | ((with_reducible refine isLd 5 ?_); (first | (refine L_f1 H rfl 5 _ rfl 0 rfl _ rfl _ rfl _ rfl Try.underlying5 rfl ?_) | (refine L_f1 H rfl 5 _ rfl 1 rfl _ rfl _ rfl _ rfl Try.underlying5 rfl ?_) | (refine L_f1 H rfl 5 _ rfl 2 rfl _ rfl _ rfl _ rfl Try.underlying5 rfl ?_) | (refine L_f1 H rfl 5 _ rfl 3 rfl _ rfl _ rfl _ rfl Try.underlying5 rfl ?_) | (refine L_f1 H rfl 5 _ rfl 4 rfl _ rfl _ rfl _ rfl Try.underlying5 rfl ?_) | (refine L_f1 H rfl 5 _ rfl 5 rfl _ rfl _ rfl _ rfl Try.underlying5 rfl ?_)); refine unput (d := some _) ?_) | ((with_reducible refine isLd 23 ?_); (first | (refine L_fv H rfl 23 _ rfl 0 rfl _ rfl _ rfl rfl Try.underlying23 rfl (by kernel_rfl) ?_) | (refine L_fv H rfl 23 _ rfl 1 rfl _ rfl _ rfl rfl Try.underlying23 rfl (by kernel_rfl) ?_) | (refine L_fv H rfl 23 _ rfl 2 rfl _ rfl _ rfl rfl Try.underlying23 rfl (by kernel_rfl) ?_) | (refine L_fv H rfl 23 _ rfl 3 rfl _ rfl _ rfl rfl Try.underlying23 rfl (by kernel_rfl) ?_) | (refine L_fv H rfl 23 _ rfl 4 rfl _ rfl _ rfl rfl Try.underlying23 rfl (by kernel_rfl) ?_) | (refine L_fv H rfl 23 _ rfl 5 rfl _ rfl _ rfl rfl Try.underlying23 rfl (by kernel_rfl) ?_)); refine unput (d := some _) ?_) | ((with_reducible show wpList _ _ _ (Oper.mk (some 103) (Op.binOp .eql 23 _ _ _) _ _ _ _ :: _) _ _); refine L_eqA rfl _ _ rfl (hd.a1) (own) (HST.out.h.l1) (HOW.out) _ (E3.out) rfl rfl ?_; refine unput (d := some _) ?_) | ((with_reducible show wpList _ _ _ (Oper.mk (some 111) (Op.binOp .eql 23 _ _ _) _ _ _ _ :: _) _ _); refine L_eqA rfl _ _ rfl (hd.a2) (who) (HST.out.h.l2) (HWH.out) _ (E4.out) rfl rfl ?_; refine unput (d := some _) ?_) | ((with_reducible show wpList _ _ _ (Oper.mk (some 119) (Op.binOp .eql 23 _ _ _) _ _ _ _ :: _) _ _); refine L_eqA rfl _ _ rfl (hd.a3) (own) (HST.out.h.l3) (HOW.out) _ (E5.out) rfl rfl ?_; refine unput (d := some _) ?_))
         exact CutQ.of rfl (by kernel_rfl) rfl ⟨rfl, rfl⟩
       rintro vs2 wq ⟨q23, rfl⟩
       simp only [mixF_t, mixF_f, mixF_t0, mixF_f0, mixF_e, Nat.reduceAdd]
       rw [q23]
       clear q23
       go_wp2_with fail
       subst hc16
       refine wp_cutM [(false, 17), (true, 1), (false, 103), (true, 15), (false, 117)] (AllS 17 m1 wq) ?_ ?_
       ·rcases bye_four HMN.out HM1.out with ⟨rfl, rfl⟩ | ⟨rfl, e1, rfl⟩ | ⟨rfl, e1, e2, rfl⟩ | ⟨rfl, e1, e2, rfl⟩
        ·
         go_wp2_with (first | ((with_reducible refine isLd 3 ?_); (first | (refine L_f1 H rfl 3 _ rfl 0 rfl _ rfl _ rfl _ rfl Try.underlying3 rfl ?_) | (refine L_f1 H rfl 3 _ rfl 1 rfl _ rfl _ rfl _ rfl Try.underlying3 rfl ?_) | (refine L_f1 H rfl 3 _ rfl 2 rfl _ rfl _ rfl _ rfl Try.underlying3 rfl ?_) | (refine L_f1 H rfl 3 _ rfl 3 rfl _ rfl _ rfl _ rfl Try.underlying3 rfl ?_) | (refine L_f1 H rfl 3 _ rfl 4 rfl _ rfl _ rfl _ rfl Try.underlying3 rfl ?_) | (refine L_f1 H rfl 3 _ rfl 5 rfl _ rfl _ rfl _ rfl Try.underlying3 rfl ?_)); refine unput (d := some _) ?_) | ((with_reducible refine isLd 5 ?_); (first | (refine L_f1 H rfl 5 _ rfl 0 rfl _ rfl _ rfl _ rfl Try.underlying5 rfl ?_) | (refine L_f1 H rfl 5 _ rfl 1 rfl _ rfl _ rfl _ rfl Try.underlying5 rfl ?_) | (refine L_f1 H rfl 5 _ rfl 2 rfl _ rfl _ rfl _ rfl Try.underlying5 rfl ?_) | (refine L_f1 H rfl 5 _ rfl 3 rfl _ rfl _ rfl _ rfl Try.underlying5 rfl ?_) | (refine L_f1 H rfl 5 _ rfl 4 rfl _ rfl _ rfl _ rfl Try.underlying5 rfl ?_) | (refine L_f1 H rfl 5 _ rfl 5 rfl _ rfl _ rfl _ rfl Try.underlying5 rfl ?_)); refine unput (d := some _) ?_) | ((with_reducible refine isLd 23 ?_); (first | (refine L_fv H rfl 23 _ rfl 0 rfl _ rfl _ rfl rfl Try.underlying23 rfl (by kernel_rfl) ?_) | (refine L_fv H rfl 23 _ rfl 1 rfl _ rfl _ rfl rfl Try.underlying23 rfl (by kernel_rfl) ?_) | (refine L_fv H rfl 23 _ rfl 2 rfl _ rfl _ rfl rfl Try.underlying23 rfl (by kernel_rfl) ?_) | (refine L_fv H rfl 23 _ rfl 3 rfl _ rfl _ rfl rfl Try.underlying23 rfl (by kernel_rfl) ?_) | (refine L_fv H rfl 23 _ rfl 4 rfl _ rfl _ rfl rfl Try.underlying23 rfl (by kernel_rfl) ?_) | (refine L_fv H rfl 23 _ rfl 5 rfl _ rfl _ rfl rfl Try.underlying23 rfl (by kernel_rfl) ?_)); refine unput (d := some _) ?_) | fail)
         exact CutQ.of rfl (by kernel_rfl) rfl ⟨rfl, rfl⟩
        ·
         go_wp2_with (first | ((with_reducible refine isLd 3 ?_); (first | (refine L_f1 H rfl 3 _ rfl 0 rfl _ rfl _ rfl _ rfl Try.underlying3 rfl ?_) | (refine L_f1 H rfl 3 _ rfl 1 rfl _ rfl _ rfl _ rfl Try.underlying3 rfl ?_) | (refine L_f1 H rfl 3 _ rfl 2 rfl _ rfl _ rfl _ rfl Try.underlying3 rfl ?_) | (refine L_f1 H rfl 3 _ rfl 3 rfl _ rfl _ rfl _ rfl Try.underlying3 rfl ?_) | (refine L_f1 H rfl 3 _ rfl 4 rfl _ rfl _ rfl _ rfl Try.underlying3 rfl ?_) | (refine L_f1 H rfl 3 _ rfl 5 rfl _ rfl _ rfl _ rfl Try.underlying3 rfl ?_)); refine unput (d := some _) ?_) | ((with_reducible refine isLd 5 ?_); (first | (refine L_f1 H rfl 5 _ rfl 0 rfl _ rfl _ rfl _ rfl Try.underlying5 rfl ?_) | (refine L_f1 H rfl 5 _ rfl 1 rfl _ rfl _ rfl _ rfl Try.underlying5 rfl ?_) | (refine L_f1 H rfl 5 _ rfl 2 rfl _ rfl _ rfl _ rfl Try.underlying5 rfl ?_) | (refine L_f1 H rfl 5 _ rfl 3 rfl _ rfl _ rfl _ rfl Try.underlying5 rfl ?_) | (refine L_f1 H rfl 5 _ rfl 4 rfl _ rfl _ rfl _ rfl Try.underlying5 rfl ?_) | (refine L_f1 H rfl 5 _ rfl 5 rfl _ rfl _ rfl _ rfl Try.underlying5 rfl ?_)); refine unput (d := some _) ?_) | ((with_reducible refine isLd 23 ?_); (first | (refine L_fv H rfl 23 _ rfl 0 rfl _ rfl _ rfl rfl Try.underlying23 rfl (by kernel_rfl) ?_) | (refine L_fv H rfl 23 _ rfl 1 rfl _ rfl _ rfl rfl Try.underlying23 rfl (by kernel_rfl) ?_) | (refine L_fv H rfl 23 _ rfl 2 rfl _ rfl _ rfl rfl Try.underlying23 rfl (by kernel_rfl) ?_) | (refine L_fv H rfl 23 _ rfl 3 rfl _ rfl _ rfl rfl Try.underlying23 rfl (by kernel_rfl) ?_) | (refine L_fv H rfl 23 _ rfl 4 rfl _ rfl _ rfl rfl Try.underlying23 rfl (by kernel_rfl) ?_) | (refine L_fv H rfl 23 _ rfl 5 rfl _ rfl _ rfl rfl Try.underlying23 rfl (by kernel_rfl) ?_)); refine unput (d := some _) ?_) | fail)
         exact CutQ.of rfl (by kernel_rfl) rfl ⟨rfl, rfl⟩
        ·
         go_wp2_with (first | ((with_reducible refine isLd 3 ?_); (first | (refine L_f1 H rfl 3 _ rfl 0 rfl _ rfl _ rfl _ rfl Try.underlying3 rfl ?_) | (refine L_f1 H rfl 3 _ rfl 1 rfl _ rfl _ rfl _ rfl Try.underlying3 rfl ?_) | (refine L_f1 H rfl 3 _ rfl 2 rfl _ rfl _ rfl _ rfl Try.underlying3 rfl ?_) | (refine L_f1 H rfl 3 _ rfl 3 rfl _ rfl _ rfl _ rfl Try.underlying3 rfl ?_) | (refine L_f1 H rfl 3 _ rfl 4 rfl _ rfl _ rfl _ rfl Try.underlying3 rfl ?_) | (refine L_f1 H rfl 3 _ rfl 5 rfl _ rfl _ rfl _ rfl Try.underlying3 rfl ?_)); refine unput (d := some _) ?_) | ((with_reducible refine isLd 5 ?_); (first | (refine L_f1 H rfl 5 _ rfl 0 rfl _ rfl _ rfl _ rfl Try.underlying5 rfl ?_) | (refine L_f1 H rfl 5 _ rfl 1 rfl _ rfl _ rfl _ rfl Try.underlying5 rfl ?_) | (refine L_f1 H rfl 5 _ rfl 2 rfl _ rfl _ rfl _ rfl Try.underlying5 rfl ?_) | (refine L_f1 H rfl 5 _ rfl 3 rfl _ rfl _ rfl _ rfl Try.underlying5 rfl ?_) | (refine L_f1 H rfl 5 _ rfl 4 rfl _ rfl _ rfl _ rfl Try.underlying5 rfl ?_) | (refine L_f1 H rfl 5 _ rfl 5 rfl _ rfl _ rfl _ rfl Try.underlying5 rfl ?_)); refine unput (d := some _) ?_) | ((with_reducible refine isLd 23 ?_); (first | (refine L_fv H rfl 23 _ rfl 0 rfl _ rfl _ rfl rfl Try.underlying23 rfl (by kernel_rfl) ?_) | (refine L_fv H rfl 23 _ rfl 1 rfl _ rfl _ rfl rfl Try.underlying23 rfl (by kernel_rfl) ?_) | (refine L_fv H rfl 23 _ rfl 2 rfl _ rfl _ rfl rfl Try.underlying23 rfl (by kernel_rfl) ?_) | (refine L_fv H rfl 23 _ rfl 3 rfl _ rfl _ rfl rfl Try.underlying23 rfl (by kernel_rfl) ?_) | (refine L_fv H rfl 23 _ rfl 4 rfl _ rfl _ rfl rfl Try.underlying23 rfl (by kernel_rfl) ?_) | (refine L_fv H rfl 23 _ rfl 5 rfl _ rfl _ rfl rfl Try.underlying23 rfl (by kernel_rfl) ?_)); refine unput (d := some _) ?_) | fail)
         exact CutQ.of rfl (by kernel_rfl) rfl ⟨rfl, rfl⟩
        ·
         go_wp2_with (first | ((with_reducible refine isLd 3 ?_); (first | (refine L_f1 H rfl 3 _ rfl 0 rfl _ rfl _ rfl _ rfl Try.underlying3 rfl ?_) | (refine L_f1 H rfl 3 _ rfl 1 rfl _ rfl _ rfl _ rfl Try.underlying3 rfl ?_) | (refine L_f1 H rfl 3 _ rfl 2 rfl _ rfl _ rfl _ rfl Try.underlying3 rfl ?_) | (refine L_f1 H rfl 3 _ rfl 3 rfl _ rfl _ rfl _ rfl Try.underlying3 rfl ?_) | (refine L_f1 H rfl 3 _ rfl 4 rfl _ rfl _ rfl _ rfl Try.underlying3 rfl ?_) | (refine L_f1 H rfl 3 _ rfl 5 rfl _ rfl _ rfl _ rfl Try.underlying3 rfl ?_)); refine unput (d := some _) ?_) | ((with_reducible refine isLd 5 ?_); (first | (refine L_f1 H rfl 5 _ rfl 0 rfl _ rfl _ rfl _ rfl Try.underlying5 rfl ?_) | (refine L_f1 H rfl 5 _ rfl 1 rfl _ rfl _ rfl _ rfl Try.underlying5 rfl ?_) | (refine L_f1 H rfl 5 _ rfl 2 rfl _ rfl _ rfl _ rfl Try.underlying5 rfl ?_) | (refine L_f1 H rfl 5 _ rfl 3 rfl _ rfl _ rfl _ rfl Try.underlying5 rfl ?_) | (refine L_f1 H rfl 5 _ rfl 4 rfl _ rfl _ rfl _ rfl Try.underlying5 rfl ?_) | (refine L_f1 H rfl 5 _ rfl 5 rfl _ rfl _ rfl _ rfl Try.underlying5 rfl ?_)); refine unput (d := some _) ?_) | ((with_reducible refine isLd 23 ?_); (first | (refine L_fv H rfl 23 _ rfl 0 rfl _ rfl _ rfl rfl Try.underlying23 rfl (by kernel_rfl) ?_) | (refine L_fv H rfl 23 _ rfl 1 rfl _ rfl _ rfl rfl Try.underlying23 rfl (by kernel_rfl) ?_) | (refine L_fv H rfl 23 _ rfl 2 rfl _ rfl _ rfl rfl Try.underlying23 rfl (by kernel_rfl) ?_) | (refine L_fv H rfl 23 _ rfl 3 rfl _ rfl _ rfl rfl Try.underlying23 rfl (by kernel_rfl) ?_) | (refine L_fv H rfl 23 _ rfl 4 rfl _ rfl _ rfl rfl Try.underlying23 rfl (by kernel_rfl) ?_) | (refine L_fv H rfl 23 _ rfl 5 rfl _ rfl _ rfl rfl Try.underlying23 rfl (by kernel_rfl) ?_)); refine unput (d := some _) ?_) | fail)
         exact CutQ.of rfl (by kernel_rfl) rfl ⟨rfl, rfl⟩
       rintro vs3 wq2 ⟨q17, rfl⟩
       simp only [mixF_t, mixF_f, mixF_t0, mixF_f0, mixF_e, Nat.reduceAdd]
       rw [q17]
       clear q17
       go_wp2_with fail
       subst hc18
       refine wp_cutM [(false, 17), (true, 1), (false, 6), (true, 6), (false, 106), (true, 61), (false, 56)] (AllE m2 w wq2 ((g20, 26, cat (partsA a hN ad2 n2 c2)) :: (g19, 65, cat (partsS ⟨k, now, hd, bb, sta⟩ HST.out fa bb.length fc)) :: [(g16, 31, cat (partsFr PH HPO.out none 0 0)), (g14, 26, cat (partsA a HA6.out ad n c)), (g11, 23, cat [Lf.v ⟨who, HWH.out⟩]), (g6, 23, cat [Lf.v ⟨own, HOW.out⟩])])) ?_ ?_
       ·go_wp2_with fail
        refine wp_loopM [(false, 17), (true, 1), (false, 6), (true, 6), (false, 106), (true, 61), (false, 56)] (AllK mn m1 r.2.1 w wq2 ((g20, 26, cat (partsA a hN ad2 n2 c2)) :: (g19, 65, cat (partsS ⟨k, now, hd, bb, sta⟩ HST.out fa bb.length fc)) :: [(g16, 31, cat (partsFr PH HPO.out none 0 0)), (g14, 26, cat (partsA a HA6.out ad n c)), (g11, 23, cat [Lf.v ⟨who, HWH.out⟩]), (g6, 23, cat [Lf.v ⟨own, HOW.out⟩])])) (fun vs _ => vn - (intOf (vs 24)).toNat) (by kernel_rfl) ⟨0, Nat.zero_le _, rfl, (by cases mn <;> rfl), H, kp (Ext.refl _)⟩ ?_
        clear H
        rintro vs7 wy ⟨i, hi, q24, q17, H, HXT⟩
        simp only [mixF_t, mixF_f, mixF_t0, mixF_f0, mixF_e, Nat.reduceAdd]
        rw [q24, q17]
        clear q24 q17
        generalize hc23 : ((Code.region 23 _ _ : Code).seq _) = C23
        generalize hr25 : (Code.region 25 _ _ : Code) = R25
        generalize hr26 : (Code.region 26 _ _ : Code) = R26
        by_cases hlt2 : i < vn
        ·cases mn with
         | false =>
          have HV := kp (show m1 = m2 from HM2.out)
          go_wp2_with fail
          exact CutQ.of rfl (by kernel_rfl) rfl ⟨congrArg Value.bool HV.out, H, HXT⟩
         | true =>
          obtain ⟨⟨oh, ob⟩, ho⟩ : ∃ o, r.2.1[i]? = some o := ⟨r.2.1[i]'(by rw [← HVN.out]; exact hlt2), by simp⟩
          obtain ⟨bf, bd, bn, bc, rfl, hbf, hrf, hbo⟩ := HFR.out i _ ho
          obtain ⟨sub, hsb, hoh, hob⟩ := HAP.out (mine_kind HMN.out).1 _ (List.mem_of_getElem? ho)
          obtain rfl : oh = msgH a hd.a2 sub := hoh
          have hsr : 0 ≤ sub ∧ sub < 256 := by rcases hsb with h | h | h | h | h <;> omega
          have HMO := kp (msg_ok (sub := sub) HA6.out HST.out.h.l2 hsr.1 hsr.2)
          have HRF := kp (fun W (hW : Ext wq2 W) => show W.rangeAt bf (i * 41) (cat (partsFr (msgH a hd.a2 sub) HMO.out bd bn bc)) from by rw [← cat_Fr]; exact rangeAt_ext hrf hbf hW)
          have HRH := kp (fun W (hW : Ext wq2 W) => range_M HA6.out HST.out.h.l2 (rangeAt_ext hrf hbf hW))
          have HZH := kp (show (Try.prog.info? 28).map (·.size) = some (cat (partsM a HA6.out hd.a2 HST.out.h.l2 sub)).length by rw [cat_len]; kernel_rfl)
          have HBO := kp hbo
          have HBN := kp (owns_lenle HBO.out (Nat.le_trans hob (by decide)))
          have HDR := kp (fun W hs => (decResp_any bd bn bc ob HBN.out.1 HBN.out.2 W hs).mono (fun e w' h => rpG h))
          have HDA := kp (fun W hs => (decAuth_any bd bn bc ob HBN.out.1 HBN.out.2 W hs).mono (fun e w' h => auG h))
          have HFS := kp (foldl_snoc outF ho m1)
          rw [if_pos rfl]
          generalize (r.2.1.take i).foldl outF m1 = M at *
          have hkd : decide ((vn : Int) ≤ (i : Int)) = false := decide_eq_false (by omega)
          have hkd2 : decide (vn ≤ i) = false := decide_eq_false (by omega)
          clear hrf hbf hbo hob ho hsb hsr
          go_wp2_with (first | ((with_reducible show wpList _ _ _ (Oper.mk (some 149) _ _ _ _ _ :: _) _ _); ((with_reducible refine isLd 28 ?_); (refine wpList_load_midG (by kernel_rfl) 28 _ rfl (bf) (i * 41) rfl (cat (partsM a HA6.out hd.a2 HST.out.h.l2 sub)) _ (HRH.out _ HXT.out) Try.underlying28 rfl (HZH.out) ?_); refine unput (d := some _) ?_)) | ((with_reducible refine isAl 25 28 ?_); (refine L_alloc H rfl 28 rfl (cat (partsH hd0 hd0_ok)) (fun _ _ => by kernel_rfl) ?_); clear H; intro g25 w25 HGg25 HEg25 H; refine unput (d := some _) ?_) | ((with_reducible show wpList _ _ _ (Oper.mk none (Op.store 28 (.tmp 25) _) _ _ _ _ :: _) _ _); ((with_reducible refine isSt 28 ?_); refine L_sa H rfl rfl 28 _ _ rfl 0 rfl rfl (partsM a HA6.out hd.a2 HST.out.h.l2 sub) rfl rfl (by kernel_rfl) ?_; clear H; intro w25b HWw25b H; simp only [szA] at H); have HX25 := kp (HXT.out.trans (ext_wrote HEg25.out HWw25b.out (Nat.le_of_eq HGg25.out.symm)))) | ((with_reducible show wpList _ _ _ (Oper.mk (some 155) (Op.load 29 _) _ _ _ _ :: _) _ _); refine L_x1 (by kernel_rfl) 29 _ rfl bf _ rfl _ (range_cell (HRF.out _ HX25.out) (off := 40) (i := 20) rfl rfl) Try.underlying29 rfl ?_; refine unput (d := some _) ?_) | (go_at_call 26; refine (HDR.out _ (SlB.of_owns (owns_ext HBO.out HX25.out))).mono ?_; rintro e wd1 ⟨E1, x1, y1, z1, qa1, qk1, qq1, rfl, hx, hE1, hy⟩; have HY1 := kp (And.intro hE1 hy); clear hE1 hy; replace H := kp (H.out.ext hx); have HXC := kp hx; clear hx) | ((with_reducible refine isAl 26 68 ?_); (refine L_alloc H rfl 68 rfl (cat (pRs 0 0 0 none 0 0)) (fun _ _ => by kernel_rfl) ?_); clear H; intro g26 w26 HGg26 HEg26 H; refine unput (d := some _) ?_) | ((with_reducible show wpList _ _ _ (Oper.mk none (Op.store 68 (.tmp 26) _) _ _ _ _ :: _) _ _); ((with_reducible refine isSt 68 ?_); refine L_sa H rfl rfl 68 _ _ rfl 0 rfl rfl (pRs x1 y1 z1 qa1 qk1 qq1) rfl rfl (by kernel_rfl) ?_; clear H; intro w26b HWw26b H; simp only [szA] at H); have HX26 := kp (HX25.out.trans (HXC.out.trans (ext_wrote HEg26.out HWw26b.out (Nat.le_of_eq HGg26.out.symm)))); clear HXC))
          obtain ⟨mA, hmA⟩ : ∃ m, respM sub E1 y1 M = m := ⟨_, rfl⟩
          have HMA := kp hmA
          clear hmA
          subst hc23
          refine wp_cutM [(false, 17), (true, 1), (false, 141), (true, 17), (false, 77)] (AllS 17 mA w26b) ?_ ?_
          ·rcases resp_seven HMA.out with ⟨e1, e2, rfl⟩ | ⟨e1, e2, rfl⟩ | ⟨e1, e2, e3, rfl⟩ | ⟨e1, e2, e3, rfl⟩ | ⟨e1, e2, e3, rfl⟩ | ⟨e1, e2, e3, e4, rfl⟩ | ⟨e1, e2, e3, e4, rfl⟩
           all_goals (go_wp2_with (first | ((with_reducible refine isLd 5 ?_); (first | (refine L_f1 H rfl 5 _ rfl 0 rfl _ rfl _ rfl _ rfl Try.underlying5 rfl ?_) | (refine L_f1 H rfl 5 _ rfl 1 rfl _ rfl _ rfl _ rfl Try.underlying5 rfl ?_) | (refine L_f1 H rfl 5 _ rfl 2 rfl _ rfl _ rfl _ rfl Try.underlying5 rfl ?_) | (refine L_f1 H rfl 5 _ rfl 3 rfl _ rfl _ rfl _ rfl Try.underlying5 rfl ?_) | (refine L_f1 H rfl 5 _ rfl 4 rfl _ rfl _ rfl _ rfl Try.underlying5 rfl ?_) | (refine L_f1 H rfl 5 _ rfl 5 rfl _ rfl _ rfl _ rfl Try.underlying5 rfl ?_)); refine unput (d := some _) ?_) | ((with_reducible refine isLd 54 ?_); (first | (refine L_f1 H rfl 54 _ rfl 0 rfl _ rfl _ rfl _ rfl Try.underlying54 rfl ?_) | (refine L_f1 H rfl 54 _ rfl 1 rfl _ rfl _ rfl _ rfl Try.underlying54 rfl ?_) | (refine L_f1 H rfl 54 _ rfl 2 rfl _ rfl _ rfl _ rfl Try.underlying54 rfl ?_) | (refine L_f1 H rfl 54 _ rfl 3 rfl _ rfl _ rfl _ rfl Try.underlying54 rfl ?_) | (refine L_f1 H rfl 54 _ rfl 4 rfl _ rfl _ rfl _ rfl Try.underlying54 rfl ?_) | (refine L_f1 H rfl 54 _ rfl 5 rfl _ rfl _ rfl _ rfl Try.underlying54 rfl ?_)); refine unput (d := some _) ?_)); exact CutQ.of rfl (by kernel_rfl) rfl ⟨rfl, rfl⟩)
          rintro vs8 wz ⟨q17, rfl⟩
          simp only [mixF_t, mixF_f, mixF_t0, mixF_f0, mixF_e, Nat.reduceAdd]
          rw [q17]
          clear q17
          go_wp2_with fail
          subst hr25
          go_wp2_with (first | ((with_reducible show wpList _ _ _ (Oper.mk (some 181) (Op.load 29 _) _ _ _ _ :: _) _ _); refine L_x1 (by kernel_rfl) 29 _ rfl bf _ rfl _ (range_cell (HRF.out _ HX26.out) (off := 40) (i := 20) rfl rfl) Try.underlying29 rfl ?_; refine unput (d := some _) ?_) | (go_at_call 28; refine (HDA.out _ (SlB.of_owns (owns_ext HBO.out HX26.out))).mono ?_; rintro e wd2 ⟨E2, x2, y2, z2, qa2, qk2, qq2, rfl, hx, hE2, hz⟩; have HZ2 := kp (And.intro hE2 hz); clear hE2 hz; replace H := kp (H.out.ext hx); have HXC := kp hx; clear hx) | ((with_reducible refine isAl 28 74 ?_); (refine L_alloc H rfl 74 rfl (cat (pAu 0 0 0 none 0 0)) (fun _ _ => by kernel_rfl) ?_); clear H; intro g28 w28 HGg28 HEg28 H; refine unput (d := some _) ?_) | ((with_reducible show wpList _ _ _ (Oper.mk none (Op.store 74 (.tmp 28) _) _ _ _ _ :: _) _ _); ((with_reducible refine isSt 74 ?_); refine L_sa H rfl rfl 74 _ _ rfl 0 rfl rfl (pAu x2 y2 z2 qa2 qk2 qq2) rfl rfl (by kernel_rfl) ?_; clear H; intro w28b HWw28b H; simp only [szA] at H); have HX28 := kp (HX26.out.trans (HXC.out.trans (ext_wrote HEg28.out HWw28b.out (Nat.le_of_eq HGg28.out.symm)))); clear HXC))
          obtain ⟨mB, hmB⟩ : ∃ m, authM sub E2 z2 mA = m := ⟨_, rfl⟩
          have HMB := kp hmB
          have HFN := kp (show (r.2.1.take (i + 1)).foldl outF m1 = mB from by
           rw [HFS.out, ← hmB, HZ2.out.1]
           exact (out_two HY1.out.2 HZ2.out.2 (by rw [← HY1.out.1]; exact HMA.out)).symm)
          clear hmB HMA HFS
          subst hr26
          rcases auth_four HMB.out with ⟨e1, rfl⟩ | ⟨e1, e2, rfl⟩ | ⟨e1, e2, e3, rfl⟩ | ⟨e1, e2, e3, rfl⟩
          all_goals (go_wp2_with (first | ((with_reducible refine isLd 5 ?_); (first | (refine L_f1 H rfl 5 _ rfl 0 rfl _ rfl _ rfl _ rfl Try.underlying5 rfl ?_) | (refine L_f1 H rfl 5 _ rfl 1 rfl _ rfl _ rfl _ rfl Try.underlying5 rfl ?_) | (refine L_f1 H rfl 5 _ rfl 2 rfl _ rfl _ rfl _ rfl Try.underlying5 rfl ?_) | (refine L_f1 H rfl 5 _ rfl 3 rfl _ rfl _ rfl _ rfl Try.underlying5 rfl ?_) | (refine L_f1 H rfl 5 _ rfl 4 rfl _ rfl _ rfl _ rfl Try.underlying5 rfl ?_) | (refine L_f1 H rfl 5 _ rfl 5 rfl _ rfl _ rfl _ rfl Try.underlying5 rfl ?_)); refine unput (d := some _) ?_) | ((with_reducible refine isLd 54 ?_); (first | (refine L_f1 H rfl 54 _ rfl 0 rfl _ rfl _ rfl _ rfl Try.underlying54 rfl ?_) | (refine L_f1 H rfl 54 _ rfl 1 rfl _ rfl _ rfl _ rfl Try.underlying54 rfl ?_) | (refine L_f1 H rfl 54 _ rfl 2 rfl _ rfl _ rfl _ rfl Try.underlying54 rfl ?_) | (refine L_f1 H rfl 54 _ rfl 3 rfl _ rfl _ rfl _ rfl Try.underlying54 rfl ?_) | (refine L_f1 H rfl 54 _ rfl 4 rfl _ rfl _ rfl _ rfl Try.underlying54 rfl ?_) | (refine L_f1 H rfl 54 _ rfl 5 rfl _ rfl _ rfl _ rfl Try.underlying54 rfl ?_)); refine unput (d := some _) ?_)); exact LoopQ.of rfl (by kernel_rfl) rfl ⟨i + 1, (by have q := HVN.out; omega), by simp, congrArg Value.bool HFN.out.symm, kp H.out.tail.tail.tail, HX28⟩ (by simp [intOf]; omega))
        ·have HV := kp (show (if mn then (r.2.1.take i).foldl outF m1 else m1) = m2 from by rw [List.take_of_length_le (by rw [← HVN.out]; omega)]; exact HM2.out)
         rw [HV.out]
         go_wp2_with fail
         exact CutQ.of rfl (by kernel_rfl) rfl ⟨rfl, H, HXT⟩
       clear H
       rintro vs4 wl ⟨q17, H, HXT⟩
       simp only [mixF_t, mixF_f, mixF_t0, mixF_f0, mixF_e, Nat.reduceAdd]
       rw [q17]
       clear q17
       go_wp2_with fail
       subst hc28
       refine wp_cutM [(false, 17), (true, 1), (false, 179), (true, 14), (false, 42)] (AllS 17 m3 wl) ?_ ?_
       ·rcases sta_five HM3.out with ⟨e1, e2, rfl⟩ | ⟨e1, e3, rfl⟩ | ⟨e1, e3, rfl⟩ | ⟨e1, e2, e3, rfl⟩ | ⟨e1, e2, e3, rfl⟩
        ·
         go_wp2_with (first | ((with_reducible refine isLd 3 ?_); (first | (refine L_f1 H rfl 3 _ rfl 0 rfl _ rfl _ rfl _ rfl Try.underlying3 rfl ?_) | (refine L_f1 H rfl 3 _ rfl 1 rfl _ rfl _ rfl _ rfl Try.underlying3 rfl ?_) | (refine L_f1 H rfl 3 _ rfl 2 rfl _ rfl _ rfl _ rfl Try.underlying3 rfl ?_) | (refine L_f1 H rfl 3 _ rfl 3 rfl _ rfl _ rfl _ rfl Try.underlying3 rfl ?_) | (refine L_f1 H rfl 3 _ rfl 4 rfl _ rfl _ rfl _ rfl Try.underlying3 rfl ?_) | (refine L_f1 H rfl 3 _ rfl 5 rfl _ rfl _ rfl _ rfl Try.underlying3 rfl ?_)); refine unput (d := some _) ?_) | ((with_reducible refine isLd 5 ?_); (first | (refine L_f1 H rfl 5 _ rfl 0 rfl _ rfl _ rfl _ rfl Try.underlying5 rfl ?_) | (refine L_f1 H rfl 5 _ rfl 1 rfl _ rfl _ rfl _ rfl Try.underlying5 rfl ?_) | (refine L_f1 H rfl 5 _ rfl 2 rfl _ rfl _ rfl _ rfl Try.underlying5 rfl ?_) | (refine L_f1 H rfl 5 _ rfl 3 rfl _ rfl _ rfl _ rfl Try.underlying5 rfl ?_) | (refine L_f1 H rfl 5 _ rfl 4 rfl _ rfl _ rfl _ rfl Try.underlying5 rfl ?_) | (refine L_f1 H rfl 5 _ rfl 5 rfl _ rfl _ rfl _ rfl Try.underlying5 rfl ?_)); refine unput (d := some _) ?_) | ((with_reducible refine isLd 23 ?_); (first | (refine L_fv H rfl 23 _ rfl 0 rfl _ rfl _ rfl rfl Try.underlying23 rfl (by kernel_rfl) ?_) | (refine L_fv H rfl 23 _ rfl 1 rfl _ rfl _ rfl rfl Try.underlying23 rfl (by kernel_rfl) ?_) | (refine L_fv H rfl 23 _ rfl 2 rfl _ rfl _ rfl rfl Try.underlying23 rfl (by kernel_rfl) ?_) | (refine L_fv H rfl 23 _ rfl 3 rfl _ rfl _ rfl rfl Try.underlying23 rfl (by kernel_rfl) ?_) | (refine L_fv H rfl 23 _ rfl 4 rfl _ rfl _ rfl rfl Try.underlying23 rfl (by kernel_rfl) ?_) | (refine L_fv H rfl 23 _ rfl 5 rfl _ rfl _ rfl rfl Try.underlying23 rfl (by kernel_rfl) ?_)); refine unput (d := some _) ?_) | fail)
         exact CutQ.of rfl (by kernel_rfl) rfl ⟨rfl, rfl⟩
        ·have E3 := kp e3
         clear e3
         go_wp2_with (first | ((with_reducible refine isLd 3 ?_); (first | (refine L_f1 H rfl 3 _ rfl 0 rfl _ rfl _ rfl _ rfl Try.underlying3 rfl ?_) | (refine L_f1 H rfl 3 _ rfl 1 rfl _ rfl _ rfl _ rfl Try.underlying3 rfl ?_) | (refine L_f1 H rfl 3 _ rfl 2 rfl _ rfl _ rfl _ rfl Try.underlying3 rfl ?_) | (refine L_f1 H rfl 3 _ rfl 3 rfl _ rfl _ rfl _ rfl Try.underlying3 rfl ?_) | (refine L_f1 H rfl 3 _ rfl 4 rfl _ rfl _ rfl _ rfl Try.underlying3 rfl ?_) | (refine L_f1 H rfl 3 _ rfl 5 rfl _ rfl _ rfl _ rfl Try.underlying3 rfl ?_)); refine unput (d := some _) ?_) | ((with_reducible refine isLd 5 ?_); (first | (refine L_f1 H rfl 5 _ rfl 0 rfl _ rfl _ rfl _ rfl Try.underlying5 rfl ?_) | (refine L_f1 H rfl 5 _ rfl 1 rfl _ rfl _ rfl _ rfl Try.underlying5 rfl ?_) | (refine L_f1 H rfl 5 _ rfl 2 rfl _ rfl _ rfl _ rfl Try.underlying5 rfl ?_) | (refine L_f1 H rfl 5 _ rfl 3 rfl _ rfl _ rfl _ rfl Try.underlying5 rfl ?_) | (refine L_f1 H rfl 5 _ rfl 4 rfl _ rfl _ rfl _ rfl Try.underlying5 rfl ?_) | (refine L_f1 H rfl 5 _ rfl 5 rfl _ rfl _ rfl _ rfl Try.underlying5 rfl ?_)); refine unput (d := some _) ?_) | ((with_reducible refine isLd 23 ?_); (first | (refine L_fv H rfl 23 _ rfl 0 rfl _ rfl _ rfl rfl Try.underlying23 rfl (by kernel_rfl) ?_) | (refine L_fv H rfl 23 _ rfl 1 rfl _ rfl _ rfl rfl Try.underlying23 rfl (by kernel_rfl) ?_) | (refine L_fv H rfl 23 _ rfl 2 rfl _ rfl _ rfl rfl Try.underlying23 rfl (by kernel_rfl) ?_) | (refine L_fv H rfl 23 _ rfl 3 rfl _ rfl _ rfl rfl Try.underlying23 rfl (by kernel_rfl) ?_) | (refine L_fv H rfl 23 _ rfl 4 rfl _ rfl _ rfl rfl Try.underlying23 rfl (by kernel_rfl) ?_) | (refine L_fv H rfl 23 _ rfl 5 rfl _ rfl _ rfl rfl Try.underlying23 rfl (by kernel_rfl) ?_)); refine unput (d := some _) ?_) | ((with_reducible show wpList _ _ _ (Oper.mk (some 209) (Op.binOp .eql 23 _ _ _) _ _ _ _ :: _) _ _); refine L_eqA rfl _ _ rfl (sta) (who) (HST.out.sta) (HWH.out) _ (E3.out) rfl rfl ?_; refine unput (d := some _) ?_))
         exact CutQ.of rfl (by kernel_rfl) rfl ⟨rfl, rfl⟩
        ·have E3 := kp e3
         clear e3
         go_wp2_with (first | ((with_reducible refine isLd 3 ?_); (first | (refine L_f1 H rfl 3 _ rfl 0 rfl _ rfl _ rfl _ rfl Try.underlying3 rfl ?_) | (refine L_f1 H rfl 3 _ rfl 1 rfl _ rfl _ rfl _ rfl Try.underlying3 rfl ?_) | (refine L_f1 H rfl 3 _ rfl 2 rfl _ rfl _ rfl _ rfl Try.underlying3 rfl ?_) | (refine L_f1 H rfl 3 _ rfl 3 rfl _ rfl _ rfl _ rfl Try.underlying3 rfl ?_) | (refine L_f1 H rfl 3 _ rfl 4 rfl _ rfl _ rfl _ rfl Try.underlying3 rfl ?_) | (refine L_f1 H rfl 3 _ rfl 5 rfl _ rfl _ rfl _ rfl Try.underlying3 rfl ?_)); refine unput (d := some _) ?_) | ((with_reducible refine isLd 5 ?_); (first | (refine L_f1 H rfl 5 _ rfl 0 rfl _ rfl _ rfl _ rfl Try.underlying5 rfl ?_) | (refine L_f1 H rfl 5 _ rfl 1 rfl _ rfl _ rfl _ rfl Try.underlying5 rfl ?_) | (refine L_f1 H rfl 5 _ rfl 2 rfl _ rfl _ rfl _ rfl Try.underlying5 rfl ?_) | (refine L_f1 H rfl 5 _ rfl 3 rfl _ rfl _ rfl _ rfl Try.underlying5 rfl ?_) | (refine L_f1 H rfl 5 _ rfl 4 rfl _ rfl _ rfl _ rfl Try.underlying5 rfl ?_) | (refine L_f1 H rfl 5 _ rfl 5 rfl _ rfl _ rfl _ rfl Try.underlying5 rfl ?_)); refine unput (d := some _) ?_) | ((with_reducible refine isLd 23 ?_); (first | (refine L_fv H rfl 23 _ rfl 0 rfl _ rfl _ rfl rfl Try.underlying23 rfl (by kernel_rfl) ?_) | (refine L_fv H rfl 23 _ rfl 1 rfl _ rfl _ rfl rfl Try.underlying23 rfl (by kernel_rfl) ?_) | (refine L_fv H rfl 23 _ rfl 2 rfl _ rfl _ rfl rfl Try.underlying23 rfl (by kernel_rfl) ?_) | (refine L_fv H rfl 23 _ rfl 3 rfl _ rfl _ rfl rfl Try.underlying23 rfl (by kernel_rfl) ?_) | (refine L_fv H rfl 23 _ rfl 4 rfl _ rfl _ rfl rfl Try.underlying23 rfl (by kernel_rfl) ?_) | (refine L_fv H rfl 23 _ rfl 5 rfl _ rfl _ rfl rfl Try.underlying23 rfl (by kernel_rfl) ?_)); refine unput (d := some _) ?_) | ((with_reducible show wpList _ _ _ (Oper.mk (some 209) (Op.binOp .eql 23 _ _ _) _ _ _ _ :: _) _ _); refine L_eqA rfl _ _ rfl (sta) (who) (HST.out.sta) (HWH.out) _ (E3.out) rfl rfl ?_; refine unput (d := some _) ?_))
         exact CutQ.of rfl (by kernel_rfl) rfl ⟨rfl, rfl⟩
        ·have E3 := kp e3
         clear e3
         go_wp2_with (first | ((with_reducible refine isLd 3 ?_); (first | (refine L_f1 H rfl 3 _ rfl 0 rfl _ rfl _ rfl _ rfl Try.underlying3 rfl ?_) | (refine L_f1 H rfl 3 _ rfl 1 rfl _ rfl _ rfl _ rfl Try.underlying3 rfl ?_) | (refine L_f1 H rfl 3 _ rfl 2 rfl _ rfl _ rfl _ rfl Try.underlying3 rfl ?_) | (refine L_f1 H rfl 3 _ rfl 3 rfl _ rfl _ rfl _ rfl Try.underlying3 rfl ?_) | (refine L_f1 H rfl 3 _ rfl 4 rfl _ rfl _ rfl _ rfl Try.underlying3 rfl ?_) | (refine L_f1 H rfl 3 _ rfl 5 rfl _ rfl _ rfl _ rfl Try.underlying3 rfl ?_)); refine unput (d := some _) ?_) | ((with_reducible refine isLd 5 ?_); (first | (refine L_f1 H rfl 5 _ rfl 0 rfl _ rfl _ rfl _ rfl Try.underlying5 rfl ?_) | (refine L_f1 H rfl 5 _ rfl 1 rfl _ rfl _ rfl _ rfl Try.underlying5 rfl ?_) | (refine L_f1 H rfl 5 _ rfl 2 rfl _ rfl _ rfl _ rfl Try.underlying5 rfl ?_) | (refine L_f1 H rfl 5 _ rfl 3 rfl _ rfl _ rfl _ rfl Try.underlying5 rfl ?_) | (refine L_f1 H rfl 5 _ rfl 4 rfl _ rfl _ rfl _ rfl Try.underlying5 rfl ?_) | (refine L_f1 H rfl 5 _ rfl 5 rfl _ rfl _ rfl _ rfl Try.underlying5 rfl ?_)); refine unput (d := some _) ?_) | ((with_reducible refine isLd 23 ?_); (first | (refine L_fv H rfl 23 _ rfl 0 rfl _ rfl _ rfl rfl Try.underlying23 rfl (by kernel_rfl) ?_) | (refine L_fv H rfl 23 _ rfl 1 rfl _ rfl _ rfl rfl Try.underlying23 rfl (by kernel_rfl) ?_) | (refine L_fv H rfl 23 _ rfl 2 rfl _ rfl _ rfl rfl Try.underlying23 rfl (by kernel_rfl) ?_) | (refine L_fv H rfl 23 _ rfl 3 rfl _ rfl _ rfl rfl Try.underlying23 rfl (by kernel_rfl) ?_) | (refine L_fv H rfl 23 _ rfl 4 rfl _ rfl _ rfl rfl Try.underlying23 rfl (by kernel_rfl) ?_) | (refine L_fv H rfl 23 _ rfl 5 rfl _ rfl _ rfl rfl Try.underlying23 rfl (by kernel_rfl) ?_)); refine unput (d := some _) ?_) | ((with_reducible show wpList _ _ _ (Oper.mk (some 209) (Op.binOp .eql 23 _ _ _) _ _ _ _ :: _) _ _); refine L_eqA rfl _ _ rfl (sta) (who) (HST.out.sta) (HWH.out) _ (E3.out) rfl rfl ?_; refine unput (d := some _) ?_))
         exact CutQ.of rfl (by kernel_rfl) rfl ⟨rfl, rfl⟩
        ·have E3 := kp e3
         clear e3
         go_wp2_with (first | ((with_reducible refine isLd 3 ?_); (first | (refine L_f1 H rfl 3 _ rfl 0 rfl _ rfl _ rfl _ rfl Try.underlying3 rfl ?_) | (refine L_f1 H rfl 3 _ rfl 1 rfl _ rfl _ rfl _ rfl Try.underlying3 rfl ?_) | (refine L_f1 H rfl 3 _ rfl 2 rfl _ rfl _ rfl _ rfl Try.underlying3 rfl ?_) | (refine L_f1 H rfl 3 _ rfl 3 rfl _ rfl _ rfl _ rfl Try.underlying3 rfl ?_) | (refine L_f1 H rfl 3 _ rfl 4 rfl _ rfl _ rfl _ rfl Try.underlying3 rfl ?_) | (refine L_f1 H rfl 3 _ rfl 5 rfl _ rfl _ rfl _ rfl Try.underlying3 rfl ?_)); refine unput (d := some _) ?_) | ((with_reducible refine isLd 5 ?_); (first | (refine L_f1 H rfl 5 _ rfl 0 rfl _ rfl _ rfl _ rfl Try.underlying5 rfl ?_) | (refine L_f1 H rfl 5 _ rfl 1 rfl _ rfl _ rfl _ rfl Try.underlying5 rfl ?_) | (refine L_f1 H rfl 5 _ rfl 2 rfl _ rfl _ rfl _ rfl Try.underlying5 rfl ?_) | (refine L_f1 H rfl 5 _ rfl 3 rfl _ rfl _ rfl _ rfl Try.underlying5 rfl ?_) | (refine L_f1 H rfl 5 _ rfl 4 rfl _ rfl _ rfl _ rfl Try.underlying5 rfl ?_) | (refine L_f1 H rfl 5 _ rfl 5 rfl _ rfl _ rfl _ rfl Try.underlying5 rfl ?_)); refine unput (d := some _) ?_) | ((with_reducible refine isLd 23 ?_); (first | (refine L_fv H rfl 23 _ rfl 0 rfl _ rfl _ rfl rfl Try.underlying23 rfl (by kernel_rfl) ?_) | (refine L_fv H rfl 23 _ rfl 1 rfl _ rfl _ rfl rfl Try.underlying23 rfl (by kernel_rfl) ?_) | (refine L_fv H rfl 23 _ rfl 2 rfl _ rfl _ rfl rfl Try.underlying23 rfl (by kernel_rfl) ?_) | (refine L_fv H rfl 23 _ rfl 3 rfl _ rfl _ rfl rfl Try.underlying23 rfl (by kernel_rfl) ?_) | (refine L_fv H rfl 23 _ rfl 4 rfl _ rfl _ rfl rfl Try.underlying23 rfl (by kernel_rfl) ?_) | (refine L_fv H rfl 23 _ rfl 5 rfl _ rfl _ rfl rfl Try.underlying23 rfl (by kernel_rfl) ?_)); refine unput (d := some _) ?_) | ((with_reducible show wpList _ _ _ (Oper.mk (some 209) (Op.binOp .eql 23 _ _ _) _ _ _ _ :: _) _ _); refine L_eqA rfl _ _ rfl (sta) (who) (HST.out.sta) (HWH.out) _ (E3.out) rfl rfl ?_; refine unput (d := some _) ?_))
         exact CutQ.of rfl (by kernel_rfl) rfl ⟨rfl, rfl⟩
       rintro vs5 wl2 ⟨q17, rfl⟩
       simp only [mixF_t, mixF_f, mixF_t0, mixF_f0, mixF_e, Nat.reduceAdd]
       rw [q17]
       clear q17
       go_wp2_with fail
       subst hc30
       refine wp_cutM [(false, 17), (true, 1), (false, 12), (true, 1), (false, 180), (true, 19), (false, 23)] (AllE m4 w wq2 ((g20, 26, cat (partsA a hN ad2 n2 c2)) :: (g19, 65, cat (partsS ⟨k, now, hd, bb, sta⟩ HST.out fa bb.length fc)) :: [(g16, 31, cat (partsFr PH HPO.out none 0 0)), (g14, 26, cat (partsA a HA6.out ad n c)), (g11, 23, cat [Lf.v ⟨who, HWH.out⟩]), (g6, 23, cat [Lf.v ⟨own, HOW.out⟩])])) ?_ ?_
       ·go_wp2_with fail
        refine wp_loopM [(false, 17), (true, 1), (false, 12), (true, 1), (false, 180), (true, 19), (false, 23)] (AllT k who m3 r.2.1 w wq2 ((g20, 26, cat (partsA a hN ad2 n2 c2)) :: (g19, 65, cat (partsS ⟨k, now, hd, bb, sta⟩ HST.out fa bb.length fc)) :: [(g16, 31, cat (partsFr PH HPO.out none 0 0)), (g14, 26, cat (partsA a HA6.out ad n c)), (g11, 23, cat [Lf.v ⟨who, HWH.out⟩]), (g6, 23, cat [Lf.v ⟨own, HOW.out⟩])])) (fun vs _ => vn - (intOf (vs 30)).toNat) (by kernel_rfl) ⟨0, Nat.zero_le _, rfl, (by show Value.bool m3 = _; simp), H, HXT⟩ ?_
        clear H HXT
        rintro vs7 wy ⟨i, hi, q30, q17, H, HXT⟩
        simp only [mixF_t, mixF_f, mixF_t0, mixF_f0, mixF_e, Nat.reduceAdd]
        rw [q30, q17]
        clear q30 q17
        generalize hr33 : (Code.region 33 _ _ : Code) = R33
        by_cases hlt2 : i < vn
        ·by_cases k1 : k = 1
         ·subst k1
          obtain ⟨⟨oh, ob⟩, ho⟩ : ∃ o, r.2.1[i]? = some o := ⟨r.2.1[i]'(by rw [← HVN.out]; exact hlt2), by simp⟩
          obtain ⟨bf, bd, bn, bc, rfl, hbf, hrf, hbo⟩ := HFR.out i _ ho
          have HOH := kp (msgO_ok HA6.out (HMS.out.1 _ (List.mem_of_getElem? ho)))
          have HRF := kp (fun W (hW : Ext wq2 W) => show W.rangeAt bf (i * 41) (cat (partsFr oh HOH.out bd bn bc)) from by rw [← cat_Fr]; exact rangeAt_ext hrf hbf hW)
          have HFS := kp (foldl_snoc (tickO who) ho m3)
          rw [if_pos rfl]
          generalize (r.2.1.take i).foldl (tickO who) m3 = M at *
          have hkd : decide ((vn : Int) ≤ (i : Int)) = false := decide_eq_false (by omega)
          have hkd2 : decide (vn ≤ i) = false := decide_eq_false (by omega)
          clear hrf hbf hbo ho
          go_wp2_with (first | ((with_reducible refine isLd 3 ?_); (first | (refine L_f1 H rfl 3 _ rfl 0 rfl _ rfl _ rfl _ rfl Try.underlying3 rfl ?_) | (refine L_f1 H rfl 3 _ rfl 1 rfl _ rfl _ rfl _ rfl Try.underlying3 rfl ?_) | (refine L_f1 H rfl 3 _ rfl 2 rfl _ rfl _ rfl _ rfl Try.underlying3 rfl ?_) | (refine L_f1 H rfl 3 _ rfl 3 rfl _ rfl _ rfl _ rfl Try.underlying3 rfl ?_) | (refine L_f1 H rfl 3 _ rfl 4 rfl _ rfl _ rfl _ rfl Try.underlying3 rfl ?_) | (refine L_f1 H rfl 3 _ rfl 5 rfl _ rfl _ rfl _ rfl Try.underlying3 rfl ?_)); refine unput (d := some _) ?_))
          cases hb : (oh.a1 == who) with
          | true =>
           have HEQ := kp (eqAddrB oh.a1 who HOH.out.l1 HWH.out true hb)
           have HFN := kp (show (r.2.1.take (i + 1)).foldl (tickO who) m3 = false from by rw [HFS.out]; exact if_pos (by simpa using hb))
           clear hb HFS
           subst hr33
           refine region_z H 8 (by kernel_rfl) (by kernel_rfl) (by kernel_rfl) (by kernel_rfl) (by decide) (Nat.le_of_ble_eq_true (by kernel_rfl)) ?_
           apply Exists.intro
           refine ⟨fun xz6 => ?_, fun wz6 HXZ H => ?_⟩
           ·simp only [List.take_succ_cons, List.take_zero]
            unfold Cx
            repeat (first | ((with_reducible show wpQuiet _ _ _ _ (Oper.mk _ (Op.load 23 (.tmp 226)) _ _ _ _ :: _) _); go_big_quiet_want; refine qz_r 23 _ rfl bf _ rfl (oh.a1.map V8) (fun W hx => range_part (HRF.out W (HXT.out.trans hx)) (off := 10) (i := 10) rfl rfl) Try.underlying23 rfl (by rw [List.length_map, HOH.out.l1]; kernel_rfl) ?_; simp only [pA]; go_big_quiet_on) | ((with_reducible show wpQuiet _ _ _ _ (Oper.mk _ (Op.load 23 _) _ _ _ _ :: _) _); go_big_quiet_want; (first | (refine qz_v H 23 _ rfl 0 rfl _ rfl _ rfl rfl Try.underlying23 rfl (by kernel_rfl) ?_) | (refine qz_v H 23 _ rfl 1 rfl _ rfl _ rfl rfl Try.underlying23 rfl (by kernel_rfl) ?_) | (refine qz_v H 23 _ rfl 2 rfl _ rfl _ rfl rfl Try.underlying23 rfl (by kernel_rfl) ?_) | (refine qz_v H 23 _ rfl 3 rfl _ rfl _ rfl rfl Try.underlying23 rfl (by kernel_rfl) ?_) | (refine qz_v H 23 _ rfl 4 rfl _ rfl _ rfl rfl Try.underlying23 rfl (by kernel_rfl) ?_) | (refine qz_v H 23 _ rfl 5 rfl _ rfl _ rfl rfl Try.underlying23 rfl (by kernel_rfl) ?_)); simp only [pA]; go_big_quiet_on) | ((with_reducible show wpQuiet _ _ _ _ (Oper.mk _ (Op.binOp _ 23 _ _ _) _ _ _ _ :: _) _); go_big_quiet_want; (first | refine qz_eq 23 _ _ _ rfl _ _ _ rfl rfl Try.eqGuardType23 (fun _ => HEQ.out _) ?_ | refine qz_ne 23 _ _ _ rfl _ _ _ rfl rfl Try.eqGuardType23 (fun _ => HEQ.out _) ?_); simp only [pA]; go_big_quiet_on) | go_big_quiet_step (fail))
            exact wpQuiet_nil rfl
           simp only [List.drop_succ_cons, List.drop_zero]
           go_wp2_with fail
           exact LoopQ.of rfl (by kernel_rfl) rfl ⟨i + 1, (by have q := HVN.out; omega), by simp, congrArg Value.bool HFN.out.symm, H, kp (HXT.out.trans HXZ.out)⟩ (by simp [intOf]; omega)
          | false =>
           have HEQ := kp (eqAddrB oh.a1 who HOH.out.l1 HWH.out false hb)
           have HFN := kp (show (r.2.1.take (i + 1)).foldl (tickO who) m3 = M from by rw [HFS.out]; exact if_neg (by simpa using hb))
           clear hb HFS
           subst hr33
           refine region_z H 8 (by kernel_rfl) (by kernel_rfl) (by kernel_rfl) (by kernel_rfl) (by decide) (Nat.le_of_ble_eq_true (by kernel_rfl)) ?_
           apply Exists.intro
           refine ⟨fun xz7 => ?_, fun wz7 HXZ H => ?_⟩
           ·simp only [List.take_succ_cons, List.take_zero]
            unfold Cx
            repeat (first | ((with_reducible show wpQuiet _ _ _ _ (Oper.mk _ (Op.load 23 (.tmp 226)) _ _ _ _ :: _) _); go_big_quiet_want; refine qz_r 23 _ rfl bf _ rfl (oh.a1.map V8) (fun W hx => range_part (HRF.out W (HXT.out.trans hx)) (off := 10) (i := 10) rfl rfl) Try.underlying23 rfl (by rw [List.length_map, HOH.out.l1]; kernel_rfl) ?_; simp only [pA]; go_big_quiet_on) | ((with_reducible show wpQuiet _ _ _ _ (Oper.mk _ (Op.load 23 _) _ _ _ _ :: _) _); go_big_quiet_want; (first | (refine qz_v H 23 _ rfl 0 rfl _ rfl _ rfl rfl Try.underlying23 rfl (by kernel_rfl) ?_) | (refine qz_v H 23 _ rfl 1 rfl _ rfl _ rfl rfl Try.underlying23 rfl (by kernel_rfl) ?_) | (refine qz_v H 23 _ rfl 2 rfl _ rfl _ rfl rfl Try.underlying23 rfl (by kernel_rfl) ?_) | (refine qz_v H 23 _ rfl 3 rfl _ rfl _ rfl rfl Try.underlying23 rfl (by kernel_rfl) ?_) | (refine qz_v H 23 _ rfl 4 rfl _ rfl _ rfl rfl Try.underlying23 rfl (by kernel_rfl) ?_) | (refine qz_v H 23 _ rfl 5 rfl _ rfl _ rfl rfl Try.underlying23 rfl (by kernel_rfl) ?_)); simp only [pA]; go_big_quiet_on) | ((with_reducible show wpQuiet _ _ _ _ (Oper.mk _ (Op.binOp _ 23 _ _ _) _ _ _ _ :: _) _); go_big_quiet_want; (first | refine qz_eq 23 _ _ _ rfl _ _ _ rfl rfl Try.eqGuardType23 (fun _ => HEQ.out _) ?_ | refine qz_ne 23 _ _ _ rfl _ _ _ rfl rfl Try.eqGuardType23 (fun _ => HEQ.out _) ?_); simp only [pA]; go_big_quiet_on) | go_big_quiet_step (fail))
            exact wpQuiet_nil rfl
           simp only [List.drop_succ_cons, List.drop_zero]
           go_wp2_with fail
           exact LoopQ.of rfl (by kernel_rfl) rfl ⟨i + 1, (by have q := HVN.out; omega), by simp, congrArg Value.bool HFN.out.symm, H, kp (HXT.out.trans HXZ.out)⟩ (by simp [intOf]; omega)
         ·have hd1 : decide (k = 1) = false := decide_eq_false k1; have hd1b : (k == 1) = false := hd1
          have HV := kp (show m3 = m4 from by rw [← HM4.out, if_neg k1])
          rw [if_neg k1]
          clear k1
          go_wp2_with (first | ((with_reducible refine isLd 3 ?_); (first | (refine L_f1 H rfl 3 _ rfl 0 rfl _ rfl _ rfl _ rfl Try.underlying3 rfl ?_) | (refine L_f1 H rfl 3 _ rfl 1 rfl _ rfl _ rfl _ rfl Try.underlying3 rfl ?_) | (refine L_f1 H rfl 3 _ rfl 2 rfl _ rfl _ rfl _ rfl Try.underlying3 rfl ?_) | (refine L_f1 H rfl 3 _ rfl 3 rfl _ rfl _ rfl _ rfl Try.underlying3 rfl ?_) | (refine L_f1 H rfl 3 _ rfl 4 rfl _ rfl _ rfl _ rfl Try.underlying3 rfl ?_) | (refine L_f1 H rfl 3 _ rfl 5 rfl _ rfl _ rfl _ rfl Try.underlying3 rfl ?_)); refine unput (d := some _) ?_))
          exact CutQ.of rfl (by kernel_rfl) rfl ⟨congrArg Value.bool HV.out, H, HXT⟩
        ·have HV := kp (show (if k = 1 then (r.2.1.take i).foldl (tickO who) m3 else m3) = m4 from by rw [List.take_of_length_le (by rw [← HVN.out]; omega)]; exact HM4.out)
         rw [HV.out]
         go_wp2_with fail
         exact CutQ.of rfl (by kernel_rfl) rfl ⟨rfl, H, HXT⟩
       clear H HXT
       rintro vs6 wk ⟨q17, H, HXT⟩
       simp only [mixF_t, mixF_f, mixF_t0, mixF_f0, mixF_e, Nat.reduceAdd]
       rw [q17]
       clear q17
       have HAL := kp (fun W (hW : Ext wq2 W) => allowed_any a HA6.out (.slice ad2 n2 c2) r.1 HSO.out.l6 (Nat.le_trans (ok_len HSO.out.ok) (by decide)) PH HPO.out (.slice none 0 0) W ((HOW2.out.slt HSO.out.l6).ext hW))
       have HHA := kp (fun W (hW : Ext wq2 W) => handle_any a HA6.out (.slice ad2 n2 c2) r.1 HSO.out.l6 (Nat.le_trans (ok_len HSO.out.ok) (by decide)) PH HPO.out none 0 0 [] (by decide) (by decide) 0 W ((HOW2.out.slt HSO.out.l6).ext hW) (SlB.nil W))
       have hvp := HVP.out
       have hwo := HWO.out
       have HPA := kp (show allowF a r.1 PH = m4 from by rw [HPH.out, probe_allow HSO.out.ok hwo (by rw [← HPH.out]; exact hvp)]; exact HMM.out)
       have hp9 := probe_handle (b := []) HSO.out.ok HSO.out.l6 HWH.out hwo (by rw [← HPH.out]; exact hvp)
       rw [← HPH.out, HMM.out] at hp9
       rw [HPA.out, cat_A a HA6.out, show cellsF PH (.slice none 0 0) = cat (partsFr PH HPO.out none 0 0) from cat_Fr PH HPO.out none 0 0] at HAL
       rw [cat_A a HA6.out, show cellsF PH (.slice none 0 0) = cat (partsFr PH HPO.out none 0 0) from cat_Fr PH HPO.out none 0 0] at HHA
       generalize handleF dA dJ dL a r.1 PH [] 0 = r9 at *
       have HR9 := kp hp9.1
       have HL9 := kp hp9.2
       obtain ⟨l9, hl9⟩ : ∃ n, r9.2.1.length = n := ⟨_, rfl⟩
       rw [hl9] at HL9
       have HLQ := kp hl9
       clear hp9 hvp hwo HPA hl9
       go_wp2_with fail
       subst hr35
       have hne : (m4 != m4) = false := by simp
       go_wp2_with (first | ((with_reducible refine isLd 26 ?_); (first | (refine L_fa H rfl 26 _ rfl 0 rfl rfl Try.underlying26 rfl (by kernel_rfl) ?_) | (refine L_fa H rfl 26 _ rfl 1 rfl rfl Try.underlying26 rfl (by kernel_rfl) ?_) | (refine L_fa H rfl 26 _ rfl 2 rfl rfl Try.underlying26 rfl (by kernel_rfl) ?_) | (refine L_fa H rfl 26 _ rfl 3 rfl rfl Try.underlying26 rfl (by kernel_rfl) ?_) | (refine L_fa H rfl 26 _ rfl 4 rfl rfl Try.underlying26 rfl (by kernel_rfl) ?_) | (refine L_fa H rfl 26 _ rfl 5 rfl rfl Try.underlying26 rfl (by kernel_rfl) ?_)); refine unput (d := some _) ?_) | ((with_reducible refine isLd 31 ?_); (first | (refine L_fa H rfl 31 _ rfl 0 rfl rfl Try.underlying31 rfl (by kernel_rfl) ?_) | (refine L_fa H rfl 31 _ rfl 1 rfl rfl Try.underlying31 rfl (by kernel_rfl) ?_) | (refine L_fa H rfl 31 _ rfl 2 rfl rfl Try.underlying31 rfl (by kernel_rfl) ?_) | (refine L_fa H rfl 31 _ rfl 3 rfl rfl Try.underlying31 rfl (by kernel_rfl) ?_) | (refine L_fa H rfl 31 _ rfl 4 rfl rfl Try.underlying31 rfl (by kernel_rfl) ?_) | (refine L_fa H rfl 31 _ rfl 5 rfl rfl Try.underlying31 rfl (by kernel_rfl) ?_)); refine unput (d := some _) ?_) | (go_at_call 18; refine (HAL.out _ HXT.out).mono ?_; rintro e wa ⟨rfl, hx⟩; replace H := kp (H.out.ext hx); have HXC := kp hx; clear hx; have HXA := kp (HXT.out.trans HXC.out); clear HXC) | (go_at_call 29; refine (HHA.out _ HXA.out).mono ?_; intro e wh hrr; obtain ⟨aN9, hN9, ad9, n9, c9, v9, E9, haN9, hE9, rfl, hO9, hF9, hx⟩ := hanG HA6.out hrr; obtain ⟨va9, vc9, hv9⟩ := frs_len hF9; rw [HLQ.out] at hv9; subst hv9; rw [HR9.out] at hE9; subst hE9; clear hrr hO9 hF9 haN9; replace H := kp (H.out.ext hx); have HXC := kp hx; clear hx) | ((with_reducible refine isAl 31 26 ?_); (refine L_alloc H rfl 26 rfl (cat (partsA as0 rfl none 0 0)) (fun _ _ => by kernel_rfl) ?_); clear H; intro g31 w31 HGg31 HEg31 H; refine unput (d := some _) ?_) | ((with_reducible show wpList _ _ _ (Oper.mk none (Op.store 26 (.tmp 31) _) _ _ _ _ :: _) _ _); ((with_reducible refine isSt 26 ?_); refine L_sa H rfl rfl 26 _ _ rfl 0 rfl rfl (partsA aN9 hN9 ad9 n9 c9) rfl rfl (by kernel_rfl) ?_; clear H; intro w31b HWw31b H; simp only [szA] at H)))
       cases m4 with
       | true =>
        obtain rfl : l9 = 0 := HL9.out.2 rfl
        subst hr38
        go_wp2_with (first | (((with_reducible refine isLd 26 ?_); (first | (refine L_fa H rfl 26 _ rfl 0 rfl rfl Try.underlying26 rfl (by kernel_rfl) ?_) | (refine L_fa H rfl 26 _ rfl 1 rfl rfl Try.underlying26 rfl (by kernel_rfl) ?_) | (refine L_fa H rfl 26 _ rfl 2 rfl rfl Try.underlying26 rfl (by kernel_rfl) ?_) | (refine L_fa H rfl 26 _ rfl 3 rfl rfl Try.underlying26 rfl (by kernel_rfl) ?_) | (refine L_fa H rfl 26 _ rfl 4 rfl rfl Try.underlying26 rfl (by kernel_rfl) ?_) | (refine L_fa H rfl 26 _ rfl 5 rfl rfl Try.underlying26 rfl (by kernel_rfl) ?_)); refine unput (d := some _) ?_); have HG14 := kp (H.out.at 4 rfl)) | ((with_reducible refine isSt 26 ?_); refine L_sa H rfl rfl 26 _ _ rfl 4 rfl rfl (partsA a hN ad2 n2 c2) rfl rfl (by kernel_rfl) ?_; clear H; intro w14c HWw14c H; simp only [ssA, szA] at H))
        exact LoopQ.of rfl (by kernel_rfl) rfl ⟨j + 1, r.1, ad2, n2, c2, (by have q := HNL.out; omega), by simp, congrArg Value.bool HMM.out.symm, kp ⟨HSO.out.ok, HSO.out.l6⟩, kp H.out.tail.tail.tail, kp (owns_wroteT (ownsT_ext HOW2.out (HXA.out.trans (HXC.out.trans (ext_wrote HEg31.out HWw31b.out (Nat.le_of_eq HGg31.out.symm))))) HWw14c.out HG14.out (show 39 ≠ 26 from by decide))⟩ (by simp [intOf]; omega)
       | false =>
        have hl9 : ¬ l9 = 0 := fun q => by have := HL9.out.1 q; cases this
        have hd9 : decide ((l9 : Int) = 0) = false := decide_eq_false (by omega)
        subst hr38
        go_wp2_with (first | (((with_reducible refine isLd 26 ?_); (first | (refine L_fa H rfl 26 _ rfl 0 rfl rfl Try.underlying26 rfl (by kernel_rfl) ?_) | (refine L_fa H rfl 26 _ rfl 1 rfl rfl Try.underlying26 rfl (by kernel_rfl) ?_) | (refine L_fa H rfl 26 _ rfl 2 rfl rfl Try.underlying26 rfl (by kernel_rfl) ?_) | (refine L_fa H rfl 26 _ rfl 3 rfl rfl Try.underlying26 rfl (by kernel_rfl) ?_) | (refine L_fa H rfl 26 _ rfl 4 rfl rfl Try.underlying26 rfl (by kernel_rfl) ?_) | (refine L_fa H rfl 26 _ rfl 5 rfl rfl Try.underlying26 rfl (by kernel_rfl) ?_)); refine unput (d := some _) ?_); have HG14 := kp (H.out.at 4 rfl)) | ((with_reducible refine isSt 26 ?_); refine L_sa H rfl rfl 26 _ _ rfl 4 rfl rfl (partsA a hN ad2 n2 c2) rfl rfl (by kernel_rfl) ?_; clear H; intro w14c HWw14c H; simp only [ssA, szA] at H))
        exact LoopQ.of rfl (by kernel_rfl) rfl ⟨j + 1, r.1, ad2, n2, c2, (by have q := HNL.out; omega), by simp, congrArg Value.bool HMM.out.symm, kp ⟨HSO.out.ok, HSO.out.l6⟩, kp H.out.tail.tail.tail, kp (owns_wroteT (ownsT_ext HOW2.out (HXA.out.trans (HXC.out.trans (ext_wrote HEg31.out HWw31b.out (Nat.le_of_eq HGg31.out.symm))))) HWw14c.out HG14.out (show 39 ≠ 26 from by decide))⟩ (by simp [intOf]; omega)
      ·have he2 : ¬ E = 0 := by rw [hE]; exact he
       clear hE he haN HDK HUP HMS HAP HF HO HE20
       go_wp2_with fail
       exact LoopQ.of rfl (by kernel_rfl) rfl ⟨j + 1, la, ad, n, c, (by have q := HNL.out; omega), by simp, congrArg Value.bool HM0.out.symm, HLA, kp H.out.tail.tail, kp (HOE.out.ext HX20.out)⟩ (by simp [intOf]; omega)
     ·go_wp2_with fail
      go_ret
      exact ⟨rfl, H.out.1⟩
end Go.Proofs.Ytfecopfofkdnpaa
