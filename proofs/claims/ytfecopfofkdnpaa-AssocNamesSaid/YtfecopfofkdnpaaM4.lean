/- Texts of this proof, put together: NmA, NmP, FreeN. -/
import Derived.Test.YtfecopfofkdnpaaM3
import Derived.Test.YtfecopfofkdnpaaS1
import Derived.Test.YtfecopfofkdnpaaS2
import Derived.Test.YtfecopfofkdnpaaS3
import Derived.Test.YtfecopfofkdnpaaS4
import Derived.Test.YtfecopfofkdnpaaS5
import Derived.Test.YtfecopfofkdnpaaS6
import Derived.Test.YtfecopfofkdnpaaS7
import Derived.Test.YtfecopfofkdnpaaS8
import Derived.Test.YtfecopfofkdnpaaS9
import Derived.Test.YtfecopfofkdnpaaS10
import Derived.Test.YtfecopfofkdnpaaS11
import Derived.Test.YtfecopfofkdnpaaS12
import Derived.Test.YtfecopfofkdnpaaS13
import Derived.Test.YtfecopfofkdnpaaS14
import Derived.Test.YtfecopfofkdnpaaS15
import Derived.Test.YtfecopfofkdnpaaS16
import Derived.Test.YtfecopfofkdnpaaS17
import Derived.Test.YtfecopfofkdnpaaS18
import Derived.Test.YtfecopfofkdnpaaS19
import Derived.Test.YtfecopfofkdnpaaS20
import Derived.Test.YtfecopfofkdnpaaS21
import Derived.Test.YtfecopfofkdnpaaS22
import Derived.Test.YtfecopfofkdnpaaS23
import Derived.Test.YtfecopfofkdnpaaS24
import Derived.Test.YtfecopfofkdnpaaS25
import Derived.Test.YtfecopfofkdnpaaS26
import Derived.Test.YtfecopfofkdnpaaS27
import Derived.Test.YtfecopfofkdnpaaS28
import Derived.Test.YtfecopfofkdnpaaS29
import Derived.Test.YtfecopfofkdnpaaS30
import Derived.Test.YtfecopfofkdnpaaM1
namespace Go.Proofs.Ytfecopfofkdnpaa
open Go.RowKit
set_option maxHeartbeats 1600000 in
theorem encReq_yes (x y : Int) (hx : 0 ≤ x ∧ x ≤ 65535) (hy : 0 ≤ y ∧ y ≤ 65535) (old : By) (ho : old.length = 6) (w : World) :
  Calls Try.prog 34 #[.agg (cat (partsRq x y ⟨old, ho⟩ none 0 0)).toArray, .bool true] w (WrO (two16 x ++ two16 y ++ old) w) := by
 have H := kp (Loc.start w)
 have HX2 := kp (show ∀ v ∈ [x, y], 0 ≤ v ∧ v ≤ 65535 from fun v hv => three_range hx hy hy v (by simp only [List.mem_cons, List.not_mem_nil, or_false] at hv ⊢; rcases hv with h | h <;> simp [h]))
 have HOL := kp ho
 clear hx hy
 go_enter Try.func34, Try.ntmps34
 generalize hr4 : (Code.region 4 _ _ : Code) = R4
 generalize hr7 : (Code.region 7 _ _ : Code) = R7
 go_wp2_with (first | ((with_reducible refine isBx 2 87 ?_); (refine L_box H rfl 87 _ rfl (cat (partsRq x y ⟨old, HOL.out⟩ none 0 0)) rfl ?_); clear H; intro g2 w2 HGg2 HEg2 H; simp only [pA]) | ((with_reducible show wpList _ _ _ (Oper.mk (some 7) (Op.build 138 _) _ _ _ _ :: _) _ _); (refine L_bd (by kernel_rfl) 138 _ rfl (#[]) (by kernel_rfl) ([.slice none 0 0]) (build_wr) ?_); simp only [pA]) | ((with_reducible refine isBx 8 138 ?_); (with_reducible refine L_box H rfl 138 _ rfl ([.slice none 0 0]) rfl ?_); clear H; intro g8 w8 HGg8 HEg8 H; simp only [pA]) | ((with_reducible refine isLd 54 ?_); (first | (refine L_f1 H rfl 54 _ rfl 0 rfl _ rfl _ rfl _ rfl Try.underlying54 rfl ?_) | (refine L_f1 H rfl 54 _ rfl 1 rfl _ rfl _ rfl _ rfl Try.underlying54 rfl ?_) | (refine L_f1 H rfl 54 _ rfl 2 rfl _ rfl _ rfl _ rfl Try.underlying54 rfl ?_) | (refine L_f1 H rfl 54 _ rfl 3 rfl _ rfl _ rfl _ rfl Try.underlying54 rfl ?_) | (refine L_f1 H rfl 54 _ rfl 4 rfl _ rfl _ rfl _ rfl Try.underlying54 rfl ?_) | (refine L_f1 H rfl 54 _ rfl 5 rfl _ rfl _ rfl _ rfl Try.underlying54 rfl ?_)); simp only [pA]) | (((with_reducible show wpList _ _ _ (Oper.mk (some 14) (Op.buildSlice 163 _ _) _ _ _ _ :: _) _ _); (refine L_bs H (by kernel_rfl) 163 2 _ rfl (#[(0, .int .u16 x), (1, .int .u16 y)]) (by kernel_rfl) 54 ([x, y].flatMap cU) (fun w => bsl_u2 w x y) ?_); clear H; intro g14 w14 HGg14 HEg14 H; simp only [pA]); have H2 := kp H.out.sw; clear H; have H := H2; clear H2) | (go_at_call 74; refine (two_any [x, y] HX2.out (by simp) g8 g14 2 rfl none 0 0 [] (by decide) w _ _ H (ownsT_nil _ _ _ _)).mono ?_; rintro e wa ⟨rfl, ad, n, c, hl, ho⟩; have H2 := kp hl; have HO := kp ho; clear H hl ho; have H := H2; clear H2))
 subst hr4
 refine wp_region_any (by kernel_rfl) ?_
 change wpAny _ _ _ _ _ _ _ (World.drew _)
 have H2 := kp (H.out.ext (Ext.drew _))
 have HO3 := kp (owns_ext HO.out (Ext.drew _))
 clear H HO
 have H := H2
 clear H2
 (refine any_take (i := 0) (v := ?_) rfl rfl (by kernel_rfl) (by kernel_rfl) (by kernel_rfl) (fun _ _ _ h => h) (Or.inl ⟨by rfl, ?_⟩) ?_; rotate_left; focus (intro w; go_simp; first | done | (with_reducible rfl))); simp only [pA]
 (refine any_take (i := 1) (v := ?_) rfl rfl (by kernel_rfl) (by kernel_rfl) (by kernel_rfl) (fun _ _ _ h => h) (Or.inl ⟨by rfl, ?_⟩) ?_; rotate_left; focus (intro w; go_simp; first | done | (with_reducible rfl))); simp only [pA]
 (refine any_take (i := 2) (v := ?_) rfl rfl (by kernel_rfl) (by kernel_rfl) (by kernel_rfl) (fun _ _ _ h => h) (Or.inl ⟨by rfl, ?_⟩) ?_; rotate_left; focus (intro w; go_simp; first | done | (with_reducible rfl))); simp only [pA]
 (refine any_take (i := 3) (v := ?_) rfl rfl (by kernel_rfl) (by kernel_rfl) (by kernel_rfl) (fun _ _ _ h => h) (Or.inl ⟨by rfl, ?_⟩) ?_; rotate_left; focus (intro w; go_simp; first | done | (with_reducible rfl))); simp only [pA]
 (refine any_take (i := 5) (v := ?_) rfl rfl (by kernel_rfl) (by kernel_rfl) (by kernel_rfl) (fun _ _ _ h => h) (Or.inl ⟨by rfl, ?_⟩) ?_; rotate_left; focus (intro w; go_simp; first | done | (with_reducible rfl))); simp only [pA]
 (refine any_take (i := 6) (v := ?_) rfl rfl (by kernel_rfl) (by kernel_rfl) (by kernel_rfl) (fun _ _ _ h => h) (Or.inl ⟨by rfl, ?_⟩) ?_; rotate_left; focus (intro w; go_simp; first | done | (with_reducible rfl))); simp only [pA]
 (refine any_one (i := 4) (by kernel_rfl) rfl (fun K hK => ?_); change wpList _ _ _ [Oper.mk _ _ _ _ _ _] _ _)
 go_wp2_with (first | ((with_reducible show wpList _ _ _ (Oper.mk (some 21) _ _ _ _ _ :: _) _ _); refine L_c1 H (by kernel_rfl) 29 _ rfl 0 rfl 0 rfl _ rfl Try.underlying29 rfl ?_; simp only [pA]))
 (refine hK _ _ ?_; clear hK K)
 have HSO := kp (slb_part (l := old) (off := 2) (i := 2) (H.out.at 2 rfl) HOL.out rfl rfl)
 have HTY := kp (show ∀ b ∈ [(g8, 138, [Value.slice ad n c]), (g14, 54, [x, y].flatMap cU), (g2, 87, cat (partsRq x y ⟨old, HOL.out⟩ none 0 0))], 5 ≠ b.2.1 from fun b hb => by
  rcases List.mem_cons.1 hb with rfl | hb
  ·exact show 5 ≠ 138 by decide
  ·rcases List.mem_cons.1 hb with rfl | hb
   ·exact show 5 ≠ 54 by decide
   ·rw [List.mem_singleton.1 hb]; exact show 5 ≠ 87 by decide)
 have HLN := kp (show ([] ++ flat2 [x, y]).length + old.length ≤ 1000000 by simp [flat2, two16, HOL.out])
 (refine any_one (i := 7) (by kernel_rfl) rfl (fun K hK => ?_); change wpList _ _ _ [Oper.mk _ _ _ _ _ _] _ _)
 go_wp2_with (first | (at_builtin; refine L_appT8 H rfl _ _ rfl w.heap.size (Nat.le_refl _) H.out.1.size _ _ rfl HO3.out HTY.out _ _ rfl HSO.out HLN.out ?_; clear H; intro v1 wb HO4 H; simp only [pA]))
 (refine hK _ _ ?_; clear hK K)
 obtain ⟨ad2, n2, c2, rfl⟩ := owns_form2 HO4.out
 (refine any_one (i := 8) (by kernel_rfl) rfl (fun K hK => ?_); change wpList _ _ _ [Oper.mk _ _ _ _ _ _] _ _)
 go_wp2_with fail
 (refine hK _ _ ?_; clear hK K)
 (refine any_one (i := 9) (by kernel_rfl) rfl (fun K hK => ?_); change wpList _ _ _ [Oper.mk _ _ _ _ _ _] _ _)
 go_wp2_with fail
 (refine hK _ _ ?_; clear hK K)
 (refine any_one (i := 10) (by kernel_rfl) rfl (fun K hK => ?_); change wpList _ _ _ [Oper.mk _ _ _ _ _ _] _ _)
 have HG8 := kp (H.out.at 0 rfl)
 go_wp2_with (first | ((with_reducible refine isSt 29 ?_); (first | (refine L_cell H rfl rfl 29 _ _ rfl 0 rfl (0) rfl (.slice ad2 n2 c2) rfl (rfl) ((by kernel_rfl)) ((Nat.zero_lt_one)) ([.slice ad2 n2 c2]) (rfl) ?_; clear H; intro wz HWwz H; simp only [szA] at H) | (refine L_cell H rfl rfl 29 _ _ rfl 1 rfl (0) rfl (.slice ad2 n2 c2) rfl (rfl) ((by kernel_rfl)) ((Nat.zero_lt_one)) ([.slice ad2 n2 c2]) (rfl) ?_; clear H; intro wz HWwz H; simp only [ssA, szA] at H) | (refine L_cell H rfl rfl 29 _ _ rfl 2 rfl (0) rfl (.slice ad2 n2 c2) rfl (rfl) ((by kernel_rfl)) ((Nat.zero_lt_one)) ([.slice ad2 n2 c2]) (rfl) ?_; clear H; intro wz HWwz H; simp only [ssA, szA] at H) | (refine L_cell H rfl rfl 29 _ _ rfl 3 rfl (0) rfl (.slice ad2 n2 c2) rfl (rfl) ((by kernel_rfl)) ((Nat.zero_lt_one)) ([.slice ad2 n2 c2]) (rfl) ?_; clear H; intro wz HWwz H; simp only [ssA, szA] at H) | (refine L_cell H rfl rfl 29 _ _ rfl 4 rfl (0) rfl (.slice ad2 n2 c2) rfl (rfl) ((by kernel_rfl)) ((Nat.zero_lt_one)) ([.slice ad2 n2 c2]) (rfl) ?_; clear H; intro wz HWwz H; simp only [ssA, szA] at H) | (refine L_cell H rfl rfl 29 _ _ rfl 5 rfl (0) rfl (.slice ad2 n2 c2) rfl (rfl) ((by kernel_rfl)) ((Nat.zero_lt_one)) ([.slice ad2 n2 c2]) (rfl) ?_; clear H; intro wz HWwz H; simp only [ssA, szA] at H))))
 (refine hK _ _ ?_; clear hK K)
 refine wpAny_done (by kernel_rfl) ?_ _
 have HO := kp (owns_wroteT HO4.out HWwz.out HG8.out (show 5 ≠ 138 from by decide))
 go_wp2_with fail
 subst hr7
 go_wp2_with (first | ((with_reducible refine isLd 55 ?_); (first | (refine L_f1 H rfl 55 _ rfl 0 rfl _ rfl _ rfl _ rfl Try.underlying55 rfl ?_) | (refine L_f1 H rfl 55 _ rfl 1 rfl _ rfl _ rfl _ rfl Try.underlying55 rfl ?_) | (refine L_f1 H rfl 55 _ rfl 2 rfl _ rfl _ rfl _ rfl Try.underlying55 rfl ?_) | (refine L_f1 H rfl 55 _ rfl 3 rfl _ rfl _ rfl _ rfl Try.underlying55 rfl ?_) | (refine L_f1 H rfl 55 _ rfl 4 rfl _ rfl _ rfl _ rfl Try.underlying55 rfl ?_) | (refine L_f1 H rfl 55 _ rfl 5 rfl _ rfl _ rfl _ rfl Try.underlying55 rfl ?_)); simp only [pA]) | (go_at_call 75; refine (elements0_any g8 ad2 n2 c2 _ (by simp [two16, flat2]; have := HOL.out; omega) w _ (kp H.out.only) HO.out).mono ?_; rintro e wb ⟨v, rfl, ho, hx⟩; have HO2 := kp ho; have HX := kp hx; clear H ho hx))
 go_ret2
 exact ⟨v, rfl, by have := HO2.out; rw [flat2_2] at this; exact this, HX.out⟩
def aN : As := ⟨ptB, 1, 2, 100⟩
theorem haN : aN.own.length = 6 := rfl
def gpB : By := [1#8, 0#8, 0#8, 0#8, 0#8, 0#8]
def N1 : List En := [⟨stB 1, 1, 0, 0, 0, 10⟩]
def N2 : List En := [⟨stB 1, 1, 0, 0, 0, 20⟩]
def N3 : List En := [⟨stB 1, 1, 0, 0, 0, 21⟩]
def N6 : List En := [⟨stB 1, 2, 1, 7, 9, 24⟩]
def e7 : En := ⟨stB 1, 2, 1, 7, 9, 25⟩
def N7 : List En := [e7]
def NR : List En := [⟨stB 1, 1, 0, 0, 0, 3⟩]
theorem l6_N1 : L6 N1 := by unfold L6 N1; decide
theorem l6_N2 : L6 N2 := by unfold L6 N2; decide
theorem l6_N3 : L6 N3 := by unfold L6 N3; decide
theorem l6_N6 : L6 N6 := by unfold L6 N6; decide
theorem l6_N7 : L6 N7 := by unfold L6 N7 e7; decide
theorem l6_NR : L6 NR := by unfold L6 NR; decide
def bWk : By := two16 2 ++ two16 0
def bOt : By := two16 3 ++ two16 65535 ++ two16 0
def bSt : By := two16 0 ++ two16 3 ++ two16 0
def bAg : By := two16 7 ++ two16 9 ++ stB 9
def k7H : Hd := ⟨7, 0, false, false, false, false, false, false, false, 0, zero6, zero6, zero6, zero6, 0, 0, 0, 0, false, false⟩
theorem k7_ok : k7H.Ok := ⟨by decide, by decide, by decide, by decide, by decide, by decide, rfl, rfl, rfl, rfl⟩
def grH : Hd := ⟨2, 0, true, false, false, false, false, false, false, 0, gpB, stB 1, zero6, zero6, 0, 0, 0, 0, false, false⟩
theorem gr_ok : grH.Ok := ⟨by decide, by decide, by decide, by decide, by decide, by decide, rfl, rfl, rfl, rfl⟩
theorem k2 : (0:Int) ≤ 2 ∧ (2:Int) < 256 := by decide
theorem k13 : (0:Int) ≤ 13 ∧ (13:Int) < 256 := by decide
theorem nm1 : admitF aN [] ptB 0 = ([], [], 2) := by kernel_rfl
theorem nm2 : admitF aN [] gpB 0 = ([], [], 2) := by kernel_rfl
theorem nm3 : admitF aN [] (stB 1) 10 = (N1, [], 0) := by kernel_rfl
theorem nh1 : handleF dA dJ dL aN N1 (dtH (stB 1)) [] 20 = (N2, [(msgH aN (dtH (stB 1)).a2 10, two16 7)], 0) := by kernel_rfl
theorem nh2 : handleF dA dJ dL aN N2 (reqH (stB 1) 0) bWk 21 = (N3, [(msgH aN (reqH (stB 1) 0).a2 1, respB aN 1 0)], 0) := by kernel_rfl
theorem nh3 : handleF dA dJ dL aN N3 (reqH (stB 2) 11) bOt 22 = (N3, [(msgH aN (reqH (stB 2) 11).a2 11, authB 3 65535 13)], 0) := by kernel_rfl
theorem nh4 : handleF dA dJ dL aN N3 (reqH (stB 2) 11) bSt 23 = (N3, [(msgH aN (reqH (stB 2) 11).a2 11, authB 0 3 14)], 0) := by kernel_rfl
theorem nh5 : handleF dA dJ dL aN N3 (reqH (stB 1) 2) bAg 24 = (N6, [(msgH aN (reqH (stB 1) 2).a2 3, respB aN 0 1)], 0) := by kernel_rfl
theorem nh6 : handleF dA dJ dL aN N6 (dtH (stB 1)) [] 25 = (N7, [], 0) := by kernel_rfl
theorem nh7 : handleF dA dJ dL aN N7 (reqH (stB 1) 11) [] 26 = ([], [], 12) := by kernel_rfl
theorem nh8 : handleF dA dJ dL aN N7 k7H [] 26 = ([], [], 2) := by kernel_rfl
theorem nh9 : handleF dA dJ dL aN N7 (reqH (stB 1) 11) bAu (-1) = ([], [], 2) := by kernel_rfl
theorem nh10 : handleF dA dJ dL aN N7 grH [] 30 = (N7, [], 0) := by kernel_rfl
theorem nh11 : handleF dA dJ dL aN N7 (reqH (stB 1) 11) bAu 3 = (NR, [(msgH aN (reqH (stB 1) 11).a2 11, authB 0 1 0)], 0) := by kernel_rfl
theorem nt1 : tickF aN N7 124 = (N7, [], 0) := by kernel_rfl
theorem nt2 : tickF aN N7 125 = ([], [byeF aN (stB 1) 12 4], 0) := by kernel_rfl
theorem nr1 : removeF aN N7 (stB 1) = ([], [byeF aN (stB 1) 12 8], 0) := by kernel_rfl
theorem nr2 : removeF aN N7 (stB 2) = ([], [], 6) := by kernel_rfl
theorem nf1 : findE aN N7 (stB 1) = (e7, true) := by kernel_rfl
theorem nb1 : byE aN N7 1 = (e7, true) := by kernel_rfl
theorem nb0 : byE aN N7 0 = (en0, false) := by kernel_rfl
theorem na1 : allowF aN N7 (dtH (stB 1)) = true := by kernel_rfl
theorem na2 : allowF aN N7 (reqH (stB 1) 13) = true := by kernel_rfl
theorem na3 : allowF aN [] (reqH (stB 1) 13) = false := by kernel_rfl
theorem na4 : allowF aN [] (dtH (stB 1)) = false := by kernel_rfl
theorem na5 : allowF aN [] (reqH (stB 1) 11) = true := by kernel_rfl
theorem na6 : allowF aN [] (reqH (stB 1) 0) = false := by kernel_rfl
theorem na7 : allowF aN N7 grH = false := by kernel_rfl
theorem ns1 : sameF aN N7 aN N7 = true := by kernel_rfl
def zE1 : List En := [⟨stB 1, 0, 0, 0, 0, 0⟩]
def zE2 : List En := [⟨stB 1, 2, 4, 0, 0, 0⟩, ⟨stB 2, 2, 4, 0, 0, 0⟩]
theorem nc1 : chkF ⟨zero6, 0, 1, 1⟩ zE1 = 8 := by kernel_rfl
theorem nc2 : chkF ⟨zero6, 0, 3, 1⟩ zE2 = 8 := by kernel_rfl
theorem akN1 : AnsK 10 (two16 7) 7 0 := .inr (.inr (.inr (.inl ⟨rfl, by kernel_rfl, by kernel_rfl, rfl⟩)))
theorem akN2 : AnsK 1 (respB aN 1 0) 1 0 := .inr (.inl ⟨rfl, by kernel_rfl, by kernel_rfl, by kernel_rfl⟩)
theorem akN3 : AnsK 11 (authB 3 65535 13) 13 0 := .inl ⟨rfl, by kernel_rfl, by kernel_rfl, rfl⟩
theorem akN4 : AnsK 11 (authB 0 3 14) 14 0 := .inl ⟨rfl, by kernel_rfl, by kernel_rfl, rfl⟩
theorem akN5 : AnsK 3 (respB aN 0 1) 0 1 := .inr (.inr (.inl ⟨rfl, by kernel_rfl, by kernel_rfl, by kernel_rfl⟩))
theorem akN11 : AnsK 11 (authB 0 1 0) 0 0 := .inl ⟨rfl, by kernel_rfl, by kernel_rfl, rfl⟩
def TrN (T B : Nat) (w w' : World) : Prop := Ext w w' ∨ ∃ g cs ds, B ≤ g ∧ Lc w g T cs ∧ w' = w.setRow g (ds : List Value).toArray
section
variable {P : Program} {ops : Array Oper}
structure InvN (ops : Array Oper) (S : Tmp → Value → World → Prop) (iA iS dA T : Nat) (c0 c1 : List Value) (n : Nat) (W : World) (a0 : Act) (rem : List Nat) (listed : Array Bool) (a : Act) (w : World) : Prop where
 head : HeadInv .any ops n listed
 nodup : rem.Nodup
 lt : ∀ j ∈ rem, j < n
 mem : ∀ j, j < n → (listed.getD j false = true ↔ j ∉ rem)
 size : a.tmps.size = a0.tmps.size
 defers : a.defers = a0.defers
 done : ∀ d, (∃ j o, j < n ∧ j ∉ rem ∧ ops[j]? = some o ∧ o.dst = some d) → ∃ v, a.tmps[d]? = some v ∧ S d v w
 open_ : ∀ d, (∀ j o, j < n → j ∉ rem → ops[j]? = some o → o.dst ≠ some d) → a.tmps[d]? = a0.tmps[d]?
 ext : Ext W w
 var : iA ∉ rem → ∃ g, a.tmps[dA]? = some (.pointer (some ⟨g, 0, none⟩)) ∧ W.heap.size ≤ g ∧ Lc w g T (if iS ∈ rem then c0 else c1)
 pre : iS ∉ rem → iA ∉ rem
theorem InvN.step {S : Tmp → Value → World → Prop} {iA iS dA T : Nat} {c0 c1 : List Value} {n : Nat} {W : World} (hS : ∀ d v w w', S d v w → TrN T W.heap.size w w' → S d v w') {a0 : Act} {rem : List Nat} {listed : Array Bool} {a : Act} {w w' : World} (inv : InvN ops S iA iS dA T c0 c1 n W a0 rem listed a w)
  {i : Nat} {o : Oper} (hi : i ∈ Region.ready .any ops listed) (hin : i < n) (ho : ops[i]? = some o) (v : Value) (htr : TrN T W.heap.size w w') (hext : Ext W w')
  (hsz : ∀ (j : Nat) o d, j < n → ops[j]? = some o → o.dst = some d → d < a0.tmps.size)
  (hv : ∀ d, o.dst = some d → S d v w')
  (hvar : iA ∉ rem.erase i → ∃ g, (a.put o.dst v).tmps[dA]? = some (.pointer (some ⟨g, 0, none⟩)) ∧ W.heap.size ≤ g ∧ Lc w' g T (if iS ∈ rem.erase i then c0 else c1)) (hpre : iS ∉ rem.erase i → iA ∉ rem.erase i) :
  InvN ops S iA iS dA T c0 c1 n W a0 (rem.erase i) (listed.setIfInBounds i true) (a.put o.dst v) w' := by
 have hun := (mem_ready.1 hi).1
 have hirem : i ∈ rem := by
  rcases Classical.em (i ∈ rem) with h | h
  ·exact h
  ·have := (inv.mem i hin).2 h
   rw [getD_both hun] at this; cases this
 have hmem : ∀ j, j < n → (j ∉ rem.erase i ↔ j ∉ rem ∨ j = i) := fun j _ => by
  rw [inv.nodup.mem_erase_iff]
  constructor
  ·intro h; by_cases hj : j = i
   ·exact .inr hj
   ·exact .inl fun hm => h ⟨hj, hm⟩
  ·rintro (h | h) ⟨h1, h2⟩
   ·exact h h2
   ·exact h1 h
 have hlen : i < listed.size := by
  rcases Nat.lt_or_ge i listed.size with h | h
  ·exact h
  ·simp [Array.getElem?_eq_none h] at hun
 refine ⟨inv.head.set hi hin, inv.nodup.erase i, fun j hj => inv.lt j (List.mem_of_mem_erase hj), fun j hj => ?_, by rw [put_size, inv.size], by rw [put_defers, inv.defers], fun d h => ?_, fun d h => ?_, hext, hvar, hpre⟩
 ·rw [hmem j hj]
  by_cases hji : i = j
  ·subst hji; simp [hlen]
  ·rw [getD_set_ne false hji, inv.mem j hj]
   exact ⟨fun h => .inl h, fun h => h.resolve_right fun e => hji e.symm⟩
 ·obtain ⟨j, oj, hj, hjr, hoj, hdj⟩ := h
  by_cases hod : o.dst = some d
  ·rw [hod, put_get, if_pos rfl]
   have hlt : d < a.tmps.size := by rw [inv.size]; exact hsz i o d hin ho hod
   exact ⟨v, by rw [if_pos hlt], hv d hod⟩
  ·rw [put_other _ _ _ _ hod]
   obtain ⟨u, hu1, hu2⟩ := inv.done d ⟨j, oj, hj, (by
    rcases (hmem j hj).1 hjr with h | h
    ·exact h
    ·subst h; rw [ho] at hoj; cases hoj; exact absurd hdj hod), hoj, hdj⟩
   exact ⟨u, hu1, hS d u w w' hu2 htr⟩
 ·have hod : o.dst ≠ some d := h i o hin ((hmem i hin).2 (.inr rfl)) ho
  rw [put_other _ _ _ _ hod]
  exact inv.open_ d fun j oj hj hjr hoj => h j oj hj ((hmem j hj).2 (.inl hjr)) hoj
def FinN (ops : Array Oper) (S : Tmp → Value → World → Prop) (dA T : Nat) (c1 : List Value) (n : Nat) (W : World) (a0 a' : Act) (w' : World) : Prop :=
 Ext W w' ∧ a'.tmps.size = a0.tmps.size ∧ a'.defers = a0.defers ∧ (∀ d, (∃ j o, j < n ∧ ops[j]? = some o ∧ o.dst = some d) → ∃ v, a'.tmps[d]? = some v ∧ S d v w') ∧ (∀ d, (∀ j o, j < n → ops[j]? = some o → o.dst ≠ some d) → a'.tmps[d]? = a0.tmps[d]?) ∧
 ∃ g, a'.tmps[dA]? = some (.pointer (some ⟨g, 0, none⟩)) ∧ W.heap.size ≤ g ∧ Lc w' g T c1
theorem flat_freeN {S : Tmp → Value → World → Prop} {iA iS dA dV T : Nat} {c0 c1 : List Value} {n : Nat} {W : World} (hS : ∀ d v w w', S d v w → TrN T W.heap.size w w' → S d v w') (hSA : ∀ v w, S dA v w) {a0 : Act} {Q : Exit → Act → World → Prop} (hB : flatB ops n = true)
  (hAn : iA < n) (hSn : iS < n) (hAS : iA ≠ iS) (hA : ∀ o, ops[iA]? = some o → o.guard = none ∧ o.dst = some dA ∧ ∀ (b : Act) (w : World), (execOp b.eval o).run P w = .ok (.value (.pointer (some ⟨w.heap.size, 0, none⟩))) (w.alloc (.cells c0.toArray T)))
  (hwS : Region.waitsFor .any ops iS iA = true) (hVp : ∃ j o, j < n ∧ ops[j]? = some o ∧ o.dst = some dV)
  (hSt : ∀ o, ops[iS]? = some o → o.guard = none ∧ o.dst = none ∧ dV ∈ o.looksAt ops ∧ ∀ (b : Act) (w : World) (g : Nat) (v : Value), b.tmps[dA]? = some (.pointer (some ⟨g, 0, none⟩)) → b.tmps[dV]? = some v → S dV v w → Lc w g T c0 → (execOp b.eval o).run P w = .ok .skip (w.setRow g c1.toArray))
  (hdA : ∀ i o, i < n → i ≠ iA → ops[i]? = some o → o.dst ≠ some dA)
  (hsz : ∀ (j : Nat) o d, j < n → ops[j]? = some o → o.dst = some d → d < a0.tmps.size)
  (hq : ∀ i o, i < n → i ≠ iA → i ≠ iS → ops[i]? = some o → ∀ (b : Act) (w : World), b.tmps.size = a0.tmps.size → (∀ d ∈ o.looksAt ops, (∀ j o, j < n → ops[j]? = some o → o.dst ≠ some d) → b.tmps[d]? = a0.tmps[d]?) → Ext W w → (∀ d ∈ o.looksAt ops, (∃ j o, j < n ∧ ops[j]? = some o ∧ o.dst = some d) → ∃ v, b.tmps[d]? = some v ∧ S d v w) →
   ∀ K : Act → World → Prop, (∀ v w', (∀ d, o.dst = some d → S d v w') → Ext w w' → K (b.put o.dst v) w') → if Region.wanted o (yielded ops b.tmps) then o.wp P b w K Q else K (b.put o.dst undef) w)
  (ht : ∀ a' w', FinN ops S dA T c1 n W a0 a' w' → wpList P ops Q (ops.toList.drop n) a' w') :
  ∀ (f : Nat) (rem : List Nat) (listed : Array Bool) (a : Act) (w : World), rem.length = f → InvN ops S iA iS dA T c0 c1 n W a0 rem listed a w → wpAny P .any ops Q (f + (ops.size - n)) listed a w := by
 simp only [flatB, Bool.and_eq_true, Bool.or_eq_true, decide_eq_true_eq] at hB
 obtain ⟨⟨⟨⟨hsel, hn⟩, hsc⟩, hseq⟩, hhd⟩ := hB
 intro f
 induction f with
 | zero =>
  intro rem listed a w hf inv
  have hnil : rem = [] := List.eq_nil_of_length_eq_zero hf
  subst hnil
  have hlisted : listed = (List.replicate n true ++ List.replicate (ops.size - n) false).toArray := by
   have hs := inv.head.size
   refine Array.ext (by simp [hs]; omega) fun j h1 h2 => ?_
   rcases Nat.lt_or_ge j n with hj | hj
   ·have := (inv.mem j hj).2 (by simp)
    simp [h1] at this
    simp [this, hj, List.getElem_append_left]
   ·have := inv.head.tail j hj (by rw [← hs]; exact h1)
    simp [h1] at this
    rw [this]
    simp only [List.getElem_toArray]
    rw [List.getElem_append_right (by simpa using hj)]
    simp
  have hfin : FinN ops S dA T c1 n W a0 a w :=
   ⟨inv.ext, inv.size, inv.defers, fun d ⟨j, o, hj, hoj, hdj⟩ => inv.done d ⟨j, o, hj, by simp, hoj, hdj⟩, fun d h => inv.open_ d fun j o hj _ hoj => h j o hj hoj, by simpa using inv.var (by simp)⟩
  have hl : (ops.toList.drop n).length = ops.size - n := by simp
  have := wpAny_of_seq (P := P) (md := .any) (Q' := Q) (ops := ops) (ops.toList.drop n) n listed a w (fun j => by simp [List.getElem?_drop]) (by rw [hl, hlisted]; exact hseq) (ht a w hfin)
  rw [hl] at this
  rw [Nat.zero_add]; exact this
 | succ f ih =>
  intro rem listed a w hf inv
  have hne : ∃ i, i ∈ rem := by
   cases rem with
   | nil => simp at hf
   | cons x l => exact ⟨x, by simp⟩
  have hpos : 0 < n := by obtain ⟨i, hi⟩ := hne; have := inv.lt i hi; omega
  have hleast : ∀ k, (∃ i, i ≤ k ∧ i ∈ rem) → ∃ i ∈ rem, ∀ j ∈ rem, i ≤ j := by
   intro k
   induction k with
   | zero => rintro ⟨i, hi, him⟩; exact ⟨i, him, fun j _ => by omega⟩
   | succ k ihk =>
    rintro ⟨i, hi, him⟩
    rcases Classical.em (∃ i, i ≤ k ∧ i ∈ rem) with h | h
    ·exact ihk h
    ·refine ⟨i, him, fun j hj => ?_⟩
     rcases Nat.lt_or_ge j i with h' | h'
     ·exact absurd ⟨j, by omega, hj⟩ h
     ·exact h'
  obtain ⟨i9, hi9⟩ := hne
  obtain ⟨i0, hi0, hmin⟩ := hleast i9 ⟨i9, Nat.le_refl _, hi9⟩
  have hi0n := inv.lt i0 hi0
  have hi0u : listed.getD i0 false = false := by
   cases h : listed.getD i0 false with
   | false => rfl
   | true => exact absurd hi0 ((inv.mem i0 hi0n).1 h)
  have hi0s : i0 < listed.size := by rw [inv.head.size]; omega
  have hrow := fun i (hi : i < n) => List.all_eq_true.1 hhd i (List.mem_range.2 hi)
  have hready : i0 ∈ Region.ready .any ops listed := by
   have hr := hrow i0 hi0n
   cases ho : ops[i0]? with
   | none => simp [ho] at hr
   | some o =>
    simp only [ho, Bool.and_eq_true] at hr
    refine mem_ready.2 ⟨getD_in hi0s hi0u, o, ho, fun e he hb => ?_⟩
    have := Array.all_eq_true'.1 hr.1 e he
    simp [hb] at this
    refine (inv.mem e.on (by omega)).2 fun hm => ?_
    have := hmin _ hm; omega
  rw [show f + 1 + (ops.size - n) = (f + (ops.size - n)) + 1 by omega]
  refine ⟨fun h => (by rw [h] at hready; cases hready), fun i hi => ?_⟩
  have hin : i < n := by
   rcases Nat.lt_or_ge i n with h | h
   ·exact h
   ·rcases hsc with ⟨⟨hlt, hs⟩, hc⟩ | heq
    ·exact absurd hi (tail_waits hs hc hlt inv.head _ i0 rfl hi0n (getD_in hi0s hi0u) i h)
    ·obtain ⟨_, o, ho, _⟩ := mem_ready.1 hi
     have := (Array.getElem?_eq_some_iff.1 ho).1
     omega
  obtain ⟨hun, o, ho, hall⟩ := mem_ready.1 hi
  have hirem : i ∈ rem := by
   rcases Classical.em (i ∈ rem) with h | h
   ·exact h
   ·have := (inv.mem i hin).2 h
    rw [getD_both hun] at this; cases this
  have hlen : (rem.erase i).length = f := by rw [List.length_erase_of_mem hirem]; omega
  have hlg : ∀ d ∈ o.looksAt ops, (∃ j oj, j < n ∧ ops[j]? = some oj ∧ oj.dst = some d) → ∃ v, a.tmps[d]? = some v ∧ S d v w := fun d hd ⟨j, oj, hj, hoj, hdj⟩ => by
   have hr := hrow i hin
   simp only [ho, Bool.and_eq_true] at hr
   have h2 := List.all_eq_true.1 hr.2 d hd
   have h3 := List.all_eq_true.1 h2 j (List.mem_range.2 hj)
   simp only [hoj, hdj, Bool.or_eq_true] at h3
   have h4 : Region.waitsFor .any ops i j = true := by
    rcases h3 with h | h
    ·simp at h
    ·exact h
   obtain ⟨oi, hoi, e, he, hb, hon⟩ := Region.waitsFor_spec h4
   have : oi = o := Option.some.inj (hoi.symm.trans ho)
   subst this
   have := hall e he hb
   rw [hon] at this
   exact inv.done d ⟨j, oj, hj, (inv.mem j hj).1 this, hoj, hdj⟩
  have hopn : ∀ d ∈ o.looksAt ops, (∀ j o, j < n → ops[j]? = some o → o.dst ≠ some d) → a.tmps[d]? = a0.tmps[d]? := fun d _ h => inv.open_ d fun j o hj _ hoj => h j o hj hoj
  unfold wpOp
  simp only [ho]
  have hmemE : ∀ j, j ∈ rem.erase i ↔ j ≠ i ∧ j ∈ rem := fun j => inv.nodup.mem_erase_iff
  have hwt : ∀ j, j < n → Region.waitsFor .any ops i j = true → j ∉ rem := fun j hj hw => by
   obtain ⟨oi, hoi, e, he, hb, hon⟩ := Region.waitsFor_spec hw
   rw [ho] at hoi
   have : o = oi := Option.some.inj hoi
   subst this
   have := hall e he hb
   rw [hon] at this
   exact (inv.mem j hj).1 this
  by_cases hiA : i = iA
  ·subst hiA
   obtain ⟨hg, hd, hrun⟩ := hA o ho
   have hSr : iS ∈ rem := Classical.byContradiction fun z => inv.pre z hirem
   rw [if_pos (by simp [Region.wanted, hg])]
   refine .inl ?_
   unfold Oper.wp
   rw [hrun a w]
   simp only [Oper.upon]
   refine ih (rem.erase i) _ _ _ hlen (inv.step hS hi hin ho _ (.inl (Ext.alloc w _)) (inv.ext.trans (Ext.alloc w _)) hsz (fun d hd' => ?_) (fun _ => ?_) (fun z => ?_))
   ·rw [hd] at hd'; cases hd'; exact hSA _ _
   ·refine ⟨w.heap.size, ?_, inv.ext.size, ?_⟩
    ·rw [hd, put_get, if_pos rfl, if_pos (by rw [inv.size]; exact hsz i o dA hin ho hd)]
    ·rw [if_pos ((hmemE iS).2 ⟨fun e => hAS e.symm, hSr⟩)]
     exact hp_new w _
   ·exact absurd ((hmemE iS).2 ⟨fun e => hAS e.symm, hSr⟩) z
  by_cases hiS : i = iS
  ·subst hiS
   obtain ⟨hg, hd, hVl, hrun⟩ := hSt o ho
   have hAr : iA ∉ rem := hwt iA hAn hwS
   obtain ⟨g, hv1, hv2, hv3⟩ := inv.var hAr
   rw [if_pos hirem] at hv3
   obtain ⟨v, hvv, hvS⟩ := hlg dV hVl hVp
   rw [if_pos (by simp [Region.wanted, hg])]
   refine .inl ?_
   unfold Oper.wp
   rw [hrun a w g v hv1 hvv hvS hv3]
   simp only [Oper.upon]
   have hxx : Ext W (w.setRow g c1.toArray) := (Out.set (G := [g]) (by simp) w c1.toArray).ext inv.ext (fun g' hg' => by obtain rfl := List.mem_singleton.1 hg'; exact hv2)
   refine ih (rem.erase i) _ _ _ hlen (inv.step hS hi hin ho undef (.inr ⟨g, c0, c1, hv2, hv3, rfl⟩) hxx hsz (fun d hd' => by rw [hd] at hd'; cases hd') (fun _ => ?_) (fun _ z => hAr ((hmemE iA).1 z).2))
   refine ⟨g, by rw [hd]; exact hv1, hv2, ?_⟩
   rw [if_neg (fun z => ((hmemE i).1 z).1 rfl)]
   exact hv3.set _
  ·have H := hq i o hin hiA hiS ho a w inv.size hopn inv.ext hlg
    (wpAny P .any ops Q (f + (ops.size - n)) (listed.setIfInBounds i true))
    (fun v w' hv hext => ih (rem.erase i) _ _ _ hlen (inv.step hS hi hin ho v (.inl hext) (inv.ext.trans hext) hsz hv (fun z => by
     obtain ⟨g, h1, h2, h3⟩ := inv.var (fun y => z ((hmemE iA).2 ⟨fun e => hiA e.symm, y⟩))
     refine ⟨g, by rw [put_other _ _ _ _ (hdA i o hin hiA ho)]; exact h1, h2, ?_⟩
     have e : (iS ∈ rem.erase i) = (iS ∈ rem) := propext ⟨fun y => ((hmemE iS).1 y).2, fun y => (hmemE iS).2 ⟨fun e => hiS e.symm, y⟩⟩
     simp only [e]
     exact h3.ext hext) (fun z y => inv.pre (fun x => z ((hmemE iS).2 ⟨fun e => hiS e.symm, x⟩)) ((hmemE iA).1 y).2)))
   split
   ·rename_i hw; rw [if_pos hw] at H; exact .inl H
   ·rename_i hw; rw [if_neg hw] at H; exact H
def wpN (P : Program) (ops : Array Oper) (W : World) (S : Tmp → Value → World → Prop) (iA iS : Nat) (D : List Tmp) (fin : Act → Prop) : Nat → List Oper → Act → Prop
 | _, [], a => fin a
 | k, o :: l, a => ((k == iA || k == iS) = false → ∀ w, Ext W w → (∀ d ∈ o.looksAt ops, d ∈ D → S d (a.tmps.getD d undef) w) → wpList P ops (KS S o a w) [o] a w) ∧ ∀ v, wpN P ops W S iA iS D fin (k + 1) l (a.put o.dst v)
theorem free_of_walkN {W : World} {S : Tmp → Value → World → Prop} {iA iS : Nat} {D : List Tmp} {fin : Act → Prop} {Q : Exit → Act → World → Prop} (hsel : ∀ (j : Nat) (o : Oper) cs b, ops[j]? = some o → o.op ≠ .select cs b) : ∀ (l : List Oper) (k : Nat) (a : Act), (∀ o ∈ l, ∃ j : Nat, ops[j]? = some o) → (∀ o ∈ l, ∀ d, o.dst = some d → d < a.tmps.size) → topoB ops l = true →
  wpN P ops W S iA iS D fin k l a → ∀ (j : Nat) o, l[j]? = some o → ∀ (b : Act) (w : World), b.tmps.size = a.tmps.size → (∀ d ∈ o.looksAt ops, d ∉ dsts l → b.tmps[d]? = a.tmps[d]?) → Ext W w → (∀ d ∈ o.looksAt ops, d ∈ D → S d (b.tmps.getD d undef) w) → (k + j == iA || k + j == iS) = false →
   ∀ K : Act → World → Prop, (∀ v w', (∀ d, o.dst = some d → S d v w') → Ext w w' → K (b.put o.dst v) w') → if Region.wanted o (yielded ops b.tmps) then o.wp P b w K Q else K (b.put o.dst undef) w
 | [], _, _, _, _, _, _, j, o, ho => by simp at ho
 | o :: l, k, a, hin, hlt, ht, h, 0, o', ho' => by
  have hoo : o = o' := by simpa using ho'
  subst hoo
  simp only [topoB, Bool.and_eq_true] at ht
  obtain ⟨⟨t1, t2⟩, t3⟩ := ht
  intro b w hb hag hext hSd hne
  have hl : ∀ d ∈ o.looksAt ops, a.tmps[d]? = b.tmps[d]? := fun d hd => by
   have := List.all_eq_true.1 t1 d hd
   exact (hag d hd (by simpa using this)).symm
  obtain ⟨j, hj⟩ := hin o (by simp)
  obtain ⟨e1, e2⟩ := eval_same (ops := ops) hl (fun cs b => hsel j o cs b hj)
  have hSa : ∀ d ∈ o.looksAt ops, d ∈ D → S d (a.tmps.getD d undef) w := fun d hd hD => by
   have := hSd d hd hD
   rw [Array.getD_eq_getD_getElem?] at this ⊢
   rw [hl d hd]; exact this
  unfold wpN at h
  rw [Nat.add_zero] at hne
  intro K hK
  have H := h.1 hne w hext hSa
  unfold wpList at H
  rw [e2] at H
  split at H
  ·rename_i hw
   rw [if_pos hw]
   rcases H with H | ⟨_, _, _, hc, _⟩
   ·exact wp_transfer e1 (hlt o (by simp)) (Oper.wp_mono (fun _ _ h => h) H) hK
   ·cases hc
  ·rename_i hw
   rw [if_neg hw]
   obtain ⟨_, u, he, hs, hx⟩ := H
   refine hK undef w (fun d hd => ?_) (Ext.refl w)
   rw [hd] at he
   rw [put_inj (hlt o (by simp) d hd) he]
   exact hs d hd
 | o :: l, k, a, hin, hlt, ht, h, j + 1, o', ho' => by
  simp only [topoB, Bool.and_eq_true] at ht
  obtain ⟨⟨t1, t2⟩, t3⟩ := ht
  intro b w hb hag hext hSd hne
  rw [show k + (j + 1) = (k + 1) + j by omega] at hne
  unfold wpN at h
  have hoj : l[j]? = some o' := by simpa using ho'
  have hsame : ∀ c : Act, c = a.put o.dst (b.tmps.getD (o.dst.getD 0) undef) → ∀ d ∈ o'.looksAt ops, d ∉ dsts l → b.tmps[d]? = c.tmps[d]? := fun c hc d hd hn => by
   subst hc
   ·cases hod : o.dst with
    | none => exact hag d hd (by simp only [dsts, List.filterMap_cons, hod]; exact hn)
    | some e =>
     have he := hlt o (by simp) e hod
     rw [put_get]
     by_cases hde : e = d
     ·subst hde
      rw [if_pos rfl, if_pos he]
      have heb : e < b.tmps.size := by rw [hb]; exact he
      simp [heb]
     ·rw [if_neg hde]
      refine hag d hd ?_
      simp only [dsts, List.filterMap_cons, hod, List.mem_cons, not_or]
      exact ⟨fun e' => hde e'.symm, hn⟩
  exact free_of_walkN hsel l (k + 1) _ (fun x hx => hin x (by simp [hx])) (fun x hx d hd => by rw [put_size]; exact hlt x (by simp [hx]) d hd) t3 (h.2 (b.tmps.getD (o.dst.getD 0) undef)) j o' hoj b w (by rw [put_size]; exact hb) (hsame _ rfl) hext hSd hne
theorem region_freeN {id : Nat} {Q : Exit → Act → World → Prop} {a : Act} {w0 W : World} {bs : List Bk} {l : List Oper} (H : Kp (Loc w0 W bs)) (S : Tmp → Value → World → Prop) (iA iS dA dV T : Nat) (c0 c1 : List Value) (n : Nat) (hS : ∀ d v w w', S d v w → TrN T W.heap.size w w' → S d v w') (hSA : ∀ v w, S dA v w) (hSV : ∀ v w, S dV v w → v = .agg c1.toArray) (hm : P.follows .mixedOrders = true)
  (hB : flatB l.toArray n = true) (hT : topoB l.toArray (l.take n) = true) (hD : ((l.take n).all fun o => match o.dst with | some d => decide (d < a.tmps.size) | none => true) = true)
  (oA oS : Oper) (hoA : l.toArray[iA]? = some oA) (hoS : l.toArray[iS]? = some oS) (hAn : iA < n) (hSn : iS < n) (hAS : iA ≠ iS) (hgA : oA.guard = none) (hA2 : oA.op = .alloc T) (hA3 : oA.dst = some dA) (hz : ∀ w, (zeroValue T).run P w = .ok (.agg c0.toArray) w)
  (hS1 : oS.guard = none) (hS2 : oS.dst = none) (hS3 : oS.op = .store T (.tmp dA) (.tmp dV)) (hVl : (oS.looksAt l.toArray).contains dV = true) (hVd : (dsts (l.take n)).contains dV = true) (hwS : Region.waitsFor .any l.toArray iS iA = true) (hsz : (P.info? T).map (·.size) = some c1.toArray.size) (hlen : c0.length = c1.length) (hone : c1.toArray.all (·.oneCell') = true)
  (hdA : ((List.range n).all fun i => i == iA || match l.toArray[i]? with | some o => !(o.dst == some dA) | none => true) = true)
  (h : wpN P l.toArray W S iA iS (dsts (l.take n)) (fun a' => ∀ w', Kp (Ext W w') → (∀ d ∈ dsts (l.take n), S d (a'.tmps.getD d undef) w') → (∃ g, a'.tmps.getD dA undef = .pointer (some ⟨g, 0, none⟩) ∧ W.heap.size ≤ g ∧ Lc w' g T c1 ∧ Kp (Loc w0 w' ((g, T, c1) :: bs))) → wpList P l.toArray Q (l.drop n) a' w') 0 (l.take n) a) :
  (Code.region id l.toArray true).wp P Q a W := by
 have hn := flatB_le hB
 have hidx : ∀ (i : Nat) (o : Oper), i < n → l.toArray[i]? = some o → (l.take n)[i]? = some o := fun i o hi ho => by
  rw [List.getElem?_take, if_pos hi]; simpa using ho
 have hinl : ∀ (i : Nat) (o : Oper), i < n → l.toArray[i]? = some o → o ∈ l.take n := fun i o hi ho => List.mem_of_getElem? (hidx i o hi ho)
 have hout : ∀ o, o ∈ l.take n → ∃ j : Nat, j < n ∧ l.toArray[j]? = some o := fun o ho => by
  obtain ⟨j, hj⟩ := List.getElem?_of_mem ho
  rw [List.getElem?_take] at hj
  split at hj
  ·rename_i hlt; exact ⟨j, hlt, by simpa using hj⟩
  ·cases hj
 have hlt : ∀ o ∈ l.take n, ∀ d, o.dst = some d → d < a.tmps.size := fun o ho d hd => by
  have := List.all_eq_true.1 hD o ho
  rw [hd] at this; simpa using this
 have hwalk := free_of_walkN (P := P) (ops := l.toArray) (Q := Q) (Region.noSelect_spec (flatB_sel hB)) (l.take n) 0 a (fun o' ho' => by
   obtain ⟨j, _, hj⟩ := hout o' ho'; exact ⟨j, hj⟩) hlt hT h
 have hSd : ∀ (b : Act) (w : World) (o : Oper), (∀ d ∈ o.looksAt l.toArray, (∃ j o, j < n ∧ l.toArray[j]? = some o ∧ o.dst = some d) → ∃ v, b.tmps[d]? = some v ∧ S d v w) → ∀ d ∈ o.looksAt l.toArray, d ∈ dsts (l.take n) → S d (b.tmps.getD d undef) w := fun b w o hdn d hd hdD => by
  obtain ⟨oj, hoj, hdj⟩ := mem_dsts.1 hdD
  obtain ⟨j, hj, hj2⟩ := hout oj hoj
  obtain ⟨v, hv1, hv2⟩ := hdn d hd ⟨j, oj, hj, hj2, hdj⟩
  rw [Array.getD_eq_getD_getElem?, hv1]; exact hv2
 refine wp_region_any hm ?_
 have HF := flat_freeN (P := P) (ops := l.toArray) (S := S) (iA := iA) (iS := iS) (dA := dA) (dV := dV) (T := T) (c0 := c0) (c1 := c1) (n := n) (W := W) (a0 := a) (Q := Q) hS hSA hB hAn hSn hAS
  (fun o ho => by
   rw [hoA] at ho; cases ho
   refine ⟨hgA, hA3, fun b w => ?_⟩
   unfold execOp
   simp only [hA2, Instr.alloc, newVar, Sem.run_bind, hz, Result.andThen_ok]
   rfl)
  hwS (by
   obtain ⟨oj, hoj, hdj⟩ := mem_dsts.1 (List.contains_iff_mem.1 hVd)
   obtain ⟨j, hj, hj2⟩ := hout oj hoj
   exact ⟨j, oj, hj, hj2, hdj⟩)
  (fun o ho => by
   rw [hoS] at ho; cases ho
   refine ⟨hS1, hS2, List.contains_iff_mem.1 hVl, fun b w g v h1 h2 h3 h4 => ?_⟩
   have hv := hSV v w h3
   subst hv
   exact run_sto T (.tmp dA) (.tmp dV) hS3 (by simp [Act.eval, h1]) (by simp [Act.eval, h2]) h4 hsz hlen hone)
  (fun i o hi hne ho hd => by
   have := List.all_eq_true.1 hdA i (List.mem_range.2 hi)
   simp [ho, hd, hne] at this)
  (fun j o d hj hoj hd => hlt o (hinl j o hj hoj) d hd)
  (fun i o hi2 hnA hnS ho b w hb hop hext hdn K hK => by
   have h1 := hwalk i o (hidx i o hi2 ho) b w hb (fun d hd hnd => hop d hd fun j oj hj hoj hdj => hnd (mem_dsts.2 ⟨oj, hinl j oj hj hoj, hdj⟩)) hext (hSd b w o hdn) (by rw [Nat.zero_add]; simp [hnA, hnS])
   exact h1 K hK)
  (by
   intro a' w' hf
   obtain ⟨ho, h2, h3, h4, h5, g, hg1, hg2, hg3⟩ := hf
   have hend : ∀ (L : List Oper) (k : Nat) (c : Act), c.tmps.size = a'.tmps.size → c.defers = a'.defers → (∀ o ∈ L, ∀ d, o.dst = some d → d < c.tmps.size) → (∀ d, d < a'.tmps.size → d ∉ dsts L → c.tmps[d]? = a'.tmps[d]?) → ∀ {D : List Tmp} {fin : Act → Prop}, wpN P l.toArray W S iA iS D fin k L c → ∃ c', fin c' ∧ c'.tmps.size = a'.tmps.size ∧ c'.defers = a'.defers ∧ ∀ d, d < a'.tmps.size → c'.tmps[d]? = a'.tmps[d]? := by
    intro L
    induction L with
    | nil => intro k c hs hdf _ hag D fin hw; exact ⟨c, hw, hs, hdf, fun d hd => hag d hd (by simp [dsts])⟩
    | cons o L ih =>
     intro k c hs hdf hlt2 hag D fin hw
     unfold wpN at hw
     refine ih (k + 1) (c.put o.dst (a'.tmps.getD (o.dst.getD 0) undef)) (by rw [put_size]; exact hs) (by rw [put_defers]; exact hdf) (fun x hx d hd => by rw [put_size]; exact hlt2 x (by simp [hx]) d hd) (fun d hd hnd => ?_) (hw.2 _)
     cases hod : o.dst with
     | none => exact hag d hd (by simp only [dsts, List.filterMap_cons, hod]; exact hnd)
     | some e =>
      have he := hlt2 o (by simp) e hod
      rw [put_get]
      by_cases hde : e = d
      ·subst hde
       rw [if_pos rfl, if_pos he]
       have heb : e < a'.tmps.size := by rw [← hs]; exact he
       simp [heb]
      ·rw [if_neg hde]
       refine hag d hd ?_
       simp only [dsts, List.filterMap_cons, hod, List.mem_cons, not_or]
       exact ⟨fun e' => hde e'.symm, hnd⟩
   obtain ⟨c', hfin, hcs, hcd, hca⟩ := hend (l.take n) 0 a h2.symm h3.symm hlt (fun d hd hnd => (h5 d fun j oj hj hoj hdj => hnd (mem_dsts.2 ⟨oj, hinl j oj hj hoj, hdj⟩)).symm) h
   have : a' = c' := act_ext hcd.symm fun d => by
    by_cases hd : d < a'.tmps.size
    ·exact (hca d hd).symm
    ·rw [Array.getElem?_eq_none (by omega), Array.getElem?_eq_none (by omega)]
   rw [this]
   have hlist : l.toArray.toList.drop n = l.drop n := by simp
   rw [hlist]
   refine hfin w' (kp ho) (fun d hd => ?_) ⟨g, ?_, hg2, hg3, kp ⟨H.out.1.trans ho, ?_, fun b hb => ?_⟩⟩
   obtain ⟨oj, hoj, hdj⟩ := mem_dsts.1 hd
   obtain ⟨j, hj, hj2⟩ := hout oj hoj
   obtain ⟨v, hv1, hv2⟩ := h4 d ⟨j, oj, hj, hj2, hdj⟩
   rw [Array.getD_eq_getD_getElem?, ← this, hv1]; exact hv2
   ·rw [Array.getD_eq_getD_getElem?, ← this, hg1]; rfl
   ·rw [List.map_cons, List.nodup_cons]
    refine ⟨fun hm => ?_, H.out.2.1⟩
    obtain ⟨b, hb, e⟩ := List.mem_map.1 hm
    have := (H.out.2.2 b hb).2.lt
    have e : b.1 = g := e
    omega
   ·rcases List.mem_cons.1 hb with rfl | hb
    ·exact ⟨Nat.le_trans H.out.1.size hg2, hg3⟩
    ·exact ⟨(H.out.2.2 b hb).1, (H.out.2.2 b hb).2.ext ho⟩)
  n (List.range n) (Array.replicate l.toArray.size false) a W.drew (by simp)
  (by
   refine ⟨⟨by simp, fun j oj _ hl => (by rw [getD_replicate_false] at hl; cases hl), fun t _ ht => getD_in (by simpa using ht) (getD_replicate_false _ _)⟩, List.nodup_range, fun j hj => List.mem_range.1 hj, fun j hj => ?_, rfl, rfl, fun d h => ?_, fun _ _ => rfl, Ext.drew W, fun z => absurd (List.mem_range.2 hAn) z, fun z => absurd (List.mem_range.2 hSn) z⟩
   ·rw [getD_replicate_false]; simp [hj]
   ·obtain ⟨j, o, hj, hjr, _⟩ := h; exact absurd (List.mem_range.2 hj) hjr)
 rw [show n + (l.toArray.size - n) = l.toArray.size by omega] at HF
 exact HF
end
end Go.Proofs.Ytfecopfofkdnpaa
