/- Texts of this proof, put together: Do, OpS, Gr30, FreeE, Aid1, Val5, Used5, Val5b. -/
import Derived.Test.YtfecopfofkdnpaaL1
import Derived.Test.YtfecopfofkdnpaaS1
import Derived.Test.YtfecopfofkdnpaaS2
import Derived.Test.YtfecopfofkdnpaaS3
import Derived.Test.YtfecopfofkdnpaaS4
import Derived.Test.YtfecopfofkdnpaaS5
import Derived.Test.YtfecopfofkdnpaaS6
import Derived.Test.YtfecopfofkdnpaaS7
import Derived.Test.YtfecopfofkdnpaaS8
import Derived.Test.YtfecopfofkdnpaaS9
import Derived.Test.YtfecopfofkdnpaaS10
import Derived.Test.YtfecopfofkdnpaaS11
import Derived.Test.YtfecopfofkdnpaaS12
import Derived.Test.YtfecopfofkdnpaaS13
import Derived.Test.YtfecopfofkdnpaaS14
import Derived.Test.YtfecopfofkdnpaaS15
import Derived.Test.YtfecopfofkdnpaaS16
import Derived.Test.YtfecopfofkdnpaaS17
import Derived.Test.YtfecopfofkdnpaaS18
import Derived.Test.YtfecopfofkdnpaaS19
import Derived.Test.YtfecopfofkdnpaaS20
import Derived.Test.YtfecopfofkdnpaaS21
import Derived.Test.YtfecopfofkdnpaaS22
import Derived.Test.YtfecopfofkdnpaaS23
import Derived.Test.YtfecopfofkdnpaaS24
import Derived.Test.YtfecopfofkdnpaaS25
import Derived.Test.YtfecopfofkdnpaaS26
import Derived.Test.YtfecopfofkdnpaaS27
import Derived.Test.YtfecopfofkdnpaaS28
import Derived.Test.YtfecopfofkdnpaaS29
import Derived.Test.YtfecopfofkdnpaaS30
import Derived.Test.YtfecopfofkdnpaaL2
namespace Go.Proofs.Ytfecopfofkdnpaa
open Go.RowKit
structure Stp where
 kind : Int
 now : Int
 h : Hd
 b : By
 sta : By
structure Stp.Ok (s : Stp) : Prop where
 h : s.h.Ok
 sta : s.sta.length = 6
def partsS (s : Stp) (k : s.Ok) (ad : Option Addr) (n c : Nat) : List Lf := Lf.i .i64 s.kind :: Lf.i .i64 s.now :: (partsFr s.h k.h ad n c ++ [Lf.v ⟨s.sta, k.sta⟩])
def doF (a : As) (l : List En) (s : Stp) : Rs :=
 if s.kind = 0 then handleF dA dJ dL a l s.h s.b s.now else if s.kind = 1 then tickF a l s.now else if s.kind = 2 then removeF a l s.sta else if s.kind = 3 then ((admitF a l s.sta s.now).1, [], (admitF a l s.sta s.now).2.2) else ([], [], 2)
theorem aN_len {a : As} (ha : a.own.length = 6) (r : Rs) : (if r.2.2 = 0 then a else as0).own.length = 6 := by split; exact ha; rfl
theorem hanG {a : As} {r : Rs} {w w' : World} {e : Ending} (ha : a.own.length = 6) (h : HanR a r w e w') : ∃ (aN : As) (hN : aN.own.length = 6) (ad : Option Addr) (n c : Nat) (v : Value) (E : Int), aN = (if r.2.2 = 0 then a else as0) ∧ E = r.2.2 ∧ e = .returned (.tuple #[.agg (cat (partsA aN hN ad n c)).toArray, v, .int .i64 E]) ∧ OwE w.heap.size w' (.slice ad n c) r.1 ∧ FrS w.heap.size r.2.1 v w' ∧ Ext w w' := by
 obtain ⟨ad, n, c, v, h1, h2, h3, h4⟩ := h
 exact ⟨_, aN_len ha r, ad, n, c, v, _, rfl, rfl, by rw [h1, cat_A _ (aN_len ha r)], h2, h3, h4⟩
theorem admG {a : As} {r : Rs} {w w' : World} {e : Ending} (ha : a.own.length = 6) (h : AdmR a r w e w') : ∃ (aN : As) (hN : aN.own.length = 6) (ad : Option Addr) (n c : Nat) (E : Int), aN = (if r.2.2 = 0 then a else as0) ∧ E = r.2.2 ∧ e = .returned (.tuple #[.agg (cat (partsA aN hN ad n c)).toArray, .int .i64 E]) ∧ OwE w.heap.size w' (.slice ad n c) r.1 ∧ Ext w w' := by
 obtain ⟨ad, n, c, h1, h2, h3⟩ := h
 exact ⟨_, aN_len ha r, ad, n, c, _, rfl, rfl, by rw [h1, cat_A _ (aN_len ha r)], h2, h3⟩
theorem hanR_of {a : As} {r : Rs} {w w' : World} {aN : As} {hN : aN.own.length = 6} {ad : Option Addr} {n c : Nat} {v : Value} {E : Int} (h1 : aN = (if r.2.2 = 0 then a else as0)) (h2 : E = r.2.2) (ho : OwE w.heap.size w' (.slice ad n c) r.1) (hf : FrS w.heap.size r.2.1 v w') (hx : Ext w w') : HanR a r w (.returned (.tuple #[.agg (cat (partsA aN hN ad n c)).toArray, v, .int .i64 E])) w' := by
 subst h1 h2
 exact ⟨ad, n, c, v, by rw [cat_A _ hN], ho, hf, hx⟩
set_option maxRecDepth 4000 in
set_option maxHeartbeats 1600000 in
theorem do_any (a : As) (ha : a.own.length = 6) (l : List En) (hl : L6 l) (hn : l.length ≤ 100000) (ad : Option Addr) (n c : Nat) (s : Stp) (ok : s.Ok) (fa : Option Addr) (fn fc : Nat) (hfn : fn ≤ 100000) (hfc : fn ≤ fc) (w : World) (hs : SlT 11 cellsE w (.slice ad n c) l) (hb : SlB w (.slice fa fn fc) s.b) :
  Calls Try.prog 25 #[.agg (cat (partsA a ha ad n c)).toArray, .agg (cat (partsS s ok fa fn fc)).toArray] w (HanR a (doF a l s) w) := by
 have H := kp (Loc.start w)
 obtain ⟨k, now, h, b, sta⟩ := s
 have HOKH := kp ok
 by_cases k0 : k = 0
 ·subst k0
  have HC := kp (fun w' (hx : Ext w w') => handle_any a ha (.slice ad n c) l hl hn h ok.h fa fn fc b hfn hfc now w' (hs.ext hx) (hb.ext hx))
  rw [cat_A a ha, show cellsF h (.slice fa fn fc) = cat (partsFr h ok.h fa fn fc) from cat_Fr h ok.h fa fn fc] at HC
  have HD := kp (show doF a l ⟨0, now, h, b, sta⟩ = handleF dA dJ dL a l h b now from rfl)
  rw [HD.out]
  generalize handleF dA dJ dL a l h b now = r at *
  clear hs hb hn hl HD
  go_enter Try.func25, Try.ntmps25
  go_wp2_with (first | ((with_reducible refine isBx 2 26 ?_); (refine L_box H rfl 26 _ rfl (cat (partsA a ha ad n c)) rfl ?_); clear H; intro g2 w2 HGg2 HEg2 H; simp only [pA]) | ((with_reducible refine isBx 3 65 ?_); (refine L_box H rfl 65 _ rfl (cat (partsS ⟨0, now, h, b, sta⟩ HOKH.out fa fn fc)) rfl ?_); clear H; intro g3 w3 HGg3 HEg3 H; simp only [pA]) | ((with_reducible refine isAl 4 26 ?_); (refine L_alloc H rfl 26 rfl (cat (partsA as0 rfl none 0 0)) (fun _ _ => by kernel_rfl) ?_); clear H; intro g4 w4 HGg4 HEg4 H; simp only [pA]) | ((with_reducible refine isLd 26 ?_); (first | (refine L_fa H rfl 26 _ rfl 0 rfl rfl Try.underlying26 rfl (by kernel_rfl) ?_) | (refine L_fa H rfl 26 _ rfl 1 rfl rfl Try.underlying26 rfl (by kernel_rfl) ?_) | (refine L_fa H rfl 26 _ rfl 2 rfl rfl Try.underlying26 rfl (by kernel_rfl) ?_) | (refine L_fa H rfl 26 _ rfl 3 rfl rfl Try.underlying26 rfl (by kernel_rfl) ?_) | (refine L_fa H rfl 26 _ rfl 4 rfl rfl Try.underlying26 rfl (by kernel_rfl) ?_) | (refine L_fa H rfl 26 _ rfl 5 rfl rfl Try.underlying26 rfl (by kernel_rfl) ?_)); simp only [pA]) | ((with_reducible refine isLd 31 ?_); (first | (refine L_fg H rfl 31 _ rfl 0 rfl _ rfl _ rfl (partsFr h HOKH.out.h fa fn fc) rfl Try.underlying31 rfl (by kernel_rfl) ?_) | (refine L_fg H rfl 31 _ rfl 1 rfl _ rfl _ rfl (partsFr h HOKH.out.h fa fn fc) rfl Try.underlying31 rfl (by kernel_rfl) ?_) | (refine L_fg H rfl 31 _ rfl 2 rfl _ rfl _ rfl (partsFr h HOKH.out.h fa fn fc) rfl Try.underlying31 rfl (by kernel_rfl) ?_) | (refine L_fg H rfl 31 _ rfl 3 rfl _ rfl _ rfl (partsFr h HOKH.out.h fa fn fc) rfl Try.underlying31 rfl (by kernel_rfl) ?_) | (refine L_fg H rfl 31 _ rfl 4 rfl _ rfl _ rfl (partsFr h HOKH.out.h fa fn fc) rfl Try.underlying31 rfl (by kernel_rfl) ?_) | (refine L_fg H rfl 31 _ rfl 5 rfl _ rfl _ rfl (partsFr h HOKH.out.h fa fn fc) rfl Try.underlying31 rfl (by kernel_rfl) ?_)); simp only [pA]) | ((with_reducible refine isLd 23 ?_); (first | (refine L_fv H rfl 23 _ rfl 0 rfl _ rfl _ rfl rfl Try.underlying23 rfl (by kernel_rfl) ?_) | (refine L_fv H rfl 23 _ rfl 1 rfl _ rfl _ rfl rfl Try.underlying23 rfl (by kernel_rfl) ?_) | (refine L_fv H rfl 23 _ rfl 2 rfl _ rfl _ rfl rfl Try.underlying23 rfl (by kernel_rfl) ?_) | (refine L_fv H rfl 23 _ rfl 3 rfl _ rfl _ rfl rfl Try.underlying23 rfl (by kernel_rfl) ?_) | (refine L_fv H rfl 23 _ rfl 4 rfl _ rfl _ rfl rfl Try.underlying23 rfl (by kernel_rfl) ?_) | (refine L_fv H rfl 23 _ rfl 5 rfl _ rfl _ rfl rfl Try.underlying23 rfl (by kernel_rfl) ?_)); simp only [pA]) | ((with_reducible refine isLd 3 ?_); (first | (refine L_f1 H rfl 3 _ rfl 0 rfl _ rfl _ rfl _ rfl Try.underlying3 rfl ?_) | (refine L_f1 H rfl 3 _ rfl 1 rfl _ rfl _ rfl _ rfl Try.underlying3 rfl ?_) | (refine L_f1 H rfl 3 _ rfl 2 rfl _ rfl _ rfl _ rfl Try.underlying3 rfl ?_) | (refine L_f1 H rfl 3 _ rfl 3 rfl _ rfl _ rfl _ rfl Try.underlying3 rfl ?_) | (refine L_f1 H rfl 3 _ rfl 4 rfl _ rfl _ rfl _ rfl Try.underlying3 rfl ?_) | (refine L_f1 H rfl 3 _ rfl 5 rfl _ rfl _ rfl _ rfl Try.underlying3 rfl ?_)); simp only [pA]) | (go_at_call 29; have HSZ := kp H.out.1.size; have HLT := kp (H.out.lt 0 rfl); have HG4 := kp (H.out.at 0 rfl); refine (HC.out _ H.out.1).mono ?_; intro e wt hrr; obtain ⟨aN, hN, ad2, n2, c2, vo, E, haN, hE, rfl, ho, hf, hx⟩ := hanG ha hrr; have HO := kp ho; have HF := kp hf; have HE := kp (And.intro haN hE); clear hrr ho hf haN hE; replace H := kp (H.out.ext hx); have HXC := kp hx; clear hx; clear HG4; have HG4 := kp (H.out.at 0 rfl)) | ((with_reducible show wpList _ _ _ (Oper.mk none (Op.store 26 _ (.tmp 18)) _ _ _ _ :: _) _ _); ((with_reducible refine isSt 26 ?_); refine L_sa H rfl rfl 26 _ _ rfl 0 rfl rfl (partsA aN hN ad2 n2 c2) rfl rfl (by kernel_rfl) ?_; clear H; intro w4b HWw4b H; simp only [szA] at H); have HG5 := kp (H.out.at 0 rfl)) | ((with_reducible show wpList _ _ _ (Oper.mk none (Op.store 26 _ (.tmp 52)) _ _ _ _ :: _) _ _); ((with_reducible refine isSt 26 ?_); refine L_sa H rfl rfl 26 _ _ rfl 0 rfl rfl (partsA aN hN ad2 n2 c2) rfl rfl (by kernel_rfl) ?_; clear H; intro w4c HWw4c H; simp only [szA] at H)))
  have HOO := kp (owns_wroteT (owns_wroteT HO.out HWw4b.out HG4.out (show 39 ≠ 26 from by decide)) HWw4c.out HG5.out (show 39 ≠ 26 from by decide))
  exact ret_f3 H Try.results25 0 rfl rfl _ _ rfl rfl Try.underlying26 rfl (by kernel_rfl) rfl (hanR_of HE.out.1 HE.out.2 (owns_weak HOO.out HSZ.out) (((HF.out.wrote HWw4b.out HLT.out).wrote HWw4c.out HLT.out).weak HSZ.out) H.out.1)
 by_cases k1 : k = 1
 ·subst k1
  have HC := kp (fun w' (hx : Ext w w') => tick_any a ha (.slice ad n c) l hl hn now w' (hs.ext hx))
  rw [cat_A a ha] at HC
  clear k0
  have HD := kp (show doF a l ⟨1, now, h, b, sta⟩ = tickF a l now from rfl)
  rw [HD.out]
  generalize tickF a l now = r at *
  clear hs hb hn hl HD
  go_enter Try.func25, Try.ntmps25
  go_wp2_with (first | ((with_reducible refine isBx 2 26 ?_); (refine L_box H rfl 26 _ rfl (cat (partsA a ha ad n c)) rfl ?_); clear H; intro g2 w2 HGg2 HEg2 H; simp only [pA]) | ((with_reducible refine isBx 3 65 ?_); (refine L_box H rfl 65 _ rfl (cat (partsS ⟨1, now, h, b, sta⟩ HOKH.out fa fn fc)) rfl ?_); clear H; intro g3 w3 HGg3 HEg3 H; simp only [pA]) | ((with_reducible refine isAl 4 26 ?_); (refine L_alloc H rfl 26 rfl (cat (partsA as0 rfl none 0 0)) (fun _ _ => by kernel_rfl) ?_); clear H; intro g4 w4 HGg4 HEg4 H; simp only [pA]) | ((with_reducible refine isLd 26 ?_); (first | (refine L_fa H rfl 26 _ rfl 0 rfl rfl Try.underlying26 rfl (by kernel_rfl) ?_) | (refine L_fa H rfl 26 _ rfl 1 rfl rfl Try.underlying26 rfl (by kernel_rfl) ?_) | (refine L_fa H rfl 26 _ rfl 2 rfl rfl Try.underlying26 rfl (by kernel_rfl) ?_) | (refine L_fa H rfl 26 _ rfl 3 rfl rfl Try.underlying26 rfl (by kernel_rfl) ?_) | (refine L_fa H rfl 26 _ rfl 4 rfl rfl Try.underlying26 rfl (by kernel_rfl) ?_) | (refine L_fa H rfl 26 _ rfl 5 rfl rfl Try.underlying26 rfl (by kernel_rfl) ?_)); simp only [pA]) | ((with_reducible refine isLd 31 ?_); (first | (refine L_fg H rfl 31 _ rfl 0 rfl _ rfl _ rfl (partsFr h HOKH.out.h fa fn fc) rfl Try.underlying31 rfl (by kernel_rfl) ?_) | (refine L_fg H rfl 31 _ rfl 1 rfl _ rfl _ rfl (partsFr h HOKH.out.h fa fn fc) rfl Try.underlying31 rfl (by kernel_rfl) ?_) | (refine L_fg H rfl 31 _ rfl 2 rfl _ rfl _ rfl (partsFr h HOKH.out.h fa fn fc) rfl Try.underlying31 rfl (by kernel_rfl) ?_) | (refine L_fg H rfl 31 _ rfl 3 rfl _ rfl _ rfl (partsFr h HOKH.out.h fa fn fc) rfl Try.underlying31 rfl (by kernel_rfl) ?_) | (refine L_fg H rfl 31 _ rfl 4 rfl _ rfl _ rfl (partsFr h HOKH.out.h fa fn fc) rfl Try.underlying31 rfl (by kernel_rfl) ?_) | (refine L_fg H rfl 31 _ rfl 5 rfl _ rfl _ rfl (partsFr h HOKH.out.h fa fn fc) rfl Try.underlying31 rfl (by kernel_rfl) ?_)); simp only [pA]) | ((with_reducible refine isLd 23 ?_); (first | (refine L_fv H rfl 23 _ rfl 0 rfl _ rfl _ rfl rfl Try.underlying23 rfl (by kernel_rfl) ?_) | (refine L_fv H rfl 23 _ rfl 1 rfl _ rfl _ rfl rfl Try.underlying23 rfl (by kernel_rfl) ?_) | (refine L_fv H rfl 23 _ rfl 2 rfl _ rfl _ rfl rfl Try.underlying23 rfl (by kernel_rfl) ?_) | (refine L_fv H rfl 23 _ rfl 3 rfl _ rfl _ rfl rfl Try.underlying23 rfl (by kernel_rfl) ?_) | (refine L_fv H rfl 23 _ rfl 4 rfl _ rfl _ rfl rfl Try.underlying23 rfl (by kernel_rfl) ?_) | (refine L_fv H rfl 23 _ rfl 5 rfl _ rfl _ rfl rfl Try.underlying23 rfl (by kernel_rfl) ?_)); simp only [pA]) | ((with_reducible refine isLd 3 ?_); (first | (refine L_f1 H rfl 3 _ rfl 0 rfl _ rfl _ rfl _ rfl Try.underlying3 rfl ?_) | (refine L_f1 H rfl 3 _ rfl 1 rfl _ rfl _ rfl _ rfl Try.underlying3 rfl ?_) | (refine L_f1 H rfl 3 _ rfl 2 rfl _ rfl _ rfl _ rfl Try.underlying3 rfl ?_) | (refine L_f1 H rfl 3 _ rfl 3 rfl _ rfl _ rfl _ rfl Try.underlying3 rfl ?_) | (refine L_f1 H rfl 3 _ rfl 4 rfl _ rfl _ rfl _ rfl Try.underlying3 rfl ?_) | (refine L_f1 H rfl 3 _ rfl 5 rfl _ rfl _ rfl _ rfl Try.underlying3 rfl ?_)); simp only [pA]) | (go_at_call 22; have HSZ := kp H.out.1.size; have HLT := kp (H.out.lt 0 rfl); have HG4 := kp (H.out.at 0 rfl); refine (HC.out _ H.out.1).mono ?_; intro e wt hrr; obtain ⟨aN, hN, ad2, n2, c2, vo, E, haN, hE, rfl, ho, hf, hx⟩ := hanG ha hrr; have HO := kp ho; have HF := kp hf; have HE := kp (And.intro haN hE); clear hrr ho hf haN hE; replace H := kp (H.out.ext hx); have HXC := kp hx; clear hx; clear HG4; have HG4 := kp (H.out.at 0 rfl)) | ((with_reducible show wpList _ _ _ (Oper.mk none (Op.store 26 _ (.tmp 28)) _ _ _ _ :: _) _ _); ((with_reducible refine isSt 26 ?_); refine L_sa H rfl rfl 26 _ _ rfl 0 rfl rfl (partsA aN hN ad2 n2 c2) rfl rfl (by kernel_rfl) ?_; clear H; intro w4b HWw4b H; simp only [szA] at H); have HG5 := kp (H.out.at 0 rfl)) | ((with_reducible show wpList _ _ _ (Oper.mk none (Op.store 26 _ (.tmp 52)) _ _ _ _ :: _) _ _); ((with_reducible refine isSt 26 ?_); refine L_sa H rfl rfl 26 _ _ rfl 0 rfl rfl (partsA aN hN ad2 n2 c2) rfl rfl (by kernel_rfl) ?_; clear H; intro w4c HWw4c H; simp only [szA] at H)))
  have HOO := kp (owns_wroteT (owns_wroteT HO.out HWw4b.out HG4.out (show 39 ≠ 26 from by decide)) HWw4c.out HG5.out (show 39 ≠ 26 from by decide))
  exact ret_f3 H Try.results25 0 rfl rfl _ _ rfl rfl Try.underlying26 rfl (by kernel_rfl) rfl (hanR_of HE.out.1 HE.out.2 (owns_weak HOO.out HSZ.out) (((HF.out.wrote HWw4b.out HLT.out).wrote HWw4c.out HLT.out).weak HSZ.out) H.out.1)
 by_cases k2 : k = 2
 ·subst k2
  have HC := kp (fun w' (hx : Ext w w') => remove_any a ha (.slice ad n c) l hl hn sta ok.sta w' (hs.ext hx))
  rw [cat_A a ha] at HC
  clear k0 k1
  have HD := kp (show doF a l ⟨2, now, h, b, sta⟩ = removeF a l sta from rfl)
  rw [HD.out]
  generalize removeF a l sta = r at *
  clear hs hb hn hl HD
  go_enter Try.func25, Try.ntmps25
  go_wp2_with (first | ((with_reducible refine isBx 2 26 ?_); (refine L_box H rfl 26 _ rfl (cat (partsA a ha ad n c)) rfl ?_); clear H; intro g2 w2 HGg2 HEg2 H; simp only [pA]) | ((with_reducible refine isBx 3 65 ?_); (refine L_box H rfl 65 _ rfl (cat (partsS ⟨2, now, h, b, sta⟩ HOKH.out fa fn fc)) rfl ?_); clear H; intro g3 w3 HGg3 HEg3 H; simp only [pA]) | ((with_reducible refine isAl 4 26 ?_); (refine L_alloc H rfl 26 rfl (cat (partsA as0 rfl none 0 0)) (fun _ _ => by kernel_rfl) ?_); clear H; intro g4 w4 HGg4 HEg4 H; simp only [pA]) | ((with_reducible refine isLd 26 ?_); (first | (refine L_fa H rfl 26 _ rfl 0 rfl rfl Try.underlying26 rfl (by kernel_rfl) ?_) | (refine L_fa H rfl 26 _ rfl 1 rfl rfl Try.underlying26 rfl (by kernel_rfl) ?_) | (refine L_fa H rfl 26 _ rfl 2 rfl rfl Try.underlying26 rfl (by kernel_rfl) ?_) | (refine L_fa H rfl 26 _ rfl 3 rfl rfl Try.underlying26 rfl (by kernel_rfl) ?_) | (refine L_fa H rfl 26 _ rfl 4 rfl rfl Try.underlying26 rfl (by kernel_rfl) ?_) | (refine L_fa H rfl 26 _ rfl 5 rfl rfl Try.underlying26 rfl (by kernel_rfl) ?_)); simp only [pA]) | ((with_reducible refine isLd 31 ?_); (first | (refine L_fg H rfl 31 _ rfl 0 rfl _ rfl _ rfl (partsFr h HOKH.out.h fa fn fc) rfl Try.underlying31 rfl (by kernel_rfl) ?_) | (refine L_fg H rfl 31 _ rfl 1 rfl _ rfl _ rfl (partsFr h HOKH.out.h fa fn fc) rfl Try.underlying31 rfl (by kernel_rfl) ?_) | (refine L_fg H rfl 31 _ rfl 2 rfl _ rfl _ rfl (partsFr h HOKH.out.h fa fn fc) rfl Try.underlying31 rfl (by kernel_rfl) ?_) | (refine L_fg H rfl 31 _ rfl 3 rfl _ rfl _ rfl (partsFr h HOKH.out.h fa fn fc) rfl Try.underlying31 rfl (by kernel_rfl) ?_) | (refine L_fg H rfl 31 _ rfl 4 rfl _ rfl _ rfl (partsFr h HOKH.out.h fa fn fc) rfl Try.underlying31 rfl (by kernel_rfl) ?_) | (refine L_fg H rfl 31 _ rfl 5 rfl _ rfl _ rfl (partsFr h HOKH.out.h fa fn fc) rfl Try.underlying31 rfl (by kernel_rfl) ?_)); simp only [pA]) | ((with_reducible refine isLd 23 ?_); (first | (refine L_fv H rfl 23 _ rfl 0 rfl _ rfl _ rfl rfl Try.underlying23 rfl (by kernel_rfl) ?_) | (refine L_fv H rfl 23 _ rfl 1 rfl _ rfl _ rfl rfl Try.underlying23 rfl (by kernel_rfl) ?_) | (refine L_fv H rfl 23 _ rfl 2 rfl _ rfl _ rfl rfl Try.underlying23 rfl (by kernel_rfl) ?_) | (refine L_fv H rfl 23 _ rfl 3 rfl _ rfl _ rfl rfl Try.underlying23 rfl (by kernel_rfl) ?_) | (refine L_fv H rfl 23 _ rfl 4 rfl _ rfl _ rfl rfl Try.underlying23 rfl (by kernel_rfl) ?_) | (refine L_fv H rfl 23 _ rfl 5 rfl _ rfl _ rfl rfl Try.underlying23 rfl (by kernel_rfl) ?_)); simp only [pA]) | ((with_reducible refine isLd 3 ?_); (first | (refine L_f1 H rfl 3 _ rfl 0 rfl _ rfl _ rfl _ rfl Try.underlying3 rfl ?_) | (refine L_f1 H rfl 3 _ rfl 1 rfl _ rfl _ rfl _ rfl Try.underlying3 rfl ?_) | (refine L_f1 H rfl 3 _ rfl 2 rfl _ rfl _ rfl _ rfl Try.underlying3 rfl ?_) | (refine L_f1 H rfl 3 _ rfl 3 rfl _ rfl _ rfl _ rfl Try.underlying3 rfl ?_) | (refine L_f1 H rfl 3 _ rfl 4 rfl _ rfl _ rfl _ rfl Try.underlying3 rfl ?_) | (refine L_f1 H rfl 3 _ rfl 5 rfl _ rfl _ rfl _ rfl Try.underlying3 rfl ?_)); simp only [pA]) | (go_at_call 39; have HSZ := kp H.out.1.size; have HLT := kp (H.out.lt 0 rfl); have HG4 := kp (H.out.at 0 rfl); refine (HC.out _ H.out.1).mono ?_; intro e wt hrr; obtain ⟨aN, hN, ad2, n2, c2, vo, E, haN, hE, rfl, ho, hf, hx⟩ := hanG ha hrr; have HO := kp ho; have HF := kp hf; have HE := kp (And.intro haN hE); clear hrr ho hf haN hE; replace H := kp (H.out.ext hx); have HXC := kp hx; clear hx; clear HG4; have HG4 := kp (H.out.at 0 rfl)) | ((with_reducible show wpList _ _ _ (Oper.mk none (Op.store 26 _ (.tmp 38)) _ _ _ _ :: _) _ _); ((with_reducible refine isSt 26 ?_); refine L_sa H rfl rfl 26 _ _ rfl 0 rfl rfl (partsA aN hN ad2 n2 c2) rfl rfl (by kernel_rfl) ?_; clear H; intro w4b HWw4b H; simp only [szA] at H); have HG5 := kp (H.out.at 0 rfl)) | ((with_reducible show wpList _ _ _ (Oper.mk none (Op.store 26 _ (.tmp 52)) _ _ _ _ :: _) _ _); ((with_reducible refine isSt 26 ?_); refine L_sa H rfl rfl 26 _ _ rfl 0 rfl rfl (partsA aN hN ad2 n2 c2) rfl rfl (by kernel_rfl) ?_; clear H; intro w4c HWw4c H; simp only [szA] at H)))
  have HOO := kp (owns_wroteT (owns_wroteT HO.out HWw4b.out HG4.out (show 39 ≠ 26 from by decide)) HWw4c.out HG5.out (show 39 ≠ 26 from by decide))
  exact ret_f3 H Try.results25 0 rfl rfl _ _ rfl rfl Try.underlying26 rfl (by kernel_rfl) rfl (hanR_of HE.out.1 HE.out.2 (owns_weak HOO.out HSZ.out) (((HF.out.wrote HWw4b.out HLT.out).wrote HWw4c.out HLT.out).weak HSZ.out) H.out.1)
 by_cases k3 : k = 3
 ·subst k3
  have HD := kp (show doF a l ⟨3, now, h, b, sta⟩ = ((admitF a l sta now).1, [], (admitF a l sta now).2.2) from rfl)
  rw [HD.out]
  have HC := kp (fun w' (hx : Ext w w') => admit_any a ha (.slice ad n c) l hl hn sta ok.sta now w' (hs.ext hx))
  rw [cat_A a ha] at HC
  generalize admitF a l sta now = r at *
  clear hs hb hn hl HD k0 k1 k2
  go_enter Try.func25, Try.ntmps25
  go_wp2_with (first | ((with_reducible refine isBx 2 26 ?_); (refine L_box H rfl 26 _ rfl (cat (partsA a ha ad n c)) rfl ?_); clear H; intro g2 w2 HGg2 HEg2 H; simp only [pA]) | ((with_reducible refine isBx 3 65 ?_); (refine L_box H rfl 65 _ rfl (cat (partsS ⟨3, now, h, b, sta⟩ HOKH.out fa fn fc)) rfl ?_); clear H; intro g3 w3 HGg3 HEg3 H; simp only [pA]) | ((with_reducible refine isAl 4 26 ?_); (refine L_alloc H rfl 26 rfl (cat (partsA as0 rfl none 0 0)) (fun _ _ => by kernel_rfl) ?_); clear H; intro g4 w4 HGg4 HEg4 H; simp only [pA]) | ((with_reducible refine isLd 26 ?_); (first | (refine L_fa H rfl 26 _ rfl 0 rfl rfl Try.underlying26 rfl (by kernel_rfl) ?_) | (refine L_fa H rfl 26 _ rfl 1 rfl rfl Try.underlying26 rfl (by kernel_rfl) ?_) | (refine L_fa H rfl 26 _ rfl 2 rfl rfl Try.underlying26 rfl (by kernel_rfl) ?_) | (refine L_fa H rfl 26 _ rfl 3 rfl rfl Try.underlying26 rfl (by kernel_rfl) ?_) | (refine L_fa H rfl 26 _ rfl 4 rfl rfl Try.underlying26 rfl (by kernel_rfl) ?_) | (refine L_fa H rfl 26 _ rfl 5 rfl rfl Try.underlying26 rfl (by kernel_rfl) ?_)); simp only [pA]) | ((with_reducible refine isLd 23 ?_); (first | (refine L_fv H rfl 23 _ rfl 0 rfl _ rfl _ rfl rfl Try.underlying23 rfl (by kernel_rfl) ?_) | (refine L_fv H rfl 23 _ rfl 1 rfl _ rfl _ rfl rfl Try.underlying23 rfl (by kernel_rfl) ?_) | (refine L_fv H rfl 23 _ rfl 2 rfl _ rfl _ rfl rfl Try.underlying23 rfl (by kernel_rfl) ?_) | (refine L_fv H rfl 23 _ rfl 3 rfl _ rfl _ rfl rfl Try.underlying23 rfl (by kernel_rfl) ?_) | (refine L_fv H rfl 23 _ rfl 4 rfl _ rfl _ rfl rfl Try.underlying23 rfl (by kernel_rfl) ?_) | (refine L_fv H rfl 23 _ rfl 5 rfl _ rfl _ rfl rfl Try.underlying23 rfl (by kernel_rfl) ?_)); simp only [pA]) | ((with_reducible refine isLd 3 ?_); (first | (refine L_f1 H rfl 3 _ rfl 0 rfl _ rfl _ rfl _ rfl Try.underlying3 rfl ?_) | (refine L_f1 H rfl 3 _ rfl 1 rfl _ rfl _ rfl _ rfl Try.underlying3 rfl ?_) | (refine L_f1 H rfl 3 _ rfl 2 rfl _ rfl _ rfl _ rfl Try.underlying3 rfl ?_) | (refine L_f1 H rfl 3 _ rfl 3 rfl _ rfl _ rfl _ rfl Try.underlying3 rfl ?_) | (refine L_f1 H rfl 3 _ rfl 4 rfl _ rfl _ rfl _ rfl Try.underlying3 rfl ?_) | (refine L_f1 H rfl 3 _ rfl 5 rfl _ rfl _ rfl _ rfl Try.underlying3 rfl ?_)); simp only [pA]) | (go_at_call 31; have HSZ := kp H.out.1.size; have HLT := kp (H.out.lt 0 rfl); have HG4 := kp (H.out.at 0 rfl); refine (HC.out _ H.out.1).mono ?_; intro e wt hrr; obtain ⟨aN, hN, ad2, n2, c2, E, haN, hE, rfl, ho, hx⟩ := admG ha hrr; have HO := kp ho; have HE := kp (And.intro haN hE); clear hrr ho haN hE; replace H := kp (H.out.ext hx); have HXC := kp hx; clear hx; clear HG4; have HG4 := kp (H.out.at 0 rfl)) | ((with_reducible show wpList _ _ _ (Oper.mk none (Op.store 26 _ (.tmp 50)) _ _ _ _ :: _) _ _); ((with_reducible refine isSt 26 ?_); refine L_sa H rfl rfl 26 _ _ rfl 0 rfl rfl (partsA aN hN ad2 n2 c2) rfl rfl (by kernel_rfl) ?_; clear H; intro w4b HWw4b H; simp only [szA] at H); have HG5 := kp (H.out.at 0 rfl)) | ((with_reducible show wpList _ _ _ (Oper.mk none (Op.store 26 _ (.tmp 52)) _ _ _ _ :: _) _ _); ((with_reducible refine isSt 26 ?_); refine L_sa H rfl rfl 26 _ _ rfl 0 rfl rfl (partsA aN hN ad2 n2 c2) rfl rfl (by kernel_rfl) ?_; clear H; intro w4c HWw4c H; simp only [szA] at H)))
  have HOO := kp (owns_wroteT (owns_wroteT HO.out HWw4b.out HG4.out (show 39 ≠ 26 from by decide)) HWw4c.out HG5.out (show 39 ≠ 26 from by decide))
  exact ret_f3 H Try.results25 0 rfl rfl _ _ rfl rfl Try.underlying26 rfl (by kernel_rfl) rfl (hanR_of (r := (r.1, [], r.2.2)) HE.out.1 HE.out.2 (owns_weak HOO.out HSZ.out) (FrS.nil _ _) H.out.1)
 ·have HD := kp (show doF a l ⟨k, now, h, b, sta⟩ = ([], [], 2) by unfold doF; rw [if_neg k0, if_neg k1, if_neg k2, if_neg k3])
  rw [HD.out]
  clear hs hb hn hl HD
  go_enter Try.func25, Try.ntmps25
  go_wp2_with (first | ((with_reducible refine isBx 2 26 ?_); (refine L_box H rfl 26 _ rfl (cat (partsA a ha ad n c)) rfl ?_); clear H; intro g2 w2 HGg2 HEg2 H; simp only [pA]) | ((with_reducible refine isBx 3 65 ?_); (refine L_box H rfl 65 _ rfl (cat (partsS ⟨k, now, h, b, sta⟩ HOKH.out fa fn fc)) rfl ?_); clear H; intro g3 w3 HGg3 HEg3 H; simp only [pA]) | ((with_reducible refine isAl 4 26 ?_); (refine L_alloc H rfl 26 rfl (cat (partsA as0 rfl none 0 0)) (fun _ _ => by kernel_rfl) ?_); clear H; intro g4 w4 HGg4 HEg4 H; simp only [pA]) | ((with_reducible refine isLd 26 ?_); (first | (refine L_fa H rfl 26 _ rfl 0 rfl rfl Try.underlying26 rfl (by kernel_rfl) ?_) | (refine L_fa H rfl 26 _ rfl 1 rfl rfl Try.underlying26 rfl (by kernel_rfl) ?_) | (refine L_fa H rfl 26 _ rfl 2 rfl rfl Try.underlying26 rfl (by kernel_rfl) ?_) | (refine L_fa H rfl 26 _ rfl 3 rfl rfl Try.underlying26 rfl (by kernel_rfl) ?_) | (refine L_fa H rfl 26 _ rfl 4 rfl rfl Try.underlying26 rfl (by kernel_rfl) ?_) | (refine L_fa H rfl 26 _ rfl 5 rfl rfl Try.underlying26 rfl (by kernel_rfl) ?_)); simp only [pA]) | ((with_reducible refine isLd 3 ?_); (first | (refine L_f1 H rfl 3 _ rfl 0 rfl _ rfl _ rfl _ rfl Try.underlying3 rfl ?_) | (refine L_f1 H rfl 3 _ rfl 1 rfl _ rfl _ rfl _ rfl Try.underlying3 rfl ?_) | (refine L_f1 H rfl 3 _ rfl 2 rfl _ rfl _ rfl _ rfl Try.underlying3 rfl ?_) | (refine L_f1 H rfl 3 _ rfl 3 rfl _ rfl _ rfl _ rfl Try.underlying3 rfl ?_) | (refine L_f1 H rfl 3 _ rfl 4 rfl _ rfl _ rfl _ rfl Try.underlying3 rfl ?_) | (refine L_f1 H rfl 3 _ rfl 5 rfl _ rfl _ rfl _ rfl Try.underlying3 rfl ?_)); simp only [pA]) | ((with_reducible show wpList _ _ _ (Oper.mk none (Op.store 26 _ (.tmp 52)) _ _ _ _ :: _) _ _); ((with_reducible refine isSt 26 ?_); refine L_sa H rfl rfl 26 _ _ rfl 0 rfl rfl (partsA as0 rfl none 0 0) rfl rfl (by kernel_rfl) ?_; clear H; intro w4c HWw4c H; simp only [szA] at H)))
  exact ret_f3 H Try.results25 0 rfl rfl _ _ rfl rfl Try.underlying26 rfl (by kernel_rfl) rfl (hanR_err rfl (by decide) H.out.1)
end Go.Proofs.Ytfecopfofkdnpaa
namespace Go.Proofs.Ytfecopfofkdnpaa
open Go.RowKit Go.WideShapes
abbrev SI := Stp × Option Addr × Nat
def cellsSI (x : SI) : List Value := .int .i64 x.1.kind :: .int .i64 x.1.now :: (cellsF x.1.h (.slice x.2.1 x.1.b.length x.2.2) ++ x.1.sta.map V8)
structure SIOk (w : World) (x : SI) : Prop where
 ok : x.1.Ok
 le : x.1.b.length ≤ x.2.2
 b : SlB w (.slice x.2.1 x.1.b.length x.2.2) x.1.b
theorem cat_SI (x : SI) (ok : x.1.Ok) : cellsSI x = cat (partsS x.1 ok x.2.1 x.1.b.length x.2.2) := by
 unfold cellsSI partsS
 rw [cat_cons, cat_cons, cat_append, ← cat_Fr]
 simp [cellsF, cat]
section
variable {H : Type} {enc : TypeId × Value → H} {w : World} {base : Nat} {cs : List Value}
theorem Tr.step (h : Tr enc Try.prog w base 65 cs) : ∃ x : SI, SIOk w x ∧ cs = cellsSI x := by
 have hl := h.len Try.underlying65 49 (by kernel_rfl)
 obtain ⟨k, h0, _⟩ := (h.field Try.underlying65 0 3 0 1 rfl (by kernel_rfl)).int Try.underlying3
 obtain ⟨n, h1, _⟩ := (h.field Try.underlying65 1 3 1 1 rfl (by kernel_rfl)).int Try.underlying3
 obtain ⟨x, ad, cap, l, hx, q1, q2, q3, q4, h2⟩ := Tr.frame (h.field Try.underlying65 2 31 2 41 rfl (by kernel_rfl))
 obtain ⟨a, la, h3⟩ := Tr.addr (h.field Try.underlying65 3 23 43 6 rfl (by kernel_rfl))
 refine ⟨(⟨k, n, x, l, a⟩, ad, cap), ⟨⟨hx, la⟩, q1, q4⟩, ?_⟩
 have hend : cs.drop 49 = [] := List.drop_eq_nil_of_le (by omega)
 rw [show cs = cs.drop 0 from rfl, peel h0, peel h1, peel h2, peel h3]
 simp only [Nat.reduceAdd, hend, List.append_nil, cellsSI, List.cons_append, List.nil_append]
theorem Tr.steps (h : Tr enc Try.prog w base 61 cs) : ∃ (v : Value) (es : List SI), cs = [v] ∧ SlT 49 cellsSI w v es ∧ (∀ e ∈ es, SIOk w e) ∧ es.length ≤ 9223372036854775807 := by
 obtain ⟨a, ln, cp, h1, h2, h3, h4, h5⟩ := h.slice Try.underlying61 (by rw [show Try.prog.cellsOf 65 = 49 by kernel_rfl]; decide)
 simp only [show Try.prog.cellsOf 65 = 49 by kernel_rfl] at h5
 have key : ∀ k, k ≤ ln → ∃ l : List SI, l.length = k ∧ (∀ q ∈ l, SIOk w q) ∧ ∀ (j : Nat) q, l[j]? = some q → ∃ b off, a = some ⟨b, off, none⟩ ∧ b < w.heap.size ∧ w.rangeAt b (off + j * 49) (cellsSI q) := by
  intro k
  induction k with
  | zero => intro _; exact ⟨[], rfl, fun q hq => (by cases hq), fun j x hj => by simp at hj⟩
  | succ k ih =>
   intro hk
   obtain ⟨l, hl, h16, hL⟩ := ih (by omega)
   obtain ⟨b, off, es, ha, hb, hel, ht, hr⟩ := h5 k (by omega)
   obtain ⟨q, hq16, rfl⟩ := ht.step
   refine ⟨l ++ [q], by simp [hl], fun x hx => by rcases List.mem_append.1 hx with hx | hx; exact h16 x hx; simp only [List.mem_singleton] at hx; rw [hx]; exact hq16, fun j y hy => ?_⟩
   by_cases hj : j < l.length
   ·rw [List.getElem?_append_left hj] at hy; exact hL j y hy
   ·rw [List.getElem?_append_right (by omega)] at hy
    have hj0 : j - l.length = 0 := by
     have := (List.getElem?_eq_some_iff.1 hy).1
     simp at this; omega
    rw [hj0] at hy
    have : q = y := Option.some.inj hy
    subst this
    obtain rfl : j = k := by omega
    exact ⟨b, off, ha, hb, hr⟩
 obtain ⟨l, hl, h16, hL⟩ := key ln (Nat.le_refl _)
 exact ⟨_, l, h1, ⟨a, ln, cp, rfl, hl.symm, h2, hL⟩, h16, by unfold maxLen at h3; omega⟩
end
set_option maxRecDepth 10000 in
theorem open_steps {H : Type} {enc : TypeId × Value → H} {w : World} {r : Reach} {b0 base : Nat} {v : Value} {d : DataW H} {p : List MemPlace}
  (hv : Value.okWide Try.prog w r b0 61 v) (h : DataW.Trod enc Try.prog w base (fun _ => true) true 61 v d p) : ∃ xs : List SI, (SlT 49 cellsSI w v xs ∧ ∀ x ∈ xs, SIOk w x) ∧ xs.length ≤ 9223372036854775807 := by
 obtain ⟨a, n, c, rfl⟩ := okWide_slice Try.underlying61 hv
 obtain ⟨u, xs, e, h1, hk, h2⟩ := (Tr.of h).steps
 obtain rfl : Value.slice a n c = u := by simpa [Value.cells] using e
 exact ⟨xs, ⟨h1, hk⟩, h2⟩
theorem range_group {w : World} {b o : Nat} {ps qs : List Lf} (h : w.rangeAt b o (cat ps)) {off i : Nat} (hf : fat ps off = some i) (hp : (ps.drop i).take qs.length = qs) : w.rangeAt b (o + off) (cat qs) := by
 intro j v hv
 have h1 := cat_group hf hp
 have hj := (List.getElem?_eq_some_iff.1 hv).1
 rw [← h1, List.getElem?_take, if_pos hj, List.getElem?_drop] at hv
 have := h (off + j) v hv
 rw [show o + off + j = o + (off + j) by omega]
 exact this
def bigS (x : SI) : Bool := decide (2400 < x.1.b.length)
def greatS (l : List SI) : Bool := decide (200 < l.length) || l.any bigS
def GrR (l : List SI) (w : World) (vs : Tmp → Value) (wr : World) : Prop := ∃ j : Nat, j ≤ l.length ∧ vs 3 = .int .i64 j ∧ (l.take j).any bigS = false ∧ Kp (Loc w wr [])
set_option maxRecDepth 4000 in
set_option maxHeartbeats 1600000 in
theorem great30_any (ad : Option Addr) (n c : Nat) (l : List SI) (hok : ∀ x ∈ l, x.1.Ok) (w : World) (hs : SlT 49 cellsSI w (.slice ad n c) l) :
  Calls Try.prog 24 #[.slice ad n c] w fun e w' => e = .returned (.bool (greatS l)) ∧ Ext w w' := by
 have H := kp (Loc.start w)
 have HOK := kp hok
 obtain ⟨ad', n', c', he, hnl, hcap, hat⟩ := hs
 cases he
 have HAT := kp hat; have HNL := kp hnl
 clear hat hnl hok
 by_cases h200 : n ≤ 200
 ·
  go_enter Try.func24, Try.ntmps24
  go_wp2_with fail
  refine wp_loopC (3 :: 7 :: 8 :: 9 :: 10 :: 11 :: 12 :: 13 :: 14 :: 15 :: 16 :: 17 :: 18 :: []) (GrR l w) (fun vs _ => n - (intOf (vs 3)).toNat) (by kernel_rfl) ⟨0, Nat.zero_le _, rfl, rfl, H⟩ ?_
  clear H
  rintro vs wr ⟨j, hj, q3, hno, H⟩
  simp only [putMany, List.setIfInBounds_toArray, List.set_cons_zero, List.set_cons_succ]
  rw [q3]
  clear q3
  by_cases hlt : j < n
  ·obtain ⟨x, hx⟩ : ∃ x, l[j]? = some x := ⟨l[j]'(by rw [← HNL.out]; exact hlt), by simp⟩
   obtain ⟨b, off, rfl, hb, hr⟩ := HAT.out j x hx
   have hxm := List.mem_of_getElem? hx
   have HXO := kp (HOK.out x hxm)
   have HR3 := kp (show wr.rangeAt b (off + j * 49 + 2) (cat (partsFr x.1.h HXO.out.h x.2.1 x.1.b.length x.2.2)) from range_group (ps := partsS x.1 HXO.out x.2.1 x.1.b.length x.2.2) (cat_SI x HXO.out ▸ rangeAt_ext hr hb H.out.1) (off := 2) (i := 2) rfl rfl)
   have HZX := kp (show (Try.prog.info? 31).map (·.size) = some (cat (partsFr x.1.h HXO.out.h x.2.1 x.1.b.length x.2.2)).length by rw [cat_len]; kernel_rfl)
   have HGR := kp (great5_any x.1.h HXO.out.h x.2.1 x.1.b.length x.2.2)
   rw [show cellsF x.1.h (.slice x.2.1 x.1.b.length x.2.2) = cat (partsFr x.1.h HXO.out.h x.2.1 x.1.b.length x.2.2) from cat_Fr _ _ _ _ _] at HGR
   have HBG := kp (show bigS x = decide (2400 < x.1.b.length) from rfl)
   have HTK := kp (show l.take (j + 1) = l.take j ++ [x] by rw [List.take_add_one, hx]; rfl)
   have HMM := kp hxm
   clear hb hr hx hxm
   generalize partsFr x.1.h HXO.out.h x.2.1 x.1.b.length x.2.2 = X at *
   generalize hq : decide (2400 < x.1.b.length) = q at *
   clear hq
   cases q
   ·go_wp2_with (first | ((with_reducible refine isLd 31 ?_); (refine wpList_load_midG (by kernel_rfl) 31 _ rfl (b) (off + j * 49 + 2) rfl (cat X) _ (HR3.out) Try.underlying31 rfl (HZX.out) ?_); simp only [pA]) | (go_at_call 9; refine (HGR.out _).mono ?_; rintro e wg ⟨rfl, hx⟩; replace H := kp (H.out.ext hx); have HXC := kp hx; clear hx))
    exact LoopP.of rfl (by kernel_rfl) ⟨j + 1, (by have q := HNL.out; omega), by simp, (by rw [HTK.out, List.any_append, hno]; simp [HBG.out]), H⟩ (by simp [intOf]; omega)
   ·go_wp2_with (first | ((with_reducible refine isLd 31 ?_); (refine wpList_load_midG (by kernel_rfl) 31 _ rfl (b) (off + j * 49 + 2) rfl (cat X) _ (HR3.out) Try.underlying31 rfl (HZX.out) ?_); simp only [pA]) | (go_at_call 9; refine (HGR.out _).mono ?_; rintro e wg ⟨rfl, hx⟩; replace H := kp (H.out.ext hx); have HXC := kp hx; clear hx))
    go_ret
    exact ⟨by unfold greatS; rw [List.any_eq_true.2 ⟨x, HMM.out, HBG.out⟩]; simp, H.out.1⟩
  ·obtain rfl : j = n := by have := HNL.out; omega
   have HTL := kp (show l.take j = l from List.take_of_length_le (by rw [HNL.out]; exact Nat.le_refl _))
   have HNO := kp hno
   clear hno
   go_wp2_with fail
   go_ret
   have HGF := kp (show greatS l = false by have h1 := HNO.out; rw [HTL.out] at h1; unfold greatS; rw [h1]; have := HNL.out; simp; omega)
   exact ⟨by rw [HGF.out]; rfl, H.out.1⟩
 ·have h201 : (200:Int) < n := by omega
  clear h200
  go_enter Try.func24, Try.ntmps24
  go_wp2_with fail
  go_ret
  have HGF := kp (show greatS l = true by unfold greatS; have := HNL.out; simp; omega)
  exact ⟨by rw [HGF.out]; rfl, H.out.1⟩
def TrE (T B : Nat) (w w' : World) : Prop := Ext w w' ∨ ∃ g cs ds, B ≤ g ∧ Lc w g T cs ∧ w' = w.setRow g (ds : List Value).toArray
section
variable {P : Program} {ops : Array Oper}
structure InvE (ops : Array Oper) (S : Tmp → Value → World → Prop) (iA iS dA dV T : Nat) (c0 : List Value) (n : Nat) (W : World) (a0 : Act) (rem : List Nat) (listed : Array Bool) (a : Act) (w : World) : Prop where
 head : HeadInv .any ops n listed
 nodup : rem.Nodup
 lt : ∀ j ∈ rem, j < n
 mem : ∀ j, j < n → (listed.getD j false = true ↔ j ∉ rem)
 size : a.tmps.size = a0.tmps.size
 defers : a.defers = a0.defers
 done : ∀ d, (∃ j o, j < n ∧ j ∉ rem ∧ ops[j]? = some o ∧ o.dst = some d) → ∃ v, a.tmps[d]? = some v ∧ S d v w
 open_ : ∀ d, (∀ j o, j < n → j ∉ rem → ops[j]? = some o → o.dst ≠ some d) → a.tmps[d]? = a0.tmps[d]?
 ext : Ext W w
 var : iA ∉ rem → ∃ g, a.tmps[dA]? = some (.pointer (some ⟨g, 0, none⟩)) ∧ W.heap.size ≤ g ∧ (if iS ∈ rem then Lc w g T c0 else ∃ cs : List Value, a.tmps[dV]? = some (.agg cs.toArray) ∧ Lc w g T cs)
 pre : iS ∉ rem → iA ∉ rem ∧ ∀ j o, j < n → ops[j]? = some o → o.dst = some dV → j ∉ rem
theorem InvE.step {S : Tmp → Value → World → Prop} {iA iS dA dV T : Nat} {c0 : List Value} {n : Nat} {W : World} (hS : ∀ d v w w', S d v w → TrE T W.heap.size w w' → S d v w') {a0 : Act} {rem : List Nat} {listed : Array Bool} {a : Act} {w w' : World} (inv : InvE ops S iA iS dA dV T c0 n W a0 rem listed a w)
  {i : Nat} {o : Oper} (hi : i ∈ Region.ready .any ops listed) (hin : i < n) (ho : ops[i]? = some o) (v : Value) (htr : TrE T W.heap.size w w') (hext : Ext W w')
  (hsz : ∀ (j : Nat) o d, j < n → ops[j]? = some o → o.dst = some d → d < a0.tmps.size)
  (hv : ∀ d, o.dst = some d → S d v w')
  (hvar : iA ∉ rem.erase i → ∃ g, (a.put o.dst v).tmps[dA]? = some (.pointer (some ⟨g, 0, none⟩)) ∧ W.heap.size ≤ g ∧ (if iS ∈ rem.erase i then Lc w' g T c0 else ∃ cs : List Value, (a.put o.dst v).tmps[dV]? = some (.agg cs.toArray) ∧ Lc w' g T cs)) (hpre : iS ∉ rem.erase i → iA ∉ rem.erase i ∧ ∀ j o, j < n → ops[j]? = some o → o.dst = some dV → j ∉ rem.erase i) :
  InvE ops S iA iS dA dV T c0 n W a0 (rem.erase i) (listed.setIfInBounds i true) (a.put o.dst v) w' := by
 have hun := (mem_ready.1 hi).1
 have hirem : i ∈ rem := by
  rcases Classical.em (i ∈ rem) with h | h
  ·exact h
  ·have := (inv.mem i hin).2 h
   rw [getD_both hun] at this; cases this
 have hmem : ∀ j, j < n → (j ∉ rem.erase i ↔ j ∉ rem ∨ j = i) := fun j _ => by
  rw [inv.nodup.mem_erase_iff]
  constructor
  ·intro h; by_cases hj : j = i
   ·exact .inr hj
   ·exact .inl fun hm => h ⟨hj, hm⟩
  ·rintro (h | h) ⟨h1, h2⟩
   ·exact h h2
   ·exact h1 h
 have hlen : i < listed.size := by
  rcases Nat.lt_or_ge i listed.size with h | h
  ·exact h
  ·simp [Array.getElem?_eq_none h] at hun
 refine ⟨inv.head.set hi hin, inv.nodup.erase i, fun j hj => inv.lt j (List.mem_of_mem_erase hj), fun j hj => ?_, by rw [put_size, inv.size], by rw [put_defers, inv.defers], fun d h => ?_, fun d h => ?_, hext, hvar, hpre⟩
 ·rw [hmem j hj]
  by_cases hji : i = j
  ·subst hji; simp [hlen]
  ·rw [getD_set_ne false hji, inv.mem j hj]
   exact ⟨fun h => .inl h, fun h => h.resolve_right fun e => hji e.symm⟩
 ·obtain ⟨j, oj, hj, hjr, hoj, hdj⟩ := h
  by_cases hod : o.dst = some d
  ·rw [hod, put_get, if_pos rfl]
   have hlt : d < a.tmps.size := by rw [inv.size]; exact hsz i o d hin ho hod
   exact ⟨v, by rw [if_pos hlt], hv d hod⟩
  ·rw [put_other _ _ _ _ hod]
   obtain ⟨u, hu1, hu2⟩ := inv.done d ⟨j, oj, hj, (by
    rcases (hmem j hj).1 hjr with h | h
    ·exact h
    ·subst h; rw [ho] at hoj; cases hoj; exact absurd hdj hod), hoj, hdj⟩
   exact ⟨u, hu1, hS d u w w' hu2 htr⟩
 ·have hod : o.dst ≠ some d := h i o hin ((hmem i hin).2 (.inr rfl)) ho
  rw [put_other _ _ _ _ hod]
  exact inv.open_ d fun j oj hj hjr hoj => h j oj hj ((hmem j hj).2 (.inl hjr)) hoj
end
theorem StepOk.mono {a : As} {l : List En} {r : Rs} {p q : En → Prop} (h : StepOk a l r p) (hpq : ∀ e, p e → q e) : StepOk a l r q := ⟨h.ok, h.l6, fun e he h2 => (h.kept e he h2).imp id fun x => ⟨x.1, hpq e x.2⟩⟩
theorem do_ok {a : As} {l : List En} (h : OkL a l) (hl : L6 l) {s : Stp} (ok : s.Ok) (he : (doF a l s).2.2 = 0) : StepOk a l (doF a l s) fun e => s.kind = 0 ∧ Gives a s.h (doF a l s).2.1 e := by
 obtain ⟨k, now, hd, b, sta⟩ := s
 by_cases k0 : k = 0
 ·subst k0
  exact (handle_ok h hl ok.h he).mono fun e x => ⟨rfl, x⟩
 by_cases k1 : k = 1
 ·subst k1
  exact (tick_ok h hl he).2.mono fun e x => x.elim
 by_cases k2 : k = 2
 ·subst k2
  exact (remove_ok h hl he).2.mono fun e x => x.elim
 by_cases k3 : k = 3
 ·subst k3
  have q := (admit_ok h hl ok.sta he).2.2
  exact ⟨q.ok, q.l6, fun e he h2 => (q.kept e he h2).imp id fun x => x.2.elim⟩
 ·have : doF a l ⟨k, now, hd, b, sta⟩ = ([], [], 2) := by unfold doF; rw [if_neg k0, if_neg k1, if_neg k2, if_neg k3]
  rw [this] at he
  cases he
end Go.Proofs.Ytfecopfofkdnpaa
