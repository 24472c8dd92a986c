/- Texts of this proof, put together: NmQ. -/
import Derived.Test.YtfecopfofkdnpaaM4
import Derived.Test.YtfecopfofkdnpaaS1
import Derived.Test.YtfecopfofkdnpaaS2
import Derived.Test.YtfecopfofkdnpaaS3
import Derived.Test.YtfecopfofkdnpaaS4
import Derived.Test.YtfecopfofkdnpaaS5
import Derived.Test.YtfecopfofkdnpaaS6
import Derived.Test.YtfecopfofkdnpaaS7
import Derived.Test.YtfecopfofkdnpaaS8
import Derived.Test.YtfecopfofkdnpaaS9
import Derived.Test.YtfecopfofkdnpaaS10
import Derived.Test.YtfecopfofkdnpaaS11
import Derived.Test.YtfecopfofkdnpaaS12
import Derived.Test.YtfecopfofkdnpaaS13
import Derived.Test.YtfecopfofkdnpaaS14
import Derived.Test.YtfecopfofkdnpaaS15
import Derived.Test.YtfecopfofkdnpaaS16
import Derived.Test.YtfecopfofkdnpaaS17
import Derived.Test.YtfecopfofkdnpaaS18
import Derived.Test.YtfecopfofkdnpaaS19
import Derived.Test.YtfecopfofkdnpaaS20
import Derived.Test.YtfecopfofkdnpaaS21
import Derived.Test.YtfecopfofkdnpaaS22
import Derived.Test.YtfecopfofkdnpaaS23
import Derived.Test.YtfecopfofkdnpaaS24
import Derived.Test.YtfecopfofkdnpaaS25
import Derived.Test.YtfecopfofkdnpaaS26
import Derived.Test.YtfecopfofkdnpaaS27
import Derived.Test.YtfecopfofkdnpaaS28
import Derived.Test.YtfecopfofkdnpaaS29
import Derived.Test.YtfecopfofkdnpaaS30
import Derived.Test.YtfecopfofkdnpaaM1
namespace Go.Proofs.Ytfecopfofkdnpaa
open Go.RowKit
def putL : List (Tmp × Value) → Act → Act
 | [], a => a
 | p :: l, a => putL l (a.put (some p.1) p.2)
theorem any_join {P : Program} {md : Region.Mode} {ops : Array Oper} {Q : Exit → Act → World → Prop} {f0 : Nat} {l0 : Array Bool} {a0 : Act} {w0 : World} (fuel : Nat) (listed : Array Bool) (ps : List (Tmp × Value)) (R : World → Prop)
  (h1 : (∀ l a' w', l = listed → a' = putL ps a0 → R w' → wpAny P md ops Q fuel l a' w') → wpAny P md ops Q f0 l0 a0 w0) (h2 : ∀ w', R w' → wpAny P md ops Q fuel listed (putL ps a0) w') : wpAny P md ops Q f0 l0 a0 w0 := h1 fun l a' w' hl ha hr => hl ▸ ha ▸ h2 w' hr
def MonoN (T B : Nat) (φ : Value → World → Prop) : Prop := ∀ v w w', φ v w → TrN T B w w' → φ v w'
theorem tabS_trn (T B : Nat) : ∀ (l : List (Tmp × (Value → World → Prop))), (∀ p ∈ l, MonoN T B p.2) → ∀ d v w w', tabS l d v w → TrN T B w w' → tabS l d v w'
 | [], _, _, _, _, _, _, _ => trivial
 | p :: l, h, d, v, w, w', h1, hx => by
  unfold tabS at h1 ⊢
  split
  ·rename_i hd; rw [if_pos hd] at h1; exact h p (by simp) v w w' h1 hx
  ·rename_i hd; rw [if_neg hd] at h1; exact tabS_trn T B l (fun q hq => h q (by simp [hq])) d v w w' h1 hx
theorem monoN_eq (T B : Nat) (u : Value) : MonoN T B (fun v _ => v = u) := fun _ _ _ h _ => h
def NB (B : Nat) (W : World) (s : List (Value × By)) : Prop := ∀ p ∈ s, OwB B W p.1 p.2
theorem NB.ext {B : Nat} {W W' : World} {s : List (Value × By)} (h : NB B W s) (hx : Ext W W') : NB B W' s := fun p hp => owns_ext (h p hp) hx
theorem NB.wrote {B : Nat} {W W' : World} {g T : Nat} {cs : List Value} {s : List (Value × By)} (h : NB B W s) (hw : Wrote W W' g) (hg : Lc W g T cs) (hT : 5 ≠ T) : NB B W' s := fun p hp => owns_wroteT (h p hp) hw hg hT
theorem NB.cons {B : Nat} {W : World} {s : List (Value × By)} {p : Value × By} (hp : OwB B W p.1 p.2) (h : NB B W s) : NB B W (p :: s) := fun q hq => by
 rcases List.mem_cons.1 hq with rfl | hq
 ·exact hp
 ·exact h q hq
theorem adm0 {L : List En} {w w' : World} {e : Ending} (h : AdmR aN (L, [], 0) w e w') : ∃ ad n c, e = .returned (.tuple #[.agg (cat (partsA aN haN ad n c)).toArray, .int .i64 0]) ∧ OwE w.heap.size w' (.slice ad n c) L ∧ Ext w w' := by
 obtain ⟨ad, n, c, rfl, h1, h2⟩ := h
 exact ⟨ad, n, c, by rw [← cat_A aN haN]; rfl, h1, h2⟩
theorem admE {L : List En} {E : Int} (hE : E ≠ 0) {w w' : World} {e : Ending} (h : AdmR aN (L, [], E) w e w') : ∃ ad n c, e = .returned (.tuple #[.agg (cat (partsA as0 rfl ad n c)).toArray, .int .i64 E]) ∧ Ext w w' := by
 obtain ⟨ad, n, c, rfl, h1, h2⟩ := h
 refine ⟨ad, n, c, ?_, h2⟩
 show Ending.returned (.tuple #[.agg (cellsA (if E = 0 then aN else as0) (.slice ad n c)).toArray, .int .i64 E]) = _
 rw [if_neg hE, cat_A as0 rfl]
def ErT (E : Int) (v : Value) : Prop := ∃ ad n c, v = .tuple #[.agg (cat (partsA as0 rfl ad n c)).toArray, .int .i64 E]
def ErA (v : Value) : Prop := ∃ ad n c, v = .agg (cat (partsA as0 rfl ad n c)).toArray
theorem erA_one {v : Value} (h : ErA v) : ∃ cs : List Value, v = .agg cs.toArray ∧ (cat (partsA as0 rfl none 0 0)).length = cs.length ∧ cs.toArray.all (·.oneCell') = true := by
 obtain ⟨ad, n, c, rfl⟩ := h
 exact ⟨_, rfl, by rw [cat_len, cat_len]; rfl, by simpa using cat_one (partsA as0 rfl ad n c)⟩
def ErH (E : Int) (v : Value) : Prop := ∃ ad n c va vc, v = .tuple #[.agg (cat (partsA as0 rfl ad n c)).toArray, .slice va 0 vc, .int .i64 E]
def ErS (v : Value) : Prop := ∃ va vc, v = .slice va 0 vc
theorem h67 : e7.addr.length = 6 := rfl
theorem nF_any (ad : Option Addr) (n c : Nat) (w : World) (B : Nat) (ho : OwE B w (.slice ad n c) N7) : Calls Try.prog 12 #[.agg (cat (partsA aN haN ad n c)).toArray, .agg ((stB 1).map V8).toArray] w fun e w' => e = .returned (.tuple #[.agg (cat (partsE e7 h67)).toArray, .bool true]) ∧ Ext w w' := by
 have h := find_any aN haN (.slice ad n c) N7 l6_N7 (by decide) (stB 1) rfl w (ho.slt l6_N7)
 rw [nf1, cat_A aN haN, show cellsE (e7, true).1 = cat (partsE e7 h67) from cat_E e7 h67] at h
 exact h
theorem nB_any (i : Int) (r : En) (b : Bool) (hr : r.addr.length = 6) (hb : byE aN N7 i = (r, b)) (ad : Option Addr) (n c : Nat) (w : World) (B : Nat) (ho : OwE B w (.slice ad n c) N7) : Calls Try.prog 13 #[.agg (cat (partsA aN haN ad n c)).toArray, .int .i64 i] w fun e w' => e = .returned (.tuple #[.agg (cat (partsE r hr)).toArray, .bool b]) ∧ Ext w w' := by
 have h := byAid_any aN haN (.slice ad n c) N7 l6_N7 (by decide) i w (ho.slt l6_N7)
 rw [hb, cat_A aN haN, show cellsE (r, b).1 = cat (partsE r hr) from cat_E r hr] at h
 exact h
theorem nH_any (ad : Option Addr) (n c : Nat) (h : Hd) (ok : h.Ok) (fa : Option Addr) (fn fc : Nat) (b : By) (now : Int) (r : Rs) (hr : handleF dA dJ dL aN N7 h b now = r) (w : World) (B B2 : Nat) (ho : OwE B w (.slice ad n c) N7) (hl : b.length ≤ 1000) (hb : OwB B2 w (.slice fa fn fc) b) :
  Calls Try.prog 29 #[.agg (cat (partsA aN haN ad n c)).toArray, .agg (cat (partsFr h ok fa fn fc)).toArray, .int .i64 now] w (HanR aN r w) := by
 have q := handle_any aN haN (.slice ad n c) N7 l6_N7 (by decide) h ok fa fn fc b (owns_lenle hb hl).1 (owns_lenle hb hl).2 now w (ho.slt l6_N7) (SlB.of_owns hb)
 rw [hr, cat_A aN haN, show cellsF h (.slice fa fn fc) = cat (partsFr h ok fa fn fc) from cat_Fr h ok fa fn fc] at q
 exact q
theorem nT_any (ad : Option Addr) (n c : Nat) (now : Int) (r : Rs) (hr : tickF aN N7 now = r) (w : World) (B : Nat) (ho : OwE B w (.slice ad n c) N7) : Calls Try.prog 22 #[.agg (cat (partsA aN haN ad n c)).toArray, .int .i64 now] w (HanR aN r w) := by
 have q := tick_any aN haN (.slice ad n c) N7 l6_N7 (by decide) now w (ho.slt l6_N7)
 rw [hr, cat_A aN haN] at q
 exact q
theorem nR_any (ad : Option Addr) (n c : Nat) (t : By) (ht : t.length = 6) (r : Rs) (hr : removeF aN N7 t = r) (w : World) (B : Nat) (ho : OwE B w (.slice ad n c) N7) : Calls Try.prog 39 #[.agg (cat (partsA aN haN ad n c)).toArray, .agg (t.map V8).toArray] w (HanR aN r w) := by
 have q := remove_any aN haN (.slice ad n c) N7 l6_N7 (by decide) t ht w (ho.slt l6_N7)
 rw [hr, cat_A aN haN] at q
 exact q
theorem nW_any (l : List En) (hl : L6 l) (hn : l.length ≤ 100000) (ad : Option Addr) (n c : Nat) (h : Hd) (ok : h.Ok) (fa : Option Addr) (fn fc : Nat) (b : Bool) (hr : allowF aN l h = b) (w : World) (B : Nat) (ho : OwE B w (.slice ad n c) l) :
  Calls Try.prog 18 #[.agg (cat (partsA aN haN ad n c)).toArray, .agg (cat (partsFr h ok fa fn fc)).toArray] w fun e w' => e = .returned (.bool b) ∧ Ext w w' := by
 have q := allowed_any aN haN (.slice ad n c) l hl hn h ok (.slice fa fn fc) w (ho.slt hl)
 rw [hr, cat_A aN haN, show cellsF h (.slice fa fn fc) = cat (partsFr h ok fa fn fc) from cat_Fr h ok fa fn fc] at q
 exact q
theorem e7_ok : e7.Ok := by unfold e7; constructor <;> first | rfl | decide
theorem nSm_any (ad : Option Addr) (n c : Nat) (ad2 : Option Addr) (n2 c2 : Nat) (w : World) (B B2 : Nat) (ho : OwE B w (.slice ad n c) N7) (ho2 : OwE B2 w (.slice ad2 n2 c2) N7) :
  Calls Try.prog 17 #[.agg (cat (partsA aN haN ad n c)).toArray, .agg (cat (partsA aN haN ad2 n2 c2)).toArray] w fun e w' => e = .returned (.bool true) ∧ Ext w w' := by
 have hk : ∀ x ∈ N7, x.Ok := fun x hx => by rw [List.mem_singleton.1 hx]; exact e7_ok
 have q := same_any aN aN haN haN (.slice ad n c) (.slice ad2 n2 c2) N7 N7 hk hk (by decide) (by decide) w (ho.slt l6_N7) (ho2.slt l6_N7)
 rw [ns1, cat_A aN haN, cat_A aN haN] at q
 exact q
theorem eqE7 (w : World) : (Op.equalIn 10000 39 (.agg (cat (partsE e7 h67)).toArray) (.agg (cat (partsE e7 h67)).toArray)).run Try.prog w = .ok true w := by
 rw [← cat_E e7 h67, eqEnIn w e7 e7 e7_ok e7_ok]; simp
def eR : En := ⟨stB 1, 1, 0, 0, 0, 3⟩
theorem hR6 : eR.addr.length = 6 := rfl
theorem eR_ok : eR.Ok := by unfold eR; constructor <;> first | rfl | decide
theorem eqER (w : World) : (Op.equalIn 10000 39 (.agg (cat (partsE eR hR6)).toArray) (.agg (cat (partsE eR hR6)).toArray)).run Try.prog w = .ok true w := by
 rw [← cat_E eR hR6, eqEnIn w eR eR eR_ok eR_ok]; simp
theorem slt_lc {w : World} {g : Nat} {l : List En} (h : Lc w g 39 (l.flatMap cellsE)) (hl : L6 l) (hn : l.length ≤ 1000) : SlT 11 cellsE w (.slice (some ⟨g, 0, none⟩) l.length l.length) l := by
 have hz : (l.flatMap cellsE).length = l.length * 11 := by
  clear h hn
  induction l with
  | nil => rfl
  | cons x t ih =>
   rw [List.flatMap_cons, List.length_append, ih (fun e he => hl e (List.mem_cons_of_mem _ he)), cat_E x (hl x (List.mem_cons_self ..)), cat_len]
   show 11 + _ = (t.length + 1) * 11
   omega
 have ho : OwE 0 w (.slice (some ⟨g, 0, none⟩) l.length l.length) l := ⟨hz, .inr ⟨g, l.length, (l.flatMap cellsE).toArray, rfl, Nat.zero_le _, h, Nat.le_refl _, by unfold maxLen; omega, by simpa using hz, by simpa using List.take_of_length_le (Nat.le_of_eq hz)⟩⟩
 exact ho.slt hl
theorem nC_any (a : As) (ha : a.own.length = 6) (l : List En) (hl : L6 l) (hn : l.length ≤ 1000) (E : Int) (hc : chkF a l = E) (g : Nat) (w : World) (h : Lc w g 39 (l.flatMap cellsE)) :
  Calls Try.prog 20 #[.agg (cat (partsA a ha (some ⟨g, 0, none⟩) l.length l.length)).toArray] w fun e w' => e = .returned (.int .i64 E) ∧ Ext w w' := by
 have q := check_any a ha (.slice (some ⟨g, 0, none⟩) l.length l.length) l hl (by omega) w (slt_lc h hl hn)
 rw [hc, cat_A a ha] at q
 exact q
theorem l6_z1 : L6 zE1 := by unfold L6 zE1; decide
theorem l6_z2 : L6 zE2 := by unfold L6 zE2; decide
theorem own_at {B : Nat} {W : World} {ad : Option Addr} {n c : Nat} (ho : OwE B W (.slice ad n c) NR) : ∃ b off, ad = some ⟨b, off, none⟩ ∧ b < W.heap.size ∧ W.rangeAt b off (cat (partsE eR hR6)) := by
 obtain ⟨_, _, _, he, -, -, hat⟩ := ho.slt l6_NR
 cases he
 obtain ⟨b, off, h1, h2, h3⟩ := hat 0 eR rfl
 exact ⟨b, off, h1, h2, by rw [← cat_E eR hR6]; simpa using h3⟩
theorem nA1_any (ad : Option Addr) (n c : Nat) (fa : Option Addr) (fn fc : Nat) (w : World) (B B2 : Nat) (ho : OwE B w (.slice ad n c) N1) (hb : OwB B2 w (.slice fa fn fc) []) :
  Calls Try.prog 36 #[.agg (cat (partsA aN haN ad n c)).toArray, .agg (cat (partsFr (dtH (stB 1)) (dt_ok (hs6 1)) fa fn fc)).toArray, .int .i64 20, .int .u8 10, .int .i64 7, .int .i64 0] w (AnsR aN haN N2 w) :=
 answered_any aN haN N1 l6_N1 (by decide) ad n c (dtH (stB 1)) (dt_ok (hs6 1)) fa fn fc [] (owns_lenle hb (by decide)).1 (owns_lenle hb (by decide)).2 20 10 _ _ N2 _ nh1 (by decide) (by decide) akN1 (by decide) w (ho.slt l6_N1) (SlB.of_owns hb)
theorem nA2_any (ad : Option Addr) (n c : Nat) (fa : Option Addr) (fn fc : Nat) (w : World) (B B2 : Nat) (ho : OwE B w (.slice ad n c) N2) (hb : OwB B2 w (.slice fa fn fc) bWk) :
  Calls Try.prog 36 #[.agg (cat (partsA aN haN ad n c)).toArray, .agg (cat (partsFr (reqH (stB 1) 0) (req_ok (hs6 1) k0.1 k0.2) fa fn fc)).toArray, .int .i64 21, .int .u8 1, .int .i64 1, .int .i64 0] w (AnsR aN haN N3 w) :=
 answered_any aN haN N2 l6_N2 (by decide) ad n c (reqH (stB 1) 0) (req_ok (hs6 1) k0.1 k0.2) fa fn fc bWk (owns_lenle hb (by decide)).1 (owns_lenle hb (by decide)).2 21 1 _ _ N3 _ nh2 (by decide) (by decide) akN2 (by decide) w (ho.slt l6_N2) (SlB.of_owns hb)
theorem nA3_any (ad : Option Addr) (n c : Nat) (fa : Option Addr) (fn fc : Nat) (w : World) (B B2 : Nat) (ho : OwE B w (.slice ad n c) N3) (hb : OwB B2 w (.slice fa fn fc) bOt) :
  Calls Try.prog 36 #[.agg (cat (partsA aN haN ad n c)).toArray, .agg (cat (partsFr (reqH (stB 2) 11) (req_ok (hs6 2) k11.1 k11.2) fa fn fc)).toArray, .int .i64 22, .int .u8 11, .int .i64 13, .int .i64 0] w (AnsR aN haN N3 w) :=
 answered_any aN haN N3 l6_N3 (by decide) ad n c (reqH (stB 2) 11) (req_ok (hs6 2) k11.1 k11.2) fa fn fc bOt (owns_lenle hb (by decide)).1 (owns_lenle hb (by decide)).2 22 11 _ _ N3 _ nh3 (by decide) (by decide) akN3 (by decide) w (ho.slt l6_N3) (SlB.of_owns hb)
theorem nA4_any (ad : Option Addr) (n c : Nat) (fa : Option Addr) (fn fc : Nat) (w : World) (B B2 : Nat) (ho : OwE B w (.slice ad n c) N3) (hb : OwB B2 w (.slice fa fn fc) bSt) :
  Calls Try.prog 36 #[.agg (cat (partsA aN haN ad n c)).toArray, .agg (cat (partsFr (reqH (stB 2) 11) (req_ok (hs6 2) k11.1 k11.2) fa fn fc)).toArray, .int .i64 23, .int .u8 11, .int .i64 14, .int .i64 0] w (AnsR aN haN N3 w) :=
 answered_any aN haN N3 l6_N3 (by decide) ad n c (reqH (stB 2) 11) (req_ok (hs6 2) k11.1 k11.2) fa fn fc bSt (owns_lenle hb (by decide)).1 (owns_lenle hb (by decide)).2 23 11 _ _ N3 _ nh4 (by decide) (by decide) akN4 (by decide) w (ho.slt l6_N3) (SlB.of_owns hb)
theorem nA5_any (ad : Option Addr) (n c : Nat) (fa : Option Addr) (fn fc : Nat) (w : World) (B B2 : Nat) (ho : OwE B w (.slice ad n c) N3) (hb : OwB B2 w (.slice fa fn fc) bAg) :
  Calls Try.prog 36 #[.agg (cat (partsA aN haN ad n c)).toArray, .agg (cat (partsFr (reqH (stB 1) 2) (req_ok (hs6 1) k2.1 k2.2) fa fn fc)).toArray, .int .i64 24, .int .u8 3, .int .i64 0, .int .i64 1] w (AnsR aN haN N6 w) :=
 answered_any aN haN N3 l6_N3 (by decide) ad n c (reqH (stB 1) 2) (req_ok (hs6 1) k2.1 k2.2) fa fn fc bAg (owns_lenle hb (by decide)).1 (owns_lenle hb (by decide)).2 24 3 _ _ N6 _ nh5 (by decide) (by decide) akN5 (by decide) w (ho.slt l6_N3) (SlB.of_owns hb)
theorem nA11_any (ad : Option Addr) (n c : Nat) (fa : Option Addr) (fn fc : Nat) (w : World) (B B2 : Nat) (ho : OwE B w (.slice ad n c) N7) (hb : OwB B2 w (.slice fa fn fc) bAu) :
  Calls Try.prog 36 #[.agg (cat (partsA aN haN ad n c)).toArray, .agg (cat (partsFr (reqH (stB 1) 11) (req_ok (hs6 1) k11.1 k11.2) fa fn fc)).toArray, .int .i64 3, .int .u8 11, .int .i64 0, .int .i64 0] w (AnsR aN haN NR w) :=
 answered_any aN haN N7 l6_N7 (by decide) ad n c (reqH (stB 1) 11) (req_ok (hs6 1) k11.1 k11.2) fa fn fc bAu (owns_lenle hb (by decide)).1 (owns_lenle hb (by decide)).2 3 11 _ _ NR _ nh11 (by decide) (by decide) akN11 (by decide) w (ho.slt l6_N7) (SlB.of_owns hb)
theorem nS6_any (ad : Option Addr) (n c : Nat) (w : World) (B : Nat) (ho : OwE B w (.slice ad n c) N6) :
  Calls Try.prog 38 #[.agg (cat (partsA aN haN ad n c)).toArray, .agg (cat (partsFr (dtH (stB 1)) (dt_ok (hs6 1)) none 0 0)).toArray, .int .i64 25] w (AnsR aN haN N7 w) :=
 silent_any aN haN N6 l6_N6 (by decide) ad n c (dtH (stB 1)) (dt_ok (hs6 1)) none 0 0 [] (by decide) (by decide) 25 N7 nh6 w (ho.slt l6_N6) (SlB.nil w)
theorem nS10_any (ad : Option Addr) (n c : Nat) (w : World) (B : Nat) (ho : OwE B w (.slice ad n c) N7) :
  Calls Try.prog 38 #[.agg (cat (partsA aN haN ad n c)).toArray, .agg (cat (partsFr (grH) (gr_ok) none 0 0)).toArray, .int .i64 30] w (AnsR aN haN N7 w) :=
 silent_any aN haN N7 l6_N7 (by decide) ad n c (grH) (gr_ok) none 0 0 [] (by decide) (by decide) 30 N7 nh10 w (ho.slt l6_N7) (SlB.nil w)
end Go.Proofs.Ytfecopfofkdnpaa
