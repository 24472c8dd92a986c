/- The statement DeriveDistinct: plain law and walk. -/
import Derived.Test.YtianjmmmegelkaaDerive
namespace Go.Proofs.Ytianjmmmegelkaa
open Go.RowKit

/-! ### The plain law -/
theorem strB_inj {s t : ByteArray} (h : strB s = strB t) : s = t := by
  unfold strB at h
  have hinj : ∀ a b : UInt8, BitVec.ofNat 8 a.toNat = BitVec.ofNat 8 b.toNat → a = b := fun a b hab => by
    have h1 := congrArg BitVec.toNat hab
    rw [BitVec.toNat_ofNat, BitVec.toNat_ofNat] at h1
    have ha := a.toNat_lt
    have hb := b.toNat_lt
    rw [Nat.mod_eq_of_lt (by simpa using ha), Nat.mod_eq_of_lt (by simpa using hb)] at h1
    exact UInt8.toNat_inj.1 h1
  have h2 : ∀ (l m : List UInt8), (l.map fun b => BitVec.ofNat 8 b.toNat) = (m.map fun b => BitVec.ofNat 8 b.toNat) → l = m := by
    intro l
    induction l with
    | nil => intro m hm; cases m with
      | nil => rfl
      | cons y m => simp at hm
    | cons x l ih => intro m hm; cases m with
      | nil => simp at hm
      | cons y m =>
        simp only [List.map_cons, List.cons.injEq] at hm
        rw [hinj x y hm.1, ih m hm.2]
  have h3 := h2 _ _ h
  obtain ⟨⟨a⟩⟩ := s
  obtain ⟨⟨b⟩⟩ := t
  simp only at h3
  rw [h3]
theorem ofInt8_inj (a b : Int) (h : BitVec.ofInt 8 a = BitVec.ofInt 8 b) : a % 256 = b % 256 := by
  have := congrArg wI h
  rwa [wI_ofInt8, wI_ofInt8] at this
theorem two_inj (a b : Int) (ha : 0 ≤ a) (ha' : a ≤ 65535) (hb : 0 ≤ b) (hb' : b ≤ 65535) (h : twoF a = twoF b) : a = b := by
  simp only [twoF, List.cons.injEq, and_true] at h
  have h1 := ofInt8_inj _ _ h.1
  have h2 := ofInt8_inj _ _ h.2
  omega
theorem input_form (s : ByteArray) (c : List (BitVec 8)) (i : Int) : inputF s c i = BitVec.ofInt 8 s.size :: (strB s ++ (twoF c.length ++ (c ++ twoF i))) := by
  simp [inputF]
theorem input_inj {s t : ByteArray} {c d : List (BitVec 8)} {i j : Int} (hs : s.size ≤ 100) (ht : t.size ≤ 100) (hc : c.length ≤ 600) (hd : d.length ≤ 600) (hi : 0 ≤ i) (hi' : i ≤ 65535) (hj : 0 ≤ j) (hj' : j ≤ 65535)
    (h : inputF s c i = inputF t d j) : s = t ∧ c = d ∧ i = j := by
  rw [input_form, input_form] at h
  obtain ⟨h1, h2⟩ := List.cons.inj h
  have h3 := ofInt8_inj _ _ h1
  have hst : s.size = t.size := by omega
  obtain ⟨h4, h5⟩ := List.append_inj h2 (by rw [strB_len, strB_len, hst])
  obtain ⟨h6, h7⟩ := List.append_inj h5 (by rfl)
  have hcd := two_inj _ _ (by omega) (by omega) (by omega) (by omega) h6
  obtain ⟨h8, h9⟩ := List.append_inj h7 (by omega)
  exact ⟨strB_inj h4, h8, two_inj i j hi hi' hj hj' h9⟩

theorem inputF_len (s : ByteArray) (c : List (BitVec 8)) (i : Int) (hs : s.size ≤ 100000) (hc : c.length ≤ 100000) : (inputF s c i).length ≤ 1000000000 := by
  rw [input_form]; simp [twoF, strB_len]; omega

/-! ### alive -/
set_option maxHeartbeats 800000 in
theorem alive_any (w : World) : Calls Try.prog 9 #[] w fun e w' => e = .returned (.bool true) ∧ Ext w w' := by
  go_enter Try.func9, Try.ntmps9
  go_wp2_with fail
  refine (input_any ⟨#[97, 98]⟩ (by decide) _ [7#8] (by decide) 1 _ (SlB.of_block (l := [7#8]) (hp_new _ _))).mono ?_
  rintro e w' ⟨v, rfl, hsl, x, rfl⟩
  have HSL := kp hsl
  clear hsl
  obtain ⟨av, cv, rfl⟩ := HSL.out.form
  go_wp2_with fail
  refine (same_any (HSL.out.ext (Ext.alloc _ _)) (SlB.of_block (l := [2#8, 97#8, 98#8, 1#8, 0#8, 7#8, 1#8, 0#8]) (hp_at _ _ _ (by simp))) (by decide)).mono ?_
  rintro e w' ⟨rfl, x2, rfl⟩
  rw [show (inputF ⟨#[97, 98]⟩ [7#8] 1 == [2#8, 97#8, 98#8, 1#8, 0#8, 7#8, 1#8, 0#8]) = true by decide]
  go_wp2_with fail
  go_ret
  exact ⟨rfl, (((Ext.alloc _ _).trans (Ext.more _ _)).trans (Ext.alloc _ _)).trans (Ext.more _ _)⟩

/-! ### DeriveDistinct -/
def outB (s t : ByteArray) (n m : Nat) (i j : Int) : Bool := greatB s.size n || greatB t.size m || decide (i < 0) || decide (65535 < i) || decide (j < 0) || decide (65535 < j)

set_option maxHeartbeats 3200000 in
theorem distinct_out (s t : ByteArray) (hs : s.size ≤ 9223372036854775807) (ht : t.size ≤ 9223372036854775807) (ac ad : Option Addr) (n cn m cm : Nat) (i j : Int) (w : World) (ho : outB s t n m i j = true) :
    Calls Try.prog 3 #[.string s, .string t, .slice ac n cn, .slice ad m cm, .int .i64 i, .int .i64 j] w fun e w' => e = .returned (.bool true) ∧ Ext w w' := by
  have G1 := kp (great_any s hs ac n cn)
  have G2 := kp (great_any t ht ad m cm)
  generalize hg1 : greatB s.size n = g1 at *
  generalize hg2 : greatB t.size m = g2 at *
  have HO := kp (show (g1 || g2 || decide (i < 0) || decide (65535 < i) || decide (j < 0) || decide (65535 < j)) = true by rw [← hg1, ← hg2]; exact ho)
  clear ho hg1 hg2 hs ht
  cases g1
  case true =>
    go_enter Try.func3, Try.ntmps3
    go_wp2_with (first | (go_at_call 9; refine (alive_any _).mono ?_; rintro e w' ⟨rfl, xa, rfl⟩) | (go_at_call_of 10 (Value.string s); refine (G1.out _).mono ?_; rintro e w' ⟨rfl, rfl⟩) | (go_at_call 10; refine (G2.out _).mono ?_; rintro e w' ⟨rfl, rfl⟩))
    go_ret
    exact ⟨rfl, Ext.more _ _⟩
  cases g2
  case true =>
    go_enter Try.func3, Try.ntmps3
    go_wp2_with (first | (go_at_call 9; refine (alive_any _).mono ?_; rintro e w' ⟨rfl, xa, rfl⟩) | (go_at_call_of 10 (Value.string s); refine (G1.out _).mono ?_; rintro e w' ⟨rfl, rfl⟩) | (go_at_call 10; refine (G2.out _).mono ?_; rintro e w' ⟨rfl, rfl⟩))
    go_ret
    exact ⟨rfl, Ext.more _ _⟩
  by_cases h1 : i < 0
  case pos =>
    go_enter Try.func3, Try.ntmps3
    go_wp2_with (first | (go_at_call 9; refine (alive_any _).mono ?_; rintro e w' ⟨rfl, xa, rfl⟩) | (go_at_call_of 10 (Value.string s); refine (G1.out _).mono ?_; rintro e w' ⟨rfl, rfl⟩) | (go_at_call 10; refine (G2.out _).mono ?_; rintro e w' ⟨rfl, rfl⟩))
    go_ret
    exact ⟨rfl, Ext.more _ _⟩
  by_cases h2 : 65535 < i
  case pos =>
    go_enter Try.func3, Try.ntmps3
    go_wp2_with (first | (go_at_call 9; refine (alive_any _).mono ?_; rintro e w' ⟨rfl, xa, rfl⟩) | (go_at_call_of 10 (Value.string s); refine (G1.out _).mono ?_; rintro e w' ⟨rfl, rfl⟩) | (go_at_call 10; refine (G2.out _).mono ?_; rintro e w' ⟨rfl, rfl⟩))
    go_ret
    exact ⟨rfl, Ext.more _ _⟩
  by_cases h3 : j < 0
  case pos =>
    go_enter Try.func3, Try.ntmps3
    go_wp2_with (first | (go_at_call 9; refine (alive_any _).mono ?_; rintro e w' ⟨rfl, xa, rfl⟩) | (go_at_call_of 10 (Value.string s); refine (G1.out _).mono ?_; rintro e w' ⟨rfl, rfl⟩) | (go_at_call 10; refine (G2.out _).mono ?_; rintro e w' ⟨rfl, rfl⟩))
    go_ret
    exact ⟨rfl, Ext.more _ _⟩
  by_cases h4 : 65535 < j
  case pos =>
    go_enter Try.func3, Try.ntmps3
    go_wp2_with (first | (go_at_call 9; refine (alive_any _).mono ?_; rintro e w' ⟨rfl, xa, rfl⟩) | (go_at_call_of 10 (Value.string s); refine (G1.out _).mono ?_; rintro e w' ⟨rfl, rfl⟩) | (go_at_call 10; refine (G2.out _).mono ?_; rintro e w' ⟨rfl, rfl⟩))
    go_ret
    exact ⟨rfl, Ext.more _ _⟩
  exact absurd HO.out (by simp [h1, h2, h3, h4])

theorem beq_of_iff {α : Type} [BEq α] [LawfulBEq α] {a b : α} {p : Prop} [Decidable p] (h : a = b ↔ p) : (a == b) = decide p := by
  rw [Bool.eq_iff_iff]; simp [h]
set_option maxHeartbeats 3200000 in
theorem distinct_in (s t : ByteArray) (hs : s.size ≤ 9223372036854775807) (ht : t.size ≤ 9223372036854775807) (vc vd : Value) (c d : List (BitVec 8)) (i j : Int) (w : World) (hc : SlB w vc c) (hd : SlB w vd d) (ho : outB s t c.length d.length i j = false) :
    Calls Try.prog 3 #[.string s, .string t, vc, vd, .int .i64 i, .int .i64 j] w fun e w' => e = .returned (.bool true) ∧ Ext w w' := by
  have hb : s.size ≤ 100 ∧ c.length ≤ 600 ∧ t.size ≤ 100 ∧ d.length ≤ 600 ∧ 0 ≤ i ∧ i ≤ 65535 ∧ 0 ≤ j ∧ j ≤ 65535 := by
    simp [outB, greatB] at ho; omega
  obtain ⟨b1, b2, b3, b4, b5, b6, b7, b8⟩ := hb
  have HINJ := kp (fun h : inputF s c i = inputF t d j => input_inj b1 b3 b2 b4 b5 b6 b7 b8 h)
  obtain ⟨ac, cc, rfl⟩ := hc.form
  obtain ⟨ad, cd, rfl⟩ := hd.form
  have hg1 : greatB s.size c.length = false := by simp [greatB]; omega
  have hg2 : greatB t.size d.length = false := by simp [greatB]; omega
  have G1 := kp (great_any s hs ac c.length cc)
  have G2 := kp (great_any t ht ad d.length cd)
  rw [hg1] at G1
  rw [hg2] at G2
  clear hg1 hg2
  have HC := kp hc
  have HD := kp hd
  have C1 := kp (fun x => input_any s (by omega) _ c (by omega) i (more w x) (hc.ext (Ext.more w x)))
  have C2 := kp (fun w' (hx : Ext w w') => input_any t (by omega) _ d (by omega) j w' (hd.ext hx))
  have L1 := kp (inputF_len s c i (by omega) (by omega))
  have LC := kp (show c.length ≤ 1000000000 by omega)
  clear ho hs ht hc hd
  have h65 : ¬ 65535 < i := by omega
  have h65j : ¬ 65535 < j := by omega
  have hi0 : ¬ i < 0 := by omega
  have hj0 : ¬ j < 0 := by omega
  by_cases hst : s = t
  case neg =>
    have e1 : (s.toList == t.toList) = false := by rw [beq_eq_false_iff_ne]; intro e; exact hst (by cases s; cases t; simpa [ByteArray.toList_eq] using e)
    have HF := kp (show (inputF s c i == inputF t d j) = false by rw [beq_eq_false_iff_ne]; intro e; exact hst (HINJ.out e).1)
    clear hst
    go_enter Try.func3, Try.ntmps3
    go_wp2_with (first | (go_at_call 9; refine (alive_any _).mono ?_; rintro e w' ⟨rfl, xa, rfl⟩) | (go_at_call 10; first | ((with_reducible refine (G1.out _).mono ?_); rintro e w' ⟨rfl, rfl⟩) | ((with_reducible refine (G2.out _).mono ?_); rintro e w' ⟨rfl, rfl⟩)))
    refine (C1.out _).mono ?_
    rintro e w1 ⟨v1, rfl, hs1, hx1⟩
    have HS1 := kp hs1
    have HX1 := kp ((Ext.more _ _).trans hx1)
    clear hs1 hx1
    obtain ⟨a1, k1, rfl⟩ := HS1.out.form
    go_wp2_with fail
    refine (C2.out _ HX1.out).mono ?_
    rintro e w2 ⟨v2, rfl, hs2, hx2⟩
    have HS2 := kp hs2
    have HX2 := kp hx2
    clear hs2 hx2
    obtain ⟨a2, k2, rfl⟩ := HS2.out.form
    go_wp2_with fail
    refine (same_any (HS1.out.ext HX2.out) HS2.out L1.out).mono ?_
    rintro e w3 ⟨rfl, hx3⟩
    have HX3 := kp hx3
    clear hx3
    rw [HF.out]
    go_wp2_with fail
    go_ret
    exact ⟨rfl, (HX1.out.trans HX2.out).trans HX3.out⟩
  subst hst
  have e1 : (s.toList == s.toList) = true := by simp
  by_cases hcd : c = d
  case neg =>
    have HCD := kp (show (c == d) = false by rw [beq_eq_false_iff_ne]; exact hcd)
    have HF := kp (show (inputF s c i == inputF s d j) = false by rw [beq_eq_false_iff_ne]; intro e; exact hcd (HINJ.out e).2.1)
    clear hcd
    go_enter Try.func3, Try.ntmps3
    go_wp2_with (first | (go_at_call 9; refine (alive_any _).mono ?_; rintro e w' ⟨rfl, xa, rfl⟩) | (go_at_call 10; first | ((with_reducible refine (G1.out _).mono ?_); rintro e w' ⟨rfl, rfl⟩) | ((with_reducible refine (G2.out _).mono ?_); rintro e w' ⟨rfl, rfl⟩)))
    refine (same_any (HC.out.ext (Ext.more _ _)) (HD.out.ext (Ext.more _ _)) LC.out).mono ?_
    rintro e w' ⟨rfl, x0, rfl⟩
    rw [HCD.out, more_more]
    go_wp2_with fail
    refine (C1.out _).mono ?_
    rintro e w1 ⟨v1, rfl, hs1, hx1⟩
    have HS1 := kp hs1
    have HX1 := kp ((Ext.more _ _).trans hx1)
    clear hs1 hx1
    obtain ⟨a1, k1, rfl⟩ := HS1.out.form
    go_wp2_with fail
    refine (C2.out _ HX1.out).mono ?_
    rintro e w2 ⟨v2, rfl, hs2, hx2⟩
    have HS2 := kp hs2
    have HX2 := kp hx2
    clear hs2 hx2
    obtain ⟨a2, k2, rfl⟩ := HS2.out.form
    go_wp2_with fail
    refine (same_any (HS1.out.ext HX2.out) HS2.out L1.out).mono ?_
    rintro e w3 ⟨rfl, hx3⟩
    have HX3 := kp hx3
    clear hx3
    rw [HF.out]
    go_wp2_with fail
    go_ret
    exact ⟨rfl, (HX1.out.trans HX2.out).trans HX3.out⟩
  subst hcd
  have HCD := kp (show (c == c) = true by simp)
  have HF := kp (show (inputF s c i == inputF s c j) = (i == j) by
    rw [Bool.eq_iff_iff]; simp only [beq_iff_eq]
    exact ⟨fun h => (HINJ.out h).2.2, fun h => by rw [h]⟩)
  go_enter Try.func3, Try.ntmps3
  go_wp2_with (first | (go_at_call 9; refine (alive_any _).mono ?_; rintro e w' ⟨rfl, xa, rfl⟩) | (go_at_call 10; first | ((with_reducible refine (G1.out _).mono ?_); rintro e w' ⟨rfl, rfl⟩) | ((with_reducible refine (G2.out _).mono ?_); rintro e w' ⟨rfl, rfl⟩)))
  refine (same_any (HC.out.ext (Ext.more _ _)) (HD.out.ext (Ext.more _ _)) LC.out).mono ?_
  rintro e w' ⟨rfl, x0, rfl⟩
  rw [HCD.out, more_more]
  go_wp2_with fail
  refine (C1.out _).mono ?_
  rintro e w1 ⟨v1, rfl, hs1, hx1⟩
  have HS1 := kp hs1
  have HX1 := kp ((Ext.more _ _).trans hx1)
  clear hs1 hx1
  obtain ⟨a1, k1, rfl⟩ := HS1.out.form
  go_wp2_with fail
  refine (C2.out _ HX1.out).mono ?_
  rintro e w2 ⟨v2, rfl, hs2, hx2⟩
  have HS2 := kp hs2
  have HX2 := kp hx2
  clear hs2 hx2
  obtain ⟨a2, k2, rfl⟩ := HS2.out.form
  go_wp2_with fail
  refine (same_any (HS1.out.ext HX2.out) HS2.out L1.out).mono ?_
  rintro e w3 ⟨rfl, hx3⟩
  have HX3 := kp hx3
  clear hx3
  rw [HF.out]
  go_wp2_with fail
  go_ret
  exact ⟨rfl, (HX1.out.trans HX2.out).trans HX3.out⟩

theorem deriveDistinct.walk (s : ByteArray) (hs : s.size ≤ 9223372036854775807) (t : ByteArray) (ht : t.size ≤ 9223372036854775807) (vc : Value) (c : List (BitVec 8)) (_ : c.length ≤ 9223372036854775807) (vd : Value) (d : List (BitVec 8)) (_ : d.length ≤ 9223372036854775807)
    (i : Int) (_ : (Lit.int .i64 i).wf = true) (j : Int) (_ : (Lit.int .i64 j).wf = true) (w : World) (hc : SlB w vc c) (hd : SlB w vd d) :
    Calls Try.prog 3 #[.string s, .string t, vc, vd, .int .i64 i, .int .i64 j] w fun e w' => e = .returned (.bool true) ∧ Ext w w' := by
  cases ho : outB s t c.length d.length i j with
  | false => exact distinct_in s t hs ht vc vd c d i j w hc hd ho
  | true =>
    obtain ⟨ac, cc, rfl⟩ := hc.form
    obtain ⟨ad, cd, rfl⟩ := hd.form
    exact distinct_out s t hs ht ac ad c.length cc d.length cd i j w ho
end Go.Proofs.Ytianjmmmegelkaa
