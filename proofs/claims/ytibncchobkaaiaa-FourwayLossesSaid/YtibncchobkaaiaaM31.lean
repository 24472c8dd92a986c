/- Texts of this proof, put together: Sm, Ms. -/
import Derived.Test.YtibncchobkaaiaaM20
import Derived.Test.YtibncchobkaaiaaM30
import Derived.Test.YtibncchobkaaiaaM11
import Derived.Test.YtibncchobkaaiaaM1
namespace Go.Proofs.Ytibncchobkaaiaa
open Go.RowKit
set_option maxHeartbeats 800000 in
theorem same22_diff (aa ab : Option Addr) (ca cb : Nat) (n m : Nat) (hne : n ≠ m) (w : World) :
  Calls Try.prog 19 #[.slice aa n ca, .slice ab m cb] w fun e w' => e = .returned (.bool false) ∧ w' = w := by
 have h1 : ((n : Int) != (m : Int)) = true := by rw [bne_iff_ne]; omega
 go_enter Try.func19, Try.ntmps19
 go_wp2_with fail
 go_ret
 exact ⟨rfl, rfl⟩
set_option maxHeartbeats 800000 in
theorem same22_nil (aa ab : Option Addr) (ca cb : Nat) (w : World) :
  Calls Try.prog 19 #[.slice aa 0 ca, .slice ab 0 cb] w fun e w' => e = .returned (.bool true) ∧ w' = w := by
 go_enter Try.func19, Try.ntmps19
 go_wp2_with fail
 refine wp_loop_once ?_
 go_wp2_with fail
 go_ret
 exact ⟨rfl, rfl⟩
set_option maxHeartbeats 800000 in
theorem same22_run (b1 o1 c1 b2 o2 c2 : Nat) (l m : List (BitVec 8)) (hl : l.length ≤ 1000000000) (hlm : m.length = l.length) (w : World) (hb1 : b1 < w.heap.size) (hb2 : b2 < w.heap.size)
  (h1 : ∀ (j : Nat) x, l[j]? = some x → w.cell? ⟨b1, o1 + j, none⟩ = some (V8 x)) (h2 : ∀ (j : Nat) x, m[j]? = some x → w.cell? ⟨b2, o2 + j, none⟩ = some (V8 x)) :
  Calls Try.prog 19 #[.slice (some ⟨b1, o1, none⟩) l.length c1, .slice (some ⟨b2, o2, none⟩) l.length c2] w fun e w' => e = .returned (.bool (l == m)) ∧ Ext w w' := by
 have H1 := kp h1
 have H2 := kp h2
 have HLM := kp hlm
 obtain ⟨n, hn⟩ : ∃ n, n = l.length := ⟨_, rfl⟩
 rw [← hn] at hl ⊢
 have HN := kp hn
 clear h1 h2 hlm hn
 go_enter Try.func19, Try.ntmps19
 go_wp2_with fail
 go_loopw [5] (fun i wr => ∃ (k : Nat) (x : Xtra), k ≤ n ∧ i = .int .i64 k ∧ Kp (l.take k = m.take k) ∧ wr = more w x) (fun i _ => n - (intOf i).toNat)
 case atStart => exact ⟨0, _, by omega, rfl, kp (by simp), by rw [← more_self]⟩
 case round =>
  obtain ⟨k, x, hk, rfl, HT, rfl⟩ := hrel
  by_cases hlt : k < n
  ·obtain ⟨y, hy⟩ : ∃ y, l[k]? = some y := ⟨l[k]'(by rw [← HN.out]; omega), by simp⟩
   obtain ⟨z, hz⟩ : ∃ z, m[k]? = some z := ⟨m[k]'(by rw [HLM.out, ← HN.out]; omega), by simp⟩
   have c1 := H1.out k y hy
   have c2 := H2.out k z hz
   have HY := kp hy
   have HZ := kp hz
   clear hy hz
   by_cases hyz : y = z
   ·subst hyz
    have hbb : (y != y) = false := by simp
    go_wp2_with fail
    (first | with_reducible refine region_f2 9 (by kernel_rfl) (by kernel_rfl) (by kernel_rfl) (by kernel_rfl) (by decide) (Nat.le_of_ble_eq_true (by kernel_rfl)) ?_ | refine region_f 9 (by kernel_rfl) (by kernel_rfl) (by kernel_rfl) (by kernel_rfl) (by decide) (Nat.le_of_ble_eq_true (by kernel_rfl)) ?_)
    apply Exists.intro
    refine ⟨fun xz2 => ?_, fun xq2 => ?_⟩
    ·simp only [List.take_succ_cons, List.take_zero]
     unfold Cx
     repeat (go_big_quiet_step (fail))
     exact wpQuiet_nil rfl
    simp only [List.drop_succ_cons, List.drop_zero]
    go_wp2_with fail
    go_roundw
    case rel => exact ⟨k + 1, _, by omega, by go_num, kp (take_step HT.out HY.out HZ.out), rfl⟩
    case measure => simp [intOf]; omega
   ·have hbb : (y != z) = true := by simpa using hyz
    have HF := kp (show (l == m) = false by
     rw [beq_eq_false_iff_ne]; intro e; subst e
     exact hyz (Option.some.inj (HY.out.symm.trans HZ.out)))
    clear hyz
    go_wp2_with fail
    (first | with_reducible refine region_f2 9 (by kernel_rfl) (by kernel_rfl) (by kernel_rfl) (by kernel_rfl) (by decide) (Nat.le_of_ble_eq_true (by kernel_rfl)) ?_ | refine region_f 9 (by kernel_rfl) (by kernel_rfl) (by kernel_rfl) (by kernel_rfl) (by decide) (Nat.le_of_ble_eq_true (by kernel_rfl)) ?_)
    apply Exists.intro
    refine ⟨fun xz3 => ?_, fun xq3 => ?_⟩
    ·simp only [List.take_succ_cons, List.take_zero]
     unfold Cx
     repeat (go_big_quiet_step (fail))
     exact wpQuiet_nil rfl
    simp only [List.drop_succ_cons, List.drop_zero]
    go_wp2_with fail
    go_ret
    exact ⟨by rw [HF.out]; rfl, Ext.more _ _⟩
  ·obtain rfl : k = n := by omega
   have HF := kp (show (l == m) = true by
    have h := HT.out
    rw [List.take_of_length_le (by rw [HN.out]; exact Nat.le_refl _), List.take_of_length_le (by rw [HLM.out, HN.out]; exact Nat.le_refl _)] at h
    rw [h]; simp)
   go_wp2_with fail
   go_ret
   exact ⟨by rw [HF.out]; rfl, Ext.more _ _⟩
theorem same22_any {w : World} {va vb : Value} {l m : List (BitVec 8)} (ha : SlB w va l) (hb : SlB w vb m) (hl : l.length ≤ 1000000000) :
  Calls Try.prog 19 #[va, vb] w fun e w' => e = .returned (.bool (l == m)) ∧ Ext w w' := by
 obtain ⟨aa, ca, ea⟩ := ha.form
 obtain ⟨ab, cb, eb⟩ := hb.form
 by_cases hlm : l.length = m.length
 ·by_cases h0 : l.length = 0
  ·have e1 : l = [] := List.eq_nil_of_length_eq_zero h0
   have e2 : m = [] := List.eq_nil_of_length_eq_zero (by omega)
   subst e1 e2
   rw [ea, eb]
   exact (same22_nil aa ab ca cb w).mono fun e w' ⟨h1, h2⟩ => ⟨h1, h2 ▸ Ext.refl w⟩
  ·rcases ha with ⟨rfl, _⟩ | ⟨b1, o1, c1, rfl, hb1, hc1⟩
   ·exact absurd rfl h0
   ·rcases hb with ⟨rfl, _⟩ | ⟨b2, o2, c2, rfl, hb2, hc2⟩
    ·exact absurd hlm h0
    ·rw [← hlm]
     exact same22_run b1 o1 c1 b2 o2 c2 l m hl hlm.symm w hb1 hb2 hc1 hc2
 ·rw [ea, eb]
  refine (same22_diff aa ab ca cb l.length m.length hlm w).mono fun e w' ⟨h1, h2⟩ => ⟨?_, h2 ▸ Ext.refl w⟩
  rw [h1, show (l == m) = false by rw [beq_eq_false_iff_ne]; intro e; exact hlm (by rw [e])]
end Go.Proofs.Ytibncchobkaaiaa
namespace Go.Proofs.Ytibncchobkaaiaa
open Go.RowKit
theorem SlB.chg {w w' : World} {v : Value} {l : By} (h : SlB w v l) (hc : Chg w.heap.size w w') : SlB w' v l := by
 rcases h with h | ⟨b, o, c, e, hb, hh⟩
 ·exact .inl h
 ·exact .inr ⟨b, o, c, e, Nat.lt_of_lt_of_le hb hc.1, fun j x hj => (hc.cell hb).trans (hh j x hj)⟩
def OneM (w : World) (b : Nat) (u : Value) (m : By) : Prop := b < w.heap.size ∧ w.cell? ⟨b, 0, none⟩ = some u ∧ SlB w u m
theorem OneM.chg {w w' : World} {b : Nat} {u : Value} {m : By} (h : OneM w b u m) (hc : Chg w.heap.size w w') : OneM w' b u m :=
 ⟨Nat.lt_of_lt_of_le h.1 hc.1, (hc.cell h.1).trans h.2.1, h.2.2.chg hc⟩
theorem OneM.of {B : Nat} {w : World} {v : Value} {m : By} {ls : List By} (h : SlBB B w v (m :: ls)) : ∃ b c u, v = .slice (some ⟨b, 0, none⟩) (m :: ls).length c ∧ OneM w b u m := by
 obtain ⟨b, c, u, rfl, hc, ho⟩ := h.first
 exact ⟨b, c, u, rfl, owns_blk h, hc, SlB.of_owns ho⟩
theorem Chg.past {lo g : Nat} {a b c d : World} (h : Chg lo a b) (hx : Ext b c) (hw : Wrote c d g) (hg : lo ≤ g) : Chg lo a d := (h.ext hx).wrote hw hg
theorem ms1_ne (p : Pr) {j k : Int} (h : j ≠ k) (j0 : 0 ≤ j) (j8 : j ≤ 8) (k0 : 0 ≤ k) (k8 : k ≤ 8) : (ms1 p j == ms1 p k) = false := by
 rw [beq_eq_false_iff_ne]
 intro e
 have := congrArg countP e
 rw [count_ms1 p j0 j8, count_ms1 p k0 k8] at this
 exact h this
def i64c (x : Int) : List Value := [.int .i64 x]
def boolc (x : Bool) : List Value := [.bool x]
theorem SlT.at1 {α : Type} {f : α → Value} {w : World} {v : Value} {xs : List α} (h : SlT 1 (fun x => [f x]) w v xs) {j : Nat} {x : α} (hj : xs[j]? = some x) : ∃ b off c, v = .slice (some ⟨b, off, none⟩) xs.length c ∧ b < w.heap.size ∧ w.cell? ⟨b, off + j, none⟩ = some (f x) := by
 obtain ⟨ad, n, c, rfl, rfl, _, h4⟩ := h
 obtain ⟨b, off, rfl, hb, hr⟩ := h4 j x hj
 refine ⟨b, off, c, rfl, hb, ?_⟩
 have := hr 0 (f x) rfl
 simpa using this
theorem SlT.form {α : Type} {sz : Nat} {f : α → List Value} {w : World} {v : Value} {xs : List α} (h : SlT sz f w v xs) : ∃ ad c, v = .slice ad xs.length c := by
 obtain ⟨ad, n, c, rfl, rfl, _, _⟩ := h
 exact ⟨ad, c, rfl⟩
end Go.Proofs.Ytibncchobkaaiaa
