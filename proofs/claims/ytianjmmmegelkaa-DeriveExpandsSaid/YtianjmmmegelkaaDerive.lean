/- Contracts of hotspotref23.Same, Great and derive.two, join, Input. -/
import Derived.Test.YtianjmmmegelkaaProg
import Derived.Test.YtianjmmmegelkaaSlices
import Derived.Outline
import Derived.LoopTactic
namespace Go.Proofs.Ytianjmmmegelkaa
open Go.RowKit

theorem ret_bool {a b : Bool} (h : a = b) : Ending.returned (.bool a) = .returned (.bool b) := by rw [h]
theorem take_step {α : Type} {l m : List α} {k : Nat} {x : α} (h : l.take k = m.take k) (hl : l[k]? = some x) (hm : m[k]? = some x) : l.take (k + 1) = m.take (k + 1) := by
  rw [List.take_add_one, List.take_add_one, h, hl, hm]

set_option maxHeartbeats 800000 in
theorem same_diff (aa ab : Option Addr) (ca cb : Nat) (n m : Nat) (hne : n ≠ m) (w : World) :
    Calls Try.prog 11 #[.slice aa n ca, .slice ab m cb] w fun e w' => e = .returned (.bool false) ∧ w' = w := by
  have h1 : ((n : Int) != (m : Int)) = true := by rw [bne_iff_ne]; omega
  go_enter Try.func11, Try.ntmps11
  go_wp2_with fail
  go_ret
  exact ⟨rfl, rfl⟩
set_option maxHeartbeats 800000 in
theorem same_nil (aa ab : Option Addr) (ca cb : Nat) (w : World) :
    Calls Try.prog 11 #[.slice aa 0 ca, .slice ab 0 cb] w fun e w' => e = .returned (.bool true) ∧ w' = w := by
  go_enter Try.func11, Try.ntmps11
  go_wp2_with fail
  refine wp_loop_once ?_
  go_wp2_with fail
  go_ret
  exact ⟨rfl, rfl⟩
set_option maxHeartbeats 800000 in
theorem same_run (b1 o1 c1 b2 o2 c2 : Nat) (l m : List (BitVec 8)) (hl : l.length ≤ 1000000000) (hlm : m.length = l.length) (w : World) (hb1 : b1 < w.heap.size) (hb2 : b2 < w.heap.size)
    (h1 : ∀ (j : Nat) x, l[j]? = some x → w.cell? ⟨b1, o1 + j, none⟩ = some (V8 x)) (h2 : ∀ (j : Nat) x, m[j]? = some x → w.cell? ⟨b2, o2 + j, none⟩ = some (V8 x)) :
    Calls Try.prog 11 #[.slice (some ⟨b1, o1, none⟩) l.length c1, .slice (some ⟨b2, o2, none⟩) l.length c2] w fun e w' => e = .returned (.bool (l == m)) ∧ Ext w w' := by
  have H1 := kp h1
  have H2 := kp h2
  have HLM := kp hlm
  obtain ⟨n, hn⟩ : ∃ n, n = l.length := ⟨_, rfl⟩
  rw [← hn] at hl ⊢
  have HN := kp hn
  clear h1 h2 hlm hn
  go_enter Try.func11, Try.ntmps11
  go_wp2_with fail
  go_loopw [5] (fun i wr => ∃ (k : Nat) (x : Xtra), k ≤ n ∧ i = .int .i64 k ∧ Kp (l.take k = m.take k) ∧ wr = more w x) (fun i _ => n - (intOf i).toNat)
  case atStart => exact ⟨0, _, by omega, rfl, kp (by simp), by rw [← more_self]⟩
  case round =>
    obtain ⟨k, x, hk, rfl, HT, rfl⟩ := hrel
    by_cases hlt : k < n
    · obtain ⟨y, hy⟩ : ∃ y, l[k]? = some y := ⟨l[k]'(by rw [← HN.out]; omega), by simp⟩
      obtain ⟨z, hz⟩ : ∃ z, m[k]? = some z := ⟨m[k]'(by rw [HLM.out, ← HN.out]; omega), by simp⟩
      have c1 := H1.out k y hy
      have c2 := H2.out k z hz
      have HY := kp hy
      have HZ := kp hz
      clear hy hz
      by_cases hyz : y = z
      · subst hyz
        have hbb : (y != y) = false := by simp
        go_wp2_with fail
        (first | with_reducible refine region_f2 9 (by kernel_rfl) (by kernel_rfl) (by kernel_rfl) (by kernel_rfl) (by decide) (Nat.le_of_ble_eq_true (by kernel_rfl)) ?_ | refine region_f 9 (by kernel_rfl) (by kernel_rfl) (by kernel_rfl) (by kernel_rfl) (by decide) (Nat.le_of_ble_eq_true (by kernel_rfl)) ?_)
        apply Exists.intro
        refine ⟨fun xz2 => ?_, fun xq2 => ?_⟩
        · simp only [List.take_succ_cons, List.take_zero]
          unfold Cx
          repeat (go_big_quiet_step (fail))
          exact wpQuiet_nil rfl
        simp only [List.drop_succ_cons, List.drop_zero]
        go_wp2_with fail
        go_roundw
        case rel => exact ⟨k + 1, _, by omega, by go_num, kp (take_step HT.out HY.out HZ.out), rfl⟩
        case measure => simp [intOf]; omega
      · have hbb : (y != z) = true := by simpa using hyz
        have HF := kp (show (l == m) = false by
          rw [beq_eq_false_iff_ne]; intro e; subst e
          exact hyz (Option.some.inj (HY.out.symm.trans HZ.out)))
        clear hyz
        go_wp2_with fail
        (first | with_reducible refine region_f2 9 (by kernel_rfl) (by kernel_rfl) (by kernel_rfl) (by kernel_rfl) (by decide) (Nat.le_of_ble_eq_true (by kernel_rfl)) ?_ | refine region_f 9 (by kernel_rfl) (by kernel_rfl) (by kernel_rfl) (by kernel_rfl) (by decide) (Nat.le_of_ble_eq_true (by kernel_rfl)) ?_)
        apply Exists.intro
        refine ⟨fun xz3 => ?_, fun xq3 => ?_⟩
        · simp only [List.take_succ_cons, List.take_zero]
          unfold Cx
          repeat (go_big_quiet_step (fail))
          exact wpQuiet_nil rfl
        simp only [List.drop_succ_cons, List.drop_zero]
        go_wp2_with fail
        go_ret
        exact ⟨by rw [HF.out]; rfl, Ext.more _ _⟩
    · obtain rfl : k = n := by omega
      have HF := kp (show (l == m) = true by
        have h := HT.out
        rw [List.take_of_length_le (by rw [HN.out]; exact Nat.le_refl _), List.take_of_length_le (by rw [HLM.out, HN.out]; exact Nat.le_refl _)] at h
        rw [h]; simp)
      go_wp2_with fail
      go_ret
      exact ⟨by rw [HF.out]; rfl, Ext.more _ _⟩
/-- Same: as the bytes are. -/
theorem same_any {w : World} {va vb : Value} {l m : List (BitVec 8)} (ha : SlB w va l) (hb : SlB w vb m) (hl : l.length ≤ 1000000000) :
    Calls Try.prog 11 #[va, vb] w fun e w' => e = .returned (.bool (l == m)) ∧ Ext w w' := by
  obtain ⟨aa, ca, ea⟩ := ha.form
  obtain ⟨ab, cb, eb⟩ := hb.form
  by_cases hlm : l.length = m.length
  · by_cases h0 : l.length = 0
    · have e1 : l = [] := List.eq_nil_of_length_eq_zero h0
      have e2 : m = [] := List.eq_nil_of_length_eq_zero (by omega)
      subst e1 e2
      rw [ea, eb]
      exact (same_nil aa ab ca cb w).mono fun e w' ⟨h1, h2⟩ => ⟨h1, h2 ▸ Ext.refl w⟩
    · rcases ha with ⟨rfl, _⟩ | ⟨b1, o1, c1, rfl, hb1, hc1⟩
      · exact absurd rfl h0
      · rcases hb with ⟨rfl, _⟩ | ⟨b2, o2, c2, rfl, hb2, hc2⟩
        · exact absurd hlm h0
        · rw [← hlm]
          exact same_run b1 o1 c1 b2 o2 c2 l m hl hlm.symm w hb1 hb2 hc1 hc2
  · rw [ea, eb]
    refine (same_diff aa ab ca cb l.length m.length hlm w).mono fun e w' ⟨h1, h2⟩ => ⟨?_, h2 ▸ Ext.refl w⟩
    rw [h1, show (l == m) = false by rw [beq_eq_false_iff_ne]; intro e; exact hlm (by rw [e])]

/-- Great: a label of more than 100 bytes or a context of more than 600. -/
def greatB (n m : Nat) : Bool := decide (100 < n) || decide (600 < m)
set_option maxHeartbeats 800000 in
theorem great_any (s : ByteArray) (hs : s.size ≤ 9223372036854775807) (a : Option Addr) (n c : Nat) (w : World) :
    Calls Try.prog 10 #[.string s, .slice a n c] w fun e w' => e = .returned (.bool (greatB s.size n)) ∧ w' = w := by
  by_cases h1 : 100 < s.size
  · have HG := kp (show greatB s.size n = true by simp [greatB, h1])
    go_enter Try.func10, Try.ntmps10
    go_wp2_with fail
    go_ret
    exact ⟨by rw [HG.out]; rfl, rfl⟩
  · by_cases h2 : 600 < n
    · have HG := kp (show greatB s.size n = true by simp [greatB, h2])
      go_enter Try.func10, Try.ntmps10
      go_wp2_with fail
      go_ret
      exact ⟨ret_bool (by rw [HG.out]; simp; omega), rfl⟩
    · have HG := kp (show greatB s.size n = false by simp [greatB, h1, h2])
      go_enter Try.func10, Try.ntmps10
      go_wp2_with fail
      go_ret
      exact ⟨ret_bool (by rw [HG.out]; simp; omega), rfl⟩

/-- A number in two bytes. -/
def twoF (n : Int) : List (BitVec 8) := [BitVec.ofInt 8 n, BitVec.ofInt 8 (n / 256)]
theorem wI_ofInt8 (n : Int) : wI (BitVec.ofInt 8 n) = n % 256 := by
  unfold wI; rw [BitVec.toNat_ofInt]; omega
set_option maxHeartbeats 800000 in
theorem two_any (n : Int) (w : World) :
    Calls Try.prog 24 #[.int .i64 n] w fun e w' => e = .returned (.slice (some ⟨w.heap.size, 0, none⟩) 2 2) ∧ w' = w.alloc (.cells ((twoF n).map V8).toArray 5) := by
  go_enter Try.func24, Try.ntmps24
  go_wp2_with fail
  go_ret
  refine ⟨rfl, ?_⟩
  show _ = w.alloc (.cells #[.int .u8 (wI (BitVec.ofInt 8 n)), .int .u8 (wI (BitVec.ofInt 8 (n / 256)))] 5)
  rw [wI_ofInt8, wI_ofInt8]

/-- The parts of a join: slice values, each reading as its bytes. -/
def Parts (w : World) (vs : List Value) (ls : List (List (BitVec 8))) : Prop := vs.length = ls.length ∧ ∀ (j : Nat) v l, vs[j]? = some v → ls[j]? = some l → SlB w v l
theorem Parts.ext {w w' : World} {vs : List Value} {ls : List (List (BitVec 8))} (h : Parts w vs ls) (hx : Ext w w') : Parts w' vs ls :=
  ⟨h.1, fun j v l h1 h2 => (h.2 j v l h1 h2).ext hx⟩
theorem parts5 {w : World} {v0 v1 v2 v3 v4 : Value} {l0 l1 l2 l3 l4 : List (BitVec 8)} (h0 : SlB w v0 l0) (h1 : SlB w v1 l1) (h2 : SlB w v2 l2) (h3 : SlB w v3 l3) (h4 : SlB w v4 l4) : Parts w [v0, v1, v2, v3, v4] [l0, l1, l2, l3, l4] := by
  refine ⟨rfl, fun j v l hv hl => ?_⟩
  match j with
  | 0 => cases hv; cases hl; exact h0
  | 1 => cases hv; cases hl; exact h1
  | 2 => cases hv; cases hl; exact h2
  | 3 => cases hv; cases hl; exact h3
  | 4 => cases hv; cases hl; exact h4
  | n + 5 => simp at hv
theorem flat_take_le (ls : List (List (BitVec 8))) (k : Nat) : (ls.take k).flatten.length ≤ ls.flatten.length := by
  conv => rhs; rw [← List.take_append_drop k ls, List.flatten_append, List.length_append]
  omega
theorem info_u8 : (Try.prog.info? 5).map (fun i => (i.zero, i.size, i.bytes)) = some (some (.int .u8 0), 1, 1) := by kernel_rfl

set_option maxHeartbeats 1600000 in
theorem djoin_any (b c : Nat) (vs : List Value) (ls : List (List (BitVec 8))) (w : World) (hb : w.heap[b]? = some (.cells vs.toArray 22 (0, 0))) (hp : Parts w vs ls) (hn : vs.length ≤ 1000) (hlen : ls.flatten.length ≤ 1000000) :
    Calls Try.prog 23 #[.slice (some ⟨b, 0, none⟩) vs.length c] w (RetB ls.flatten w) := by
  obtain ⟨iu, hiu, hu⟩ : ∃ iu, Try.prog.info? 5 = some iu ∧ iu.zero = some (.int .u8 0) ∧ iu.size = 1 ∧ iu.bytes = 1 := by
    have h := info_u8
    cases hq : Try.prog.info? 5 with
    | none => simp [hq] at h
    | some iu => simp [hq] at h; exact ⟨iu, rfl, h⟩
  have HIU := kp hiu
  have HU := kp hu
  have HB := kp hb
  have HP := kp hp
  have HLEN := kp hlen
  obtain ⟨n, hnn⟩ : ∃ n, n = vs.length := ⟨_, rfl⟩
  rw [← hnn] at hn ⊢
  have HN := kp hnn
  have hbs : b < w.heap.size := by rw [Array.getElem?_eq_some_iff] at hb; exact hb.1
  clear hiu hu hb hp hlen hnn
  go_enter Try.func23, Try.ntmps23
  go_wp2_with fail
  go_loopw [2, 7] (fun v i wr => ∃ (k : Nat) (x : Xtra), k ≤ n ∧ i = .int .i64 k ∧ Kp (wr.ownsRow w.heap.size 5 1 v (ls.take k).flatten.length ((ls.take k).flatten.map V8)) ∧ wr = more w x) (fun _ i _ => n - (intOf i).toNat)
  case atStart => exact ⟨0, _, by omega, rfl, kp (owns_nil _ _ _), by rw [← more_self]⟩
  case round =>
    obtain ⟨k, x, hk, rfl, HO, rfl⟩ := hrel
    by_cases hlt : k < n
    · obtain ⟨y, hy⟩ : ∃ y, vs[k]? = some y := ⟨vs[k]'(by rw [← HN.out]; omega), by simp⟩
      obtain ⟨l, hl⟩ : ∃ l, ls[k]? = some l := ⟨ls[k]'(by rw [← HP.out.1, ← HN.out]; omega), by simp⟩
      have HS := kp ((HP.out.2 k y l hy hl).ext (Ext.more w x))
      have hc : w.cell? ⟨b, k, none⟩ = some y := by rw [cell_of_row w b k vs.toArray _ _ HB.out]; simpa using hy
      obtain ⟨ay, cy, hyf⟩ := HS.out.form
      have HT := kp (show (ls.take (k + 1)).flatten = (ls.take k).flatten ++ l by rw [List.take_add_one, hl]; simp)
      have HLE := kp (show (ls.take k).flatten.length + l.length ≤ 1000000 by
        have h1 := flat_take_le ls (k + 1)
        rw [HT.out, List.length_append] at h1
        have h2 := HLEN.out
        omega)
      clear hy hl
      subst hyf
      go_wp2_with (at_builtin; refine wpList_append_SlB rfl _ _ 22 rfl w.heap.size 5 iu Try.underlying22 HIU.out HU.out.1 HU.out.2.1 HU.out.2.2 _ _ rfl HO.out _ l rfl HS.out HLE.out (by simp) ?_; intro v' w1 ho1 hg1)
      obtain ⟨x1, hx1⟩ := (Ext.more w x).grown hg1 (fun q hq => owns_block HO.out q hq)
      go_roundw
      case rel => exact ⟨k + 1, x1, by omega, by go_num, kp (by rw [HT.out]; exact ho1), hx1⟩
      case measure => simp [intOf]; omega
    · obtain rfl : k = n := by omega
      have HE := kp (show (ls.take k).flatten = ls.flatten by rw [List.take_of_length_le (by rw [← HP.out.1, ← HN.out]; exact Nat.le_refl _)])
      go_wp2_with fail
      go_ret
      exact ⟨_, rfl, SlB.of_owns (by rw [← HE.out]; exact HO.out), Ext.more _ _⟩

/-- The input of a label, a context and a number. -/
def inputF (s : ByteArray) (c : List (BitVec 8)) (i : Int) : List (BitVec 8) := [[BitVec.ofInt 8 s.size], strB s, twoF c.length, c, twoF i].flatten

set_option maxHeartbeats 1600000 in
theorem input_any (s : ByteArray) (hs : s.size ≤ 100000) (vc : Value) (c : List (BitVec 8)) (hc : c.length ≤ 100000) (i : Int) (w : World) (hv : SlB w vc c) :
    Calls Try.prog 12 #[.string s, vc, .int .i64 i] w (RetB (inputF s c i) w) := by
  obtain ⟨ac, cc, rfl⟩ := hv.form
  have HV := kp hv
  have HI := kp (show inputF s c i = [[BitVec.ofInt 8 s.size], strB s, twoF c.length, c, twoF i].flatten from rfl)
  have HW1 := kp (wI_ofInt8 (s.size : Int))
  clear hv
  go_enter Try.func12, Try.ntmps12
  go_wp2_with (first | (refine wpList_strB rfl 9 22 5 _ rfl s rfl Try.underlying9 Try.underlying22 Try.underlying5 ?_; intro b1 cap1 y1 HS1; simp only [Act.put, List.setIfInBounds_toArray, List.set_cons_zero, List.set_cons_succ]) | (go_at_call 24; refine (two_any _ _).mono ?_; rintro e w' ⟨rfl, rfl⟩))
  have hA : (#[Value.int .u8 ((s.size : Int) % 256)] : Array Value) = ([BitVec.ofInt 8 s.size].map V8).toArray := by
    show _ = #[Value.int .u8 (wI (BitVec.ofInt 8 s.size))]
    rw [HW1.out]
  rw [hA]
  rw [hA] at HS1
  refine Calls.mono (djoin_any _ 5 [_, _, _, _, _] [[BitVec.ofInt 8 s.size], strB s, twoF c.length, c, twoF i] _ (hp_at _ _ _ (by simp)) (parts5 ?p1 ?p2 ?p3 ?p4 ?p5) (by simp) (by simp [twoF, strB_len]; omega)) ?post
  case p1 => exact SlB.of_block (l := [BitVec.ofInt 8 s.size]) (hp_alloc (hp_alloc (hp_alloc (hp_more (hp_new _ _)))))
  case p2 => exact HS1.out.ext (((Ext.alloc _ _).trans (Ext.alloc _ _)).trans (Ext.alloc _ _))
  case p3 => exact SlB.of_block (l := twoF c.length) (hp_alloc (hp_alloc (hp_at _ _ _ (by simp))))
  case p4 => exact HV.out.ext (((((Ext.alloc _ _).trans (Ext.more _ _)).trans (Ext.alloc _ _)).trans (Ext.alloc _ _)).trans (Ext.alloc _ _))
  case p5 => exact SlB.of_block (l := twoF i) (hp_alloc (hp_at _ _ _ (by simp)))
  case post =>
    rintro e w' ⟨v, rfl, hsl, hx⟩
    have HSL := kp hsl
    have HX := kp hx
    clear hsl hx
    go_wp2_with fail
    go_ret
    exact ⟨v, rfl, HSL.out, (((((Ext.alloc _ _).trans (Ext.more _ _)).trans (Ext.alloc _ _)).trans (Ext.alloc _ _)).trans (Ext.alloc _ _)).trans HX.out⟩
end Go.Proofs.Ytianjmmmegelkaa
