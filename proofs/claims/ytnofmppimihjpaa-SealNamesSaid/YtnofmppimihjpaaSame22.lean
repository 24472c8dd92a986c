/- hotspotref22.Same, Great; the law's twin; slices that come in. -/
import Derived.Test.YtnofmppimihjpaaPlain22
import Derived.Test.YtnofmppimihjpaaOpen
namespace Go.Proofs.Ytnofmppimihjpaa
open Go.RowKit

set_option maxHeartbeats 800000 in
theorem same22_diff (aa ab : Option Addr) (ca cb : Nat) (n m : Nat) (hne : n ≠ m) (w : World) :
    Calls Try.prog 19 #[.slice aa n ca, .slice ab m cb] w fun e w' => e = .returned (.bool false) ∧ w' = w := by
  have h1 : ((n : Int) != (m : Int)) = true := by rw [bne_iff_ne]; omega
  go_enter Try.func19, Try.ntmps19
  go_wp2_with fail
  go_ret
  exact ⟨rfl, rfl⟩
set_option maxHeartbeats 800000 in
theorem same22_nil (aa ab : Option Addr) (ca cb : Nat) (w : World) :
    Calls Try.prog 19 #[.slice aa 0 ca, .slice ab 0 cb] w fun e w' => e = .returned (.bool true) ∧ w' = w := by
  go_enter Try.func19, Try.ntmps19
  go_wp2_with fail
  refine wp_loop_once ?_
  go_wp2_with fail
  go_ret
  exact ⟨rfl, rfl⟩
set_option maxHeartbeats 800000 in
theorem same22_run (b1 o1 c1 b2 o2 c2 : Nat) (l m : List (BitVec 8)) (hl : l.length ≤ 1000000000) (hlm : m.length = l.length) (w : World) (hb1 : b1 < w.heap.size) (hb2 : b2 < w.heap.size)
    (h1 : ∀ (j : Nat) x, l[j]? = some x → w.cell? ⟨b1, o1 + j, none⟩ = some (V8 x)) (h2 : ∀ (j : Nat) x, m[j]? = some x → w.cell? ⟨b2, o2 + j, none⟩ = some (V8 x)) :
    Calls Try.prog 19 #[.slice (some ⟨b1, o1, none⟩) l.length c1, .slice (some ⟨b2, o2, none⟩) l.length c2] w fun e w' => e = .returned (.bool (l == m)) ∧ Ext w w' := by
  have H1 := kp h1
  have H2 := kp h2
  have HLM := kp hlm
  obtain ⟨n, hn⟩ : ∃ n, n = l.length := ⟨_, rfl⟩
  rw [← hn] at hl ⊢
  have HN := kp hn
  clear h1 h2 hlm hn
  go_enter Try.func19, Try.ntmps19
  go_wp2_with fail
  go_loopw [5] (fun i wr => ∃ (k : Nat) (x : Xtra), k ≤ n ∧ i = .int .i64 k ∧ Kp (l.take k = m.take k) ∧ wr = more w x) (fun i _ => n - (intOf i).toNat)
  case atStart => exact ⟨0, _, by omega, rfl, kp (by simp), by rw [← more_self]⟩
  case round =>
    obtain ⟨k, x, hk, rfl, HT, rfl⟩ := hrel
    by_cases hlt : k < n
    · obtain ⟨y, hy⟩ : ∃ y, l[k]? = some y := ⟨l[k]'(by rw [← HN.out]; omega), by simp⟩
      obtain ⟨z, hz⟩ : ∃ z, m[k]? = some z := ⟨m[k]'(by rw [HLM.out, ← HN.out]; omega), by simp⟩
      have c1 := H1.out k y hy
      have c2 := H2.out k z hz
      have HY := kp hy
      have HZ := kp hz
      clear hy hz
      by_cases hyz : y = z
      · subst hyz
        have hbb : (y != y) = false := by simp
        go_wp2_with fail
        (first | with_reducible refine region_f2 9 (by kernel_rfl) (by kernel_rfl) (by kernel_rfl) (by kernel_rfl) (by decide) (Nat.le_of_ble_eq_true (by kernel_rfl)) ?_ | refine region_f 9 (by kernel_rfl) (by kernel_rfl) (by kernel_rfl) (by kernel_rfl) (by decide) (Nat.le_of_ble_eq_true (by kernel_rfl)) ?_)
        apply Exists.intro
        refine ⟨fun xz2 => ?_, fun xq2 => ?_⟩
        · simp only [List.take_succ_cons, List.take_zero]
          unfold Cx
          repeat (go_big_quiet_step (fail))
          exact wpQuiet_nil rfl
        simp only [List.drop_succ_cons, List.drop_zero]
        go_wp2_with fail
        go_roundw
        case rel => exact ⟨k + 1, _, by omega, by go_num, kp (take_step HT.out HY.out HZ.out), rfl⟩
        case measure => simp [intOf]; omega
      · have hbb : (y != z) = true := by simpa using hyz
        have HF := kp (show (l == m) = false by
          rw [beq_eq_false_iff_ne]; intro e; subst e
          exact hyz (Option.some.inj (HY.out.symm.trans HZ.out)))
        clear hyz
        go_wp2_with fail
        (first | with_reducible refine region_f2 9 (by kernel_rfl) (by kernel_rfl) (by kernel_rfl) (by kernel_rfl) (by decide) (Nat.le_of_ble_eq_true (by kernel_rfl)) ?_ | refine region_f 9 (by kernel_rfl) (by kernel_rfl) (by kernel_rfl) (by kernel_rfl) (by decide) (Nat.le_of_ble_eq_true (by kernel_rfl)) ?_)
        apply Exists.intro
        refine ⟨fun xz3 => ?_, fun xq3 => ?_⟩
        · simp only [List.take_succ_cons, List.take_zero]
          unfold Cx
          repeat (go_big_quiet_step (fail))
          exact wpQuiet_nil rfl
        simp only [List.drop_succ_cons, List.drop_zero]
        go_wp2_with fail
        go_ret
        exact ⟨by rw [HF.out]; rfl, Ext.more _ _⟩
    · obtain rfl : k = n := by omega
      have HF := kp (show (l == m) = true by
        have h := HT.out
        rw [List.take_of_length_le (by rw [HN.out]; exact Nat.le_refl _), List.take_of_length_le (by rw [HLM.out, HN.out]; exact Nat.le_refl _)] at h
        rw [h]; simp)
      go_wp2_with fail
      go_ret
      exact ⟨by rw [HF.out]; rfl, Ext.more _ _⟩
/-- Same: as the bytes are. -/
theorem same22_any {w : World} {va vb : Value} {l m : List (BitVec 8)} (ha : SlB w va l) (hb : SlB w vb m) (hl : l.length ≤ 1000000000) :
    Calls Try.prog 19 #[va, vb] w fun e w' => e = .returned (.bool (l == m)) ∧ Ext w w' := by
  obtain ⟨aa, ca, ea⟩ := ha.form
  obtain ⟨ab, cb, eb⟩ := hb.form
  by_cases hlm : l.length = m.length
  · by_cases h0 : l.length = 0
    · have e1 : l = [] := List.eq_nil_of_length_eq_zero h0
      have e2 : m = [] := List.eq_nil_of_length_eq_zero (by omega)
      subst e1 e2
      rw [ea, eb]
      exact (same22_nil aa ab ca cb w).mono fun e w' ⟨h1, h2⟩ => ⟨h1, h2 ▸ Ext.refl w⟩
    · rcases ha with ⟨rfl, _⟩ | ⟨b1, o1, c1, rfl, hb1, hc1⟩
      · exact absurd rfl h0
      · rcases hb with ⟨rfl, _⟩ | ⟨b2, o2, c2, rfl, hb2, hc2⟩
        · exact absurd hlm h0
        · rw [← hlm]
          exact same22_run b1 o1 c1 b2 o2 c2 l m hl hlm.symm w hb1 hb2 hc1 hc2
  · rw [ea, eb]
    refine (same22_diff aa ab ca cb l.length m.length hlm w).mono fun e w' ⟨h1, h2⟩ => ⟨?_, h2 ▸ Ext.refl w⟩
    rw [h1, show (l == m) = false by rw [beq_eq_false_iff_ne]; intro e; exact hlm (by rw [e])]


/-- Great: as the sizes are. -/
def great22B (n m : Nat) : Bool := decide (400 < n) || (decide (1000 < m) && decide (m ≤ 4096)) || decide (4200 < m)
set_option maxHeartbeats 800000 in
theorem great22_any (a b : Option Addr) (n c m d : Nat) (w : World) :
    Calls Try.prog 11 #[.slice a n c, .slice b m d] w fun e w' => e = .returned (.bool (great22B n m)) ∧ w' = w := by
  have HG := kp (show great22B n m = (decide (400 < n) || (decide (1000 < m) && decide (m ≤ 4096)) || decide (4200 < m)) from rfl)
  by_cases h1 : 400 < (n : Int)
  case pos =>
    have HF := kp (show great22B n m = true by simp [great22B]; omega)
    go_enter Try.func11, Try.ntmps11
    go_wp2_with fail
    go_ret
    exact ⟨ret_bool (by rw [HF.out] <;> rfl), rfl⟩
  by_cases h2 : 1000 < (m : Int)
  case neg =>
    have h3 : ¬ 4200 < (m : Int) := by omega
    have HF := kp (show great22B n m = false by simp [great22B]; omega)
    go_enter Try.func11, Try.ntmps11
    go_wp2_with fail
    go_ret
    exact ⟨ret_bool (by rw [HF.out] <;> rfl), rfl⟩
  by_cases h3 : (m : Int) ≤ 4096
  case pos =>
    have HF := kp (show great22B n m = true by simp [great22B]; omega)
    go_enter Try.func11, Try.ntmps11
    go_wp2_with fail
    go_ret
    exact ⟨ret_bool (by rw [HF.out] <;> rfl), rfl⟩
  by_cases h4 : 4200 < (m : Int)
  case pos =>
    have HF := kp (show great22B n m = true by simp [great22B]; omega)
    go_enter Try.func11, Try.ntmps11
    go_wp2_with fail
    go_ret
    exact ⟨ret_bool (by rw [HF.out] <;> rfl), rfl⟩
  have HF := kp (show great22B n m = false by simp [great22B]; omega)
  go_enter Try.func11, Try.ntmps11
  go_wp2_with fail
  go_ret
  exact ⟨ret_bool (by rw [HF.out] <;> rfl), rfl⟩
set_option maxHeartbeats 800000 in
theorem twin22_any (v : Value) (bs : List (BitVec 8)) (hn : bs.length ≤ 100000) (w : World) (hs : SlB w v bs) : Calls Try.prog 12 #[v] w (RetO bs w) := by
  obtain ⟨iu, hiu, hu⟩ := info_iu
  have HIU := kp hiu
  have HU := kp hu
  obtain ⟨ad, cap, rfl⟩ := hs.form
  have HS := kp (hs.ext (Ext.alloc w (.cells #[] 5)))
  have HOE := kp (owns_empty w w.heap.size (Nat.le_refl _))
  have HLE := kp (show ([] : List (BitVec 8)).length + bs.length ≤ 1000000 by simp; omega)
  clear hiu hu hs
  go_enter Try.func12, Try.ntmps12
  go_wp2_with (at_builtin; refine wpList_append_SlB rfl _ _ 25 rfl w.heap.size 5 iu Try.underlying25 HIU.out HU.out.1 HU.out.2.1 HU.out.2.2 _ _ rfl HOE.out _ bs rfl HS.out HLE.out (by simp) ?_; intro v2 w2 ho2 hg2)
  go_ret
  exact ⟨v2, rfl, by simpa using ho2, (Ext.alloc _ _).grown hg2 (fun q hq => owns_block HOE.out q hq)⟩
/-- A slice of bytes that came in, its capacity too. -/
theorem open_bytesC {P : Program} {H : Type} {enc : TypeId × Value → H} {w : World} {r : Reach} {b0 base : Nat} {T E : TypeId} {v : Value} {d : DataW H} {p : List MemPlace} (hT : P.underlying T = some (.slice E)) (hE : P.underlying E = some (.int .u8)) (hc : P.cellsOf E = 1)
    (hv : Value.okWide P w r b0 T v) (h : DataW.Trod enc P w base (fun _ => true) true T v d p) : ∃ l : List (BitVec 8), SlB w v l ∧ l.length ≤ 9223372036854775807 ∧ CapOk v := by
  obtain ⟨l, h1, h2⟩ := open_bytes hT hE hc hv h
  refine ⟨l, h1, h2, ?_⟩
  obtain ⟨a, len, cap, rfl⟩ := WideShapes.okWide_slice hT hv
  obtain ⟨fuel, hf⟩ := h
  rcases ChangeShapes.open_ints hT hE hc hf with ⟨hcs, _⟩ | ⟨x, len', cap', zs, hcs, _, hl, _⟩
  · simp [Value.cells] at hcs
    obtain ⟨rfl, rfl, rfl⟩ := hcs
    exact fun _ _ _ e => by cases e; exact Nat.le_refl _
  · simp [Value.cells] at hcs
    obtain ⟨rfl, rfl, rfl⟩ := hcs
    exact fun _ _ _ e => by cases e; exact hl
end Go.Proofs.Ytnofmppimihjpaa
