/- Contracts of hotspotref23's low and Input: what they return is a row of their own. -/
import Derived.Test.YtianjmmmegelkaaExpand
namespace Go.Proofs.Ytianjmmmegelkaa
open Go.RowKit

/-- The post of a function that returns a new slice of bytes, its own. -/
def RetO (l : List (BitVec 8)) (w : World) (e : Ending) (w' : World) : Prop := ∃ v, e = .returned v ∧ w'.ownsRow w.heap.size 5 1 v l.length (l.map V8) ∧ Ext w w'
def lowN (n : Int) : Nat → Int
  | 0 => n
  | k + 1 => lowN n k / 256
def lowL (n : Int) : Nat → List (BitVec 8)
  | 0 => []
  | k + 1 => lowL n k ++ [BitVec.ofInt 8 (lowN n k)]
theorem lowL_len (n : Int) : ∀ k, (lowL n k).length = k
  | 0 => rfl
  | k + 1 => by rw [lowL, List.length_append, lowL_len n k]; rfl
theorem V8_ofInt (n : Int) : V8 (BitVec.ofInt 8 n) = .int .u8 (n % 256) := by unfold V8; rw [wI_ofInt8]

set_option maxHeartbeats 1600000 in
theorem rlow_any (n : Int) (m : Nat) (hm : m ≤ 8) (w : World) : Calls Try.prog 26 #[.int .i64 n, .int .i64 m] w (RetO (lowL n m) w) := by
  obtain ⟨iu, hiu, hu⟩ := info_iu
  have HIU := kp hiu
  have HU := kp hu
  clear hiu hu
  go_enter Try.func26, Try.ntmps26
  go_wp2_with fail
  go_loopw [0, 5, 6] (fun c v i wr => ∃ k : Nat, k ≤ m ∧ c = .int .i64 (lowN n k) ∧ i = .int .i64 k ∧ Kp (wr.ownsRow w.heap.size 5 1 v (lowL n k).length ((lowL n k).map V8)) ∧ Kp (Ext w wr)) (fun _ _ i _ => m - (intOf i).toNat)
  case atStart => exact ⟨0, by omega, rfl, rfl, kp (owns_nil _ _ _), kp (Ext.refl _)⟩
  case round =>
    obtain ⟨k, hk, rfl, rfl, HO, HX⟩ := hrel
    obtain ⟨av, cv, hvf⟩ := (SlB.of_owns HO.out).form
    rw [lowL_len] at hvf
    subst hvf
    have hsz : w.heap.size ≤ wr.heap.size := HX.out.size
    by_cases hlt : k < m
    · have hlt2 : (k : Int) < m := by omega
      have HB := kp (V8_ofInt (lowN n k))
      have HO2 := kp (owns_ext HO.out (Ext.alloc wr (.cells #[V8 (BitVec.ofInt 8 (lowN n k))] 5)))
      have HSX := kp (show SlB (wr.alloc (.cells #[V8 (BitVec.ofInt 8 (lowN n k))] 5)) (.slice (some ⟨wr.heap.size, 0, none⟩) 1 1) [BitVec.ofInt 8 (lowN n k)] from SlB.of_block (hp_new wr _))
      rw [HB.out] at HO2 HSX
      have HLE := kp (show (lowL n k).length + [BitVec.ofInt 8 (lowN n k)].length ≤ 1000000 by rw [lowL_len]; simp; omega)
      have hk8 : 16 * k + 16 ≤ 1000 := by omega
      go_wp2_with (at_builtin; refine wpList_append_SlB rfl _ _ 22 rfl w.heap.size 5 iu Try.underlying22 HIU.out HU.out.1 HU.out.2.1 HU.out.2.2 _ _ rfl HO2.out _ [BitVec.ofInt 8 (lowN n k)] rfl HSX.out HLE.out (by simp; omega) ?_; intro v' w1 ho1 hg1)
      have HX1 := kp ((HX.out.trans (Ext.alloc _ _)).grown hg1 (fun q hq => owns_block HO2.out q hq))
      go_roundw
      case rel => exact ⟨k + 1, by omega, rfl, by go_num, kp (by rw [lowL]; exact ho1), HX1⟩
      case measure => simp [intOf]; omega
    · obtain rfl : k = m := by omega
      go_wp2_with fail
      go_ret
      exact ⟨_, rfl, by rw [lowL_len]; have h := HO.out; rw [lowL_len] at h; exact h, HX.out⟩

theorem low_one (n : Int) : lowL n 1 = [BitVec.ofInt 8 n] := rfl
theorem low_two (n : Int) : lowL n 2 = twoF n := rfl
theorem inputF_low (s : ByteArray) (c : List (BitVec 8)) (i : Int) : inputF s c i = lowL s.size 1 ++ strB s ++ lowL c.length 2 ++ c ++ lowL i 2 := by
  rw [low_one, low_two, low_two]; simp [inputF]
set_option maxHeartbeats 1600000 in
theorem rinput_any (s : ByteArray) (hs : s.size ≤ 100000) (vc : Value) (c : List (BitVec 8)) (hc : c.length ≤ 100000) (i : Int) (w : World) (hv : SlB w vc c) :
    Calls Try.prog 16 #[.string s, vc, .int .i64 i] w (RetO (inputF s c i) w) := by
  obtain ⟨iu, hiu, hu⟩ := info_iu
  have HIU := kp hiu
  have HU := kp hu
  obtain ⟨ac, cc, rfl⟩ := hv.form
  have HV := kp hv
  have HI := kp (inputF_low s c i)
  have HL := kp (show (lowL s.size 1).length = 1 ∧ (strB s).length ≤ 100000 ∧ (lowL c.length 2).length = 2 ∧ c.length ≤ 100000 ∧ (lowL i 2).length = 2 from ⟨lowL_len _ _, by rw [strB_len]; exact hs, lowL_len _ _, hc, lowL_len _ _⟩)
  have HC1 := kp (fun w => rlow_any s.size 1 (by decide) w)
  have HC2 := kp (fun w => rlow_any c.length 2 (by decide) w)
  have HC3 := kp (fun w => rlow_any i 2 (by decide) w)
  clear hiu hu hv
  generalize lowL s.size 1 = l1 at *
  generalize lowL (c.length : Int) 2 = l2 at *
  generalize lowL i 2 = l3 at *
  go_enter Try.func16, Try.ntmps16
  go_wp2_with fail
  refine (HC1.out _).mono ?_
  rintro e w1 ⟨v1, rfl, ho1, hx1⟩
  have HO1 := kp ho1
  have HX1 := kp hx1
  have hz1 := hx1.size
  obtain ⟨a1, c1, rfl⟩ := (SlB.of_owns ho1).form
  clear ho1 hx1
  go_wp2_with (first | (refine wpList_strB rfl 9 22 5 _ rfl s rfl Try.underlying9 Try.underlying22 Try.underlying5 ?_; intro b1 cap1 y1 HS1; simp only [Act.put, List.setIfInBounds_toArray, List.set_cons_zero, List.set_cons_succ]) | (at_builtin; refine wpList_append_SlB rfl _ _ 22 rfl w.heap.size 5 iu Try.underlying22 HIU.out HU.out.1 HU.out.2.1 HU.out.2.2 _ _ rfl (owns_ext HO1.out (Ext.more _ _)) _ (strB s) rfl (HS1.out) (by have := HL.out; omega) (by first | assumption | (simp; omega)) ?_; intro v2 w2 ho2 hg2))
  have HO2 := kp ho2
  have HX2 := kp ((HX1.out.trans (Ext.more w1 y1)).grown hg2 (fun q hq => owns_block HO1.out q hq))
  clear ho2 hg2
  refine (HC2.out _).mono ?_
  rintro e w3 ⟨v3, rfl, ho3, hx3⟩
  have HS3 := kp (SlB.of_owns ho3)
  have HO3 := kp (owns_ext HO2.out hx3)
  have HX3 := kp (HX2.out.trans hx3)
  have hz3 := (HX2.out.trans hx3).size
  clear ho3 hx3
  go_wp2_with (first | (at_builtin; refine wpList_append_SlB rfl _ _ 22 rfl w.heap.size 5 iu Try.underlying22 HIU.out HU.out.1 HU.out.2.1 HU.out.2.2 _ _ rfl (HO3.out) _ (l2) rfl (HS3.out) (by have := HL.out; simp only [List.length_append]; omega) (by first | assumption | (simp; omega)) ?_; intro v4 w4 ho4 hg4) | (at_builtin; refine wpList_append_SlB rfl _ _ 22 rfl w.heap.size 5 iu Try.underlying22 HIU.out HU.out.1 HU.out.2.1 HU.out.2.2 _ _ rfl (ho4) _ (c) rfl (HV.out.ext (HX3.out.grown hg4 (fun q hq => owns_block HO3.out q hq))) (by have := HL.out; simp only [List.length_append]; omega) ((HX3.out.grown hg4 (fun q hq => owns_block HO3.out q hq)).size) ?_; intro v5 w5 ho5 hg5))
  have HO5 := kp ho5
  have HX5 := kp ((HX3.out.grown hg4 (fun q hq => owns_block HO3.out q hq)).grown hg5 (fun q hq => owns_block ho4 q hq))
  clear ho5 ho4 hg4 hg5
  refine (HC3.out _).mono ?_
  rintro e w6 ⟨v6, rfl, ho6, hx6⟩
  have HS6 := kp (SlB.of_owns ho6)
  have HO6 := kp (owns_ext HO5.out hx6)
  have HX6 := kp (HX5.out.trans hx6)
  have hz6 := (HX5.out.trans hx6).size
  clear ho6 hx6
  go_wp2_with (at_builtin; refine wpList_append_SlB rfl _ _ 22 rfl w.heap.size 5 iu Try.underlying22 HIU.out HU.out.1 HU.out.2.1 HU.out.2.2 _ _ rfl (HO6.out) _ (l3) rfl (HS6.out) (by have := HL.out; simp only [List.length_append]; omega) (by first | assumption | (simp; omega)) ?_; intro v7 w7 ho7 hg7)
  go_ret
  exact ⟨v7, rfl, by rw [HI.out]; exact ho7, HX6.out.grown hg7 (fun q hq => owns_block HO6.out q hq)⟩
end Go.Proofs.Ytianjmmmegelkaa
