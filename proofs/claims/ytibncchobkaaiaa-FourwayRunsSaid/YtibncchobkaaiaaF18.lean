/- Texts of this proof, put together: Ref23, Plain21, Ref21. -/
import Derived.Test.YtibncchobkaaiaaF10
import Derived.Test.YtibncchobkaaiaaF6
import Derived.Test.YtibncchobkaaiaaF1
import Derived.Below
namespace Go.Proofs.Ytibncchobkaaiaa
open Go.RowKit
def lowN (n : Int) : Nat → Int
 | 0 => n
 | k + 1 => lowN n k / 256
def lowL (n : Int) : Nat → List (BitVec 8)
 | 0 => []
 | k + 1 => lowL n k ++ [BitVec.ofInt 8 (lowN n k)]
theorem lowL_len (n : Int) : ∀ k, (lowL n k).length = k
 | 0 => rfl
 | k + 1 => by rw [lowL, List.length_append, lowL_len n k]; rfl
set_option maxHeartbeats 1600000 in
theorem rlow_any (n : Int) (m : Nat) (hm : m ≤ 8) (w : World) : Calls Try.prog 112 #[.int .i64 n, .int .i64 m] w (RetO (lowL n m) w) := by
 obtain ⟨iu, hiu, hu⟩ := info_iu
 have HIU := kp hiu
 have HU := kp hu
 clear hiu hu
 go_enter Try.func112, Try.ntmps112
 go_wp2_with fail
 go_loopw [0, 5, 6] (fun c v i wr => ∃ k : Nat, k ≤ m ∧ c = .int .i64 (lowN n k) ∧ i = .int .i64 k ∧ Kp (wr.ownsRow w.heap.size 5 1 v (lowL n k).length ((lowL n k).map V8)) ∧ Kp (Ext w wr)) (fun _ _ i _ => m - (intOf i).toNat)
 case atStart => exact ⟨0, by omega, rfl, rfl, kp (owns_nil _ _ _), kp (Ext.refl _)⟩
 case round =>
  obtain ⟨k, hk, rfl, rfl, HO, HX⟩ := hrel
  obtain ⟨av, cv, hvf⟩ := (SlB.of_owns HO.out).form
  rw [lowL_len] at hvf
  subst hvf
  have hsz : w.heap.size ≤ wr.heap.size := HX.out.size
  by_cases hlt : k < m
  ·have hlt2 : (k : Int) < m := by omega
   have HB := kp (V8_ofInt (lowN n k))
   have HO2 := kp (owns_ext HO.out (Ext.alloc wr (.cells #[V8 (BitVec.ofInt 8 (lowN n k))] 5)))
   have HSX := kp (show SlB (wr.alloc (.cells #[V8 (BitVec.ofInt 8 (lowN n k))] 5)) (.slice (some ⟨wr.heap.size, 0, none⟩) 1 1) [BitVec.ofInt 8 (lowN n k)] from SlB.of_block (hp_new wr _))
   rw [HB.out] at HO2 HSX
   have HLE := kp (show (lowL n k).length + [BitVec.ofInt 8 (lowN n k)].length ≤ 1000000 by rw [lowL_len]; simp; omega)
   have hk8 : 16 * k + 16 ≤ 1000 := by omega
   go_wp2_with (at_builtin; refine wpList_append_SlB rfl _ _ 33 rfl w.heap.size 5 iu Try.underlying33 HIU.out HU.out.1 HU.out.2.1 HU.out.2.2 _ _ rfl HO2.out _ [BitVec.ofInt 8 (lowN n k)] rfl HSX.out HLE.out (by simp; omega) ?_; intro v' w1 ho1 hg1)
   have HX1 := kp ((HX.out.trans (Ext.alloc _ _)).grown hg1 (fun q hq => owns_block HO2.out q hq))
   go_roundw
   case rel => exact ⟨k + 1, by omega, rfl, by go_num, kp (by rw [lowL]; exact ho1), HX1⟩
   case measure => simp [intOf]; omega
  ·obtain rfl : k = m := by omega
   go_wp2_with fail
   go_ret
   exact ⟨_, rfl, by rw [lowL_len]; have h := HO.out; rw [lowL_len] at h; exact h, HX.out⟩
theorem low_one (n : Int) : lowL n 1 = [BitVec.ofInt 8 n] := rfl
theorem low_two (n : Int) : lowL n 2 = twoF n := rfl
theorem inputF_low (s : ByteArray) (c : List (BitVec 8)) (i : Int) : inputF s c i = lowL s.size 1 ++ strB s ++ lowL c.length 2 ++ c ++ lowL i 2 := by
 rw [low_one, low_two, low_two]; simp [inputF]
set_option maxHeartbeats 1600000 in
theorem rinput_any (s : ByteArray) (hs : s.size ≤ 100000) (vc : Value) (c : List (BitVec 8)) (hc : c.length ≤ 100000) (i : Int) (w : World) (hv : SlB w vc c) :
  Calls Try.prog 105 #[.string s, vc, .int .i64 i] w (RetO (inputF s c i) w) := by
 obtain ⟨iu, hiu, hu⟩ := info_iu
 have HIU := kp hiu
 have HU := kp hu
 obtain ⟨ac, cc, rfl⟩ := hv.form
 have HV := kp hv
 have HI := kp (inputF_low s c i)
 have HL := kp (show (lowL s.size 1).length = 1 ∧ (strB s).length ≤ 100000 ∧ (lowL c.length 2).length = 2 ∧ c.length ≤ 100000 ∧ (lowL i 2).length = 2 from ⟨lowL_len _ _, by rw [strB_len]; exact hs, lowL_len _ _, hc, lowL_len _ _⟩)
 have HC1 := kp (fun w => rlow_any s.size 1 (by decide) w)
 have HC2 := kp (fun w => rlow_any c.length 2 (by decide) w)
 have HC3 := kp (fun w => rlow_any i 2 (by decide) w)
 clear hiu hu hv
 generalize lowL s.size 1 = l1 at *
 generalize lowL (c.length : Int) 2 = l2 at *
 generalize lowL i 2 = l3 at *
 go_enter Try.func105, Try.ntmps105
 go_wp2_with fail
 refine (HC1.out _).mono ?_
 rintro e w1 ⟨v1, rfl, ho1, hx1⟩
 have HO1 := kp ho1
 have HX1 := kp hx1
 have hz1 := hx1.size
 obtain ⟨a1, c1, rfl⟩ := (SlB.of_owns ho1).form
 clear ho1 hx1
 go_wp2_with (first | (refine wpList_strB rfl 9 33 5 _ rfl s rfl Try.underlying9 Try.underlying33 Try.underlying5 ?_; intro b1 cap1 y1 HS1; simp only [pA]) | (at_builtin; refine wpList_append_SlB rfl _ _ 33 rfl w.heap.size 5 iu Try.underlying33 HIU.out HU.out.1 HU.out.2.1 HU.out.2.2 _ _ rfl (owns_ext HO1.out (Ext.more _ _)) _ (strB s) rfl (HS1.out) (by have := HL.out; omega) (by first | assumption | (simp; omega)) ?_; intro v2 w2 ho2 hg2))
 have HO2 := kp ho2
 have HX2 := kp ((HX1.out.trans (Ext.more w1 y1)).grown hg2 (fun q hq => owns_block HO1.out q hq))
 clear ho2 hg2
 refine (HC2.out _).mono ?_
 rintro e w3 ⟨v3, rfl, ho3, hx3⟩
 have HS3 := kp (SlB.of_owns ho3)
 have HO3 := kp (owns_ext HO2.out hx3)
 have HX3 := kp (HX2.out.trans hx3)
 have hz3 := (HX2.out.trans hx3).size
 clear ho3 hx3
 go_wp2_with (first | (at_builtin; refine wpList_append_SlB rfl _ _ 33 rfl w.heap.size 5 iu Try.underlying33 HIU.out HU.out.1 HU.out.2.1 HU.out.2.2 _ _ rfl (HO3.out) _ (l2) rfl (HS3.out) (by have := HL.out; simp only [List.length_append]; omega) (by first | assumption | (simp; omega)) ?_; intro v4 w4 ho4 hg4) | (at_builtin; refine wpList_append_SlB rfl _ _ 33 rfl w.heap.size 5 iu Try.underlying33 HIU.out HU.out.1 HU.out.2.1 HU.out.2.2 _ _ rfl (ho4) _ (c) rfl (HV.out.ext (HX3.out.grown hg4 (fun q hq => owns_block HO3.out q hq))) (by have := HL.out; simp only [List.length_append]; omega) ((HX3.out.grown hg4 (fun q hq => owns_block HO3.out q hq)).size) ?_; intro v5 w5 ho5 hg5))
 have HO5 := kp ho5
 have HX5 := kp ((HX3.out.grown hg4 (fun q hq => owns_block HO3.out q hq)).grown hg5 (fun q hq => owns_block ho4 q hq))
 clear ho5 ho4 hg4 hg5
 refine (HC3.out _).mono ?_
 rintro e w6 ⟨v6, rfl, ho6, hx6⟩
 have HS6 := kp (SlB.of_owns ho6)
 have HO6 := kp (owns_ext HO5.out hx6)
 have HX6 := kp (HX5.out.trans hx6)
 have hz6 := (HX5.out.trans hx6).size
 clear ho6 hx6
 go_wp2_with (at_builtin; refine wpList_append_SlB rfl _ _ 33 rfl w.heap.size 5 iu Try.underlying33 HIU.out HU.out.1 HU.out.2.1 HU.out.2.2 _ _ rfl (HO6.out) _ (l3) rfl (HS6.out) (by have := HL.out; simp only [List.length_append]; omega) (by first | assumption | (simp; omega)) ?_; intro v7 w7 ho7 hg7)
 go_ret
 exact ⟨v7, rfl, by rw [HI.out]; exact ho7, HX6.out.grown hg7 (fun q hq => owns_block HO6.out q hq)⟩
end Go.Proofs.Ytibncchobkaaiaa
namespace Go.Proofs.Ytibncchobkaaiaa
open Go.RowKit
def word4 (a b c d : BitVec 8) : BitVec 32 := 0 ||| a.setWidth 32 <<< 0 ||| b.setWidth 32 <<< 8 ||| c.setWidth 32 <<< 16 ||| d.setWidth 32 <<< 24
theorem list16 {α : Type} {l : List α} (h : l.length = 16) : ∃ a0 a1 a2 a3 a4 a5 a6 a7 a8 a9 a10 a11 a12 a13 a14 a15, l = [a0, a1, a2, a3, a4, a5, a6, a7, a8, a9, a10, a11, a12, a13, a14, a15] := by
 match l, h with
 | [a0, a1, a2, a3, a4, a5, a6, a7, a8, a9, a10, a11, a12, a13, a14, a15], _ => exact ⟨a0, a1, a2, a3, a4, a5, a6, a7, a8, a9, a10, a11, a12, a13, a14, a15, rfl⟩
theorem wordsF_lit (a0 a1 a2 a3 a4 a5 a6 a7 a8 a9 a10 a11 a12 a13 a14 a15 : BitVec 8) :
  wordsF [a0, a1, a2, a3, a4, a5, a6, a7, a8, a9, a10, a11, a12, a13, a14, a15] = [word4 a0 a1 a2 a3, word4 a4 a5 a6 a7, word4 a8 a9 a10 a11, word4 a12 a13 a14 a15] := by
 have h1 : wordsTo [a0, a1, a2, a3, a4, a5, a6, a7, a8, a9, a10, a11, a12, a13, a14, a15] 1 = [(0 ||| a0.setWidth 32 <<< 0 : BitVec 32), (0 : BitVec 32), (0 : BitVec 32), (0 : BitVec 32)] := rfl
 have h2 : wordsTo [a0, a1, a2, a3, a4, a5, a6, a7, a8, a9, a10, a11, a12, a13, a14, a15] 2 = [(0 ||| a0.setWidth 32 <<< 0 ||| a1.setWidth 32 <<< 8 : BitVec 32), (0 : BitVec 32), (0 : BitVec 32), (0 : BitVec 32)] := by rw [wordsTo, h1]; rfl
 have h3 : wordsTo [a0, a1, a2, a3, a4, a5, a6, a7, a8, a9, a10, a11, a12, a13, a14, a15] 3 = [(0 ||| a0.setWidth 32 <<< 0 ||| a1.setWidth 32 <<< 8 ||| a2.setWidth 32 <<< 16 : BitVec 32), (0 : BitVec 32), (0 : BitVec 32), (0 : BitVec 32)] := by rw [wordsTo, h2]; rfl
 have h4 : wordsTo [a0, a1, a2, a3, a4, a5, a6, a7, a8, a9, a10, a11, a12, a13, a14, a15] 4 = [(0 ||| a0.setWidth 32 <<< 0 ||| a1.setWidth 32 <<< 8 ||| a2.setWidth 32 <<< 16 ||| a3.setWidth 32 <<< 24 : BitVec 32), (0 : BitVec 32), (0 : BitVec 32), (0 : BitVec 32)] := by rw [wordsTo, h3]; rfl
 have h5 : wordsTo [a0, a1, a2, a3, a4, a5, a6, a7, a8, a9, a10, a11, a12, a13, a14, a15] 5 = [(0 ||| a0.setWidth 32 <<< 0 ||| a1.setWidth 32 <<< 8 ||| a2.setWidth 32 <<< 16 ||| a3.setWidth 32 <<< 24 : BitVec 32), (0 ||| a4.setWidth 32 <<< 0 : BitVec 32), (0 : BitVec 32), (0 : BitVec 32)] := by rw [wordsTo, h4]; rfl
 have h6 : wordsTo [a0, a1, a2, a3, a4, a5, a6, a7, a8, a9, a10, a11, a12, a13, a14, a15] 6 = [(0 ||| a0.setWidth 32 <<< 0 ||| a1.setWidth 32 <<< 8 ||| a2.setWidth 32 <<< 16 ||| a3.setWidth 32 <<< 24 : BitVec 32), (0 ||| a4.setWidth 32 <<< 0 ||| a5.setWidth 32 <<< 8 : BitVec 32), (0 : BitVec 32), (0 : BitVec 32)] := by rw [wordsTo, h5]; rfl
 have h7 : wordsTo [a0, a1, a2, a3, a4, a5, a6, a7, a8, a9, a10, a11, a12, a13, a14, a15] 7 = [(0 ||| a0.setWidth 32 <<< 0 ||| a1.setWidth 32 <<< 8 ||| a2.setWidth 32 <<< 16 ||| a3.setWidth 32 <<< 24 : BitVec 32), (0 ||| a4.setWidth 32 <<< 0 ||| a5.setWidth 32 <<< 8 ||| a6.setWidth 32 <<< 16 : BitVec 32), (0 : BitVec 32), (0 : BitVec 32)] := by rw [wordsTo, h6]; rfl
 have h8 : wordsTo [a0, a1, a2, a3, a4, a5, a6, a7, a8, a9, a10, a11, a12, a13, a14, a15] 8 = [(0 ||| a0.setWidth 32 <<< 0 ||| a1.setWidth 32 <<< 8 ||| a2.setWidth 32 <<< 16 ||| a3.setWidth 32 <<< 24 : BitVec 32), (0 ||| a4.setWidth 32 <<< 0 ||| a5.setWidth 32 <<< 8 ||| a6.setWidth 32 <<< 16 ||| a7.setWidth 32 <<< 24 : BitVec 32), (0 : BitVec 32), (0 : BitVec 32)] := by rw [wordsTo, h7]; rfl
 have h9 : wordsTo [a0, a1, a2, a3, a4, a5, a6, a7, a8, a9, a10, a11, a12, a13, a14, a15] 9 = [(0 ||| a0.setWidth 32 <<< 0 ||| a1.setWidth 32 <<< 8 ||| a2.setWidth 32 <<< 16 ||| a3.setWidth 32 <<< 24 : BitVec 32), (0 ||| a4.setWidth 32 <<< 0 ||| a5.setWidth 32 <<< 8 ||| a6.setWidth 32 <<< 16 ||| a7.setWidth 32 <<< 24 : BitVec 32), (0 ||| a8.setWidth 32 <<< 0 : BitVec 32), (0 : BitVec 32)] := by rw [wordsTo, h8]; rfl
 have h10 : wordsTo [a0, a1, a2, a3, a4, a5, a6, a7, a8, a9, a10, a11, a12, a13, a14, a15] 10 = [(0 ||| a0.setWidth 32 <<< 0 ||| a1.setWidth 32 <<< 8 ||| a2.setWidth 32 <<< 16 ||| a3.setWidth 32 <<< 24 : BitVec 32), (0 ||| a4.setWidth 32 <<< 0 ||| a5.setWidth 32 <<< 8 ||| a6.setWidth 32 <<< 16 ||| a7.setWidth 32 <<< 24 : BitVec 32), (0 ||| a8.setWidth 32 <<< 0 ||| a9.setWidth 32 <<< 8 : BitVec 32), (0 : BitVec 32)] := by rw [wordsTo, h9]; rfl
 have h11 : wordsTo [a0, a1, a2, a3, a4, a5, a6, a7, a8, a9, a10, a11, a12, a13, a14, a15] 11 = [(0 ||| a0.setWidth 32 <<< 0 ||| a1.setWidth 32 <<< 8 ||| a2.setWidth 32 <<< 16 ||| a3.setWidth 32 <<< 24 : BitVec 32), (0 ||| a4.setWidth 32 <<< 0 ||| a5.setWidth 32 <<< 8 ||| a6.setWidth 32 <<< 16 ||| a7.setWidth 32 <<< 24 : BitVec 32), (0 ||| a8.setWidth 32 <<< 0 ||| a9.setWidth 32 <<< 8 ||| a10.setWidth 32 <<< 16 : BitVec 32), (0 : BitVec 32)] := by rw [wordsTo, h10]; rfl
 have h12 : wordsTo [a0, a1, a2, a3, a4, a5, a6, a7, a8, a9, a10, a11, a12, a13, a14, a15] 12 = [(0 ||| a0.setWidth 32 <<< 0 ||| a1.setWidth 32 <<< 8 ||| a2.setWidth 32 <<< 16 ||| a3.setWidth 32 <<< 24 : BitVec 32), (0 ||| a4.setWidth 32 <<< 0 ||| a5.setWidth 32 <<< 8 ||| a6.setWidth 32 <<< 16 ||| a7.setWidth 32 <<< 24 : BitVec 32), (0 ||| a8.setWidth 32 <<< 0 ||| a9.setWidth 32 <<< 8 ||| a10.setWidth 32 <<< 16 ||| a11.setWidth 32 <<< 24 : BitVec 32), (0 : BitVec 32)] := by rw [wordsTo, h11]; rfl
 have h13 : wordsTo [a0, a1, a2, a3, a4, a5, a6, a7, a8, a9, a10, a11, a12, a13, a14, a15] 13 = [(0 ||| a0.setWidth 32 <<< 0 ||| a1.setWidth 32 <<< 8 ||| a2.setWidth 32 <<< 16 ||| a3.setWidth 32 <<< 24 : BitVec 32), (0 ||| a4.setWidth 32 <<< 0 ||| a5.setWidth 32 <<< 8 ||| a6.setWidth 32 <<< 16 ||| a7.setWidth 32 <<< 24 : BitVec 32), (0 ||| a8.setWidth 32 <<< 0 ||| a9.setWidth 32 <<< 8 ||| a10.setWidth 32 <<< 16 ||| a11.setWidth 32 <<< 24 : BitVec 32), (0 ||| a12.setWidth 32 <<< 0 : BitVec 32)] := by rw [wordsTo, h12]; rfl
 have h14 : wordsTo [a0, a1, a2, a3, a4, a5, a6, a7, a8, a9, a10, a11, a12, a13, a14, a15] 14 = [(0 ||| a0.setWidth 32 <<< 0 ||| a1.setWidth 32 <<< 8 ||| a2.setWidth 32 <<< 16 ||| a3.setWidth 32 <<< 24 : BitVec 32), (0 ||| a4.setWidth 32 <<< 0 ||| a5.setWidth 32 <<< 8 ||| a6.setWidth 32 <<< 16 ||| a7.setWidth 32 <<< 24 : BitVec 32), (0 ||| a8.setWidth 32 <<< 0 ||| a9.setWidth 32 <<< 8 ||| a10.setWidth 32 <<< 16 ||| a11.setWidth 32 <<< 24 : BitVec 32), (0 ||| a12.setWidth 32 <<< 0 ||| a13.setWidth 32 <<< 8 : BitVec 32)] := by rw [wordsTo, h13]; rfl
 have h15 : wordsTo [a0, a1, a2, a3, a4, a5, a6, a7, a8, a9, a10, a11, a12, a13, a14, a15] 15 = [(0 ||| a0.setWidth 32 <<< 0 ||| a1.setWidth 32 <<< 8 ||| a2.setWidth 32 <<< 16 ||| a3.setWidth 32 <<< 24 : BitVec 32), (0 ||| a4.setWidth 32 <<< 0 ||| a5.setWidth 32 <<< 8 ||| a6.setWidth 32 <<< 16 ||| a7.setWidth 32 <<< 24 : BitVec 32), (0 ||| a8.setWidth 32 <<< 0 ||| a9.setWidth 32 <<< 8 ||| a10.setWidth 32 <<< 16 ||| a11.setWidth 32 <<< 24 : BitVec 32), (0 ||| a12.setWidth 32 <<< 0 ||| a13.setWidth 32 <<< 8 ||| a14.setWidth 32 <<< 16 : BitVec 32)] := by rw [wordsTo, h14]; rfl
 have h16 : wordsTo [a0, a1, a2, a3, a4, a5, a6, a7, a8, a9, a10, a11, a12, a13, a14, a15] 16 = [(0 ||| a0.setWidth 32 <<< 0 ||| a1.setWidth 32 <<< 8 ||| a2.setWidth 32 <<< 16 ||| a3.setWidth 32 <<< 24 : BitVec 32), (0 ||| a4.setWidth 32 <<< 0 ||| a5.setWidth 32 <<< 8 ||| a6.setWidth 32 <<< 16 ||| a7.setWidth 32 <<< 24 : BitVec 32), (0 ||| a8.setWidth 32 <<< 0 ||| a9.setWidth 32 <<< 8 ||| a10.setWidth 32 <<< 16 ||| a11.setWidth 32 <<< 24 : BitVec 32), (0 ||| a12.setWidth 32 <<< 0 ||| a13.setWidth 32 <<< 8 ||| a14.setWidth 32 <<< 16 ||| a15.setWidth 32 <<< 24 : BitVec 32)] := by rw [wordsTo, h15]; rfl
 exact h16
theorem word4_add (a b c d : BitVec 8) : word4 a b c d = a.setWidth 32 + b.setWidth 32 <<< 8 + c.setWidth 32 <<< 16 + d.setWidth 32 <<< 24 := by
 unfold word4
 have e1 : a.setWidth 32 + b.setWidth 32 <<< 8 = a.setWidth 32 ||| b.setWidth 32 <<< 8 := by
  refine BitVec.add_eq_or_of_and_eq_zero _ _ (BitVec.eq_of_getLsbD_eq fun j hj => ?_)
  have h32 : j = 0 ∨ j = 1 ∨ j = 2 ∨ j = 3 ∨ j = 4 ∨ j = 5 ∨ j = 6 ∨ j = 7 ∨ j = 8 ∨ j = 9 ∨ j = 10 ∨ j = 11 ∨ j = 12 ∨ j = 13 ∨ j = 14 ∨ j = 15 ∨ j = 16 ∨ j = 17 ∨ j = 18 ∨ j = 19 ∨ j = 20 ∨ j = 21 ∨ j = 22 ∨ j = 23 ∨ j = 24 ∨ j = 25 ∨ j = 26 ∨ j = 27 ∨ j = 28 ∨ j = 29 ∨ j = 30 ∨ j = 31 := by omega
  rcases h32 with rfl | rfl | rfl | rfl | rfl | rfl | rfl | rfl | rfl | rfl | rfl | rfl | rfl | rfl | rfl | rfl | rfl | rfl | rfl | rfl | rfl | rfl | rfl | rfl | rfl | rfl | rfl | rfl | rfl | rfl | rfl | rfl <;> simp
 have e2 : (a.setWidth 32 ||| b.setWidth 32 <<< 8) + c.setWidth 32 <<< 16 = a.setWidth 32 ||| b.setWidth 32 <<< 8 ||| c.setWidth 32 <<< 16 := by
  refine BitVec.add_eq_or_of_and_eq_zero _ _ (BitVec.eq_of_getLsbD_eq fun j hj => ?_)
  have h32 : j = 0 ∨ j = 1 ∨ j = 2 ∨ j = 3 ∨ j = 4 ∨ j = 5 ∨ j = 6 ∨ j = 7 ∨ j = 8 ∨ j = 9 ∨ j = 10 ∨ j = 11 ∨ j = 12 ∨ j = 13 ∨ j = 14 ∨ j = 15 ∨ j = 16 ∨ j = 17 ∨ j = 18 ∨ j = 19 ∨ j = 20 ∨ j = 21 ∨ j = 22 ∨ j = 23 ∨ j = 24 ∨ j = 25 ∨ j = 26 ∨ j = 27 ∨ j = 28 ∨ j = 29 ∨ j = 30 ∨ j = 31 := by omega
  rcases h32 with rfl | rfl | rfl | rfl | rfl | rfl | rfl | rfl | rfl | rfl | rfl | rfl | rfl | rfl | rfl | rfl | rfl | rfl | rfl | rfl | rfl | rfl | rfl | rfl | rfl | rfl | rfl | rfl | rfl | rfl | rfl | rfl <;> simp
 have e3 : (a.setWidth 32 ||| b.setWidth 32 <<< 8 ||| c.setWidth 32 <<< 16) + d.setWidth 32 <<< 24 = a.setWidth 32 ||| b.setWidth 32 <<< 8 ||| c.setWidth 32 <<< 16 ||| d.setWidth 32 <<< 24 := by
  refine BitVec.add_eq_or_of_and_eq_zero _ _ (BitVec.eq_of_getLsbD_eq fun j hj => ?_)
  have h32 : j = 0 ∨ j = 1 ∨ j = 2 ∨ j = 3 ∨ j = 4 ∨ j = 5 ∨ j = 6 ∨ j = 7 ∨ j = 8 ∨ j = 9 ∨ j = 10 ∨ j = 11 ∨ j = 12 ∨ j = 13 ∨ j = 14 ∨ j = 15 ∨ j = 16 ∨ j = 17 ∨ j = 18 ∨ j = 19 ∨ j = 20 ∨ j = 21 ∨ j = 22 ∨ j = 23 ∨ j = 24 ∨ j = 25 ∨ j = 26 ∨ j = 27 ∨ j = 28 ∨ j = 29 ∨ j = 30 ∨ j = 31 := by omega
  rcases h32 with rfl | rfl | rfl | rfl | rfl | rfl | rfl | rfl | rfl | rfl | rfl | rfl | rfl | rfl | rfl | rfl | rfl | rfl | rfl | rfl | rfl | rfl | rfl | rfl | rfl | rfl | rfl | rfl | rfl | rfl | rfl | rfl <;> simp
 rw [e1, e2, e3]
 simp
theorem word4_int (a b c d : BitVec 8) : ((wI (a.setWidth 32) + 256 * wI (b.setWidth 32) + 65536 * wI (c.setWidth 32)) % 4294967296 + 16777216 * wI (d.setWidth 32) % 4294967296) % 4294967296 = wI (word4 a b c d) := by
 rw [word4_add]
 unfold wI
 simp only [BitVec.toNat_add, BitVec.toNat_shiftLeft, Nat.shiftLeft_eq, BitVec.toNat_setWidth]
 omega
theorem left_rotl (x : BitVec 32) (n : Nat) (h1 : 1 ≤ n) (h2 : n < 32) : x <<< n + x >>> (32 - n) = rotl n x := by
 unfold rotl
 refine BitVec.add_eq_or_of_and_eq_zero _ _ (BitVec.eq_of_getLsbD_eq fun j hj => ?_)
 simp only [BitVec.getLsbD_and, BitVec.getLsbD_shiftLeft, BitVec.getLsbD_ushiftRight, BitVec.getLsbD_zero]
 by_cases hjn : j < n
 ·simp [hjn]
 ·have : x.getLsbD (32 - n + j) = false := BitVec.getLsbD_of_ge _ _ (by omega)
  simp [this]
set_option maxHeartbeats 400000 in
theorem rword_any (a b c d : BitVec 8) (w : World) : Calls Try.prog 109 #[V8 a, V8 b, V8 c, V8 d] w fun e w' => e = .returned (V32 (word4 a b c d)) ∧ w' = w := by
 go_enter Try.func109, Try.ntmps109
 go_wp2
 go_ret
 exact ⟨ret_int (word4_int a b c d), rfl⟩
set_option maxHeartbeats 400000 in
theorem rleft_nat (x : BitVec 32) (n : Nat) (h1 : 1 ≤ n) (h : n < 32) (w : World) :
  Calls Try.prog 108 #[V32 x, .int .i64 n] w fun e w' => e = .returned (V32 (rotl n x)) ∧ w' = w := by
 have HR := kp (left_rotl x n h1 h)
 have h2 : n ≤ 32 := by omega
 have h3 : 32 - n ≤ 32 := by omega
 have h4 : ((32 : Int) - (n : Int)) = ((32 - n : Nat) : Int) := by omega
 go_enter Try.func108, Try.ntmps108
 go_wp2
 go_ret
 exact ⟨by rw [← HR.out]; rfl, rfl⟩
theorem rleft_any (x : BitVec 32) (n : Int) (h0 : 1 ≤ n) (h : n < 32) (w : World) :
  Calls Try.prog 108 #[V32 x, .int .i64 n] w fun e w' => e = .returned (V32 (rotl n.toNat x)) ∧ w' = w := by
 obtain ⟨m, rfl⟩ := Int.eq_ofNat_of_zero_le (show 0 ≤ n by omega)
 exact rleft_nat x m (by omega) (by omega) w
set_option maxHeartbeats 400000 in
theorem rround_any (x0 x1 x2 x3 a b : BitVec 32) (w : World) :
  Calls Try.prog 92 #[.agg #[V32 x0, V32 x1, V32 x2, V32 x3], V32 a, V32 b] w
   fun e w' => e = .returned (.agg ((roundF x0 x1 x2 x3 a b).map V32).toArray) ∧ Ext w w' := by
 go_enter Try.func92, Try.ntmps92
 go_wp2
 (refine region_f 9 (by kernel_rfl) (by kernel_rfl) (by kernel_rfl) (by kernel_rfl) (by decide) (Nat.le_of_ble_eq_true (by kernel_rfl)) ?_)
 apply Exists.intro
 refine ⟨fun xz2 => ?_, fun xq2 => ?_⟩
 ·simp only [List.take_succ_cons, List.take_zero]
  unfold Cx
  repeat (go_big_quiet_step (exact Calls.cx_of_same (rleft_any _ _ (by decide) (by decide) _)))
  exact wpQuiet_nil rfl
 simp only [List.drop_succ_cons, List.drop_zero]
 go_wp2
 (with_reducible refine region_f2 9 (by kernel_rfl) (by kernel_rfl) (by kernel_rfl) (by kernel_rfl) (by decide) (Nat.le_of_ble_eq_true (by kernel_rfl)) ?_)
 apply Exists.intro
 refine ⟨fun xz3 => ?_, fun xq3 => ?_⟩
 ·simp only [List.take_succ_cons, List.take_zero]
  unfold Cx
  repeat (go_big_quiet_step (exact Calls.cx_of_same (rleft_any _ _ (by decide) (by decide) _)))
  exact wpQuiet_nil rfl
 simp only [List.drop_succ_cons, List.drop_zero]
 go_wp2
 (with_reducible refine region_f2 8 (by kernel_rfl) (by kernel_rfl) (by kernel_rfl) (by kernel_rfl) (by decide) (Nat.le_of_ble_eq_true (by kernel_rfl)) ?_)
 apply Exists.intro
 refine ⟨fun xz4 => ?_, fun xq4 => ?_⟩
 ·simp only [List.take_succ_cons, List.take_zero]
  unfold Cx
  repeat (go_big_quiet_step (exact Calls.cx_of_same (rleft_any _ _ (by decide) (by decide) _)))
  exact wpQuiet_nil rfl
 simp only [List.drop_succ_cons, List.drop_zero]
 go_wp2
 (with_reducible refine region_f2 8 (by kernel_rfl) (by kernel_rfl) (by kernel_rfl) (by kernel_rfl) (by decide) (Nat.le_of_ble_eq_true (by kernel_rfl)) ?_)
 apply Exists.intro
 refine ⟨fun xz5 => ?_, fun xq5 => ?_⟩
 ·simp only [List.take_succ_cons, List.take_zero]
  unfold Cx
  repeat (go_big_quiet_step (exact Calls.cx_of_same (rleft_any _ _ (by decide) (by decide) _)))
  exact wpQuiet_nil rfl
 simp only [List.drop_succ_cons, List.drop_zero]
 go_wp2
 exact ret_row Try.results92 (w.heap.size + 1) 148 (((roundF x0 x1 x2 x3 a b).map V32).toArray) (0, 0) _ rfl (hp_more (hp_at _ _ _ (by simp))) Try.underlying148 rfl (size148) rfl ⟨rfl, ((Ext.alloc _ _).trans (Ext.alloc _ _)).trans (Ext.more _ _)⟩
def rwordsTo (ws : List (BitVec 32)) (k : Nat) : List (BitVec 32) := ws.take k ++ List.replicate (4 - k) 0
theorem rwordsTo_step (ws : List (BitVec 32)) (h : ws.length = 4) (k : Nat) (hk : k < 4) (x : BitVec 32) (hx : ws[k]? = some x) : rwordsTo ws (k + 1) = (rwordsTo ws k).set k x := by
 unfold rwordsTo
 have e : 4 - k = (4 - (k + 1)) + 1 := by omega
 rw [List.take_add_one, hx, e, List.replicate_succ, List.set_append_right _ _ (by simp; omega)]
 simp [Nat.min_eq_left (show k ≤ ws.length by omega)]
theorem rwordsTo_len (ws : List (BitVec 32)) (h : ws.length = 4) (k : Nat) (hk : k ≤ 4) : (rwordsTo ws k).length = 4 := by
 simp [rwordsTo]; omega
theorem rwordsTo_end (ws : List (BitVec 32)) (h : ws.length = 4) : rwordsTo ws 4 = ws := by
 simp [rwordsTo, List.take_of_length_le (show ws.length ≤ 4 by omega)]
theorem wordsF_at (bs : List (BitVec 8)) (h : bs.length = 16) (k : Nat) (hk : k < 4) : ∃ a b c d, bs[4 * k]? = some a ∧ bs[4 * k + 1]? = some b ∧ bs[4 * k + 2]? = some c ∧ bs[4 * k + 3]? = some d ∧ (wordsF bs)[k]? = some (word4 a b c d) := by
 obtain ⟨a0, a1, a2, a3, a4, a5, a6, a7, a8, a9, a10, a11, a12, a13, a14, a15, rfl⟩ := list16 h
 rw [wordsF_lit]
 have h4 : k = 0 ∨ k = 1 ∨ k = 2 ∨ k = 3 := by omega
 rcases h4 with rfl | rfl | rfl | rfl
 ·exact ⟨a0, a1, a2, a3, rfl, rfl, rfl, rfl, rfl⟩
 ·exact ⟨a4, a5, a6, a7, rfl, rfl, rfl, rfl, rfl⟩
 ·exact ⟨a8, a9, a10, a11, rfl, rfl, rfl, rfl, rfl⟩
 ·exact ⟨a12, a13, a14, a15, rfl, rfl, rfl, rfl, rfl⟩
set_option maxHeartbeats 400000 in
theorem rwords_any (bs : List (BitVec 8)) (hl : bs.length = 16) (w : World) :
  Calls Try.prog 91 #[.agg (bs.map V8).toArray] w
   fun e w' => e = .returned (.agg ((wordsF bs).map V32).toArray) ∧ Ext w w' := by
 have HL := kp hl
 have HAT := kp (wordsF_at bs hl)
 have HWL := kp (wordsF_len bs)
 generalize hws : wordsF bs = ws at *
 clear hl hws
 go_enter Try.func91, Try.ntmps91
 go_wp2_with fail
 go_loopw [4] (fun i wr => ∃ (k : Nat) (x : Xtra), k ≤ 4 ∧ i = .int .i64 k ∧ wr = more (((w.alloc (.cells (bs.map V8).toArray 115)).alloc (.cells #[.int .u32 0, .int .u32 0, .int .u32 0, .int .u32 0] 148)).alloc (.cells ((rwordsTo ws k).map V32).toArray 148)) x) (fun i _ => 4 - (intOf i).toNat)
 case atStart => exact ⟨0, _, by omega, rfl, by rw [← more_self]; rfl⟩
 case round =>
  obtain ⟨k, x, hk, rfl, rfl⟩ := hrel
  by_cases hlt : k < 4
  ·obtain ⟨a, b, c, d, ha, hb, hc, hd, hw⟩ := HAT.out k hlt
   obtain ⟨z, hz⟩ : ∃ z, (rwordsTo ws k)[k]? = some z := ⟨(rwordsTo ws k)[k]'(by rw [rwordsTo_len ws HWL.out k hk]; omega), by simp⟩
   have HN := kp (rwordsTo_step ws HWL.out k hlt _ hw)
   clear hw
   go_wp2_with fail
   (with_reducible refine region_f2 22 (by kernel_rfl) (by kernel_rfl) (by kernel_rfl) (by kernel_rfl) (by decide) (Nat.le_of_ble_eq_true (by kernel_rfl)) ?_)
   apply Exists.intro
   refine ⟨fun xz2 => ?_, fun xq2 => ?_⟩
   ·simp only [List.take_succ_cons, List.take_zero]
    unfold Cx
    repeat (go_big_quiet_step (exact Calls.cx_of_same (rword_any _ _ _ _ _)))
    exact wpQuiet_nil rfl
   simp only [List.drop_succ_cons, List.drop_zero]
   go_wp2_with fail
   go_roundw
   case rel => exact ⟨k + 1, _, by omega, by go_num, by rw [HN.out, List.map_set]⟩
   case measure => simp [intOf]; omega
  ·obtain rfl : k = 4 := by omega
   rw [rwordsTo_end ws HWL.out]
   have HT := kp (show (Try.prog.info? 148).map (·.size) = some (ws.map V32).toArray.size by rw [size148]; simp [HWL.out])
   go_wp2_with (first | ((with_reducible refine isLd 148 ?_); (with_reducible refine wpList_load_row rfl 148 _ rfl (w.heap.size + 1 + 1) rfl 148 ((ws.map V32).toArray) (0, 0) _ (hp_more (hp_at _ _ _ (by simp))) Try.underlying148 rfl (HT.out) ?_); simp only [pA]) | ((with_reducible refine isSt 148 ?_); with_reducible refine wpList_st_row rfl rfl 148 _ _ rfl (w.heap.size + 1) ((ws.map V32).toArray) rfl rfl 148 (#[.int .u32 0, .int .u32 0, .int .u32 0, .int .u32 0]) (hp_more (hp_alloc (hp_at _ _ _ (by simp)))) (HT.out) (by simp [HWL.out]) (all_V32 _) (by rewrite [setRow_more _ _ _ _ (by first | assumption | (simp <;> omega)), setRow_past _ _ _ _ (by simp <;> omega), setRow_at _ _ _ _ _ _ (by simp <;> omega)]; rfl) ?_))
   exact ret_row Try.results91 (w.heap.size + 1) 148 ((ws.map V32).toArray) (0, 0) _ rfl (hp_more (hp_alloc (hp_at _ _ _ (by simp)))) Try.underlying148 rfl (HT.out) rfl ⟨rfl, (((Ext.alloc _ _).trans (Ext.alloc _ _)).trans (Ext.alloc _ _)).trans (Ext.more _ _)⟩
theorem wI_div256 (x : BitVec 32) (k : Nat) : wI (x >>> (k * 8)) / 256 = wI (x >>> ((k + 1) * 8)) := by
 unfold wI
 simp only [BitVec.toNat_ushiftRight, Nat.shiftRight_eq_div_pow]
 rw [show (k + 1) * 8 = k * 8 + 8 by omega, Nat.pow_add, ← Nat.div_div_eq_div_mul]
 omega
theorem wI_tdiv256 (x : BitVec 32) (k : Nat) : (wI (x >>> (k * 8))).tdiv 256 % 4294967296 = wI (x >>> ((k + 1) * 8)) := by
 have h0 := wI_nonneg (x >>> (k * 8))
 have h1 := wI_lt32 (x >>> (k * 8))
 rw [Int.tdiv_eq_ediv_of_nonneg h0, ← wI_div256]
 omega
theorem wI_mod8 (x : BitVec 8) : wI x % 256 = wI x := by have h0 := wI_nonneg x; have h1 := wI_lt8 x; omega
theorem joinTo_step (xs : List (BitVec 32)) (i k : Nat) (hk : k < 4) (y : BitVec 32) (hy : xs[i]? = some y) : joinTo xs (4 * i + (k + 1)) = (joinTo xs (4 * i + k)).set (4 * i + k) ((y >>> (k * 8)).setWidth 8) := by
 rw [show 4 * i + (k + 1) = (4 * i + k) + 1 by omega, joinTo, show (4 * i + k) / 4 = i by omega, show (4 * i + k) % 4 = k by omega]
 simp [hy]
set_option maxHeartbeats 800000 in
theorem rjoin_any (xs : List (BitVec 32)) (hl : xs.length = 4) (w : World) :
  Calls Try.prog 93 #[.agg (xs.map V32).toArray] w
   fun e w' => e = .returned (.agg ((joinF xs).map V8).toArray) ∧ Ext w w' := by
 have HL := kp hl
 clear hl
 go_enter Try.func93, Try.ntmps93
 go_wp2_with fail
 go_loopw [4] (fun i wr => ∃ (k : Nat) (x : Xtra), k ≤ 4 ∧ i = .int .i64 k ∧ wr = more (((w.alloc (.cells (xs.map V32).toArray 148)).alloc (.cells #[.int .u8 0, .int .u8 0, .int .u8 0, .int .u8 0, .int .u8 0, .int .u8 0, .int .u8 0, .int .u8 0, .int .u8 0, .int .u8 0, .int .u8 0, .int .u8 0, .int .u8 0, .int .u8 0, .int .u8 0, .int .u8 0] 115)).alloc (.cells ((joinTo xs (4 * k)).map V8).toArray 115)) x) (fun i _ => 4 - (intOf i).toNat)
 case atStart => exact ⟨0, _, by omega, rfl, by rw [← more_self]; rfl⟩
 case round =>
  obtain ⟨i, x, hi, rfl, rfl⟩ := hrel
  by_cases hlt : i < 4
  ·obtain ⟨y, hy⟩ : ∃ y, xs[i]? = some y := ⟨xs[i]'(by rw [HL.out]; omega), by simp⟩
   have HJ := kp (fun k hk => joinTo_step xs i k hk y hy)
   go_wp2_with fail
   go_loopw [5, 6] (fun v j wr => ∃ (k : Nat) (x : Xtra), k ≤ 4 ∧ j = .int .i64 k ∧ v = .int .u32 (wI (y >>> (k * 8))) ∧ wr = more (((w.alloc (.cells (xs.map V32).toArray 148)).alloc (.cells #[.int .u8 0, .int .u8 0, .int .u8 0, .int .u8 0, .int .u8 0, .int .u8 0, .int .u8 0, .int .u8 0, .int .u8 0, .int .u8 0, .int .u8 0, .int .u8 0, .int .u8 0, .int .u8 0, .int .u8 0, .int .u8 0] 115)).alloc (.cells ((joinTo xs (4 * i + k)).map V8).toArray 115)) x) (fun _ j _ => 4 - (intOf j).toNat)
   case atStart => exact ⟨0, _, by omega, rfl, by simp, rfl⟩
   case round =>
    obtain ⟨k, x, hk, rfl, rfl, rfl⟩ := hrel
    by_cases hlk : k < 4
    ·obtain ⟨z, hz⟩ : ∃ z, (joinTo xs (4 * i + k))[4 * i + k]? = some z := ⟨(joinTo xs (4 * i + k))[4 * i + k]'(by rw [joinTo_len]; omega), by simp⟩
     have HD := kp (wI_tdiv256 y k)
     have HM := kp (wI_mod8 ((y >>> (k * 8)).setWidth 8))
     have HN := kp (HJ.out k hlk)
     have hn := wI_nonneg (y >>> (k * 8))
     go_wp2_with fail
     go_roundw
     case rel => exact ⟨k + 1, _, by omega, by go_num, by rw [HD.out], by rw [HN.out, List.map_set, HM.out]⟩
     case measure => simp [intOf]; omega
    ·obtain rfl : k = 4 := by omega
     have HE := kp (show joinTo xs (4 * (i + 1)) = joinTo xs (4 * i + 4) from rfl)
     go_wp2_with fail
     go_roundw
     case rel => exact ⟨i + 1, _, by omega, by go_num, by rw [HE.out]⟩
     case measure => simp [intOf]; omega
  ·obtain rfl : i = 4 := by omega
   have HT := kp (show (Try.prog.info? 115).map (·.size) = some ((joinTo xs 16).map V8).toArray.size by rw [size115]; simp [joinTo_len])
   have e16 : 4 * 4 = 16 := rfl
   rw [e16]
   clear e16
   go_wp2_with (first | ((with_reducible refine isLd 115 ?_); (with_reducible refine wpList_load_row rfl 115 _ rfl (w.heap.size + 1 + 1) rfl 115 (((joinTo xs 16).map V8).toArray) (0, 0) _ (hp_more (hp_at _ _ _ (by simp))) Try.underlying115 rfl (HT.out) ?_); simp only [pA]) | ((with_reducible refine isSt 115 ?_); with_reducible refine wpList_st_row rfl rfl 115 _ _ rfl (w.heap.size + 1) (((joinTo xs 16).map V8).toArray) rfl rfl 115 (#[.int .u8 0, .int .u8 0, .int .u8 0, .int .u8 0, .int .u8 0, .int .u8 0, .int .u8 0, .int .u8 0, .int .u8 0, .int .u8 0, .int .u8 0, .int .u8 0, .int .u8 0, .int .u8 0, .int .u8 0, .int .u8 0]) (hp_more (hp_alloc (hp_at _ _ _ (by simp)))) (HT.out) (by simp [joinTo_len]) (all_V8 _) (by rewrite [setRow_more _ _ _ _ (by first | assumption | (simp <;> omega)), setRow_past _ _ _ _ (by simp <;> omega), setRow_at _ _ _ _ _ _ (by simp <;> omega)]; rfl) ?_))
   exact ret_row Try.results93 (w.heap.size + 1) 115 (((joinTo xs 16).map V8).toArray) (0, 0) _ rfl (hp_more (hp_alloc (hp_at _ _ _ (by simp)))) Try.underlying115 rfl (HT.out) rfl ⟨rfl, (((Ext.alloc _ _).trans (Ext.alloc _ _)).trans (Ext.alloc _ _)).trans (Ext.more _ _)⟩
def rschedTo (ws : List (BitVec 32)) (k : Nat) : List (BitVec 32) := if k < 4 then ws.take k ++ List.replicate (36 - k) 0 else schedTo ws (k - 4)
theorem rschedTo_len (ws : List (BitVec 32)) (h : ws.length = 4) (k : Nat) : (rschedTo ws k).length = 36 := by
 unfold rschedTo; split
 ·simp; omega
 ·rw [schedTo_len, h]
theorem rschedTo_low (ws : List (BitVec 32)) (h : ws.length = 4) (k : Nat) (hk : k < 4) (x : BitVec 32) (hx : ws[k]? = some x) : rschedTo ws (k + 1) = (rschedTo ws k).set k x := by
 have e : ws.take (k + 1) ++ List.replicate (36 - (k + 1)) 0 = (ws.take k ++ List.replicate (36 - k) 0).set k x := by
  have e : 36 - k = (36 - (k + 1)) + 1 := by omega
  rw [List.take_add_one, hx, e, List.replicate_succ, List.set_append_right _ _ (by simp; omega)]
  simp [Nat.min_eq_left (show k ≤ ws.length by omega)]
 unfold rschedTo
 rw [if_pos hk, ← e]
 split
 ·rfl
 ·obtain rfl : k = 3 := by omega
  simp [schedTo, List.take_of_length_le (show ws.length ≤ 4 by omega)]
theorem rschedTo_high (ws : List (BitVec 32)) (k : Nat) (y z : BitVec 32) (hy : (rschedTo ws (k + 4))[k]? = some y) (hz : (rschedTo ws (k + 4))[k + 3]? = some z) :
  rschedTo ws (k + 4 + 1) = (rschedTo ws (k + 4)).set (k + 4) (y + (rotl 7 z ^^^ schedC (k + 4))) := by
 have e : ∀ m, rschedTo ws (m + 4) = schedTo ws m := fun m => by
  unfold rschedTo; rw [if_neg (by omega), show m + 4 - 4 = m by omega]
 rw [e] at hy hz
 rw [show k + 4 + 1 = (k + 1) + 4 by omega, e, e, schedTo]
 simp [hy, hz]
set_option maxHeartbeats 1600000 in
theorem rschedule_any (bs : List (BitVec 8)) (hl : bs.length = 16) (w : World) :
  Calls Try.prog 90 #[.agg (bs.map V8).toArray] w
   fun e w' => e = .returned (.agg ((schedF bs).map V32).toArray) ∧ Ext w w' := by
 have HS := kp (show (Try.prog.info? 25).map (·.size) = some (bs.map V8).toArray.size by rw [size25]; simp [hl])
 have HWC := kp (rwords_any bs hl)
 have HWL := kp (wordsF_len bs)
 have HSF := kp (show schedF bs = rschedTo (wordsF bs) 36 from rfl)
 generalize hws : wordsF bs = ws at *
 clear hl hws
 have HT := kp (show (Try.prog.info? 148).map (·.size) = some (ws.map V32).toArray.size by rw [size148]; simp [HWL.out])
 go_enter Try.func90, Try.ntmps90
 go_wp2_with (first | ((with_reducible refine isLd 25 ?_); (with_reducible refine wpList_load_row rfl 25 _ rfl (w.heap.size) rfl 25 ((bs.map V8).toArray) (0, 0) _ (hp_alloc (hp_alloc (hp_new _ _))) Try.underlying25 rfl (HS.out) ?_); simp only [pA]) | (go_at_call 91; refine (HWC.out _).mono ?_; rintro e w' ⟨rfl, xa, rfl⟩) | ((with_reducible refine isSt 148 ?_); with_reducible refine wpList_st_row rfl rfl 148 _ _ rfl (_) ((ws.map V32).toArray) rfl rfl 148 (#[.int .u32 0, .int .u32 0, .int .u32 0, .int .u32 0]) (hp_at _ _ _ (by simp)) (HT.out) (by simp [HWL.out]) (all_V32 _) (by rewrite [setRow_at _ _ _ _ _ _ (by simp <;> omega)]; rfl) ?_))
 go_loopw [5] (fun i wr => ∃ (k : Nat) (x : Xtra), k ≤ 36 ∧ i = .int .i64 k ∧ wr = more ((more (((w.alloc (.cells (bs.map V8).toArray 25)).alloc (.cells #[.int .u32 0, .int .u32 0, .int .u32 0, .int .u32 0, .int .u32 0, .int .u32 0, .int .u32 0, .int .u32 0, .int .u32 0, .int .u32 0, .int .u32 0, .int .u32 0, .int .u32 0, .int .u32 0, .int .u32 0, .int .u32 0, .int .u32 0, .int .u32 0, .int .u32 0, .int .u32 0, .int .u32 0, .int .u32 0, .int .u32 0, .int .u32 0, .int .u32 0, .int .u32 0, .int .u32 0, .int .u32 0, .int .u32 0, .int .u32 0, .int .u32 0, .int .u32 0, .int .u32 0, .int .u32 0, .int .u32 0, .int .u32 0] 146)).alloc (.cells ((rschedTo ws k).map V32).toArray 146)) xa).alloc (.cells (ws.map V32).toArray 148)) x) (fun i _ => 36 - (intOf i).toNat)
 case atStart => exact ⟨0, _, by omega, rfl, by rw [← more_self]; rfl⟩
 case round =>
  obtain ⟨k, x, hk, rfl, rfl⟩ := hrel
  by_cases hlt : k < 36
  ·obtain ⟨o, ho⟩ : ∃ o, (rschedTo ws k)[k]? = some o := ⟨(rschedTo ws k)[k]'(by rw [rschedTo_len ws HWL.out]; omega), by simp⟩
   by_cases h4 : k < 4
   ·obtain ⟨y, hy⟩ : ∃ y, ws[k]? = some y := ⟨ws[k]'(by rw [HWL.out]; omega), by simp⟩
    have HN := kp (rschedTo_low ws HWL.out k h4 y hy)
    go_wp2_with fail
    go_roundw
    case rel => exact ⟨k + 1, _, by omega, by go_num, by rw [HN.out, List.map_set]⟩
    case measure => simp [intOf]; omega
   ·obtain ⟨j, rfl⟩ : ∃ j, k = j + 4 := ⟨k - 4, by omega⟩
    obtain ⟨y, hy⟩ : ∃ y, (rschedTo ws (j + 4))[j]? = some y := ⟨(rschedTo ws (j + 4))[j]'(by rw [rschedTo_len ws HWL.out]; omega), by simp⟩
    obtain ⟨z, hz⟩ : ∃ z, (rschedTo ws (j + 4))[j + 3]? = some z := ⟨(rschedTo ws (j + 4))[j + 3]'(by rw [rschedTo_len ws HWL.out]; omega), by simp⟩
    have HN := kp (rschedTo_high ws j y z hy hz)
    have hc := schedC_int j (by omega)
    have hcast : ((j + 4 : Nat) : Int) = (j : Int) + 4 := by omega
    rw [hcast]
    clear hcast
    go_wp2_with fail
    (with_reducible refine region_f2 17 (by kernel_rfl) (by kernel_rfl) (by kernel_rfl) (by kernel_rfl) (by decide) (Nat.le_of_ble_eq_true (by kernel_rfl)) ?_)
    apply Exists.intro
    refine ⟨fun xz2 => ?_, fun xq2 => ?_⟩
    ·simp only [List.take_succ_cons, List.take_zero]
     unfold Cx
     repeat (go_big_quiet_step (exact Calls.cx_of_same (rleft_any _ _ (by decide) (by decide) _)))
     exact wpQuiet_nil rfl
    simp only [List.drop_succ_cons, List.drop_zero]
    go_wp2_with fail
    go_roundw
    case rel => exact ⟨j + 4 + 1, _, by omega, by go_num, by rw [HN.out, List.map_set]⟩
    case measure => simp [intOf]; omega
  ·obtain rfl : k = 36 := by omega
   have HRL := kp (rschedTo_len ws HWL.out 36)
   generalize hss : rschedTo ws 36 = ss at *
   clear hss
   have HU := kp (show (Try.prog.info? 146).map (·.size) = some (ss.map V32).toArray.size by rw [size146]; simp [HRL.out])
   go_wp2_with (first | ((with_reducible refine isLd 146 ?_); (with_reducible refine wpList_load_row rfl 146 _ rfl (w.heap.size + 1 + 1) rfl 146 ((ss.map V32).toArray) (0, 0) _ (hp_more (hp_alloc (hp_more (hp_at _ _ _ (by simp))))) Try.underlying146 rfl (HU.out) ?_); simp only [pA]) | ((with_reducible refine isSt 146 ?_); with_reducible refine wpList_st_row rfl rfl 146 _ _ rfl (w.heap.size + 1) ((ss.map V32).toArray) rfl rfl 146 (#[.int .u32 0, .int .u32 0, .int .u32 0, .int .u32 0, .int .u32 0, .int .u32 0, .int .u32 0, .int .u32 0, .int .u32 0, .int .u32 0, .int .u32 0, .int .u32 0, .int .u32 0, .int .u32 0, .int .u32 0, .int .u32 0, .int .u32 0, .int .u32 0, .int .u32 0, .int .u32 0, .int .u32 0, .int .u32 0, .int .u32 0, .int .u32 0, .int .u32 0, .int .u32 0, .int .u32 0, .int .u32 0, .int .u32 0, .int .u32 0, .int .u32 0, .int .u32 0, .int .u32 0, .int .u32 0, .int .u32 0, .int .u32 0]) (hp_more (hp_alloc (hp_more (hp_alloc (hp_at _ _ _ (by simp)))))) (HU.out) (by rw [zero36]; simp [HRL.out]) (all_V32 _) (by rewrite [setRow_more _ _ _ _ (by first | assumption | (simp <;> omega)), setRow_past _ _ _ _ (by simp <;> omega), setRow_more _ _ _ _ (by first | assumption | (simp <;> omega)), setRow_past _ _ _ _ (by simp <;> omega), setRow_at _ _ _ _ _ _ (by simp <;> omega)]; rfl) ?_))
   exact ret_row Try.results90 (w.heap.size + 1) 146 ((ss.map V32).toArray) (0, 0) _ rfl (hp_more (hp_alloc (hp_more (hp_alloc (hp_at _ _ _ (by simp)))))) Try.underlying146 rfl (HU.out) rfl ⟨by rw [HSF.out], (((((Ext.alloc _ _).trans (Ext.alloc _ _)).trans (Ext.alloc _ _)).trans (Ext.more _ _)).trans (Ext.alloc _ _)).trans (Ext.more _ _)⟩
end Go.Proofs.Ytibncchobkaaiaa
