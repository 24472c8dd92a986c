/- Texts of this proof, put together: Expand. -/
import Derived.Test.YtibncchobkaaiaaC8
import Derived.Test.YtibncchobkaaiaaC1
namespace Go.Proofs.Ytibncchobkaaiaa
open Go.RowKit
def outTo (ks : List (BitVec 8)) (s : ByteArray) (c : List (BitVec 8)) : Nat → List (BitVec 8)
 | 0 => []
 | k + 1 => outTo ks s c k ++ macF ks (inputF s c k)
theorem outTo_len (ks : List (BitVec 8)) (s : ByteArray) (c : List (BitVec 8)) : ∀ k, (outTo ks s c k).length = 16 * k
 | 0 => rfl
 | k + 1 => by rw [outTo, List.length_append, outTo_len ks s c k, macF_len]; omega
def expandF (ks : List (BitVec 8)) (s : ByteArray) (c : List (BitVec 8)) (n : Nat) : List (BitVec 8) := (outTo ks s c ((n + 15) / 16)).take n
theorem expandF_len (ks : List (BitVec 8)) (s : ByteArray) (c : List (BitVec 8)) (n : Nat) : (expandF ks s c n).length = n := by
 unfold expandF; rw [List.length_take, outTo_len]; omega
theorem inputF_short (s : ByteArray) (c : List (BitVec 8)) (i : Int) (hs : s.size ≤ 32) (hc : c.length ≤ 256) : (inputF s c i).length ≤ 1000000000 := by
 simp [inputF, twoF, strB_len]; omega
set_option maxHeartbeats 3200000 in
theorem expand_new (ks : List (BitVec 8)) (hk : ks.length = 16) (s : ByteArray) (hs : s.size ≤ 32) (vc : Value) (c : List (BitVec 8)) (hc : c.length ≤ 256) (n : Nat) (hn : n ≤ 1024) (w : World) (hv : SlB w vc c) :
  Calls Try.prog 72 #[.agg (ks.map V8).toArray, .string s, vc, .int .i64 n] w fun e w' => ∃ ad, e = .returned (.tuple #[.slice ad n n, .int .i64 0]) ∧ SlB w' (.slice ad n n) (expandF ks s c n) ∧ Ext w w' ∧ ∀ b o m, ad = some ⟨b, o, m⟩ → w.heap.size ≤ b := by
 obtain ⟨iu, hiu, hu⟩ := info_iu
 have HIU := kp hiu
 have HU := kp hu
 obtain ⟨ac, cc, rfl⟩ := hv.form
 have HV := kp (hv.ext (Ext.alloc w (.cells (ks.map V8).toArray 25)))
 have HK := kp (sizeK ks hk)
 have hs1 : ¬ 32 < (s.size : Int) := by omega
 have hc1 : ¬ 256 < (c.length : Int) := by omega
 have hn1 : ¬ 1024 < (n : Int) := by omega
 have hn0 : ¬ (n : Int) < 0 := by omega
 have HIN := kp (fun (i : Int) (w1 : World) (hx : SlB w1 (.slice ac c.length cc) c) => input_any s (by omega) _ c (by omega) i w1 hx)
 have HMAC := kp (fun (i : Int) (v : Value) (w1 : World) (hx : SlB w1 v (inputF s c i)) => mac_any ks (inputF s c i) hk (inputF_short s c i hs hc) v w1 hx)
 clear hiu hu hv hk
 go_enter Try.func72, Try.ntmps72
 go_wp2_with fail
 go_loopw [10, 11] (fun v i wr => ∃ k : Nat, 16 * k ≤ n + 15 ∧ i = .int .i64 k ∧ Kp (wr.ownsRow (w.heap.size + 1) 5 1 v (outTo ks s c k).length ((outTo ks s c k).map V8)) ∧ Kp (Ext (w.alloc (.cells (ks.map V8).toArray 25)) wr)) (fun _ i _ => 65 - (intOf i).toNat)
 case atStart => exact ⟨0, by omega, rfl, kp (owns_nil _ _ _), kp (Ext.refl _)⟩
 case round =>
  obtain ⟨k, hk, rfl, HO, HX⟩ := hrel
  obtain ⟨av, cv, hvf⟩ := (SlB.of_owns HO.out).form
  rw [outTo_len] at hvf
  subst hvf
  have HKR := kp (ext_heap HX.out (hp_new _ _))
  have HVX := kp (HV.out.ext HX.out)
  have hsz : w.heap.size + 1 ≤ wr.heap.size := by have := HX.out.size; simpa using this
  by_cases hlt : 16 * k < n
  ·have hlt2 : ((16 * k : Nat) : Int) < n := by omega
   have HB := kp (sizeB (macF ks (inputF s c k)) (macF_len _ _))
   have HZ := kp (z16_size (macF ks (inputF s c k)) (macF_len _ _))
   have HLE := kp (show (outTo ks s c k).length + (macF ks (inputF s c k)).length ≤ 1000000 by rw [outTo_len, macF_len]; omega)
   go_wp2_with fail
   rw [show decide (16 * (k : Int) < (n : Int)) = true by simp; omega]
   refine region_spine (tabS [(33, fun v _ => v = .agg (ks.map V8).toArray), (34, fun v _ => v = .string s), (35, fun v _ => v = .slice ac c.length cc), (36, fun v _ => v = .int .i64 k), (37, fun v w => SlB w v (inputF s c k)), (38, fun v _ => v = .agg ((macF ks (inputF s c k)).map V8).toArray)]) (tabS_mono _ (by simp only [List.forall_mem_cons]; exact ⟨mono_eq _, mono_eq _, mono_eq _, mono_eq _, mono_SlB _, mono_eq _, by simp⟩)) 7 6 12 (.cells z16 115) (by kernel_rfl) (by kernel_rfl) (by kernel_rfl) (by kernel_rfl) (by kernel_rfl) (by intro o ho; cases ho; exact ⟨rfl, rfl, by simp, fun _ _ => by kernel_rfl⟩) (by decide) (wr) (.inl rfl) ?_
   simp only [List.take_succ_cons, List.take_zero, List.eraseIdx_cons_succ, List.eraseIdx_cons_zero]
   refine ⟨fun w_ hwv33 S_ => ?_, fun v33 => ?_⟩
   ·obtain ⟨xv33, rfl⟩ := hwv33
    clear S_
    go_wp2_with ((with_reducible refine isLd 25 ?_); (with_reducible refine wpList_load_row rfl 25 _ rfl (w.heap.size) rfl 25 ((ks.map V8).toArray) (0, 0) _ (hp_more HKR.out) Try.underlying25 rfl (HK.out) ?_); simp only [Act.put, sbA, szA, ssA])
    exact kso rfl rfl rfl
   simp only [Act.put, sbA, szA, ssA]
   refine ⟨fun w_ hwv34 S_ => ?_, fun v34 => ?_⟩
   ·obtain ⟨xv34, rfl⟩ := hwv34
    clear S_
    go_wp2_with fail
    exact kso rfl rfl rfl
   simp only [Act.put, sbA, szA, ssA]
   refine ⟨fun w_ hwv35 S_ => ?_, fun v35 => ?_⟩
   ·obtain ⟨xv35, rfl⟩ := hwv35
    clear S_
    go_wp2_with fail
    exact kso rfl rfl rfl
   simp only [Act.put, sbA, szA, ssA]
   refine ⟨fun w_ hwv36 S_ => ?_, fun v36 => ?_⟩
   ·obtain ⟨xv36, rfl⟩ := hwv36
    clear S_
    go_wp2_with fail
    exact kso rfl rfl rfl
   simp only [Act.put, sbA, szA, ssA]
   refine ⟨fun w_ hwv37 S_ => ?_, fun v37 => ?_⟩
   ·obtain ⟨xv37, rfl⟩ := hwv37
    obtain rfl : v34 = .string s := hsR S_ 34 rfl
    obtain rfl : v35 = .slice ac c.length cc := hsR S_ 35 rfl
    obtain rfl : v36 = .int .i64 k := hsR S_ 36 rfl
    clear S_
    go_wp2_with fail
    refine (HIN.out _ _ (HVX.out.ext (Ext.more _ _))).mono ?_
    rintro e w' ⟨v, rfl, hsl, hx⟩
    have HSL := kp hsl
    have HXL := kp hx
    clear hsl hx
    go_wp2_with fail
    exact ⟨rfl, v, rfl, fun d hd => by cases hd; exact HSL.out, HXL.out⟩
   simp only [Act.put, sbA, szA, ssA]
   refine ⟨fun w_ hwv38 S_ => ?_, fun v38 => ?_⟩
   ·obtain ⟨xv38, rfl⟩ := hwv38
    obtain rfl : v33 = .agg (ks.map V8).toArray := hsR S_ 33 rfl
    have h37 := kp (show SlB _ v37 (inputF s c k) from hsR S_ 37 rfl)
    clear S_
    obtain ⟨a7, c7, rfl⟩ := h37.out.form
    go_wp2_with fail
    refine (HMAC.out _ _ _ h37.out).mono ?_
    rintro e w' ⟨rfl, hx⟩
    have HXL := kp hx
    clear hx
    go_wp2_with fail
    exact ⟨rfl, _, rfl, fun d hd => by cases hd; exact rfl, HXL.out⟩
   simp only [Act.put, sbA, szA, ssA]
   intro xm xq hfin
   obtain rfl : v38 = .agg ((macF ks (inputF s c k)).map V8).toArray := hfin 38 (by decide)
   clear hfin
   simp only [List.setIfInBounds_toArray, List.set_cons_zero, List.set_cons_succ, List.drop_succ_cons, List.drop_zero]
   have HO2 := kp (owns_ext HO.out (((Ext.more wr xm).trans (Ext.alloc _ (.cells ((macF ks (inputF s c k)).map V8).toArray 115))).trans (Ext.more _ xq)))
   have HSX := kp (show SlB (more ((more wr xm).alloc (.cells ((macF ks (inputF s c k)).map V8).toArray 115)) xq) (.slice (some ⟨wr.heap.size + xm.blocks.size, 0, none⟩) 16 16) (macF ks (inputF s c k)) by
    have h : SlB (more ((more wr xm).alloc (.cells ((macF ks (inputF s c k)).map V8).toArray 115)) xq) (.slice (some ⟨wr.heap.size + xm.blocks.size, 0, none⟩) (macF ks (inputF s c k)).length 16) (macF ks (inputF s c k)) := SlB.of_block (hp_more (hp_at _ _ _ (by simp)))
    rwa [macF_len] at h)
   go_wp2_with (first | ((with_reducible refine isSt 115 ?_); with_reducible refine wpList_st_row rfl rfl 115 _ _ rfl (wr.heap.size + xm.blocks.size) (((macF ks (inputF s c k)).map V8).toArray) rfl rfl 115 (_) (hp_more (hp_at _ _ _ (by simp))) (HB.out) (HZ.out) (all_V8 _) (by rewrite [setRow_more _ _ _ _ (by first | assumption | (simp <;> omega)), setRow_at _ _ _ _ _ _ (by simp <;> omega)]; rfl) ?_) | (at_builtin; refine wpList_append_SlB rfl _ _ 33 rfl (w.heap.size + 1) 5 iu Try.underlying33 HIU.out HU.out.1 HU.out.2.1 HU.out.2.2 _ _ rfl HO2.out _ (macF ks (inputF s c k)) rfl HSX.out HLE.out (by simp; omega) ?_; intro v' w1 ho1 hg1))
   have HX1 := kp ((((HX.out.trans (Ext.more wr xm)).trans (Ext.alloc _ _)).trans (Ext.more _ xq)).grown hg1 (fun q hq => by have := owns_block HO2.out q hq; simpa using this))
   go_roundw
   case rel => exact ⟨k + 1, by omega, by go_num, kp (by rw [outTo]; exact ho1), HX1⟩
   case measure => simp [intOf]; omega
  ·have hlt2 : ¬ ((16 * k : Nat) : Int) < n := by omega
   have hkn : k = (n + 15) / 16 := by omega
   have hcv : 16 * k ≤ cv := owns_cap HO.out
   have hcv2 : n ≤ cv := by omega
   have HE := kp (show expandF ks s c n = (outTo ks s c k).take n by rw [expandF, ← hkn])
   have HSL := kp (show SlB wr (.slice av n n) (expandF ks s c n) by
    rw [HE.out]
    refine (SlB.of_owns HO.out).take (by rw [outTo_len]; omega) fun h => ?_
    subst h
    obtain ⟨_, h2⟩ := HO.out
    rcases h2 with ⟨h3, _⟩ | ⟨g, _, _, h3, _⟩
    ·simp only [Value.slice.injEq] at h3; omega
    ·simp at h3)
   have HNB := kp (show ∀ b o m, av = some ⟨b, o, m⟩ → w.heap.size ≤ b from fun b o m e => by
    subst e
    obtain ⟨_, h2 | ⟨g, _, _, h3, hb, _⟩⟩ := HO.out
    ·have h3 := h2.1
     simp only [Value.slice.injEq] at h3
     exact absurd h3.1 (by simp)
    ·simp only [Value.slice.injEq, Option.some.injEq, Addr.mk.injEq] at h3
     obtain ⟨⟨rfl, _⟩, _⟩ := h3
     omega)
   clear hkn
   go_wp2_with fail
   refine bodyPost_ret (v := .tuple #[.slice av n n, .int .i64 0]) (by simp [results, Try.results72, go_sem]) rfl ⟨_, rfl, HSL.out, (Ext.alloc _ _).trans HX.out, HNB.out⟩
end Go.Proofs.Ytibncchobkaaiaa
