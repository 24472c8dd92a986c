/- The walk of DeriveCodes. -/
import Derived.Test.YtianjmmmegelkaaOwn23
import Derived.Test.YtianjmmmegelkaaNames
import Derived.Laws.OwnMore
namespace Go.Proofs.Ytianjmmmegelkaa
open Go.RowKit

set_option maxHeartbeats 3200000 in
theorem codesIn (ks : List (BitVec 8)) (hk : ks.length = 16) (s : ByteArray) (hs : s.size ≤ 100) (vc : Value) (c : List (BitVec 8)) (hc : c.length ≤ 600) (i : Int) (w : World) (hv : SlB w vc c) :
    Calls Try.prog 4 #[.agg (ks.map V8).toArray, .string s, vc, .int .i64 i] w fun e w' => e = .returned (.bool true) ∧ Ext w w' := by
  obtain ⟨ac, cc, rfl⟩ := hv.form
  have HV := kp hv
  have HK := kp (sizeK ks hk)
  have HG := kp (great_any s (by omega) ac c.length cc)
  rw [show greatB s.size c.length = false by simp [greatB]; omega] at HG
  have HTW := kp (fun w (h : SlB w (.slice ac c.length cc) c) => twin_any _ c (by omega) w h)
  have HIN := kp (fun (v : Value) (w : World) (h : SlB w v c) => input_own s (by omega) v c (by omega) i w h)
  have HRI := kp (fun (v : Value) (w : World) (h : SlB w v c) => rinput_any s (by omega) v c (by omega) i w h)
  have HM := kp (fun (v : Value) (w : World) (h : SlB w v c) => mac_any ks c hk (by omega) v w h)
  have HRM := kp (fun (v : Value) (w : World) (h : SlB w v c) => rmac_any ks c hk (by omega) v w h)
  have HIL := kp (show (inputF s c i).length ≤ 1000000000 by simp [inputF, twoF, strB_len]; omega)
  have HCL := kp (show c.length ≤ 1000000000 by omega)
  have heqm : ∀ w, (binOp .eql 31 (.agg ((macF ks c).map V8).toArray) (.agg ((macF ks c).map V8).toArray)).run Try.prog w = .ok (.bool true) w := fun w => by
    rw [run_eql_V8 (P := Try.prog) w Try.underlying31 Try.underlying5 size5 _ _ (macF_len ks c) (macF_len ks c)]; simp
  clear hk hv
  go_enter Try.func4, Try.ntmps4
  go_wp2_with (go_at_call 10; refine (HG.out _).mono ?_; rintro e w' ⟨rfl, rfl⟩)
  refine (HTW.out _ (HV.out.ext (Ext.alloc _ _))).mono ?_
  rintro e w1 ⟨v1, rfl, ho1, hx1⟩
  have HS1 := kp (SlB.of_owns ho1)
  have HX1 := kp ((Ext.alloc _ _).trans hx1)
  have HKR1 := kp (ext_heap hx1 (hp_new _ _))
  obtain ⟨a1, c1, rfl⟩ := (SlB.of_owns ho1).form
  clear ho1 hx1
  go_wp2_with fail
  refine (HIN.out _ _ HS1.out).mono ?_
  rintro e w2 ⟨v2, rfl, ho2, hx2⟩
  have HX2 := kp hx2
  have HKR := kp (ext_heap hx2 HKR1.out)
  obtain ⟨a2, c2, hv2⟩ := (SlB.of_owns ho2).form
  obtain ⟨N, hN⟩ : ∃ N, N = (inputF s c i).length := ⟨_, rfl⟩
  rw [← hN] at hv2
  subst hv2
  have HO2 := kp ho2
  have HNN := kp hN
  clear ho2 hx2 hN HKR1
  go_wp2_with fail
  refine region_spine0 (tabS [(22, fun v _ => v = .agg (ks.map V8).toArray), (23, fun v _ => v = .slice a1 c.length c1), (24, fun v _ => v = .agg ((macF ks c).map V8).toArray), (25, fun v _ => v = .agg (ks.map V8).toArray), (26, fun v _ => v = .slice ac c.length cc), (27, fun v _ => v = .agg ((macF ks c).map V8).toArray), (28, fun v _ => v = .bool true), (29, fun v _ => v = .bool true), (30, fun v _ => v = .slice a2 N c2), (31, fun v _ => v = .string s), (32, fun v _ => v = .slice ac c.length cc), (33, fun v _ => v = .int .i64 i), (34, fun v w => SlB w v (inputF s c i)), (35, fun v _ => v = .bool true), (36, fun v _ => v = .bool true), (11, fun v _ => v = .bool true)]) (tabS_mono _ (by simp only [List.forall_mem_cons]; exact ⟨mono_eq _, mono_eq _, mono_eq _, mono_eq _, mono_eq _, mono_eq _, mono_eq _, mono_eq _, mono_eq _, mono_eq _, mono_eq _, mono_eq _, mono_SlB _, mono_eq _, mono_eq _, mono_eq _, by simp⟩)) 16 (by kernel_rfl) (by kernel_rfl) (by kernel_rfl) (by kernel_rfl) (by decide) (Nat.le_of_ble_eq_true (by kernel_rfl)) (by kernel_rfl) (w2) (.inl rfl) ?_
  simp only [List.take_succ_cons, List.take_zero]
  refine ⟨fun wv22 hwv22 hSv22 => ?_, fun v22 => ?_⟩
  · obtain ⟨xv22, rfl⟩ := hwv22
    clear hSv22
    go_wp2_with ((with_reducible show wpList _ _ _ (Oper.mk _ (Op.load 29 _) _ _ _ _ :: _) _ _); (with_reducible refine wpList_load_row rfl 29 _ rfl (w.heap.size) rfl 29 ((ks.map V8).toArray) (0, 0) _ (hp_more HKR.out) Try.underlying29 rfl (HK.out) ?_); simp only [Act.put, List.setIfInBounds_toArray, List.set_cons_zero, List.set_cons_succ])
    exact ⟨rfl, _, rfl, fun d hd => by cases hd; exact rfl, Ext.refl _⟩
  simp only [Act.put, List.setIfInBounds_toArray, List.set_cons_zero, List.set_cons_succ]
  refine ⟨fun wv23 hwv23 hSv23 => ?_, fun v23 => ?_⟩
  · obtain ⟨xv23, rfl⟩ := hwv23
    clear hSv23
    go_wp2_with fail
    exact ⟨rfl, _, rfl, fun d hd => by cases hd; exact rfl, Ext.refl _⟩
  simp only [Act.put, List.setIfInBounds_toArray, List.set_cons_zero, List.set_cons_succ]
  refine ⟨fun wv24 hwv24 hSv24 => ?_, fun v24 => ?_⟩
  · obtain ⟨xv24, rfl⟩ := hwv24
    obtain rfl : v22 = .agg (ks.map V8).toArray := hSv24 22 (by decide) (by decide)
    obtain rfl : v23 = .slice a1 c.length c1 := hSv24 23 (by decide) (by decide)
    clear hSv24
    go_wp2_with fail
    refine (HM.out _ _ (HS1.out.ext (HX2.out.trans (Ext.more _ _)))).mono ?_
    rintro e w' ⟨rfl, hx⟩
    have HXL := kp hx
    clear hx
    go_wp2_with fail
    exact ⟨rfl, _, rfl, fun d hd => by cases hd; exact rfl, HXL.out⟩
  simp only [Act.put, List.setIfInBounds_toArray, List.set_cons_zero, List.set_cons_succ]
  refine ⟨fun wv25 hwv25 hSv25 => ?_, fun v25 => ?_⟩
  · obtain ⟨xv25, rfl⟩ := hwv25
    clear hSv25
    go_wp2_with ((with_reducible show wpList _ _ _ (Oper.mk _ (Op.load 29 _) _ _ _ _ :: _) _ _); (with_reducible refine wpList_load_row rfl 29 _ rfl (w.heap.size) rfl 29 ((ks.map V8).toArray) (0, 0) _ (hp_more HKR.out) Try.underlying29 rfl (HK.out) ?_); simp only [Act.put, List.setIfInBounds_toArray, List.set_cons_zero, List.set_cons_succ])
    exact ⟨rfl, _, rfl, fun d hd => by cases hd; exact rfl, Ext.refl _⟩
  simp only [Act.put, List.setIfInBounds_toArray, List.set_cons_zero, List.set_cons_succ]
  refine ⟨fun wv26 hwv26 hSv26 => ?_, fun v26 => ?_⟩
  · obtain ⟨xv26, rfl⟩ := hwv26
    clear hSv26
    go_wp2_with fail
    exact ⟨rfl, _, rfl, fun d hd => by cases hd; exact rfl, Ext.refl _⟩
  simp only [Act.put, List.setIfInBounds_toArray, List.set_cons_zero, List.set_cons_succ]
  refine ⟨fun wv27 hwv27 hSv27 => ?_, fun v27 => ?_⟩
  · obtain ⟨xv27, rfl⟩ := hwv27
    obtain rfl : v25 = .agg (ks.map V8).toArray := hSv27 25 (by decide) (by decide)
    obtain rfl : v26 = .slice ac c.length cc := hSv27 26 (by decide) (by decide)
    clear hSv27
    go_wp2_with fail
    refine (HRM.out _ _ (HV.out.ext ((HX1.out.trans HX2.out).trans (Ext.more _ _)))).mono ?_
    rintro e w' ⟨rfl, hx⟩
    have HXL := kp hx
    clear hx
    go_wp2_with fail
    exact ⟨rfl, _, rfl, fun d hd => by cases hd; exact rfl, HXL.out⟩
  simp only [Act.put, List.setIfInBounds_toArray, List.set_cons_zero, List.set_cons_succ]
  refine ⟨fun wv28 hwv28 hSv28 => ?_, fun v28 => ?_⟩
  · obtain ⟨xv28, rfl⟩ := hwv28
    obtain rfl : v24 = .agg ((macF ks c).map V8).toArray := hSv28 24 (by decide) (by decide)
    obtain rfl : v27 = .agg ((macF ks c).map V8).toArray := hSv28 27 (by decide) (by decide)
    clear hSv28
    go_wp2_with fail
    exact ⟨rfl, _, rfl, fun d hd => by cases hd; exact rfl, Ext.refl _⟩
  simp only [Act.put, List.setIfInBounds_toArray, List.set_cons_zero, List.set_cons_succ]
  refine ⟨fun wv29 hwv29 hSv29 => ?_, fun v29 => ?_⟩
  · obtain ⟨xv29, rfl⟩ := hwv29
    obtain rfl : v28 = .bool true := hSv29 28 (by decide) (by decide)
    clear hSv29
    go_wp2_with fail
    exact ⟨rfl, _, rfl, fun d hd => by cases hd; exact rfl, Ext.refl _⟩
  simp only [Act.put, List.setIfInBounds_toArray, List.set_cons_zero, List.set_cons_succ]
  refine ⟨fun wv30 hwv30 hSv30 => ?_, fun v30 => ?_⟩
  · obtain ⟨xv30, rfl⟩ := hwv30
    obtain rfl : v29 = .bool true := hSv30 29 (by decide) (by decide)
    clear hSv30
    go_wp2_with fail
    exact ⟨rfl, _, rfl, fun d hd => by cases hd; exact rfl, Ext.refl _⟩
  simp only [Act.put, List.setIfInBounds_toArray, List.set_cons_zero, List.set_cons_succ]
  refine ⟨fun wv31 hwv31 hSv31 => ?_, fun v31 => ?_⟩
  · obtain ⟨xv31, rfl⟩ := hwv31
    obtain rfl : v29 = .bool true := hSv31 29 (by decide) (by decide)
    clear hSv31
    go_wp2_with fail
    exact ⟨rfl, _, rfl, fun d hd => by cases hd; exact rfl, Ext.refl _⟩
  simp only [Act.put, List.setIfInBounds_toArray, List.set_cons_zero, List.set_cons_succ]
  refine ⟨fun wv32 hwv32 hSv32 => ?_, fun v32 => ?_⟩
  · obtain ⟨xv32, rfl⟩ := hwv32
    obtain rfl : v29 = .bool true := hSv32 29 (by decide) (by decide)
    clear hSv32
    go_wp2_with fail
    exact ⟨rfl, _, rfl, fun d hd => by cases hd; exact rfl, Ext.refl _⟩
  simp only [Act.put, List.setIfInBounds_toArray, List.set_cons_zero, List.set_cons_succ]
  refine ⟨fun wv33 hwv33 hSv33 => ?_, fun v33 => ?_⟩
  · obtain ⟨xv33, rfl⟩ := hwv33
    obtain rfl : v29 = .bool true := hSv33 29 (by decide) (by decide)
    clear hSv33
    go_wp2_with fail
    exact ⟨rfl, _, rfl, fun d hd => by cases hd; exact rfl, Ext.refl _⟩
  simp only [Act.put, List.setIfInBounds_toArray, List.set_cons_zero, List.set_cons_succ]
  refine ⟨fun wv34 hwv34 hSv34 => ?_, fun v34 => ?_⟩
  · obtain ⟨xv34, rfl⟩ := hwv34
    obtain rfl : v29 = .bool true := hSv34 29 (by decide) (by decide)
    obtain rfl : v31 = .string s := hSv34 31 (by decide) (by decide)
    obtain rfl : v32 = .slice ac c.length cc := hSv34 32 (by decide) (by decide)
    obtain rfl : v33 = .int .i64 i := hSv34 33 (by decide) (by decide)
    clear hSv34
    go_wp2_with fail
    refine (HRI.out _ _ (HV.out.ext ((HX1.out.trans HX2.out).trans (Ext.more _ _)))).mono ?_
    rintro e w' ⟨v, rfl, ho, hx⟩
    have HSL := kp (SlB.of_owns ho)
    have HXL := kp hx
    clear ho hx
    go_wp2_with fail
    exact ⟨rfl, v, rfl, fun d hd => by cases hd; exact HSL.out, HXL.out⟩
  simp only [Act.put, List.setIfInBounds_toArray, List.set_cons_zero, List.set_cons_succ]
  refine ⟨fun wv35 hwv35 hSv35 => ?_, fun v35 => ?_⟩
  · obtain ⟨xv35, rfl⟩ := hwv35
    obtain rfl : v29 = .bool true := hSv35 29 (by decide) (by decide)
    obtain rfl : v30 = .slice a2 N c2 := hSv35 30 (by decide) (by decide)
    have h34 := kp (show SlB _ v34 (inputF s c i) from hSv35 34 (by decide) (by decide))
    clear hSv35
    obtain ⟨a7, c7, rfl⟩ := h34.out.form
    go_wp2_with fail
    refine (same_any ((SlB.of_owns HO2.out).ext (Ext.more _ _)) h34.out HIL.out).mono ?_
    rw [show (inputF s c i == inputF s c i) = true by simp]
    rintro e w' ⟨rfl, hx⟩
    have HXL := kp hx
    clear hx
    go_wp2_with fail
    exact ⟨rfl, _, rfl, fun d hd => by cases hd; exact rfl, HXL.out⟩
  simp only [Act.put, List.setIfInBounds_toArray, List.set_cons_zero, List.set_cons_succ]
  refine ⟨fun wv36 hwv36 hSv36 => ?_, fun v36 => ?_⟩
  · obtain ⟨xv36, rfl⟩ := hwv36
    obtain rfl : v29 = .bool true := hSv36 29 (by decide) (by decide)
    obtain rfl : v35 = .bool true := hSv36 35 (by decide) (by decide)
    clear hSv36
    go_wp2_with fail
    exact ⟨rfl, _, rfl, fun d hd => by cases hd; exact rfl, Ext.refl _⟩
  simp only [Act.put, List.setIfInBounds_toArray, List.set_cons_zero, List.set_cons_succ]
  refine ⟨fun wv11 hwv11 hSv11 => ?_, fun v11 => ?_⟩
  · obtain ⟨xv11, rfl⟩ := hwv11
    obtain rfl : v36 = .bool true := hSv11 36 (by decide) (by decide)
    clear hSv11
    go_wp2_with fail
    exact ⟨rfl, _, rfl, fun d hd => by cases hd; exact rfl, Ext.refl _⟩
  simp only [Act.put, List.setIfInBounds_toArray, List.set_cons_zero, List.set_cons_succ]
  intro x3 hfin
  obtain rfl : v11 = .bool true := hfin 11 (by decide)
  clear hfin
  simp only [List.drop_succ_cons, List.drop_zero]
  go_wp2_with fail
  have HX3 := kp (HX2.out.trans (Ext.more w2 x3))
  have HO3 := kp (owns_ext HO2.out (Ext.more w2 x3))
  rw [← HNN.out] at HO3
  generalize more w2 x3 = w3 at *
  clear HO2 HX2 HKR
  go_loopw [12] (fun i wr => ∃ k : Nat, k ≤ N ∧ i = .int .i64 k ∧ Kp (∃ l : List (BitVec 8), l.length = N ∧ wr.ownsRow w1.heap.size 5 1 (.slice a2 N c2) N (l.map V8)) ∧ Kp (Ext w1 wr)) (fun i _ => N - (intOf i).toNat)
  case atStart => exact ⟨0, by omega, rfl, kp ⟨inputF s c i, HNN.out.symm, HO3.out⟩, HX3⟩
  case round =>
    obtain ⟨k, hkN, rfl, HQ, HX⟩ := hrel
    have hNb : N ≤ 1000000000 := by rw [HNN.out]; exact HIL.out
    by_cases hlt : k < N
    · obtain ⟨l, hl, ho⟩ := HQ.out
      have ho2 := ho
      obtain ⟨_, h2⟩ := ho2
      rcases h2 with ⟨_, h4⟩ | ⟨g, cap4, cur, h3, hbg, _⟩
      · omega
      · simp only [Value.slice.injEq, true_and] at h3
        obtain ⟨rfl, rfl⟩ := h3
        obtain ⟨y, hy⟩ : ∃ y, l[k]? = some y := ⟨l[k]'(by omega), by simp⟩
        have hcell : wr.cell? ⟨g, k, none⟩ = some (V8 y) := (ho.cellAt k (by omega)).trans (by simp [hy])
        have hfr : wr.frozen? ⟨g, k, none⟩ = false := ho.frozenAt k
        have HOO := kp ho
        have HLL := kp hl
        have HVV := kp (V8_ofInt (wI y + 1))
        clear ho hl hy
        go_wp2_with fail
        go_roundw
        case rel => exact ⟨k + 1, by omega, by go_num, kp ⟨l.set k (BitVec.ofInt 8 (wI y + 1)), by simp [HLL.out], by rw [List.map_set, HVV.out]; exact (HOO.out.stored k _).1⟩, kp (HX.out.grown (HOO.out.stored k _).2 (fun q hq => by cases hq; exact hbg))⟩
        case measure => simp [intOf]; omega
    · obtain rfl : k = N := by omega
      go_wp2_with fail
      refine (same_any (HS1.out.ext HX.out) (HV.out.ext (HX1.out.trans HX.out)) HCL.out).mono ?_
      rw [show (c == c) = true by simp]
      rintro e w9 ⟨rfl, hx9⟩
      have HX9 := kp hx9
      clear hx9
      go_wp2_with fail
      go_ret
      exact ⟨rfl, (HX1.out.trans HX.out).trans HX9.out⟩
set_option maxHeartbeats 1600000 in
theorem codesOut (ks : List (BitVec 8)) (s : ByteArray) (hs : s.size ≤ 9223372036854775807) (ac : Option Addr) (q cc : Nat) (i : Int) (w : World) (ho : greatB s.size q = true) :
    Calls Try.prog 4 #[.agg (ks.map V8).toArray, .string s, .slice ac q cc, .int .i64 i] w fun e w' => e = .returned (.bool true) ∧ Ext w w' := by
  have HG := kp (great_any s hs ac q cc)
  rw [ho] at HG
  clear ho
  go_enter Try.func4, Try.ntmps4
  go_wp2_with (go_at_call 10; refine (HG.out _).mono ?_; rintro e w' ⟨rfl, rfl⟩)
  go_ret
  exact ⟨rfl, Ext.alloc _ _⟩
theorem deriveCodes.walk (ks : List (BitVec 8)) (hk : ks.length = 16) (s : ByteArray) (hs : s.size ≤ 9223372036854775807) (vc : Value) (c : List (BitVec 8)) (_ : c.length ≤ 9223372036854775807) (i : Int) (_ : (Lit.int .i64 i).wf = true) (w : World) (hv : SlB w vc c) :
    Calls Try.prog 4 #[.agg (ks.map V8).toArray, .string s, vc, .int .i64 i] w fun e w' => e = .returned (.bool true) ∧ Ext w w' := by
  cases ho : greatB s.size c.length with
  | true =>
    obtain ⟨ac, cc, rfl⟩ := hv.form
    exact codesOut ks s hs ac c.length cc i w ho
  | false =>
    simp [greatB] at ho
    exact codesIn ks hk s (by omega) vc c (by omega) i w hv
end Go.Proofs.Ytianjmmmegelkaa
