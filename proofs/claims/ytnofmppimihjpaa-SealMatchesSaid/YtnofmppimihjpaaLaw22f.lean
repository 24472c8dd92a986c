/- SealMatches. -/
import Derived.Test.YtnofmppimihjpaaRef22d
import Derived.Laws.OwnMore
namespace Go.Proofs.Ytnofmppimihjpaa
open Go.RowKit

def codeL (ks nc ad body : List (BitVec 8)) : List (BitVec 8) := if 256 < ad.length ∨ 4096 < body.length then List.replicate 8 0 else codeF ks nc ad body
def sealL (ks nc ad body : List (BitVec 8)) : List (BitVec 8) := if 256 < ad.length ∨ 4096 < body.length then [] else sealF ks nc ad body
def manyE (ad body : List (BitVec 8)) : Int := if 256 < ad.length ∨ 4096 < body.length then 4 else 0
theorem codeL_len (ks nc ad body : List (BitVec 8)) : (codeL ks nc ad body).length = 8 := by
  unfold codeL; split
  · simp
  · exact codeF_len _ _ _ _
theorem sealL_len (ks nc ad body : List (BitVec 8)) : (sealL ks nc ad body).length ≤ 1000000 := by
  unfold sealL; split
  · simp
  · rw [sealF_len]; omega
theorem code_all (ks nc : List (BitVec 8)) (hk : ks.length = 16) (hc : nc.length = 13) (va vb : Value) (ad body : List (BitVec 8)) (w : World) (hva : SlB w va ad) (hvb : SlB w vb body) (hcb : CapOk vb) :
    Calls Try.prog 13 #[.agg (ks.map V8).toArray, .agg (nc.map V8).toArray, va, vb] w fun e w' => e = .returned (.tuple #[.agg ((codeL ks nc ad body).map V8).toArray, .int .i64 (manyE ad body)]) ∧ Ext w w' := by
  by_cases h1 : 256 < ad.length ∨ 4096 < body.length
  · obtain ⟨aa, ca, rfl⟩ := hva.form
    obtain ⟨ab, cb, rfl⟩ := hvb.form
    rw [codeL, if_pos h1, manyE, if_pos h1]
    exact code_many ks nc aa ab _ _ _ _ h1 w
  · rw [codeL, if_neg h1, manyE, if_neg h1]
    exact code_ok ks nc hk hc va vb ad body (by omega) (by omega) w hva hvb hcb
theorem rcode_all (ks nc : List (BitVec 8)) (hk : ks.length = 16) (hc : nc.length = 13) (va vb : Value) (ad body : List (BitVec 8)) (w : World) (hva : SlB w va ad) (hvb : SlB w vb body) :
    Calls Try.prog 14 #[.agg (ks.map V8).toArray, .agg (nc.map V8).toArray, va, vb] w fun e w' => e = .returned (.tuple #[.agg ((codeL ks nc ad body).map V8).toArray, .int .i64 (manyE ad body)]) ∧ Ext w w' := by
  by_cases h1 : 256 < ad.length ∨ 4096 < body.length
  · obtain ⟨aa, ca, rfl⟩ := hva.form
    obtain ⟨ab, cb, rfl⟩ := hvb.form
    rw [codeL, if_pos h1, manyE, if_pos h1]
    exact rcode_many ks nc aa ab _ _ _ _ h1 w
  · rw [codeL, if_neg h1, manyE, if_neg h1]
    exact rcode_ok ks nc hk hc va vb ad body (by omega) (by omega) w hva hvb
theorem seal_all (ks nc : List (BitVec 8)) (hk : ks.length = 16) (hc : nc.length = 13) (va vb : Value) (ad body : List (BitVec 8)) (w : World) (hva : SlB w va ad) (hvb : SlB w vb body) (hcb : CapOk vb) :
    Calls Try.prog 15 #[.agg (ks.map V8).toArray, .agg (nc.map V8).toArray, va, vb] w (RetO2 (sealL ks nc ad body) (manyE ad body) w) := by
  by_cases h1 : 256 < ad.length ∨ 4096 < body.length
  · obtain ⟨aa, ca, rfl⟩ := hva.form
    obtain ⟨ab, cb, rfl⟩ := hvb.form
    rw [sealL, if_pos h1, manyE, if_pos h1]
    exact seal_many ks nc hk hc aa ab _ _ _ _ h1 w
  · rw [sealL, if_neg h1, manyE, if_neg h1]
    exact seal_ok ks nc hk hc va vb ad body (by omega) (by omega) w hva hvb hcb
theorem rseal_all (ks nc : List (BitVec 8)) (hk : ks.length = 16) (hc : nc.length = 13) (va vb : Value) (ad body : List (BitVec 8)) (w : World) (hva : SlB w va ad) (hvb : SlB w vb body) :
    Calls Try.prog 16 #[.agg (ks.map V8).toArray, .agg (nc.map V8).toArray, va, vb] w (RetO2 (sealL ks nc ad body) (manyE ad body) w) := by
  by_cases h1 : 256 < ad.length ∨ 4096 < body.length
  · obtain ⟨aa, ca, rfl⟩ := hva.form
    obtain ⟨ab, cb, rfl⟩ := hvb.form
    rw [sealL, if_pos h1, manyE, if_pos h1]
    exact rseal_many ks nc hk hc aa ab _ _ _ _ h1 w
  · rw [sealL, if_neg h1, manyE, if_neg h1]
    exact rseal_ok ks nc hk hc va vb ad body (by omega) (by omega) w hva hvb

set_option maxHeartbeats 1600000 in
theorem matchOut (ks nc : List (BitVec 8)) (i : Int) (aa ab : Option Addr) (na ca nb cb : Nat) (hg : great22B na nb = true) (w : World) :
    Calls Try.prog 3 #[.agg (ks.map V8).toArray, .agg (nc.map V8).toArray, .int .i64 i, .slice aa na ca, .slice ab nb cb] w fun e w' => e = .returned (.bool true) ∧ Ext w w' := by
  have HG := kp (great22_any aa ab na ca nb cb)
  rw [hg] at HG
  clear hg
  go_enter Try.func3, Try.ntmps3
  go_wp2_with (go_at_call 11; refine (HG.out _).mono ?_; rintro e w' ⟨rfl, rfl⟩)
  go_ret
  exact ⟨rfl, (Ext.alloc _ _).trans (Ext.alloc _ _)⟩
set_option maxHeartbeats 6400000 in
set_option maxRecDepth 10000 in
theorem matchIn (ks nc : List (BitVec 8)) (hk : ks.length = 16) (hc : nc.length = 13) (i : Int) (va vb : Value) (ad body : List (BitVec 8)) (hg : great22B ad.length body.length = false) (w : World) (hva : SlB w va ad) (hvb : SlB w vb body) :
    Calls Try.prog 3 #[.agg (ks.map V8).toArray, .agg (nc.map V8).toArray, .int .i64 i, va, vb] w fun e w' => e = .returned (.bool true) ∧ Ext w w' := by
  have hsa : ad.length ≤ 400 := by simp [great22B] at hg; omega
  have hsb : body.length ≤ 4200 := by simp [great22B] at hg; omega
  obtain ⟨aa, ca, rfl⟩ := hva.form
  obtain ⟨ab, cb, rfl⟩ := hvb.form
  have HVA := kp hva
  have HVB := kp hvb
  have HK := kp (sizeK ks hk)
  have HN := kp (sizeN nc hc)
  have HG := kp (great22_any aa ab ad.length ca body.length cb)
  rw [hg] at HG
  have HT1 := kp (fun v w h => twin22_any v ad (by omega) w h)
  have HT2 := kp (fun v w h => twin22_any v body (by omega) w h)
  have HCO := kp (fun va vb w h1 h2 h3 => code_all ks nc hk hc va vb ad body w h1 h2 h3)
  have HRCO := kp (fun va vb w h1 h2 => rcode_all ks nc hk hc va vb ad body w h1 h2)
  have HSE := kp (fun va vb w h1 h2 h3 => seal_all ks nc hk hc va vb ad body w h1 h2 h3)
  have HRSE := kp (fun va vb w h1 h2 => rseal_all ks nc hk hc va vb ad body w h1 h2)
  have HST := kp (fun w => stream_any ks nc hk hc i w)
  have HRST := kp (fun w => rstream_any ks nc hk hc i w)
  have HLA := kp (show ad.length ≤ 1000000000 by omega)
  have HLB := kp (show body.length ≤ 1000000000 by omega)
  have HLS := kp (sealL_len ks nc ad body)
  have HCZ := kp (size8 _ (codeL_len ks nc ad body))
  have HCZ8 := kp (z8_size _ (codeL_len ks nc ad body))
  have heqS : ∀ w, (binOp .eql 38 (.agg ((streamF ks nc i).map V8).toArray) (.agg ((streamF ks nc i).map V8).toArray)).run Try.prog w = .ok (.bool true) w := fun w => by
    rw [run_eql_V8 (P := Try.prog) w Try.underlying38 Try.underlying5 size5 _ _ (streamF_len ks nc i) (streamF_len ks nc i)]; simp
  have heqC : ∀ w, (binOp .eql 28 (.agg ((codeL ks nc ad body).map V8).toArray) (.agg ((codeL ks nc ad body).map V8).toArray)).run Try.prog w = .ok (.bool true) w := fun w => by
    rw [run_eql_V8 (P := Try.prog) w Try.underlying28 Try.underlying5 size5 _ _ (codeL_len ks nc ad body) (codeL_len ks nc ad body)]; simp
  generalize codeL ks nc ad body = cl at *
  generalize sealL ks nc ad body = sl at *
  generalize manyE ad body = ce at *
  generalize streamF ks nc i = S at *
  clear hk hc hva hvb hg
  go_enter Try.func3, Try.ntmps3
  generalize h4 : (Code.region 4 _ _ : Code) = R4
  generalize h5 : (Code.region 5 _ _ : Code) = R5
  generalize h6 : (Code.region 6 _ _ : Code) = R6
  generalize h8 : (Code.region 8 _ _ : Code) = R8
  go_wp2_with (go_at_call 11; refine (HG.out _).mono ?_; rintro e w' ⟨rfl, rfl⟩)
  refine (HT1.out _ _ (HVA.out.ext ((Ext.alloc _ _).trans (Ext.alloc _ _)))).mono ?_
  rintro e w1 ⟨v1, rfl, ho1, hx1⟩
  have HX1 := kp (((Ext.alloc _ _).trans (Ext.alloc _ _)).trans hx1)
  have HS1 := kp (SlB.of_owns ho1)
  have HK1 := kp (ext_heap hx1 (hp_alloc (hp_new _ _)))
  have HN1 := kp (ext_heap hx1 (hp_at _ _ (w.heap.size + 1) (by simp)))
  obtain ⟨a1, c1, rfl⟩ := (SlB.of_owns ho1).form
  clear ho1 hx1
  go_wp2_with fail
  refine (HT2.out _ _ (HVB.out.ext HX1.out)).mono ?_
  rintro e w2 ⟨v2, rfl, ho2, hx2⟩
  have HX2 := kp (HX1.out.trans hx2)
  have HS12 := kp (HS1.out.ext hx2)
  have HS2 := kp (SlB.of_owns ho2)
  have HC2 := kp (CapOk.of_owns ho2)
  have HK2 := kp (ext_heap hx2 HK1.out)
  have HN2 := kp (ext_heap hx2 HN1.out)
  obtain ⟨a2, c2, rfl⟩ := (SlB.of_owns ho2).form
  clear ho2 hx2 HK1 HN1
  go_wp2_with fail
  subst h4
  go_wp2_with (first | ((with_reducible show wpList _ _ _ (Oper.mk _ (Op.load 23 _) _ _ _ _ :: _) _ _); (with_reducible refine wpList_load_row rfl 23 _ rfl (w.heap.size) rfl 23 ((ks.map V8).toArray) (0, 0) _ (HK2.out) Try.underlying23 rfl (HK.out) ?_); simp only [Act.put, List.setIfInBounds_toArray, List.set_cons_zero, List.set_cons_succ]) | ((with_reducible show wpList _ _ _ (Oper.mk _ (Op.load 24 _) _ _ _ _ :: _) _ _); (with_reducible refine wpList_load_row rfl 24 _ rfl (w.heap.size + 1) rfl 24 ((nc.map V8).toArray) (0, 0) _ (HN2.out) Try.underlying24 rfl (HN.out) ?_); simp only [Act.put, List.setIfInBounds_toArray, List.set_cons_zero, List.set_cons_succ]))
  refine (HCO.out _ _ _ HS12.out HS2.out HC2.out).mono ?_
  rintro e w3 ⟨rfl, hx3⟩
  obtain ⟨C, hC⟩ : ∃ C, C = w3.heap.size := ⟨_, rfl⟩
  have HX3 := kp (hx3.trans (Ext.alloc _ (.cells (cl.map V8).toArray 28)))
  have HC3 := kp (show (w3.alloc (.cells (cl.map V8).toArray 28)).heap[C]? = _ from hp_at _ _ _ hC)
  have HK3 := kp (ext_heap HX3.out HK2.out)
  have HN3 := kp (ext_heap HX3.out HN2.out)
  clear hx3 HK2 HN2
  go_wp2_with ((with_reducible show wpList _ _ _ (Oper.mk none (Op.store 28 _ _) _ _ _ _ :: _) _ _); with_reducible refine wpList_st_row rfl rfl 28 _ _ rfl (w3.heap.size) ((cl.map V8).toArray) rfl rfl 28 (z8) (hp_new _ _) (HCZ.out) (HCZ8.out) (all_V8 _) (by rewrite [setRow_at _ _ _ _ _ _ (by simp <;> omega)]; rfl) ?_)
  rw [← hC]
  generalize w3.alloc (.cells (cl.map V8).toArray 28) = W3 at *
  clear hC
  subst h5
  go_wp2_with (first | ((with_reducible show wpList _ _ _ (Oper.mk _ (Op.load 23 _) _ _ _ _ :: _) _ _); (with_reducible refine wpList_load_row rfl 23 _ rfl (w.heap.size) rfl 23 ((ks.map V8).toArray) (0, 0) _ (HK3.out) Try.underlying23 rfl (HK.out) ?_); simp only [Act.put, List.setIfInBounds_toArray, List.set_cons_zero, List.set_cons_succ]) | ((with_reducible show wpList _ _ _ (Oper.mk _ (Op.load 24 _) _ _ _ _ :: _) _ _); (with_reducible refine wpList_load_row rfl 24 _ rfl (w.heap.size + 1) rfl 24 ((nc.map V8).toArray) (0, 0) _ (HN3.out) Try.underlying24 rfl (HN.out) ?_); simp only [Act.put, List.setIfInBounds_toArray, List.set_cons_zero, List.set_cons_succ]))
  refine (HRCO.out _ _ _ (HVA.out.ext (HX2.out.trans HX3.out)) (HVB.out.ext (HX2.out.trans HX3.out))).mono ?_
  rintro e w4 ⟨rfl, hx4⟩
  obtain ⟨D, hD⟩ : ∃ D, D = w4.heap.size := ⟨_, rfl⟩
  have HX4 := kp (HX3.out.trans (hx4.trans (Ext.alloc _ (.cells (cl.map V8).toArray 28))))
  have HD4 := kp (show (w4.alloc (.cells (cl.map V8).toArray 28)).heap[D]? = _ from hp_at _ _ _ hD)
  have HC4 := kp (ext_heap (hx4.trans (Ext.alloc _ (.cells (cl.map V8).toArray 28))) HC3.out)
  have HK4 := kp (ext_heap (hx4.trans (Ext.alloc _ (.cells (cl.map V8).toArray 28))) HK3.out)
  have HN4 := kp (ext_heap (hx4.trans (Ext.alloc _ (.cells (cl.map V8).toArray 28))) HN3.out)
  clear hx4 HK3 HN3 HC3 HX3
  go_wp2_with ((with_reducible show wpList _ _ _ (Oper.mk none (Op.store 28 _ _) _ _ _ _ :: _) _ _); with_reducible refine wpList_st_row rfl rfl 28 _ _ rfl (w4.heap.size) ((cl.map V8).toArray) rfl rfl 28 (z8) (hp_new _ _) (HCZ.out) (HCZ8.out) (all_V8 _) (by rewrite [setRow_at _ _ _ _ _ _ (by simp <;> omega)]; rfl) ?_)
  rw [← hD]
  generalize w4.alloc (.cells (cl.map V8).toArray 28) = W4 at *
  clear hD
  subst h6
  go_wp2_with (first | ((with_reducible show wpList _ _ _ (Oper.mk _ (Op.load 23 _) _ _ _ _ :: _) _ _); (with_reducible refine wpList_load_row rfl 23 _ rfl (w.heap.size) rfl 23 ((ks.map V8).toArray) (0, 0) _ (HK4.out) Try.underlying23 rfl (HK.out) ?_); simp only [Act.put, List.setIfInBounds_toArray, List.set_cons_zero, List.set_cons_succ]) | ((with_reducible show wpList _ _ _ (Oper.mk _ (Op.load 24 _) _ _ _ _ :: _) _ _); (with_reducible refine wpList_load_row rfl 24 _ rfl (w.heap.size + 1) rfl 24 ((nc.map V8).toArray) (0, 0) _ (HN4.out) Try.underlying24 rfl (HN.out) ?_); simp only [Act.put, List.setIfInBounds_toArray, List.set_cons_zero, List.set_cons_succ]))
  refine (HSE.out _ _ _ (HS12.out.ext HX4.out) (HS2.out.ext HX4.out) HC2.out).mono ?_
  rintro e w5 ⟨v5, rfl, ho5, hx5⟩
  have HX5 := kp (HX4.out.trans hx5)
  have HO5 := kp (owns_base (base' := w2.heap.size) ho5 HX4.out.size)
  have HC5 := kp (ext_heap hx5 HC4.out)
  have HD5 := kp (ext_heap hx5 HD4.out)
  have HK5 := kp (ext_heap hx5 HK4.out)
  have HN5 := kp (ext_heap hx5 HN4.out)
  obtain ⟨a5, c5, hv5⟩ := (SlB.of_owns ho5).form
  obtain ⟨N, hN⟩ : ∃ N, N = sl.length := ⟨_, rfl⟩
  rw [← hN] at hv5
  subst hv5
  have HNN := kp hN
  have hNb : N ≤ 1000000 := by rw [hN]; exact HLS.out
  clear ho5 hx5 hN HC4 HD4 HK4 HN4 HX4
  go_wp2_with (first | ((with_reducible show wpList _ _ _ (Oper.mk _ (Op.load 23 _) _ _ _ _ :: _) _ _); (with_reducible refine wpList_load_row rfl 23 _ rfl (w.heap.size) rfl 23 ((ks.map V8).toArray) (0, 0) _ (HK5.out) Try.underlying23 rfl (HK.out) ?_); simp only [Act.put, List.setIfInBounds_toArray, List.set_cons_zero, List.set_cons_succ]) | ((with_reducible show wpList _ _ _ (Oper.mk _ (Op.load 24 _) _ _ _ _ :: _) _ _); (with_reducible refine wpList_load_row rfl 24 _ rfl (w.heap.size + 1) rfl 24 ((nc.map V8).toArray) (0, 0) _ (HN5.out) Try.underlying24 rfl (HN.out) ?_); simp only [Act.put, List.setIfInBounds_toArray, List.set_cons_zero, List.set_cons_succ]))
  refine (HRSE.out _ _ _ (HVA.out.ext (HX2.out.trans HX5.out)) (HVB.out.ext (HX2.out.trans HX5.out))).mono ?_
  rintro e w6 ⟨v6, rfl, ho6, hx6⟩
  have HX6 := kp (HX5.out.trans hx6)
  have HO6 := kp (owns_ext HO5.out hx6)
  have HS6 := kp (SlB.of_owns ho6)
  have HC6 := kp (ext_heap hx6 HC5.out)
  have HD6 := kp (ext_heap hx6 HD5.out)
  have HK6 := kp (ext_heap hx6 HK5.out)
  have HN6 := kp (ext_heap hx6 HN5.out)
  obtain ⟨a6, c6, hv6⟩ := (SlB.of_owns ho6).form
  rw [← HNN.out] at hv6
  subst hv6
  clear ho6 hx6 HC5 HD5 HK5 HN5 HX5 HO5
  go_wp2_with fail
  subst h8
  refine region_spine0 (tabS [(62, fun v _ => v = .agg (ks.map V8).toArray), (63, fun v _ => v = .agg (nc.map V8).toArray), (64, fun v _ => v = .int .i64 i), (65, fun v _ => v = .agg (S.map V8).toArray), (66, fun v _ => v = .agg (ks.map V8).toArray), (67, fun v _ => v = .agg (nc.map V8).toArray), (68, fun v _ => v = .int .i64 i), (69, fun v _ => v = .agg (S.map V8).toArray), (70, fun v _ => v = .bool true), (71, fun v _ => v = .bool true), (72, fun v _ => v = .agg (cl.map V8).toArray), (73, fun v _ => v = .agg (cl.map V8).toArray), (74, fun v _ => v = .bool true), (75, fun v _ => v = .bool true), (76, fun v _ => v = .bool true), (77, fun v _ => v = .int .i64 ce), (78, fun v _ => v = .int .i64 ce), (79, fun v _ => v = .bool true), (80, fun v _ => v = .bool true), (81, fun v _ => v = .bool true), (82, fun v _ => v = .slice a5 N c5), (83, fun v _ => v = .slice a6 N c6), (84, fun v _ => v = .bool true), (85, fun v _ => v = .bool true), (86, fun v _ => v = .bool true), (87, fun v _ => v = .int .i64 ce), (88, fun v _ => v = .int .i64 ce), (89, fun v _ => v = .bool true), (90, fun v _ => v = .bool true), (21, fun v _ => v = .bool true)]) (tabS_mono _ (by simp only [List.forall_mem_cons]; exact ⟨mono_eq _, mono_eq _, mono_eq _, mono_eq _, mono_eq _, mono_eq _, mono_eq _, mono_eq _, mono_eq _, mono_eq _, mono_eq _, mono_eq _, mono_eq _, mono_eq _, mono_eq _, mono_eq _, mono_eq _, mono_eq _, mono_eq _, mono_eq _, mono_eq _, mono_eq _, mono_eq _, mono_eq _, mono_eq _, mono_eq _, mono_eq _, mono_eq _, mono_eq _, mono_eq _, by simp⟩)) 30 (by kernel_rfl) (by kernel_rfl) (by kernel_rfl) (by kernel_rfl) (by decide) (Nat.le_of_ble_eq_true (by kernel_rfl)) (by kernel_rfl) (w6) (.inl rfl) ?_
  simp only [List.take_succ_cons, List.take_zero]
  refine ⟨fun wv62 hwv62 hSv62 => ?_, fun v62 => ?_⟩
  · obtain ⟨xv62, rfl⟩ := hwv62
    clear hSv62
    go_wp2_with ((with_reducible show wpList _ _ _ (Oper.mk _ (Op.load 23 _) _ _ _ _ :: _) _ _); (with_reducible refine wpList_load_row rfl 23 _ rfl (w.heap.size) rfl 23 ((ks.map V8).toArray) (0, 0) _ (hp_more HK6.out) Try.underlying23 rfl (HK.out) ?_); simp only [Act.put, List.setIfInBounds_toArray, List.set_cons_zero, List.set_cons_succ])
    exact ⟨rfl, _, rfl, fun d hd => by cases hd; exact rfl, Ext.refl _⟩
  simp only [Act.put, List.setIfInBounds_toArray, List.set_cons_zero, List.set_cons_succ]
  refine ⟨fun wv63 hwv63 hSv63 => ?_, fun v63 => ?_⟩
  · obtain ⟨xv63, rfl⟩ := hwv63
    clear hSv63
    go_wp2_with ((with_reducible show wpList _ _ _ (Oper.mk _ (Op.load 24 _) _ _ _ _ :: _) _ _); (with_reducible refine wpList_load_row rfl 24 _ rfl (w.heap.size + 1) rfl 24 ((nc.map V8).toArray) (0, 0) _ (hp_more HN6.out) Try.underlying24 rfl (HN.out) ?_); simp only [Act.put, List.setIfInBounds_toArray, List.set_cons_zero, List.set_cons_succ])
    exact ⟨rfl, _, rfl, fun d hd => by cases hd; exact rfl, Ext.refl _⟩
  simp only [Act.put, List.setIfInBounds_toArray, List.set_cons_zero, List.set_cons_succ]
  refine ⟨fun wv64 hwv64 hSv64 => ?_, fun v64 => ?_⟩
  · obtain ⟨xv64, rfl⟩ := hwv64
    clear hSv64
    go_wp2_with fail
    exact ⟨rfl, _, rfl, fun d hd => by cases hd; exact rfl, Ext.refl _⟩
  simp only [Act.put, List.setIfInBounds_toArray, List.set_cons_zero, List.set_cons_succ]
  refine ⟨fun wv65 hwv65 hSv65 => ?_, fun v65 => ?_⟩
  · obtain ⟨xv65, rfl⟩ := hwv65
    obtain rfl : v62 = .agg (ks.map V8).toArray := hSv65 62 (by decide) (by decide)
    obtain rfl : v63 = .agg (nc.map V8).toArray := hSv65 63 (by decide) (by decide)
    obtain rfl : v64 = .int .i64 i := hSv65 64 (by decide) (by decide)
    clear hSv65
    go_wp2_with fail
    refine (HST.out _).mono ?_
    rintro e w' ⟨rfl, hx⟩
    have HXL := kp hx
    clear hx
    go_wp2_with fail
    exact ⟨rfl, _, rfl, fun d hd => by cases hd; exact rfl, HXL.out⟩
  simp only [Act.put, List.setIfInBounds_toArray, List.set_cons_zero, List.set_cons_succ]
  refine ⟨fun wv66 hwv66 hSv66 => ?_, fun v66 => ?_⟩
  · obtain ⟨xv66, rfl⟩ := hwv66
    clear hSv66
    go_wp2_with ((with_reducible show wpList _ _ _ (Oper.mk _ (Op.load 23 _) _ _ _ _ :: _) _ _); (with_reducible refine wpList_load_row rfl 23 _ rfl (w.heap.size) rfl 23 ((ks.map V8).toArray) (0, 0) _ (hp_more HK6.out) Try.underlying23 rfl (HK.out) ?_); simp only [Act.put, List.setIfInBounds_toArray, List.set_cons_zero, List.set_cons_succ])
    exact ⟨rfl, _, rfl, fun d hd => by cases hd; exact rfl, Ext.refl _⟩
  simp only [Act.put, List.setIfInBounds_toArray, List.set_cons_zero, List.set_cons_succ]
  refine ⟨fun wv67 hwv67 hSv67 => ?_, fun v67 => ?_⟩
  · obtain ⟨xv67, rfl⟩ := hwv67
    clear hSv67
    go_wp2_with ((with_reducible show wpList _ _ _ (Oper.mk _ (Op.load 24 _) _ _ _ _ :: _) _ _); (with_reducible refine wpList_load_row rfl 24 _ rfl (w.heap.size + 1) rfl 24 ((nc.map V8).toArray) (0, 0) _ (hp_more HN6.out) Try.underlying24 rfl (HN.out) ?_); simp only [Act.put, List.setIfInBounds_toArray, List.set_cons_zero, List.set_cons_succ])
    exact ⟨rfl, _, rfl, fun d hd => by cases hd; exact rfl, Ext.refl _⟩
  simp only [Act.put, List.setIfInBounds_toArray, List.set_cons_zero, List.set_cons_succ]
  refine ⟨fun wv68 hwv68 hSv68 => ?_, fun v68 => ?_⟩
  · obtain ⟨xv68, rfl⟩ := hwv68
    clear hSv68
    go_wp2_with fail
    exact ⟨rfl, _, rfl, fun d hd => by cases hd; exact rfl, Ext.refl _⟩
  simp only [Act.put, List.setIfInBounds_toArray, List.set_cons_zero, List.set_cons_succ]
  refine ⟨fun wv69 hwv69 hSv69 => ?_, fun v69 => ?_⟩
  · obtain ⟨xv69, rfl⟩ := hwv69
    obtain rfl : v66 = .agg (ks.map V8).toArray := hSv69 66 (by decide) (by decide)
    obtain rfl : v67 = .agg (nc.map V8).toArray := hSv69 67 (by decide) (by decide)
    obtain rfl : v68 = .int .i64 i := hSv69 68 (by decide) (by decide)
    clear hSv69
    go_wp2_with fail
    refine (HRST.out _).mono ?_
    rintro e w' ⟨rfl, hx⟩
    have HXL := kp hx
    clear hx
    go_wp2_with fail
    exact ⟨rfl, _, rfl, fun d hd => by cases hd; exact rfl, HXL.out⟩
  simp only [Act.put, List.setIfInBounds_toArray, List.set_cons_zero, List.set_cons_succ]
  refine ⟨fun wv70 hwv70 hSv70 => ?_, fun v70 => ?_⟩
  · obtain ⟨xv70, rfl⟩ := hwv70
    obtain rfl : v65 = .agg (S.map V8).toArray := hSv70 65 (by decide) (by decide)
    obtain rfl : v69 = .agg (S.map V8).toArray := hSv70 69 (by decide) (by decide)
    clear hSv70
    go_wp2_with fail
    exact ⟨rfl, _, rfl, fun d hd => by cases hd; exact rfl, Ext.refl _⟩
  simp only [Act.put, List.setIfInBounds_toArray, List.set_cons_zero, List.set_cons_succ]
  refine ⟨fun wv71 hwv71 hSv71 => ?_, fun v71 => ?_⟩
  · obtain ⟨xv71, rfl⟩ := hwv71
    obtain rfl : v70 = .bool true := hSv71 70 (by decide) (by decide)
    clear hSv71
    go_wp2_with fail
    exact ⟨rfl, _, rfl, fun d hd => by cases hd; exact rfl, Ext.refl _⟩
  simp only [Act.put, List.setIfInBounds_toArray, List.set_cons_zero, List.set_cons_succ]
  refine ⟨fun wv72 hwv72 hSv72 => ?_, fun v72 => ?_⟩
  · obtain ⟨xv72, rfl⟩ := hwv72
    obtain rfl : v71 = .bool true := hSv72 71 (by decide) (by decide)
    clear hSv72
    go_wp2_with ((with_reducible show wpList _ _ _ (Oper.mk _ (Op.load 28 _) _ _ _ _ :: _) _ _); (with_reducible refine wpList_load_rowG (by kernel_rfl) 28 _ rfl (C) rfl 28 ((cl.map V8).toArray) (0, 0) _ (hp_more HC6.out) Try.underlying28 rfl (HCZ.out) ?_); simp only [Act.put, List.setIfInBounds_toArray, List.set_cons_zero, List.set_cons_succ])
    exact ⟨rfl, _, rfl, fun d hd => by cases hd; exact rfl, Ext.refl _⟩
  simp only [Act.put, List.setIfInBounds_toArray, List.set_cons_zero, List.set_cons_succ]
  refine ⟨fun wv73 hwv73 hSv73 => ?_, fun v73 => ?_⟩
  · obtain ⟨xv73, rfl⟩ := hwv73
    obtain rfl : v71 = .bool true := hSv73 71 (by decide) (by decide)
    clear hSv73
    go_wp2_with ((with_reducible show wpList _ _ _ (Oper.mk _ (Op.load 28 _) _ _ _ _ :: _) _ _); (with_reducible refine wpList_load_rowG (by kernel_rfl) 28 _ rfl (D) rfl 28 ((cl.map V8).toArray) (0, 0) _ (hp_more HD6.out) Try.underlying28 rfl (HCZ.out) ?_); simp only [Act.put, List.setIfInBounds_toArray, List.set_cons_zero, List.set_cons_succ])
    exact ⟨rfl, _, rfl, fun d hd => by cases hd; exact rfl, Ext.refl _⟩
  simp only [Act.put, List.setIfInBounds_toArray, List.set_cons_zero, List.set_cons_succ]
  refine ⟨fun wv74 hwv74 hSv74 => ?_, fun v74 => ?_⟩
  · obtain ⟨xv74, rfl⟩ := hwv74
    obtain rfl : v71 = .bool true := hSv74 71 (by decide) (by decide)
    obtain rfl : v72 = .agg (cl.map V8).toArray := hSv74 72 (by decide) (by decide)
    obtain rfl : v73 = .agg (cl.map V8).toArray := hSv74 73 (by decide) (by decide)
    clear hSv74
    go_wp2_with fail
    exact ⟨rfl, _, rfl, fun d hd => by cases hd; exact rfl, Ext.refl _⟩
  simp only [Act.put, List.setIfInBounds_toArray, List.set_cons_zero, List.set_cons_succ]
  refine ⟨fun wv75 hwv75 hSv75 => ?_, fun v75 => ?_⟩
  · obtain ⟨xv75, rfl⟩ := hwv75
    obtain rfl : v71 = .bool true := hSv75 71 (by decide) (by decide)
    obtain rfl : v74 = .bool true := hSv75 74 (by decide) (by decide)
    clear hSv75
    go_wp2_with fail
    exact ⟨rfl, _, rfl, fun d hd => by cases hd; exact rfl, Ext.refl _⟩
  simp only [Act.put, List.setIfInBounds_toArray, List.set_cons_zero, List.set_cons_succ]
  refine ⟨fun wv76 hwv76 hSv76 => ?_, fun v76 => ?_⟩
  · obtain ⟨xv76, rfl⟩ := hwv76
    obtain rfl : v75 = .bool true := hSv76 75 (by decide) (by decide)
    clear hSv76
    go_wp2_with fail
    exact ⟨rfl, _, rfl, fun d hd => by cases hd; exact rfl, Ext.refl _⟩
  simp only [Act.put, List.setIfInBounds_toArray, List.set_cons_zero, List.set_cons_succ]
  refine ⟨fun wv77 hwv77 hSv77 => ?_, fun v77 => ?_⟩
  · obtain ⟨xv77, rfl⟩ := hwv77
    obtain rfl : v76 = .bool true := hSv77 76 (by decide) (by decide)
    clear hSv77
    go_wp2_with fail
    exact ⟨rfl, _, rfl, fun d hd => by cases hd; exact rfl, Ext.refl _⟩
  simp only [Act.put, List.setIfInBounds_toArray, List.set_cons_zero, List.set_cons_succ]
  refine ⟨fun wv78 hwv78 hSv78 => ?_, fun v78 => ?_⟩
  · obtain ⟨xv78, rfl⟩ := hwv78
    obtain rfl : v76 = .bool true := hSv78 76 (by decide) (by decide)
    clear hSv78
    go_wp2_with fail
    exact ⟨rfl, _, rfl, fun d hd => by cases hd; exact rfl, Ext.refl _⟩
  simp only [Act.put, List.setIfInBounds_toArray, List.set_cons_zero, List.set_cons_succ]
  refine ⟨fun wv79 hwv79 hSv79 => ?_, fun v79 => ?_⟩
  · obtain ⟨xv79, rfl⟩ := hwv79
    obtain rfl : v76 = .bool true := hSv79 76 (by decide) (by decide)
    obtain rfl : v77 = .int .i64 ce := hSv79 77 (by decide) (by decide)
    obtain rfl : v78 = .int .i64 ce := hSv79 78 (by decide) (by decide)
    clear hSv79
    go_wp2_with fail
    exact ⟨rfl, _, rfl, fun d hd => by cases hd; exact rfl, Ext.refl _⟩
  simp only [Act.put, List.setIfInBounds_toArray, List.set_cons_zero, List.set_cons_succ]
  refine ⟨fun wv80 hwv80 hSv80 => ?_, fun v80 => ?_⟩
  · obtain ⟨xv80, rfl⟩ := hwv80
    obtain rfl : v76 = .bool true := hSv80 76 (by decide) (by decide)
    obtain rfl : v79 = .bool true := hSv80 79 (by decide) (by decide)
    clear hSv80
    go_wp2_with fail
    exact ⟨rfl, _, rfl, fun d hd => by cases hd; exact rfl, Ext.refl _⟩
  simp only [Act.put, List.setIfInBounds_toArray, List.set_cons_zero, List.set_cons_succ]
  refine ⟨fun wv81 hwv81 hSv81 => ?_, fun v81 => ?_⟩
  · obtain ⟨xv81, rfl⟩ := hwv81
    obtain rfl : v80 = .bool true := hSv81 80 (by decide) (by decide)
    clear hSv81
    go_wp2_with fail
    exact ⟨rfl, _, rfl, fun d hd => by cases hd; exact rfl, Ext.refl _⟩
  simp only [Act.put, List.setIfInBounds_toArray, List.set_cons_zero, List.set_cons_succ]
  refine ⟨fun wv82 hwv82 hSv82 => ?_, fun v82 => ?_⟩
  · obtain ⟨xv82, rfl⟩ := hwv82
    obtain rfl : v81 = .bool true := hSv82 81 (by decide) (by decide)
    clear hSv82
    go_wp2_with fail
    exact ⟨rfl, _, rfl, fun d hd => by cases hd; exact rfl, Ext.refl _⟩
  simp only [Act.put, List.setIfInBounds_toArray, List.set_cons_zero, List.set_cons_succ]
  refine ⟨fun wv83 hwv83 hSv83 => ?_, fun v83 => ?_⟩
  · obtain ⟨xv83, rfl⟩ := hwv83
    obtain rfl : v81 = .bool true := hSv83 81 (by decide) (by decide)
    clear hSv83
    go_wp2_with fail
    exact ⟨rfl, _, rfl, fun d hd => by cases hd; exact rfl, Ext.refl _⟩
  simp only [Act.put, List.setIfInBounds_toArray, List.set_cons_zero, List.set_cons_succ]
  refine ⟨fun wv84 hwv84 hSv84 => ?_, fun v84 => ?_⟩
  · obtain ⟨xv84, rfl⟩ := hwv84
    obtain rfl : v81 = .bool true := hSv84 81 (by decide) (by decide)
    obtain rfl : v82 = .slice a5 N c5 := hSv84 82 (by decide) (by decide)
    obtain rfl : v83 = .slice a6 N c6 := hSv84 83 (by decide) (by decide)
    clear hSv84
    go_wp2_with fail
    refine (same22_any (SlB.of_owns (owns_ext HO6.out (Ext.more _ _))) (HS6.out.ext (Ext.more _ _)) (by have := HLS.out; omega)).mono ?_
    rw [show (sl == sl) = true by simp]
    rintro e w' ⟨rfl, hx⟩
    have HXL := kp hx
    clear hx
    go_wp2_with fail
    exact ⟨rfl, _, rfl, fun d hd => by cases hd; exact rfl, HXL.out⟩
  simp only [Act.put, List.setIfInBounds_toArray, List.set_cons_zero, List.set_cons_succ]
  refine ⟨fun wv85 hwv85 hSv85 => ?_, fun v85 => ?_⟩
  · obtain ⟨xv85, rfl⟩ := hwv85
    obtain rfl : v81 = .bool true := hSv85 81 (by decide) (by decide)
    obtain rfl : v84 = .bool true := hSv85 84 (by decide) (by decide)
    clear hSv85
    go_wp2_with fail
    exact ⟨rfl, _, rfl, fun d hd => by cases hd; exact rfl, Ext.refl _⟩
  simp only [Act.put, List.setIfInBounds_toArray, List.set_cons_zero, List.set_cons_succ]
  refine ⟨fun wv86 hwv86 hSv86 => ?_, fun v86 => ?_⟩
  · obtain ⟨xv86, rfl⟩ := hwv86
    obtain rfl : v85 = .bool true := hSv86 85 (by decide) (by decide)
    clear hSv86
    go_wp2_with fail
    exact ⟨rfl, _, rfl, fun d hd => by cases hd; exact rfl, Ext.refl _⟩
  simp only [Act.put, List.setIfInBounds_toArray, List.set_cons_zero, List.set_cons_succ]
  refine ⟨fun wv87 hwv87 hSv87 => ?_, fun v87 => ?_⟩
  · obtain ⟨xv87, rfl⟩ := hwv87
    obtain rfl : v86 = .bool true := hSv87 86 (by decide) (by decide)
    clear hSv87
    go_wp2_with fail
    exact ⟨rfl, _, rfl, fun d hd => by cases hd; exact rfl, Ext.refl _⟩
  simp only [Act.put, List.setIfInBounds_toArray, List.set_cons_zero, List.set_cons_succ]
  refine ⟨fun wv88 hwv88 hSv88 => ?_, fun v88 => ?_⟩
  · obtain ⟨xv88, rfl⟩ := hwv88
    obtain rfl : v86 = .bool true := hSv88 86 (by decide) (by decide)
    clear hSv88
    go_wp2_with fail
    exact ⟨rfl, _, rfl, fun d hd => by cases hd; exact rfl, Ext.refl _⟩
  simp only [Act.put, List.setIfInBounds_toArray, List.set_cons_zero, List.set_cons_succ]
  refine ⟨fun wv89 hwv89 hSv89 => ?_, fun v89 => ?_⟩
  · obtain ⟨xv89, rfl⟩ := hwv89
    obtain rfl : v86 = .bool true := hSv89 86 (by decide) (by decide)
    obtain rfl : v87 = .int .i64 ce := hSv89 87 (by decide) (by decide)
    obtain rfl : v88 = .int .i64 ce := hSv89 88 (by decide) (by decide)
    clear hSv89
    go_wp2_with fail
    exact ⟨rfl, _, rfl, fun d hd => by cases hd; exact rfl, Ext.refl _⟩
  simp only [Act.put, List.setIfInBounds_toArray, List.set_cons_zero, List.set_cons_succ]
  refine ⟨fun wv90 hwv90 hSv90 => ?_, fun v90 => ?_⟩
  · obtain ⟨xv90, rfl⟩ := hwv90
    obtain rfl : v86 = .bool true := hSv90 86 (by decide) (by decide)
    obtain rfl : v89 = .bool true := hSv90 89 (by decide) (by decide)
    clear hSv90
    go_wp2_with fail
    exact ⟨rfl, _, rfl, fun d hd => by cases hd; exact rfl, Ext.refl _⟩
  simp only [Act.put, List.setIfInBounds_toArray, List.set_cons_zero, List.set_cons_succ]
  refine ⟨fun wv21 hwv21 hSv21 => ?_, fun v21 => ?_⟩
  · obtain ⟨xv21, rfl⟩ := hwv21
    obtain rfl : v90 = .bool true := hSv21 90 (by decide) (by decide)
    clear hSv21
    go_wp2_with fail
    exact ⟨rfl, _, rfl, fun d hd => by cases hd; exact rfl, Ext.refl _⟩
  simp only [Act.put, List.setIfInBounds_toArray, List.set_cons_zero, List.set_cons_succ]
  intro x9 hfin
  obtain rfl : v21 = .bool true := hfin 21 (by decide)
  clear hfin
  simp only [List.drop_succ_cons, List.drop_zero]
  have HIN := kp (show ∃ l : List (BitVec 8), l.length = N ∧ (more w6 x9).ownsRow w2.heap.size 5 1 (.slice a5 N c5) N (l.map V8) from ⟨sl, HNN.out.symm, by have h := owns_ext HO6.out (Ext.more w6 x9); rw [← HNN.out] at h; exact h⟩)
  have HIX := kp (HX6.out.trans (Ext.more w6 x9))
  generalize more w6 x9 = w7 at *
  clear HO6 HX6 HS6 HC6 HD6 HK6 HN6
  go_wp2_with fail
  go_loopw [22] (fun i wr => ∃ k : Nat, k ≤ N ∧ i = .int .i64 k ∧ Kp (∃ l : List (BitVec 8), l.length = N ∧ wr.ownsRow w2.heap.size 5 1 (.slice a5 N c5) N (l.map V8)) ∧ Kp (Ext w2 wr)) (fun i _ => N - (intOf i).toNat)
  case atStart => exact ⟨0, by omega, rfl, HIN, HIX⟩
  case round =>
    obtain ⟨k, hkN, rfl, HQ, HX⟩ := hrel
    by_cases hlt : k < N
    · obtain ⟨l, hl, ho⟩ := HQ.out
      have ho2 := ho
      obtain ⟨_, h2⟩ := ho2
      rcases h2 with ⟨_, h4⟩ | ⟨g, cap4, cur, h3, hbg, _⟩
      · omega
      · simp only [Value.slice.injEq, true_and] at h3
        obtain ⟨rfl, rfl⟩ := h3
        obtain ⟨y, hy⟩ : ∃ y, l[k]? = some y := ⟨l[k]'(by omega), by simp⟩
        have hcell : wr.cell? ⟨g, k, none⟩ = some (V8 y) := (ho.cellAt k (by omega)).trans (by simp [hy])
        have hfr : wr.frozen? ⟨g, k, none⟩ = false := ho.frozenAt k
        have HOO := kp ho
        have HLL := kp hl
        have HVV := kp (V8_ofInt (wI y + 1))
        clear ho hl hy
        go_wp2_with fail
        go_roundw
        case rel => exact ⟨k + 1, by omega, by go_num, kp ⟨l.set k (BitVec.ofInt 8 (wI y + 1)), by simp [HLL.out], by rw [List.map_set, HVV.out]; exact (HOO.out.stored k _).1⟩, kp (HX.out.grown (HOO.out.stored k _).2 (fun q hq => by cases hq; exact hbg))⟩
        case measure => simp [intOf]; omega
    · obtain rfl : k = N := by omega
      go_wp2_with fail
      refine (same22_any (HS12.out.ext HX.out) (HVA.out.ext (HX2.out.trans HX.out)) HLA.out).mono ?_
      rw [show (ad == ad) = true by simp]
      rintro e w8 ⟨rfl, hx8⟩
      have HX8 := kp (HX.out.trans hx8)
      clear hx8
      go_wp2_with fail
      refine (same22_any (HS2.out.ext HX8.out) (HVB.out.ext (HX2.out.trans HX8.out)) HLB.out).mono ?_
      rw [show (body == body) = true by simp]
      rintro e w9 ⟨rfl, hx9⟩
      have HX9 := kp (HX8.out.trans hx9)
      clear hx9
      go_wp2_with fail
      go_ret
      exact ⟨rfl, HX2.out.trans HX9.out⟩
theorem sealMatches.walk (ks : List (BitVec 8)) (hk : ks.length = 16) (nc : List (BitVec 8)) (hc : nc.length = 13) (i : Int) (_ : (Lit.int .i64 i).wf = true) (va : Value) (ad : List (BitVec 8)) (_ : ad.length ≤ 9223372036854775807) (_ : CapOk va) (vb : Value) (body : List (BitVec 8)) (_ : body.length ≤ 9223372036854775807) (_ : CapOk vb) (w : World) (hva : SlB w va ad) (hvb : SlB w vb body) :
    Calls Try.prog 3 #[.agg (ks.map V8).toArray, .agg (nc.map V8).toArray, .int .i64 i, va, vb] w fun e w' => e = .returned (.bool true) ∧ Ext w w' := by
  cases hg : great22B ad.length body.length with
  | true =>
    obtain ⟨aa, ca, rfl⟩ := hva.form
    obtain ⟨ab, cb, rfl⟩ := hvb.form
    exact matchOut ks nc i aa ab ad.length ca body.length cb hg w
  | false => exact matchIn ks nc hk hc i va vb ad body hg w hva hvb
end Go.Proofs.Ytnofmppimihjpaa
