/- SealOpens. -/
import Derived.Test.YtnofmppimihjpaaRef22d
import Derived.Laws.OwnMore
namespace Go.Proofs.Ytnofmppimihjpaa
open Go.RowKit

def openL (ks nc ad text : List (BitVec 8)) : List (BitVec 8) := if 256 < ad.length ∨ 4104 < text.length then [] else if text.length < 8 then [] else if openOk ks nc ad text = true then openB ks nc text else []
def openE (ks nc ad text : List (BitVec 8)) : Int := if 256 < ad.length ∨ 4104 < text.length then 4 else if text.length < 8 then 10 else if openOk ks nc ad text = true then 0 else 31
theorem openL_len (ks nc ad text : List (BitVec 8)) : (openL ks nc ad text).length ≤ 1000000 := by
  unfold openL
  split
  · simp
  · split
    · simp
    · split
      · rw [openB_len]; omega
      · simp
theorem open_all (ks nc : List (BitVec 8)) (hk : ks.length = 16) (hc : nc.length = 13) (va vb : Value) (ad text : List (BitVec 8)) (hb : text.length ≤ 1000000000) (w : World) (hva : SlB w va ad) (hvb : SlB w vb text) (hcb : CapOk vb) :
    Calls Try.prog 20 #[.agg (ks.map V8).toArray, .agg (nc.map V8).toArray, va, vb] w (RetO2 (openL ks nc ad text) (openE ks nc ad text) w) := by
  by_cases h1 : 256 < ad.length ∨ 4104 < text.length
  · obtain ⟨aa, ca, rfl⟩ := hva.form
    obtain ⟨ab, cb, rfl⟩ := hvb.form
    rw [openL, if_pos h1, openE, if_pos h1]
    exact open_many ks nc aa ab _ _ _ _ hb h1 w
  by_cases h2 : text.length < 8
  · obtain ⟨aa, ca, rfl⟩ := hva.form
    obtain ⟨ab, cb, rfl⟩ := hvb.form
    rw [openL, if_neg h1, if_pos h2, openE, if_neg h1, if_pos h2]
    exact open_short ks nc aa ab _ _ _ _ (by omega) h2 w
  · rw [openL, if_neg h1, if_neg h2, openE, if_neg h1, if_neg h2]
    exact open_any ks nc hk hc va vb ad text (by omega) (by omega) (by omega) w hva hvb hcb
theorem ropen_all (ks nc : List (BitVec 8)) (hk : ks.length = 16) (hc : nc.length = 13) (va vb : Value) (ad text : List (BitVec 8)) (w : World) (hva : SlB w va ad) (hvb : SlB w vb text) (hcb : CapOk vb) :
    Calls Try.prog 21 #[.agg (ks.map V8).toArray, .agg (nc.map V8).toArray, va, vb] w (RetB2 (openL ks nc ad text) (openE ks nc ad text) w) := by
  by_cases h1 : 256 < ad.length ∨ 4104 < text.length
  · obtain ⟨aa, ca, rfl⟩ := hva.form
    obtain ⟨ab, cb, rfl⟩ := hvb.form
    rw [openL, if_pos h1, openE, if_pos h1]
    exact (ropen_many ks nc aa ab _ _ _ _ h1 w).mono fun _ _ h => h.b
  by_cases h2 : text.length < 8
  · obtain ⟨aa, ca, rfl⟩ := hva.form
    obtain ⟨ab, cb, rfl⟩ := hvb.form
    rw [openL, if_neg h1, if_pos h2, openE, if_neg h1, if_pos h2]
    exact (ropen_short ks nc aa ab _ _ _ _ (by omega) h2 w).mono fun _ _ h => h.b
  · rw [openL, if_neg h1, if_neg h2, openE, if_neg h1, if_neg h2]
    exact ropen_any ks nc hk hc va vb ad text (by omega) (by omega) (by omega) w hva hvb hcb

set_option maxHeartbeats 1600000 in
theorem opensOut (ks nc : List (BitVec 8)) (aa ab : Option Addr) (na ca nb cb : Nat) (hg : great22B na nb = true) (w : World) :
    Calls Try.prog 4 #[.agg (ks.map V8).toArray, .agg (nc.map V8).toArray, .slice aa na ca, .slice ab nb cb] w fun e w' => e = .returned (.bool true) ∧ Ext w w' := by
  have HG := kp (great22_any aa ab na ca nb cb)
  rw [hg] at HG
  clear hg
  go_enter Try.func4, Try.ntmps4
  go_wp2_with (go_at_call 11; refine (HG.out _).mono ?_; rintro e w' ⟨rfl, rfl⟩)
  go_ret
  exact ⟨rfl, (Ext.alloc _ _).trans (Ext.alloc _ _)⟩
set_option maxHeartbeats 3200000 in
theorem opensIn (ks nc : List (BitVec 8)) (hk : ks.length = 16) (hc : nc.length = 13) (va vb : Value) (ad text : List (BitVec 8)) (hg : great22B ad.length text.length = false) (w : World) (hva : SlB w va ad) (hvb : SlB w vb text) (hcb : CapOk vb) :
    Calls Try.prog 4 #[.agg (ks.map V8).toArray, .agg (nc.map V8).toArray, va, vb] w fun e w' => e = .returned (.bool true) ∧ Ext w w' := by
  have hsa : ad.length ≤ 400 := by simp [great22B] at hg; omega
  have hsb : text.length ≤ 4200 := by simp [great22B] at hg; omega
  obtain ⟨aa, ca, rfl⟩ := hva.form
  obtain ⟨ab, cb, rfl⟩ := hvb.form
  have HVA := kp hva
  have HVB := kp hvb
  have HK := kp (sizeK ks hk)
  have HN := kp (sizeN nc hc)
  have HG := kp (great22_any aa ab ad.length ca text.length cb)
  rw [hg] at HG
  have HT1 := kp (fun v w h => twin22_any v ad (by omega) w h)
  have HT2 := kp (fun v w h => twin22_any v text (by omega) w h)
  have HO := kp (fun va vb w h1 h2 h3 => open_all ks nc hk hc va vb ad text (by omega) w h1 h2 h3)
  have HR := kp (fun w h1 h2 => ropen_all ks nc hk hc (.slice aa ad.length ca) (.slice ab text.length cb) ad text w h1 h2 hcb)
  have HLA := kp (show ad.length ≤ 1000000000 by omega)
  have HLB := kp (show text.length ≤ 1000000000 by omega)
  have HLO := kp (openL_len ks nc ad text)
  generalize openL ks nc ad text = L at *
  generalize openE ks nc ad text = er at *
  clear hk hc hva hvb hcb hg
  go_enter Try.func4, Try.ntmps4
  generalize h4 : (Code.region 4 _ _ : Code) = R4
  go_wp2_with (go_at_call 11; refine (HG.out _).mono ?_; rintro e w' ⟨rfl, rfl⟩)
  refine (HT1.out _ _ (HVA.out.ext ((Ext.alloc _ _).trans (Ext.alloc _ _)))).mono ?_
  rintro e w1 ⟨v1, rfl, ho1, hx1⟩
  have HX1 := kp (((Ext.alloc _ _).trans (Ext.alloc _ _)).trans hx1)
  have HS1 := kp (SlB.of_owns ho1)
  have HK1 := kp (ext_heap hx1 (hp_alloc (hp_new _ _)))
  have HN1 := kp (ext_heap hx1 (hp_at _ _ (w.heap.size + 1) (by simp)))
  obtain ⟨a1, c1, rfl⟩ := (SlB.of_owns ho1).form
  clear ho1 hx1
  go_wp2_with fail
  refine (HT2.out _ _ (HVB.out.ext HX1.out)).mono ?_
  rintro e w2 ⟨v2, rfl, ho2, hx2⟩
  have HX2 := kp (HX1.out.trans hx2)
  have HS12 := kp (HS1.out.ext hx2)
  have HS2 := kp (SlB.of_owns ho2)
  have HC2 := kp (CapOk.of_owns ho2)
  have HK2 := kp (ext_heap hx2 HK1.out)
  have HN2 := kp (ext_heap hx2 HN1.out)
  obtain ⟨a2, c2, rfl⟩ := (SlB.of_owns ho2).form
  clear ho2 hx2 HK1 HN1
  go_wp2_with fail
  subst h4
  go_wp2_with (first | ((with_reducible show wpList _ _ _ (Oper.mk _ (Op.load 23 _) _ _ _ _ :: _) _ _); (with_reducible refine wpList_load_row rfl 23 _ rfl (w.heap.size) rfl 23 ((ks.map V8).toArray) (0, 0) _ (HK2.out) Try.underlying23 rfl (HK.out) ?_); simp only [Act.put, List.setIfInBounds_toArray, List.set_cons_zero, List.set_cons_succ]) | ((with_reducible show wpList _ _ _ (Oper.mk _ (Op.load 24 _) _ _ _ _ :: _) _ _); (with_reducible refine wpList_load_row rfl 24 _ rfl (w.heap.size + 1) rfl 24 ((nc.map V8).toArray) (0, 0) _ (HN2.out) Try.underlying24 rfl (HN.out) ?_); simp only [Act.put, List.setIfInBounds_toArray, List.set_cons_zero, List.set_cons_succ]))
  refine (HO.out _ _ _ HS12.out HS2.out HC2.out).mono ?_
  rintro e w3 ⟨v3, rfl, ho3, hx3⟩
  have HX3 := kp hx3
  have HO3 := kp ho3
  have HK3 := kp (ext_heap hx3 HK2.out)
  have HN3 := kp (ext_heap hx3 HN2.out)
  obtain ⟨a3, c3, hv3⟩ := (SlB.of_owns ho3).form
  obtain ⟨N, hN⟩ : ∃ N, N = L.length := ⟨_, rfl⟩
  rw [← hN] at hv3
  subst hv3
  have HNN := kp hN
  have hNb : N ≤ 1000000 := by rw [hN]; exact HLO.out
  clear ho3 hx3 hN HK2 HN2
  go_wp2_with (first | ((with_reducible show wpList _ _ _ (Oper.mk _ (Op.load 23 _) _ _ _ _ :: _) _ _); (with_reducible refine wpList_load_row rfl 23 _ rfl (w.heap.size) rfl 23 ((ks.map V8).toArray) (0, 0) _ (HK3.out) Try.underlying23 rfl (HK.out) ?_); simp only [Act.put, List.setIfInBounds_toArray, List.set_cons_zero, List.set_cons_succ]) | ((with_reducible show wpList _ _ _ (Oper.mk _ (Op.load 24 _) _ _ _ _ :: _) _ _); (with_reducible refine wpList_load_row rfl 24 _ rfl (w.heap.size + 1) rfl 24 ((nc.map V8).toArray) (0, 0) _ (HN3.out) Try.underlying24 rfl (HN.out) ?_); simp only [Act.put, List.setIfInBounds_toArray, List.set_cons_zero, List.set_cons_succ]))
  refine (HR.out _ (HVA.out.ext (HX2.out.trans HX3.out)) (HVB.out.ext (HX2.out.trans HX3.out))).mono ?_
  rintro e w4 ⟨v4, rfl, hs4, hx4⟩
  have HX4 := kp hx4
  have HS4 := kp hs4
  have HO4 := kp (owns_ext HO3.out hx4)
  obtain ⟨a4, c4, hv4⟩ := hs4.form
  rw [← HNN.out] at hv4
  subst hv4
  clear hs4 hx4 HK3 HN3
  go_wp2_with fail
  refine (same22_any (SlB.of_owns HO4.out) HS4.out (by have := HLO.out; omega)).mono ?_
  rw [show (L == L) = true by simp]
  rintro e w5 ⟨rfl, hx5⟩
  have HIN := kp (show ∃ l : List (BitVec 8), l.length = N ∧ w5.ownsRow w2.heap.size 5 1 (.slice a3 N c3) N (l.map V8) from ⟨L, HNN.out.symm, by have h := owns_ext HO4.out hx5; rw [← HNN.out] at h; exact h⟩)
  have HIX := kp ((HX3.out.trans HX4.out).trans hx5)
  clear hx5 HO3 HO4
  go_wp2_with fail
  go_loopw [16] (fun i wr => ∃ k : Nat, k ≤ N ∧ i = .int .i64 k ∧ Kp (∃ l : List (BitVec 8), l.length = N ∧ wr.ownsRow w2.heap.size 5 1 (.slice a3 N c3) N (l.map V8)) ∧ Kp (Ext w2 wr)) (fun i _ => N - (intOf i).toNat)
  case atStart => exact ⟨0, by omega, rfl, HIN, HIX⟩
  case round =>
    obtain ⟨k, hkN, rfl, HQ, HX⟩ := hrel
    by_cases hlt : k < N
    · obtain ⟨l, hl, ho⟩ := HQ.out
      have ho2 := ho
      obtain ⟨_, h2⟩ := ho2
      rcases h2 with ⟨_, h4⟩ | ⟨g, cap4, cur, h3, hbg, _⟩
      · omega
      · simp only [Value.slice.injEq, true_and] at h3
        obtain ⟨rfl, rfl⟩ := h3
        obtain ⟨y, hy⟩ : ∃ y, l[k]? = some y := ⟨l[k]'(by omega), by simp⟩
        have hcell : wr.cell? ⟨g, k, none⟩ = some (V8 y) := (ho.cellAt k (by omega)).trans (by simp [hy])
        have hfr : wr.frozen? ⟨g, k, none⟩ = false := ho.frozenAt k
        have HOO := kp ho
        have HLL := kp hl
        have HVV := kp (V8_ofInt (wI y + 1))
        clear ho hl hy
        go_wp2_with fail
        go_roundw
        case rel => exact ⟨k + 1, by omega, by go_num, kp ⟨l.set k (BitVec.ofInt 8 (wI y + 1)), by simp [HLL.out], by rw [List.map_set, HVV.out]; exact (HOO.out.stored k _).1⟩, kp (HX.out.grown (HOO.out.stored k _).2 (fun q hq => by cases hq; exact hbg))⟩
        case measure => simp [intOf]; omega
    · obtain rfl : k = N := by omega
      go_wp2_with fail
      refine (same22_any (HS12.out.ext HX.out) (HVA.out.ext (HX2.out.trans HX.out)) HLA.out).mono ?_
      rw [show (ad == ad) = true by simp]
      rintro e w8 ⟨rfl, hx8⟩
      have HX8 := kp (HX.out.trans hx8)
      clear hx8
      go_wp2_with fail
      refine (same22_any (HS2.out.ext HX8.out) (HVB.out.ext (HX2.out.trans HX8.out)) HLB.out).mono ?_
      rw [show (text == text) = true by simp]
      rintro e w9 ⟨rfl, hx9⟩
      have HX9 := kp (HX8.out.trans hx9)
      clear hx9
      go_wp2_with fail
      go_ret
      exact ⟨rfl, HX2.out.trans HX9.out⟩
theorem sealOpens.walk (ks : List (BitVec 8)) (hk : ks.length = 16) (nc : List (BitVec 8)) (hc : nc.length = 13) (va : Value) (ad : List (BitVec 8)) (_ : ad.length ≤ 9223372036854775807) (_ : CapOk va) (vb : Value) (text : List (BitVec 8)) (_ : text.length ≤ 9223372036854775807) (hcb : CapOk vb) (w : World) (hva : SlB w va ad) (hvb : SlB w vb text) :
    Calls Try.prog 4 #[.agg (ks.map V8).toArray, .agg (nc.map V8).toArray, va, vb] w fun e w' => e = .returned (.bool true) ∧ Ext w w' := by
  cases hg : great22B ad.length text.length with
  | true =>
    obtain ⟨aa, ca, rfl⟩ := hva.form
    obtain ⟨ab, cb, rfl⟩ := hvb.form
    exact opensOut ks nc aa ab ad.length ca text.length cb hg w
  | false => exact opensIn ks nc hk hc va vb ad text hg w hva hvb hcb
end Go.Proofs.Ytnofmppimihjpaa
