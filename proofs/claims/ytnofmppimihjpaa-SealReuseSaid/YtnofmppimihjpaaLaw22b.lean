/- SealBack, SealOnly, SealCode, SealReuse. -/
import Derived.Test.YtnofmppimihjpaaLaw22a
namespace Go.Proofs.Ytnofmppimihjpaa
open Go.RowKit

set_option maxHeartbeats 1600000 in
theorem backOut (ks nc : List (BitVec 8)) (aa ab : Option Addr) (na ca nb cb : Nat) (ho : great22B na nb = true ∨ 256 < na ∨ 1000 < nb) (w : World) :
    Calls Try.prog 6 #[.agg (ks.map V8).toArray, .agg (nc.map V8).toArray, .slice aa na ca, .slice ab nb cb] w fun e w' => e = .returned (.bool true) ∧ Ext w w' := by
  have HG := kp (great22_any aa ab na ca nb cb)
  cases hg : great22B na nb with
  | true =>
    rw [hg] at HG
    clear hg ho
    go_enter Try.func6, Try.ntmps6
    go_wp2_with (first | (go_at_call 22; refine (alive22_any _).mono ?_; rintro e w' ⟨rfl, x1, rfl⟩) | (go_at_call 11; refine (HG.out _).mono ?_; rintro e w' ⟨rfl, rfl⟩))
    go_ret
    exact ⟨rfl, ((Ext.alloc _ _).trans (Ext.alloc _ _)).trans (Ext.more _ _)⟩
  | false =>
    rw [hg] at HG
    have ho2 : 256 < na ∨ 1000 < nb := by rcases ho with h | h; exact absurd (hg.symm.trans h) (by decide); exact h
    clear hg ho
    by_cases h1 : 256 < (na : Int)
    case pos =>
      go_enter Try.func6, Try.ntmps6
      go_wp2_with (first | (go_at_call 22; refine (alive22_any _).mono ?_; rintro e w' ⟨rfl, x1, rfl⟩) | (go_at_call 11; refine (HG.out _).mono ?_; rintro e w' ⟨rfl, rfl⟩))
      go_ret
      exact ⟨rfl, ((Ext.alloc _ _).trans (Ext.alloc _ _)).trans (Ext.more _ _)⟩
    have h2 : 1000 < (nb : Int) := by omega
    go_enter Try.func6, Try.ntmps6
    go_wp2_with (first | (go_at_call 22; refine (alive22_any _).mono ?_; rintro e w' ⟨rfl, x1, rfl⟩) | (go_at_call 11; refine (HG.out _).mono ?_; rintro e w' ⟨rfl, rfl⟩))
    go_ret
    exact ⟨rfl, ((Ext.alloc _ _).trans (Ext.alloc _ _)).trans (Ext.more _ _)⟩
set_option maxHeartbeats 1600000 in
theorem backIn (ks nc : List (BitVec 8)) (hk : ks.length = 16) (hc : nc.length = 13) (va vb : Value) (ad body : List (BitVec 8)) (ha : ad.length ≤ 256) (hb : body.length ≤ 1000) (w : World) (hva : SlB w va ad) (hvb : SlB w vb body) (hcb : CapOk vb) :
    Calls Try.prog 6 #[.agg (ks.map V8).toArray, .agg (nc.map V8).toArray, va, vb] w fun e w' => e = .returned (.bool true) ∧ Ext w w' := by
  obtain ⟨aa, ca, rfl⟩ := hva.form
  obtain ⟨ab, cb, rfl⟩ := hvb.form
  have HVA := kp hva
  have HVB := kp hvb
  have HK := kp (sizeK ks hk)
  have HN := kp (sizeN nc hc)
  have HG := kp (great22_any aa ab ad.length ca body.length cb)
  rw [show great22B ad.length body.length = false by simp [great22B]; omega] at HG
  have HS := kp (fun w h1 h2 => seal_ok ks nc hk hc (.slice aa ad.length ca) (.slice ab body.length cb) ad body ha (by omega) w h1 h2 hcb)
  have HO := kp (fun vt w h1 h2 h3 => open_any ks nc hk hc (.slice aa ad.length ca) vt ad (sealF ks nc ad body) ha (by rw [sealF_len]; omega) (by rw [sealF_len]; omega) w h1 h2 h3)
  rw [openOk_sealF, openB_sealF, if_pos rfl, if_pos rfl] at HO
  have HL := kp (sealF_len ks nc ad body)
  have HBB := kp (show body.length ≤ 1000000000 by omega)
  generalize sealF ks nc ad body = sf at *
  have h1 : ¬ 256 < (ad.length : Int) := by omega
  have h2 : ¬ 1000 < (body.length : Int) := by omega
  clear hk hc hva hvb hcb
  go_enter Try.func6, Try.ntmps6
  go_wp2_with (first | (go_at_call 22; refine (alive22_any _).mono ?_; rintro e w' ⟨rfl, x1, rfl⟩) | (go_at_call 11; refine (HG.out _).mono ?_; rintro e w' ⟨rfl, rfl⟩) | ((with_reducible show wpList _ _ _ (Oper.mk _ (Op.load 23 _) _ _ _ _ :: _) _ _); (with_reducible refine wpList_load_row rfl 23 _ rfl (w.heap.size) rfl 23 ((ks.map V8).toArray) (0, 0) _ (hp_more (hp_alloc (hp_new _ _))) Try.underlying23 rfl (HK.out) ?_); simp only [Act.put, List.setIfInBounds_toArray, List.set_cons_zero, List.set_cons_succ]) | ((with_reducible show wpList _ _ _ (Oper.mk _ (Op.load 24 _) _ _ _ _ :: _) _ _); (with_reducible refine wpList_load_row rfl 24 _ rfl (w.heap.size + 1) rfl 24 ((nc.map V8).toArray) (0, 0) _ (hp_more (hp_at _ _ _ (by simp))) Try.underlying24 rfl (HN.out) ?_); simp only [Act.put, List.setIfInBounds_toArray, List.set_cons_zero, List.set_cons_succ]))
  refine (HS.out _ (HVA.out.ext (((Ext.alloc _ _).trans (Ext.alloc _ _)).trans (Ext.more _ _))) (HVB.out.ext (((Ext.alloc _ _).trans (Ext.alloc _ _)).trans (Ext.more _ _)))).mono ?_
  rintro e w1 ⟨v1, rfl, ho1, hx1⟩
  have HX1 := kp ((((Ext.alloc _ _).trans (Ext.alloc _ _)).trans (Ext.more _ _)).trans hx1)
  have HK1 := kp (ext_heap hx1 (hp_more (hp_alloc (hp_new _ _))))
  have HN1 := kp (ext_heap hx1 (hp_more (hp_at _ _ (w.heap.size + 1) (by simp))))
  have HS1 := kp (SlB.of_owns ho1)
  have HC1 := kp (CapOk.of_owns ho1)
  obtain ⟨a1, c1, hv1⟩ := (SlB.of_owns ho1).form
  rw [HL.out] at hv1
  subst hv1
  clear ho1 hx1
  go_wp2_with (first | ((with_reducible show wpList _ _ _ (Oper.mk _ (Op.load 23 _) _ _ _ _ :: _) _ _); (with_reducible refine wpList_load_row rfl 23 _ rfl (w.heap.size) rfl 23 ((ks.map V8).toArray) (0, 0) _ (HK1.out) Try.underlying23 rfl (HK.out) ?_); simp only [Act.put, List.setIfInBounds_toArray, List.set_cons_zero, List.set_cons_succ]) | ((with_reducible show wpList _ _ _ (Oper.mk _ (Op.load 24 _) _ _ _ _ :: _) _ _); (with_reducible refine wpList_load_row rfl 24 _ rfl (w.heap.size + 1) rfl 24 ((nc.map V8).toArray) (0, 0) _ (HN1.out) Try.underlying24 rfl (HN.out) ?_); simp only [Act.put, List.setIfInBounds_toArray, List.set_cons_zero, List.set_cons_succ]))
  refine (HO.out _ _ (HVA.out.ext HX1.out) HS1.out HC1.out).mono ?_
  rintro e w2 ⟨v2, rfl, ho2, hx2⟩
  have HX2 := kp (HX1.out.trans hx2)
  have HS2 := kp (SlB.of_owns ho2)
  obtain ⟨a2, c2, rfl⟩ := (SlB.of_owns ho2).form
  clear ho2 hx2
  go_wp2_with fail
  refine (same22_any HS2.out (HVB.out.ext HX2.out) HBB.out).mono ?_
  rw [show (body == body) = true by simp]
  rintro e w3 ⟨rfl, hx3⟩
  have HX3 := kp (HX2.out.trans hx3)
  clear hx3
  go_wp2_with fail
  go_ret
  exact ⟨rfl, HX3.out⟩
theorem sealBack.walk (ks : List (BitVec 8)) (hk : ks.length = 16) (nc : List (BitVec 8)) (hc : nc.length = 13) (va : Value) (ad : List (BitVec 8)) (_ : ad.length ≤ 9223372036854775807) (_ : CapOk va) (vb : Value) (body : List (BitVec 8)) (_ : body.length ≤ 9223372036854775807) (hcb : CapOk vb) (w : World) (hva : SlB w va ad) (hvb : SlB w vb body) :
    Calls Try.prog 6 #[.agg (ks.map V8).toArray, .agg (nc.map V8).toArray, va, vb] w fun e w' => e = .returned (.bool true) ∧ Ext w w' := by
  by_cases h : ad.length ≤ 256 ∧ body.length ≤ 1000
  · exact backIn ks nc hk hc va vb ad body h.1 h.2 w hva hvb hcb
  · obtain ⟨aa, ca, rfl⟩ := hva.form
    obtain ⟨ab, cb, rfl⟩ := hvb.form
    exact backOut ks nc aa ab ad.length ca body.length cb (by omega) w
set_option maxHeartbeats 1600000 in
theorem onlyOut (ks nc : List (BitVec 8)) (aa ab : Option Addr) (na ca nb cb : Nat) (hg : great22B na nb = true) (w : World) :
    Calls Try.prog 7 #[.agg (ks.map V8).toArray, .agg (nc.map V8).toArray, .slice aa na ca, .slice ab nb cb] w fun e w' => e = .returned (.bool true) ∧ Ext w w' := by
  have HG := kp (great22_any aa ab na ca nb cb)
  rw [hg] at HG
  clear hg
  go_enter Try.func7, Try.ntmps7
  go_wp2_with (first | (go_at_call 22; refine (alive22_any _).mono ?_; rintro e w' ⟨rfl, x1, rfl⟩) | (go_at_call 11; refine (HG.out _).mono ?_; rintro e w' ⟨rfl, rfl⟩))
  go_ret
  exact ⟨rfl, ((Ext.alloc _ _).trans (Ext.alloc _ _)).trans (Ext.more _ _)⟩
set_option maxHeartbeats 1600000 in
/-- Open says no, with whatever error. -/
theorem onlyNo (ks nc : List (BitVec 8)) (hk : ks.length = 16) (hc : nc.length = 13) (aa ab : Option Addr) (na ca nb cb : Nat) (hg : great22B na nb = false) (er : Int) (her : er ≠ 0) (w : World)
    (ho : ∀ w1, Ext w w1 → Calls Try.prog 20 #[.agg (ks.map V8).toArray, .agg (nc.map V8).toArray, .slice aa na ca, .slice ab nb cb] w1 (RetO2 [] er w1)) :
    Calls Try.prog 7 #[.agg (ks.map V8).toArray, .agg (nc.map V8).toArray, .slice aa na ca, .slice ab nb cb] w fun e w' => e = .returned (.bool true) ∧ Ext w w' := by
  have HG := kp (great22_any aa ab na ca nb cb)
  rw [hg] at HG
  have HK := kp (sizeK ks hk)
  have HN := kp (sizeN nc hc)
  have HO := kp ho
  have hne : (er != 0) = true := by simpa using her
  clear hg ho hk hc her
  go_enter Try.func7, Try.ntmps7
  go_wp2_with (first | (go_at_call 22; refine (alive22_any _).mono ?_; rintro e w' ⟨rfl, x1, rfl⟩) | (go_at_call 11; refine (HG.out _).mono ?_; rintro e w' ⟨rfl, rfl⟩) | ((with_reducible show wpList _ _ _ (Oper.mk _ (Op.load 23 _) _ _ _ _ :: _) _ _); (with_reducible refine wpList_load_row rfl 23 _ rfl (w.heap.size) rfl 23 ((ks.map V8).toArray) (0, 0) _ (hp_more (hp_alloc (hp_new _ _))) Try.underlying23 rfl (HK.out) ?_); simp only [Act.put, List.setIfInBounds_toArray, List.set_cons_zero, List.set_cons_succ]) | ((with_reducible show wpList _ _ _ (Oper.mk _ (Op.load 24 _) _ _ _ _ :: _) _ _); (with_reducible refine wpList_load_row rfl 24 _ rfl (w.heap.size + 1) rfl 24 ((nc.map V8).toArray) (0, 0) _ (hp_more (hp_at _ _ _ (by simp))) Try.underlying24 rfl (HN.out) ?_); simp only [Act.put, List.setIfInBounds_toArray, List.set_cons_zero, List.set_cons_succ]))
  refine (HO.out _ (((Ext.alloc _ _).trans (Ext.alloc _ _)).trans (Ext.more _ _))).mono ?_
  rintro e w1 ⟨v1, rfl, ho1, hx1⟩
  have HX1 := kp ((((Ext.alloc _ _).trans (Ext.alloc _ _)).trans (Ext.more _ _)).trans hx1)
  obtain ⟨a1, c1, rfl⟩ := (SlB.of_owns ho1).form
  clear ho1 hx1
  go_wp2_with fail
  go_ret
  exact ⟨rfl, HX1.out⟩
set_option maxHeartbeats 1600000 in
theorem onlyIn (ks nc : List (BitVec 8)) (hk : ks.length = 16) (hc : nc.length = 13) (va vb : Value) (ad text : List (BitVec 8)) (ha : ad.length ≤ 256) (hb : text.length ≤ 4104) (h8 : 8 ≤ text.length) (hg : great22B ad.length text.length = false) (hok : openOk ks nc ad text = true) (w : World) (hva : SlB w va ad) (hvb : SlB w vb text) (hcb : CapOk vb) :
    Calls Try.prog 7 #[.agg (ks.map V8).toArray, .agg (nc.map V8).toArray, va, vb] w fun e w' => e = .returned (.bool true) ∧ Ext w w' := by
  obtain ⟨aa, ca, rfl⟩ := hva.form
  obtain ⟨ab, cb, rfl⟩ := hvb.form
  have HVA := kp hva
  have HVB := kp hvb
  have HK := kp (sizeK ks hk)
  have HN := kp (sizeN nc hc)
  have HG := kp (great22_any aa ab ad.length ca text.length cb)
  rw [hg] at HG
  have HO := kp (fun w h1 h2 => open_any ks nc hk hc (.slice aa ad.length ca) (.slice ab text.length cb) ad text ha hb h8 w h1 h2 hcb)
  rw [hok, if_pos rfl, if_pos rfl] at HO
  have HS := kp (fun vb w h1 h2 h3 => seal_ok ks nc hk hc (.slice aa ad.length ca) vb ad (openB ks nc text) ha (by rw [openB_len]; omega) w h1 h2 h3)
  rw [sealF_openB ks nc ad text hok] at HS
  have HBB := kp (show text.length ≤ 1000000000 by omega)
  generalize openB ks nc text = bf at *
  clear hk hc hva hvb hcb hg hok h8 hb
  go_enter Try.func7, Try.ntmps7
  go_wp2_with (first | (go_at_call 22; refine (alive22_any _).mono ?_; rintro e w' ⟨rfl, x1, rfl⟩) | (go_at_call 11; refine (HG.out _).mono ?_; rintro e w' ⟨rfl, rfl⟩) | ((with_reducible show wpList _ _ _ (Oper.mk _ (Op.load 23 _) _ _ _ _ :: _) _ _); (with_reducible refine wpList_load_row rfl 23 _ rfl (w.heap.size) rfl 23 ((ks.map V8).toArray) (0, 0) _ (hp_more (hp_alloc (hp_new _ _))) Try.underlying23 rfl (HK.out) ?_); simp only [Act.put, List.setIfInBounds_toArray, List.set_cons_zero, List.set_cons_succ]) | ((with_reducible show wpList _ _ _ (Oper.mk _ (Op.load 24 _) _ _ _ _ :: _) _ _); (with_reducible refine wpList_load_row rfl 24 _ rfl (w.heap.size + 1) rfl 24 ((nc.map V8).toArray) (0, 0) _ (hp_more (hp_at _ _ _ (by simp))) Try.underlying24 rfl (HN.out) ?_); simp only [Act.put, List.setIfInBounds_toArray, List.set_cons_zero, List.set_cons_succ]))
  refine (HO.out _ (HVA.out.ext (((Ext.alloc _ _).trans (Ext.alloc _ _)).trans (Ext.more _ _))) (HVB.out.ext (((Ext.alloc _ _).trans (Ext.alloc _ _)).trans (Ext.more _ _)))).mono ?_
  rintro e w1 ⟨v1, rfl, ho1, hx1⟩
  have HX1 := kp ((((Ext.alloc _ _).trans (Ext.alloc _ _)).trans (Ext.more _ _)).trans hx1)
  have HK1 := kp (ext_heap hx1 (hp_more (hp_alloc (hp_new _ _))))
  have HN1 := kp (ext_heap hx1 (hp_more (hp_at _ _ (w.heap.size + 1) (by simp))))
  have HS1 := kp (SlB.of_owns ho1)
  have HC1 := kp (CapOk.of_owns ho1)
  obtain ⟨a1, c1, rfl⟩ := (SlB.of_owns ho1).form
  clear ho1 hx1
  go_wp2_with (first | ((with_reducible show wpList _ _ _ (Oper.mk _ (Op.load 23 _) _ _ _ _ :: _) _ _); (with_reducible refine wpList_load_row rfl 23 _ rfl (w.heap.size) rfl 23 ((ks.map V8).toArray) (0, 0) _ (HK1.out) Try.underlying23 rfl (HK.out) ?_); simp only [Act.put, List.setIfInBounds_toArray, List.set_cons_zero, List.set_cons_succ]) | ((with_reducible show wpList _ _ _ (Oper.mk _ (Op.load 24 _) _ _ _ _ :: _) _ _); (with_reducible refine wpList_load_row rfl 24 _ rfl (w.heap.size + 1) rfl 24 ((nc.map V8).toArray) (0, 0) _ (HN1.out) Try.underlying24 rfl (HN.out) ?_); simp only [Act.put, List.setIfInBounds_toArray, List.set_cons_zero, List.set_cons_succ]))
  refine (HS.out _ _ (HVA.out.ext HX1.out) HS1.out HC1.out).mono ?_
  rintro e w2 ⟨v2, rfl, ho2, hx2⟩
  have HX2 := kp (HX1.out.trans hx2)
  have HS2 := kp (SlB.of_owns ho2)
  obtain ⟨a2, c2, rfl⟩ := (SlB.of_owns ho2).form
  clear ho2 hx2
  go_wp2_with fail
  refine (same22_any HS2.out (HVB.out.ext HX2.out) HBB.out).mono ?_
  rw [show (text == text) = true by simp]
  rintro e w3 ⟨rfl, hx3⟩
  have HX3 := kp (HX2.out.trans hx3)
  clear hx3
  go_wp2_with fail
  go_ret
  exact ⟨rfl, HX3.out⟩
theorem sealOnly.walk (ks : List (BitVec 8)) (hk : ks.length = 16) (nc : List (BitVec 8)) (hc : nc.length = 13) (va : Value) (ad : List (BitVec 8)) (_ : ad.length ≤ 9223372036854775807) (_ : CapOk va) (vb : Value) (text : List (BitVec 8)) (_ : text.length ≤ 9223372036854775807) (hcb : CapOk vb) (w : World) (hva : SlB w va ad) (hvb : SlB w vb text) :
    Calls Try.prog 7 #[.agg (ks.map V8).toArray, .agg (nc.map V8).toArray, va, vb] w fun e w' => e = .returned (.bool true) ∧ Ext w w' := by
  cases hg : great22B ad.length text.length with
  | true =>
    obtain ⟨aa, ca, rfl⟩ := hva.form
    obtain ⟨ab, cb, rfl⟩ := hvb.form
    exact onlyOut ks nc aa ab ad.length ca text.length cb hg w
  | false =>
    have hsz : text.length ≤ 4200 := by simp [great22B] at hg; omega
    by_cases h1 : 256 < ad.length ∨ 4104 < text.length
    · obtain ⟨aa, ca, rfl⟩ := hva.form
      obtain ⟨ab, cb, rfl⟩ := hvb.form
      exact onlyNo ks nc hk hc aa ab ad.length ca text.length cb hg 4 (by decide) w fun w1 _ => open_many ks nc aa ab _ _ _ _ (by omega) h1 w1
    by_cases h2 : text.length < 8
    · obtain ⟨aa, ca, rfl⟩ := hva.form
      obtain ⟨ab, cb, rfl⟩ := hvb.form
      exact onlyNo ks nc hk hc aa ab ad.length ca text.length cb hg 10 (by decide) w fun w1 _ => open_short ks nc aa ab _ _ _ _ (by omega) h2 w1
    cases hok : openOk ks nc ad text with
    | true => exact onlyIn ks nc hk hc va vb ad text (by omega) (by omega) (by omega) hg hok w hva hvb hcb
    | false =>
      obtain ⟨aa, ca, rfl⟩ := hva.form
      obtain ⟨ab, cb, rfl⟩ := hvb.form
      refine onlyNo ks nc hk hc aa ab ad.length ca text.length cb hg 31 (by decide) w fun w1 hx => ?_
      have h := open_any ks nc hk hc _ _ ad text (by omega) (by omega) (by omega) w1 (hva.ext hx) (hvb.ext hx) hcb
      rw [hok] at h
      exact h
end Go.Proofs.Ytnofmppimihjpaa
