/- SealCode. -/
import Derived.Test.YtnofmppimihjpaaLaw22b
import Derived.Laws.OwnMore
namespace Go.Proofs.Ytnofmppimihjpaa
open Go.RowKit

set_option maxHeartbeats 1600000 in
theorem codeOut (ks nc : List (BitVec 8)) (aa ab : Option Addr) (na ca nb cb : Nat) (at0 : Int) (by0 : BitVec 8) (ho : great22B na nb = true ∨ 256 < na ∨ 1000 < nb ∨ at0 < 0 ∨ by0 = 0) (w : World) :
    Calls Try.prog 8 #[.agg (ks.map V8).toArray, .agg (nc.map V8).toArray, .slice aa na ca, .slice ab nb cb, .int .i64 at0, V8 by0] w fun e w' => e = .returned (.bool true) ∧ Ext w w' := by
  have HG := kp (great22_any aa ab na ca nb cb)
  cases hg : great22B na nb with
  | true =>
    rw [hg] at HG
    clear hg ho
    go_enter Try.func8, Try.ntmps8
    go_wp2_with (first | (go_at_call 22; refine (alive22_any _).mono ?_; rintro e w' ⟨rfl, x1, rfl⟩) | (go_at_call 11; refine (HG.out _).mono ?_; rintro e w' ⟨rfl, rfl⟩))
    go_ret
    exact ⟨rfl, ((Ext.alloc _ _).trans (Ext.alloc _ _)).trans (Ext.more _ _)⟩
  | false =>
    rw [hg] at HG
    have ho2 : 256 < na ∨ 1000 < nb ∨ at0 < 0 ∨ by0 = 0 := by rcases ho with h | h; exact absurd (hg.symm.trans h) (by decide); exact h
    clear hg ho
    by_cases h1 : 256 < (na : Int)
    case pos =>
      go_enter Try.func8, Try.ntmps8
      go_wp2_with (first | (go_at_call 22; refine (alive22_any _).mono ?_; rintro e w' ⟨rfl, x1, rfl⟩) | (go_at_call 11; refine (HG.out _).mono ?_; rintro e w' ⟨rfl, rfl⟩))
      go_ret
      exact ⟨rfl, ((Ext.alloc _ _).trans (Ext.alloc _ _)).trans (Ext.more _ _)⟩
    by_cases h2 : 1000 < (nb : Int)
    case pos =>
      go_enter Try.func8, Try.ntmps8
      go_wp2_with (first | (go_at_call 22; refine (alive22_any _).mono ?_; rintro e w' ⟨rfl, x1, rfl⟩) | (go_at_call 11; refine (HG.out _).mono ?_; rintro e w' ⟨rfl, rfl⟩))
      go_ret
      exact ⟨rfl, ((Ext.alloc _ _).trans (Ext.alloc _ _)).trans (Ext.more _ _)⟩
    by_cases h3 : at0 < 0
    case pos =>
      go_enter Try.func8, Try.ntmps8
      go_wp2_with (first | (go_at_call 22; refine (alive22_any _).mono ?_; rintro e w' ⟨rfl, x1, rfl⟩) | (go_at_call 11; refine (HG.out _).mono ?_; rintro e w' ⟨rfl, rfl⟩))
      go_ret
      exact ⟨rfl, ((Ext.alloc _ _).trans (Ext.alloc _ _)).trans (Ext.more _ _)⟩
    have h4 : (by0 == 0#8) = true := by
      rcases ho2 with h | h | h | h
      · omega
      · omega
      · omega
      · rw [h]; rfl
    clear ho2
    go_enter Try.func8, Try.ntmps8
    go_wp2_with (first | (go_at_call 22; refine (alive22_any _).mono ?_; rintro e w' ⟨rfl, x1, rfl⟩) | (go_at_call 11; refine (HG.out _).mono ?_; rintro e w' ⟨rfl, rfl⟩))
    go_ret
    exact ⟨rfl, ((Ext.alloc _ _).trans (Ext.alloc _ _)).trans (Ext.more _ _)⟩

set_option maxHeartbeats 3200000 in
theorem codeIn (ks nc : List (BitVec 8)) (hk : ks.length = 16) (hc : nc.length = 13) (va vb : Value) (ad body : List (BitVec 8)) (ha : ad.length ≤ 256) (hb : body.length ≤ 1000) (at0 : Nat) (hat : at0 ≤ 9223372036854775807) (by0 : BitVec 8) (hby : by0 ≠ 0) (w : World) (hva : SlB w va ad) (hvb : SlB w vb body) (hcb : CapOk vb) :
    Calls Try.prog 8 #[.agg (ks.map V8).toArray, .agg (nc.map V8).toArray, va, vb, .int .i64 at0, V8 by0] w fun e w' => e = .returned (.bool true) ∧ Ext w w' := by
  obtain ⟨aa, ca, rfl⟩ := hva.form
  obtain ⟨ab, cb, rfl⟩ := hvb.form
  have HVA := kp hva
  have HVB := kp hvb
  have HK := kp (sizeK ks hk)
  have HN := kp (sizeN nc hc)
  have HG := kp (great22_any aa ab ad.length ca body.length cb)
  rw [show great22B ad.length body.length = false by simp [great22B]; omega] at HG
  have HS := kp (fun w h1 h2 => seal_ok ks nc hk hc (.slice aa ad.length ca) (.slice ab body.length cb) ad body ha (by omega) w h1 h2 hcb)
  obtain ⟨n, hn⟩ : ∃ n, n = body.length + 8 := ⟨_, rfl⟩
  have HL := kp (show (sealF ks nc ad body).length = n by rw [sealF_len, hn])
  obtain ⟨i, hi⟩ : ∃ i, i = at0 % n := ⟨_, rfl⟩
  have hin : i < n := by rw [hi]; exact Nat.mod_lt _ (by omega)
  obtain ⟨y, hy⟩ : ∃ y, (sealF ks nc ad body)[i]? = some y := ⟨(sealF ks nc ad body)[i]'(by rw [HL.out]; exact hin), by simp⟩
  have hyd : (sealF ks nc ad body).getD i 0 = y := by simp [List.getD, hy]
  have hyne : y ^^^ by0 ≠ (sealF ks nc ad body).getD i 0 := by
    rw [hyd]; intro e
    refine hby ?_
    have h2 := congrArg (fun z => y ^^^ z) e
    simpa [← BitVec.xor_assoc] using h2
  have HTL := kp (show ((sealF ks nc ad body).set i (y ^^^ by0)).length = n by rw [List.length_set, HL.out])
  have HO := kp (fun vt w h1 h2 h3 => open_any ks nc hk hc (.slice aa ad.length ca) vt ad ((sealF ks nc ad body).set i (y ^^^ by0)) ha (by rw [HTL.out]; omega) (by rw [HTL.out]; omega) w h1 h2 h3)
  have HP1 := kp (fun (h : body.length ≤ i) => openOk_tag ks nc ad body i (y ^^^ by0) h (by omega) hyne)
  have HP2 := kp (fun (h : i < body.length) => openB_other ks nc ad body i (y ^^^ by0) h hyne)
  have HBL := kp (show (openB ks nc ((sealF ks nc ad body).set i (y ^^^ by0))).length ≤ 1000000000 by rw [openB_len, HTL.out]; omega)
  generalize openOk ks nc ad ((sealF ks nc ad body).set i (y ^^^ by0)) = ok at *
  generalize openB ks nc ((sealF ks nc ad body).set i (y ^^^ by0)) = bf at *
  clear hyd hyne
  generalize sealF ks nc ad body = sf at *
  have HY := kp hy
  have hmod : (at0 : Int) % (n : Int) = (i : Int) := by rw [hi]; simp
  have htmod : Int.tmod (at0 : Int) (n : Int) = (i : Int) := by rw [Int.tmod_eq_emod_of_nonneg (by omega)]; exact hmod
  have h1 : ¬ 256 < (ad.length : Int) := by omega
  have h2 : ¬ 1000 < (body.length : Int) := by omega
  have h3 : ¬ (at0 : Int) < 0 := by omega
  have h4 : (by0 == 0#8) = false := by simpa using hby
  have h5 : ¬ (n : Int) < 8 := by omega
  have hn0 : ¬ (n : Int) = 0 := by omega
  have hnb : n ≤ 1008 := by omega
  obtain ⟨m, hm⟩ : ∃ m, m = body.length := ⟨_, rfl⟩
  rw [← hm] at hb hn HP1 HP2 h2 HG HS HVB ⊢
  have HM := kp hm
  clear hk hc hva hvb hcb hy hby hm hi hn
  go_enter Try.func8, Try.ntmps8
  generalize h9 : (Code.region 9 _ _ : Code) = R9
  go_wp2_with (first | (go_at_call 22; refine (alive22_any _).mono ?_; rintro e w' ⟨rfl, x1, rfl⟩) | (go_at_call 11; refine (HG.out _).mono ?_; rintro e w' ⟨rfl, rfl⟩) | ((with_reducible show wpList _ _ _ (Oper.mk _ (Op.load 23 _) _ _ _ _ :: _) _ _); (with_reducible refine wpList_load_row rfl 23 _ rfl (w.heap.size) rfl 23 ((ks.map V8).toArray) (0, 0) _ (hp_more (hp_alloc (hp_new _ _))) Try.underlying23 rfl (HK.out) ?_); simp only [Act.put, List.setIfInBounds_toArray, List.set_cons_zero, List.set_cons_succ]) | ((with_reducible show wpList _ _ _ (Oper.mk _ (Op.load 24 _) _ _ _ _ :: _) _ _); (with_reducible refine wpList_load_row rfl 24 _ rfl (w.heap.size + 1) rfl 24 ((nc.map V8).toArray) (0, 0) _ (hp_more (hp_at _ _ _ (by simp))) Try.underlying24 rfl (HN.out) ?_); simp only [Act.put, List.setIfInBounds_toArray, List.set_cons_zero, List.set_cons_succ]))
  refine (HS.out _ (HVA.out.ext (((Ext.alloc _ _).trans (Ext.alloc _ _)).trans (Ext.more _ _))) (HVB.out.ext (((Ext.alloc _ _).trans (Ext.alloc _ _)).trans (Ext.more _ _)))).mono ?_
  rintro e w1 ⟨v1, rfl, ho1, hx1⟩
  rw [HL.out] at ho1
  have HX1 := kp ((((Ext.alloc _ _).trans (Ext.alloc _ _)).trans (Ext.more _ _)).trans hx1)
  have HK1 := kp (ext_heap hx1 (hp_more (hp_alloc (hp_new _ _))))
  have HN1 := kp (ext_heap hx1 (hp_more (hp_at _ _ (w.heap.size + 1) (by simp))))
  have hbase : w.heap.size + 2 ≤ (more ((w.alloc (.cells (ks.map V8).toArray 23)).alloc (.cells (nc.map V8).toArray 24)) x1).heap.size := by simp
  have HO1 := kp (owns_base ho1 hbase)
  have hw1 : w.heap.size + 2 ≤ w1.heap.size := by have := hx1.size; omega
  obtain ⟨_, h2'⟩ := HO1.out
  rcases h2' with ⟨_, h4'⟩ | ⟨g, cap4, cur, h3', hbg, _⟩
  · omega
  · subst h3'
    have hcell : w1.cell? ⟨g, i, none⟩ = some (V8 y) := (HO1.out.cellAt i (by omega)).trans (by simp [HY.out])
    have hfr : w1.frozen? ⟨g, i, none⟩ = false := HO1.out.frozenAt i
    clear ho1 hx1 hbase
    have HXS := kp (HX1.out.grown (HO1.out.stored i (V8 (y ^^^ by0))).2 (fun q hq => by cases hq; omega))
    have HOS := kp (show (w1.setCell ⟨g, i, none⟩ (V8 (y ^^^ by0))).ownsRow (w.heap.size + 2) 5 1 (.slice (some ⟨g, 0, none⟩) n cap4) n ((sf.set i (y ^^^ by0)).map V8) by rw [List.map_set]; exact (HO1.out.stored i _).1)
    have HKS := kp ((((HO1.out.stored i (V8 (y ^^^ by0))).2.block w.heap.size (by omega) (fun e => by cases e; omega)).trans HK1.out))
    have HNS := kp ((((HO1.out.stored i (V8 (y ^^^ by0))).2.block (w.heap.size + 1) (by omega) (fun e => by cases e; omega)).trans HN1.out))
    go_wp2_with fail
    generalize w1.setCell ⟨g, i, none⟩ (V8 (y ^^^ by0)) = w2 at *
    subst h9
    go_wp2_with (first | ((with_reducible show wpList _ _ _ (Oper.mk _ (Op.load 23 _) _ _ _ _ :: _) _ _); (with_reducible refine wpList_load_row rfl 23 _ rfl (w.heap.size) rfl 23 ((ks.map V8).toArray) (0, 0) _ (HKS.out) Try.underlying23 rfl (HK.out) ?_); simp only [Act.put, List.setIfInBounds_toArray, List.set_cons_zero, List.set_cons_succ]) | ((with_reducible show wpList _ _ _ (Oper.mk _ (Op.load 24 _) _ _ _ _ :: _) _ _); (with_reducible refine wpList_load_row rfl 24 _ rfl (w.heap.size + 1) rfl 24 ((nc.map V8).toArray) (0, 0) _ (HNS.out) Try.underlying24 rfl (HN.out) ?_); simp only [Act.put, List.setIfInBounds_toArray, List.set_cons_zero, List.set_cons_succ]))
    cases ok with
    | true =>
      have hib : i < m := by
        rcases Nat.lt_or_ge i m with h | h
        · exact h
        · exact absurd (HP1.out h) (by decide)
      have hibI : ¬ (m : Int) ≤ i := by omega
      have HNE := kp (show (bf == body) = false by rw [beq_eq_false_iff_ne]; exact HP2.out hib)
      refine (HO.out _ _ (HVA.out.ext HXS.out) (SlB.of_owns HOS.out) (CapOk.of_owns HOS.out)).mono ?_
      rw [if_pos rfl, if_pos rfl]
      rintro e w3 ⟨v3, rfl, ho3, hx3⟩
      have HX3 := kp (HXS.out.trans hx3)
      have HS3 := kp (SlB.of_owns ho3)
      obtain ⟨a3, c3, rfl⟩ := (SlB.of_owns ho3).form
      clear ho3 hx3
      go_wp2_with fail
      refine (same22_any HS3.out (HVB.out.ext HX3.out) HBL.out).mono ?_
      rw [HNE.out]
      rintro e w4 ⟨rfl, hx4⟩
      have HX4 := kp (HX3.out.trans hx4)
      clear hx4
      go_wp2_with fail
      go_ret
      exact ⟨rfl, HX4.out⟩
    | false =>
      refine (HO.out _ _ (HVA.out.ext HXS.out) (SlB.of_owns HOS.out) (CapOk.of_owns HOS.out)).mono ?_
      rw [if_neg (by decide), if_neg (by decide)]
      rintro e w3 ⟨v3, rfl, ho3, hx3⟩
      have HX3 := kp (HXS.out.trans hx3)
      obtain ⟨a3, c3, rfl⟩ := (SlB.of_owns ho3).form
      clear ho3 hx3
      by_cases hib : (m : Int) ≤ i
      · go_wp2_with fail
        go_ret
        exact ⟨rfl, HX3.out⟩
      · go_wp2_with fail
        go_ret
        exact ⟨rfl, HX3.out⟩
theorem sealCode.walk (ks : List (BitVec 8)) (hk : ks.length = 16) (nc : List (BitVec 8)) (hc : nc.length = 13) (va : Value) (ad : List (BitVec 8)) (_ : ad.length ≤ 9223372036854775807) (_ : CapOk va) (vb : Value) (body : List (BitVec 8)) (_ : body.length ≤ 9223372036854775807) (hcb : CapOk vb) (at0 : Int) (hw : (Lit.int .i64 at0).wf = true) (by0 : BitVec 8) (w : World) (hva : SlB w va ad) (hvb : SlB w vb body) :
    Calls Try.prog 8 #[.agg (ks.map V8).toArray, .agg (nc.map V8).toArray, va, vb, .int .i64 at0, V8 by0] w fun e w' => e = .returned (.bool true) ∧ Ext w w' := by
  by_cases h : ad.length ≤ 256 ∧ body.length ≤ 1000 ∧ 0 ≤ at0 ∧ by0 ≠ 0
  · obtain ⟨n, rfl⟩ := Int.eq_ofNat_of_zero_le h.2.2.1
    refine codeIn ks nc hk hc va vb ad body h.1 h.2.1 n ?_ by0 h.2.2.2 w hva hvb hcb
    simp [Lit.wf, IntKind.min, IntKind.max, IntKind.signed, IntKind.bits] at hw
    omega
  · obtain ⟨aa, ca, rfl⟩ := hva.form
    obtain ⟨ab, cb, rfl⟩ := hvb.form
    refine codeOut ks nc aa ab ad.length ca body.length cb at0 by0 ?_ w
    by_cases h1 : 256 < ad.length
    · exact .inr (.inl h1)
    by_cases h2 : 1000 < body.length
    · exact .inr (.inr (.inl h2))
    by_cases h3 : at0 < 0
    · exact .inr (.inr (.inr (.inl h3)))
    by_cases h4 : by0 = 0
    · exact .inr (.inr (.inr (.inr h4)))
    exact absurd ⟨by omega, by omega, by omega, h4⟩ h
end Go.Proofs.Ytnofmppimihjpaa
