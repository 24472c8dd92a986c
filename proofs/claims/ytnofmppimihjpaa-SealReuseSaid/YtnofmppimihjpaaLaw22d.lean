/- SealReuse. -/
import Derived.Test.YtnofmppimihjpaaLaw22b
namespace Go.Proofs.Ytnofmppimihjpaa
open Go.RowKit

set_option maxHeartbeats 1600000 in
theorem reuseOut (ks nc : List (BitVec 8)) (aa ab ac : Option Addr) (na ca nb cb nd cd : Nat) (ho : great22B na nb = true ∨ great22B na nd = true ∨ 256 < na ∨ 1000 < nb ∨ 1000 < nd) (w : World) :
    Calls Try.prog 9 #[.agg (ks.map V8).toArray, .agg (nc.map V8).toArray, .slice aa na ca, .slice ab nb cb, .slice ac nd cd] w fun e w' => e = .returned (.bool true) ∧ Ext w w' := by
  have HG := kp (great22_any aa ab na ca nb cb)
  have HG2 := kp (great22_any aa ac na ca nd cd)
  cases hg : great22B na nb with
  | true =>
    rw [hg] at HG
    clear hg ho HG2
    go_enter Try.func9, Try.ntmps9
    go_wp2_with (first | (go_at_call 22; refine (alive22_any _).mono ?_; rintro e w' ⟨rfl, x1, rfl⟩) | (go_at_call 11; first | (with_reducible refine (HG.out _).mono ?_; rintro e w' ⟨rfl, rfl⟩)))
    go_ret
    exact ⟨rfl, ((Ext.alloc _ _).trans (Ext.alloc _ _)).trans (Ext.more _ _)⟩
  | false =>
    rw [hg] at HG ho
    clear hg
    cases hg : great22B na nd with
    | true =>
      rw [hg] at HG2
      clear hg ho
      go_enter Try.func9, Try.ntmps9
      go_wp2_with (first | (go_at_call 22; refine (alive22_any _).mono ?_; rintro e w' ⟨rfl, x1, rfl⟩) | (go_at_call 11; first | (with_reducible refine (HG.out _).mono ?_; rintro e w' ⟨rfl, rfl⟩) | (with_reducible refine (HG2.out _).mono ?_; rintro e w' ⟨rfl, rfl⟩)))
      go_ret
      exact ⟨rfl, ((Ext.alloc _ _).trans (Ext.alloc _ _)).trans (Ext.more _ _)⟩
    | false =>
      rw [hg] at HG2 ho
      clear hg
      have ho2 : 256 < na ∨ 1000 < nb ∨ 1000 < nd := by
        rcases ho with h | h | h
        · cases h
        · cases h
        · exact h
      clear ho
      by_cases h1 : 256 < (na : Int)
      case pos =>
        go_enter Try.func9, Try.ntmps9
        go_wp2_with (first | (go_at_call 22; refine (alive22_any _).mono ?_; rintro e w' ⟨rfl, x1, rfl⟩) | (go_at_call 11; first | (with_reducible refine (HG.out _).mono ?_; rintro e w' ⟨rfl, rfl⟩) | (with_reducible refine (HG2.out _).mono ?_; rintro e w' ⟨rfl, rfl⟩)))
        go_ret
        exact ⟨rfl, ((Ext.alloc _ _).trans (Ext.alloc _ _)).trans (Ext.more _ _)⟩
      by_cases h2 : 1000 < (nb : Int)
      case pos =>
        go_enter Try.func9, Try.ntmps9
        go_wp2_with (first | (go_at_call 22; refine (alive22_any _).mono ?_; rintro e w' ⟨rfl, x1, rfl⟩) | (go_at_call 11; first | (with_reducible refine (HG.out _).mono ?_; rintro e w' ⟨rfl, rfl⟩) | (with_reducible refine (HG2.out _).mono ?_; rintro e w' ⟨rfl, rfl⟩)))
        go_ret
        exact ⟨rfl, ((Ext.alloc _ _).trans (Ext.alloc _ _)).trans (Ext.more _ _)⟩
      have h3 : 1000 < (nd : Int) := by omega
      go_enter Try.func9, Try.ntmps9
      go_wp2_with (first | (go_at_call 22; refine (alive22_any _).mono ?_; rintro e w' ⟨rfl, x1, rfl⟩) | (go_at_call 11; first | (with_reducible refine (HG.out _).mono ?_; rintro e w' ⟨rfl, rfl⟩) | (with_reducible refine (HG2.out _).mono ?_; rintro e w' ⟨rfl, rfl⟩)))
      go_ret
      exact ⟨rfl, ((Ext.alloc _ _).trans (Ext.alloc _ _)).trans (Ext.more _ _)⟩

set_option maxHeartbeats 3200000 in
theorem reuseIn (ks nc : List (BitVec 8)) (hk : ks.length = 16) (hc : nc.length = 13) (va vb vd : Value) (ad one two : List (BitVec 8)) (ha : ad.length ≤ 256) (hb : one.length ≤ 1000) (hd : two.length ≤ 1000) (w : World) (hva : SlB w va ad) (hvb : SlB w vb one) (hvd : SlB w vd two) (hcb : CapOk vb) (hcd : CapOk vd) :
    Calls Try.prog 9 #[.agg (ks.map V8).toArray, .agg (nc.map V8).toArray, va, vb, vd] w fun e w' => e = .returned (.bool true) ∧ Ext w w' := by
  obtain ⟨aa, ca, rfl⟩ := hva.form
  obtain ⟨ab, cb, rfl⟩ := hvb.form
  obtain ⟨ac, cd, rfl⟩ := hvd.form
  have HVA := kp hva
  have HVB := kp hvb
  have HVD := kp hvd
  have HK := kp (sizeK ks hk)
  have HN := kp (sizeN nc hc)
  have HG := kp (great22_any aa ab ad.length ca one.length cb)
  rw [show great22B ad.length one.length = false by simp [great22B]; omega] at HG
  have HG2 := kp (great22_any aa ac ad.length ca two.length cd)
  rw [show great22B ad.length two.length = false by simp [great22B]; omega] at HG2
  have HS := kp (fun w h1 h2 => seal_ok ks nc hk hc (.slice aa ad.length ca) (.slice ab one.length cb) ad one ha (by omega) w h1 h2 hcb)
  have HS2 := kp (fun w h2 => seal_ok ks nc hk hc (.slice none 0 0) (.slice ac two.length cd) [] two (by simp) (by omega) w (SlB.nil w) h2 hcd)
  have HL := kp (sealF_len ks nc ad one)
  have HL2 := kp (sealF_len ks nc [] two)
  have HP := kp (fun i h1 h2 => seal_reuse ks nc ad [] one two i h1 h2)
  generalize sealF ks nc ad one = sf at *
  generalize sealF ks nc [] two = tf at *
  obtain ⟨m1, hm1⟩ : ∃ m, m = one.length := ⟨_, rfl⟩
  obtain ⟨m2, hm2⟩ : ∃ m, m = two.length := ⟨_, rfl⟩
  rw [← hm1] at hb HVB HG HS HL HP ⊢
  rw [← hm2] at hd HVD HG2 HS2 HL2 HP ⊢
  have HM1 := kp hm1
  have HM2 := kp hm2
  have h1 : ¬ 256 < (ad.length : Int) := by omega
  have h2 : ¬ 1000 < (m1 : Int) := by omega
  have h3 : ¬ 1000 < (m2 : Int) := by omega
  clear hk hc hva hvb hvd hcb hcd hm1 hm2
  go_enter Try.func9, Try.ntmps9
  go_wp2_with (first | (go_at_call 22; refine (alive22_any _).mono ?_; rintro e w' ⟨rfl, x1, rfl⟩) | (go_at_call 11; first | (with_reducible refine (HG.out _).mono ?_; rintro e w' ⟨rfl, rfl⟩) | (with_reducible refine (HG2.out _).mono ?_; rintro e w' ⟨rfl, rfl⟩)) | ((with_reducible show wpList _ _ _ (Oper.mk _ (Op.load 23 _) _ _ _ _ :: _) _ _); (with_reducible refine wpList_load_row rfl 23 _ rfl (w.heap.size) rfl 23 ((ks.map V8).toArray) (0, 0) _ (hp_more (hp_alloc (hp_new _ _))) Try.underlying23 rfl (HK.out) ?_); simp only [Act.put, List.setIfInBounds_toArray, List.set_cons_zero, List.set_cons_succ]) | ((with_reducible show wpList _ _ _ (Oper.mk _ (Op.load 24 _) _ _ _ _ :: _) _ _); (with_reducible refine wpList_load_row rfl 24 _ rfl (w.heap.size + 1) rfl 24 ((nc.map V8).toArray) (0, 0) _ (hp_more (hp_at _ _ _ (by simp))) Try.underlying24 rfl (HN.out) ?_); simp only [Act.put, List.setIfInBounds_toArray, List.set_cons_zero, List.set_cons_succ]))
  refine (HS.out _ (HVA.out.ext (((Ext.alloc _ _).trans (Ext.alloc _ _)).trans (Ext.more _ _))) (HVB.out.ext (((Ext.alloc _ _).trans (Ext.alloc _ _)).trans (Ext.more _ _)))).mono ?_
  rintro e w1 ⟨v1, rfl, ho1, hx1⟩
  have HX1 := kp ((((Ext.alloc _ _).trans (Ext.alloc _ _)).trans (Ext.more _ _)).trans hx1)
  have HK1 := kp (ext_heap hx1 (hp_more (hp_alloc (hp_new _ _))))
  have HN1 := kp (ext_heap hx1 (hp_more (hp_at _ _ (w.heap.size + 1) (by simp))))
  have HS1 := kp (SlB.of_owns ho1)
  obtain ⟨a1, c1, hv1⟩ := (SlB.of_owns ho1).form
  rw [HL.out] at hv1
  subst hv1
  clear ho1 hx1
  go_wp2_with (first | ((with_reducible show wpList _ _ _ (Oper.mk _ (Op.load 23 _) _ _ _ _ :: _) _ _); (with_reducible refine wpList_load_row rfl 23 _ rfl (w.heap.size) rfl 23 ((ks.map V8).toArray) (0, 0) _ (HK1.out) Try.underlying23 rfl (HK.out) ?_); simp only [Act.put, List.setIfInBounds_toArray, List.set_cons_zero, List.set_cons_succ]) | ((with_reducible show wpList _ _ _ (Oper.mk _ (Op.load 24 _) _ _ _ _ :: _) _ _); (with_reducible refine wpList_load_row rfl 24 _ rfl (w.heap.size + 1) rfl 24 ((nc.map V8).toArray) (0, 0) _ (HN1.out) Try.underlying24 rfl (HN.out) ?_); simp only [Act.put, List.setIfInBounds_toArray, List.set_cons_zero, List.set_cons_succ]))
  refine (HS2.out _ (HVD.out.ext HX1.out)).mono ?_
  rintro e w2 ⟨v2, rfl, ho2, hx2⟩
  have HX2 := kp (HX1.out.trans hx2)
  have HS12 := kp (HS1.out.ext hx2)
  have HS22 := kp (SlB.of_owns ho2)
  obtain ⟨a2, c2, hv2⟩ := (SlB.of_owns ho2).form
  rw [HL2.out] at hv2
  subst hv2
  clear ho2 hx2
  have g1 : ¬ ((m1 : Int) + 8 < m1) := by omega
  have g2 : ¬ ((m2 : Int) + 8 < m2) := by omega
  go_wp2_with fail
  go_loopw [16] (fun i wr => ∃ (k : Nat) (x : Xtra), k ≤ m1 ∧ k ≤ m2 ∧ i = .int .i64 k ∧ wr = more w2 x) (fun i _ => m1 - (intOf i).toNat)
  case atStart => exact ⟨0, _, by omega, by omega, rfl, more_self _⟩
  case round =>
    obtain ⟨k, x, hk1, hk2, rfl, rfl⟩ := hrel
    by_cases hlt1 : k < m1
    · by_cases hlt2 : k < m2
      · obtain ⟨y1, hy1⟩ : ∃ y, sf[k]? = some y := ⟨sf[k]'(by rw [HL.out]; omega), by simp⟩
        obtain ⟨y2, hy2⟩ : ∃ y, tf[k]? = some y := ⟨tf[k]'(by rw [HL2.out]; omega), by simp⟩
        obtain ⟨z1, hz1⟩ : ∃ y, one[k]? = some y := ⟨one[k]'(by rw [← HM1.out]; omega), by simp⟩
        obtain ⟨z2, hz2⟩ : ∃ y, two[k]? = some y := ⟨two[k]'(by rw [← HM2.out]; omega), by simp⟩
        have hp := HP.out k hlt1 hlt2
        simp only [List.getD, hy1, hy2, hz1, hz2, Option.getD_some] at hp
        obtain ⟨b1, o1, e1, hb1, c1'⟩ := HS12.out.at k y1 hy1
        obtain ⟨b2, o2, e2, hb2, c2'⟩ := HS22.out.at k y2 hy2
        obtain ⟨b3, o3, e3, hb3, c3'⟩ := (HVB.out.ext HX2.out).at k z1 hz1
        obtain ⟨b4, o4, e4, hb4, c4'⟩ := (HVD.out.ext HX2.out).at k z2 hz2
        subst e1 e2 e3 e4
        have hbb : ((y1 ^^^ y2) != (z1 ^^^ z2)) = false := by rw [hp]; simp
        have i1 : (k : Int) < m1 + 8 := by omega
        have i2 : (k : Int) < m2 + 8 := by omega
        clear hy1 hy2 hz1 hz2 hp
        go_wp2_with fail
        (first | with_reducible refine region_f2 19 (by kernel_rfl) (by kernel_rfl) (by kernel_rfl) (by kernel_rfl) (by decide) (Nat.le_of_ble_eq_true (by kernel_rfl)) ?_ | refine region_f 19 (by kernel_rfl) (by kernel_rfl) (by kernel_rfl) (by kernel_rfl) (by decide) (Nat.le_of_ble_eq_true (by kernel_rfl)) ?_)
        apply Exists.intro
        refine ⟨fun xz2 => ?_, fun xq2 => ?_⟩
        · simp only [List.take_succ_cons, List.take_zero]
          unfold Cx
          repeat (go_big_quiet_step (fail))
          exact wpQuiet_nil rfl
        simp only [List.drop_succ_cons, List.drop_zero]
        go_wp2_with fail
        go_roundw
        case rel => exact ⟨k + 1, _, by omega, by omega, by go_num, rfl⟩
        case measure => simp [intOf]; omega
      · have e1 : (k : Int) < m1 := by omega
        have e2 : ¬ (k : Int) < m2 := by omega
        go_wp2_with fail
        go_ret
        exact ⟨rfl, HX2.out.trans (Ext.more _ _)⟩
    · have e1 : ¬ (k : Int) < m1 := by omega
      go_wp2_with fail
      go_ret
      exact ⟨rfl, HX2.out.trans (Ext.more _ _)⟩
theorem sealReuse.walk (ks : List (BitVec 8)) (hk : ks.length = 16) (nc : List (BitVec 8)) (hc : nc.length = 13) (va : Value) (ad : List (BitVec 8)) (_ : ad.length ≤ 9223372036854775807) (_ : CapOk va) (vb : Value) (one : List (BitVec 8)) (_ : one.length ≤ 9223372036854775807) (hcb : CapOk vb) (vd : Value) (two : List (BitVec 8)) (_ : two.length ≤ 9223372036854775807) (hcd : CapOk vd) (w : World) (hva : SlB w va ad) (hvb : SlB w vb one) (hvd : SlB w vd two) :
    Calls Try.prog 9 #[.agg (ks.map V8).toArray, .agg (nc.map V8).toArray, va, vb, vd] w fun e w' => e = .returned (.bool true) ∧ Ext w w' := by
  by_cases h : ad.length ≤ 256 ∧ one.length ≤ 1000 ∧ two.length ≤ 1000
  · exact reuseIn ks nc hk hc va vb vd ad one two h.1 h.2.1 h.2.2 w hva hvb hvd hcb hcd
  · obtain ⟨aa, ca, rfl⟩ := hva.form
    obtain ⟨ab, cb, rfl⟩ := hvb.form
    obtain ⟨ac, cd, rfl⟩ := hvd.form
    exact reuseOut ks nc aa ab ac ad.length ca one.length cb two.length cd (by omega) w
end Go.Proofs.Ytnofmppimihjpaa
