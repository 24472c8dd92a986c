/- hotspotref22's Crypt. -/
import Derived.Test.YtnofmppimihjpaaRef22
namespace Go.Proofs.Ytnofmppimihjpaa
open Go.RowKit

theorem owns_other {w : World} {base E n k : Nat} {v : Value} {xs : List Value} {cs : Array Value} {T : TypeId} {fr : Nat × Nat} (h : w.ownsRow base E 1 v n xs) (hk : w.heap[k]? = some (.cells cs T fr)) (hne : E ≠ T) : some k ≠ v.ownBlock := fun e => by
  obtain ⟨_, h2⟩ := h
  rcases h2 with ⟨rfl, _⟩ | ⟨g, cap, cur, rfl, hb, hg, _⟩
  · cases e
  · cases e; rw [hg] at hk; cases hk; exact hne rfl
theorem getElem_getD {l : List (BitVec 8)} {i : Nat} {y : BitVec 8} (h : l[i]? = some y) : l.getD i 0 = y := by simp [List.getD, h]
set_option maxHeartbeats 3200000 in
theorem rcrypt_any (ks nc l : List (BitVec 8)) (hk : ks.length = 16) (hc : nc.length = 13) (hl : l.length ≤ 100000) (v : Value) (w : World) (hv : SlB w v l) :
    Calls Try.prog 34 #[.agg (ks.map V8).toArray, .agg (nc.map V8).toArray, v] w (RetO (cryptF ks nc l) w) := by
  obtain ⟨iu, hiu, hu⟩ := info_iu
  have HIU := kp hiu
  have HU := kp hu
  have HK := kp (sizeK ks hk)
  have HN := kp (sizeN nc hc)
  have HST := kp (fun i w => rstream_any ks nc hk hc i w)
  obtain ⟨ad, cb, rfl⟩ := hv.form
  have HV := kp hv
  obtain ⟨n, hn⟩ : ∃ n, n = l.length := ⟨_, rfl⟩
  have HEL := kp (show (cryptF ks nc l).length = n by rw [cryptF_len, hn])
  have HEA := kp (fun i hi => cryptF_at ks nc l i hi)
  rw [← hn] at HV hl ⊢
  have HNN := kp hn
  generalize cryptF ks nc l = E at *
  clear hiu hu hk hc hv hn
  go_enter Try.func34, Try.ntmps34
  go_wp2_with fail
  go_loopw [7, 8] (fun o i wr => ∃ q : Nat, 16 * q ≤ n + 15 ∧ i = .int .i64 ((16 * q : Nat) : Int) ∧ Kp (wr.ownsRow (w.heap.size + 2) 5 1 o (E.take (16 * q)).length ((E.take (16 * q)).map V8)) ∧ Kp (Ext ((w.alloc (.cells (ks.map V8).toArray 23)).alloc (.cells (nc.map V8).toArray 24)) wr)) (fun _ i _ => n + 16 - (intOf i).toNat)
  case atStart => exact ⟨0, by omega, rfl, kp (by simpa using owns_nil _ _ _), kp (Ext.refl _)⟩
  case round =>
    obtain ⟨q, hq, rfl, HO, HX⟩ := hrel
    by_cases hlt : 16 * q < n
    · have hltI : ((16 * q : Nat) : Int) < n := by omega
      have HKR := kp (ext_heap HX.out (hp_alloc (hp_new _ _)))
      have HNR := kp (ext_heap HX.out (hp_at _ _ (w.heap.size + 1) (by simp)))
      have HJ := kp (HST.out (1 + (q : Int)))
      have hdiv : ((16 * q : Nat) : Int) / 16 = q := by omega
      have HSL := kp (streamF_len ks nc (1 + (q : Int)))
      have HSB := kp (sizeB _ (streamF_len ks nc (1 + (q : Int))))
      have HSZ := kp (z16_size _ (streamF_len ks nc (1 + (q : Int))))
      have HSA := kp (fun t (h : 16 * q + t < l.length) (h2 : t < 16) => show E.getD (16 * q + t) 0 = l.getD (16 * q + t) 0 ^^^ (streamF ks nc (1 + (q : Int))).getD t 0 by
        rw [HEA.out _ h, show (16 * q + t) / 16 = q by omega, show (16 * q + t) % 16 = t by omega])
      generalize streamF ks nc (1 + (q : Int)) = S at *
      obtain ⟨av0, cv0, hv0⟩ := (SlB.of_owns HO.out).form
      rw [show (E.take (16 * q)).length = 16 * q by rw [List.length_take, HEL.out]; omega] at hv0
      subst hv0
      go_wp2_with (first | ((with_reducible show wpList _ _ _ (Oper.mk _ (Op.load 23 _) _ _ _ _ :: _) _ _); (with_reducible refine wpList_load_row rfl 23 _ rfl (w.heap.size) rfl 23 ((ks.map V8).toArray) (0, 0) _ (HKR.out) Try.underlying23 rfl (HK.out) ?_); simp only [Act.put, List.setIfInBounds_toArray, List.set_cons_zero, List.set_cons_succ]) | ((with_reducible show wpList _ _ _ (Oper.mk _ (Op.load 24 _) _ _ _ _ :: _) _ _); (with_reducible refine wpList_load_row rfl 24 _ rfl (w.heap.size + 1) rfl 24 ((nc.map V8).toArray) (0, 0) _ (HNR.out) Try.underlying24 rfl (HN.out) ?_); simp only [Act.put, List.setIfInBounds_toArray, List.set_cons_zero, List.set_cons_succ]))
      refine (HJ.out _).mono ?_
      rintro e w1 ⟨rfl, hx1⟩
      have HX1 := kp (HX.out.trans hx1)
      have HO1 := kp (owns_ext HO.out (hx1.trans (Ext.alloc _ (.cells (S.map V8).toArray 38))))
      have hw1 : w.heap.size + 2 ≤ w1.heap.size := by have := HX1.out.size; simpa using this
      clear hx1 HKR HNR HJ
      go_wp2_with ((with_reducible show wpList _ _ _ (Oper.mk none (Op.store 38 _ _) _ _ _ _ :: _) _ _); with_reducible refine wpList_st_row rfl rfl 38 _ _ rfl (w1.heap.size) ((S.map V8).toArray) rfl rfl 38 (z16) (hp_new _ _) (HSB.out) (HSZ.out) (all_V8 _) (by rewrite [setRow_at _ _ _ _ _ _ (by simp <;> omega)]; rfl) ?_)
      go_loopw [7, 10] (fun o i wr => ∃ (t : Nat) (av : Option Addr) (cv : Nat), t ≤ 16 ∧ 16 * q + t ≤ n ∧ i = .int .i64 ((16 * q + t : Nat) : Int) ∧ o = .slice av (16 * q + t) cv ∧ Kp (wr.ownsRow (w.heap.size + 2) 5 1 o (E.take (16 * q + t)).length ((E.take (16 * q + t)).map V8)) ∧ Kp (Ext ((w.alloc (.cells (ks.map V8).toArray 23)).alloc (.cells (nc.map V8).toArray 24)) wr) ∧ Kp (wr.heap[w1.heap.size]? = some (.cells (S.map V8).toArray 38 (0, 0)))) (fun _ i _ => 16 * q + 16 - (intOf i).toNat)
      case atStart => exact ⟨0, _, _, by omega, by omega, rfl, rfl, HO1, kp (HX1.out.trans (Ext.alloc _ _)), kp (hp_new _ _)⟩
      case round =>
        obtain ⟨t, av, cv, ht, htn, rfl, rfl, HOt, HXt, HRt⟩ := hrel
        by_cases hin : 16 * q + t < n ∧ t < 16
        · obtain ⟨hin1, hin2⟩ := hin
          have i1 : ((16 * q + t : Nat) : Int) < n := by omega
          have i2 : ((16 * q + t : Nat) : Int) < ((16 * q : Nat) : Int) + 16 := by omega
          obtain ⟨y, hy⟩ : ∃ y, l[16 * q + t]? = some y := ⟨l[16 * q + t]'(by rw [← HNN.out]; exact hin1), by simp⟩
          obtain ⟨z, hz⟩ : ∃ z, S[t]? = some z := ⟨S[t]'(by rw [HSL.out]; exact hin2), by simp⟩
          obtain ⟨u, hu⟩ : ∃ u, E[16 * q + t]? = some u := ⟨E[16 * q + t]'(by rw [HEL.out]; exact hin1), by simp⟩
          have huv : u = y ^^^ z := by
            have h := HSA.out t (by rw [← HNN.out]; exact hin1) hin2
            rw [getElem_getD hu, getElem_getD hy, getElem_getD hz] at h
            exact h
          have HTK := kp (take_snoc E (16 * q + t) u hu)
          rw [huv] at HTK
          obtain ⟨bb, ob, eb, hbb, cy⟩ := (HV.out.ext (((Ext.alloc _ _).trans (Ext.alloc _ _)).trans HXt.out)).at (16 * q + t) y hy
          subst eb
          have cz : wr.cell? ⟨w1.heap.size, t, none⟩ = some (V8 z) := by
            rw [cell_of_row wr _ t _ _ _ HRt.out]; simp [hz]
          have hgz : w1.heap.size < wr.heap.size := by have := HRt.out; rw [Array.getElem?_eq_some_iff] at this; exact this.1
          have hbz : w.heap.size + 2 ≤ wr.heap.size := by omega
          have HLE := kp (show (E.take (16 * q + t)).length + [y ^^^ z].length ≤ 1000000 by rw [List.length_take, HEL.out]; simp; omega)
          have HOS := kp (fun x => owns_ext HOt.out (Ext.more wr x))
          clear hy hz hu huv
          go_wp2_with fail
          refine region_spine0 (tabS [(36, fun v _ => v = .slice av (16 * q + t) cv), (37, fun v _ => v = .slice (some ⟨bb, ob, none⟩) n cb), (38, fun v _ => v = .int .i64 ((16 * q + t : Nat) : Int)), (39, fun v _ => v = .pointer (some ⟨bb, ob + (16 * q + t), none⟩)), (40, fun v _ => v = V8 y), (41, fun v _ => v = .int .i64 ((16 * q + t : Nat) : Int)), (42, fun v _ => v = .int .i64 ((16 * q : Nat) : Int)), (43, fun v _ => v = .int .i64 t), (44, fun v _ => v = .pointer (some ⟨w1.heap.size, t, none⟩)), (45, fun v _ => v = V8 z), (46, fun v _ => v = V8 (y ^^^ z)), (47, fun v w => SlB w v [y ^^^ z])]) (tabS_mono _ (by simp only [List.forall_mem_cons]; exact ⟨mono_eq _, mono_eq _, mono_eq _, mono_eq _, mono_eq _, mono_eq _, mono_eq _, mono_eq _, mono_eq _, mono_eq _, mono_eq _, mono_SlB _, by simp⟩)) 12 (by kernel_rfl) (by kernel_rfl) (by kernel_rfl) (by kernel_rfl) (by decide) (Nat.le_of_ble_eq_true (by kernel_rfl)) (by kernel_rfl) (wr) (.inl rfl) ?_
          simp only [List.take_succ_cons, List.take_zero]
          refine ⟨fun wv36 hwv36 hSv36 => ?_, fun v36 => ?_⟩
          · obtain ⟨xv36, rfl⟩ := hwv36
            clear hSv36
            go_wp2_with fail
            exact ⟨rfl, _, rfl, fun d hd => by cases hd; exact rfl, Ext.refl _⟩
          simp only [Act.put, List.setIfInBounds_toArray, List.set_cons_zero, List.set_cons_succ]
          refine ⟨fun wv37 hwv37 hSv37 => ?_, fun v37 => ?_⟩
          · obtain ⟨xv37, rfl⟩ := hwv37
            clear hSv37
            go_wp2_with fail
            exact ⟨rfl, _, rfl, fun d hd => by cases hd; exact rfl, Ext.refl _⟩
          simp only [Act.put, List.setIfInBounds_toArray, List.set_cons_zero, List.set_cons_succ]
          refine ⟨fun wv38 hwv38 hSv38 => ?_, fun v38 => ?_⟩
          · obtain ⟨xv38, rfl⟩ := hwv38
            clear hSv38
            go_wp2_with fail
            exact ⟨rfl, _, rfl, fun d hd => by cases hd; exact rfl, Ext.refl _⟩
          simp only [Act.put, List.setIfInBounds_toArray, List.set_cons_zero, List.set_cons_succ]
          refine ⟨fun wv39 hwv39 hSv39 => ?_, fun v39 => ?_⟩
          · obtain ⟨xv39, rfl⟩ := hwv39
            obtain rfl : v37 = .slice (some ⟨bb, ob, none⟩) n cb := hSv39 37 (by decide) (by decide)
            obtain rfl : v38 = .int .i64 ((16 * q + t : Nat) : Int) := hSv39 38 (by decide) (by decide)
            clear hSv39
            go_wp2_with fail
            exact ⟨rfl, _, rfl, fun d hd => by cases hd; exact rfl, Ext.refl _⟩
          simp only [Act.put, List.setIfInBounds_toArray, List.set_cons_zero, List.set_cons_succ]
          refine ⟨fun wv40 hwv40 hSv40 => ?_, fun v40 => ?_⟩
          · obtain ⟨xv40, rfl⟩ := hwv40
            obtain rfl : v39 = .pointer (some ⟨bb, ob + (16 * q + t), none⟩) := hSv40 39 (by decide) (by decide)
            clear hSv40
            go_wp2_with fail
            exact ⟨rfl, _, rfl, fun d hd => by cases hd; exact rfl, Ext.refl _⟩
          simp only [Act.put, List.setIfInBounds_toArray, List.set_cons_zero, List.set_cons_succ]
          refine ⟨fun wv41 hwv41 hSv41 => ?_, fun v41 => ?_⟩
          · obtain ⟨xv41, rfl⟩ := hwv41
            clear hSv41
            go_wp2_with fail
            exact ⟨rfl, _, rfl, fun d hd => by cases hd; exact rfl, Ext.refl _⟩
          simp only [Act.put, List.setIfInBounds_toArray, List.set_cons_zero, List.set_cons_succ]
          refine ⟨fun wv42 hwv42 hSv42 => ?_, fun v42 => ?_⟩
          · obtain ⟨xv42, rfl⟩ := hwv42
            clear hSv42
            go_wp2_with fail
            exact ⟨rfl, _, rfl, fun d hd => by cases hd; exact rfl, Ext.refl _⟩
          simp only [Act.put, List.setIfInBounds_toArray, List.set_cons_zero, List.set_cons_succ]
          refine ⟨fun wv43 hwv43 hSv43 => ?_, fun v43 => ?_⟩
          · obtain ⟨xv43, rfl⟩ := hwv43
            obtain rfl : v41 = .int .i64 ((16 * q + t : Nat) : Int) := hSv43 41 (by decide) (by decide)
            obtain rfl : v42 = .int .i64 ((16 * q : Nat) : Int) := hSv43 42 (by decide) (by decide)
            clear hSv43
            go_wp2_with fail
            exact ⟨rfl, _, rfl, fun d hd => by cases hd; exact (by show Value.int .i64 _ = .int .i64 _; congr 1; omega), Ext.refl _⟩
          simp only [Act.put, List.setIfInBounds_toArray, List.set_cons_zero, List.set_cons_succ]
          refine ⟨fun wv44 hwv44 hSv44 => ?_, fun v44 => ?_⟩
          · obtain ⟨xv44, rfl⟩ := hwv44
            obtain rfl : v43 = .int .i64 t := hSv44 43 (by decide) (by decide)
            clear hSv44
            go_wp2_with fail
            exact ⟨rfl, _, rfl, fun d hd => by cases hd; exact rfl, Ext.refl _⟩
          simp only [Act.put, List.setIfInBounds_toArray, List.set_cons_zero, List.set_cons_succ]
          refine ⟨fun wv45 hwv45 hSv45 => ?_, fun v45 => ?_⟩
          · obtain ⟨xv45, rfl⟩ := hwv45
            obtain rfl : v44 = .pointer (some ⟨w1.heap.size, t, none⟩) := hSv45 44 (by decide) (by decide)
            clear hSv45
            go_wp2_with fail
            exact ⟨rfl, _, rfl, fun d hd => by cases hd; exact rfl, Ext.refl _⟩
          simp only [Act.put, List.setIfInBounds_toArray, List.set_cons_zero, List.set_cons_succ]
          refine ⟨fun wv46 hwv46 hSv46 => ?_, fun v46 => ?_⟩
          · obtain ⟨xv46, rfl⟩ := hwv46
            obtain rfl : v40 = V8 y := hSv46 40 (by decide) (by decide)
            obtain rfl : v45 = V8 z := hSv46 45 (by decide) (by decide)
            clear hSv46
            go_wp2_with fail
            exact ⟨rfl, _, rfl, fun d hd => by cases hd; exact rfl, Ext.refl _⟩
          simp only [Act.put, List.setIfInBounds_toArray, List.set_cons_zero, List.set_cons_succ]
          refine ⟨fun wv47 hwv47 hSv47 => ?_, fun v47 => ?_⟩
          · obtain ⟨xv47, rfl⟩ := hwv47
            obtain rfl : v46 = V8 (y ^^^ z) := hSv47 46 (by decide) (by decide)
            clear hSv47
            go_wp2_with fail
            exact ⟨rfl, _, rfl, fun d hd => by cases hd; exact SlB.of_block (l := [y ^^^ z]) (hp_at _ _ _ (by simp)), Ext.alloc _ _⟩
          simp only [Act.put, List.setIfInBounds_toArray, List.set_cons_zero, List.set_cons_succ]
          intro x9 hfin
          have h47 : SlB (more wr x9) v47 [y ^^^ z] := hfin 47 (by decide)
          obtain rfl : v36 = .slice av (16 * q + t) cv := hfin 36 (by decide)
          have H47 := kp h47
          obtain ⟨a7, c7, rfl⟩ := h47.form
          clear hfin h47
          simp only [List.drop_succ_cons, List.drop_zero]
          go_wp2_with (at_builtin; refine wpList_append_SlB rfl _ _ 25 rfl (w.heap.size + 2) 5 iu Try.underlying25 HIU.out HU.out.1 HU.out.2.1 HU.out.2.2 (.slice av (16 * q + t) cv) (E.take (16 * q + t)) rfl (HOS.out x9) _ [y ^^^ z] rfl H47.out HLE.out (by simp <;> omega) ?_; intro v3 w3 ho3 hg3; rw [← HTK.out] at ho3; obtain ⟨a8, c8, h8⟩ := (SlB.of_owns ho3).form; rw [show (E.take (16 * q + t + 1)).length = 16 * q + (t + 1) by rw [List.length_take, HEL.out]; omega] at h8; have HO3 := kp ho3; have HG3 := kp hg3; clear ho3 hg3; subst h8)
          have HX3 := kp ((HXt.out.trans (Ext.more wr x9)).grown HG3.out (fun k hk => by have h := owns_block HOt.out k hk; simp; omega))
          have HR3 := kp ((HG3.out.block _ (by simp; omega) (owns_other (HOS.out x9) (hp_more HRt.out) (by decide))).trans (hp_more HRt.out))
          go_roundw
          case rel => exact ⟨t + 1, _, _, by omega, by omega, by go_num, rfl, HO3, HX3, HR3⟩
          case measure => simp [intOf]; omega
        · have HTE := kp (show E.take (16 * q + t) = E.take (16 * (q + 1)) by
            by_cases h16 : t = 16
            · rw [h16]; rfl
            · rw [List.take_of_length_le (by rw [HEL.out]; omega), List.take_of_length_le (by rw [HEL.out]; omega)])
          have HO9 := kp (show wr.ownsRow (w.heap.size + 2) 5 1 (.slice av (16 * q + t) cv) (E.take (16 * (q + 1))).length ((E.take (16 * (q + 1))).map V8) by rw [← HTE.out]; exact HOt.out)
          by_cases hin1 : 16 * q + t < n
          · have i1 : ((16 * q + t : Nat) : Int) < n := by omega
            have i2 : ¬ ((16 * q + t : Nat) : Int) < ((16 * q : Nat) : Int) + 16 := by omega
            go_wp2_with fail
            go_roundw
            case rel => exact ⟨q + 1, by omega, by go_num, HO9, HXt⟩
            case measure => simp [intOf]; omega
          · have i1 : ¬ ((16 * q + t : Nat) : Int) < n := by omega
            go_wp2_with fail
            go_roundw
            case rel => exact ⟨q + 1, by omega, by go_num, HO9, HXt⟩
            case measure => simp [intOf]; omega
    · have hge : ¬ ((16 * q : Nat) : Int) < n := by omega
      have HTE := kp (show E.take (16 * q) = E from List.take_of_length_le (by rw [HEL.out]; omega))
      have h9 := HO.out
      rw [HTE.out] at h9
      have HO9 := kp (owns_base (base' := w.heap.size) h9 (by omega))
      clear h9
      go_wp2_with fail
      go_ret
      exact ⟨_, rfl, HO9.out, ((Ext.alloc _ _).trans (Ext.alloc _ _)).trans HX.out⟩
end Go.Proofs.Ytnofmppimihjpaa
