/- The contract of hotspotref23.Derived. -/
import Derived.Test.YtianjmmmegelkaaOwn23
import Derived.Test.YtianjmmmegelkaaLaw23b
namespace Go.Proofs.Ytianjmmmegelkaa
open Go.RowKit

theorem take_snoc (l : List (BitVec 8)) (k : Nat) (y : BitVec 8) (h : l[k]? = some y) : l.take (k + 1) = l.take k ++ [y] := by
  rw [List.take_add_one, h]; rfl
set_option maxHeartbeats 3200000 in
theorem rderived_any (ks : List (BitVec 8)) (hk : ks.length = 16) (s : ByteArray) (hs : s.size ≤ 32) (vc : Value) (c : List (BitVec 8)) (hc : c.length ≤ 256) (n : Nat) (hn : n ≤ 1024) (w : World) (hv : SlB w vc c) :
    Calls Try.prog 27 #[.agg (ks.map V8).toArray, .string s, vc, .int .i64 n] w (RetO (expandF ks s c n) w) := by
  obtain ⟨iu, hiu, hu⟩ := info_iu
  have HIU := kp hiu
  have HU := kp hu
  obtain ⟨ac, cc, rfl⟩ := hv.form
  have HV := kp hv
  have HK := kp (sizeK ks hk)
  have HIN := kp (fun (i : Int) (w1 : World) (hx : SlB w1 (.slice ac c.length cc) c) => rinput_any s (by omega) _ c (by omega) i w1 hx)
  have HMAC := kp (fun (i : Int) (v : Value) (w1 : World) (hx : SlB w1 v (inputF s c i)) => rmac_any ks (inputF s c i) hk (by simp [inputF, twoF, strB_len]; omega) v w1 hx)
  have HEL := kp (expandF_len ks s c n)
  have HEA := kp (fun i (h : i < n) => expandF_at ks s c n i h)
  have HOE := kp (owns_empty (w.alloc (.cells (ks.map V8).toArray 29)) (w.heap.size + 1) (by simp))
  simp only [World.size_alloc] at HOE
  generalize expandF ks s c n = E at *
  clear hiu hu hv hk
  go_enter Try.func27, Try.ntmps27
  go_wp2_with fail
  go_loopw [9, 10] (fun v i wr => ∃ k : Nat, k ≤ n ∧ i = .int .i64 k ∧ Kp (wr.ownsRow (w.heap.size + 1) 5 1 v (E.take k).length ((E.take k).map V8)) ∧ Kp (Ext (w.alloc (.cells (ks.map V8).toArray 29)) wr)) (fun _ i _ => n - (intOf i).toNat)
  case atStart => exact ⟨0, by omega, rfl, kp (by simpa using HOE.out), kp (Ext.alloc _ _)⟩
  case round =>
    obtain ⟨k, hkn, rfl, HO, HX⟩ := hrel
    by_cases hlt : k < n
    · have hlt2 : (k : Int) < n := by omega
      have HKR := kp (ext_heap HX.out (hp_new _ _))
      have HVX := kp (HV.out.ext ((Ext.alloc _ _).trans HX.out))
      have hsz : w.heap.size + 1 ≤ wr.heap.size := by have := HX.out.size; simpa using this
      have HB := kp (sizeB (macF ks (inputF s c ((k / 16 : Nat) : Int))) (macF_len _ _))
      have HZ := kp (z16_size (macF ks (inputF s c ((k / 16 : Nat) : Int))) (macF_len _ _))
      obtain ⟨y, hy⟩ : ∃ y, E[k]? = some y := ⟨E[k]'(by rw [HEL.out]; exact hlt), by simp⟩
      have hz0 := HEA.out k hlt
      rw [hy] at hz0
      have hz := hz0.symm
      have HTK := kp (take_snoc E k y hy)
      have hm16 : k % 16 < 16 := by omega
      have HLE := kp (show (E.take k).length + [y].length ≤ 1000000 by rw [List.length_take, HEL.out]; simp; omega)
      clear hy hz0
      go_wp2_with fail
      refine region_spine (tabS [(18, fun v _ => v = .agg (ks.map V8).toArray), (19, fun v _ => v = .string s), (20, fun v _ => v = .slice ac c.length cc), (21, fun v _ => v = .int .i64 k), (22, fun v _ => v = .int .i64 ((k / 16 : Nat) : Int)), (23, fun v w => SlB w v (inputF s c ((k / 16 : Nat) : Int))), (24, fun v _ => v = .agg ((macF ks (inputF s c ((k / 16 : Nat) : Int))).map V8).toArray)]) (tabS_mono _ (by simp only [List.forall_mem_cons]; exact ⟨mono_eq _, mono_eq _, mono_eq _, mono_eq _, mono_eq _, mono_SlB _, mono_eq _, by simp⟩)) 8 7 11 (.cells z16 31) (by kernel_rfl) (by kernel_rfl) (by kernel_rfl) (by kernel_rfl) (by kernel_rfl) (by intro o ho; cases ho; exact ⟨rfl, rfl, by simp, fun _ _ => by kernel_rfl⟩) (by decide) (wr) (.inl rfl) ?_
      simp only [List.take_succ_cons, List.take_zero, List.eraseIdx_cons_succ, List.eraseIdx_cons_zero]
      refine ⟨fun wv18 hwv18 hSv18 => ?_, fun v18 => ?_⟩
      · obtain ⟨xv18, rfl⟩ := hwv18
        clear hSv18
        go_wp2_with ((with_reducible show wpList _ _ _ (Oper.mk _ (Op.load 29 _) _ _ _ _ :: _) _ _); (with_reducible refine wpList_load_row rfl 29 _ rfl (w.heap.size) rfl 29 ((ks.map V8).toArray) (0, 0) _ (hp_more HKR.out) Try.underlying29 rfl (HK.out) ?_); simp only [Act.put, List.setIfInBounds_toArray, List.set_cons_zero, List.set_cons_succ])
        exact ⟨rfl, _, rfl, fun d hd => by cases hd; exact rfl, Ext.refl _⟩
      simp only [Act.put, List.setIfInBounds_toArray, List.set_cons_zero, List.set_cons_succ]
      refine ⟨fun wv19 hwv19 hSv19 => ?_, fun v19 => ?_⟩
      · obtain ⟨xv19, rfl⟩ := hwv19
        clear hSv19
        go_wp2_with fail
        exact ⟨rfl, _, rfl, fun d hd => by cases hd; exact rfl, Ext.refl _⟩
      simp only [Act.put, List.setIfInBounds_toArray, List.set_cons_zero, List.set_cons_succ]
      refine ⟨fun wv20 hwv20 hSv20 => ?_, fun v20 => ?_⟩
      · obtain ⟨xv20, rfl⟩ := hwv20
        clear hSv20
        go_wp2_with fail
        exact ⟨rfl, _, rfl, fun d hd => by cases hd; exact rfl, Ext.refl _⟩
      simp only [Act.put, List.setIfInBounds_toArray, List.set_cons_zero, List.set_cons_succ]
      refine ⟨fun wv21 hwv21 hSv21 => ?_, fun v21 => ?_⟩
      · obtain ⟨xv21, rfl⟩ := hwv21
        clear hSv21
        go_wp2_with fail
        exact ⟨rfl, _, rfl, fun d hd => by cases hd; exact rfl, Ext.refl _⟩
      simp only [Act.put, List.setIfInBounds_toArray, List.set_cons_zero, List.set_cons_succ]
      refine ⟨fun wv22 hwv22 hSv22 => ?_, fun v22 => ?_⟩
      · obtain ⟨xv22, rfl⟩ := hwv22
        obtain rfl : v21 = .int .i64 k := hSv22 21 (by decide) (by decide)
        clear hSv22
        go_wp2_with fail
        exact ⟨rfl, _, rfl, fun d hd => by cases hd; exact (by simp [tabS]), Ext.refl _⟩
      simp only [Act.put, List.setIfInBounds_toArray, List.set_cons_zero, List.set_cons_succ]
      refine ⟨fun wv23 hwv23 hSv23 => ?_, fun v23 => ?_⟩
      · obtain ⟨xv23, rfl⟩ := hwv23
        obtain rfl : v19 = .string s := hSv23 19 (by decide) (by decide)
        obtain rfl : v20 = .slice ac c.length cc := hSv23 20 (by decide) (by decide)
        obtain rfl : v22 = .int .i64 ((k / 16 : Nat) : Int) := hSv23 22 (by decide) (by decide)
        clear hSv23
        go_wp2_with fail
        refine (HIN.out _ _ (HVX.out.ext (Ext.more _ _))).mono ?_
        rintro e w' ⟨v, rfl, ho, hx⟩
        have HSL := kp (SlB.of_owns ho)
        have HXL := kp hx
        clear ho hx
        go_wp2_with fail
        exact ⟨rfl, v, rfl, fun d hd => by cases hd; exact HSL.out, HXL.out⟩
      simp only [Act.put, List.setIfInBounds_toArray, List.set_cons_zero, List.set_cons_succ]
      refine ⟨fun wv24 hwv24 hSv24 => ?_, fun v24 => ?_⟩
      · obtain ⟨xv24, rfl⟩ := hwv24
        obtain rfl : v18 = .agg (ks.map V8).toArray := hSv24 18 (by decide) (by decide)
        have h23 := kp (show SlB _ v23 (inputF s c ((k / 16 : Nat) : Int)) from hSv24 23 (by decide) (by decide))
        clear hSv24
        obtain ⟨a7, c7, rfl⟩ := h23.out.form
        go_wp2_with fail
        refine (HMAC.out _ _ _ h23.out).mono ?_
        rintro e w' ⟨rfl, hx⟩
        have HXL := kp hx
        clear hx
        go_wp2_with fail
        exact ⟨rfl, _, rfl, fun d hd => by cases hd; exact rfl, HXL.out⟩
      simp only [Act.put, List.setIfInBounds_toArray, List.set_cons_zero, List.set_cons_succ]
      intro xm xq hfin
      obtain rfl : v24 = .agg ((macF ks (inputF s c ((k / 16 : Nat) : Int))).map V8).toArray := hfin 24 (by decide)
      clear hfin
      simp only [List.setIfInBounds_toArray, List.set_cons_zero, List.set_cons_succ, List.drop_succ_cons, List.drop_zero]
      generalize macF ks (inputF s c ((k / 16 : Nat) : Int)) = mf at *
      have HO9 := kp (owns_ext HO.out ((((Ext.more wr xm).trans (Ext.alloc _ (.cells (mf.map V8).toArray 31))).trans (Ext.more _ xq)).trans (Ext.alloc _ (.cells #[V8 y] 5))))
      have HS9 := kp (SlB.of_block (cap := 1) (l := [y]) (hp_new (more ((more wr xm).alloc (.cells (mf.map V8).toArray 31)) xq) (.cells #[V8 y] 5)))
      simp only [more_size, World.size_alloc] at HS9
      go_wp2_with (first | ((with_reducible show wpList _ _ _ (Oper.mk none (Op.store 31 _ _) _ _ _ _ :: _) _ _); with_reducible refine wpList_st_row rfl rfl 31 _ _ rfl (wr.heap.size + xm.blocks.size) ((mf.map V8).toArray) rfl rfl 31 (_) (hp_more (hp_at _ _ _ (by simp))) (HB.out) (HZ.out) (all_V8 _) (by rewrite [setRow_more _ _ _ _ (by simp <;> omega), setRow_at _ _ _ _ _ _ (by simp <;> omega)]; rfl) ?_) | (at_builtin; refine wpList_append_SlB rfl _ _ 22 rfl (w.heap.size + 1) 5 iu Try.underlying22 HIU.out HU.out.1 HU.out.2.1 HU.out.2.2 _ _ rfl HO9.out _ [y] rfl HS9.out HLE.out (by simp <;> omega) ?_; intro v' w9 ho9 hg9))
      have HX9 := kp (((((HX.out.trans (Ext.more wr xm)).trans (Ext.alloc _ _)).trans (Ext.more _ xq)).trans (Ext.alloc _ _)).grown hg9 (fun q hq => by have := owns_block HO9.out q hq; simpa using this))
      go_roundw
      case rel => exact ⟨k + 1, by omega, by go_num, kp (by rw [HTK.out]; exact ho9), HX9⟩
      case measure => simp [intOf]; omega
    · obtain rfl : k = n := by omega
      have hlt2 : ¬ (k : Int) < k := by omega
      have HT := kp (show E.take k = E from List.take_of_length_le (by rw [HEL.out]; exact Nat.le_refl _))
      go_wp2_with fail
      go_ret
      exact ⟨_, rfl, owns_base (by have h := HO.out; rw [HT.out] at h; exact h) (by omega), (Ext.alloc _ _).trans HX.out⟩
end Go.Proofs.Ytianjmmmegelkaa
