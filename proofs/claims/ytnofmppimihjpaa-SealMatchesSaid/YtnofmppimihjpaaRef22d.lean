/- hotspotref22's Seal and Open. -/
import Derived.Test.YtnofmppimihjpaaRef22c
namespace Go.Proofs.Ytnofmppimihjpaa
open Go.RowKit

set_option maxHeartbeats 1600000 in
theorem rseal_many (ks nc : List (BitVec 8)) (hk : ks.length = 16) (hc : nc.length = 13) (aa ab : Option Addr) (na ca nb cb : Nat) (ho : 256 < na ∨ 4096 < nb) (w : World) :
    Calls Try.prog 16 #[.agg (ks.map V8).toArray, .agg (nc.map V8).toArray, .slice aa na ca, .slice ab nb cb] w (RetO2 [] 4 w) := by
  have HK := kp (sizeK ks hk)
  have HN := kp (sizeN nc hc)
  have HC := kp (fun w => rcode_many ks nc aa ab na ca nb cb ho w)
  have HZ := kp (show (Try.prog.info? 28).map (·.size) = some z8.size from size8 (List.replicate 8 0) (by simp))
  have HAL := kp (show (z8.all (·.oneCell')) = true from all_V8 _)
  clear hk hc ho
  go_enter Try.func16, Try.ntmps16
  go_wp2_with (first | ((with_reducible show wpList _ _ _ (Oper.mk _ (Op.load 23 _) _ _ _ _ :: _) _ _); (with_reducible refine wpList_load_row rfl 23 _ rfl (w.heap.size) rfl 23 ((ks.map V8).toArray) (0, 0) _ (hp_alloc (hp_new _ _)) Try.underlying23 rfl (HK.out) ?_); simp only [Act.put, List.setIfInBounds_toArray, List.set_cons_zero, List.set_cons_succ]) | ((with_reducible show wpList _ _ _ (Oper.mk _ (Op.load 24 _) _ _ _ _ :: _) _ _); (with_reducible refine wpList_load_row rfl 24 _ rfl (w.heap.size + 1) rfl 24 ((nc.map V8).toArray) (0, 0) _ (hp_at _ _ _ (by simp)) Try.underlying24 rfl (HN.out) ?_); simp only [Act.put, List.setIfInBounds_toArray, List.set_cons_zero, List.set_cons_succ]) | (go_at_call 14; refine (HC.out _).mono ?_; rintro e w' ⟨rfl, x1, rfl⟩) | ((with_reducible show wpList _ _ _ (Oper.mk none (Op.store 28 _ _) _ _ _ _ :: _) _ _); with_reducible refine wpList_st_row rfl rfl 28 _ _ rfl (w.heap.size + 1 + 1 + x1.blocks.size) (z8) rfl rfl 28 (z8) (hp_at _ _ _ (by simp)) (HZ.out) (rfl) (HAL.out) (by rewrite [setRow_at _ _ _ _ _ _ (by simp [more_size] <;> omega)]; rfl) ?_))
  refine bodyPost_ret (v := .tuple #[.slice none 0 0, .int .i64 4]) (by simp [results, Try.results16, go_sem]) rfl ⟨_, rfl, owns_nil _ _ _, (((Ext.alloc _ _).trans (Ext.alloc _ _)).trans (Ext.more _ _)).trans (Ext.alloc _ _)⟩

set_option maxHeartbeats 3200000 in
theorem rseal_ok (ks nc : List (BitVec 8)) (hk : ks.length = 16) (hc : nc.length = 13) (va vb : Value) (ad body : List (BitVec 8)) (ha : ad.length ≤ 256) (hb : body.length ≤ 4096) (w : World) (hva : SlB w va ad) (hvb : SlB w vb body) :
    Calls Try.prog 16 #[.agg (ks.map V8).toArray, .agg (nc.map V8).toArray, va, vb] w (RetO2 (sealF ks nc ad body) 0 w) := by
  obtain ⟨iu, hiu, hu⟩ := info_iu
  have HIU := kp hiu
  have HU := kp hu
  obtain ⟨aa, ca, rfl⟩ := hva.form
  obtain ⟨ab, cb, rfl⟩ := hvb.form
  have HVB := kp hvb
  have HK := kp (sizeK ks hk)
  have HN := kp (sizeN nc hc)
  have HC := kp (fun w (h1 : SlB w (.slice aa ad.length ca) ad) (h2 : SlB w (.slice ab body.length cb) body) => rcode_ok ks nc hk hc _ _ ad body ha hb w h1 h2)
  have HVA := kp hva
  have HZ := kp (size8 _ (codeF_len ks nc ad body))
  have HZ8 := kp (z8_size _ (codeF_len ks nc ad body))
  have HCL := kp (codeF_len ks nc ad body)
  have HST := kp (fun w => rstream_any ks nc hk hc 0 w)
  have HSL := kp (streamF_len ks nc 0)
  have HSB := kp (sizeB _ (streamF_len ks nc 0))
  have HSZ := kp (z16_size _ (streamF_len ks nc 0))
  have HCR := kp (fun v w h => rcrypt_any ks nc body hk hc (by omega) v w h)
  have HF := kp (show sealF ks nc ad body = cryptF ks nc body ++ mixF (codeF ks nc ad body) (streamF ks nc 0) from rfl)
  have HFL := kp (cryptF_len ks nc body)
  have HML := kp (show (mixF (codeF ks nc ad body) (streamF ks nc 0)).length = 8 by rw [mixF_len, codeF_len])
  have HMA := kp (fun i (h : i < 8) => mixF_at (codeF ks nc ad body) (streamF ks nc 0) i (by rw [codeF_len]; exact h) (by omega))
  generalize mixF (codeF ks nc ad body) (streamF ks nc 0) = T at *
  generalize codeF ks nc ad body = cf at *
  generalize streamF ks nc 0 = S at *
  generalize sealF ks nc ad body = sf at *
  generalize cryptF ks nc body = bf at *
  obtain ⟨nb, hnb⟩ : ∃ nb, nb = body.length := ⟨_, rfl⟩
  rw [← hnb] at HFL
  have hnb2 : nb ≤ 4096 := by omega
  clear hiu hu hva hvb hk hc hnb
  go_enter Try.func16, Try.ntmps16
  generalize h4 : (Code.region 4 _ _ : Code) = R4
  go_wp2_with (first | ((with_reducible show wpList _ _ _ (Oper.mk _ (Op.load 23 _) _ _ _ _ :: _) _ _); (with_reducible refine wpList_load_row rfl 23 _ rfl (w.heap.size) rfl 23 ((ks.map V8).toArray) (0, 0) _ (hp_alloc (hp_new _ _)) Try.underlying23 rfl (HK.out) ?_); simp only [Act.put, List.setIfInBounds_toArray, List.set_cons_zero, List.set_cons_succ]) | ((with_reducible show wpList _ _ _ (Oper.mk _ (Op.load 24 _) _ _ _ _ :: _) _ _); (with_reducible refine wpList_load_row rfl 24 _ rfl (w.heap.size + 1) rfl 24 ((nc.map V8).toArray) (0, 0) _ (hp_at _ _ _ (by simp)) Try.underlying24 rfl (HN.out) ?_); simp only [Act.put, List.setIfInBounds_toArray, List.set_cons_zero, List.set_cons_succ]) | (go_at_call 14; refine (HC.out _ (HVA.out.ext ((Ext.alloc _ _).trans (Ext.alloc _ _))) (HVB.out.ext ((Ext.alloc _ _).trans (Ext.alloc _ _)))).mono ?_; rintro e w' ⟨rfl, x1, rfl⟩) | ((with_reducible show wpList _ _ _ (Oper.mk none (Op.store 28 _ _) _ _ _ _ :: _) _ _); with_reducible refine wpList_st_row rfl rfl 28 _ _ rfl (w.heap.size + 1 + 1 + x1.blocks.size) ((cf.map V8).toArray) rfl rfl 28 (z8) (hp_at _ _ _ (by simp)) (HZ.out) (HZ8.out) (all_V8 _) (by rewrite [setRow_at _ _ _ _ _ _ (by simp [more_size] <;> omega)]; rfl) ?_))
  have hx2 : Ext w ((more ((w.alloc (.cells (ks.map V8).toArray 23)).alloc (.cells (nc.map V8).toArray 24)) x1).alloc (.cells (cf.map V8).toArray 28)) := (((Ext.alloc _ _).trans (Ext.alloc _ _)).trans (Ext.more _ _)).trans (Ext.alloc _ _)
  have hk2 : ((more ((w.alloc (.cells (ks.map V8).toArray 23)).alloc (.cells (nc.map V8).toArray 24)) x1).alloc (.cells (cf.map V8).toArray 28)).heap[w.heap.size]? = some (.cells (ks.map V8).toArray 23 (0, 0)) := hp_alloc (hp_more (hp_alloc (hp_new _ _)))
  have hn2 : ((more ((w.alloc (.cells (ks.map V8).toArray 23)).alloc (.cells (nc.map V8).toArray 24)) x1).alloc (.cells (cf.map V8).toArray 28)).heap[w.heap.size + 1]? = some (.cells (nc.map V8).toArray 24 (0, 0)) := hp_alloc (hp_more (hp_at _ _ _ (by simp)))
  have hc2 : ((more ((w.alloc (.cells (ks.map V8).toArray 23)).alloc (.cells (nc.map V8).toArray 24)) x1).alloc (.cells (cf.map V8).toArray 28)).heap[w.heap.size + 1 + 1 + x1.blocks.size]? = some (.cells (cf.map V8).toArray 28 (0, 0)) := hp_at _ _ _ (by simp)
  generalize (more ((w.alloc (.cells (ks.map V8).toArray 23)).alloc (.cells (nc.map V8).toArray 24)) x1).alloc (.cells (cf.map V8).toArray 28) = W2 at *
  obtain ⟨C, hC⟩ : ∃ C, C = w.heap.size + 1 + 1 + x1.blocks.size := ⟨_, rfl⟩
  rw [← hC] at hc2 ⊢
  have HX2 := kp hx2
  have HK2 := kp hk2
  have HN2 := kp hn2
  have HC2 := kp hc2
  have hww : w.heap.size ≤ W2.heap.size := hx2.size
  clear hx2 hk2 hn2 hc2 hC
  subst h4
  go_wp2_with (first | ((with_reducible show wpList _ _ _ (Oper.mk _ (Op.load 23 _) _ _ _ _ :: _) _ _); (with_reducible refine wpList_load_row rfl 23 _ rfl (w.heap.size) rfl 23 ((ks.map V8).toArray) (0, 0) _ (HK2.out) Try.underlying23 rfl (HK.out) ?_); simp only [Act.put, List.setIfInBounds_toArray, List.set_cons_zero, List.set_cons_succ]) | ((with_reducible show wpList _ _ _ (Oper.mk _ (Op.load 24 _) _ _ _ _ :: _) _ _); (with_reducible refine wpList_load_row rfl 24 _ rfl (w.heap.size + 1) rfl 24 ((nc.map V8).toArray) (0, 0) _ (HN2.out) Try.underlying24 rfl (HN.out) ?_); simp only [Act.put, List.setIfInBounds_toArray, List.set_cons_zero, List.set_cons_succ]))
  refine (HCR.out _ _ (HVB.out.ext HX2.out)).mono ?_
  rintro e w3 ⟨v3, rfl, ho3, hx3⟩
  have HO3 := kp ho3
  have HX3 := kp hx3
  have HK3 := kp (ext_heap hx3 HK2.out)
  have HN3 := kp (ext_heap hx3 HN2.out)
  have HC3 := kp (ext_heap hx3 HC2.out)
  obtain ⟨a3, c3, hv3⟩ := (SlB.of_owns ho3).form
  rw [HFL.out] at hv3
  subst hv3
  clear ho3 hx3
  go_wp2_with (first | ((with_reducible show wpList _ _ _ (Oper.mk _ (Op.load 23 _) _ _ _ _ :: _) _ _); (with_reducible refine wpList_load_row rfl 23 _ rfl (w.heap.size) rfl 23 ((ks.map V8).toArray) (0, 0) _ (HK3.out) Try.underlying23 rfl (HK.out) ?_); simp only [Act.put, List.setIfInBounds_toArray, List.set_cons_zero, List.set_cons_succ]) | ((with_reducible show wpList _ _ _ (Oper.mk _ (Op.load 24 _) _ _ _ _ :: _) _ _); (with_reducible refine wpList_load_row rfl 24 _ rfl (w.heap.size + 1) rfl 24 ((nc.map V8).toArray) (0, 0) _ (HN3.out) Try.underlying24 rfl (HN.out) ?_); simp only [Act.put, List.setIfInBounds_toArray, List.set_cons_zero, List.set_cons_succ]))
  refine (HST.out _).mono ?_
  rintro e w4 ⟨rfl, hx4⟩
  have HX4 := kp ((HX3.out.trans hx4).trans (Ext.alloc _ (.cells (S.map V8).toArray 38)))
  have HO4 := kp (owns_ext HO3.out (hx4.trans (Ext.alloc _ (.cells (S.map V8).toArray 38))))
  have HC4 := kp (hp_alloc (o' := .cells (S.map V8).toArray 38) (ext_heap hx4 HC3.out))
  have HD4 := kp (hp_new w4 (.cells (S.map V8).toArray 38))
  clear hx4 HK2 HN2 HC2 HK3 HN3 HC3 HO3 HX3
  go_wp2_with ((with_reducible show wpList _ _ _ (Oper.mk none (Op.store 38 _ _) _ _ _ _ :: _) _ _); with_reducible refine wpList_st_row rfl rfl 38 _ _ rfl (w4.heap.size) ((S.map V8).toArray) rfl rfl 38 (z16) (hp_new _ _) (HSB.out) (HSZ.out) (all_V8 _) (by rewrite [setRow_at _ _ _ _ _ _ (by simp <;> omega)]; rfl) ?_)
  obtain ⟨D, hD⟩ : ∃ D, D = w4.heap.size := ⟨_, rfl⟩
  rw [← hD] at HD4 ⊢
  generalize w4.alloc (.cells (S.map V8).toArray 38) = W5 at *
  clear hD
  go_loopw [12, 14] (fun o i wr => ∃ (k : Nat) (av : Option Addr) (cv : Nat), k ≤ 8 ∧ i = .int .i64 k ∧ o = .slice av (nb + k) cv ∧ Kp (wr.ownsRow W2.heap.size 5 1 o (bf ++ T.take k).length ((bf ++ T.take k).map V8)) ∧ Kp (Ext W2 wr) ∧ Kp (wr.heap[C]? = some (.cells (cf.map V8).toArray 28 (0, 0))) ∧ Kp (wr.heap[D]? = some (.cells (S.map V8).toArray 38 (0, 0)))) (fun _ i _ => 8 - (intOf i).toNat)
  case atStart => exact ⟨0, _, _, by omega, rfl, rfl, kp (by simpa using HO4.out), HX4, HC4, HD4⟩
  case round =>
    obtain ⟨k, av, cv, hk, rfl, rfl, HOk, HXk, HCk, HDk⟩ := hrel
    by_cases hlt : k < 8
    · obtain ⟨y, hy⟩ : ∃ y, cf[k]? = some y := ⟨cf[k]'(by rw [HCL.out]; exact hlt), by simp⟩
      obtain ⟨z, hz⟩ : ∃ z, S[k]? = some z := ⟨S[k]'(by rw [HSL.out]; omega), by simp⟩
      obtain ⟨u, hu⟩ : ∃ u, T[k]? = some u := ⟨T[k]'(by rw [HML.out]; exact hlt), by simp⟩
      have huv : u = y ^^^ z := by
        have h := HMA.out k hlt
        rw [getElem_getD hu, getElem_getD hy, getElem_getD hz] at h
        exact h
      have HTK := kp (show bf ++ T.take (k + 1) = (bf ++ T.take k) ++ [y ^^^ z] by rw [take_snoc T k u hu, huv, List.append_assoc])
      have cy : wr.cell? ⟨C, k, none⟩ = some (V8 y) := by
        rw [cell_of_row wr C k _ _ _ HCk.out]; simp [hy]
      have cz : wr.cell? ⟨D, k, none⟩ = some (V8 z) := by
        rw [cell_of_row wr D k _ _ _ HDk.out]; simp [hz]
      have hCr : C < wr.heap.size := by have := HCk.out; rw [Array.getElem?_eq_some_iff] at this; exact this.1
      have hDr : D < wr.heap.size := by have := HDk.out; rw [Array.getElem?_eq_some_iff] at this; exact this.1
      have hWr : W2.heap.size ≤ wr.heap.size := HXk.out.size
      have HLT := kp (show (bf ++ T.take k).length = nb + k by rw [List.length_append, HFL.out, List.length_take, HML.out]; omega)
      have HLE := kp (show (bf ++ T.take k).length + [y ^^^ z].length ≤ 1000000 by rw [HLT.out]; simp; omega)
      have HOS := kp (fun x => owns_ext HOk.out (Ext.more wr x))
      clear hy hz hu huv
      go_wp2_with fail
      refine region_spine0 (tabS [(37, fun v _ => v = .slice av (nb + k) cv), (38, fun v _ => v = .int .i64 k), (39, fun v _ => v = .pointer (some ⟨C, k, none⟩)), (40, fun v _ => v = V8 y), (41, fun v _ => v = .int .i64 k), (42, fun v _ => v = .pointer (some ⟨D, k, none⟩)), (43, fun v _ => v = V8 z), (44, fun v _ => v = V8 (y ^^^ z)), (45, fun v w => SlB w v [y ^^^ z])]) (tabS_mono _ (by simp only [List.forall_mem_cons]; exact ⟨mono_eq _, mono_eq _, mono_eq _, mono_eq _, mono_eq _, mono_eq _, mono_eq _, mono_eq _, mono_SlB _, by simp⟩)) 9 (by kernel_rfl) (by kernel_rfl) (by kernel_rfl) (by kernel_rfl) (by decide) (Nat.le_of_ble_eq_true (by kernel_rfl)) (by kernel_rfl) (wr) (.inl rfl) ?_
      simp only [List.take_succ_cons, List.take_zero]
      refine ⟨fun wv37 hwv37 hSv37 => ?_, fun v37 => ?_⟩
      · obtain ⟨xv37, rfl⟩ := hwv37
        clear hSv37
        go_wp2_with fail
        exact ⟨rfl, _, rfl, fun d hd => by cases hd; exact rfl, Ext.refl _⟩
      simp only [Act.put, List.setIfInBounds_toArray, List.set_cons_zero, List.set_cons_succ]
      refine ⟨fun wv38 hwv38 hSv38 => ?_, fun v38 => ?_⟩
      · obtain ⟨xv38, rfl⟩ := hwv38
        clear hSv38
        go_wp2_with fail
        exact ⟨rfl, _, rfl, fun d hd => by cases hd; exact rfl, Ext.refl _⟩
      simp only [Act.put, List.setIfInBounds_toArray, List.set_cons_zero, List.set_cons_succ]
      refine ⟨fun wv39 hwv39 hSv39 => ?_, fun v39 => ?_⟩
      · obtain ⟨xv39, rfl⟩ := hwv39
        obtain rfl : v38 = .int .i64 k := hSv39 38 (by decide) (by decide)
        clear hSv39
        go_wp2_with fail
        exact ⟨rfl, _, rfl, fun d hd => by cases hd; exact rfl, Ext.refl _⟩
      simp only [Act.put, List.setIfInBounds_toArray, List.set_cons_zero, List.set_cons_succ]
      refine ⟨fun wv40 hwv40 hSv40 => ?_, fun v40 => ?_⟩
      · obtain ⟨xv40, rfl⟩ := hwv40
        obtain rfl : v39 = .pointer (some ⟨C, k, none⟩) := hSv40 39 (by decide) (by decide)
        clear hSv40
        go_wp2_with fail
        exact ⟨rfl, _, rfl, fun d hd => by cases hd; exact rfl, Ext.refl _⟩
      simp only [Act.put, List.setIfInBounds_toArray, List.set_cons_zero, List.set_cons_succ]
      refine ⟨fun wv41 hwv41 hSv41 => ?_, fun v41 => ?_⟩
      · obtain ⟨xv41, rfl⟩ := hwv41
        clear hSv41
        go_wp2_with fail
        exact ⟨rfl, _, rfl, fun d hd => by cases hd; exact rfl, Ext.refl _⟩
      simp only [Act.put, List.setIfInBounds_toArray, List.set_cons_zero, List.set_cons_succ]
      refine ⟨fun wv42 hwv42 hSv42 => ?_, fun v42 => ?_⟩
      · obtain ⟨xv42, rfl⟩ := hwv42
        obtain rfl : v41 = .int .i64 k := hSv42 41 (by decide) (by decide)
        clear hSv42
        go_wp2_with fail
        exact ⟨rfl, _, rfl, fun d hd => by cases hd; exact rfl, Ext.refl _⟩
      simp only [Act.put, List.setIfInBounds_toArray, List.set_cons_zero, List.set_cons_succ]
      refine ⟨fun wv43 hwv43 hSv43 => ?_, fun v43 => ?_⟩
      · obtain ⟨xv43, rfl⟩ := hwv43
        obtain rfl : v42 = .pointer (some ⟨D, k, none⟩) := hSv43 42 (by decide) (by decide)
        clear hSv43
        go_wp2_with fail
        exact ⟨rfl, _, rfl, fun d hd => by cases hd; exact rfl, Ext.refl _⟩
      simp only [Act.put, List.setIfInBounds_toArray, List.set_cons_zero, List.set_cons_succ]
      refine ⟨fun wv44 hwv44 hSv44 => ?_, fun v44 => ?_⟩
      · obtain ⟨xv44, rfl⟩ := hwv44
        obtain rfl : v40 = V8 y := hSv44 40 (by decide) (by decide)
        obtain rfl : v43 = V8 z := hSv44 43 (by decide) (by decide)
        clear hSv44
        go_wp2_with fail
        exact ⟨rfl, _, rfl, fun d hd => by cases hd; exact rfl, Ext.refl _⟩
      simp only [Act.put, List.setIfInBounds_toArray, List.set_cons_zero, List.set_cons_succ]
      refine ⟨fun wv45 hwv45 hSv45 => ?_, fun v45 => ?_⟩
      · obtain ⟨xv45, rfl⟩ := hwv45
        obtain rfl : v44 = V8 (y ^^^ z) := hSv45 44 (by decide) (by decide)
        clear hSv45
        go_wp2_with fail
        exact ⟨rfl, _, rfl, fun d hd => by cases hd; exact SlB.of_block (l := [y ^^^ z]) (hp_at _ _ _ (by simp)), Ext.alloc _ _⟩
      simp only [Act.put, List.setIfInBounds_toArray, List.set_cons_zero, List.set_cons_succ]
      intro x9 hfin
      have h45 : SlB (more wr x9) v45 [y ^^^ z] := hfin 45 (by decide)
      obtain rfl : v37 = .slice av (nb + k) cv := hfin 37 (by decide)
      have H45 := kp h45
      obtain ⟨a7, c7, rfl⟩ := h45.form
      clear hfin h45
      simp only [List.drop_succ_cons, List.drop_zero]
      go_wp2_with (at_builtin; refine wpList_append_SlB rfl _ _ 25 rfl W2.heap.size 5 iu Try.underlying25 HIU.out HU.out.1 HU.out.2.1 HU.out.2.2 (.slice av (nb + k) cv) (bf ++ T.take k) rfl (HOS.out x9) _ [y ^^^ z] rfl H45.out HLE.out (by simp <;> omega) ?_; intro v3 w3 ho3 hg3; rw [← HTK.out] at ho3; obtain ⟨a8, c8, h8⟩ := (SlB.of_owns ho3).form; rw [show (bf ++ T.take (k + 1)).length = nb + (k + 1) by rw [List.length_append, HFL.out, List.length_take, HML.out]; omega] at h8; have HO3 := kp ho3; have HG3 := kp hg3; clear ho3 hg3; subst h8)
      have HX9 := kp ((HXk.out.trans (Ext.more wr x9)).grown HG3.out (fun q hq => owns_block HOk.out q hq))
      have HC9 := kp ((HG3.out.block _ (by simp; omega) (owns_other (HOS.out x9) (hp_more HCk.out) (by decide))).trans (hp_more HCk.out))
      have HD9 := kp ((HG3.out.block _ (by simp; omega) (owns_other (HOS.out x9) (hp_more HDk.out) (by decide))).trans (hp_more HDk.out))
      go_roundw
      case rel => exact ⟨k + 1, _, _, by omega, by go_num, rfl, HO3, HX9, HC9, HD9⟩
      case measure => simp [intOf]; omega
    · obtain rfl : k = 8 := by omega
      have HTE := kp (show bf ++ T.take 8 = sf by rw [HF.out, List.take_of_length_le (by rw [HML.out]; exact Nat.le_refl _)])
      have h9 := HOk.out
      rw [HTE.out] at h9
      have HO9 := kp (owns_base (base' := w.heap.size) h9 hww)
      clear h9
      go_wp2_with fail
      refine bodyPost_ret (v := .tuple #[.slice av (nb + 8) cv, .int .i64 0]) (by simp [results, Try.results16, go_sem]) rfl ⟨_, rfl, HO9.out, HX2.out.trans HXk.out⟩

theorem seal_open (ks nc ad text : List (BitVec 8)) : (sealF ks nc ad (openB ks nc text) == text) = openOk ks nc ad text := by
  unfold openOk
  rw [Bool.eq_iff_iff, beq_iff_eq, beq_iff_eq, sealF]
  constructor
  · intro h
    have h2 := congrArg (List.drop (text.length - 8)) h
    rw [List.drop_left' (by rw [cryptF_len, openB_len])] at h2
    exact h2
  · intro h
    rw [h, openB, cryptF_cryptF, List.take_append_drop]
set_option maxHeartbeats 1600000 in
theorem ropen_many (ks nc : List (BitVec 8)) (aa ab : Option Addr) (na ca nb cb : Nat) (ho : 256 < na ∨ 4104 < nb) (w : World) :
    Calls Try.prog 21 #[.agg (ks.map V8).toArray, .agg (nc.map V8).toArray, .slice aa na ca, .slice ab nb cb] w (RetO2 [] 4 w) := by
  by_cases h1 : 256 < (na : Int)
  case pos =>
    go_enter Try.func21, Try.ntmps21
    go_wp2_with fail
    refine bodyPost_ret (v := .tuple #[.slice none 0 0, .int .i64 4]) (by simp [results, Try.results21, go_sem]) rfl ⟨_, rfl, owns_nil _ _ _, (Ext.alloc _ _).trans (Ext.alloc _ _)⟩
  case neg =>
    have h2 : 4104 < (nb : Int) := by omega
    go_enter Try.func21, Try.ntmps21
    go_wp2_with fail
    refine bodyPost_ret (v := .tuple #[.slice none 0 0, .int .i64 4]) (by simp [results, Try.results21, go_sem]) rfl ⟨_, rfl, owns_nil _ _ _, (Ext.alloc _ _).trans (Ext.alloc _ _)⟩
set_option maxHeartbeats 1600000 in
theorem ropen_short (ks nc : List (BitVec 8)) (aa ab : Option Addr) (na ca nb cb : Nat) (ha : na ≤ 256) (ho : nb < 8) (w : World) :
    Calls Try.prog 21 #[.agg (ks.map V8).toArray, .agg (nc.map V8).toArray, .slice aa na ca, .slice ab nb cb] w (RetO2 [] 10 w) := by
  have h1 : ¬ 256 < (na : Int) := by omega
  have h2 : ¬ 4104 < (nb : Int) := by omega
  have h3 : (nb : Int) < 8 := by omega
  go_enter Try.func21, Try.ntmps21
  go_wp2_with fail
  refine bodyPost_ret (v := .tuple #[.slice none 0 0, .int .i64 10]) (by simp [results, Try.results21, go_sem]) rfl ⟨_, rfl, owns_nil _ _ _, (Ext.alloc _ _).trans (Ext.alloc _ _)⟩
/-- The post of a function that returns a slice of bytes and a number. -/
def RetB2 (l : List (BitVec 8)) (n : Int) (w : World) (e : Ending) (w' : World) : Prop := ∃ v, e = .returned (.tuple #[v, .int .i64 n]) ∧ SlB w' v l ∧ Ext w w'
theorem RetO2.b {l : List (BitVec 8)} {n : Int} {w : World} {e : Ending} {w' : World} (h : RetO2 l n w e w') : RetB2 l n w e w' := by
  obtain ⟨v, h1, h2, h3⟩ := h; exact ⟨v, h1, SlB.of_owns h2, h3⟩
set_option maxHeartbeats 3200000 in
theorem ropen_any (ks nc : List (BitVec 8)) (hk : ks.length = 16) (hc : nc.length = 13) (va vb : Value) (ad text : List (BitVec 8)) (ha : ad.length ≤ 256) (hb : text.length ≤ 4104) (h8 : 8 ≤ text.length) (w : World) (hva : SlB w va ad) (hvb : SlB w vb text) (hcb : CapOk vb) :
    Calls Try.prog 21 #[.agg (ks.map V8).toArray, .agg (nc.map V8).toArray, va, vb] w (RetB2 (if openOk ks nc ad text then openB ks nc text else []) (if openOk ks nc ad text then 0 else 31) w) := by
  obtain ⟨aa, ca, rfl⟩ := hva.form
  obtain ⟨bb, ob, cb, hvf, hbw, _⟩ : ∃ bb ob cb, vb = .slice (some ⟨bb, ob, none⟩) text.length cb ∧ bb < w.heap.size ∧ ∀ (j : Nat) x, text[j]? = some x → w.cell? ⟨bb, ob + j, none⟩ = some (V8 x) := by
    rcases hvb with ⟨h, _⟩ | h
    · subst h; simp at h8
    · exact h
  subst hvf
  have hcap : text.length ≤ cb := hcb _ _ _ rfl
  have HVB := kp hvb
  have HVA := kp hva
  obtain ⟨n, hn⟩ : ∃ n, n = text.length - 8 := ⟨_, rfl⟩
  have HTK := kp (show SlB w (.slice (some ⟨bb, ob, none⟩) n cb) (text.take n) from hvb.take (by omega) (fun h => by cases h))
  have HK := kp (sizeK ks hk)
  have HN := kp (sizeN nc hc)
  have HB := kp (show openB ks nc text = cryptF ks nc (text.take n) by rw [openB, hn])
  have HCR := kp (fun v w h => rcrypt_any ks nc (text.take n) hk hc (by rw [List.length_take]; omega) v w h)
  rw [← HB.out] at HCR
  have HS := kp (fun v w (h1 : SlB w (.slice aa ad.length ca) ad) (h2 : SlB w v (openB ks nc text)) => rseal_ok ks nc hk hc _ _ ad (openB ks nc text) ha (by rw [openB_len]; omega) w h1 h2)
  have HSO := kp (seal_open ks nc ad text)
  have HSL := kp (show (sealF ks nc ad (openB ks nc text)).length ≤ 1000000000 by rw [sealF_len, openB_len]; omega)
  have h1 : ¬ 256 < (ad.length : Int) := by omega
  have h2 : ¬ 4104 < (text.length : Int) := by omega
  have h3 : ¬ (text.length : Int) < 8 := by omega
  have hsub : (text.length : Int) - 8 = n := by omega
  have hnm : n ≤ text.length := by omega
  generalize openOk ks nc ad text = ok at *
  clear hva hvb hcb hk hc hn
  obtain ⟨m, hm⟩ : ∃ m, m = text.length := ⟨_, rfl⟩
  rw [← hm] at hb h8 hcap hsub hnm h2 h3 HVB ⊢
  clear hm
  obtain ⟨RB, hRB⟩ : ∃ RB, RB = (if ok = true then openB ks nc text else []) := ⟨_, rfl⟩
  obtain ⟨RE, hRE⟩ : ∃ RE : Int, RE = (if ok = true then 0 else 31) := ⟨_, rfl⟩
  rw [← hRB, ← hRE]
  have HRB := kp hRB
  have HRE := kp hRE
  clear hRB hRE
  go_enter Try.func21, Try.ntmps21
  go_wp2_with fail
  refine region_spine0 (tabS [(24, fun v _ => v = .agg (ks.map V8).toArray), (25, fun v _ => v = .agg (nc.map V8).toArray), (26, fun v _ => v = .slice (some ⟨bb, ob, none⟩) m cb), (27, fun v _ => v = .slice (some ⟨bb, ob, none⟩) m cb), (28, fun v _ => v = .int .i64 m), (29, fun v _ => v = .int .i64 n), (30, fun v _ => v = .slice (some ⟨bb, ob, none⟩) n cb), (31, fun v w => SlB w v (openB ks nc text)), (10, fun v w => SlB w v (openB ks nc text))]) (tabS_mono _ (by simp only [List.forall_mem_cons]; exact ⟨mono_eq _, mono_eq _, mono_eq _, mono_eq _, mono_eq _, mono_eq _, mono_eq _, mono_SlB _, mono_SlB _, by simp⟩)) 9 (by kernel_rfl) (by kernel_rfl) (by kernel_rfl) (by kernel_rfl) (by decide) (Nat.le_of_ble_eq_true (by kernel_rfl)) (by kernel_rfl) (((w.alloc (.cells (ks.map V8).toArray 23)).alloc (.cells (nc.map V8).toArray 24))) (.inl rfl) ?_
  simp only [List.take_succ_cons, List.take_zero]
  refine ⟨fun wv24 hwv24 hSv24 => ?_, fun v24 => ?_⟩
  · obtain ⟨xv24, rfl⟩ := hwv24
    clear hSv24
    go_wp2_with ((with_reducible show wpList _ _ _ (Oper.mk _ (Op.load 23 _) _ _ _ _ :: _) _ _); (with_reducible refine wpList_load_row rfl 23 _ rfl (w.heap.size) rfl 23 ((ks.map V8).toArray) (0, 0) _ (hp_more (hp_alloc (hp_new _ _))) Try.underlying23 rfl (HK.out) ?_); simp only [Act.put, List.setIfInBounds_toArray, List.set_cons_zero, List.set_cons_succ])
    exact ⟨rfl, _, rfl, fun d hd => by cases hd; exact rfl, Ext.refl _⟩
  simp only [Act.put, List.setIfInBounds_toArray, List.set_cons_zero, List.set_cons_succ]
  refine ⟨fun wv25 hwv25 hSv25 => ?_, fun v25 => ?_⟩
  · obtain ⟨xv25, rfl⟩ := hwv25
    clear hSv25
    go_wp2_with ((with_reducible show wpList _ _ _ (Oper.mk _ (Op.load 24 _) _ _ _ _ :: _) _ _); (with_reducible refine wpList_load_row rfl 24 _ rfl (w.heap.size + 1) rfl 24 ((nc.map V8).toArray) (0, 0) _ (hp_more (hp_at _ _ _ (by simp))) Try.underlying24 rfl (HN.out) ?_); simp only [Act.put, List.setIfInBounds_toArray, List.set_cons_zero, List.set_cons_succ])
    exact ⟨rfl, _, rfl, fun d hd => by cases hd; exact rfl, Ext.refl _⟩
  simp only [Act.put, List.setIfInBounds_toArray, List.set_cons_zero, List.set_cons_succ]
  refine ⟨fun wv26 hwv26 hSv26 => ?_, fun v26 => ?_⟩
  · obtain ⟨xv26, rfl⟩ := hwv26
    clear hSv26
    go_wp2_with fail
    exact ⟨rfl, _, rfl, fun d hd => by cases hd; exact rfl, Ext.refl _⟩
  simp only [Act.put, List.setIfInBounds_toArray, List.set_cons_zero, List.set_cons_succ]
  refine ⟨fun wv27 hwv27 hSv27 => ?_, fun v27 => ?_⟩
  · obtain ⟨xv27, rfl⟩ := hwv27
    clear hSv27
    go_wp2_with fail
    exact ⟨rfl, _, rfl, fun d hd => by cases hd; exact rfl, Ext.refl _⟩
  simp only [Act.put, List.setIfInBounds_toArray, List.set_cons_zero, List.set_cons_succ]
  refine ⟨fun wv28 hwv28 hSv28 => ?_, fun v28 => ?_⟩
  · obtain ⟨xv28, rfl⟩ := hwv28
    obtain rfl : v27 = .slice (some ⟨bb, ob, none⟩) m cb := hSv28 27 (by decide) (by decide)
    clear hSv28
    go_wp2_with fail
    exact ⟨rfl, _, rfl, fun d hd => by cases hd; exact rfl, Ext.refl _⟩
  simp only [Act.put, List.setIfInBounds_toArray, List.set_cons_zero, List.set_cons_succ]
  refine ⟨fun wv29 hwv29 hSv29 => ?_, fun v29 => ?_⟩
  · obtain ⟨xv29, rfl⟩ := hwv29
    obtain rfl : v28 = .int .i64 m := hSv29 28 (by decide) (by decide)
    clear hSv29
    go_wp2_with fail
    exact ⟨rfl, _, rfl, fun d hd => by cases hd; exact rfl, Ext.refl _⟩
  simp only [Act.put, List.setIfInBounds_toArray, List.set_cons_zero, List.set_cons_succ]
  refine ⟨fun wv30 hwv30 hSv30 => ?_, fun v30 => ?_⟩
  · obtain ⟨xv30, rfl⟩ := hwv30
    obtain rfl : v26 = .slice (some ⟨bb, ob, none⟩) m cb := hSv30 26 (by decide) (by decide)
    obtain rfl : v29 = .int .i64 n := hSv30 29 (by decide) (by decide)
    clear hSv30
    go_wp2_with fail
    exact ⟨rfl, _, rfl, fun d hd => by cases hd; exact rfl, Ext.refl _⟩
  simp only [Act.put, List.setIfInBounds_toArray, List.set_cons_zero, List.set_cons_succ]
  refine ⟨fun wv31 hwv31 hSv31 => ?_, fun v31 => ?_⟩
  · obtain ⟨xv31, rfl⟩ := hwv31
    obtain rfl : v24 = .agg (ks.map V8).toArray := hSv31 24 (by decide) (by decide)
    obtain rfl : v25 = .agg (nc.map V8).toArray := hSv31 25 (by decide) (by decide)
    obtain rfl : v30 = .slice (some ⟨bb, ob, none⟩) n cb := hSv31 30 (by decide) (by decide)
    clear hSv31
    go_wp2_with fail
    refine (HCR.out _ _ (HTK.out.ext (((Ext.alloc _ _).trans (Ext.alloc _ _)).trans (Ext.more _ _)))).mono ?_
    rintro e w' ⟨v, rfl, ho, hx⟩
    have HSL := kp (SlB.of_owns ho)
    have HXL := kp hx
    clear ho hx
    go_wp2_with fail
    exact ⟨rfl, v, rfl, fun d hd => by cases hd; exact HSL.out, HXL.out⟩
  simp only [Act.put, List.setIfInBounds_toArray, List.set_cons_zero, List.set_cons_succ]
  refine ⟨fun wv10 hwv10 hSv10 => ?_, fun v10 => ?_⟩
  · obtain ⟨xv10, rfl⟩ := hwv10
    have h31 := kp (show SlB _ v31 (openB ks nc text) from hSv10 31 (by decide) (by decide))
    clear hSv10
    obtain ⟨a7, c7, rfl⟩ := h31.out.form
    go_wp2_with fail
    exact ⟨rfl, _, rfl, fun d hd => by cases hd; exact h31.out, Ext.refl _⟩
  simp only [Act.put, List.setIfInBounds_toArray, List.set_cons_zero, List.set_cons_succ]
  intro x9 hfin
  have h10 : SlB (more ((w.alloc (.cells (ks.map V8).toArray 23)).alloc (.cells (nc.map V8).toArray 24)) x9) v10 (openB ks nc text) := hfin 10 (by decide)
  have H10 := kp h10
  obtain ⟨a7, c7, rfl⟩ := h10.form
  clear hfin h10
  simp only [List.drop_succ_cons, List.drop_zero]
  go_wp2_with (first | ((with_reducible show wpList _ _ _ (Oper.mk _ (Op.load 23 _) _ _ _ _ :: _) _ _); (with_reducible refine wpList_load_row rfl 23 _ rfl (w.heap.size) rfl 23 ((ks.map V8).toArray) (0, 0) _ (hp_more (hp_alloc (hp_new _ _))) Try.underlying23 rfl (HK.out) ?_); simp only [Act.put, List.setIfInBounds_toArray, List.set_cons_zero, List.set_cons_succ]) | ((with_reducible show wpList _ _ _ (Oper.mk _ (Op.load 24 _) _ _ _ _ :: _) _ _); (with_reducible refine wpList_load_row rfl 24 _ rfl (w.heap.size + 1) rfl 24 ((nc.map V8).toArray) (0, 0) _ (hp_more (hp_at _ _ _ (by simp))) Try.underlying24 rfl (HN.out) ?_); simp only [Act.put, List.setIfInBounds_toArray, List.set_cons_zero, List.set_cons_succ]))
  refine (HS.out _ _ (HVA.out.ext (((Ext.alloc _ _).trans (Ext.alloc _ _)).trans (Ext.more _ _))) H10.out).mono ?_
  rintro e w2 ⟨v2, rfl, ho2, hx2⟩
  have HX2 := kp ((((Ext.alloc _ _).trans (Ext.alloc _ _)).trans (Ext.more _ _)).trans hx2)
  have HS2 := kp (SlB.of_owns ho2)
  have H12 := kp (H10.out.ext hx2)
  obtain ⟨a2, c2, rfl⟩ := (SlB.of_owns ho2).form
  clear ho2 hx2
  go_wp2_with fail
  refine (same22_any HS2.out (HVB.out.ext HX2.out) HSL.out).mono ?_
  rw [HSO.out]
  rintro e w3 ⟨rfl, hx3⟩
  have HX3 := kp (HX2.out.trans hx3)
  have H13 := kp (H12.out.ext hx3)
  clear hx3
  cases ok with
  | true =>
    obtain rfl : RB = openB ks nc text := HRB.out
    obtain rfl : RE = 0 := HRE.out
    go_wp2_with fail
    refine bodyPost_ret (v := .tuple #[.slice a7 (openB ks nc text).length c7, .int .i64 0]) (by simp [results, Try.results21, go_sem]) rfl ⟨_, rfl, H13.out, HX3.out⟩
  | false =>
    obtain rfl : RB = [] := HRB.out
    obtain rfl : RE = 31 := HRE.out
    go_wp2_with fail
    refine bodyPost_ret (v := .tuple #[.slice none 0 0, .int .i64 31]) (by simp [results, Try.results21, go_sem]) rfl ⟨_, rfl, SlB.nil _, HX3.out⟩
end Go.Proofs.Ytnofmppimihjpaa
