/- The reference's functions on rings: In, Twin, Same; counter.Same, slices.Equal. -/
import Derived.Test.YtjnaegpjhbobaaaLaw24f
namespace Go.Proofs.Ytjnaegpjhbobaaa
open Go.RowKit
set_option maxHeartbeats 1600000 in
theorem in_any (ad : Option Addr) (n c : Nat) (ks : Keys16) (hn : n = ks.length) (hl : n ≤ 100000) (k : List (BitVec 8)) (hk : k.length = 16) (w : World) (hs : SlY w (.slice ad n c) ks) :
    Calls Try.prog 49 #[.slice ad n c, .agg (k.map V8).toArray] w fun e w' => e = .returned (.bool (ks.contains k)) ∧ Ext w w' := by
  have HS := kp hs
  have HNL := kp hn
  have HK := kp hk
  have HZK := kp (sizeKy k hk)
  have H := kp (Loc.start w)
  clear hs hn hk
  go_enter Try.func49, Try.ntmps49
  go_wp2_with (first | ((with_reducible show wpList _ _ _ (Oper.mk (some 3) (Op.box 45 _) _ _ _ _ :: _) _ _); (with_reducible refine L_box H rfl 45 _ rfl (k.map V8) rfl ?_); clear H; intro g3 w3 HGg3 HEg3 H; simp only [Act.put, List.setIfInBounds_toArray, List.set_cons_zero, List.set_cons_succ]))
  go_loopw [5] (fun i wr => ∃ j : Nat, j ≤ n ∧ i = .int .i64 j ∧ Kp ((ks.take j).contains k = false) ∧ Kp (Loc w wr [(g3, 45, k.map V8)])) (fun i _ => n - (intOf i).toNat)
  case atStart => exact ⟨0, by omega, rfl, kp rfl, H⟩
  case round =>
    obtain ⟨j, hj, rfl, HT, H⟩ := hrel
    by_cases hlt : j < n
    · obtain ⟨q, hq⟩ : ∃ q, ks[j]? = some q := ⟨ks[j]'(by rw [← HNL.out]; omega), by simp⟩
      obtain ⟨hq16, b, off, rfl, hb, hr⟩ := HS.out.at j q hq
      have HB := kp hb
      have HR := kp hr
      have HY := kp hq
      have HZQ := kp (sizeKl q hq16)
      have heq := fun w => eqKey w q k hq16 HK.out
      clear hb hr hq hq16
      cases he : (q == k) with
      | false =>
        rw [he] at heq
        have HO := kp (contains_take ks j k q HY.out HT.out (by rw [Bool.eq_false_iff] at he ⊢; intro h; simp at h; simp [h] at he))
        clear he
        go_wp2_with fail
        refine region_free H (tabS [(12, fun zv _ => zv = .slice (some ⟨b, off, none⟩) n c), (13, fun zv _ => zv = .int .i64 j), (14, fun zv _ => zv = .pointer (some ⟨b, off + j * 16, none⟩)), (15, fun zv _ => zv = .agg (q.map V8).toArray), (16, fun zv _ => zv = .agg (k.map V8).toArray), (17, fun zv _ => zv = .bool false)]) [] (tabS_out _ _ (by simp only [List.forall_mem_cons]; exact ⟨mono_eqO _ _, mono_eqO _ _, mono_eqO _ _, mono_eqO _ _, mono_eqO _ _, mono_eqO _ _, by simp⟩)) 6 (by kernel_rfl) (by kernel_rfl) (by kernel_rfl) (by kernel_rfl) [] [] rfl rfl (by decide) (by decide) (by decide) trivial ?_
        simp only [List.take_succ_cons, List.take_zero]
        refine ⟨fun wv12 hov12 hSv12 => ?_, fun v12 => ?_⟩
        · clear hSv12
          clear hov12
          go_wp2_with fail
          exact ⟨rfl, _, rfl, fun d hd => by cases hd; exact rfl, Ext.refl _⟩
        simp only [Act.put, List.setIfInBounds_toArray, List.set_cons_zero, List.set_cons_succ]
        refine ⟨fun wv13 hov13 hSv13 => ?_, fun v13 => ?_⟩
        · clear hSv13
          clear hov13
          go_wp2_with fail
          exact ⟨rfl, _, rfl, fun d hd => by cases hd; exact rfl, Ext.refl _⟩
        simp only [Act.put, List.setIfInBounds_toArray, List.set_cons_zero, List.set_cons_succ]
        refine ⟨fun wv14 hov14 hSv14 => ?_, fun v14 => ?_⟩
        · obtain rfl : v12 = .slice (some ⟨b, off, none⟩) n c := hSv14 12 (by decide) (by decide)
          obtain rfl : v13 = .int .i64 j := hSv14 13 (by decide) (by decide)
          clear hSv14
          clear hov14
          go_wp2_with fail
          exact ⟨rfl, _, rfl, fun d hd => by cases hd; exact rfl, Ext.refl _⟩
        simp only [Act.put, List.setIfInBounds_toArray, List.set_cons_zero, List.set_cons_succ]
        refine ⟨fun wv15 hov15 hSv15 => ?_, fun v15 => ?_⟩
        · obtain rfl : v14 = .pointer (some ⟨b, off + j * 16, none⟩) := hSv15 14 (by decide) (by decide)
          clear hSv15
          have H := kp (H.out.keep [0] (St := []) trivial hov15 (by decide) (by kernel_rfl))
          have HOX := kp hov15
          clear hov15
          have HR3 := kp (rangeAt_ext HR.out HB.out H.out.1)
          go_wp2_with ((with_reducible show wpList _ _ _ (Oper.mk _ (Op.load 45 _) _ _ _ _ :: _) _ _); (with_reducible refine wpList_load_mid rfl 45 _ rfl (b) (off + j * 16) rfl (q.map V8) _ (HR3.out) Try.underlying45 rfl (HZQ.out) ?_); simp only [Act.put, List.setIfInBounds_toArray, List.set_cons_zero, List.set_cons_succ])
          exact ⟨rfl, _, rfl, fun d hd => by cases hd; exact rfl, Ext.refl _⟩
        simp only [Act.put, List.setIfInBounds_toArray, List.set_cons_zero, List.set_cons_succ]
        refine ⟨fun wv16 hov16 hSv16 => ?_, fun v16 => ?_⟩
        · clear hSv16
          have H := kp (H.out.keep [0] (St := []) trivial hov16 (by decide) (by kernel_rfl))
          have HOX := kp hov16
          clear hov16
          go_wp2_with ((with_reducible show wpList _ _ _ (Oper.mk _ (Op.load 45 _) _ _ _ _ :: _) _ _); (first | (refine L_load H rfl 45 _ rfl 0 rfl rfl Try.underlying45 rfl (HZK.out) ?_) | (refine L_load H rfl 45 _ rfl 1 rfl rfl Try.underlying45 rfl (HZK.out) ?_) | (refine L_load H rfl 45 _ rfl 2 rfl rfl Try.underlying45 rfl (HZK.out) ?_) | (refine L_load H rfl 45 _ rfl 3 rfl rfl Try.underlying45 rfl (HZK.out) ?_) | (refine L_load H rfl 45 _ rfl 4 rfl rfl Try.underlying45 rfl (HZK.out) ?_) | (refine L_load H rfl 45 _ rfl 5 rfl rfl Try.underlying45 rfl (HZK.out) ?_)); simp only [Act.put, List.setIfInBounds_toArray, List.set_cons_zero, List.set_cons_succ])
          exact ⟨rfl, _, rfl, fun d hd => by cases hd; exact rfl, Ext.refl _⟩
        simp only [Act.put, List.setIfInBounds_toArray, List.set_cons_zero, List.set_cons_succ]
        refine ⟨fun wv17 hov17 hSv17 => ?_, fun v17 => ?_⟩
        · obtain rfl : v15 = .agg (q.map V8).toArray := hSv17 15 (by decide) (by decide)
          obtain rfl : v16 = .agg (k.map V8).toArray := hSv17 16 (by decide) (by decide)
          clear hSv17
          clear hov17
          go_wp2_with fail
          exact ⟨rfl, _, rfl, fun d hd => by cases hd; exact rfl, Ext.refl _⟩
        simp only [Act.put, List.setIfInBounds_toArray, List.set_cons_zero, List.set_cons_succ]
        clear H
        intro wn HOX H hfin
        obtain rfl : v12 = .slice (some ⟨b, off, none⟩) n c := hfin 12 (by decide)
        obtain rfl : v13 = .int .i64 j := hfin 13 (by decide)
        obtain rfl : v14 = .pointer (some ⟨b, off + j * 16, none⟩) := hfin 14 (by decide)
        obtain rfl : v15 = .agg (q.map V8).toArray := hfin 15 (by decide)
        obtain rfl : v16 = .agg (k.map V8).toArray := hfin 16 (by decide)
        obtain rfl : v17 = .bool false := hfin 17 (by decide)
        clear hfin
        simp only [List.drop_succ_cons, List.drop_zero]
        simp only [applyS] at H
        have HXN := kp (HOX.out.ext (Ext.refl wr) (fun g hg => by cases hg))
        go_wp2_with fail
        go_roundw
        case rel => exact ⟨j + 1, by omega, by go_num, HO, H⟩
        case measure => simp [intOf]; omega
      | true =>
        rw [he] at heq
        have HO := kp (show ks.contains k = true by
          have h : q = k := by simpa using he
          rw [List.contains_iff_mem, ← h]; exact List.mem_of_getElem? HY.out)
        clear he
        go_wp2_with fail
        refine region_free H (tabS [(12, fun zv _ => zv = .slice (some ⟨b, off, none⟩) n c), (13, fun zv _ => zv = .int .i64 j), (14, fun zv _ => zv = .pointer (some ⟨b, off + j * 16, none⟩)), (15, fun zv _ => zv = .agg (q.map V8).toArray), (16, fun zv _ => zv = .agg (k.map V8).toArray), (17, fun zv _ => zv = .bool true)]) [] (tabS_out _ _ (by simp only [List.forall_mem_cons]; exact ⟨mono_eqO _ _, mono_eqO _ _, mono_eqO _ _, mono_eqO _ _, mono_eqO _ _, mono_eqO _ _, by simp⟩)) 6 (by kernel_rfl) (by kernel_rfl) (by kernel_rfl) (by kernel_rfl) [] [] rfl rfl (by decide) (by decide) (by decide) trivial ?_
        simp only [List.take_succ_cons, List.take_zero]
        refine ⟨fun wv12 hov12 hSv12 => ?_, fun v12 => ?_⟩
        · clear hSv12
          clear hov12
          go_wp2_with fail
          exact ⟨rfl, _, rfl, fun d hd => by cases hd; exact rfl, Ext.refl _⟩
        simp only [Act.put, List.setIfInBounds_toArray, List.set_cons_zero, List.set_cons_succ]
        refine ⟨fun wv13 hov13 hSv13 => ?_, fun v13 => ?_⟩
        · clear hSv13
          clear hov13
          go_wp2_with fail
          exact ⟨rfl, _, rfl, fun d hd => by cases hd; exact rfl, Ext.refl _⟩
        simp only [Act.put, List.setIfInBounds_toArray, List.set_cons_zero, List.set_cons_succ]
        refine ⟨fun wv14 hov14 hSv14 => ?_, fun v14 => ?_⟩
        · obtain rfl : v12 = .slice (some ⟨b, off, none⟩) n c := hSv14 12 (by decide) (by decide)
          obtain rfl : v13 = .int .i64 j := hSv14 13 (by decide) (by decide)
          clear hSv14
          clear hov14
          go_wp2_with fail
          exact ⟨rfl, _, rfl, fun d hd => by cases hd; exact rfl, Ext.refl _⟩
        simp only [Act.put, List.setIfInBounds_toArray, List.set_cons_zero, List.set_cons_succ]
        refine ⟨fun wv15 hov15 hSv15 => ?_, fun v15 => ?_⟩
        · obtain rfl : v14 = .pointer (some ⟨b, off + j * 16, none⟩) := hSv15 14 (by decide) (by decide)
          clear hSv15
          have H := kp (H.out.keep [0] (St := []) trivial hov15 (by decide) (by kernel_rfl))
          have HOX := kp hov15
          clear hov15
          have HR3 := kp (rangeAt_ext HR.out HB.out H.out.1)
          go_wp2_with ((with_reducible show wpList _ _ _ (Oper.mk _ (Op.load 45 _) _ _ _ _ :: _) _ _); (with_reducible refine wpList_load_mid rfl 45 _ rfl (b) (off + j * 16) rfl (q.map V8) _ (HR3.out) Try.underlying45 rfl (HZQ.out) ?_); simp only [Act.put, List.setIfInBounds_toArray, List.set_cons_zero, List.set_cons_succ])
          exact ⟨rfl, _, rfl, fun d hd => by cases hd; exact rfl, Ext.refl _⟩
        simp only [Act.put, List.setIfInBounds_toArray, List.set_cons_zero, List.set_cons_succ]
        refine ⟨fun wv16 hov16 hSv16 => ?_, fun v16 => ?_⟩
        · clear hSv16
          have H := kp (H.out.keep [0] (St := []) trivial hov16 (by decide) (by kernel_rfl))
          have HOX := kp hov16
          clear hov16
          go_wp2_with ((with_reducible show wpList _ _ _ (Oper.mk _ (Op.load 45 _) _ _ _ _ :: _) _ _); (first | (refine L_load H rfl 45 _ rfl 0 rfl rfl Try.underlying45 rfl (HZK.out) ?_) | (refine L_load H rfl 45 _ rfl 1 rfl rfl Try.underlying45 rfl (HZK.out) ?_) | (refine L_load H rfl 45 _ rfl 2 rfl rfl Try.underlying45 rfl (HZK.out) ?_) | (refine L_load H rfl 45 _ rfl 3 rfl rfl Try.underlying45 rfl (HZK.out) ?_) | (refine L_load H rfl 45 _ rfl 4 rfl rfl Try.underlying45 rfl (HZK.out) ?_) | (refine L_load H rfl 45 _ rfl 5 rfl rfl Try.underlying45 rfl (HZK.out) ?_)); simp only [Act.put, List.setIfInBounds_toArray, List.set_cons_zero, List.set_cons_succ])
          exact ⟨rfl, _, rfl, fun d hd => by cases hd; exact rfl, Ext.refl _⟩
        simp only [Act.put, List.setIfInBounds_toArray, List.set_cons_zero, List.set_cons_succ]
        refine ⟨fun wv17 hov17 hSv17 => ?_, fun v17 => ?_⟩
        · obtain rfl : v15 = .agg (q.map V8).toArray := hSv17 15 (by decide) (by decide)
          obtain rfl : v16 = .agg (k.map V8).toArray := hSv17 16 (by decide) (by decide)
          clear hSv17
          clear hov17
          go_wp2_with fail
          exact ⟨rfl, _, rfl, fun d hd => by cases hd; exact rfl, Ext.refl _⟩
        simp only [Act.put, List.setIfInBounds_toArray, List.set_cons_zero, List.set_cons_succ]
        clear H
        intro wn HOX H hfin
        obtain rfl : v12 = .slice (some ⟨b, off, none⟩) n c := hfin 12 (by decide)
        obtain rfl : v13 = .int .i64 j := hfin 13 (by decide)
        obtain rfl : v14 = .pointer (some ⟨b, off + j * 16, none⟩) := hfin 14 (by decide)
        obtain rfl : v15 = .agg (q.map V8).toArray := hfin 15 (by decide)
        obtain rfl : v16 = .agg (k.map V8).toArray := hfin 16 (by decide)
        obtain rfl : v17 = .bool true := hfin 17 (by decide)
        clear hfin
        simp only [List.drop_succ_cons, List.drop_zero]
        simp only [applyS] at H
        have HXN := kp (HOX.out.ext (Ext.refl wr) (fun g hg => by cases hg))
        go_wp2_with fail
        go_ret
        exact ⟨congrArg (fun z => Ending.returned (.bool z)) HO.out.symm, H.out.1⟩
    · obtain rfl : j = n := by omega
      have HO := kp (show ks.contains k = false by
        have h := HT.out
        rwa [List.take_of_length_le (by rw [HNL.out]; exact Nat.le_refl _)] at h)
      go_wp2_with fail
      go_ret
      exact ⟨congrArg (fun z => Ending.returned (.bool z)) HO.out.symm, H.out.1⟩
theorem sizePast1 : (Try.prog.info? 49).map (·.size) = some 1 := by kernel_rfl
set_option maxHeartbeats 1600000 in
theorem rtwin_any (l : List Slot) (hl : Ring4 l) (v : Value) (ks : Keys16) (hn : ks.length ≤ 1000) (w : World) (hs : SlY w v ks) :
    Calls Try.prog 27 #[.agg (cellsR l v).toArray] w fun e w' => ∃ u, e = .returned (.agg (cellsR l u).toArray) ∧ w'.ownsRow w.heap.size 45 16 u ks.length (flatK ks) ∧ Ext w w' := by
  have HP := kp (cellsR_past l v hl)
  have HPS := kp (fun u u' => cellsR_set l u u' hl)
  have HZ := kp (fun u => sizeR l u hl)
  have HO := kp (fun u (h : u.oneCell' = true) => one_cellsR l u h)
  have HLN := kp (fun u => cellsR_len2 zeroSs l nilV u ring_zero hl)
  have H144 := kp (fun u => show 144 < (cellsR l u).length by rw [cellsR_len l u hl]; decide)
  have HS := kp hs
  have H := kp (Loc.start w)
  have HLE := kp (show ([] : Keys16).length + ks.length ≤ 10000 by simp; omega)
  clear hs hl
  go_enter Try.func27, Try.ntmps27
  generalize h2 : (Code.region 2 _ _ : Code) = R2
  go_wp2_with (first | ((with_reducible show wpList _ _ _ (Oper.mk (some 1) (Op.box 51 _) _ _ _ _ :: _) _ _); (with_reducible refine L_box H rfl 51 _ rfl (cellsR l v) rfl ?_); clear H; intro g1 w1 HGg1 HEg1 H; simp only [Act.put, List.setIfInBounds_toArray, List.set_cons_zero, List.set_cons_succ]) | (((with_reducible show wpList _ _ _ (Oper.mk (some 2) (Op.alloc 51) _ _ _ _ :: _) _ _); (with_reducible refine L_alloc H rfl 51 rfl (zeroR) (fun _ _ => by kernel_rfl) ?_); clear H; intro g2 w2 HGg2 HEg2 H; simp only [Act.put, List.setIfInBounds_toArray, List.set_cons_zero, List.set_cons_succ]); have HA2 := kp H.out.allLt; have HW2 := kp H.out.1.size) | (((with_reducible show wpList _ _ _ (Oper.mk (some 3) (Op.buildSlice 49 _ _) _ _ _ _ :: _) _ _); (refine L_bs H (by kernel_rfl) 49 0 _ rfl (#[]) (by kernel_rfl) 45 ([]) (fun _ => by kernel_rfl) ?_); clear H; intro g3 w3 HGg3 HEg3 H; simp only [Act.put, List.setIfInBounds_toArray, List.set_cons_zero, List.set_cons_succ]); have HX3 := kp H.out.1; have HOWN := kp (show w3.ownsRow g3 45 16 (.slice (some ⟨g3, 0, none⟩) 0 0) ([] : Keys16).length (flatK []) from ⟨rfl, .inr ⟨g3, 0, #[], rfl, Nat.le_refl _, H.out.at 0 rfl, Nat.le_refl _, Nat.zero_le _, rfl, rfl⟩⟩); have HLT := kp (H.out.lt 0 rfl); have H2 := kp H.out.tl; clear H; have H := H2; clear H2; have hc := run_load_cell H.out 1 rfl _ _ HP.out; have HALL := kp (show ∀ g ∈ [g2, g1], g < g3 by rw [HGg3.out]; exact HA2.out)) | (at_builtin; refine L_appendY H rfl _ _ rfl g3 (by rw [HGg3.out]; exact HW2.out) HALL.out (Nat.le_of_lt HLT.out) _ [] rfl HOWN.out _ ks rfl (HS.out.ext HX3.out) HLE.out ?_; clear H; intro u w4 HOW H; rw [List.nil_append] at HOW; have HU := kp (slot_oneP (PastV.of_owns HS.out.1 HOW.out))) | ((with_reducible show wpList _ _ _ (Oper.mk none (Op.store 49 _ _) _ _ _ _ :: _) _ _); (first | (refine L_cell H rfl rfl 49 _ _ rfl 0 rfl (144) rfl (u) rfl (HU.out) (sizePast1) (H144.out _) (cellsR l u) (HPS.out _ _) ?_; clear H; intro w5 HWw5 H; simp only [List.set_cons_zero] at H) | (refine L_cell H rfl rfl 49 _ _ rfl 1 rfl (144) rfl (u) rfl (HU.out) (sizePast1) (H144.out _) (cellsR l u) (HPS.out _ _) ?_; clear H; intro w5 HWw5 H; simp only [List.set_cons_succ, List.set_cons_zero] at H) | (refine L_cell H rfl rfl 49 _ _ rfl 2 rfl (144) rfl (u) rfl (HU.out) (sizePast1) (H144.out _) (cellsR l u) (HPS.out _ _) ?_; clear H; intro w5 HWw5 H; simp only [List.set_cons_succ, List.set_cons_zero] at H) | (refine L_cell H rfl rfl 49 _ _ rfl 3 rfl (144) rfl (u) rfl (HU.out) (sizePast1) (H144.out _) (cellsR l u) (HPS.out _ _) ?_; clear H; intro w5 HWw5 H; simp only [List.set_cons_succ, List.set_cons_zero] at H) | (refine L_cell H rfl rfl 49 _ _ rfl 4 rfl (144) rfl (u) rfl (HU.out) (sizePast1) (H144.out _) (cellsR l u) (HPS.out _ _) ?_; clear H; intro w5 HWw5 H; simp only [List.set_cons_succ, List.set_cons_zero] at H) | (refine L_cell H rfl rfl 49 _ _ rfl 5 rfl (144) rfl (u) rfl (HU.out) (sizePast1) (H144.out _) (cellsR l u) (HPS.out _ _) ?_; clear H; intro w5 HWw5 H; simp only [List.set_cons_succ, List.set_cons_zero] at H))))
  have HB := kp (show w.heap.size ≤ g3 by rw [HGg3.out]; exact HW2.out)
  have HOW5 := kp (owns_wrote HOW.out HWw5.out (HALL.out g1 (by simp)))
  subst h2
  go_wp2_with (first | ((with_reducible show wpList _ _ _ (Oper.mk _ (Op.load 51 _) _ _ _ _ :: _) _ _); (first | (refine L_load H rfl 51 _ rfl 0 rfl rfl Try.underlying51 rfl (HZ.out _) ?_) | (refine L_load H rfl 51 _ rfl 1 rfl rfl Try.underlying51 rfl (HZ.out _) ?_) | (refine L_load H rfl 51 _ rfl 2 rfl rfl Try.underlying51 rfl (HZ.out _) ?_) | (refine L_load H rfl 51 _ rfl 3 rfl rfl Try.underlying51 rfl (HZ.out _) ?_) | (refine L_load H rfl 51 _ rfl 4 rfl rfl Try.underlying51 rfl (HZ.out _) ?_) | (refine L_load H rfl 51 _ rfl 5 rfl rfl Try.underlying51 rfl (HZ.out _) ?_)); simp only [Act.put, List.setIfInBounds_toArray, List.set_cons_zero, List.set_cons_succ]) | ((with_reducible show wpList _ _ _ (Oper.mk none (Op.store 51 _ _) _ _ _ _ :: _) _ _); (first | (refine L_store H rfl rfl 51 _ _ rfl 0 rfl rfl (cellsR l u) rfl (HZ.out _) (HLN.out _) (HO.out _ HU.out) ?_; clear H; intro w6 HWw6 H; simp only [List.set_cons_zero] at H) | (refine L_store H rfl rfl 51 _ _ rfl 1 rfl rfl (cellsR l u) rfl (HZ.out _) (HLN.out _) (HO.out _ HU.out) ?_; clear H; intro w6 HWw6 H; simp only [List.set_cons_succ, List.set_cons_zero] at H) | (refine L_store H rfl rfl 51 _ _ rfl 2 rfl rfl (cellsR l u) rfl (HZ.out _) (HLN.out _) (HO.out _ HU.out) ?_; clear H; intro w6 HWw6 H; simp only [List.set_cons_succ, List.set_cons_zero] at H) | (refine L_store H rfl rfl 51 _ _ rfl 3 rfl rfl (cellsR l u) rfl (HZ.out _) (HLN.out _) (HO.out _ HU.out) ?_; clear H; intro w6 HWw6 H; simp only [List.set_cons_succ, List.set_cons_zero] at H) | (refine L_store H rfl rfl 51 _ _ rfl 4 rfl rfl (cellsR l u) rfl (HZ.out _) (HLN.out _) (HO.out _ HU.out) ?_; clear H; intro w6 HWw6 H; simp only [List.set_cons_succ, List.set_cons_zero] at H) | (refine L_store H rfl rfl 51 _ _ rfl 5 rfl rfl (cellsR l u) rfl (HZ.out _) (HLN.out _) (HO.out _ HU.out) ?_; clear H; intro w6 HWw6 H; simp only [List.set_cons_succ, List.set_cons_zero] at H))))
  exact ret_row Try.results27 _ _ _ (0, 0) _ rfl (H.out.at 0 rfl) Try.underlying51 rfl (HZ.out _) rfl ⟨u, rfl, owns_baseS (owns_wrote HOW5.out HWw6.out (HALL.out g2 (by simp))) HB.out, H.out.1⟩
instance : DecidableEq Slot := fun a b => decidable_of_iff _ (slotEq_iff a b)
theorem slots_part (l : List Slot) (hl : Ring4 l) (i : Nat) (s : Slot) (h : l[i]? = some s) (w : World) : (part 47 (cellsSs l).toArray (i * 36)).run Try.prog w = .ok (.agg (cellsS s).toArray) w := by
  obtain ⟨ic, hic⟩ := info_ex 47 (by kernel_rfl)
  rw [part_struct w Try.underlying47 hic, show Try.prog.cellsOf 47 = 36 by kernel_rfl]
  have h1 := cellsSs_at l hl.2 i s h
  congr 3
  apply Array.ext'
  simp only [List.extract_toArray, List.extract_eq_take_drop]
  rw [show i * 36 + 36 - i * 36 = 36 by omega, h1]
theorem eqSlotD (w : World) (d : Nat) (s t : Slot) (hs : s.Ok) (ht : t.Ok) : (Op.equalIn (d + 5) 47 (.agg (cellsS s).toArray) (.agg (cellsS t).toArray)).run Try.prog w = .ok (slotEq s t) w := by
  obtain ⟨ik, hik⟩ := info_ex 45 (by kernel_rfl)
  obtain ⟨ic, hic⟩ := info_ex 29 (by kernel_rfl)
  rw [run_equalIn_struct w (d + 4) 47 _ _ (by kernel_rfl) (by kernel_rfl), fields47]
  rw [eqFields_all w (d + 4) (fun f => if f.offset = 0 then s.used == t.used else if f.offset = 1 then s.key == t.key else (s.last == t.last && s.wins == t.wins)) _ (by decide) fun f hf => ?_]
  · simp [slotEq, Bool.and_assoc]
  simp only [List.mem_cons, List.not_mem_nil, or_false] at hf
  rcases hf with rfl | rfl | rfl
  · exact ⟨_, _, part_bool w Try.underlying4 rfl, part_bool w Try.underlying4 rfl, (run_equalIn_bool w (d + 3) 4 s.used t.used Try.underlying4).trans (by simp)⟩
  · refine ⟨_, _, part_arr w Try.underlying45 hik _ _, part_arr w Try.underlying45 hik _ _, ?_⟩
    rw [show Try.prog.cellsOf 45 = 16 by kernel_rfl, slot_key s hs, slot_key t ht]
    exact (run_eq_ints (P := Try.prog) w Try.underlying45 Try.underlying5 sizeU8 s.key t.key hs.1 ht.1 (d + 2)).trans (by simp)
  · refine ⟨_, _, part_struct w Try.underlying29 hic _ _, part_struct w Try.underlying29 hic _ _, ?_⟩
    rw [show Try.prog.cellsOf 29 = 19 by kernel_rfl, slot_ctr s hs, slot_ctr t ht]
    exact (eqCounters2 w d s.last t.last s.wins t.wins hs.2 ht.2).trans (by simp)
theorem eqSlots (w : World) (l m : List Slot) (hl : Ring4 l) (hm : Ring4 m) : (Op.equalIn 10000 48 (.agg (cellsSs l).toArray) (.agg (cellsSs m).toArray)).run Try.prog w = .ok (decide (l = m)) w := by
  obtain ⟨ic, hic⟩ := info_ex 47 (by kernel_rfl)
  rw [run_equalIn_array w 9999 _ _ Try.underlying48 hic]
  rw [eqItems_all w 9999 (fun i => l[i]? == m[i]?) _ fun i hi => ?_]
  · rw [all_range_eq l m 4 hl.1 hm.1]
    congr 1
    rw [Bool.eq_iff_iff]; simp
  have hi4 : i < 4 := by simpa using hi
  obtain ⟨x, hx⟩ : ∃ x, l[i]? = some x := ⟨l[i]'(by rw [hl.1]; omega), by simp⟩
  obtain ⟨y, hy⟩ : ∃ y, m[i]? = some y := ⟨m[i]'(by rw [hm.1]; omega), by simp⟩
  rw [show Try.prog.cellsOf 47 = 36 by kernel_rfl]
  refine ⟨_, _, slots_part l hl i x hx w, slots_part m hm i y hy w, ?_⟩
  rw [hx, hy]
  refine (eqSlotD w 9994 x y (hl.2 x (List.mem_of_getElem? hx)) (hm.2 y (List.mem_of_getElem? hy))).trans ?_
  congr 1
  rw [Bool.eq_iff_iff, slotEq_iff]; simp
theorem eqlSlots (w : World) (l m : List Slot) (hl : Ring4 l) (hm : Ring4 m) : (binOp .eql 48 (.agg (cellsSs l).toArray) (.agg (cellsSs m).toArray)).run Try.prog w = .ok (.bool (decide (l = m))) w := by
  rw [run_eql_struct, eqSlots w l m hl hm]; rfl
theorem neqSlots (w : World) (l m : List Slot) (hl : Ring4 l) (hm : Ring4 m) : (binOp .neq 48 (.agg (cellsSs l).toArray) (.agg (cellsSs m).toArray)).run Try.prog w = .ok (.bool (!decide (l = m))) w := by
  rw [run_neq_struct, eqSlots w l m hl hm]; rfl
set_option maxHeartbeats 3200000 in
theorem equalKeys_any (a1 a2 : Option Addr) (n m c1 c2 : Nat) (ks1 ks2 : Keys16) (hn1 : n = ks1.length) (hn2 : m = ks2.length) (hl : n ≤ 100000) (hl2 : m ≤ 100000) (w : World) (h1 : SlY w (.slice a1 n c1) ks1) (h2 : SlY w (.slice a2 m c2) ks2) :
    Calls Try.prog 51 #[.slice a1 n c1, .slice a2 m c2] w fun e w' => e = .returned (.bool (decide (ks1 = ks2))) ∧ Ext w w' := by
  have HS1 := kp h1
  have HS2 := kp h2
  have HN1 := kp hn1
  have HN2 := kp hn2
  have H := kp (Loc.start w)
  clear h1 h2
  by_cases hnm : n = m
  case neg =>
    have HO := kp (show decide (ks1 = ks2) = false from decide_eq_false fun e => hnm (by rw [hn1, hn2, e]))
    have hb : ((n : Int) != (m : Int)) = true := by rw [bne_iff_ne]; omega
    clear hn1 hn2 hnm
    go_enter Try.func51, Try.ntmps51
    go_wp2_with fail
    go_ret
    exact ⟨congrArg (fun z => Ending.returned (.bool z)) HO.out.symm, H.out.1⟩
  subst hnm
  clear hn1 hn2
  go_enter Try.func51, Try.ntmps51
  go_wp2_with fail
  go_loopw [13] (fun i wr => ∃ j : Nat, j ≤ n ∧ i = .int .i64 j ∧ Kp (ks1.take j = ks2.take j) ∧ Kp (Loc w wr [])) (fun i _ => n - (intOf i).toNat)
  case atStart => exact ⟨0, by omega, rfl, kp rfl, H⟩
  case round =>
    obtain ⟨j, hj, rfl, HT, H⟩ := hrel
    by_cases hlt : j < n
    · obtain ⟨q1, hq1⟩ : ∃ q, ks1[j]? = some q := ⟨ks1[j]'(by rw [← HN1.out]; omega), by simp⟩
      obtain ⟨q2, hq2⟩ : ∃ q, ks2[j]? = some q := ⟨ks2[j]'(by rw [← HN2.out]; omega), by simp⟩
      obtain ⟨h16a, b1, o1, rfl, hb1, hr1⟩ := HS1.out.at j q1 hq1
      obtain ⟨h16b, b2, o2, rfl, hb2, hr2⟩ := HS2.out.at j q2 hq2
      have HB1 := kp hb1
      have HR1 := kp hr1
      have HB2 := kp hb2
      have HR2 := kp hr2
      have HY1 := kp hq1
      have HY2 := kp hq2
      have HZ1 := kp (sizeKl q1 h16a)
      have HZ2 := kp (sizeKl q2 h16b)
      have hne := fun w => neKey w q1 q2 h16a h16b
      clear hb1 hr1 hb2 hr2 hq1 hq2 h16a h16b
      by_cases he : q1 = q2
      · subst he
        have hne2 : ∀ w, (binOp .neq 45 (.agg (q1.map V8).toArray) (.agg (q1.map V8).toArray)).run Try.prog w = .ok (.bool false) w := fun w => by rw [hne w]; simp
        clear hne
        have HO := kp (show ks1.take (j + 1) = ks2.take (j + 1) by rw [List.take_add_one, List.take_add_one, HT.out, HY1.out, HY2.out])
        go_wp2_with fail
        refine region_free H (tabS [(16, fun zv _ => zv = .slice (some ⟨b1, o1, none⟩) n c1), (17, fun zv _ => zv = .int .i64 j), (18, fun zv _ => zv = .pointer (some ⟨b1, o1 + j * 16, none⟩)), (19, fun zv _ => zv = .agg (q1.map V8).toArray), (20, fun zv _ => zv = .slice (some ⟨b2, o2, none⟩) n c2), (21, fun zv _ => zv = .int .i64 j), (22, fun zv _ => zv = .pointer (some ⟨b2, o2 + j * 16, none⟩)), (23, fun zv _ => zv = .agg (q1.map V8).toArray), (24, fun zv _ => zv = .bool false)]) [] (tabS_out _ _ (by simp only [List.forall_mem_cons]; exact ⟨mono_eqO _ _, mono_eqO _ _, mono_eqO _ _, mono_eqO _ _, mono_eqO _ _, mono_eqO _ _, mono_eqO _ _, mono_eqO _ _, mono_eqO _ _, by simp⟩)) 9 (by kernel_rfl) (by kernel_rfl) (by kernel_rfl) (by kernel_rfl) [] [] rfl rfl (by decide) (by decide) (by decide) trivial ?_
        simp only [List.take_succ_cons, List.take_zero]
        refine ⟨fun wv16 hov16 hSv16 => ?_, fun v16 => ?_⟩
        · clear hSv16
          clear hov16
          go_wp2_with fail
          exact ⟨rfl, _, rfl, fun d hd => by cases hd; exact rfl, Ext.refl _⟩
        simp only [Act.put, List.setIfInBounds_toArray, List.set_cons_zero, List.set_cons_succ]
        refine ⟨fun wv17 hov17 hSv17 => ?_, fun v17 => ?_⟩
        · clear hSv17
          clear hov17
          go_wp2_with fail
          exact ⟨rfl, _, rfl, fun d hd => by cases hd; exact rfl, Ext.refl _⟩
        simp only [Act.put, List.setIfInBounds_toArray, List.set_cons_zero, List.set_cons_succ]
        refine ⟨fun wv18 hov18 hSv18 => ?_, fun v18 => ?_⟩
        · obtain rfl : v16 = .slice (some ⟨b1, o1, none⟩) n c1 := hSv18 16 (by decide) (by decide)
          obtain rfl : v17 = .int .i64 j := hSv18 17 (by decide) (by decide)
          clear hSv18
          clear hov18
          go_wp2_with fail
          exact ⟨rfl, _, rfl, fun d hd => by cases hd; exact rfl, Ext.refl _⟩
        simp only [Act.put, List.setIfInBounds_toArray, List.set_cons_zero, List.set_cons_succ]
        refine ⟨fun wv19 hov19 hSv19 => ?_, fun v19 => ?_⟩
        · obtain rfl : v18 = .pointer (some ⟨b1, o1 + j * 16, none⟩) := hSv19 18 (by decide) (by decide)
          clear hSv19
          have H := kp (H.out.keep [] (St := []) trivial hov19 (by decide) (by kernel_rfl))
          have HOX := kp hov19
          clear hov19
          have HR3 := kp (rangeAt_ext HR1.out HB1.out H.out.1)
          go_wp2_with ((with_reducible show wpList _ _ _ (Oper.mk _ (Op.load 45 _) _ _ _ _ :: _) _ _); (with_reducible refine wpList_load_mid rfl 45 _ rfl (b1) (o1 + j * 16) rfl (q1.map V8) _ (HR3.out) Try.underlying45 rfl (HZ1.out) ?_); simp only [Act.put, List.setIfInBounds_toArray, List.set_cons_zero, List.set_cons_succ])
          exact ⟨rfl, _, rfl, fun d hd => by cases hd; exact rfl, Ext.refl _⟩
        simp only [Act.put, List.setIfInBounds_toArray, List.set_cons_zero, List.set_cons_succ]
        refine ⟨fun wv20 hov20 hSv20 => ?_, fun v20 => ?_⟩
        · clear hSv20
          clear hov20
          go_wp2_with fail
          exact ⟨rfl, _, rfl, fun d hd => by cases hd; exact rfl, Ext.refl _⟩
        simp only [Act.put, List.setIfInBounds_toArray, List.set_cons_zero, List.set_cons_succ]
        refine ⟨fun wv21 hov21 hSv21 => ?_, fun v21 => ?_⟩
        · clear hSv21
          clear hov21
          go_wp2_with fail
          exact ⟨rfl, _, rfl, fun d hd => by cases hd; exact rfl, Ext.refl _⟩
        simp only [Act.put, List.setIfInBounds_toArray, List.set_cons_zero, List.set_cons_succ]
        refine ⟨fun wv22 hov22 hSv22 => ?_, fun v22 => ?_⟩
        · obtain rfl : v20 = .slice (some ⟨b2, o2, none⟩) n c2 := hSv22 20 (by decide) (by decide)
          obtain rfl : v21 = .int .i64 j := hSv22 21 (by decide) (by decide)
          clear hSv22
          clear hov22
          go_wp2_with fail
          exact ⟨rfl, _, rfl, fun d hd => by cases hd; exact rfl, Ext.refl _⟩
        simp only [Act.put, List.setIfInBounds_toArray, List.set_cons_zero, List.set_cons_succ]
        refine ⟨fun wv23 hov23 hSv23 => ?_, fun v23 => ?_⟩
        · obtain rfl : v22 = .pointer (some ⟨b2, o2 + j * 16, none⟩) := hSv23 22 (by decide) (by decide)
          clear hSv23
          have H := kp (H.out.keep [] (St := []) trivial hov23 (by decide) (by kernel_rfl))
          have HOX := kp hov23
          clear hov23
          have HR3 := kp (rangeAt_ext HR2.out HB2.out H.out.1)
          go_wp2_with ((with_reducible show wpList _ _ _ (Oper.mk _ (Op.load 45 _) _ _ _ _ :: _) _ _); (with_reducible refine wpList_load_mid rfl 45 _ rfl (b2) (o2 + j * 16) rfl (q1.map V8) _ (HR3.out) Try.underlying45 rfl (HZ2.out) ?_); simp only [Act.put, List.setIfInBounds_toArray, List.set_cons_zero, List.set_cons_succ])
          exact ⟨rfl, _, rfl, fun d hd => by cases hd; exact rfl, Ext.refl _⟩
        simp only [Act.put, List.setIfInBounds_toArray, List.set_cons_zero, List.set_cons_succ]
        refine ⟨fun wv24 hov24 hSv24 => ?_, fun v24 => ?_⟩
        · obtain rfl : v19 = .agg (q1.map V8).toArray := hSv24 19 (by decide) (by decide)
          obtain rfl : v23 = .agg (q1.map V8).toArray := hSv24 23 (by decide) (by decide)
          clear hSv24
          clear hov24
          go_wp2_with fail
          exact ⟨rfl, _, rfl, fun d hd => by cases hd; exact rfl, Ext.refl _⟩
        simp only [Act.put, List.setIfInBounds_toArray, List.set_cons_zero, List.set_cons_succ]
        clear H
        intro wn HOX H hfin
        obtain rfl : v16 = .slice (some ⟨b1, o1, none⟩) n c1 := hfin 16 (by decide)
        obtain rfl : v17 = .int .i64 j := hfin 17 (by decide)
        obtain rfl : v18 = .pointer (some ⟨b1, o1 + j * 16, none⟩) := hfin 18 (by decide)
        obtain rfl : v19 = .agg (q1.map V8).toArray := hfin 19 (by decide)
        obtain rfl : v20 = .slice (some ⟨b2, o2, none⟩) n c2 := hfin 20 (by decide)
        obtain rfl : v21 = .int .i64 j := hfin 21 (by decide)
        obtain rfl : v22 = .pointer (some ⟨b2, o2 + j * 16, none⟩) := hfin 22 (by decide)
        obtain rfl : v23 = .agg (q1.map V8).toArray := hfin 23 (by decide)
        obtain rfl : v24 = .bool false := hfin 24 (by decide)
        clear hfin
        simp only [List.drop_succ_cons, List.drop_zero]
        simp only [applyS] at H
        have HXN := kp (HOX.out.ext (Ext.refl wr) (fun g hg => by cases hg))
        go_wp2_with fail
        go_roundw
        case rel => exact ⟨j + 1, by omega, by go_num, HO, H⟩
        case measure => simp [intOf]; omega
      · have hne2 : ∀ w, (binOp .neq 45 (.agg (q1.map V8).toArray) (.agg (q2.map V8).toArray)).run Try.prog w = .ok (.bool true) w := fun w => by rw [hne w]; simp [he]
        clear hne
        have HO := kp (show decide (ks1 = ks2) = false from decide_eq_false fun e => he (by
          have h1 := HY1.out
          rw [e, HY2.out] at h1
          exact (Option.some.inj h1).symm))
        clear he
        go_wp2_with fail
        refine region_free H (tabS [(16, fun zv _ => zv = .slice (some ⟨b1, o1, none⟩) n c1), (17, fun zv _ => zv = .int .i64 j), (18, fun zv _ => zv = .pointer (some ⟨b1, o1 + j * 16, none⟩)), (19, fun zv _ => zv = .agg (q1.map V8).toArray), (20, fun zv _ => zv = .slice (some ⟨b2, o2, none⟩) n c2), (21, fun zv _ => zv = .int .i64 j), (22, fun zv _ => zv = .pointer (some ⟨b2, o2 + j * 16, none⟩)), (23, fun zv _ => zv = .agg (q2.map V8).toArray), (24, fun zv _ => zv = .bool true)]) [] (tabS_out _ _ (by simp only [List.forall_mem_cons]; exact ⟨mono_eqO _ _, mono_eqO _ _, mono_eqO _ _, mono_eqO _ _, mono_eqO _ _, mono_eqO _ _, mono_eqO _ _, mono_eqO _ _, mono_eqO _ _, by simp⟩)) 9 (by kernel_rfl) (by kernel_rfl) (by kernel_rfl) (by kernel_rfl) [] [] rfl rfl (by decide) (by decide) (by decide) trivial ?_
        simp only [List.take_succ_cons, List.take_zero]
        refine ⟨fun wv16 hov16 hSv16 => ?_, fun v16 => ?_⟩
        · clear hSv16
          clear hov16
          go_wp2_with fail
          exact ⟨rfl, _, rfl, fun d hd => by cases hd; exact rfl, Ext.refl _⟩
        simp only [Act.put, List.setIfInBounds_toArray, List.set_cons_zero, List.set_cons_succ]
        refine ⟨fun wv17 hov17 hSv17 => ?_, fun v17 => ?_⟩
        · clear hSv17
          clear hov17
          go_wp2_with fail
          exact ⟨rfl, _, rfl, fun d hd => by cases hd; exact rfl, Ext.refl _⟩
        simp only [Act.put, List.setIfInBounds_toArray, List.set_cons_zero, List.set_cons_succ]
        refine ⟨fun wv18 hov18 hSv18 => ?_, fun v18 => ?_⟩
        · obtain rfl : v16 = .slice (some ⟨b1, o1, none⟩) n c1 := hSv18 16 (by decide) (by decide)
          obtain rfl : v17 = .int .i64 j := hSv18 17 (by decide) (by decide)
          clear hSv18
          clear hov18
          go_wp2_with fail
          exact ⟨rfl, _, rfl, fun d hd => by cases hd; exact rfl, Ext.refl _⟩
        simp only [Act.put, List.setIfInBounds_toArray, List.set_cons_zero, List.set_cons_succ]
        refine ⟨fun wv19 hov19 hSv19 => ?_, fun v19 => ?_⟩
        · obtain rfl : v18 = .pointer (some ⟨b1, o1 + j * 16, none⟩) := hSv19 18 (by decide) (by decide)
          clear hSv19
          have H := kp (H.out.keep [] (St := []) trivial hov19 (by decide) (by kernel_rfl))
          have HOX := kp hov19
          clear hov19
          have HR3 := kp (rangeAt_ext HR1.out HB1.out H.out.1)
          go_wp2_with ((with_reducible show wpList _ _ _ (Oper.mk _ (Op.load 45 _) _ _ _ _ :: _) _ _); (with_reducible refine wpList_load_mid rfl 45 _ rfl (b1) (o1 + j * 16) rfl (q1.map V8) _ (HR3.out) Try.underlying45 rfl (HZ1.out) ?_); simp only [Act.put, List.setIfInBounds_toArray, List.set_cons_zero, List.set_cons_succ])
          exact ⟨rfl, _, rfl, fun d hd => by cases hd; exact rfl, Ext.refl _⟩
        simp only [Act.put, List.setIfInBounds_toArray, List.set_cons_zero, List.set_cons_succ]
        refine ⟨fun wv20 hov20 hSv20 => ?_, fun v20 => ?_⟩
        · clear hSv20
          clear hov20
          go_wp2_with fail
          exact ⟨rfl, _, rfl, fun d hd => by cases hd; exact rfl, Ext.refl _⟩
        simp only [Act.put, List.setIfInBounds_toArray, List.set_cons_zero, List.set_cons_succ]
        refine ⟨fun wv21 hov21 hSv21 => ?_, fun v21 => ?_⟩
        · clear hSv21
          clear hov21
          go_wp2_with fail
          exact ⟨rfl, _, rfl, fun d hd => by cases hd; exact rfl, Ext.refl _⟩
        simp only [Act.put, List.setIfInBounds_toArray, List.set_cons_zero, List.set_cons_succ]
        refine ⟨fun wv22 hov22 hSv22 => ?_, fun v22 => ?_⟩
        · obtain rfl : v20 = .slice (some ⟨b2, o2, none⟩) n c2 := hSv22 20 (by decide) (by decide)
          obtain rfl : v21 = .int .i64 j := hSv22 21 (by decide) (by decide)
          clear hSv22
          clear hov22
          go_wp2_with fail
          exact ⟨rfl, _, rfl, fun d hd => by cases hd; exact rfl, Ext.refl _⟩
        simp only [Act.put, List.setIfInBounds_toArray, List.set_cons_zero, List.set_cons_succ]
        refine ⟨fun wv23 hov23 hSv23 => ?_, fun v23 => ?_⟩
        · obtain rfl : v22 = .pointer (some ⟨b2, o2 + j * 16, none⟩) := hSv23 22 (by decide) (by decide)
          clear hSv23
          have H := kp (H.out.keep [] (St := []) trivial hov23 (by decide) (by kernel_rfl))
          have HOX := kp hov23
          clear hov23
          have HR3 := kp (rangeAt_ext HR2.out HB2.out H.out.1)
          go_wp2_with ((with_reducible show wpList _ _ _ (Oper.mk _ (Op.load 45 _) _ _ _ _ :: _) _ _); (with_reducible refine wpList_load_mid rfl 45 _ rfl (b2) (o2 + j * 16) rfl (q2.map V8) _ (HR3.out) Try.underlying45 rfl (HZ2.out) ?_); simp only [Act.put, List.setIfInBounds_toArray, List.set_cons_zero, List.set_cons_succ])
          exact ⟨rfl, _, rfl, fun d hd => by cases hd; exact rfl, Ext.refl _⟩
        simp only [Act.put, List.setIfInBounds_toArray, List.set_cons_zero, List.set_cons_succ]
        refine ⟨fun wv24 hov24 hSv24 => ?_, fun v24 => ?_⟩
        · obtain rfl : v19 = .agg (q1.map V8).toArray := hSv24 19 (by decide) (by decide)
          obtain rfl : v23 = .agg (q2.map V8).toArray := hSv24 23 (by decide) (by decide)
          clear hSv24
          clear hov24
          go_wp2_with fail
          exact ⟨rfl, _, rfl, fun d hd => by cases hd; exact rfl, Ext.refl _⟩
        simp only [Act.put, List.setIfInBounds_toArray, List.set_cons_zero, List.set_cons_succ]
        clear H
        intro wn HOX H hfin
        obtain rfl : v16 = .slice (some ⟨b1, o1, none⟩) n c1 := hfin 16 (by decide)
        obtain rfl : v17 = .int .i64 j := hfin 17 (by decide)
        obtain rfl : v18 = .pointer (some ⟨b1, o1 + j * 16, none⟩) := hfin 18 (by decide)
        obtain rfl : v19 = .agg (q1.map V8).toArray := hfin 19 (by decide)
        obtain rfl : v20 = .slice (some ⟨b2, o2, none⟩) n c2 := hfin 20 (by decide)
        obtain rfl : v21 = .int .i64 j := hfin 21 (by decide)
        obtain rfl : v22 = .pointer (some ⟨b2, o2 + j * 16, none⟩) := hfin 22 (by decide)
        obtain rfl : v23 = .agg (q2.map V8).toArray := hfin 23 (by decide)
        obtain rfl : v24 = .bool true := hfin 24 (by decide)
        clear hfin
        simp only [List.drop_succ_cons, List.drop_zero]
        simp only [applyS] at H
        have HXN := kp (HOX.out.ext (Ext.refl wr) (fun g hg => by cases hg))
        go_wp2_with fail
        go_ret
        exact ⟨congrArg (fun z => Ending.returned (.bool z)) HO.out.symm, H.out.1⟩
    · obtain rfl : j = n := by omega
      have HO := kp (show decide (ks1 = ks2) = true by
        have h := HT.out
        rw [List.take_of_length_le (by rw [HN1.out]; exact Nat.le_refl _), List.take_of_length_le (by rw [HN2.out]; exact Nat.le_refl _)] at h
        simp [h])
      go_wp2_with fail
      go_ret
      exact ⟨congrArg (fun z => Ending.returned (.bool z)) HO.out.symm, H.out.1⟩
def sameF (l m : List Slot) (ks1 ks2 : Keys16) : Bool := decide (l = m ∧ ks1 = ks2)
set_option maxHeartbeats 3200000 in
theorem same_any (l m : List Slot) (hl : Ring4 l) (hm : Ring4 m) (u v : Value) (ks1 ks2 : Keys16) (hb1 : ks1.length ≤ 100000) (hb2 : ks2.length ≤ 100000) (w : World) (h1 : SlY w u ks1) (h2 : SlY w v ks2) :
    Calls Try.prog 34 #[.agg (cellsR l u).toArray, .agg (cellsR m v).toArray] w fun e w' => e = .returned (.bool (sameF l m ks1 ks2)) ∧ Ext w w' := by
  obtain ⟨a1, c1, rfl⟩ := h1.form
  obtain ⟨a2, c2, rfl⟩ := h2.form
  have HE := kp (fun w' (hx : Ext w w') => equalKeys_any a1 a2 ks1.length ks2.length c1 c2 ks1 ks2 rfl rfl hb1 hb2 w' (h1.ext hx) (h2.ext hx))
  have HPA := kp (cellsR_past l (.slice a1 ks1.length c1) hl)
  have HPB := kp (cellsR_past m (.slice a2 ks2.length c2) hm)
  have HQA := kp (show ((cellsR l (.slice a1 ks1.length c1)).drop 0).take (cellsSs l).length = cellsSs l by rw [List.drop_zero, cellsR, List.take_append_of_le_length (Nat.le_refl _), List.take_of_length_le (Nat.le_refl _)])
  have HQB := kp (show ((cellsR m (.slice a2 ks2.length c2)).drop 0).take (cellsSs m).length = cellsSs m by rw [List.drop_zero, cellsR, List.take_append_of_le_length (Nat.le_refl _), List.take_of_length_le (Nat.le_refl _)])
  have HZA := kp (show (Try.prog.info? 48).map (·.size) = some (cellsSs l).length by rw [size48, cellsSs_four l hl])
  have HZB := kp (show (Try.prog.info? 48).map (·.size) = some (cellsSs m).length by rw [size48, cellsSs_four m hm])
  have heq := fun w => eqlSlots w l m hl hm
  have H := kp (Loc.start w)
  clear h1 h2 hl hm
  by_cases he : l = m
  case neg =>
    have HO := kp (show sameF l m ks1 ks2 = false from decide_eq_false fun e => he e.1)
    simp only [he, decide_false] at heq
    clear he
    go_enter Try.func34, Try.ntmps34
    go_wp2_with (first | ((with_reducible show wpList _ _ _ (Oper.mk (some 2) (Op.box 51 _) _ _ _ _ :: _) _ _); (with_reducible refine L_box H rfl 51 _ rfl (cellsR l (.slice a1 ks1.length c1)) rfl ?_); clear H; intro g2 w2 HGg2 HEg2 H; simp only [Act.put, List.setIfInBounds_toArray, List.set_cons_zero, List.set_cons_succ]) | ((with_reducible show wpList _ _ _ (Oper.mk (some 3) (Op.box 51 _) _ _ _ _ :: _) _ _); (with_reducible refine L_box H rfl 51 _ rfl (cellsR m (.slice a2 ks2.length c2)) rfl ?_); clear H; intro g3 w3 HGg3 HEg3 H; simp only [Act.put, List.setIfInBounds_toArray, List.set_cons_zero, List.set_cons_succ]) | ((with_reducible show wpList _ _ _ (Oper.mk _ (Op.load 48 _) _ _ _ _ :: _) _ _); (first | (refine L_sub H rfl 48 _ rfl 0 rfl (0) rfl (cellsSs l) (HQA.out) Try.underlying48 rfl (HZA.out) ?_) | (refine L_sub H rfl 48 _ rfl 1 rfl (0) rfl (cellsSs l) (HQA.out) Try.underlying48 rfl (HZA.out) ?_) | (refine L_sub H rfl 48 _ rfl 2 rfl (0) rfl (cellsSs l) (HQA.out) Try.underlying48 rfl (HZA.out) ?_) | (refine L_sub H rfl 48 _ rfl 3 rfl (0) rfl (cellsSs l) (HQA.out) Try.underlying48 rfl (HZA.out) ?_) | (refine L_sub H rfl 48 _ rfl 4 rfl (0) rfl (cellsSs l) (HQA.out) Try.underlying48 rfl (HZA.out) ?_) | (refine L_sub H rfl 48 _ rfl 5 rfl (0) rfl (cellsSs l) (HQA.out) Try.underlying48 rfl (HZA.out) ?_)); simp only [Act.put, List.setIfInBounds_toArray, List.set_cons_zero, List.set_cons_succ]) | ((with_reducible show wpList _ _ _ (Oper.mk _ (Op.load 48 _) _ _ _ _ :: _) _ _); (first | (refine L_sub H rfl 48 _ rfl 0 rfl (0) rfl (cellsSs m) (HQB.out) Try.underlying48 rfl (HZB.out) ?_) | (refine L_sub H rfl 48 _ rfl 1 rfl (0) rfl (cellsSs m) (HQB.out) Try.underlying48 rfl (HZB.out) ?_) | (refine L_sub H rfl 48 _ rfl 2 rfl (0) rfl (cellsSs m) (HQB.out) Try.underlying48 rfl (HZB.out) ?_) | (refine L_sub H rfl 48 _ rfl 3 rfl (0) rfl (cellsSs m) (HQB.out) Try.underlying48 rfl (HZB.out) ?_) | (refine L_sub H rfl 48 _ rfl 4 rfl (0) rfl (cellsSs m) (HQB.out) Try.underlying48 rfl (HZB.out) ?_) | (refine L_sub H rfl 48 _ rfl 5 rfl (0) rfl (cellsSs m) (HQB.out) Try.underlying48 rfl (HZB.out) ?_)); simp only [Act.put, List.setIfInBounds_toArray, List.set_cons_zero, List.set_cons_succ]))
    go_ret
    exact ⟨congrArg (fun z => Ending.returned (.bool z)) HO.out.symm, H.out.1⟩
  subst he
  simp only [decide_true] at heq
  have HO := kp (show sameF l l ks1 ks2 = decide (ks1 = ks2) by unfold sameF; simp)
  go_enter Try.func34, Try.ntmps34
  go_wp2_with (first | ((with_reducible show wpList _ _ _ (Oper.mk (some 2) (Op.box 51 _) _ _ _ _ :: _) _ _); (with_reducible refine L_box H rfl 51 _ rfl (cellsR l (.slice a1 ks1.length c1)) rfl ?_); clear H; intro g2 w2 HGg2 HEg2 H; simp only [Act.put, List.setIfInBounds_toArray, List.set_cons_zero, List.set_cons_succ]) | (((with_reducible show wpList _ _ _ (Oper.mk (some 3) (Op.box 51 _) _ _ _ _ :: _) _ _); (with_reducible refine L_box H rfl 51 _ rfl (cellsR l (.slice a2 ks2.length c2)) rfl ?_); clear H; intro g3 w3 HGg3 HEg3 H; simp only [Act.put, List.setIfInBounds_toArray, List.set_cons_zero, List.set_cons_succ]); have hca := run_load_cell H.out 1 rfl _ _ HPA.out; have hcb := run_load_cell H.out 0 rfl _ _ HPB.out) | ((with_reducible show wpList _ _ _ (Oper.mk _ (Op.load 48 _) _ _ _ _ :: _) _ _); (first | (refine L_sub H rfl 48 _ rfl 0 rfl (0) rfl (cellsSs l) (HQA.out) Try.underlying48 rfl (HZA.out) ?_) | (refine L_sub H rfl 48 _ rfl 1 rfl (0) rfl (cellsSs l) (HQA.out) Try.underlying48 rfl (HZA.out) ?_) | (refine L_sub H rfl 48 _ rfl 2 rfl (0) rfl (cellsSs l) (HQA.out) Try.underlying48 rfl (HZA.out) ?_) | (refine L_sub H rfl 48 _ rfl 3 rfl (0) rfl (cellsSs l) (HQA.out) Try.underlying48 rfl (HZA.out) ?_) | (refine L_sub H rfl 48 _ rfl 4 rfl (0) rfl (cellsSs l) (HQA.out) Try.underlying48 rfl (HZA.out) ?_) | (refine L_sub H rfl 48 _ rfl 5 rfl (0) rfl (cellsSs l) (HQA.out) Try.underlying48 rfl (HZA.out) ?_)); simp only [Act.put, List.setIfInBounds_toArray, List.set_cons_zero, List.set_cons_succ]) | ((with_reducible show wpList _ _ _ (Oper.mk _ (Op.load 48 _) _ _ _ _ :: _) _ _); (first | (refine L_sub H rfl 48 _ rfl 0 rfl (0) rfl (cellsSs l) (HQB.out) Try.underlying48 rfl (HZB.out) ?_) | (refine L_sub H rfl 48 _ rfl 1 rfl (0) rfl (cellsSs l) (HQB.out) Try.underlying48 rfl (HZB.out) ?_) | (refine L_sub H rfl 48 _ rfl 2 rfl (0) rfl (cellsSs l) (HQB.out) Try.underlying48 rfl (HZB.out) ?_) | (refine L_sub H rfl 48 _ rfl 3 rfl (0) rfl (cellsSs l) (HQB.out) Try.underlying48 rfl (HZB.out) ?_) | (refine L_sub H rfl 48 _ rfl 4 rfl (0) rfl (cellsSs l) (HQB.out) Try.underlying48 rfl (HZB.out) ?_) | (refine L_sub H rfl 48 _ rfl 5 rfl (0) rfl (cellsSs l) (HQB.out) Try.underlying48 rfl (HZB.out) ?_)); simp only [Act.put, List.setIfInBounds_toArray, List.set_cons_zero, List.set_cons_succ]))
  refine (HE.out _ H.out.1).mono ?_
  rintro e w1 ⟨rfl, hx⟩
  have H2 := kp (H.out.ext hx)
  clear H hx hca hcb
  have H := H2
  clear H2
  go_wp2_with fail
  go_ret
  exact ⟨congrArg (fun z => Ending.returned (.bool z)) HO.out.symm, H.out.1⟩
set_option maxHeartbeats 3200000 in
theorem rsame_any (l m : List Slot) (hl : Ring4 l) (hm : Ring4 m) (u v : Value) (ks1 ks2 : Keys16) (hb1 : ks1.length ≤ 100000) (hb2 : ks2.length ≤ 100000) (w : World) (h1 : SlY w u ks1) (h2 : SlY w v ks2) :
    Calls Try.prog 29 #[.agg (cellsR l u).toArray, .agg (cellsR m v).toArray] w fun e w' => e = .returned (.bool (sameF l m ks1 ks2)) ∧ Ext w w' := by
  obtain ⟨a1, c1, rfl⟩ := h1.form
  obtain ⟨a2, c2, rfl⟩ := h2.form
  have HPA := kp (cellsR_past l (.slice a1 ks1.length c1) hl)
  have HPB := kp (cellsR_past m (.slice a2 ks2.length c2) hm)
  have HQA := kp (show ((cellsR l (.slice a1 ks1.length c1)).drop 0).take (cellsSs l).length = cellsSs l by rw [List.drop_zero, cellsR, List.take_append_of_le_length (Nat.le_refl _), List.take_of_length_le (Nat.le_refl _)])
  have HQB := kp (show ((cellsR m (.slice a2 ks2.length c2)).drop 0).take (cellsSs m).length = cellsSs m by rw [List.drop_zero, cellsR, List.take_append_of_le_length (Nat.le_refl _), List.take_of_length_le (Nat.le_refl _)])
  have HZA := kp (show (Try.prog.info? 48).map (·.size) = some (cellsSs l).length by rw [size48, cellsSs_four l hl])
  have HZB := kp (show (Try.prog.info? 48).map (·.size) = some (cellsSs m).length by rw [size48, cellsSs_four m hm])
  have heq := fun w => neqSlots w l m hl hm
  have HS1 := kp h1
  have HS2 := kp h2
  have H := kp (Loc.start w)
  clear h1 h2 hl hm
  by_cases he : l = m
  case neg =>
    have HO := kp (show sameF l m ks1 ks2 = false from decide_eq_false fun e => he e.1)
    simp only [he, decide_false] at heq
    clear he
    go_enter Try.func29, Try.ntmps29
    go_wp2_with (first | ((with_reducible show wpList _ _ _ (Oper.mk (some 2) (Op.box 51 _) _ _ _ _ :: _) _ _); (with_reducible refine L_box H rfl 51 _ rfl (cellsR l (.slice a1 ks1.length c1)) rfl ?_); clear H; intro g2 w2 HGg2 HEg2 H; simp only [Act.put, List.setIfInBounds_toArray, List.set_cons_zero, List.set_cons_succ]) | ((with_reducible show wpList _ _ _ (Oper.mk (some 3) (Op.box 51 _) _ _ _ _ :: _) _ _); (with_reducible refine L_box H rfl 51 _ rfl (cellsR m (.slice a2 ks2.length c2)) rfl ?_); clear H; intro g3 w3 HGg3 HEg3 H; simp only [Act.put, List.setIfInBounds_toArray, List.set_cons_zero, List.set_cons_succ]) | ((with_reducible show wpList _ _ _ (Oper.mk _ (Op.load 48 _) _ _ _ _ :: _) _ _); (first | (refine L_sub H rfl 48 _ rfl 0 rfl (0) rfl (cellsSs l) (HQA.out) Try.underlying48 rfl (HZA.out) ?_) | (refine L_sub H rfl 48 _ rfl 1 rfl (0) rfl (cellsSs l) (HQA.out) Try.underlying48 rfl (HZA.out) ?_) | (refine L_sub H rfl 48 _ rfl 2 rfl (0) rfl (cellsSs l) (HQA.out) Try.underlying48 rfl (HZA.out) ?_) | (refine L_sub H rfl 48 _ rfl 3 rfl (0) rfl (cellsSs l) (HQA.out) Try.underlying48 rfl (HZA.out) ?_) | (refine L_sub H rfl 48 _ rfl 4 rfl (0) rfl (cellsSs l) (HQA.out) Try.underlying48 rfl (HZA.out) ?_) | (refine L_sub H rfl 48 _ rfl 5 rfl (0) rfl (cellsSs l) (HQA.out) Try.underlying48 rfl (HZA.out) ?_)); simp only [Act.put, List.setIfInBounds_toArray, List.set_cons_zero, List.set_cons_succ]) | ((with_reducible show wpList _ _ _ (Oper.mk _ (Op.load 48 _) _ _ _ _ :: _) _ _); (first | (refine L_sub H rfl 48 _ rfl 0 rfl (0) rfl (cellsSs m) (HQB.out) Try.underlying48 rfl (HZB.out) ?_) | (refine L_sub H rfl 48 _ rfl 1 rfl (0) rfl (cellsSs m) (HQB.out) Try.underlying48 rfl (HZB.out) ?_) | (refine L_sub H rfl 48 _ rfl 2 rfl (0) rfl (cellsSs m) (HQB.out) Try.underlying48 rfl (HZB.out) ?_) | (refine L_sub H rfl 48 _ rfl 3 rfl (0) rfl (cellsSs m) (HQB.out) Try.underlying48 rfl (HZB.out) ?_) | (refine L_sub H rfl 48 _ rfl 4 rfl (0) rfl (cellsSs m) (HQB.out) Try.underlying48 rfl (HZB.out) ?_) | (refine L_sub H rfl 48 _ rfl 5 rfl (0) rfl (cellsSs m) (HQB.out) Try.underlying48 rfl (HZB.out) ?_)); simp only [Act.put, List.setIfInBounds_toArray, List.set_cons_zero, List.set_cons_succ]))
    go_ret
    exact ⟨congrArg (fun z => Ending.returned (.bool z)) HO.out.symm, H.out.1⟩
  subst he
  simp only [decide_true] at heq
  obtain ⟨n, hn1⟩ : ∃ n, n = ks1.length := ⟨_, rfl⟩
  obtain ⟨m2, hn2⟩ : ∃ n, n = ks2.length := ⟨_, rfl⟩
  rw [← hn1] at HPA HQA HS1 hb1 ⊢
  rw [← hn2] at HPB HQB HS2 hb2 ⊢
  have HN1 := kp hn1
  have HN2 := kp hn2
  by_cases hnm : n = m2
  case neg =>
    have HO := kp (show sameF l l ks1 ks2 = false from decide_eq_false fun e => hnm (by rw [hn1, hn2, e.2]))
    have hb : ((n : Int) != (m2 : Int)) = true := by rw [bne_iff_ne]; omega
    clear hn1 hn2 hnm
    go_enter Try.func29, Try.ntmps29
    go_wp2_with (first | ((with_reducible show wpList _ _ _ (Oper.mk (some 2) (Op.box 51 _) _ _ _ _ :: _) _ _); (with_reducible refine L_box H rfl 51 _ rfl (cellsR l (.slice a1 n c1)) rfl ?_); clear H; intro g2 w2 HGg2 HEg2 H; simp only [Act.put, List.setIfInBounds_toArray, List.set_cons_zero, List.set_cons_succ]) | (((with_reducible show wpList _ _ _ (Oper.mk (some 3) (Op.box 51 _) _ _ _ _ :: _) _ _); (with_reducible refine L_box H rfl 51 _ rfl (cellsR l (.slice a2 m2 c2)) rfl ?_); clear H; intro g3 w3 HGg3 HEg3 H; simp only [Act.put, List.setIfInBounds_toArray, List.set_cons_zero, List.set_cons_succ]); have hca := run_load_cell H.out 1 rfl _ _ HPA.out; have hcb := run_load_cell H.out 0 rfl _ _ HPB.out) | ((with_reducible show wpList _ _ _ (Oper.mk _ (Op.load 48 _) _ _ _ _ :: _) _ _); (first | (refine L_sub H rfl 48 _ rfl 0 rfl (0) rfl (cellsSs l) (HQA.out) Try.underlying48 rfl (HZA.out) ?_) | (refine L_sub H rfl 48 _ rfl 1 rfl (0) rfl (cellsSs l) (HQA.out) Try.underlying48 rfl (HZA.out) ?_) | (refine L_sub H rfl 48 _ rfl 2 rfl (0) rfl (cellsSs l) (HQA.out) Try.underlying48 rfl (HZA.out) ?_) | (refine L_sub H rfl 48 _ rfl 3 rfl (0) rfl (cellsSs l) (HQA.out) Try.underlying48 rfl (HZA.out) ?_) | (refine L_sub H rfl 48 _ rfl 4 rfl (0) rfl (cellsSs l) (HQA.out) Try.underlying48 rfl (HZA.out) ?_) | (refine L_sub H rfl 48 _ rfl 5 rfl (0) rfl (cellsSs l) (HQA.out) Try.underlying48 rfl (HZA.out) ?_)); simp only [Act.put, List.setIfInBounds_toArray, List.set_cons_zero, List.set_cons_succ]) | ((with_reducible show wpList _ _ _ (Oper.mk _ (Op.load 48 _) _ _ _ _ :: _) _ _); (first | (refine L_sub H rfl 48 _ rfl 0 rfl (0) rfl (cellsSs l) (HQB.out) Try.underlying48 rfl (HZB.out) ?_) | (refine L_sub H rfl 48 _ rfl 1 rfl (0) rfl (cellsSs l) (HQB.out) Try.underlying48 rfl (HZB.out) ?_) | (refine L_sub H rfl 48 _ rfl 2 rfl (0) rfl (cellsSs l) (HQB.out) Try.underlying48 rfl (HZB.out) ?_) | (refine L_sub H rfl 48 _ rfl 3 rfl (0) rfl (cellsSs l) (HQB.out) Try.underlying48 rfl (HZB.out) ?_) | (refine L_sub H rfl 48 _ rfl 4 rfl (0) rfl (cellsSs l) (HQB.out) Try.underlying48 rfl (HZB.out) ?_) | (refine L_sub H rfl 48 _ rfl 5 rfl (0) rfl (cellsSs l) (HQB.out) Try.underlying48 rfl (HZB.out) ?_)); simp only [Act.put, List.setIfInBounds_toArray, List.set_cons_zero, List.set_cons_succ]))
    go_ret
    exact ⟨congrArg (fun z => Ending.returned (.bool z)) HO.out.symm, H.out.1⟩
  subst hnm
  clear hn1 hn2
  go_enter Try.func29, Try.ntmps29
  go_wp2_with (first | ((with_reducible show wpList _ _ _ (Oper.mk (some 2) (Op.box 51 _) _ _ _ _ :: _) _ _); (with_reducible refine L_box H rfl 51 _ rfl (cellsR l (.slice a1 n c1)) rfl ?_); clear H; intro g2 w2 HGg2 HEg2 H; simp only [Act.put, List.setIfInBounds_toArray, List.set_cons_zero, List.set_cons_succ]) | (((with_reducible show wpList _ _ _ (Oper.mk (some 3) (Op.box 51 _) _ _ _ _ :: _) _ _); (with_reducible refine L_box H rfl 51 _ rfl (cellsR l (.slice a2 n c2)) rfl ?_); clear H; intro g3 w3 HGg3 HEg3 H; simp only [Act.put, List.setIfInBounds_toArray, List.set_cons_zero, List.set_cons_succ]); have hca := run_load_cell H.out 1 rfl _ _ HPA.out; have hcb := run_load_cell H.out 0 rfl _ _ HPB.out) | ((with_reducible show wpList _ _ _ (Oper.mk _ (Op.load 48 _) _ _ _ _ :: _) _ _); (first | (refine L_sub H rfl 48 _ rfl 0 rfl (0) rfl (cellsSs l) (HQA.out) Try.underlying48 rfl (HZA.out) ?_) | (refine L_sub H rfl 48 _ rfl 1 rfl (0) rfl (cellsSs l) (HQA.out) Try.underlying48 rfl (HZA.out) ?_) | (refine L_sub H rfl 48 _ rfl 2 rfl (0) rfl (cellsSs l) (HQA.out) Try.underlying48 rfl (HZA.out) ?_) | (refine L_sub H rfl 48 _ rfl 3 rfl (0) rfl (cellsSs l) (HQA.out) Try.underlying48 rfl (HZA.out) ?_) | (refine L_sub H rfl 48 _ rfl 4 rfl (0) rfl (cellsSs l) (HQA.out) Try.underlying48 rfl (HZA.out) ?_) | (refine L_sub H rfl 48 _ rfl 5 rfl (0) rfl (cellsSs l) (HQA.out) Try.underlying48 rfl (HZA.out) ?_)); simp only [Act.put, List.setIfInBounds_toArray, List.set_cons_zero, List.set_cons_succ]) | ((with_reducible show wpList _ _ _ (Oper.mk _ (Op.load 48 _) _ _ _ _ :: _) _ _); (first | (refine L_sub H rfl 48 _ rfl 0 rfl (0) rfl (cellsSs l) (HQB.out) Try.underlying48 rfl (HZB.out) ?_) | (refine L_sub H rfl 48 _ rfl 1 rfl (0) rfl (cellsSs l) (HQB.out) Try.underlying48 rfl (HZB.out) ?_) | (refine L_sub H rfl 48 _ rfl 2 rfl (0) rfl (cellsSs l) (HQB.out) Try.underlying48 rfl (HZB.out) ?_) | (refine L_sub H rfl 48 _ rfl 3 rfl (0) rfl (cellsSs l) (HQB.out) Try.underlying48 rfl (HZB.out) ?_) | (refine L_sub H rfl 48 _ rfl 4 rfl (0) rfl (cellsSs l) (HQB.out) Try.underlying48 rfl (HZB.out) ?_) | (refine L_sub H rfl 48 _ rfl 5 rfl (0) rfl (cellsSs l) (HQB.out) Try.underlying48 rfl (HZB.out) ?_)); simp only [Act.put, List.setIfInBounds_toArray, List.set_cons_zero, List.set_cons_succ]))
  clear hca hcb heq
  go_loopw [5] (fun i wr => ∃ j : Nat, j ≤ n ∧ i = .int .i64 j ∧ Kp (ks1.take j = ks2.take j) ∧ Kp (Loc w wr [(g3, 51, cellsR l (.slice a2 n c2)), (g2, 51, cellsR l (.slice a1 n c1))])) (fun i _ => n - (intOf i).toNat)
  case atStart => exact ⟨0, by omega, rfl, kp rfl, H⟩
  case round =>
    obtain ⟨j, hj, rfl, HT, H⟩ := hrel
    have hca := run_load_cell H.out 1 rfl _ _ HPA.out
    by_cases hlt : j < n
    · obtain ⟨q1, hq1⟩ : ∃ q, ks1[j]? = some q := ⟨ks1[j]'(by rw [← HN1.out]; omega), by simp⟩
      obtain ⟨q2, hq2⟩ : ∃ q, ks2[j]? = some q := ⟨ks2[j]'(by rw [← HN2.out]; omega), by simp⟩
      obtain ⟨h16a, b1, o1, rfl, hb1, hr1⟩ := HS1.out.at j q1 hq1
      obtain ⟨h16b, b2, o2, rfl, hb2, hr2⟩ := HS2.out.at j q2 hq2
      have HB1 := kp hb1
      have HR1 := kp hr1
      have HB2 := kp hb2
      have HR2 := kp hr2
      have HY1 := kp hq1
      have HY2 := kp hq2
      have HZ1 := kp (sizeKl q1 h16a)
      have HZ2 := kp (sizeKl q2 h16b)
      have hne := fun w => neKey w q1 q2 h16a h16b
      clear hb1 hr1 hb2 hr2 hq1 hq2 h16a h16b
      by_cases he : q1 = q2
      · subst he
        have hne2 : ∀ w, (binOp .neq 45 (.agg (q1.map V8).toArray) (.agg (q1.map V8).toArray)).run Try.prog w = .ok (.bool false) w := fun w => by rw [hne w]; simp
        clear hne
        have HO := kp (show ks1.take (j + 1) = ks2.take (j + 1) by rw [List.take_add_one, List.take_add_one, HT.out, HY1.out, HY2.out])
        go_wp2_with fail
        clear hca
        refine region_free H (tabS [(27, fun zv _ => zv = .pointer (some ⟨g2, 144, none⟩)), (28, fun zv _ => zv = .slice (some ⟨b1, o1, none⟩) n c1), (29, fun zv _ => zv = .int .i64 j), (30, fun zv _ => zv = .pointer (some ⟨b1, o1 + j * 16, none⟩)), (31, fun zv _ => zv = .agg (q1.map V8).toArray), (32, fun zv _ => zv = .pointer (some ⟨g3, 144, none⟩)), (33, fun zv _ => zv = .slice (some ⟨b2, o2, none⟩) n c2), (34, fun zv _ => zv = .int .i64 j), (35, fun zv _ => zv = .pointer (some ⟨b2, o2 + j * 16, none⟩)), (36, fun zv _ => zv = .agg (q1.map V8).toArray), (37, fun zv _ => zv = .bool false)]) [] (tabS_out _ _ (by simp only [List.forall_mem_cons]; exact ⟨mono_eqO _ _, mono_eqO _ _, mono_eqO _ _, mono_eqO _ _, mono_eqO _ _, mono_eqO _ _, mono_eqO _ _, mono_eqO _ _, mono_eqO _ _, mono_eqO _ _, mono_eqO _ _, by simp⟩)) 11 (by kernel_rfl) (by kernel_rfl) (by kernel_rfl) (by kernel_rfl) [] [] rfl rfl (by decide) (by decide) (by decide) trivial ?_
        simp only [List.take_succ_cons, List.take_zero]
        refine ⟨fun wv27 hov27 hSv27 => ?_, fun v27 => ?_⟩
        · clear hSv27
          clear hov27
          go_wp2_with fail
          exact ⟨rfl, _, rfl, fun d hd => by cases hd; exact rfl, Ext.refl _⟩
        simp only [Act.put, List.setIfInBounds_toArray, List.set_cons_zero, List.set_cons_succ]
        refine ⟨fun wv28 hov28 hSv28 => ?_, fun v28 => ?_⟩
        · obtain rfl : v27 = .pointer (some ⟨g2, 144, none⟩) := hSv28 27 (by decide) (by decide)
          clear hSv28
          have H := kp (H.out.keep [0, 1] (St := []) trivial hov28 (by decide) (by kernel_rfl))
          have HOX := kp hov28
          clear hov28
          have hc := run_load_cell H.out 1 rfl _ _ HPA.out
          go_wp2_with fail
          exact ⟨rfl, _, rfl, fun d hd => by cases hd; exact rfl, Ext.refl _⟩
        simp only [Act.put, List.setIfInBounds_toArray, List.set_cons_zero, List.set_cons_succ]
        refine ⟨fun wv29 hov29 hSv29 => ?_, fun v29 => ?_⟩
        · clear hSv29
          clear hov29
          go_wp2_with fail
          exact ⟨rfl, _, rfl, fun d hd => by cases hd; exact rfl, Ext.refl _⟩
        simp only [Act.put, List.setIfInBounds_toArray, List.set_cons_zero, List.set_cons_succ]
        refine ⟨fun wv30 hov30 hSv30 => ?_, fun v30 => ?_⟩
        · obtain rfl : v28 = .slice (some ⟨b1, o1, none⟩) n c1 := hSv30 28 (by decide) (by decide)
          obtain rfl : v29 = .int .i64 j := hSv30 29 (by decide) (by decide)
          clear hSv30
          clear hov30
          go_wp2_with fail
          exact ⟨rfl, _, rfl, fun d hd => by cases hd; exact rfl, Ext.refl _⟩
        simp only [Act.put, List.setIfInBounds_toArray, List.set_cons_zero, List.set_cons_succ]
        refine ⟨fun wv31 hov31 hSv31 => ?_, fun v31 => ?_⟩
        · obtain rfl : v30 = .pointer (some ⟨b1, o1 + j * 16, none⟩) := hSv31 30 (by decide) (by decide)
          clear hSv31
          have H := kp (H.out.keep [0, 1] (St := []) trivial hov31 (by decide) (by kernel_rfl))
          have HOX := kp hov31
          clear hov31
          have HR3 := kp (rangeAt_ext HR1.out HB1.out H.out.1)
          go_wp2_with ((with_reducible show wpList _ _ _ (Oper.mk _ (Op.load 45 _) _ _ _ _ :: _) _ _); (with_reducible refine wpList_load_mid rfl 45 _ rfl (b1) (o1 + j * 16) rfl (q1.map V8) _ (HR3.out) Try.underlying45 rfl (HZ1.out) ?_); simp only [Act.put, List.setIfInBounds_toArray, List.set_cons_zero, List.set_cons_succ])
          exact ⟨rfl, _, rfl, fun d hd => by cases hd; exact rfl, Ext.refl _⟩
        simp only [Act.put, List.setIfInBounds_toArray, List.set_cons_zero, List.set_cons_succ]
        refine ⟨fun wv32 hov32 hSv32 => ?_, fun v32 => ?_⟩
        · clear hSv32
          clear hov32
          go_wp2_with fail
          exact ⟨rfl, _, rfl, fun d hd => by cases hd; exact rfl, Ext.refl _⟩
        simp only [Act.put, List.setIfInBounds_toArray, List.set_cons_zero, List.set_cons_succ]
        refine ⟨fun wv33 hov33 hSv33 => ?_, fun v33 => ?_⟩
        · obtain rfl : v32 = .pointer (some ⟨g3, 144, none⟩) := hSv33 32 (by decide) (by decide)
          clear hSv33
          have H := kp (H.out.keep [0, 1] (St := []) trivial hov33 (by decide) (by kernel_rfl))
          have HOX := kp hov33
          clear hov33
          have hc := run_load_cell H.out 0 rfl _ _ HPB.out
          go_wp2_with fail
          exact ⟨rfl, _, rfl, fun d hd => by cases hd; exact rfl, Ext.refl _⟩
        simp only [Act.put, List.setIfInBounds_toArray, List.set_cons_zero, List.set_cons_succ]
        refine ⟨fun wv34 hov34 hSv34 => ?_, fun v34 => ?_⟩
        · clear hSv34
          clear hov34
          go_wp2_with fail
          exact ⟨rfl, _, rfl, fun d hd => by cases hd; exact rfl, Ext.refl _⟩
        simp only [Act.put, List.setIfInBounds_toArray, List.set_cons_zero, List.set_cons_succ]
        refine ⟨fun wv35 hov35 hSv35 => ?_, fun v35 => ?_⟩
        · obtain rfl : v33 = .slice (some ⟨b2, o2, none⟩) n c2 := hSv35 33 (by decide) (by decide)
          obtain rfl : v34 = .int .i64 j := hSv35 34 (by decide) (by decide)
          clear hSv35
          clear hov35
          go_wp2_with fail
          exact ⟨rfl, _, rfl, fun d hd => by cases hd; exact rfl, Ext.refl _⟩
        simp only [Act.put, List.setIfInBounds_toArray, List.set_cons_zero, List.set_cons_succ]
        refine ⟨fun wv36 hov36 hSv36 => ?_, fun v36 => ?_⟩
        · obtain rfl : v35 = .pointer (some ⟨b2, o2 + j * 16, none⟩) := hSv36 35 (by decide) (by decide)
          clear hSv36
          have H := kp (H.out.keep [0, 1] (St := []) trivial hov36 (by decide) (by kernel_rfl))
          have HOX := kp hov36
          clear hov36
          have HR3 := kp (rangeAt_ext HR2.out HB2.out H.out.1)
          go_wp2_with ((with_reducible show wpList _ _ _ (Oper.mk _ (Op.load 45 _) _ _ _ _ :: _) _ _); (with_reducible refine wpList_load_mid rfl 45 _ rfl (b2) (o2 + j * 16) rfl (q1.map V8) _ (HR3.out) Try.underlying45 rfl (HZ2.out) ?_); simp only [Act.put, List.setIfInBounds_toArray, List.set_cons_zero, List.set_cons_succ])
          exact ⟨rfl, _, rfl, fun d hd => by cases hd; exact rfl, Ext.refl _⟩
        simp only [Act.put, List.setIfInBounds_toArray, List.set_cons_zero, List.set_cons_succ]
        refine ⟨fun wv37 hov37 hSv37 => ?_, fun v37 => ?_⟩
        · obtain rfl : v31 = .agg (q1.map V8).toArray := hSv37 31 (by decide) (by decide)
          obtain rfl : v36 = .agg (q1.map V8).toArray := hSv37 36 (by decide) (by decide)
          clear hSv37
          clear hov37
          go_wp2_with fail
          exact ⟨rfl, _, rfl, fun d hd => by cases hd; exact rfl, Ext.refl _⟩
        simp only [Act.put, List.setIfInBounds_toArray, List.set_cons_zero, List.set_cons_succ]
        clear H
        intro wn HOX H hfin
        obtain rfl : v27 = .pointer (some ⟨g2, 144, none⟩) := hfin 27 (by decide)
        obtain rfl : v28 = .slice (some ⟨b1, o1, none⟩) n c1 := hfin 28 (by decide)
        obtain rfl : v29 = .int .i64 j := hfin 29 (by decide)
        obtain rfl : v30 = .pointer (some ⟨b1, o1 + j * 16, none⟩) := hfin 30 (by decide)
        obtain rfl : v31 = .agg (q1.map V8).toArray := hfin 31 (by decide)
        obtain rfl : v32 = .pointer (some ⟨g3, 144, none⟩) := hfin 32 (by decide)
        obtain rfl : v33 = .slice (some ⟨b2, o2, none⟩) n c2 := hfin 33 (by decide)
        obtain rfl : v34 = .int .i64 j := hfin 34 (by decide)
        obtain rfl : v35 = .pointer (some ⟨b2, o2 + j * 16, none⟩) := hfin 35 (by decide)
        obtain rfl : v36 = .agg (q1.map V8).toArray := hfin 36 (by decide)
        obtain rfl : v37 = .bool false := hfin 37 (by decide)
        clear hfin
        simp only [List.drop_succ_cons, List.drop_zero]
        simp only [applyS] at H
        have HXN := kp (HOX.out.ext (Ext.refl wr) (fun g hg => by cases hg))
        go_wp2_with fail
        go_roundw
        case rel => exact ⟨j + 1, by omega, by go_num, HO, H⟩
        case measure => simp [intOf]; omega
      · have hne2 : ∀ w, (binOp .neq 45 (.agg (q1.map V8).toArray) (.agg (q2.map V8).toArray)).run Try.prog w = .ok (.bool true) w := fun w => by rw [hne w]; simp [he]
        clear hne
        have HO := kp (show sameF l l ks1 ks2 = false from decide_eq_false fun e => he (by
          have h1 := HY1.out
          rw [e.2, HY2.out] at h1
          exact (Option.some.inj h1).symm))
        clear he
        go_wp2_with fail
        clear hca
        refine region_free H (tabS [(27, fun zv _ => zv = .pointer (some ⟨g2, 144, none⟩)), (28, fun zv _ => zv = .slice (some ⟨b1, o1, none⟩) n c1), (29, fun zv _ => zv = .int .i64 j), (30, fun zv _ => zv = .pointer (some ⟨b1, o1 + j * 16, none⟩)), (31, fun zv _ => zv = .agg (q1.map V8).toArray), (32, fun zv _ => zv = .pointer (some ⟨g3, 144, none⟩)), (33, fun zv _ => zv = .slice (some ⟨b2, o2, none⟩) n c2), (34, fun zv _ => zv = .int .i64 j), (35, fun zv _ => zv = .pointer (some ⟨b2, o2 + j * 16, none⟩)), (36, fun zv _ => zv = .agg (q2.map V8).toArray), (37, fun zv _ => zv = .bool true)]) [] (tabS_out _ _ (by simp only [List.forall_mem_cons]; exact ⟨mono_eqO _ _, mono_eqO _ _, mono_eqO _ _, mono_eqO _ _, mono_eqO _ _, mono_eqO _ _, mono_eqO _ _, mono_eqO _ _, mono_eqO _ _, mono_eqO _ _, mono_eqO _ _, by simp⟩)) 11 (by kernel_rfl) (by kernel_rfl) (by kernel_rfl) (by kernel_rfl) [] [] rfl rfl (by decide) (by decide) (by decide) trivial ?_
        simp only [List.take_succ_cons, List.take_zero]
        refine ⟨fun wv27 hov27 hSv27 => ?_, fun v27 => ?_⟩
        · clear hSv27
          clear hov27
          go_wp2_with fail
          exact ⟨rfl, _, rfl, fun d hd => by cases hd; exact rfl, Ext.refl _⟩
        simp only [Act.put, List.setIfInBounds_toArray, List.set_cons_zero, List.set_cons_succ]
        refine ⟨fun wv28 hov28 hSv28 => ?_, fun v28 => ?_⟩
        · obtain rfl : v27 = .pointer (some ⟨g2, 144, none⟩) := hSv28 27 (by decide) (by decide)
          clear hSv28
          have H := kp (H.out.keep [0, 1] (St := []) trivial hov28 (by decide) (by kernel_rfl))
          have HOX := kp hov28
          clear hov28
          have hc := run_load_cell H.out 1 rfl _ _ HPA.out
          go_wp2_with fail
          exact ⟨rfl, _, rfl, fun d hd => by cases hd; exact rfl, Ext.refl _⟩
        simp only [Act.put, List.setIfInBounds_toArray, List.set_cons_zero, List.set_cons_succ]
        refine ⟨fun wv29 hov29 hSv29 => ?_, fun v29 => ?_⟩
        · clear hSv29
          clear hov29
          go_wp2_with fail
          exact ⟨rfl, _, rfl, fun d hd => by cases hd; exact rfl, Ext.refl _⟩
        simp only [Act.put, List.setIfInBounds_toArray, List.set_cons_zero, List.set_cons_succ]
        refine ⟨fun wv30 hov30 hSv30 => ?_, fun v30 => ?_⟩
        · obtain rfl : v28 = .slice (some ⟨b1, o1, none⟩) n c1 := hSv30 28 (by decide) (by decide)
          obtain rfl : v29 = .int .i64 j := hSv30 29 (by decide) (by decide)
          clear hSv30
          clear hov30
          go_wp2_with fail
          exact ⟨rfl, _, rfl, fun d hd => by cases hd; exact rfl, Ext.refl _⟩
        simp only [Act.put, List.setIfInBounds_toArray, List.set_cons_zero, List.set_cons_succ]
        refine ⟨fun wv31 hov31 hSv31 => ?_, fun v31 => ?_⟩
        · obtain rfl : v30 = .pointer (some ⟨b1, o1 + j * 16, none⟩) := hSv31 30 (by decide) (by decide)
          clear hSv31
          have H := kp (H.out.keep [0, 1] (St := []) trivial hov31 (by decide) (by kernel_rfl))
          have HOX := kp hov31
          clear hov31
          have HR3 := kp (rangeAt_ext HR1.out HB1.out H.out.1)
          go_wp2_with ((with_reducible show wpList _ _ _ (Oper.mk _ (Op.load 45 _) _ _ _ _ :: _) _ _); (with_reducible refine wpList_load_mid rfl 45 _ rfl (b1) (o1 + j * 16) rfl (q1.map V8) _ (HR3.out) Try.underlying45 rfl (HZ1.out) ?_); simp only [Act.put, List.setIfInBounds_toArray, List.set_cons_zero, List.set_cons_succ])
          exact ⟨rfl, _, rfl, fun d hd => by cases hd; exact rfl, Ext.refl _⟩
        simp only [Act.put, List.setIfInBounds_toArray, List.set_cons_zero, List.set_cons_succ]
        refine ⟨fun wv32 hov32 hSv32 => ?_, fun v32 => ?_⟩
        · clear hSv32
          clear hov32
          go_wp2_with fail
          exact ⟨rfl, _, rfl, fun d hd => by cases hd; exact rfl, Ext.refl _⟩
        simp only [Act.put, List.setIfInBounds_toArray, List.set_cons_zero, List.set_cons_succ]
        refine ⟨fun wv33 hov33 hSv33 => ?_, fun v33 => ?_⟩
        · obtain rfl : v32 = .pointer (some ⟨g3, 144, none⟩) := hSv33 32 (by decide) (by decide)
          clear hSv33
          have H := kp (H.out.keep [0, 1] (St := []) trivial hov33 (by decide) (by kernel_rfl))
          have HOX := kp hov33
          clear hov33
          have hc := run_load_cell H.out 0 rfl _ _ HPB.out
          go_wp2_with fail
          exact ⟨rfl, _, rfl, fun d hd => by cases hd; exact rfl, Ext.refl _⟩
        simp only [Act.put, List.setIfInBounds_toArray, List.set_cons_zero, List.set_cons_succ]
        refine ⟨fun wv34 hov34 hSv34 => ?_, fun v34 => ?_⟩
        · clear hSv34
          clear hov34
          go_wp2_with fail
          exact ⟨rfl, _, rfl, fun d hd => by cases hd; exact rfl, Ext.refl _⟩
        simp only [Act.put, List.setIfInBounds_toArray, List.set_cons_zero, List.set_cons_succ]
        refine ⟨fun wv35 hov35 hSv35 => ?_, fun v35 => ?_⟩
        · obtain rfl : v33 = .slice (some ⟨b2, o2, none⟩) n c2 := hSv35 33 (by decide) (by decide)
          obtain rfl : v34 = .int .i64 j := hSv35 34 (by decide) (by decide)
          clear hSv35
          clear hov35
          go_wp2_with fail
          exact ⟨rfl, _, rfl, fun d hd => by cases hd; exact rfl, Ext.refl _⟩
        simp only [Act.put, List.setIfInBounds_toArray, List.set_cons_zero, List.set_cons_succ]
        refine ⟨fun wv36 hov36 hSv36 => ?_, fun v36 => ?_⟩
        · obtain rfl : v35 = .pointer (some ⟨b2, o2 + j * 16, none⟩) := hSv36 35 (by decide) (by decide)
          clear hSv36
          have H := kp (H.out.keep [0, 1] (St := []) trivial hov36 (by decide) (by kernel_rfl))
          have HOX := kp hov36
          clear hov36
          have HR3 := kp (rangeAt_ext HR2.out HB2.out H.out.1)
          go_wp2_with ((with_reducible show wpList _ _ _ (Oper.mk _ (Op.load 45 _) _ _ _ _ :: _) _ _); (with_reducible refine wpList_load_mid rfl 45 _ rfl (b2) (o2 + j * 16) rfl (q2.map V8) _ (HR3.out) Try.underlying45 rfl (HZ2.out) ?_); simp only [Act.put, List.setIfInBounds_toArray, List.set_cons_zero, List.set_cons_succ])
          exact ⟨rfl, _, rfl, fun d hd => by cases hd; exact rfl, Ext.refl _⟩
        simp only [Act.put, List.setIfInBounds_toArray, List.set_cons_zero, List.set_cons_succ]
        refine ⟨fun wv37 hov37 hSv37 => ?_, fun v37 => ?_⟩
        · obtain rfl : v31 = .agg (q1.map V8).toArray := hSv37 31 (by decide) (by decide)
          obtain rfl : v36 = .agg (q2.map V8).toArray := hSv37 36 (by decide) (by decide)
          clear hSv37
          clear hov37
          go_wp2_with fail
          exact ⟨rfl, _, rfl, fun d hd => by cases hd; exact rfl, Ext.refl _⟩
        simp only [Act.put, List.setIfInBounds_toArray, List.set_cons_zero, List.set_cons_succ]
        clear H
        intro wn HOX H hfin
        obtain rfl : v27 = .pointer (some ⟨g2, 144, none⟩) := hfin 27 (by decide)
        obtain rfl : v28 = .slice (some ⟨b1, o1, none⟩) n c1 := hfin 28 (by decide)
        obtain rfl : v29 = .int .i64 j := hfin 29 (by decide)
        obtain rfl : v30 = .pointer (some ⟨b1, o1 + j * 16, none⟩) := hfin 30 (by decide)
        obtain rfl : v31 = .agg (q1.map V8).toArray := hfin 31 (by decide)
        obtain rfl : v32 = .pointer (some ⟨g3, 144, none⟩) := hfin 32 (by decide)
        obtain rfl : v33 = .slice (some ⟨b2, o2, none⟩) n c2 := hfin 33 (by decide)
        obtain rfl : v34 = .int .i64 j := hfin 34 (by decide)
        obtain rfl : v35 = .pointer (some ⟨b2, o2 + j * 16, none⟩) := hfin 35 (by decide)
        obtain rfl : v36 = .agg (q2.map V8).toArray := hfin 36 (by decide)
        obtain rfl : v37 = .bool true := hfin 37 (by decide)
        clear hfin
        simp only [List.drop_succ_cons, List.drop_zero]
        simp only [applyS] at H
        have HXN := kp (HOX.out.ext (Ext.refl wr) (fun g hg => by cases hg))
        go_wp2_with fail
        go_ret
        exact ⟨congrArg (fun z => Ending.returned (.bool z)) HO.out.symm, H.out.1⟩
    · obtain rfl : j = n := by omega
      have HO := kp (show sameF l l ks1 ks2 = true by
        have h := HT.out
        rw [List.take_of_length_le (by rw [HN1.out]; exact Nat.le_refl _), List.take_of_length_le (by rw [HN2.out]; exact Nat.le_refl _)] at h
        simp [sameF, h])
      go_wp2_with fail
      go_ret
      exact ⟨congrArg (fun z => Ending.returned (.bool z)) HO.out.symm, H.out.1⟩
end Go.Proofs.Ytjnaegpjhbobaaa
