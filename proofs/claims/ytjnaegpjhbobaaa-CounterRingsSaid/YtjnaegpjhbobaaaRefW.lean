/- The reference's Install. -/
import Derived.Test.YtjnaegpjhbobaaaRefV
namespace Go.Proofs.Ytjnaegpjhbobaaa
open Go.RowKit
theorem sep_two {x y g lo : Nat} {rest : List Nat} (hx : g < x) (hy : g < y) (hr : ∀ q ∈ rest, q < lo) (hg : lo ≤ g) : ∀ q ∈ x :: y :: rest, q ≠ g := by
  intro q hq e
  subst e
  rcases List.mem_cons.1 hq with h | hq
  · omega
  rcases List.mem_cons.1 hq with h | hq
  · omega
  · have := hr q hq; omega
theorem drop_app1 (ks : Keys16) (k : List (BitVec 8)) (h : 1 ≤ ks.length) : (ks ++ [k]).drop 1 = ks.drop 1 ++ [k] := List.drop_append_of_le_length h
set_option maxRecDepth 10000 in
set_option maxHeartbeats 3200000 in
theorem rinstall_any (l : List Slot) (hl : Ring4 l) (v : Value) (ks : Keys16) (b : Nat) (hn2 : ks.length ≤ 1000) (slot : Int) (k : List (BitVec 8)) (hk16 : k.length = 16) (w : World) (hs : PastV b w v ks) :
    Calls Try.prog 30 #[.agg (cellsR l v).toArray, .int .i64 slot, .agg (k.map V8).toArray] w (RetR (installF l ks slot k) w) := by
  have HA := kp (fun w' (h : Ext w w') => rat_any l hl v ks b hn2 slot w' (hs.ext h))
  have HT := kp (fun w' (h : Ext w w') => rtwin_any l hl v ks hn2 w' (hs.sly.ext h))
  have HZ := kp (fun u => sizeR l u hl)
  have HZZ := kp (sizeR zeroSs nilV ring_zero)
  have HZO := kp (one_cellsR zeroSs nilV rfl)
  have HZK := kp (sizeKy k hk16)
  have HS := kp hs
  have HL := kp hl
  have H16 := kp hk16
  obtain ⟨ad, n, c, hv, hrest⟩ := hs
  clear hrest
  subst hv
  have HC := kp (fun w' (h : Ext w w') => in_any ad n c ks (by obtain ⟨_, _, _, he, hn, _⟩ := HS.out; cases he; exact hn) (by obtain ⟨_, _, _, he, hn, _⟩ := HS.out; cases he; omega) k hk16 w' (HS.out.sly.ext h))
  have HP := kp (cellsR_past l (.slice ad n c) hl)
  have HK00 := kp (show ((k.map V8).drop 0).take (k.map V8).length = k.map V8 by rw [List.drop_zero, List.take_length])
  have HKZ0 := kp (sizeKl k hk16)
  clear hl hk16
  have H := kp (Loc.start w)
  rcases atF_cases l ks slot with h | h | ⟨h, h0, h4⟩
  iterate 2
    have HF := kp (show installF l ks slot k = badR (atF l ks slot) by simp [installF, h])
    rw [h] at HA HF
    clear h
    go_enter Try.func30, Try.ntmps30
    go_wp2_with (first | ((with_reducible show wpList _ _ _ (Oper.mk (some 3) (Op.box 51 _) _ _ _ _ :: _) _ _); (with_reducible refine L_box H rfl 51 _ rfl (cellsR l (.slice ad n c)) rfl ?_); clear H; intro g3 w3 HGg3 HEg3 H; simp only [Act.put, List.setIfInBounds_toArray, List.set_cons_zero, List.set_cons_succ]) | ((with_reducible show wpList _ _ _ (Oper.mk (some 5) (Op.box 45 _) _ _ _ _ :: _) _ _); (with_reducible refine L_box H rfl 45 _ rfl (k.map V8) rfl ?_); clear H; intro g5 w5 HGg5 HEg5 H; simp only [Act.put, List.setIfInBounds_toArray, List.set_cons_zero, List.set_cons_succ]) | ((with_reducible show wpList _ _ _ (Oper.mk (some 6) (Op.alloc 51) _ _ _ _ :: _) _ _); (with_reducible refine L_alloc H rfl 51 rfl (zeroR) (fun _ _ => by kernel_rfl) ?_); clear H; intro g6 w6 HGg6 HEg6 H; simp only [Act.put, List.setIfInBounds_toArray, List.set_cons_zero, List.set_cons_succ]) | ((with_reducible show wpList _ _ _ (Oper.mk _ (Op.load 51 _) _ _ _ _ :: _) _ _); (first | (refine L_load H rfl 51 _ rfl 0 rfl rfl Try.underlying51 rfl (HZ.out _) ?_) | (refine L_load H rfl 51 _ rfl 1 rfl rfl Try.underlying51 rfl (HZ.out _) ?_) | (refine L_load H rfl 51 _ rfl 2 rfl rfl Try.underlying51 rfl (HZ.out _) ?_) | (refine L_load H rfl 51 _ rfl 3 rfl rfl Try.underlying51 rfl (HZ.out _) ?_) | (refine L_load H rfl 51 _ rfl 4 rfl rfl Try.underlying51 rfl (HZ.out _) ?_) | (refine L_load H rfl 51 _ rfl 5 rfl rfl Try.underlying51 rfl (HZ.out _) ?_)); simp only [Act.put, List.setIfInBounds_toArray, List.set_cons_zero, List.set_cons_succ]) | ((with_reducible show wpList _ _ _ (Oper.mk (some 16) (Op.build 51 _) _ _ _ _ :: _) _ _); (refine L_bd (by kernel_rfl) 51 _ rfl (#[]) (by kernel_rfl) (zeroR) (fun _ => by kernel_rfl) ?_); simp only [Act.put, List.setIfInBounds_toArray, List.set_cons_zero, List.set_cons_succ]) | ((with_reducible show wpList _ _ _ (Oper.mk none (Op.store 51 _ _) _ _ _ _ :: _) _ _); (first | (refine L_store H rfl rfl 51 _ _ rfl 0 rfl rfl (zeroR) rfl (HZZ.out) (rfl) (HZO.out) ?_; clear H; intro wz HWwz H; simp only [List.set_cons_zero] at H) | (refine L_store H rfl rfl 51 _ _ rfl 1 rfl rfl (zeroR) rfl (HZZ.out) (rfl) (HZO.out) ?_; clear H; intro wz HWwz H; simp only [List.set_cons_succ, List.set_cons_zero] at H) | (refine L_store H rfl rfl 51 _ _ rfl 2 rfl rfl (zeroR) rfl (HZZ.out) (rfl) (HZO.out) ?_; clear H; intro wz HWwz H; simp only [List.set_cons_succ, List.set_cons_zero] at H) | (refine L_store H rfl rfl 51 _ _ rfl 3 rfl rfl (zeroR) rfl (HZZ.out) (rfl) (HZO.out) ?_; clear H; intro wz HWwz H; simp only [List.set_cons_succ, List.set_cons_zero] at H) | (refine L_store H rfl rfl 51 _ _ rfl 4 rfl rfl (zeroR) rfl (HZZ.out) (rfl) (HZO.out) ?_; clear H; intro wz HWwz H; simp only [List.set_cons_succ, List.set_cons_zero] at H) | (refine L_store H rfl rfl 51 _ _ rfl 5 rfl rfl (zeroR) rfl (HZZ.out) (rfl) (HZO.out) ?_; clear H; intro wz HWwz H; simp only [List.set_cons_succ, List.set_cons_zero] at H))) | (go_at_call 50; refine (HA.out _ H.out.1).mono ?_; rintro e wa ⟨rfl, hx⟩; have H2 := kp (H.out.ext hx); have HXC := kp hx; clear H hx; have H := H2; clear H2))
    exact ret_row2 Try.results30 _ _ _ (0, 0) _ rfl _ rfl (H.out.at 0 rfl) Try.underlying51 rfl (HZZ.out) rfl (by rw [HF.out]; exact retR_bad H.out.1 rfl)
  have HPL := kp (atF_past l ks slot h)
  obtain ⟨j, rfl⟩ := Int.eq_ofNat_of_zero_le h0
  obtain ⟨s, hj⟩ : ∃ s, l[j]? = some s := ⟨l[j]'(by rw [HL.out.1]; omega), by simp⟩
  have HF := kp (show installF l ks j k = if ks.contains k || heldIn l k then badR 21 else ((l.set j (newSlot k), lastF (ks ++ [k])), 0) by simp [installF, h])
  have HJ := kp hj
  rw [h] at HA
  clear h hj h0
  go_enter Try.func30, Try.ntmps30
  go_wp2_with (first | ((with_reducible show wpList _ _ _ (Oper.mk (some 3) (Op.box 51 _) _ _ _ _ :: _) _ _); (with_reducible refine L_box H rfl 51 _ rfl (cellsR l (.slice ad n c)) rfl ?_); clear H; intro g3 w3 HGg3 HEg3 H; simp only [Act.put, List.setIfInBounds_toArray, List.set_cons_zero, List.set_cons_succ]) | ((with_reducible show wpList _ _ _ (Oper.mk (some 5) (Op.box 45 _) _ _ _ _ :: _) _ _); (with_reducible refine L_box H rfl 45 _ rfl (k.map V8) rfl ?_); clear H; intro g5 w5 HGg5 HEg5 H; simp only [Act.put, List.setIfInBounds_toArray, List.set_cons_zero, List.set_cons_succ]) | ((with_reducible show wpList _ _ _ (Oper.mk (some 6) (Op.alloc 51) _ _ _ _ :: _) _ _); (with_reducible refine L_alloc H rfl 51 rfl (zeroR) (fun _ _ => by kernel_rfl) ?_); clear H; intro g6 w6 HGg6 HEg6 H; simp only [Act.put, List.setIfInBounds_toArray, List.set_cons_zero, List.set_cons_succ]) | ((with_reducible show wpList _ _ _ (Oper.mk _ (Op.load 51 _) _ _ _ _ :: _) _ _); (first | (refine L_load H rfl 51 _ rfl 0 rfl rfl Try.underlying51 rfl (HZ.out _) ?_) | (refine L_load H rfl 51 _ rfl 1 rfl rfl Try.underlying51 rfl (HZ.out _) ?_) | (refine L_load H rfl 51 _ rfl 2 rfl rfl Try.underlying51 rfl (HZ.out _) ?_) | (refine L_load H rfl 51 _ rfl 3 rfl rfl Try.underlying51 rfl (HZ.out _) ?_) | (refine L_load H rfl 51 _ rfl 4 rfl rfl Try.underlying51 rfl (HZ.out _) ?_) | (refine L_load H rfl 51 _ rfl 5 rfl rfl Try.underlying51 rfl (HZ.out _) ?_)); simp only [Act.put, List.setIfInBounds_toArray, List.set_cons_zero, List.set_cons_succ]))
  (go_at_call 50; refine (HA.out _ H.out.1).mono ?_; rintro e wa ⟨rfl, hx⟩; have H2 := kp (H.out.ext hx); have HXC := kp hx; clear H hx; have H := H2; clear H2)
  go_wp2_with fail
  go_loopw [9] (fun i wr => ∃ p : Nat, p ≤ 4 ∧ i = .int .i64 p ∧ Kp (heldIn (l.take p) k = false) ∧ Kp (Loc w wr [(g6, 51, zeroR), (g5, 45, k.map V8), (g3, 51, cellsR l (.slice ad n c))])) (fun i _ => 4 - (intOf i).toNat)
  case atStart => exact ⟨0, by omega, rfl, kp rfl, H⟩
  case round =>
    obtain ⟨p, hp, rfl, HTK, H⟩ := hrel
    by_cases hlt : (p : Int) < 4
    · obtain ⟨t, ht⟩ : ∃ t, l[p]? = some t := ⟨l[p]'(by rw [HL.out.1]; omega), by simp⟩
      have HY := kp ht
      have HTO := kp (HL.out.2 t (List.mem_of_getElem? ht))
      have HU := kp (fun u => cellsR_used l u HL.out p t ht)
      have HKK := kp (fun u => cellsR_keyK l u HL.out p t ht)
      have HKZ := kp (sizeKl t.key HTO.out.1)
      have heq := fun w => eqKey w t.key k HTO.out.1 H16.out
      clear ht
      cases hus : t.used with
      | false =>
        rw [hus] at HU
        have HO := kp (heldIn_take l p t k HY.out HTK.out (by simp [heldB, hus]))
        clear hus heq
        go_wp2_with fail
        refine region_free H (tabS [(22, fun zv _ => zv = .int .i64 p), (23, fun zv _ => zv = .pointer (some ⟨g3, 0, none⟩)), (24, fun zv _ => zv = .pointer (some ⟨g3, p * 36, none⟩)), (25, fun zv _ => zv = .pointer (some ⟨g3, p * 36, none⟩)), (26, fun zv _ => zv = .bool false), (27, fun zv _ => zv = .bool false), (28, fun zv _ => zv = undef), (29, fun zv _ => zv = undef), (30, fun zv _ => zv = undef), (31, fun zv _ => zv = undef), (32, fun zv _ => zv = undef), (33, fun zv _ => zv = undef), (34, fun zv _ => zv = undef), (35, fun zv _ => zv = .bool false)]) [] (tabS_out _ _ (by simp only [List.forall_mem_cons]; exact ⟨mono_eqO _ _, mono_eqO _ _, mono_eqO _ _, mono_eqO _ _, mono_eqO _ _, mono_eqO _ _, mono_eqO _ _, mono_eqO _ _, mono_eqO _ _, mono_eqO _ _, mono_eqO _ _, mono_eqO _ _, mono_eqO _ _, mono_eqO _ _, by simp⟩)) 14 (by kernel_rfl) (by kernel_rfl) (by kernel_rfl) (by kernel_rfl) [] [] rfl rfl (by decide) (by decide) (by decide) trivial ?_
        simp only [List.take_succ_cons, List.take_zero]
        refine ⟨fun wv22 hov22 hSv22 => ?_, fun v22 => ?_⟩
        · clear hSv22
          clear hov22
          go_wp2_with fail
          exact ⟨rfl, _, rfl, fun d hd => by cases hd; exact rfl, Ext.refl _⟩
        simp only [Act.put, List.setIfInBounds_toArray, List.set_cons_zero, List.set_cons_succ]
        refine ⟨fun wv23 hov23 hSv23 => ?_, fun v23 => ?_⟩
        · clear hSv23
          clear hov23
          go_wp2_with fail
          exact ⟨rfl, _, rfl, fun d hd => by cases hd; exact rfl, Ext.refl _⟩
        simp only [Act.put, List.setIfInBounds_toArray, List.set_cons_zero, List.set_cons_succ]
        refine ⟨fun wv24 hov24 hSv24 => ?_, fun v24 => ?_⟩
        · obtain rfl : v22 = .int .i64 p := hSv24 22 (by decide) (by decide)
          obtain rfl : v23 = .pointer (some ⟨g3, 0, none⟩) := hSv24 23 (by decide) (by decide)
          clear hSv24
          clear hov24
          go_wp2_with fail
          exact ⟨rfl, _, rfl, fun d hd => by cases hd; exact rfl, Ext.refl _⟩
        simp only [Act.put, List.setIfInBounds_toArray, List.set_cons_zero, List.set_cons_succ]
        refine ⟨fun wv25 hov25 hSv25 => ?_, fun v25 => ?_⟩
        · obtain rfl : v24 = .pointer (some ⟨g3, p * 36, none⟩) := hSv25 24 (by decide) (by decide)
          clear hSv25
          clear hov25
          go_wp2_with fail
          exact ⟨rfl, _, rfl, fun d hd => by cases hd; exact rfl, Ext.refl _⟩
        simp only [Act.put, List.setIfInBounds_toArray, List.set_cons_zero, List.set_cons_succ]
        refine ⟨fun wv26 hov26 hSv26 => ?_, fun v26 => ?_⟩
        · obtain rfl : v25 = .pointer (some ⟨g3, p * 36, none⟩) := hSv26 25 (by decide) (by decide)
          clear hSv26
          have H := kp (H.out.keep [0, 1, 2] (St := []) trivial hov26 (by decide) (by kernel_rfl))
          have HOX := kp hov26
          clear hov26
          have hc := run_load_cell H.out 2 rfl _ _ (HU.out _)
          go_wp2_with fail
          exact ⟨rfl, _, rfl, fun d hd => by cases hd; exact rfl, Ext.refl _⟩
        simp only [Act.put, List.setIfInBounds_toArray, List.set_cons_zero, List.set_cons_succ]
        refine ⟨fun wv27 hov27 hSv27 => ?_, fun v27 => ?_⟩
        · obtain rfl : v26 = .bool false := hSv27 26 (by decide) (by decide)
          clear hSv27
          clear hov27
          go_wp2_with fail
          exact ⟨rfl, _, rfl, fun d hd => by cases hd; exact rfl, Ext.refl _⟩
        simp only [Act.put, List.setIfInBounds_toArray, List.set_cons_zero, List.set_cons_succ]
        refine ⟨fun wv28 hov28 hSv28 => ?_, fun v28 => ?_⟩
        · obtain rfl : v27 = .bool false := hSv28 27 (by decide) (by decide)
          clear hSv28
          clear hov28
          go_wp2_with fail
          exact ⟨rfl, _, rfl, fun d hd => by cases hd; exact rfl, Ext.refl _⟩
        simp only [Act.put, List.setIfInBounds_toArray, List.set_cons_zero, List.set_cons_succ]
        refine ⟨fun wv29 hov29 hSv29 => ?_, fun v29 => ?_⟩
        · obtain rfl : v27 = .bool false := hSv29 27 (by decide) (by decide)
          clear hSv29
          clear hov29
          go_wp2_with fail
          exact ⟨rfl, _, rfl, fun d hd => by cases hd; exact rfl, Ext.refl _⟩
        simp only [Act.put, List.setIfInBounds_toArray, List.set_cons_zero, List.set_cons_succ]
        refine ⟨fun wv30 hov30 hSv30 => ?_, fun v30 => ?_⟩
        · obtain rfl : v27 = .bool false := hSv30 27 (by decide) (by decide)
          clear hSv30
          clear hov30
          go_wp2_with fail
          exact ⟨rfl, _, rfl, fun d hd => by cases hd; exact rfl, Ext.refl _⟩
        simp only [Act.put, List.setIfInBounds_toArray, List.set_cons_zero, List.set_cons_succ]
        refine ⟨fun wv31 hov31 hSv31 => ?_, fun v31 => ?_⟩
        · obtain rfl : v27 = .bool false := hSv31 27 (by decide) (by decide)
          clear hSv31
          clear hov31
          go_wp2_with fail
          exact ⟨rfl, _, rfl, fun d hd => by cases hd; exact rfl, Ext.refl _⟩
        simp only [Act.put, List.setIfInBounds_toArray, List.set_cons_zero, List.set_cons_succ]
        refine ⟨fun wv32 hov32 hSv32 => ?_, fun v32 => ?_⟩
        · obtain rfl : v27 = .bool false := hSv32 27 (by decide) (by decide)
          clear hSv32
          clear hov32
          go_wp2_with fail
          exact ⟨rfl, _, rfl, fun d hd => by cases hd; exact rfl, Ext.refl _⟩
        simp only [Act.put, List.setIfInBounds_toArray, List.set_cons_zero, List.set_cons_succ]
        refine ⟨fun wv33 hov33 hSv33 => ?_, fun v33 => ?_⟩
        · obtain rfl : v27 = .bool false := hSv33 27 (by decide) (by decide)
          clear hSv33
          clear hov33
          go_wp2_with fail
          exact ⟨rfl, _, rfl, fun d hd => by cases hd; exact rfl, Ext.refl _⟩
        simp only [Act.put, List.setIfInBounds_toArray, List.set_cons_zero, List.set_cons_succ]
        refine ⟨fun wv34 hov34 hSv34 => ?_, fun v34 => ?_⟩
        · obtain rfl : v27 = .bool false := hSv34 27 (by decide) (by decide)
          clear hSv34
          clear hov34
          go_wp2_with fail
          exact ⟨rfl, _, rfl, fun d hd => by cases hd; exact rfl, Ext.refl _⟩
        simp only [Act.put, List.setIfInBounds_toArray, List.set_cons_zero, List.set_cons_succ]
        refine ⟨fun wv35 hov35 hSv35 => ?_, fun v35 => ?_⟩
        · obtain rfl : v27 = .bool false := hSv35 27 (by decide) (by decide)
          clear hSv35
          clear hov35
          go_wp2_with fail
          exact ⟨rfl, _, rfl, fun d hd => by cases hd; exact rfl, Ext.refl _⟩
        simp only [Act.put, List.setIfInBounds_toArray, List.set_cons_zero, List.set_cons_succ]
        clear H
        intro wn HOX H hfin
        obtain rfl : v22 = .int .i64 p := hfin 22 (by decide)
        obtain rfl : v23 = .pointer (some ⟨g3, 0, none⟩) := hfin 23 (by decide)
        obtain rfl : v24 = .pointer (some ⟨g3, p * 36, none⟩) := hfin 24 (by decide)
        obtain rfl : v25 = .pointer (some ⟨g3, p * 36, none⟩) := hfin 25 (by decide)
        obtain rfl : v26 = .bool false := hfin 26 (by decide)
        obtain rfl : v27 = .bool false := hfin 27 (by decide)
        obtain rfl : v28 = undef := hfin 28 (by decide)
        obtain rfl : v29 = undef := hfin 29 (by decide)
        obtain rfl : v30 = undef := hfin 30 (by decide)
        obtain rfl : v31 = undef := hfin 31 (by decide)
        obtain rfl : v32 = undef := hfin 32 (by decide)
        obtain rfl : v33 = undef := hfin 33 (by decide)
        obtain rfl : v34 = undef := hfin 34 (by decide)
        obtain rfl : v35 = .bool false := hfin 35 (by decide)
        clear hfin
        simp only [List.drop_succ_cons, List.drop_zero]
        simp only [applyS] at H
        have HXN := kp (HOX.out.ext (Ext.refl wr) (fun g hg => by cases hg))
        go_wp2_with fail
        go_roundw
        case rel => exact ⟨p + 1, by omega, by go_num, HO, H⟩
        case measure => simp [intOf]; omega
      | true =>
        rw [hus] at HU
        cases he : (t.key == k) with
        | false =>
          rw [he] at heq
          have HO := kp (heldIn_take l p t k HY.out HTK.out (by simp only [heldB, he, Bool.and_false]))
          clear hus he
          go_wp2_with fail
          refine region_free H (tabS [(22, fun zv _ => zv = .int .i64 p), (23, fun zv _ => zv = .pointer (some ⟨g3, 0, none⟩)), (24, fun zv _ => zv = .pointer (some ⟨g3, p * 36, none⟩)), (25, fun zv _ => zv = .pointer (some ⟨g3, p * 36, none⟩)), (26, fun zv _ => zv = .bool true), (27, fun zv _ => zv = .bool true), (28, fun zv _ => zv = .int .i64 p), (29, fun zv _ => zv = .pointer (some ⟨g3, 0, none⟩)), (30, fun zv _ => zv = .pointer (some ⟨g3, p * 36, none⟩)), (31, fun zv _ => zv = .pointer (some ⟨g3, p * 36 + 1, none⟩)), (32, fun zv _ => zv = .agg (t.key.map V8).toArray), (33, fun zv _ => zv = .agg (k.map V8).toArray), (34, fun zv _ => zv = .bool false), (35, fun zv _ => zv = .bool false)]) [] (tabS_out _ _ (by simp only [List.forall_mem_cons]; exact ⟨mono_eqO _ _, mono_eqO _ _, mono_eqO _ _, mono_eqO _ _, mono_eqO _ _, mono_eqO _ _, mono_eqO _ _, mono_eqO _ _, mono_eqO _ _, mono_eqO _ _, mono_eqO _ _, mono_eqO _ _, mono_eqO _ _, mono_eqO _ _, by simp⟩)) 14 (by kernel_rfl) (by kernel_rfl) (by kernel_rfl) (by kernel_rfl) [] [] rfl rfl (by decide) (by decide) (by decide) trivial ?_
          simp only [List.take_succ_cons, List.take_zero]
          refine ⟨fun wv22 hov22 hSv22 => ?_, fun v22 => ?_⟩
          · clear hSv22
            clear hov22
            go_wp2_with fail
            exact ⟨rfl, _, rfl, fun d hd => by cases hd; exact rfl, Ext.refl _⟩
          simp only [Act.put, List.setIfInBounds_toArray, List.set_cons_zero, List.set_cons_succ]
          refine ⟨fun wv23 hov23 hSv23 => ?_, fun v23 => ?_⟩
          · clear hSv23
            clear hov23
            go_wp2_with fail
            exact ⟨rfl, _, rfl, fun d hd => by cases hd; exact rfl, Ext.refl _⟩
          simp only [Act.put, List.setIfInBounds_toArray, List.set_cons_zero, List.set_cons_succ]
          refine ⟨fun wv24 hov24 hSv24 => ?_, fun v24 => ?_⟩
          · obtain rfl : v22 = .int .i64 p := hSv24 22 (by decide) (by decide)
            obtain rfl : v23 = .pointer (some ⟨g3, 0, none⟩) := hSv24 23 (by decide) (by decide)
            clear hSv24
            clear hov24
            go_wp2_with fail
            exact ⟨rfl, _, rfl, fun d hd => by cases hd; exact rfl, Ext.refl _⟩
          simp only [Act.put, List.setIfInBounds_toArray, List.set_cons_zero, List.set_cons_succ]
          refine ⟨fun wv25 hov25 hSv25 => ?_, fun v25 => ?_⟩
          · obtain rfl : v24 = .pointer (some ⟨g3, p * 36, none⟩) := hSv25 24 (by decide) (by decide)
            clear hSv25
            clear hov25
            go_wp2_with fail
            exact ⟨rfl, _, rfl, fun d hd => by cases hd; exact rfl, Ext.refl _⟩
          simp only [Act.put, List.setIfInBounds_toArray, List.set_cons_zero, List.set_cons_succ]
          refine ⟨fun wv26 hov26 hSv26 => ?_, fun v26 => ?_⟩
          · obtain rfl : v25 = .pointer (some ⟨g3, p * 36, none⟩) := hSv26 25 (by decide) (by decide)
            clear hSv26
            have H := kp (H.out.keep [0, 1, 2] (St := []) trivial hov26 (by decide) (by kernel_rfl))
            have HOX := kp hov26
            clear hov26
            have hc := run_load_cell H.out 2 rfl _ _ (HU.out _)
            go_wp2_with fail
            exact ⟨rfl, _, rfl, fun d hd => by cases hd; exact rfl, Ext.refl _⟩
          simp only [Act.put, List.setIfInBounds_toArray, List.set_cons_zero, List.set_cons_succ]
          refine ⟨fun wv27 hov27 hSv27 => ?_, fun v27 => ?_⟩
          · obtain rfl : v26 = .bool true := hSv27 26 (by decide) (by decide)
            clear hSv27
            clear hov27
            go_wp2_with fail
            exact ⟨rfl, _, rfl, fun d hd => by cases hd; exact rfl, Ext.refl _⟩
          simp only [Act.put, List.setIfInBounds_toArray, List.set_cons_zero, List.set_cons_succ]
          refine ⟨fun wv28 hov28 hSv28 => ?_, fun v28 => ?_⟩
          · obtain rfl : v27 = .bool true := hSv28 27 (by decide) (by decide)
            clear hSv28
            clear hov28
            go_wp2_with fail
            exact ⟨rfl, _, rfl, fun d hd => by cases hd; exact rfl, Ext.refl _⟩
          simp only [Act.put, List.setIfInBounds_toArray, List.set_cons_zero, List.set_cons_succ]
          refine ⟨fun wv29 hov29 hSv29 => ?_, fun v29 => ?_⟩
          · obtain rfl : v27 = .bool true := hSv29 27 (by decide) (by decide)
            clear hSv29
            clear hov29
            go_wp2_with fail
            exact ⟨rfl, _, rfl, fun d hd => by cases hd; exact rfl, Ext.refl _⟩
          simp only [Act.put, List.setIfInBounds_toArray, List.set_cons_zero, List.set_cons_succ]
          refine ⟨fun wv30 hov30 hSv30 => ?_, fun v30 => ?_⟩
          · obtain rfl : v27 = .bool true := hSv30 27 (by decide) (by decide)
            obtain rfl : v28 = .int .i64 p := hSv30 28 (by decide) (by decide)
            obtain rfl : v29 = .pointer (some ⟨g3, 0, none⟩) := hSv30 29 (by decide) (by decide)
            clear hSv30
            clear hov30
            go_wp2_with fail
            exact ⟨rfl, _, rfl, fun d hd => by cases hd; exact rfl, Ext.refl _⟩
          simp only [Act.put, List.setIfInBounds_toArray, List.set_cons_zero, List.set_cons_succ]
          refine ⟨fun wv31 hov31 hSv31 => ?_, fun v31 => ?_⟩
          · obtain rfl : v27 = .bool true := hSv31 27 (by decide) (by decide)
            obtain rfl : v30 = .pointer (some ⟨g3, p * 36, none⟩) := hSv31 30 (by decide) (by decide)
            clear hSv31
            clear hov31
            go_wp2_with fail
            exact ⟨rfl, _, rfl, fun d hd => by cases hd; exact rfl, Ext.refl _⟩
          simp only [Act.put, List.setIfInBounds_toArray, List.set_cons_zero, List.set_cons_succ]
          refine ⟨fun wv32 hov32 hSv32 => ?_, fun v32 => ?_⟩
          · obtain rfl : v27 = .bool true := hSv32 27 (by decide) (by decide)
            obtain rfl : v31 = .pointer (some ⟨g3, p * 36 + 1, none⟩) := hSv32 31 (by decide) (by decide)
            clear hSv32
            have H := kp (H.out.keep [0, 1, 2] (St := []) trivial hov32 (by decide) (by kernel_rfl))
            have HOX := kp hov32
            clear hov32
            go_wp2_with ((with_reducible show wpList _ _ _ (Oper.mk _ (Op.load 45 _) _ _ _ _ :: _) _ _); (first | (refine L_subG H (by kernel_rfl) 45 _ rfl 0 rfl (p * 36 + 1) rfl (t.key.map V8) (HKK.out _) Try.underlying45 rfl (HKZ.out) ?_) | (refine L_subG H (by kernel_rfl) 45 _ rfl 1 rfl (p * 36 + 1) rfl (t.key.map V8) (HKK.out _) Try.underlying45 rfl (HKZ.out) ?_) | (refine L_subG H (by kernel_rfl) 45 _ rfl 2 rfl (p * 36 + 1) rfl (t.key.map V8) (HKK.out _) Try.underlying45 rfl (HKZ.out) ?_) | (refine L_subG H (by kernel_rfl) 45 _ rfl 3 rfl (p * 36 + 1) rfl (t.key.map V8) (HKK.out _) Try.underlying45 rfl (HKZ.out) ?_) | (refine L_subG H (by kernel_rfl) 45 _ rfl 4 rfl (p * 36 + 1) rfl (t.key.map V8) (HKK.out _) Try.underlying45 rfl (HKZ.out) ?_) | (refine L_subG H (by kernel_rfl) 45 _ rfl 5 rfl (p * 36 + 1) rfl (t.key.map V8) (HKK.out _) Try.underlying45 rfl (HKZ.out) ?_)); simp only [Act.put, List.setIfInBounds_toArray, List.set_cons_zero, List.set_cons_succ])
            exact ⟨rfl, _, rfl, fun d hd => by cases hd; exact rfl, Ext.refl _⟩
          simp only [Act.put, List.setIfInBounds_toArray, List.set_cons_zero, List.set_cons_succ]
          refine ⟨fun wv33 hov33 hSv33 => ?_, fun v33 => ?_⟩
          · obtain rfl : v27 = .bool true := hSv33 27 (by decide) (by decide)
            clear hSv33
            have H := kp (H.out.keep [0, 1, 2] (St := []) trivial hov33 (by decide) (by kernel_rfl))
            have HOX := kp hov33
            clear hov33
            go_wp2_with ((with_reducible show wpList _ _ _ (Oper.mk _ (Op.load 45 _) _ _ _ _ :: _) _ _); (first | (refine L_subG H (by kernel_rfl) 45 _ rfl 0 rfl (0) rfl (k.map V8) (HK00.out) Try.underlying45 rfl (HKZ0.out) ?_) | (refine L_subG H (by kernel_rfl) 45 _ rfl 1 rfl (0) rfl (k.map V8) (HK00.out) Try.underlying45 rfl (HKZ0.out) ?_) | (refine L_subG H (by kernel_rfl) 45 _ rfl 2 rfl (0) rfl (k.map V8) (HK00.out) Try.underlying45 rfl (HKZ0.out) ?_) | (refine L_subG H (by kernel_rfl) 45 _ rfl 3 rfl (0) rfl (k.map V8) (HK00.out) Try.underlying45 rfl (HKZ0.out) ?_) | (refine L_subG H (by kernel_rfl) 45 _ rfl 4 rfl (0) rfl (k.map V8) (HK00.out) Try.underlying45 rfl (HKZ0.out) ?_) | (refine L_subG H (by kernel_rfl) 45 _ rfl 5 rfl (0) rfl (k.map V8) (HK00.out) Try.underlying45 rfl (HKZ0.out) ?_)); simp only [Act.put, List.setIfInBounds_toArray, List.set_cons_zero, List.set_cons_succ])
            exact ⟨rfl, _, rfl, fun d hd => by cases hd; exact rfl, Ext.refl _⟩
          simp only [Act.put, List.setIfInBounds_toArray, List.set_cons_zero, List.set_cons_succ]
          refine ⟨fun wv34 hov34 hSv34 => ?_, fun v34 => ?_⟩
          · obtain rfl : v27 = .bool true := hSv34 27 (by decide) (by decide)
            obtain rfl : v32 = .agg (t.key.map V8).toArray := hSv34 32 (by decide) (by decide)
            obtain rfl : v33 = .agg (k.map V8).toArray := hSv34 33 (by decide) (by decide)
            clear hSv34
            clear hov34
            go_wp2_with fail
            exact ⟨rfl, _, rfl, fun d hd => by cases hd; exact rfl, Ext.refl _⟩
          simp only [Act.put, List.setIfInBounds_toArray, List.set_cons_zero, List.set_cons_succ]
          refine ⟨fun wv35 hov35 hSv35 => ?_, fun v35 => ?_⟩
          · obtain rfl : v27 = .bool true := hSv35 27 (by decide) (by decide)
            obtain rfl : v34 = .bool false := hSv35 34 (by decide) (by decide)
            clear hSv35
            clear hov35
            go_wp2_with fail
            exact ⟨rfl, _, rfl, fun d hd => by cases hd; exact rfl, Ext.refl _⟩
          simp only [Act.put, List.setIfInBounds_toArray, List.set_cons_zero, List.set_cons_succ]
          clear H
          intro wn HOX H hfin
          obtain rfl : v22 = .int .i64 p := hfin 22 (by decide)
          obtain rfl : v23 = .pointer (some ⟨g3, 0, none⟩) := hfin 23 (by decide)
          obtain rfl : v24 = .pointer (some ⟨g3, p * 36, none⟩) := hfin 24 (by decide)
          obtain rfl : v25 = .pointer (some ⟨g3, p * 36, none⟩) := hfin 25 (by decide)
          obtain rfl : v26 = .bool true := hfin 26 (by decide)
          obtain rfl : v27 = .bool true := hfin 27 (by decide)
          obtain rfl : v28 = .int .i64 p := hfin 28 (by decide)
          obtain rfl : v29 = .pointer (some ⟨g3, 0, none⟩) := hfin 29 (by decide)
          obtain rfl : v30 = .pointer (some ⟨g3, p * 36, none⟩) := hfin 30 (by decide)
          obtain rfl : v31 = .pointer (some ⟨g3, p * 36 + 1, none⟩) := hfin 31 (by decide)
          obtain rfl : v32 = .agg (t.key.map V8).toArray := hfin 32 (by decide)
          obtain rfl : v33 = .agg (k.map V8).toArray := hfin 33 (by decide)
          obtain rfl : v34 = .bool false := hfin 34 (by decide)
          obtain rfl : v35 = .bool false := hfin 35 (by decide)
          clear hfin
          simp only [List.drop_succ_cons, List.drop_zero]
          simp only [applyS] at H
          have HXN := kp (HOX.out.ext (Ext.refl wr) (fun g hg => by cases hg))
          go_wp2_with fail
          go_roundw
          case rel => exact ⟨p + 1, by omega, by go_num, HO, H⟩
          case measure => simp [intOf]; omega
        | true =>
          rw [he] at heq
          have HO := kp (show heldIn l k = true by unfold heldIn; rw [List.any_eq_true]; exact ⟨t, List.mem_of_getElem? HY.out, by simp only [heldB, hus, he, Bool.and_true]⟩)
          clear hus he
          go_wp2_with fail
          refine region_free H (tabS [(22, fun zv _ => zv = .int .i64 p), (23, fun zv _ => zv = .pointer (some ⟨g3, 0, none⟩)), (24, fun zv _ => zv = .pointer (some ⟨g3, p * 36, none⟩)), (25, fun zv _ => zv = .pointer (some ⟨g3, p * 36, none⟩)), (26, fun zv _ => zv = .bool true), (27, fun zv _ => zv = .bool true), (28, fun zv _ => zv = .int .i64 p), (29, fun zv _ => zv = .pointer (some ⟨g3, 0, none⟩)), (30, fun zv _ => zv = .pointer (some ⟨g3, p * 36, none⟩)), (31, fun zv _ => zv = .pointer (some ⟨g3, p * 36 + 1, none⟩)), (32, fun zv _ => zv = .agg (t.key.map V8).toArray), (33, fun zv _ => zv = .agg (k.map V8).toArray), (34, fun zv _ => zv = .bool true), (35, fun zv _ => zv = .bool true)]) [] (tabS_out _ _ (by simp only [List.forall_mem_cons]; exact ⟨mono_eqO _ _, mono_eqO _ _, mono_eqO _ _, mono_eqO _ _, mono_eqO _ _, mono_eqO _ _, mono_eqO _ _, mono_eqO _ _, mono_eqO _ _, mono_eqO _ _, mono_eqO _ _, mono_eqO _ _, mono_eqO _ _, mono_eqO _ _, by simp⟩)) 14 (by kernel_rfl) (by kernel_rfl) (by kernel_rfl) (by kernel_rfl) [] [] rfl rfl (by decide) (by decide) (by decide) trivial ?_
          simp only [List.take_succ_cons, List.take_zero]
          refine ⟨fun wv22 hov22 hSv22 => ?_, fun v22 => ?_⟩
          · clear hSv22
            clear hov22
            go_wp2_with fail
            exact ⟨rfl, _, rfl, fun d hd => by cases hd; exact rfl, Ext.refl _⟩
          simp only [Act.put, List.setIfInBounds_toArray, List.set_cons_zero, List.set_cons_succ]
          refine ⟨fun wv23 hov23 hSv23 => ?_, fun v23 => ?_⟩
          · clear hSv23
            clear hov23
            go_wp2_with fail
            exact ⟨rfl, _, rfl, fun d hd => by cases hd; exact rfl, Ext.refl _⟩
          simp only [Act.put, List.setIfInBounds_toArray, List.set_cons_zero, List.set_cons_succ]
          refine ⟨fun wv24 hov24 hSv24 => ?_, fun v24 => ?_⟩
          · obtain rfl : v22 = .int .i64 p := hSv24 22 (by decide) (by decide)
            obtain rfl : v23 = .pointer (some ⟨g3, 0, none⟩) := hSv24 23 (by decide) (by decide)
            clear hSv24
            clear hov24
            go_wp2_with fail
            exact ⟨rfl, _, rfl, fun d hd => by cases hd; exact rfl, Ext.refl _⟩
          simp only [Act.put, List.setIfInBounds_toArray, List.set_cons_zero, List.set_cons_succ]
          refine ⟨fun wv25 hov25 hSv25 => ?_, fun v25 => ?_⟩
          · obtain rfl : v24 = .pointer (some ⟨g3, p * 36, none⟩) := hSv25 24 (by decide) (by decide)
            clear hSv25
            clear hov25
            go_wp2_with fail
            exact ⟨rfl, _, rfl, fun d hd => by cases hd; exact rfl, Ext.refl _⟩
          simp only [Act.put, List.setIfInBounds_toArray, List.set_cons_zero, List.set_cons_succ]
          refine ⟨fun wv26 hov26 hSv26 => ?_, fun v26 => ?_⟩
          · obtain rfl : v25 = .pointer (some ⟨g3, p * 36, none⟩) := hSv26 25 (by decide) (by decide)
            clear hSv26
            have H := kp (H.out.keep [0, 1, 2] (St := []) trivial hov26 (by decide) (by kernel_rfl))
            have HOX := kp hov26
            clear hov26
            have hc := run_load_cell H.out 2 rfl _ _ (HU.out _)
            go_wp2_with fail
            exact ⟨rfl, _, rfl, fun d hd => by cases hd; exact rfl, Ext.refl _⟩
          simp only [Act.put, List.setIfInBounds_toArray, List.set_cons_zero, List.set_cons_succ]
          refine ⟨fun wv27 hov27 hSv27 => ?_, fun v27 => ?_⟩
          · obtain rfl : v26 = .bool true := hSv27 26 (by decide) (by decide)
            clear hSv27
            clear hov27
            go_wp2_with fail
            exact ⟨rfl, _, rfl, fun d hd => by cases hd; exact rfl, Ext.refl _⟩
          simp only [Act.put, List.setIfInBounds_toArray, List.set_cons_zero, List.set_cons_succ]
          refine ⟨fun wv28 hov28 hSv28 => ?_, fun v28 => ?_⟩
          · obtain rfl : v27 = .bool true := hSv28 27 (by decide) (by decide)
            clear hSv28
            clear hov28
            go_wp2_with fail
            exact ⟨rfl, _, rfl, fun d hd => by cases hd; exact rfl, Ext.refl _⟩
          simp only [Act.put, List.setIfInBounds_toArray, List.set_cons_zero, List.set_cons_succ]
          refine ⟨fun wv29 hov29 hSv29 => ?_, fun v29 => ?_⟩
          · obtain rfl : v27 = .bool true := hSv29 27 (by decide) (by decide)
            clear hSv29
            clear hov29
            go_wp2_with fail
            exact ⟨rfl, _, rfl, fun d hd => by cases hd; exact rfl, Ext.refl _⟩
          simp only [Act.put, List.setIfInBounds_toArray, List.set_cons_zero, List.set_cons_succ]
          refine ⟨fun wv30 hov30 hSv30 => ?_, fun v30 => ?_⟩
          · obtain rfl : v27 = .bool true := hSv30 27 (by decide) (by decide)
            obtain rfl : v28 = .int .i64 p := hSv30 28 (by decide) (by decide)
            obtain rfl : v29 = .pointer (some ⟨g3, 0, none⟩) := hSv30 29 (by decide) (by decide)
            clear hSv30
            clear hov30
            go_wp2_with fail
            exact ⟨rfl, _, rfl, fun d hd => by cases hd; exact rfl, Ext.refl _⟩
          simp only [Act.put, List.setIfInBounds_toArray, List.set_cons_zero, List.set_cons_succ]
          refine ⟨fun wv31 hov31 hSv31 => ?_, fun v31 => ?_⟩
          · obtain rfl : v27 = .bool true := hSv31 27 (by decide) (by decide)
            obtain rfl : v30 = .pointer (some ⟨g3, p * 36, none⟩) := hSv31 30 (by decide) (by decide)
            clear hSv31
            clear hov31
            go_wp2_with fail
            exact ⟨rfl, _, rfl, fun d hd => by cases hd; exact rfl, Ext.refl _⟩
          simp only [Act.put, List.setIfInBounds_toArray, List.set_cons_zero, List.set_cons_succ]
          refine ⟨fun wv32 hov32 hSv32 => ?_, fun v32 => ?_⟩
          · obtain rfl : v27 = .bool true := hSv32 27 (by decide) (by decide)
            obtain rfl : v31 = .pointer (some ⟨g3, p * 36 + 1, none⟩) := hSv32 31 (by decide) (by decide)
            clear hSv32
            have H := kp (H.out.keep [0, 1, 2] (St := []) trivial hov32 (by decide) (by kernel_rfl))
            have HOX := kp hov32
            clear hov32
            go_wp2_with ((with_reducible show wpList _ _ _ (Oper.mk _ (Op.load 45 _) _ _ _ _ :: _) _ _); (first | (refine L_subG H (by kernel_rfl) 45 _ rfl 0 rfl (p * 36 + 1) rfl (t.key.map V8) (HKK.out _) Try.underlying45 rfl (HKZ.out) ?_) | (refine L_subG H (by kernel_rfl) 45 _ rfl 1 rfl (p * 36 + 1) rfl (t.key.map V8) (HKK.out _) Try.underlying45 rfl (HKZ.out) ?_) | (refine L_subG H (by kernel_rfl) 45 _ rfl 2 rfl (p * 36 + 1) rfl (t.key.map V8) (HKK.out _) Try.underlying45 rfl (HKZ.out) ?_) | (refine L_subG H (by kernel_rfl) 45 _ rfl 3 rfl (p * 36 + 1) rfl (t.key.map V8) (HKK.out _) Try.underlying45 rfl (HKZ.out) ?_) | (refine L_subG H (by kernel_rfl) 45 _ rfl 4 rfl (p * 36 + 1) rfl (t.key.map V8) (HKK.out _) Try.underlying45 rfl (HKZ.out) ?_) | (refine L_subG H (by kernel_rfl) 45 _ rfl 5 rfl (p * 36 + 1) rfl (t.key.map V8) (HKK.out _) Try.underlying45 rfl (HKZ.out) ?_)); simp only [Act.put, List.setIfInBounds_toArray, List.set_cons_zero, List.set_cons_succ])
            exact ⟨rfl, _, rfl, fun d hd => by cases hd; exact rfl, Ext.refl _⟩
          simp only [Act.put, List.setIfInBounds_toArray, List.set_cons_zero, List.set_cons_succ]
          refine ⟨fun wv33 hov33 hSv33 => ?_, fun v33 => ?_⟩
          · obtain rfl : v27 = .bool true := hSv33 27 (by decide) (by decide)
            clear hSv33
            have H := kp (H.out.keep [0, 1, 2] (St := []) trivial hov33 (by decide) (by kernel_rfl))
            have HOX := kp hov33
            clear hov33
            go_wp2_with ((with_reducible show wpList _ _ _ (Oper.mk _ (Op.load 45 _) _ _ _ _ :: _) _ _); (first | (refine L_subG H (by kernel_rfl) 45 _ rfl 0 rfl (0) rfl (k.map V8) (HK00.out) Try.underlying45 rfl (HKZ0.out) ?_) | (refine L_subG H (by kernel_rfl) 45 _ rfl 1 rfl (0) rfl (k.map V8) (HK00.out) Try.underlying45 rfl (HKZ0.out) ?_) | (refine L_subG H (by kernel_rfl) 45 _ rfl 2 rfl (0) rfl (k.map V8) (HK00.out) Try.underlying45 rfl (HKZ0.out) ?_) | (refine L_subG H (by kernel_rfl) 45 _ rfl 3 rfl (0) rfl (k.map V8) (HK00.out) Try.underlying45 rfl (HKZ0.out) ?_) | (refine L_subG H (by kernel_rfl) 45 _ rfl 4 rfl (0) rfl (k.map V8) (HK00.out) Try.underlying45 rfl (HKZ0.out) ?_) | (refine L_subG H (by kernel_rfl) 45 _ rfl 5 rfl (0) rfl (k.map V8) (HK00.out) Try.underlying45 rfl (HKZ0.out) ?_)); simp only [Act.put, List.setIfInBounds_toArray, List.set_cons_zero, List.set_cons_succ])
            exact ⟨rfl, _, rfl, fun d hd => by cases hd; exact rfl, Ext.refl _⟩
          simp only [Act.put, List.setIfInBounds_toArray, List.set_cons_zero, List.set_cons_succ]
          refine ⟨fun wv34 hov34 hSv34 => ?_, fun v34 => ?_⟩
          · obtain rfl : v27 = .bool true := hSv34 27 (by decide) (by decide)
            obtain rfl : v32 = .agg (t.key.map V8).toArray := hSv34 32 (by decide) (by decide)
            obtain rfl : v33 = .agg (k.map V8).toArray := hSv34 33 (by decide) (by decide)
            clear hSv34
            clear hov34
            go_wp2_with fail
            exact ⟨rfl, _, rfl, fun d hd => by cases hd; exact rfl, Ext.refl _⟩
          simp only [Act.put, List.setIfInBounds_toArray, List.set_cons_zero, List.set_cons_succ]
          refine ⟨fun wv35 hov35 hSv35 => ?_, fun v35 => ?_⟩
          · obtain rfl : v27 = .bool true := hSv35 27 (by decide) (by decide)
            obtain rfl : v34 = .bool true := hSv35 34 (by decide) (by decide)
            clear hSv35
            clear hov35
            go_wp2_with fail
            exact ⟨rfl, _, rfl, fun d hd => by cases hd; exact rfl, Ext.refl _⟩
          simp only [Act.put, List.setIfInBounds_toArray, List.set_cons_zero, List.set_cons_succ]
          clear H
          intro wn HOX H hfin
          obtain rfl : v22 = .int .i64 p := hfin 22 (by decide)
          obtain rfl : v23 = .pointer (some ⟨g3, 0, none⟩) := hfin 23 (by decide)
          obtain rfl : v24 = .pointer (some ⟨g3, p * 36, none⟩) := hfin 24 (by decide)
          obtain rfl : v25 = .pointer (some ⟨g3, p * 36, none⟩) := hfin 25 (by decide)
          obtain rfl : v26 = .bool true := hfin 26 (by decide)
          obtain rfl : v27 = .bool true := hfin 27 (by decide)
          obtain rfl : v28 = .int .i64 p := hfin 28 (by decide)
          obtain rfl : v29 = .pointer (some ⟨g3, 0, none⟩) := hfin 29 (by decide)
          obtain rfl : v30 = .pointer (some ⟨g3, p * 36, none⟩) := hfin 30 (by decide)
          obtain rfl : v31 = .pointer (some ⟨g3, p * 36 + 1, none⟩) := hfin 31 (by decide)
          obtain rfl : v32 = .agg (t.key.map V8).toArray := hfin 32 (by decide)
          obtain rfl : v33 = .agg (k.map V8).toArray := hfin 33 (by decide)
          obtain rfl : v34 = .bool true := hfin 34 (by decide)
          obtain rfl : v35 = .bool true := hfin 35 (by decide)
          clear hfin
          simp only [List.drop_succ_cons, List.drop_zero]
          simp only [applyS] at H
          have HXN := kp (HOX.out.ext (Ext.refl wr) (fun g hg => by cases hg))
          go_wp2_with (first | ((with_reducible show wpList _ _ _ (Oper.mk (some 36) (Op.build 51 _) _ _ _ _ :: _) _ _); (refine L_bd (by kernel_rfl) 51 _ rfl (#[]) (by kernel_rfl) (zeroR) (fun _ => by kernel_rfl) ?_); simp only [Act.put, List.setIfInBounds_toArray, List.set_cons_zero, List.set_cons_succ]) | ((with_reducible show wpList _ _ _ (Oper.mk none (Op.store 51 _ _) _ _ _ _ :: _) _ _); (first | (refine L_store H rfl rfl 51 _ _ rfl 0 rfl rfl (zeroR) rfl (HZZ.out) (rfl) (HZO.out) ?_; clear H; intro wz HWwz H; simp only [List.set_cons_zero] at H) | (refine L_store H rfl rfl 51 _ _ rfl 1 rfl rfl (zeroR) rfl (HZZ.out) (rfl) (HZO.out) ?_; clear H; intro wz HWwz H; simp only [List.set_cons_succ, List.set_cons_zero] at H) | (refine L_store H rfl rfl 51 _ _ rfl 2 rfl rfl (zeroR) rfl (HZZ.out) (rfl) (HZO.out) ?_; clear H; intro wz HWwz H; simp only [List.set_cons_succ, List.set_cons_zero] at H) | (refine L_store H rfl rfl 51 _ _ rfl 3 rfl rfl (zeroR) rfl (HZZ.out) (rfl) (HZO.out) ?_; clear H; intro wz HWwz H; simp only [List.set_cons_succ, List.set_cons_zero] at H) | (refine L_store H rfl rfl 51 _ _ rfl 4 rfl rfl (zeroR) rfl (HZZ.out) (rfl) (HZO.out) ?_; clear H; intro wz HWwz H; simp only [List.set_cons_succ, List.set_cons_zero] at H) | (refine L_store H rfl rfl 51 _ _ rfl 5 rfl rfl (zeroR) rfl (HZZ.out) (rfl) (HZO.out) ?_; clear H; intro wz HWwz H; simp only [List.set_cons_succ, List.set_cons_zero] at H))))
          exact ret_row2 Try.results30 _ _ _ (0, 0) _ rfl _ rfl (H.out.at 0 rfl) Try.underlying51 rfl (HZZ.out) rfl (by rw [HF.out, HO.out, Bool.or_true, if_pos rfl]; exact retR_bad H.out.1 rfl)
    · obtain rfl : p = 4 := by omega
      have HO := kp (show heldIn l k = false by
        have h := HTK.out
        rwa [List.take_of_length_le (by rw [HL.out.1]; exact Nat.le_refl _)] at h)
      clear HTK
      have hc := run_load_cell H.out 2 rfl _ _ HP.out
      cases hcn : ks.contains k with
      | true =>
        rw [hcn] at HC
        replace HF := kp (show installF l ks j k = badR 21 by rw [HF.out, hcn, Bool.true_or, if_pos rfl])
        clear hcn
        go_wp2_with (first | ((with_reducible show wpList _ _ _ (Oper.mk _ (Op.load 45 _) _ _ _ _ :: _) _ _); (first | (refine L_load H rfl 45 _ rfl 0 rfl rfl Try.underlying45 rfl (HZK.out) ?_) | (refine L_load H rfl 45 _ rfl 1 rfl rfl Try.underlying45 rfl (HZK.out) ?_) | (refine L_load H rfl 45 _ rfl 2 rfl rfl Try.underlying45 rfl (HZK.out) ?_) | (refine L_load H rfl 45 _ rfl 3 rfl rfl Try.underlying45 rfl (HZK.out) ?_) | (refine L_load H rfl 45 _ rfl 4 rfl rfl Try.underlying45 rfl (HZK.out) ?_) | (refine L_load H rfl 45 _ rfl 5 rfl rfl Try.underlying45 rfl (HZK.out) ?_)); simp only [Act.put, List.setIfInBounds_toArray, List.set_cons_zero, List.set_cons_succ]))
        refine (HC.out _ H.out.1).mono ?_
        rintro e wc ⟨rfl, hx⟩
        clear hc
        have H2 := kp (H.out.ext hx); have HXC := kp hx; clear H hx; have H := H2; clear H2
        go_wp2_with (first | ((with_reducible show wpList _ _ _ (Oper.mk (some 41) (Op.build 51 _) _ _ _ _ :: _) _ _); (refine L_bd (by kernel_rfl) 51 _ rfl (#[]) (by kernel_rfl) (zeroR) (fun _ => by kernel_rfl) ?_); simp only [Act.put, List.setIfInBounds_toArray, List.set_cons_zero, List.set_cons_succ]) | ((with_reducible show wpList _ _ _ (Oper.mk none (Op.store 51 _ _) _ _ _ _ :: _) _ _); (first | (refine L_store H rfl rfl 51 _ _ rfl 0 rfl rfl (zeroR) rfl (HZZ.out) (rfl) (HZO.out) ?_; clear H; intro wz HWwz H; simp only [List.set_cons_zero] at H) | (refine L_store H rfl rfl 51 _ _ rfl 1 rfl rfl (zeroR) rfl (HZZ.out) (rfl) (HZO.out) ?_; clear H; intro wz HWwz H; simp only [List.set_cons_succ, List.set_cons_zero] at H) | (refine L_store H rfl rfl 51 _ _ rfl 2 rfl rfl (zeroR) rfl (HZZ.out) (rfl) (HZO.out) ?_; clear H; intro wz HWwz H; simp only [List.set_cons_succ, List.set_cons_zero] at H) | (refine L_store H rfl rfl 51 _ _ rfl 3 rfl rfl (zeroR) rfl (HZZ.out) (rfl) (HZO.out) ?_; clear H; intro wz HWwz H; simp only [List.set_cons_succ, List.set_cons_zero] at H) | (refine L_store H rfl rfl 51 _ _ rfl 4 rfl rfl (zeroR) rfl (HZZ.out) (rfl) (HZO.out) ?_; clear H; intro wz HWwz H; simp only [List.set_cons_succ, List.set_cons_zero] at H) | (refine L_store H rfl rfl 51 _ _ rfl 5 rfl rfl (zeroR) rfl (HZZ.out) (rfl) (HZO.out) ?_; clear H; intro wz HWwz H; simp only [List.set_cons_succ, List.set_cons_zero] at H))))
        exact ret_row2 Try.results30 _ _ _ (0, 0) _ rfl _ rfl (H.out.at 0 rfl) Try.underlying51 rfl (HZZ.out) rfl (by rw [HF.out]; exact retR_bad H.out.1 rfl)
      | false =>
        replace HF := kp (show installF l ks j k = ((l.set j (newSlot k), lastF (ks ++ [k])), 0) by rw [HF.out, hcn, HO.out]; rfl)
        rw [hcn] at HC
        clear hcn
        have HRS := kp (ring_set l HL.out j (newSlot k) ⟨H16.out, rfl⟩)
        have HZ2 := kp (fun u => sizeR (l.set j (newSlot k)) u HRS.out)
        have HO1 := kp (fun u (h : u.oneCell' = true) => one_cellsR l u h)
        have HO2 := kp (fun u (h : u.oneCell' = true) => one_cellsR (l.set j (newSlot k)) u h)
        have HSG := kp (fun u => show ((cellsR l u).take (j * 36) ++ cellsS (newSlot k) ++ (cellsR l u).drop (j * 36 + (cellsS (newSlot k)).length)).toArray = (cellsR (l.set j (newSlot k)) u).toArray by rw [cellsS_len _ ⟨H16.out, rfl⟩]; exact congrArg List.toArray (cellsR_seg l u HL.out j s (newSlot k) HJ.out))
        have HLN := kp (fun u => cellsR_len2 zeroSs l nilV u ring_zero HL.out)
        have HLN2 := kp (fun u => cellsR_len2 zeroSs (l.set j (newSlot k)) nilV u ring_zero HRS.out)
        have HZS := kp (show (Try.prog.info? 47).map (·.size) = some (cellsS (newSlot k)).toArray.size by rw [size47, List.size_toArray, cellsS_len _ ⟨H16.out, rfl⟩])
        have HOS := kp (all_oneCell_toArray (one_cellsS (newSlot k)))
        have HFT := kp (fun u => show j * 36 + (cellsS (newSlot k)).toArray.size ≤ (cellsR l u).toArray.size by rw [List.size_toArray, List.size_toArray, cellsR_len l u HL.out, cellsS_len (newSlot k) ⟨H16.out, rfl⟩]; omega)
        have HP2 := kp (fun u => cellsR_past (l.set j (newSlot k)) u HRS.out)
        have HPS := kp (fun u u' => cellsR_set (l.set j (newSlot k)) u u' HRS.out)
        have HP144 := kp (fun u => show 144 < (cellsR (l.set j (newSlot k)) u).length by rw [cellsR_len _ _ HRS.out]; decide)
        have HBS := kp (fun w => run_buildKey w k H16.out)
        go_wp2_with (first | ((with_reducible show wpList _ _ _ (Oper.mk _ (Op.load 45 _) _ _ _ _ :: _) _ _); (first | (refine L_load H rfl 45 _ rfl 0 rfl rfl Try.underlying45 rfl (HZK.out) ?_) | (refine L_load H rfl 45 _ rfl 1 rfl rfl Try.underlying45 rfl (HZK.out) ?_) | (refine L_load H rfl 45 _ rfl 2 rfl rfl Try.underlying45 rfl (HZK.out) ?_) | (refine L_load H rfl 45 _ rfl 3 rfl rfl Try.underlying45 rfl (HZK.out) ?_) | (refine L_load H rfl 45 _ rfl 4 rfl rfl Try.underlying45 rfl (HZK.out) ?_) | (refine L_load H rfl 45 _ rfl 5 rfl rfl Try.underlying45 rfl (HZK.out) ?_)); simp only [Act.put, List.setIfInBounds_toArray, List.set_cons_zero, List.set_cons_succ]))
        refine (HC.out _ H.out.1).mono ?_
        rintro e wc ⟨rfl, hx⟩
        clear hc
        have H2 := kp (H.out.ext hx); have HXC := kp hx; clear H hx; have H := H2; clear H2
        go_wp2_with (first | ((with_reducible show wpList _ _ _ (Oper.mk _ (Op.load 51 _) _ _ _ _ :: _) _ _); (first | (refine L_load H rfl 51 _ rfl 0 rfl rfl Try.underlying51 rfl (HZ.out _) ?_) | (refine L_load H rfl 51 _ rfl 1 rfl rfl Try.underlying51 rfl (HZ.out _) ?_) | (refine L_load H rfl 51 _ rfl 2 rfl rfl Try.underlying51 rfl (HZ.out _) ?_) | (refine L_load H rfl 51 _ rfl 3 rfl rfl Try.underlying51 rfl (HZ.out _) ?_) | (refine L_load H rfl 51 _ rfl 4 rfl rfl Try.underlying51 rfl (HZ.out _) ?_) | (refine L_load H rfl 51 _ rfl 5 rfl rfl Try.underlying51 rfl (HZ.out _) ?_)); simp only [Act.put, List.setIfInBounds_toArray, List.set_cons_zero, List.set_cons_succ]))
        refine (HT.out _ H.out.1).mono ?_
        rintro e wt ⟨u, rfl, ho, hx⟩
        have HALL := kp (show ∀ g ∈ [g6, g5, g3], g < wc.heap.size by
          intro g hg
          simp only [List.mem_cons, List.not_mem_nil, or_false] at hg
          rcases hg with rfl | rfl | rfl
          · exact H.out.lt 0 rfl
          · exact H.out.lt 1 rfl
          · exact H.out.lt 2 rfl)
        have HB0 := kp H.out.1.size
        have HU1 := kp (slot_oneP (PastV.of_owns HS.out.sly.1 ho))
        by_cases h16 : ks.length = 16
        · have HN16 := kp h16
          obtain ⟨g9, c9, hu9, hc9⟩ := owns_form ho (by rw [h16]; decide)
          rw [h16] at hu9 hc9
          subst hu9
          have HOW := kp ho
          have HG9 := kp (show wc.heap.size ≤ g9 ∧ g9 < wt.heap.size from ⟨owns_blockS ho g9 rfl, ownsT_lt ho g9 rfl⟩)
          have HLF := kp (show lastF (ks ++ [k]) = ks.drop 1 ++ [k] by unfold lastF; rw [if_pos (by rw [List.length_append, h16, List.length_singleton]; decide), drop_app1 ks k (by rw [h16]; decide)])
          clear ho h16
          have H2 := kp (H.out.ext hx); have HXC := kp hx; clear H hx; have H := H2; clear H2
          go_wp2_with (first | ((with_reducible show wpList _ _ _ (Oper.mk (some 10) (Op.alloc 51) _ _ _ _ :: _) _ _); (with_reducible refine L_alloc H rfl 51 rfl (zeroR) (fun _ _ => by kernel_rfl) ?_); clear H; intro g10 w10 HGg10 HEg10 H; simp only [Act.put, List.setIfInBounds_toArray, List.set_cons_zero, List.set_cons_succ]) | ((with_reducible show wpList _ _ _ (Oper.mk none (Op.store 51 _ _) _ _ _ _ :: _) _ _); (first | (refine L_store H rfl rfl 51 _ _ rfl 0 rfl rfl (cellsR l (.slice (some ⟨g9, 0, none⟩) 16 c9)) rfl (HZ.out _) (HLN.out _) (HO1.out _ rfl) ?_; clear H; intro wu HWwu H; simp only [List.set_cons_zero] at H) | (refine L_store H rfl rfl 51 _ _ rfl 1 rfl rfl (cellsR l (.slice (some ⟨g9, 0, none⟩) 16 c9)) rfl (HZ.out _) (HLN.out _) (HO1.out _ rfl) ?_; clear H; intro wu HWwu H; simp only [List.set_cons_succ, List.set_cons_zero] at H) | (refine L_store H rfl rfl 51 _ _ rfl 2 rfl rfl (cellsR l (.slice (some ⟨g9, 0, none⟩) 16 c9)) rfl (HZ.out _) (HLN.out _) (HO1.out _ rfl) ?_; clear H; intro wu HWwu H; simp only [List.set_cons_succ, List.set_cons_zero] at H) | (refine L_store H rfl rfl 51 _ _ rfl 3 rfl rfl (cellsR l (.slice (some ⟨g9, 0, none⟩) 16 c9)) rfl (HZ.out _) (HLN.out _) (HO1.out _ rfl) ?_; clear H; intro wu HWwu H; simp only [List.set_cons_succ, List.set_cons_zero] at H) | (refine L_store H rfl rfl 51 _ _ rfl 4 rfl rfl (cellsR l (.slice (some ⟨g9, 0, none⟩) 16 c9)) rfl (HZ.out _) (HLN.out _) (HO1.out _ rfl) ?_; clear H; intro wu HWwu H; simp only [List.set_cons_succ, List.set_cons_zero] at H) | (refine L_store H rfl rfl 51 _ _ rfl 5 rfl rfl (cellsR l (.slice (some ⟨g9, 0, none⟩) 16 c9)) rfl (HZ.out _) (HLN.out _) (HO1.out _ rfl) ?_; clear H; intro wu HWwu H; simp only [List.set_cons_succ, List.set_cons_zero] at H))) | ((with_reducible show wpList _ _ _ (Oper.mk _ (Op.load 45 _) _ _ _ _ :: _) _ _); (first | (refine L_load H rfl 45 _ rfl 0 rfl rfl Try.underlying45 rfl (HZK.out) ?_) | (refine L_load H rfl 45 _ rfl 1 rfl rfl Try.underlying45 rfl (HZK.out) ?_) | (refine L_load H rfl 45 _ rfl 2 rfl rfl Try.underlying45 rfl (HZK.out) ?_) | (refine L_load H rfl 45 _ rfl 3 rfl rfl Try.underlying45 rfl (HZK.out) ?_) | (refine L_load H rfl 45 _ rfl 4 rfl rfl Try.underlying45 rfl (HZK.out) ?_) | (refine L_load H rfl 45 _ rfl 5 rfl rfl Try.underlying45 rfl (HZK.out) ?_)); simp only [Act.put, List.setIfInBounds_toArray, List.set_cons_zero, List.set_cons_succ]) | ((with_reducible show wpList _ _ _ (Oper.mk _ (Op.build _ _) _ _ _ _ :: _) _ _); (refine wpList_buildSlot rfl _ rfl k H16.out rfl ?_); simp only [Act.put, List.setIfInBounds_toArray, List.set_cons_zero, List.set_cons_succ]) | (((with_reducible show wpList _ _ _ (Oper.mk none (Op.store 47 _ _) _ _ _ _ :: _) _ _); (first | (refine L_seg H rfl rfl 47 _ _ rfl 0 rfl (j * 36) rfl (cellsS (newSlot k)) rfl (HZS.out) (HFT.out _) (HOS.out) (cellsR (l.set j (newSlot k)) (.slice (some ⟨g9, 0, none⟩) 16 c9)) (HSG.out _) ?_; clear H; intro ws HWws H; simp only [List.set_cons_zero] at H) | (refine L_seg H rfl rfl 47 _ _ rfl 1 rfl (j * 36) rfl (cellsS (newSlot k)) rfl (HZS.out) (HFT.out _) (HOS.out) (cellsR (l.set j (newSlot k)) (.slice (some ⟨g9, 0, none⟩) 16 c9)) (HSG.out _) ?_; clear H; intro ws HWws H; simp only [List.set_cons_succ, List.set_cons_zero] at H) | (refine L_seg H rfl rfl 47 _ _ rfl 2 rfl (j * 36) rfl (cellsS (newSlot k)) rfl (HZS.out) (HFT.out _) (HOS.out) (cellsR (l.set j (newSlot k)) (.slice (some ⟨g9, 0, none⟩) 16 c9)) (HSG.out _) ?_; clear H; intro ws HWws H; simp only [List.set_cons_succ, List.set_cons_zero] at H) | (refine L_seg H rfl rfl 47 _ _ rfl 3 rfl (j * 36) rfl (cellsS (newSlot k)) rfl (HZS.out) (HFT.out _) (HOS.out) (cellsR (l.set j (newSlot k)) (.slice (some ⟨g9, 0, none⟩) 16 c9)) (HSG.out _) ?_; clear H; intro ws HWws H; simp only [List.set_cons_succ, List.set_cons_zero] at H) | (refine L_seg H rfl rfl 47 _ _ rfl 4 rfl (j * 36) rfl (cellsS (newSlot k)) rfl (HZS.out) (HFT.out _) (HOS.out) (cellsR (l.set j (newSlot k)) (.slice (some ⟨g9, 0, none⟩) 16 c9)) (HSG.out _) ?_; clear H; intro ws HWws H; simp only [List.set_cons_succ, List.set_cons_zero] at H) | (refine L_seg H rfl rfl 47 _ _ rfl 5 rfl (j * 36) rfl (cellsS (newSlot k)) rfl (HZS.out) (HFT.out _) (HOS.out) (cellsR (l.set j (newSlot k)) (.slice (some ⟨g9, 0, none⟩) 16 c9)) (HSG.out _) ?_; clear H; intro ws HWws H; simp only [List.set_cons_succ, List.set_cons_zero] at H))); have hc := run_load_cell H.out 0 rfl _ _ (HP2.out (.slice (some ⟨g9, 0, none⟩) 16 c9))) | (((with_reducible show wpList _ _ _ (Oper.mk none (Op.store 49 _ _) _ _ _ _ :: _) _ _); (first | (refine L_cell H rfl rfl 49 _ _ rfl 0 rfl (144) rfl (.slice (some ⟨g9, 16, none⟩) 15 (c9 - 1)) rfl (rfl) (sizeKey1) (HP144.out _) (cellsR (l.set j (newSlot k)) (.slice (some ⟨g9, 16, none⟩) 15 (c9 - 1))) (HPS.out _ _) ?_; clear H; intro wp HWwp H; simp only [List.set_cons_zero] at H) | (refine L_cell H rfl rfl 49 _ _ rfl 1 rfl (144) rfl (.slice (some ⟨g9, 16, none⟩) 15 (c9 - 1)) rfl (rfl) (sizeKey1) (HP144.out _) (cellsR (l.set j (newSlot k)) (.slice (some ⟨g9, 16, none⟩) 15 (c9 - 1))) (HPS.out _ _) ?_; clear H; intro wp HWwp H; simp only [List.set_cons_succ, List.set_cons_zero] at H) | (refine L_cell H rfl rfl 49 _ _ rfl 2 rfl (144) rfl (.slice (some ⟨g9, 16, none⟩) 15 (c9 - 1)) rfl (rfl) (sizeKey1) (HP144.out _) (cellsR (l.set j (newSlot k)) (.slice (some ⟨g9, 16, none⟩) 15 (c9 - 1))) (HPS.out _ _) ?_; clear H; intro wp HWwp H; simp only [List.set_cons_succ, List.set_cons_zero] at H) | (refine L_cell H rfl rfl 49 _ _ rfl 3 rfl (144) rfl (.slice (some ⟨g9, 16, none⟩) 15 (c9 - 1)) rfl (rfl) (sizeKey1) (HP144.out _) (cellsR (l.set j (newSlot k)) (.slice (some ⟨g9, 16, none⟩) 15 (c9 - 1))) (HPS.out _ _) ?_; clear H; intro wp HWwp H; simp only [List.set_cons_succ, List.set_cons_zero] at H) | (refine L_cell H rfl rfl 49 _ _ rfl 4 rfl (144) rfl (.slice (some ⟨g9, 16, none⟩) 15 (c9 - 1)) rfl (rfl) (sizeKey1) (HP144.out _) (cellsR (l.set j (newSlot k)) (.slice (some ⟨g9, 16, none⟩) 15 (c9 - 1))) (HPS.out _ _) ?_; clear H; intro wp HWwp H; simp only [List.set_cons_succ, List.set_cons_zero] at H) | (refine L_cell H rfl rfl 49 _ _ rfl 5 rfl (144) rfl (.slice (some ⟨g9, 16, none⟩) 15 (c9 - 1)) rfl (rfl) (sizeKey1) (HP144.out _) (cellsR (l.set j (newSlot k)) (.slice (some ⟨g9, 16, none⟩) 15 (c9 - 1))) (HPS.out _ _) ?_; clear H; intro wp HWwp H; simp only [List.set_cons_succ, List.set_cons_zero] at H))); have hc2 := run_load_cell H.out 0 rfl _ _ (HP2.out (.slice (some ⟨g9, 16, none⟩) 15 (c9 - 1)))) | ((with_reducible show wpList _ _ _ (Oper.mk (some 60) (Op.buildSlice 49 _ _) _ _ _ _ :: _) _ _); (refine L_bs H (by kernel_rfl) 49 1 _ rfl (#[(0, .agg (k.map V8).toArray)]) (by kernel_rfl) 45 (k.map V8) (HBS.out) ?_); clear H; intro g60 w60 HGg60 HEg60 H; simp only [Act.put, List.setIfInBounds_toArray, List.set_cons_zero, List.set_cons_succ]) | (at_builtin; have HCH := kp ((((Chg.of_ext HEg10.out).wrote HWwu.out (Nat.le_of_eq HGg10.out.symm)).wrote HWws.out (Nat.le_of_eq HGg10.out.symm)).wrote HWwp.out (Nat.le_of_eq HGg10.out.symm)); have HCH2 := kp (HCH.out.ext HEg60.out); have HL9 := kp (H.out.at 0 rfl); have HLT10 := kp (H.out.lt 1 rfl); have HSEP := kp (sep_two (x := g60) (y := g10) (Nat.lt_of_lt_of_le HG9.out.2 (by rw [HGg60.out]; exact HCH.out.1)) (by rw [HGg10.out]; exact HG9.out.2) HALL.out HG9.out.1); refine L_appTail H rfl _ _ rfl wc.heap.size HB0.out (Nat.le_trans HXC.out.size HCH2.out.1) g9 c9 HSEP.out ks HS.out.sly.1 (by rw [HN16.out]; decide) (by rw [HN16.out]; decide) (by rw [HN16.out]; rfl) (by have h := ownsT_chg HOW.out HCH2.out (fun q hq => ownsT_lt HOW.out q hq); rw [HN16.out] at h ⊢; exact h) _ k H16.out rfl (SlY.of_lc H16.out HL9.out) ?_; clear H; intro u9 w9 HPV HNE H) | ((with_reducible show wpList _ _ _ (Oper.mk none (Op.store 49 _ _) _ _ _ _ :: _) _ _); (first | (refine L_cell H rfl rfl 49 _ _ rfl 0 rfl (144) rfl (u9) rfl (slot_oneP HPV.out) (sizeKey1) (HP144.out _) (cellsR (l.set j (newSlot k)) u9) (HPS.out _ _) ?_; clear H; intro wq HWwq H; simp only [List.set_cons_zero] at H) | (refine L_cell H rfl rfl 49 _ _ rfl 1 rfl (144) rfl (u9) rfl (slot_oneP HPV.out) (sizeKey1) (HP144.out _) (cellsR (l.set j (newSlot k)) u9) (HPS.out _ _) ?_; clear H; intro wq HWwq H; simp only [List.set_cons_succ, List.set_cons_zero] at H) | (refine L_cell H rfl rfl 49 _ _ rfl 2 rfl (144) rfl (u9) rfl (slot_oneP HPV.out) (sizeKey1) (HP144.out _) (cellsR (l.set j (newSlot k)) u9) (HPS.out _ _) ?_; clear H; intro wq HWwq H; simp only [List.set_cons_succ, List.set_cons_zero] at H) | (refine L_cell H rfl rfl 49 _ _ rfl 3 rfl (144) rfl (u9) rfl (slot_oneP HPV.out) (sizeKey1) (HP144.out _) (cellsR (l.set j (newSlot k)) u9) (HPS.out _ _) ?_; clear H; intro wq HWwq H; simp only [List.set_cons_succ, List.set_cons_zero] at H) | (refine L_cell H rfl rfl 49 _ _ rfl 4 rfl (144) rfl (u9) rfl (slot_oneP HPV.out) (sizeKey1) (HP144.out _) (cellsR (l.set j (newSlot k)) u9) (HPS.out _ _) ?_; clear H; intro wq HWwq H; simp only [List.set_cons_succ, List.set_cons_zero] at H) | (refine L_cell H rfl rfl 49 _ _ rfl 5 rfl (144) rfl (u9) rfl (slot_oneP HPV.out) (sizeKey1) (HP144.out _) (cellsR (l.set j (newSlot k)) u9) (HPS.out _ _) ?_; clear H; intro wq HWwq H; simp only [List.set_cons_succ, List.set_cons_zero] at H))) | ((with_reducible show wpList _ _ _ (Oper.mk _ (Op.load 51 _) _ _ _ _ :: _) _ _); (first | (refine L_load H rfl 51 _ rfl 0 rfl rfl Try.underlying51 rfl (HZ2.out _) ?_) | (refine L_load H rfl 51 _ rfl 1 rfl rfl Try.underlying51 rfl (HZ2.out _) ?_) | (refine L_load H rfl 51 _ rfl 2 rfl rfl Try.underlying51 rfl (HZ2.out _) ?_) | (refine L_load H rfl 51 _ rfl 3 rfl rfl Try.underlying51 rfl (HZ2.out _) ?_) | (refine L_load H rfl 51 _ rfl 4 rfl rfl Try.underlying51 rfl (HZ2.out _) ?_) | (refine L_load H rfl 51 _ rfl 5 rfl rfl Try.underlying51 rfl (HZ2.out _) ?_)); simp only [Act.put, List.setIfInBounds_toArray, List.set_cons_zero, List.set_cons_succ]) | ((with_reducible show wpList _ _ _ (Oper.mk none (Op.store 51 _ _) _ _ _ _ :: _) _ _); (first | (refine L_store H rfl rfl 51 _ _ rfl 0 rfl rfl (cellsR (l.set j (newSlot k)) u9) rfl (HZ2.out _) (HLN2.out _) (HO2.out _ (slot_oneP HPV.out)) ?_; clear H; intro wr HWwr H; simp only [List.set_cons_zero] at H) | (refine L_store H rfl rfl 51 _ _ rfl 1 rfl rfl (cellsR (l.set j (newSlot k)) u9) rfl (HZ2.out _) (HLN2.out _) (HO2.out _ (slot_oneP HPV.out)) ?_; clear H; intro wr HWwr H; simp only [List.set_cons_succ, List.set_cons_zero] at H) | (refine L_store H rfl rfl 51 _ _ rfl 2 rfl rfl (cellsR (l.set j (newSlot k)) u9) rfl (HZ2.out _) (HLN2.out _) (HO2.out _ (slot_oneP HPV.out)) ?_; clear H; intro wr HWwr H; simp only [List.set_cons_succ, List.set_cons_zero] at H) | (refine L_store H rfl rfl 51 _ _ rfl 3 rfl rfl (cellsR (l.set j (newSlot k)) u9) rfl (HZ2.out _) (HLN2.out _) (HO2.out _ (slot_oneP HPV.out)) ?_; clear H; intro wr HWwr H; simp only [List.set_cons_succ, List.set_cons_zero] at H) | (refine L_store H rfl rfl 51 _ _ rfl 4 rfl rfl (cellsR (l.set j (newSlot k)) u9) rfl (HZ2.out _) (HLN2.out _) (HO2.out _ (slot_oneP HPV.out)) ?_; clear H; intro wr HWwr H; simp only [List.set_cons_succ, List.set_cons_zero] at H) | (refine L_store H rfl rfl 51 _ _ rfl 5 rfl rfl (cellsR (l.set j (newSlot k)) u9) rfl (HZ2.out _) (HLN2.out _) (HO2.out _ (slot_oneP HPV.out)) ?_; clear H; intro wr HWwr H; simp only [List.set_cons_succ, List.set_cons_zero] at H))))
          have HP9 := kp (HPV.out.wroteS HWwq.out (HNE.out g10 (HSEP.out g10 (by simp)) HLT10.out))
          exact ret_row2 Try.results30 _ _ _ (0, 0) _ rfl _ rfl (H.out.at 2 rfl) Try.underlying51 rfl (HZ2.out _) rfl (by rw [HF.out, HLF.out]; exact ⟨_, rfl, (HP9.out.wrote HWwr.out (HALL.out g6 (by simp))).base HB0.out, H.out.1⟩)
        · have HL16 := kp (show ks.length < 16 by have := HPL.out; omega)
          obtain ⟨ua, uc, hu⟩ := (SlY.of_owns HS.out.sly.1 ho).form
          subst hu
          have HOW := kp ho
          have HOB := kp (show ∀ q, (Value.slice ua ks.length uc).ownBlock = some q → wc.heap.size ≤ q ∧ q < wt.heap.size from fun q hq => ⟨owns_blockS ho q hq, ownsT_lt ho q hq⟩)
          have HLF := kp (show lastF (ks ++ [k]) = ks ++ [k] by unfold lastF; rw [if_neg (by rw [List.length_append, List.length_singleton]; have := HL16.out; omega)])
          have HK2 := kp (show ∀ q ∈ ks ++ [k], q.length = 16 by
            intro q hq
            rcases List.mem_append.1 hq with hq | hq
            · exact HS.out.sly.1 q hq
            · simp at hq; rw [hq]; exact H16.out)
          have h16i : ¬ ((ks.length : Int) = 16) := by omega
          clear ho h16
          have H2 := kp (H.out.ext hx); have HXC := kp hx; clear H hx; have H := H2; clear H2
          go_wp2_with (first | ((with_reducible show wpList _ _ _ (Oper.mk (some 10) (Op.alloc 51) _ _ _ _ :: _) _ _); (with_reducible refine L_alloc H rfl 51 rfl (zeroR) (fun _ _ => by kernel_rfl) ?_); clear H; intro g10 w10 HGg10 HEg10 H; simp only [Act.put, List.setIfInBounds_toArray, List.set_cons_zero, List.set_cons_succ]) | ((with_reducible show wpList _ _ _ (Oper.mk none (Op.store 51 _ _) _ _ _ _ :: _) _ _); (first | (refine L_store H rfl rfl 51 _ _ rfl 0 rfl rfl (cellsR l (.slice ua ks.length uc)) rfl (HZ.out _) (HLN.out _) (HO1.out _ HU1.out) ?_; clear H; intro wu HWwu H; simp only [List.set_cons_zero] at H) | (refine L_store H rfl rfl 51 _ _ rfl 1 rfl rfl (cellsR l (.slice ua ks.length uc)) rfl (HZ.out _) (HLN.out _) (HO1.out _ HU1.out) ?_; clear H; intro wu HWwu H; simp only [List.set_cons_succ, List.set_cons_zero] at H) | (refine L_store H rfl rfl 51 _ _ rfl 2 rfl rfl (cellsR l (.slice ua ks.length uc)) rfl (HZ.out _) (HLN.out _) (HO1.out _ HU1.out) ?_; clear H; intro wu HWwu H; simp only [List.set_cons_succ, List.set_cons_zero] at H) | (refine L_store H rfl rfl 51 _ _ rfl 3 rfl rfl (cellsR l (.slice ua ks.length uc)) rfl (HZ.out _) (HLN.out _) (HO1.out _ HU1.out) ?_; clear H; intro wu HWwu H; simp only [List.set_cons_succ, List.set_cons_zero] at H) | (refine L_store H rfl rfl 51 _ _ rfl 4 rfl rfl (cellsR l (.slice ua ks.length uc)) rfl (HZ.out _) (HLN.out _) (HO1.out _ HU1.out) ?_; clear H; intro wu HWwu H; simp only [List.set_cons_succ, List.set_cons_zero] at H) | (refine L_store H rfl rfl 51 _ _ rfl 5 rfl rfl (cellsR l (.slice ua ks.length uc)) rfl (HZ.out _) (HLN.out _) (HO1.out _ HU1.out) ?_; clear H; intro wu HWwu H; simp only [List.set_cons_succ, List.set_cons_zero] at H))) | ((with_reducible show wpList _ _ _ (Oper.mk _ (Op.load 45 _) _ _ _ _ :: _) _ _); (first | (refine L_load H rfl 45 _ rfl 0 rfl rfl Try.underlying45 rfl (HZK.out) ?_) | (refine L_load H rfl 45 _ rfl 1 rfl rfl Try.underlying45 rfl (HZK.out) ?_) | (refine L_load H rfl 45 _ rfl 2 rfl rfl Try.underlying45 rfl (HZK.out) ?_) | (refine L_load H rfl 45 _ rfl 3 rfl rfl Try.underlying45 rfl (HZK.out) ?_) | (refine L_load H rfl 45 _ rfl 4 rfl rfl Try.underlying45 rfl (HZK.out) ?_) | (refine L_load H rfl 45 _ rfl 5 rfl rfl Try.underlying45 rfl (HZK.out) ?_)); simp only [Act.put, List.setIfInBounds_toArray, List.set_cons_zero, List.set_cons_succ]) | ((with_reducible show wpList _ _ _ (Oper.mk _ (Op.build _ _) _ _ _ _ :: _) _ _); (refine wpList_buildSlot rfl _ rfl k H16.out rfl ?_); simp only [Act.put, List.setIfInBounds_toArray, List.set_cons_zero, List.set_cons_succ]) | (((with_reducible show wpList _ _ _ (Oper.mk none (Op.store 47 _ _) _ _ _ _ :: _) _ _); (first | (refine L_seg H rfl rfl 47 _ _ rfl 0 rfl (j * 36) rfl (cellsS (newSlot k)) rfl (HZS.out) (HFT.out _) (HOS.out) (cellsR (l.set j (newSlot k)) (.slice ua ks.length uc)) (HSG.out _) ?_; clear H; intro ws HWws H; simp only [List.set_cons_zero] at H) | (refine L_seg H rfl rfl 47 _ _ rfl 1 rfl (j * 36) rfl (cellsS (newSlot k)) rfl (HZS.out) (HFT.out _) (HOS.out) (cellsR (l.set j (newSlot k)) (.slice ua ks.length uc)) (HSG.out _) ?_; clear H; intro ws HWws H; simp only [List.set_cons_succ, List.set_cons_zero] at H) | (refine L_seg H rfl rfl 47 _ _ rfl 2 rfl (j * 36) rfl (cellsS (newSlot k)) rfl (HZS.out) (HFT.out _) (HOS.out) (cellsR (l.set j (newSlot k)) (.slice ua ks.length uc)) (HSG.out _) ?_; clear H; intro ws HWws H; simp only [List.set_cons_succ, List.set_cons_zero] at H) | (refine L_seg H rfl rfl 47 _ _ rfl 3 rfl (j * 36) rfl (cellsS (newSlot k)) rfl (HZS.out) (HFT.out _) (HOS.out) (cellsR (l.set j (newSlot k)) (.slice ua ks.length uc)) (HSG.out _) ?_; clear H; intro ws HWws H; simp only [List.set_cons_succ, List.set_cons_zero] at H) | (refine L_seg H rfl rfl 47 _ _ rfl 4 rfl (j * 36) rfl (cellsS (newSlot k)) rfl (HZS.out) (HFT.out _) (HOS.out) (cellsR (l.set j (newSlot k)) (.slice ua ks.length uc)) (HSG.out _) ?_; clear H; intro ws HWws H; simp only [List.set_cons_succ, List.set_cons_zero] at H) | (refine L_seg H rfl rfl 47 _ _ rfl 5 rfl (j * 36) rfl (cellsS (newSlot k)) rfl (HZS.out) (HFT.out _) (HOS.out) (cellsR (l.set j (newSlot k)) (.slice ua ks.length uc)) (HSG.out _) ?_; clear H; intro ws HWws H; simp only [List.set_cons_succ, List.set_cons_zero] at H))); have hc := run_load_cell H.out 0 rfl _ _ (HP2.out (.slice ua ks.length uc))) | ((with_reducible show wpList _ _ _ (Oper.mk (some 60) (Op.buildSlice 49 _ _) _ _ _ _ :: _) _ _); (refine L_bs H (by kernel_rfl) 49 1 _ rfl (#[(0, .agg (k.map V8).toArray)]) (by kernel_rfl) 45 (k.map V8) (HBS.out) ?_); clear H; intro g60 w60 HGg60 HEg60 H; simp only [Act.put, List.setIfInBounds_toArray, List.set_cons_zero, List.set_cons_succ]) | (at_builtin; have HCH := kp (((Chg.of_ext HEg10.out).wrote HWwu.out (Nat.le_of_eq HGg10.out.symm)).wrote HWws.out (Nat.le_of_eq HGg10.out.symm)); have HCH2 := kp (HCH.out.ext HEg60.out); have HL9 := kp (H.out.at 0 rfl); have HLT10 := kp (H.out.lt 1 rfl); have HSEP := kp (show ∀ q ∈ [g60, g10, g6, g5, g3], (Value.slice ua ks.length uc).ownBlock ≠ some q from fun q hq e => sep_two (x := g60) (y := g10) (Nat.lt_of_lt_of_le (HOB.out q e).2 (by rw [HGg60.out]; exact HCH.out.1)) (by rw [HGg10.out]; exact (HOB.out q e).2) HALL.out (HOB.out q e).1 q hq rfl); refine L_appT (f := fun q => List.map V8 q) elemK H rfl _ _ rfl wc.heap.size HB0.out (Nat.le_trans HXC.out.size HCH2.out.1) (.slice ua ks.length uc) ks rfl (ownsT_chg HOW.out HCH2.out (fun q hq => ownsT_lt HOW.out q hq)) HSEP.out g60 k rfl _ HL9.out (by rw [List.length_map]; exact H16.out) (mem_V8 k) (by have := HPL.out; omega) (by have := HPL.out; omega) ?_; clear H; intro u9 w9 HOW9 HGR HWH H; have HPV := kp (PastV.of_owns HK2.out HOW9.out)) | ((with_reducible show wpList _ _ _ (Oper.mk none (Op.store 49 _ _) _ _ _ _ :: _) _ _); (first | (refine L_cell H rfl rfl 49 _ _ rfl 0 rfl (144) rfl (u9) rfl (slot_oneP HPV.out) (sizeKey1) (HP144.out _) (cellsR (l.set j (newSlot k)) u9) (HPS.out _ _) ?_; clear H; intro wq HWwq H; simp only [List.set_cons_zero] at H) | (refine L_cell H rfl rfl 49 _ _ rfl 1 rfl (144) rfl (u9) rfl (slot_oneP HPV.out) (sizeKey1) (HP144.out _) (cellsR (l.set j (newSlot k)) u9) (HPS.out _ _) ?_; clear H; intro wq HWwq H; simp only [List.set_cons_succ, List.set_cons_zero] at H) | (refine L_cell H rfl rfl 49 _ _ rfl 2 rfl (144) rfl (u9) rfl (slot_oneP HPV.out) (sizeKey1) (HP144.out _) (cellsR (l.set j (newSlot k)) u9) (HPS.out _ _) ?_; clear H; intro wq HWwq H; simp only [List.set_cons_succ, List.set_cons_zero] at H) | (refine L_cell H rfl rfl 49 _ _ rfl 3 rfl (144) rfl (u9) rfl (slot_oneP HPV.out) (sizeKey1) (HP144.out _) (cellsR (l.set j (newSlot k)) u9) (HPS.out _ _) ?_; clear H; intro wq HWwq H; simp only [List.set_cons_succ, List.set_cons_zero] at H) | (refine L_cell H rfl rfl 49 _ _ rfl 4 rfl (144) rfl (u9) rfl (slot_oneP HPV.out) (sizeKey1) (HP144.out _) (cellsR (l.set j (newSlot k)) u9) (HPS.out _ _) ?_; clear H; intro wq HWwq H; simp only [List.set_cons_succ, List.set_cons_zero] at H) | (refine L_cell H rfl rfl 49 _ _ rfl 5 rfl (144) rfl (u9) rfl (slot_oneP HPV.out) (sizeKey1) (HP144.out _) (cellsR (l.set j (newSlot k)) u9) (HPS.out _ _) ?_; clear H; intro wq HWwq H; simp only [List.set_cons_succ, List.set_cons_zero] at H))) | ((with_reducible show wpList _ _ _ (Oper.mk _ (Op.load 51 _) _ _ _ _ :: _) _ _); (first | (refine L_load H rfl 51 _ rfl 0 rfl rfl Try.underlying51 rfl (HZ2.out _) ?_) | (refine L_load H rfl 51 _ rfl 1 rfl rfl Try.underlying51 rfl (HZ2.out _) ?_) | (refine L_load H rfl 51 _ rfl 2 rfl rfl Try.underlying51 rfl (HZ2.out _) ?_) | (refine L_load H rfl 51 _ rfl 3 rfl rfl Try.underlying51 rfl (HZ2.out _) ?_) | (refine L_load H rfl 51 _ rfl 4 rfl rfl Try.underlying51 rfl (HZ2.out _) ?_) | (refine L_load H rfl 51 _ rfl 5 rfl rfl Try.underlying51 rfl (HZ2.out _) ?_)); simp only [Act.put, List.setIfInBounds_toArray, List.set_cons_zero, List.set_cons_succ]) | ((with_reducible show wpList _ _ _ (Oper.mk none (Op.store 51 _ _) _ _ _ _ :: _) _ _); (first | (refine L_store H rfl rfl 51 _ _ rfl 0 rfl rfl (cellsR (l.set j (newSlot k)) u9) rfl (HZ2.out _) (HLN2.out _) (HO2.out _ (slot_oneP HPV.out)) ?_; clear H; intro wr HWwr H; simp only [List.set_cons_zero] at H) | (refine L_store H rfl rfl 51 _ _ rfl 1 rfl rfl (cellsR (l.set j (newSlot k)) u9) rfl (HZ2.out _) (HLN2.out _) (HO2.out _ (slot_oneP HPV.out)) ?_; clear H; intro wr HWwr H; simp only [List.set_cons_succ, List.set_cons_zero] at H) | (refine L_store H rfl rfl 51 _ _ rfl 2 rfl rfl (cellsR (l.set j (newSlot k)) u9) rfl (HZ2.out _) (HLN2.out _) (HO2.out _ (slot_oneP HPV.out)) ?_; clear H; intro wr HWwr H; simp only [List.set_cons_succ, List.set_cons_zero] at H) | (refine L_store H rfl rfl 51 _ _ rfl 3 rfl rfl (cellsR (l.set j (newSlot k)) u9) rfl (HZ2.out _) (HLN2.out _) (HO2.out _ (slot_oneP HPV.out)) ?_; clear H; intro wr HWwr H; simp only [List.set_cons_succ, List.set_cons_zero] at H) | (refine L_store H rfl rfl 51 _ _ rfl 4 rfl rfl (cellsR (l.set j (newSlot k)) u9) rfl (HZ2.out _) (HLN2.out _) (HO2.out _ (slot_oneP HPV.out)) ?_; clear H; intro wr HWwr H; simp only [List.set_cons_succ, List.set_cons_zero] at H) | (refine L_store H rfl rfl 51 _ _ rfl 5 rfl rfl (cellsR (l.set j (newSlot k)) u9) rfl (HZ2.out _) (HLN2.out _) (HO2.out _ (slot_oneP HPV.out)) ?_; clear H; intro wr HWwr H; simp only [List.set_cons_succ, List.set_cons_zero] at H))))
          have HP9 := kp (HPV.out.wroteS HWwq.out (new_ne HWH.out (HSEP.out g10 (by simp)) HLT10.out))
          exact ret_row2 Try.results30 _ _ _ (0, 0) _ rfl _ rfl (H.out.at 2 rfl) Try.underlying51 rfl (HZ2.out _) rfl (by rw [HF.out, HLF.out]; exact ⟨_, rfl, (HP9.out.wrote HWwr.out (HALL.out g6 (by simp))).base HB0.out, H.out.1⟩)
end Go.Proofs.Ytjnaegpjhbobaaa
