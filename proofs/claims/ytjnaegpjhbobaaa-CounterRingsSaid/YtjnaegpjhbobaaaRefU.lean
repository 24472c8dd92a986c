/- The reference's Send. -/
import Derived.Test.YtjnaegpjhbobaaaRefT
namespace Go.Proofs.Ytjnaegpjhbobaaa
open Go.RowKit
theorem PastV.out {base : Nat} {G : List Nat} {w w' : World} {u : Value} {ks : Keys16} (h : PastV base w u ks) (ho : Out G w w') (hG : ∀ g ∈ G, g < base) : PastV base w' u ks := by
  obtain ⟨ad, n, c, rfl, h2, h3, ⟨h0, h4⟩, h5⟩ := h
  refine ⟨ad, n, c, rfl, h2, h3, ⟨h0, ?_⟩, h5.1, h5.2.keep fun _ a ha hl => ho.block a.block hl (fun hm => by have := hG a.block hm; have := h5.1 a ha; omega)⟩
  rcases h4 with h4 | ⟨b, off, cap, he, hb, hr⟩
  · exact .inl h4
  · refine .inr ⟨b, off, cap, he, Nat.lt_of_lt_of_le hb ho.size, fun j q hq i v hv => ?_⟩
    have := hr j q hq i v hv
    have hbb : base ≤ b := by
      simp only [Value.slice.injEq] at he
      exact h5.1 _ he.1
    simp only [World.cell?] at this ⊢
    rw [ho.block b hb (fun hm => by have := hG b hm; omega)]; exact this
theorem cellsR_keyK (l : List Slot) (u : Value) (hl : Ring4 l) (k : Nat) (s : Slot) (h : l[k]? = some s) : ((cellsR l u).drop (k * 36 + 1)).take (s.key.map V8).length = s.key.map V8 := by
  have h36 := cellsR_slots l u k s hl h
  have h1 := slot_keyE s
  have h16 : (s.key.map V8).length = 16 := by rw [List.length_map, (hl.2 s (List.mem_of_getElem? h)).1]
  rw [← h36, List.drop_take, List.drop_drop, List.take_take] at h1
  rw [h16] at h1 ⊢
  exact h1
set_option maxHeartbeats 3200000 in
theorem rsend_any (l : List Slot) (hl : Ring4 l) (v : Value) (ks : Keys16) (b : Nat) (hn2 : ks.length ≤ 1000) (slot : Int) (w : World) (hs : PastV b w v ks) :
    Calls Try.prog 32 #[.agg (cellsR l v).toArray, .int .i64 slot] w (RetS (sendF l ks slot) w) := by
  have HA := kp (fun w' (h : Ext w w') => rat_any l hl v ks b hn2 slot w' (hs.ext h))
  have HT := kp (fun w' (h : Ext w w') => rtwin_any l hl v ks hn2 w' (hs.sly.ext h))
  have HZ := kp (fun u => sizeR l u hl)
  have HZZ := kp (sizeR zeroSs nilV ring_zero)
  have HZO := kp (one_cellsR zeroSs nilV rfl)
  have HZK0 := kp (sizeKy zeroK rfl)
  have HK0O := kp (all_V8 zeroK)
  have HS := kp hs
  have HL := kp hl
  clear hs hl
  have H := kp (Loc.start w)
  rcases atF_cases l ks slot with h | h | ⟨h, h0, h4⟩
  iterate 2
    have HF := kp (show sendF l ks slot = badS (atF l ks slot) by simp [sendF, h])
    rw [h] at HA HF
    clear h
    go_enter Try.func32, Try.ntmps32
    go_wp2_with (first | ((with_reducible show wpList _ _ _ (Oper.mk (some 2) (Op.box 51 _) _ _ _ _ :: _) _ _); (with_reducible refine L_box H rfl 51 _ rfl (cellsR l v) rfl ?_); clear H; intro g2 w2 HGg2 HEg2 H; simp only [Act.put, List.setIfInBounds_toArray, List.set_cons_zero, List.set_cons_succ]) | ((with_reducible show wpList _ _ _ (Oper.mk (some 4) (Op.alloc 45) _ _ _ _ :: _) _ _); (with_reducible refine L_alloc H rfl 45 rfl (zeroK.map V8) (fun _ _ => by kernel_rfl) ?_); clear H; intro g4 w4 HGg4 HEg4 H; simp only [Act.put, List.setIfInBounds_toArray, List.set_cons_zero, List.set_cons_succ]) | ((with_reducible show wpList _ _ _ (Oper.mk (some 6) (Op.alloc 51) _ _ _ _ :: _) _ _); (with_reducible refine L_alloc H rfl 51 rfl (zeroR) (fun _ _ => by kernel_rfl) ?_); clear H; intro g6 w6 HGg6 HEg6 H; simp only [Act.put, List.setIfInBounds_toArray, List.set_cons_zero, List.set_cons_succ]) | ((with_reducible show wpList _ _ _ (Oper.mk _ (Op.load 51 _) _ _ _ _ :: _) _ _); (first | (refine L_load H rfl 51 _ rfl 0 rfl rfl Try.underlying51 rfl (HZ.out _) ?_) | (refine L_load H rfl 51 _ rfl 1 rfl rfl Try.underlying51 rfl (HZ.out _) ?_) | (refine L_load H rfl 51 _ rfl 2 rfl rfl Try.underlying51 rfl (HZ.out _) ?_) | (refine L_load H rfl 51 _ rfl 3 rfl rfl Try.underlying51 rfl (HZ.out _) ?_) | (refine L_load H rfl 51 _ rfl 4 rfl rfl Try.underlying51 rfl (HZ.out _) ?_) | (refine L_load H rfl 51 _ rfl 5 rfl rfl Try.underlying51 rfl (HZ.out _) ?_)); simp only [Act.put, List.setIfInBounds_toArray, List.set_cons_zero, List.set_cons_succ]) | ((with_reducible show wpList _ _ _ (Oper.mk (some 28) (Op.build 45 _) _ _ _ _ :: _) _ _); (refine L_bd (by kernel_rfl) 45 _ rfl (#[]) (by kernel_rfl) (zeroK.map V8) (fun _ => by kernel_rfl) ?_); simp only [Act.put, List.setIfInBounds_toArray, List.set_cons_zero, List.set_cons_succ]) | ((with_reducible show wpList _ _ _ (Oper.mk (some 29) (Op.build 51 _) _ _ _ _ :: _) _ _); (refine L_bd (by kernel_rfl) 51 _ rfl (#[]) (by kernel_rfl) (zeroR) (fun _ => by kernel_rfl) ?_); simp only [Act.put, List.setIfInBounds_toArray, List.set_cons_zero, List.set_cons_succ]) | ((with_reducible show wpList _ _ _ (Oper.mk none (Op.store 51 _ _) _ _ _ _ :: _) _ _); (first | (refine L_store H rfl rfl 51 _ _ rfl 0 rfl rfl (zeroR) rfl (HZZ.out) (rfl) (HZO.out) ?_; clear H; intro wz HWwz H; simp only [List.set_cons_zero] at H) | (refine L_store H rfl rfl 51 _ _ rfl 1 rfl rfl (zeroR) rfl (HZZ.out) (rfl) (HZO.out) ?_; clear H; intro wz HWwz H; simp only [List.set_cons_succ, List.set_cons_zero] at H) | (refine L_store H rfl rfl 51 _ _ rfl 2 rfl rfl (zeroR) rfl (HZZ.out) (rfl) (HZO.out) ?_; clear H; intro wz HWwz H; simp only [List.set_cons_succ, List.set_cons_zero] at H) | (refine L_store H rfl rfl 51 _ _ rfl 3 rfl rfl (zeroR) rfl (HZZ.out) (rfl) (HZO.out) ?_; clear H; intro wz HWwz H; simp only [List.set_cons_succ, List.set_cons_zero] at H) | (refine L_store H rfl rfl 51 _ _ rfl 4 rfl rfl (zeroR) rfl (HZZ.out) (rfl) (HZO.out) ?_; clear H; intro wz HWwz H; simp only [List.set_cons_succ, List.set_cons_zero] at H) | (refine L_store H rfl rfl 51 _ _ rfl 5 rfl rfl (zeroR) rfl (HZZ.out) (rfl) (HZO.out) ?_; clear H; intro wz HWwz H; simp only [List.set_cons_succ, List.set_cons_zero] at H))) | ((with_reducible show wpList _ _ _ (Oper.mk none (Op.store 45 _ _) _ _ _ _ :: _) _ _); (first | (refine L_store H rfl rfl 45 _ _ rfl 0 rfl rfl (zeroK.map V8) rfl (HZK0.out) (rfl) (HK0O.out) ?_; clear H; intro wzk HWwzk H; simp only [List.set_cons_zero] at H) | (refine L_store H rfl rfl 45 _ _ rfl 1 rfl rfl (zeroK.map V8) rfl (HZK0.out) (rfl) (HK0O.out) ?_; clear H; intro wzk HWwzk H; simp only [List.set_cons_succ, List.set_cons_zero] at H) | (refine L_store H rfl rfl 45 _ _ rfl 2 rfl rfl (zeroK.map V8) rfl (HZK0.out) (rfl) (HK0O.out) ?_; clear H; intro wzk HWwzk H; simp only [List.set_cons_succ, List.set_cons_zero] at H) | (refine L_store H rfl rfl 45 _ _ rfl 3 rfl rfl (zeroK.map V8) rfl (HZK0.out) (rfl) (HK0O.out) ?_; clear H; intro wzk HWwzk H; simp only [List.set_cons_succ, List.set_cons_zero] at H) | (refine L_store H rfl rfl 45 _ _ rfl 4 rfl rfl (zeroK.map V8) rfl (HZK0.out) (rfl) (HK0O.out) ?_; clear H; intro wzk HWwzk H; simp only [List.set_cons_succ, List.set_cons_zero] at H) | (refine L_store H rfl rfl 45 _ _ rfl 5 rfl rfl (zeroK.map V8) rfl (HZK0.out) (rfl) (HK0O.out) ?_; clear H; intro wzk HWwzk H; simp only [List.set_cons_succ, List.set_cons_zero] at H))) | (go_at_call 50; refine (HA.out _ H.out.1).mono ?_; rintro e wa ⟨rfl, hx⟩; have H2 := kp (H.out.ext hx); have HXC := kp hx; clear H hx; have H := H2; clear H2))
    exact ret_row4 Try.results32 _ _ _ _ _ _ (0, 0) (0, 0) _ _ rfl _ rfl rfl _ rfl (H.out.at (1) rfl) (H.out.at (0) rfl) Try.underlying45 rfl (HZK0.out) Try.underlying51 rfl (HZZ.out) rfl (by rw [HF.out]; exact retS_bad H.out.1 rfl)
  obtain ⟨k, rfl⟩ := Int.eq_ofNat_of_zero_le h0
  obtain ⟨s, hk⟩ : ∃ s, l[k]? = some s := ⟨l[k]'(by rw [HL.out.1]; omega), by simp⟩
  have HF := kp (show sendF l ks k = if s.used then (if (nextF s.last s.wins).2.2 = 0 then ⟨s.key, (nextF s.last s.wins).1, l.set k (setCtr s (nextF s.last s.wins).2.1.1 (nextF s.last s.wins).2.1.2), ks, 0⟩ else badS (nextF s.last s.wins).2.2) else badS 30 by simp [sendF, h, hk])
  have HK := kp hk
  have HU := kp (fun u => cellsR_used l u HL.out k s hk)
  rw [h] at HA
  clear h h0
  have HSO := kp (HL.out.2 s (List.mem_of_getElem? hk))
  clear hk
  cases hus : s.used with
  | false =>
    rw [hus] at HF HU
    clear hus
    go_enter Try.func32, Try.ntmps32
    go_wp2_with (first | ((with_reducible show wpList _ _ _ (Oper.mk (some 2) (Op.box 51 _) _ _ _ _ :: _) _ _); (with_reducible refine L_box H rfl 51 _ rfl (cellsR l v) rfl ?_); clear H; intro g2 w2 HGg2 HEg2 H; simp only [Act.put, List.setIfInBounds_toArray, List.set_cons_zero, List.set_cons_succ]) | ((with_reducible show wpList _ _ _ (Oper.mk (some 4) (Op.alloc 45) _ _ _ _ :: _) _ _); (with_reducible refine L_alloc H rfl 45 rfl (zeroK.map V8) (fun _ _ => by kernel_rfl) ?_); clear H; intro g4 w4 HGg4 HEg4 H; simp only [Act.put, List.setIfInBounds_toArray, List.set_cons_zero, List.set_cons_succ]) | ((with_reducible show wpList _ _ _ (Oper.mk (some 6) (Op.alloc 51) _ _ _ _ :: _) _ _); (with_reducible refine L_alloc H rfl 51 rfl (zeroR) (fun _ _ => by kernel_rfl) ?_); clear H; intro g6 w6 HGg6 HEg6 H; simp only [Act.put, List.setIfInBounds_toArray, List.set_cons_zero, List.set_cons_succ]) | ((with_reducible show wpList _ _ _ (Oper.mk _ (Op.load 51 _) _ _ _ _ :: _) _ _); (first | (refine L_load H rfl 51 _ rfl 0 rfl rfl Try.underlying51 rfl (HZ.out _) ?_) | (refine L_load H rfl 51 _ rfl 1 rfl rfl Try.underlying51 rfl (HZ.out _) ?_) | (refine L_load H rfl 51 _ rfl 2 rfl rfl Try.underlying51 rfl (HZ.out _) ?_) | (refine L_load H rfl 51 _ rfl 3 rfl rfl Try.underlying51 rfl (HZ.out _) ?_) | (refine L_load H rfl 51 _ rfl 4 rfl rfl Try.underlying51 rfl (HZ.out _) ?_) | (refine L_load H rfl 51 _ rfl 5 rfl rfl Try.underlying51 rfl (HZ.out _) ?_)); simp only [Act.put, List.setIfInBounds_toArray, List.set_cons_zero, List.set_cons_succ]))
    (go_at_call 50; refine (HA.out _ H.out.1).mono ?_; rintro e wa ⟨rfl, hx⟩; have H2 := kp (H.out.ext hx); have HXC := kp hx; clear H hx; have H := H2; clear H2)
    have hc := run_load_cell H.out 2 rfl _ _ (HU.out v)
    go_wp2_with (first | ((with_reducible show wpList _ _ _ (Oper.mk (some 28) (Op.build 45 _) _ _ _ _ :: _) _ _); (refine L_bd (by kernel_rfl) 45 _ rfl (#[]) (by kernel_rfl) (zeroK.map V8) (fun _ => by kernel_rfl) ?_); simp only [Act.put, List.setIfInBounds_toArray, List.set_cons_zero, List.set_cons_succ]) | ((with_reducible show wpList _ _ _ (Oper.mk (some 29) (Op.build 51 _) _ _ _ _ :: _) _ _); (refine L_bd (by kernel_rfl) 51 _ rfl (#[]) (by kernel_rfl) (zeroR) (fun _ => by kernel_rfl) ?_); simp only [Act.put, List.setIfInBounds_toArray, List.set_cons_zero, List.set_cons_succ]) | ((with_reducible show wpList _ _ _ (Oper.mk none (Op.store 51 _ _) _ _ _ _ :: _) _ _); (first | (refine L_store H rfl rfl 51 _ _ rfl 0 rfl rfl (zeroR) rfl (HZZ.out) (rfl) (HZO.out) ?_; clear H; intro wz HWwz H; simp only [List.set_cons_zero] at H) | (refine L_store H rfl rfl 51 _ _ rfl 1 rfl rfl (zeroR) rfl (HZZ.out) (rfl) (HZO.out) ?_; clear H; intro wz HWwz H; simp only [List.set_cons_succ, List.set_cons_zero] at H) | (refine L_store H rfl rfl 51 _ _ rfl 2 rfl rfl (zeroR) rfl (HZZ.out) (rfl) (HZO.out) ?_; clear H; intro wz HWwz H; simp only [List.set_cons_succ, List.set_cons_zero] at H) | (refine L_store H rfl rfl 51 _ _ rfl 3 rfl rfl (zeroR) rfl (HZZ.out) (rfl) (HZO.out) ?_; clear H; intro wz HWwz H; simp only [List.set_cons_succ, List.set_cons_zero] at H) | (refine L_store H rfl rfl 51 _ _ rfl 4 rfl rfl (zeroR) rfl (HZZ.out) (rfl) (HZO.out) ?_; clear H; intro wz HWwz H; simp only [List.set_cons_succ, List.set_cons_zero] at H) | (refine L_store H rfl rfl 51 _ _ rfl 5 rfl rfl (zeroR) rfl (HZZ.out) (rfl) (HZO.out) ?_; clear H; intro wz HWwz H; simp only [List.set_cons_succ, List.set_cons_zero] at H))) | ((with_reducible show wpList _ _ _ (Oper.mk none (Op.store 45 _ _) _ _ _ _ :: _) _ _); (first | (refine L_store H rfl rfl 45 _ _ rfl 0 rfl rfl (zeroK.map V8) rfl (HZK0.out) (rfl) (HK0O.out) ?_; clear H; intro wzk HWwzk H; simp only [List.set_cons_zero] at H) | (refine L_store H rfl rfl 45 _ _ rfl 1 rfl rfl (zeroK.map V8) rfl (HZK0.out) (rfl) (HK0O.out) ?_; clear H; intro wzk HWwzk H; simp only [List.set_cons_succ, List.set_cons_zero] at H) | (refine L_store H rfl rfl 45 _ _ rfl 2 rfl rfl (zeroK.map V8) rfl (HZK0.out) (rfl) (HK0O.out) ?_; clear H; intro wzk HWwzk H; simp only [List.set_cons_succ, List.set_cons_zero] at H) | (refine L_store H rfl rfl 45 _ _ rfl 3 rfl rfl (zeroK.map V8) rfl (HZK0.out) (rfl) (HK0O.out) ?_; clear H; intro wzk HWwzk H; simp only [List.set_cons_succ, List.set_cons_zero] at H) | (refine L_store H rfl rfl 45 _ _ rfl 4 rfl rfl (zeroK.map V8) rfl (HZK0.out) (rfl) (HK0O.out) ?_; clear H; intro wzk HWwzk H; simp only [List.set_cons_succ, List.set_cons_zero] at H) | (refine L_store H rfl rfl 45 _ _ rfl 5 rfl rfl (zeroK.map V8) rfl (HZK0.out) (rfl) (HK0O.out) ?_; clear H; intro wzk HWwzk H; simp only [List.set_cons_succ, List.set_cons_zero] at H))))
    exact ret_row4 Try.results32 _ _ _ _ _ _ (0, 0) (0, 0) _ _ rfl _ rfl rfl _ rfl (H.out.at (1) rfl) (H.out.at (0) rfl) Try.underlying45 rfl (HZK0.out) Try.underlying51 rfl (HZZ.out) rfl (by rw [HF.out]; exact retS_bad H.out.1 rfl)
  | true =>
    rw [hus] at HF HU
    clear hus
    have HCL := kp (show ((cellsR l v).drop (k * 36 + 17)).take (cellsC s.last s.wins).length = cellsC s.last s.wins by
      have h36 := cellsR_slots l v k s HL.out HK.out
      have h1 := slot_sub s HSO.out
      rw [← h36, List.drop_take, List.drop_drop, List.take_take] at h1
      have h19 : (cellsC s.last s.wins).length = 19 := by rw [cellsC_len, HSO.out.2]
      rw [h19] at h1 ⊢
      exact h1)
    have HZC := kp (show (Try.prog.info? 29).map (·.size) = some (cellsC s.last s.wins).length by rw [size29, cellsC_len, HSO.out.2])
    have HAC := kp (fun w => rnext_any s.last s.wins HSO.out.2 w)
    have HCC := kp (nextF_cases s.last s.wins)
    generalize hacc : nextF s.last s.wins = acc at *
    clear hacc
    have HOC := kp (fun a m => all_cellsC a m)
    have HZ0 := kp (show (Try.prog.info? 29).map (·.size) = some (cellsC 0 zeroWs).toArray.size from size29)
    rcases HCC.out with h | h | h
    iterate 2
      rw [h] at HAC HF
      dsimp only at HAC HF
      clear HCC h
      replace HF := kp (HF.out.trans (if_pos (by decide)))
      replace HF := kp (HF.out.trans (if_neg (by decide)))
      go_enter Try.func32, Try.ntmps32
      go_wp2_with (first | ((with_reducible show wpList _ _ _ (Oper.mk (some 2) (Op.box 51 _) _ _ _ _ :: _) _ _); (with_reducible refine L_box H rfl 51 _ rfl (cellsR l v) rfl ?_); clear H; intro g2 w2 HGg2 HEg2 H; simp only [Act.put, List.setIfInBounds_toArray, List.set_cons_zero, List.set_cons_succ]) | ((with_reducible show wpList _ _ _ (Oper.mk (some 4) (Op.alloc 45) _ _ _ _ :: _) _ _); (with_reducible refine L_alloc H rfl 45 rfl (zeroK.map V8) (fun _ _ => by kernel_rfl) ?_); clear H; intro g4 w4 HGg4 HEg4 H; simp only [Act.put, List.setIfInBounds_toArray, List.set_cons_zero, List.set_cons_succ]) | ((with_reducible show wpList _ _ _ (Oper.mk (some 6) (Op.alloc 51) _ _ _ _ :: _) _ _); (with_reducible refine L_alloc H rfl 51 rfl (zeroR) (fun _ _ => by kernel_rfl) ?_); clear H; intro g6 w6 HGg6 HEg6 H; simp only [Act.put, List.setIfInBounds_toArray, List.set_cons_zero, List.set_cons_succ]) | ((with_reducible show wpList _ _ _ (Oper.mk _ (Op.load 51 _) _ _ _ _ :: _) _ _); (first | (refine L_load H rfl 51 _ rfl 0 rfl rfl Try.underlying51 rfl (HZ.out _) ?_) | (refine L_load H rfl 51 _ rfl 1 rfl rfl Try.underlying51 rfl (HZ.out _) ?_) | (refine L_load H rfl 51 _ rfl 2 rfl rfl Try.underlying51 rfl (HZ.out _) ?_) | (refine L_load H rfl 51 _ rfl 3 rfl rfl Try.underlying51 rfl (HZ.out _) ?_) | (refine L_load H rfl 51 _ rfl 4 rfl rfl Try.underlying51 rfl (HZ.out _) ?_) | (refine L_load H rfl 51 _ rfl 5 rfl rfl Try.underlying51 rfl (HZ.out _) ?_)); simp only [Act.put, List.setIfInBounds_toArray, List.set_cons_zero, List.set_cons_succ]))
      (go_at_call 50; refine (HA.out _ H.out.1).mono ?_; rintro e wa ⟨rfl, hx⟩; have H2 := kp (H.out.ext hx); have HXC := kp hx; clear H hx; have H := H2; clear H2)
      have hc := run_load_cell H.out 2 rfl _ _ (HU.out v)
      go_wp2_with (first | ((with_reducible show wpList _ _ _ (Oper.mk _ (Op.load 29 _) _ _ _ _ :: _) _ _); (first | (refine L_sub H rfl 29 _ rfl 0 rfl (k * 36 + 17) rfl (cellsC s.last s.wins) (HCL.out) Try.underlying29 rfl (HZC.out) ?_) | (refine L_sub H rfl 29 _ rfl 1 rfl (k * 36 + 17) rfl (cellsC s.last s.wins) (HCL.out) Try.underlying29 rfl (HZC.out) ?_) | (refine L_sub H rfl 29 _ rfl 2 rfl (k * 36 + 17) rfl (cellsC s.last s.wins) (HCL.out) Try.underlying29 rfl (HZC.out) ?_) | (refine L_sub H rfl 29 _ rfl 3 rfl (k * 36 + 17) rfl (cellsC s.last s.wins) (HCL.out) Try.underlying29 rfl (HZC.out) ?_) | (refine L_sub H rfl 29 _ rfl 4 rfl (k * 36 + 17) rfl (cellsC s.last s.wins) (HCL.out) Try.underlying29 rfl (HZC.out) ?_) | (refine L_sub H rfl 29 _ rfl 5 rfl (k * 36 + 17) rfl (cellsC s.last s.wins) (HCL.out) Try.underlying29 rfl (HZC.out) ?_)); simp only [Act.put, List.setIfInBounds_toArray, List.set_cons_zero, List.set_cons_succ]))
      clear hc
      refine (HAC.out _).mono ?_
      rintro e wa ⟨rfl, hx⟩
      have H2 := kp (H.out.ext hx); have HXC := kp hx; clear H hx; have H := H2; clear H2
      go_wp2_with (first | ((with_reducible show wpList _ _ _ (Oper.mk (some 10) (Op.alloc 29) _ _ _ _ :: _) _ _); (with_reducible refine L_alloc H rfl 29 rfl (cellsC 0 zeroWs) (fun _ _ => by kernel_rfl) ?_); clear H; intro g10 w10 HGg10 HEg10 H; simp only [Act.put, List.setIfInBounds_toArray, List.set_cons_zero, List.set_cons_succ]) | ((with_reducible show wpList _ _ _ (Oper.mk none (Op.store 29 _ _) _ _ _ _ :: _) _ _); (first | (refine L_store H rfl rfl 29 _ _ rfl 0 rfl rfl (cellsC 0 zeroWs) rfl (HZ0.out) (rfl) (HOC.out _ _) ?_; clear H; intro wk HWwk H; simp only [List.set_cons_zero] at H) | (refine L_store H rfl rfl 29 _ _ rfl 1 rfl rfl (cellsC 0 zeroWs) rfl (HZ0.out) (rfl) (HOC.out _ _) ?_; clear H; intro wk HWwk H; simp only [List.set_cons_succ, List.set_cons_zero] at H) | (refine L_store H rfl rfl 29 _ _ rfl 2 rfl rfl (cellsC 0 zeroWs) rfl (HZ0.out) (rfl) (HOC.out _ _) ?_; clear H; intro wk HWwk H; simp only [List.set_cons_succ, List.set_cons_zero] at H) | (refine L_store H rfl rfl 29 _ _ rfl 3 rfl rfl (cellsC 0 zeroWs) rfl (HZ0.out) (rfl) (HOC.out _ _) ?_; clear H; intro wk HWwk H; simp only [List.set_cons_succ, List.set_cons_zero] at H) | (refine L_store H rfl rfl 29 _ _ rfl 4 rfl rfl (cellsC 0 zeroWs) rfl (HZ0.out) (rfl) (HOC.out _ _) ?_; clear H; intro wk HWwk H; simp only [List.set_cons_succ, List.set_cons_zero] at H) | (refine L_store H rfl rfl 29 _ _ rfl 5 rfl rfl (cellsC 0 zeroWs) rfl (HZ0.out) (rfl) (HOC.out _ _) ?_; clear H; intro wk HWwk H; simp only [List.set_cons_succ, List.set_cons_zero] at H))) | ((with_reducible show wpList _ _ _ (Oper.mk (some 43) (Op.build 45 _) _ _ _ _ :: _) _ _); (refine L_bd (by kernel_rfl) 45 _ rfl (#[]) (by kernel_rfl) (zeroK.map V8) (fun _ => by kernel_rfl) ?_); simp only [Act.put, List.setIfInBounds_toArray, List.set_cons_zero, List.set_cons_succ]) | ((with_reducible show wpList _ _ _ (Oper.mk (some 44) (Op.build 51 _) _ _ _ _ :: _) _ _); (refine L_bd (by kernel_rfl) 51 _ rfl (#[]) (by kernel_rfl) (zeroR) (fun _ => by kernel_rfl) ?_); simp only [Act.put, List.setIfInBounds_toArray, List.set_cons_zero, List.set_cons_succ]) | ((with_reducible show wpList _ _ _ (Oper.mk none (Op.store 51 _ _) _ _ _ _ :: _) _ _); (first | (refine L_store H rfl rfl 51 _ _ rfl 0 rfl rfl (zeroR) rfl (HZZ.out) (rfl) (HZO.out) ?_; clear H; intro wz HWwz H; simp only [List.set_cons_zero] at H) | (refine L_store H rfl rfl 51 _ _ rfl 1 rfl rfl (zeroR) rfl (HZZ.out) (rfl) (HZO.out) ?_; clear H; intro wz HWwz H; simp only [List.set_cons_succ, List.set_cons_zero] at H) | (refine L_store H rfl rfl 51 _ _ rfl 2 rfl rfl (zeroR) rfl (HZZ.out) (rfl) (HZO.out) ?_; clear H; intro wz HWwz H; simp only [List.set_cons_succ, List.set_cons_zero] at H) | (refine L_store H rfl rfl 51 _ _ rfl 3 rfl rfl (zeroR) rfl (HZZ.out) (rfl) (HZO.out) ?_; clear H; intro wz HWwz H; simp only [List.set_cons_succ, List.set_cons_zero] at H) | (refine L_store H rfl rfl 51 _ _ rfl 4 rfl rfl (zeroR) rfl (HZZ.out) (rfl) (HZO.out) ?_; clear H; intro wz HWwz H; simp only [List.set_cons_succ, List.set_cons_zero] at H) | (refine L_store H rfl rfl 51 _ _ rfl 5 rfl rfl (zeroR) rfl (HZZ.out) (rfl) (HZO.out) ?_; clear H; intro wz HWwz H; simp only [List.set_cons_succ, List.set_cons_zero] at H))) | ((with_reducible show wpList _ _ _ (Oper.mk none (Op.store 45 _ _) _ _ _ _ :: _) _ _); (first | (refine L_store H rfl rfl 45 _ _ rfl 0 rfl rfl (zeroK.map V8) rfl (HZK0.out) (rfl) (HK0O.out) ?_; clear H; intro wzk HWwzk H; simp only [List.set_cons_zero] at H) | (refine L_store H rfl rfl 45 _ _ rfl 1 rfl rfl (zeroK.map V8) rfl (HZK0.out) (rfl) (HK0O.out) ?_; clear H; intro wzk HWwzk H; simp only [List.set_cons_succ, List.set_cons_zero] at H) | (refine L_store H rfl rfl 45 _ _ rfl 2 rfl rfl (zeroK.map V8) rfl (HZK0.out) (rfl) (HK0O.out) ?_; clear H; intro wzk HWwzk H; simp only [List.set_cons_succ, List.set_cons_zero] at H) | (refine L_store H rfl rfl 45 _ _ rfl 3 rfl rfl (zeroK.map V8) rfl (HZK0.out) (rfl) (HK0O.out) ?_; clear H; intro wzk HWwzk H; simp only [List.set_cons_succ, List.set_cons_zero] at H) | (refine L_store H rfl rfl 45 _ _ rfl 4 rfl rfl (zeroK.map V8) rfl (HZK0.out) (rfl) (HK0O.out) ?_; clear H; intro wzk HWwzk H; simp only [List.set_cons_succ, List.set_cons_zero] at H) | (refine L_store H rfl rfl 45 _ _ rfl 5 rfl rfl (zeroK.map V8) rfl (HZK0.out) (rfl) (HK0O.out) ?_; clear H; intro wzk HWwzk H; simp only [List.set_cons_succ, List.set_cons_zero] at H))))
      exact ret_row4 Try.results32 _ _ _ _ _ _ (0, 0) (0, 0) _ _ rfl _ rfl rfl _ rfl (H.out.at (2) rfl) (H.out.at (1) rfl) Try.underlying45 rfl (HZK0.out) Try.underlying51 rfl (HZZ.out) rfl (by rw [HF.out]; exact retS_bad H.out.1 rfl)
    rw [h] at HAC HF
    dsimp only at HAC HF
    clear HCC h
    replace HF := kp (HF.out.trans (if_pos (by decide)))
    replace HF := kp (HF.out.trans (if_pos (by decide)))
    have HZM := kp (sizeC (s.last + 1) s.wins HSO.out.2)
    have HLM := kp (show (cellsC 0 zeroWs).length = (cellsC (s.last + 1) s.wins).length by rw [cellsC_len, cellsC_len, HSO.out.2]; rfl)
    have HRS := kp (ring_set l HL.out k (setCtr s (s.last + 1) s.wins) ⟨HSO.out.1, HSO.out.2⟩)
    have HZ2 := kp (fun u => sizeR (l.set k (setCtr s (s.last + 1) s.wins)) u HRS.out)
    have HO := kp (fun u (h : u.oneCell' = true) => one_cellsR l u h)
    have HO2 := kp (fun u (h : u.oneCell' = true) => one_cellsR (l.set k (setCtr s (s.last + 1) s.wins)) u h)
    have HLN := kp (fun u => cellsR_len2 zeroSs l nilV u ring_zero HL.out)
    have HLN2 := kp (fun u => cellsR_len2 zeroSs (l.set k (setCtr s (s.last + 1) s.wins)) nilV u ring_zero HRS.out)
    have HSG := kp (fun u => congrArg List.toArray (cellsR_ctr l u HL.out k s (s.last + 1) s.wins HSO.out.2 HK.out))
    have hkl := (List.getElem?_eq_some_iff.1 HK.out).1
    have HFT := kp (fun u => show k * 36 + 17 + (cellsC (s.last + 1) s.wins).toArray.size ≤ (cellsR l u).toArray.size by
      have := hkl
      rw [HL.out.1] at this
      rw [List.size_toArray, List.size_toArray, cellsR_len l u HL.out, cellsC_len, HSO.out.2]; omega)
    have HKS := kp (fun u => show ((cellsR (l.set k (setCtr s (s.last + 1) s.wins)) u).drop (k * 36 + 1)).take (s.key.map V8).length = s.key.map V8 from cellsR_keyK _ u HRS.out k (setCtr s (s.last + 1) s.wins) (List.getElem?_set_self hkl))
    clear hkl
    have HKZ := kp (sizeKl s.key HSO.out.1)
    have HKZ2 := kp (sizeKy s.key HSO.out.1)
    have HKO := kp (all_V8 s.key)
    have HKL := kp (show (zeroK.map V8).length = (s.key.map V8).length by rw [List.length_map, List.length_map, HSO.out.1]; rfl)
    go_enter Try.func32, Try.ntmps32
    go_wp2_with (first | ((with_reducible show wpList _ _ _ (Oper.mk (some 2) (Op.box 51 _) _ _ _ _ :: _) _ _); (with_reducible refine L_box H rfl 51 _ rfl (cellsR l v) rfl ?_); clear H; intro g2 w2 HGg2 HEg2 H; simp only [Act.put, List.setIfInBounds_toArray, List.set_cons_zero, List.set_cons_succ]) | ((with_reducible show wpList _ _ _ (Oper.mk (some 4) (Op.alloc 45) _ _ _ _ :: _) _ _); (with_reducible refine L_alloc H rfl 45 rfl (zeroK.map V8) (fun _ _ => by kernel_rfl) ?_); clear H; intro g4 w4 HGg4 HEg4 H; simp only [Act.put, List.setIfInBounds_toArray, List.set_cons_zero, List.set_cons_succ]) | ((with_reducible show wpList _ _ _ (Oper.mk (some 6) (Op.alloc 51) _ _ _ _ :: _) _ _); (with_reducible refine L_alloc H rfl 51 rfl (zeroR) (fun _ _ => by kernel_rfl) ?_); clear H; intro g6 w6 HGg6 HEg6 H; simp only [Act.put, List.setIfInBounds_toArray, List.set_cons_zero, List.set_cons_succ]) | ((with_reducible show wpList _ _ _ (Oper.mk _ (Op.load 51 _) _ _ _ _ :: _) _ _); (first | (refine L_load H rfl 51 _ rfl 0 rfl rfl Try.underlying51 rfl (HZ.out _) ?_) | (refine L_load H rfl 51 _ rfl 1 rfl rfl Try.underlying51 rfl (HZ.out _) ?_) | (refine L_load H rfl 51 _ rfl 2 rfl rfl Try.underlying51 rfl (HZ.out _) ?_) | (refine L_load H rfl 51 _ rfl 3 rfl rfl Try.underlying51 rfl (HZ.out _) ?_) | (refine L_load H rfl 51 _ rfl 4 rfl rfl Try.underlying51 rfl (HZ.out _) ?_) | (refine L_load H rfl 51 _ rfl 5 rfl rfl Try.underlying51 rfl (HZ.out _) ?_)); simp only [Act.put, List.setIfInBounds_toArray, List.set_cons_zero, List.set_cons_succ]))
    (go_at_call 50; refine (HA.out _ H.out.1).mono ?_; rintro e wa ⟨rfl, hx⟩; have H2 := kp (H.out.ext hx); have HXC := kp hx; clear H hx; have H := H2; clear H2)
    have hc := run_load_cell H.out 2 rfl _ _ (HU.out v)
    go_wp2_with (first | ((with_reducible show wpList _ _ _ (Oper.mk _ (Op.load 29 _) _ _ _ _ :: _) _ _); (first | (refine L_sub H rfl 29 _ rfl 0 rfl (k * 36 + 17) rfl (cellsC s.last s.wins) (HCL.out) Try.underlying29 rfl (HZC.out) ?_) | (refine L_sub H rfl 29 _ rfl 1 rfl (k * 36 + 17) rfl (cellsC s.last s.wins) (HCL.out) Try.underlying29 rfl (HZC.out) ?_) | (refine L_sub H rfl 29 _ rfl 2 rfl (k * 36 + 17) rfl (cellsC s.last s.wins) (HCL.out) Try.underlying29 rfl (HZC.out) ?_) | (refine L_sub H rfl 29 _ rfl 3 rfl (k * 36 + 17) rfl (cellsC s.last s.wins) (HCL.out) Try.underlying29 rfl (HZC.out) ?_) | (refine L_sub H rfl 29 _ rfl 4 rfl (k * 36 + 17) rfl (cellsC s.last s.wins) (HCL.out) Try.underlying29 rfl (HZC.out) ?_) | (refine L_sub H rfl 29 _ rfl 5 rfl (k * 36 + 17) rfl (cellsC s.last s.wins) (HCL.out) Try.underlying29 rfl (HZC.out) ?_)); simp only [Act.put, List.setIfInBounds_toArray, List.set_cons_zero, List.set_cons_succ]))
    clear hc
    refine (HAC.out _).mono ?_
    rintro e wa ⟨rfl, hx⟩
    have H2 := kp (H.out.ext hx); have HXC := kp hx; clear H hx; have H := H2; clear H2
    go_wp2_with (first | ((with_reducible show wpList _ _ _ (Oper.mk (some 10) (Op.alloc 29) _ _ _ _ :: _) _ _); (with_reducible refine L_alloc H rfl 29 rfl (cellsC 0 zeroWs) (fun _ _ => by kernel_rfl) ?_); clear H; intro g10 w10 HGg10 HEg10 H; simp only [Act.put, List.setIfInBounds_toArray, List.set_cons_zero, List.set_cons_succ]) | ((with_reducible show wpList _ _ _ (Oper.mk none (Op.store 29 _ _) _ _ _ _ :: _) _ _); (first | (refine L_store H rfl rfl 29 _ _ rfl 0 rfl rfl (cellsC (s.last + 1) s.wins) rfl (HZM.out) (HLM.out) (HOC.out _ _) ?_; clear H; intro wk HWwk H; simp only [List.set_cons_zero] at H) | (refine L_store H rfl rfl 29 _ _ rfl 1 rfl rfl (cellsC (s.last + 1) s.wins) rfl (HZM.out) (HLM.out) (HOC.out _ _) ?_; clear H; intro wk HWwk H; simp only [List.set_cons_succ, List.set_cons_zero] at H) | (refine L_store H rfl rfl 29 _ _ rfl 2 rfl rfl (cellsC (s.last + 1) s.wins) rfl (HZM.out) (HLM.out) (HOC.out _ _) ?_; clear H; intro wk HWwk H; simp only [List.set_cons_succ, List.set_cons_zero] at H) | (refine L_store H rfl rfl 29 _ _ rfl 3 rfl rfl (cellsC (s.last + 1) s.wins) rfl (HZM.out) (HLM.out) (HOC.out _ _) ?_; clear H; intro wk HWwk H; simp only [List.set_cons_succ, List.set_cons_zero] at H) | (refine L_store H rfl rfl 29 _ _ rfl 4 rfl rfl (cellsC (s.last + 1) s.wins) rfl (HZM.out) (HLM.out) (HOC.out _ _) ?_; clear H; intro wk HWwk H; simp only [List.set_cons_succ, List.set_cons_zero] at H) | (refine L_store H rfl rfl 29 _ _ rfl 5 rfl rfl (cellsC (s.last + 1) s.wins) rfl (HZM.out) (HLM.out) (HOC.out _ _) ?_; clear H; intro wk HWwk H; simp only [List.set_cons_succ, List.set_cons_zero] at H))) | ((with_reducible show wpList _ _ _ (Oper.mk _ (Op.load 51 _) _ _ _ _ :: _) _ _); (first | (refine L_load H rfl 51 _ rfl 0 rfl rfl Try.underlying51 rfl (HZ.out _) ?_) | (refine L_load H rfl 51 _ rfl 1 rfl rfl Try.underlying51 rfl (HZ.out _) ?_) | (refine L_load H rfl 51 _ rfl 2 rfl rfl Try.underlying51 rfl (HZ.out _) ?_) | (refine L_load H rfl 51 _ rfl 3 rfl rfl Try.underlying51 rfl (HZ.out _) ?_) | (refine L_load H rfl 51 _ rfl 4 rfl rfl Try.underlying51 rfl (HZ.out _) ?_) | (refine L_load H rfl 51 _ rfl 5 rfl rfl Try.underlying51 rfl (HZ.out _) ?_)); simp only [Act.put, List.setIfInBounds_toArray, List.set_cons_zero, List.set_cons_succ]))
    refine (HT.out _ H.out.1).mono ?_
    rintro e wt ⟨u, rfl, ho, hx⟩
    have HOW := kp ho
    have HU1 := kp (slot_oneP (PastV.of_owns HS.out.sly.1 ho))
    have HLT6 := kp (H.out.lt 1 rfl)
    have HLT4 := kp (H.out.lt 2 rfl)
    have HB0 := kp H.out.1.size
    clear ho
    have H2 := kp (H.out.ext hx); have HXC := kp hx; clear H hx; have H := H2; clear H2
    go_wp2_with (first | ((with_reducible show wpList _ _ _ (Oper.mk (some 12) (Op.alloc 51) _ _ _ _ :: _) _ _); (with_reducible refine L_alloc H rfl 51 rfl (zeroR) (fun _ _ => by kernel_rfl) ?_); clear H; intro g12 w12 HGg12 HEg12 H; simp only [Act.put, List.setIfInBounds_toArray, List.set_cons_zero, List.set_cons_succ]) | ((with_reducible show wpList _ _ _ (Oper.mk none (Op.store 51 _ _) _ _ _ _ :: _) _ _); (first | (refine L_store H rfl rfl 51 _ _ rfl 0 rfl rfl (cellsR l u) rfl (HZ.out _) (HLN.out _) (HO.out _ HU1.out) ?_; clear H; intro wu HWwu H; simp only [List.set_cons_zero] at H) | (refine L_store H rfl rfl 51 _ _ rfl 1 rfl rfl (cellsR l u) rfl (HZ.out _) (HLN.out _) (HO.out _ HU1.out) ?_; clear H; intro wu HWwu H; simp only [List.set_cons_succ, List.set_cons_zero] at H) | (refine L_store H rfl rfl 51 _ _ rfl 2 rfl rfl (cellsR l u) rfl (HZ.out _) (HLN.out _) (HO.out _ HU1.out) ?_; clear H; intro wu HWwu H; simp only [List.set_cons_succ, List.set_cons_zero] at H) | (refine L_store H rfl rfl 51 _ _ rfl 3 rfl rfl (cellsR l u) rfl (HZ.out _) (HLN.out _) (HO.out _ HU1.out) ?_; clear H; intro wu HWwu H; simp only [List.set_cons_succ, List.set_cons_zero] at H) | (refine L_store H rfl rfl 51 _ _ rfl 4 rfl rfl (cellsR l u) rfl (HZ.out _) (HLN.out _) (HO.out _ HU1.out) ?_; clear H; intro wu HWwu H; simp only [List.set_cons_succ, List.set_cons_zero] at H) | (refine L_store H rfl rfl 51 _ _ rfl 5 rfl rfl (cellsR l u) rfl (HZ.out _) (HLN.out _) (HO.out _ HU1.out) ?_; clear H; intro wu HWwu H; simp only [List.set_cons_succ, List.set_cons_zero] at H))) | ((with_reducible show wpList _ _ _ (Oper.mk _ (Op.load 29 _) _ _ _ _ :: _) _ _); (first | (refine L_load H rfl 29 _ rfl 0 rfl rfl Try.underlying29 rfl (HZM.out) ?_) | (refine L_load H rfl 29 _ rfl 1 rfl rfl Try.underlying29 rfl (HZM.out) ?_) | (refine L_load H rfl 29 _ rfl 2 rfl rfl Try.underlying29 rfl (HZM.out) ?_) | (refine L_load H rfl 29 _ rfl 3 rfl rfl Try.underlying29 rfl (HZM.out) ?_) | (refine L_load H rfl 29 _ rfl 4 rfl rfl Try.underlying29 rfl (HZM.out) ?_) | (refine L_load H rfl 29 _ rfl 5 rfl rfl Try.underlying29 rfl (HZM.out) ?_)); simp only [Act.put, List.setIfInBounds_toArray, List.set_cons_zero, List.set_cons_succ]) | ((with_reducible show wpList _ _ _ (Oper.mk none (Op.store 29 _ _) _ _ _ _ :: _) _ _); (first | (refine L_seg H rfl rfl 29 _ _ rfl 0 rfl (k * 36 + 17) rfl (cellsC (s.last + 1) s.wins) rfl (HZM.out) (HFT.out _) (HOC.out _ _) (cellsR (l.set k (setCtr s (s.last + 1) s.wins)) u) (HSG.out _) ?_; clear H; intro ws HWws H; simp only [List.set_cons_zero] at H) | (refine L_seg H rfl rfl 29 _ _ rfl 1 rfl (k * 36 + 17) rfl (cellsC (s.last + 1) s.wins) rfl (HZM.out) (HFT.out _) (HOC.out _ _) (cellsR (l.set k (setCtr s (s.last + 1) s.wins)) u) (HSG.out _) ?_; clear H; intro ws HWws H; simp only [List.set_cons_succ, List.set_cons_zero] at H) | (refine L_seg H rfl rfl 29 _ _ rfl 2 rfl (k * 36 + 17) rfl (cellsC (s.last + 1) s.wins) rfl (HZM.out) (HFT.out _) (HOC.out _ _) (cellsR (l.set k (setCtr s (s.last + 1) s.wins)) u) (HSG.out _) ?_; clear H; intro ws HWws H; simp only [List.set_cons_succ, List.set_cons_zero] at H) | (refine L_seg H rfl rfl 29 _ _ rfl 3 rfl (k * 36 + 17) rfl (cellsC (s.last + 1) s.wins) rfl (HZM.out) (HFT.out _) (HOC.out _ _) (cellsR (l.set k (setCtr s (s.last + 1) s.wins)) u) (HSG.out _) ?_; clear H; intro ws HWws H; simp only [List.set_cons_succ, List.set_cons_zero] at H) | (refine L_seg H rfl rfl 29 _ _ rfl 4 rfl (k * 36 + 17) rfl (cellsC (s.last + 1) s.wins) rfl (HZM.out) (HFT.out _) (HOC.out _ _) (cellsR (l.set k (setCtr s (s.last + 1) s.wins)) u) (HSG.out _) ?_; clear H; intro ws HWws H; simp only [List.set_cons_succ, List.set_cons_zero] at H) | (refine L_seg H rfl rfl 29 _ _ rfl 5 rfl (k * 36 + 17) rfl (cellsC (s.last + 1) s.wins) rfl (HZM.out) (HFT.out _) (HOC.out _ _) (cellsR (l.set k (setCtr s (s.last + 1) s.wins)) u) (HSG.out _) ?_; clear H; intro ws HWws H; simp only [List.set_cons_succ, List.set_cons_zero] at H))))
    have HP1 := kp ((PastV.of_owns HS.out.sly.1 HOW.out).chg (((Chg.of_ext HEg12.out).wrote HWwu.out (Nat.le_of_eq HGg12.out.symm)).wrote HWws.out (Nat.le_of_eq HGg12.out.symm)))
    refine region_free H (tabS [(53, fun zv _ => zv = .int .i64 k), (54, fun zv _ => zv = .pointer (some ⟨g12, 0, none⟩)), (55, fun zv _ => zv = .pointer (some ⟨g12, k * 36, none⟩)), (56, fun zv _ => zv = .pointer (some ⟨g12, k * 36 + 1, none⟩)), (57, fun zv _ => zv = .agg (s.key.map V8).toArray), (58, fun zv _ => zv = .int .i64 (s.last + 1)), (59, fun zv _ => zv = .agg (cellsR (l.set k (setCtr s (s.last + 1) s.wins)) u).toArray), (5, fun zv _ => zv = .int .i64 (s.last + 1))]) [⟨7, 3, g4, 45, zeroK.map V8, s.key.map V8⟩] (tabS_out _ _ (by simp only [List.forall_mem_cons]; exact ⟨mono_eqO _ _, mono_eqO _ _, mono_eqO _ _, mono_eqO _ _, mono_eqO _ _, mono_eqO _ _, mono_eqO _ _, mono_eqO _ _, by simp⟩)) 9 (by kernel_rfl) (by kernel_rfl) (by kernel_rfl) (by kernel_rfl) [7] [3] rfl rfl (by decide) (by decide) (by decide) ⟨rfl, trivial⟩ ?_
    simp only [List.take_succ_cons, List.take_zero]
    refine ⟨fun wv53 hov53 hSv53 => ?_, fun v53 => ?_⟩
    · clear hSv53
      clear hov53
      go_wp2_with fail
      exact ⟨rfl, _, rfl, fun d hd => by cases hd; exact rfl, Ext.refl _⟩
    simp only [Act.put, List.setIfInBounds_toArray, List.set_cons_zero, List.set_cons_succ]
    refine ⟨fun wv54 hov54 hSv54 => ?_, fun v54 => ?_⟩
    · clear hSv54
      clear hov54
      go_wp2_with fail
      exact ⟨rfl, _, rfl, fun d hd => by cases hd; exact rfl, Ext.refl _⟩
    simp only [Act.put, List.setIfInBounds_toArray, List.set_cons_zero, List.set_cons_succ]
    refine ⟨fun wv55 hov55 hSv55 => ?_, fun v55 => ?_⟩
    · obtain rfl : v53 = .int .i64 k := hSv55 53 (by decide) (by decide)
      obtain rfl : v54 = .pointer (some ⟨g12, 0, none⟩) := hSv55 54 (by decide) (by decide)
      clear hSv55
      clear hov55
      go_wp2_with fail
      exact ⟨rfl, _, rfl, fun d hd => by cases hd; exact rfl, Ext.refl _⟩
    simp only [Act.put, List.setIfInBounds_toArray, List.set_cons_zero, List.set_cons_succ]
    refine ⟨fun wv56 hov56 hSv56 => ?_, fun v56 => ?_⟩
    · obtain rfl : v55 = .pointer (some ⟨g12, k * 36, none⟩) := hSv56 55 (by decide) (by decide)
      clear hSv56
      clear hov56
      go_wp2_with fail
      exact ⟨rfl, _, rfl, fun d hd => by cases hd; exact rfl, Ext.refl _⟩
    simp only [Act.put, List.setIfInBounds_toArray, List.set_cons_zero, List.set_cons_succ]
    refine ⟨fun wv57 hov57 hSv57 => ?_, fun v57 => ?_⟩
    · obtain rfl : v56 = .pointer (some ⟨g12, k * 36 + 1, none⟩) := hSv57 56 (by decide) (by decide)
      clear hSv57
      have H := kp (H.out.keep [0, 1, 2, 4] (St := [⟨7, 3, g4, 45, zeroK.map V8, s.key.map V8⟩]) ⟨rfl, trivial⟩ hov57 (by decide) (by kernel_rfl))
      have HOX := kp hov57
      clear hov57
      go_wp2_with ((with_reducible show wpList _ _ _ (Oper.mk _ (Op.load 45 _) _ _ _ _ :: _) _ _); (first | (refine L_sub H rfl 45 _ rfl 0 rfl (k * 36 + 1) rfl (s.key.map V8) (HKS.out _) Try.underlying45 rfl (HKZ.out) ?_) | (refine L_sub H rfl 45 _ rfl 1 rfl (k * 36 + 1) rfl (s.key.map V8) (HKS.out _) Try.underlying45 rfl (HKZ.out) ?_) | (refine L_sub H rfl 45 _ rfl 2 rfl (k * 36 + 1) rfl (s.key.map V8) (HKS.out _) Try.underlying45 rfl (HKZ.out) ?_) | (refine L_sub H rfl 45 _ rfl 3 rfl (k * 36 + 1) rfl (s.key.map V8) (HKS.out _) Try.underlying45 rfl (HKZ.out) ?_) | (refine L_sub H rfl 45 _ rfl 4 rfl (k * 36 + 1) rfl (s.key.map V8) (HKS.out _) Try.underlying45 rfl (HKZ.out) ?_) | (refine L_sub H rfl 45 _ rfl 5 rfl (k * 36 + 1) rfl (s.key.map V8) (HKS.out _) Try.underlying45 rfl (HKZ.out) ?_)); simp only [Act.put, List.setIfInBounds_toArray, List.set_cons_zero, List.set_cons_succ])
      exact ⟨rfl, _, rfl, fun d hd => by cases hd; exact rfl, Ext.refl _⟩
    simp only [Act.put, List.setIfInBounds_toArray, List.set_cons_zero, List.set_cons_succ]
    refine ⟨fun wv58 hov58 hSv58 => ?_, fun v58 => ?_⟩
    · clear hSv58
      clear hov58
      go_wp2_with fail
      exact ⟨rfl, _, rfl, fun d hd => by cases hd; exact rfl, Ext.refl _⟩
    simp only [Act.put, List.setIfInBounds_toArray, List.set_cons_zero, List.set_cons_succ]
    refine ⟨fun wv59 hov59 hSv59 => ?_, fun v59 => ?_⟩
    · clear hSv59
      have H := kp (H.out.keep [0, 1, 2, 4] (St := [⟨7, 3, g4, 45, zeroK.map V8, s.key.map V8⟩]) ⟨rfl, trivial⟩ hov59 (by decide) (by kernel_rfl))
      have HOX := kp hov59
      clear hov59
      go_wp2_with ((with_reducible show wpList _ _ _ (Oper.mk _ (Op.load 51 _) _ _ _ _ :: _) _ _); (first | (refine L_load H rfl 51 _ rfl 0 rfl rfl Try.underlying51 rfl (HZ2.out _) ?_) | (refine L_load H rfl 51 _ rfl 1 rfl rfl Try.underlying51 rfl (HZ2.out _) ?_) | (refine L_load H rfl 51 _ rfl 2 rfl rfl Try.underlying51 rfl (HZ2.out _) ?_) | (refine L_load H rfl 51 _ rfl 3 rfl rfl Try.underlying51 rfl (HZ2.out _) ?_) | (refine L_load H rfl 51 _ rfl 4 rfl rfl Try.underlying51 rfl (HZ2.out _) ?_) | (refine L_load H rfl 51 _ rfl 5 rfl rfl Try.underlying51 rfl (HZ2.out _) ?_)); simp only [Act.put, List.setIfInBounds_toArray, List.set_cons_zero, List.set_cons_succ])
      exact ⟨rfl, _, rfl, fun d hd => by cases hd; exact rfl, Ext.refl _⟩
    simp only [Act.put, List.setIfInBounds_toArray, List.set_cons_zero, List.set_cons_succ]
    refine ⟨⟨rfl, rfl, fun ws7 hos7 hSs7 hLs7 => ?_⟩, ?_⟩
    · obtain rfl : v57 = .agg (s.key.map V8).toArray := hSs7 57 (by decide) (by decide)
      exact run_sto 45 _ _ rfl rfl rfl hLs7 (HKZ2.out) (HKL.out) (HKO.out)
    refine ⟨fun wv5 hov5 hSv5 => ?_, fun v5 => ?_⟩
    · obtain rfl : v58 = .int .i64 (s.last + 1) := hSv5 58 (by decide) (by decide)
      clear hSv5
      clear hov5
      go_wp2_with fail
      exact ⟨rfl, _, rfl, fun d hd => by cases hd; exact rfl, Ext.refl _⟩
    simp only [Act.put, List.setIfInBounds_toArray, List.set_cons_zero, List.set_cons_succ]
    clear H
    intro wf HOX H hfin
    obtain rfl : v53 = .int .i64 k := hfin 53 (by decide)
    obtain rfl : v54 = .pointer (some ⟨g12, 0, none⟩) := hfin 54 (by decide)
    obtain rfl : v55 = .pointer (some ⟨g12, k * 36, none⟩) := hfin 55 (by decide)
    obtain rfl : v56 = .pointer (some ⟨g12, k * 36 + 1, none⟩) := hfin 56 (by decide)
    obtain rfl : v57 = .agg (s.key.map V8).toArray := hfin 57 (by decide)
    obtain rfl : v58 = .int .i64 (s.last + 1) := hfin 58 (by decide)
    obtain rfl : v59 = .agg (cellsR (l.set k (setCtr s (s.last + 1) s.wins)) u).toArray := hfin 59 (by decide)
    obtain rfl : v5 = .int .i64 (s.last + 1) := hfin 5 (by decide)
    clear hfin
    simp only [List.drop_succ_cons, List.drop_zero]
    simp only [applyS] at H
    have HP2 := kp (HP1.out.out HOX.out (fun g hg => by simp only [List.map_cons, List.map_nil, List.mem_singleton] at hg; subst hg; exact HLT4.out))
    go_wp2_with (first | ((with_reducible show wpList _ _ _ (Oper.mk none (Op.store 51 _ _) _ _ _ _ :: _) _ _); (first | (refine L_store H rfl rfl 51 _ _ rfl 0 rfl rfl (cellsR (l.set k (setCtr s (s.last + 1) s.wins)) u) rfl (HZ2.out _) (HLN2.out _) (HO2.out _ HU1.out) ?_; clear H; intro wr HWwr H; simp only [List.set_cons_zero] at H) | (refine L_store H rfl rfl 51 _ _ rfl 1 rfl rfl (cellsR (l.set k (setCtr s (s.last + 1) s.wins)) u) rfl (HZ2.out _) (HLN2.out _) (HO2.out _ HU1.out) ?_; clear H; intro wr HWwr H; simp only [List.set_cons_succ, List.set_cons_zero] at H) | (refine L_store H rfl rfl 51 _ _ rfl 2 rfl rfl (cellsR (l.set k (setCtr s (s.last + 1) s.wins)) u) rfl (HZ2.out _) (HLN2.out _) (HO2.out _ HU1.out) ?_; clear H; intro wr HWwr H; simp only [List.set_cons_succ, List.set_cons_zero] at H) | (refine L_store H rfl rfl 51 _ _ rfl 3 rfl rfl (cellsR (l.set k (setCtr s (s.last + 1) s.wins)) u) rfl (HZ2.out _) (HLN2.out _) (HO2.out _ HU1.out) ?_; clear H; intro wr HWwr H; simp only [List.set_cons_succ, List.set_cons_zero] at H) | (refine L_store H rfl rfl 51 _ _ rfl 4 rfl rfl (cellsR (l.set k (setCtr s (s.last + 1) s.wins)) u) rfl (HZ2.out _) (HLN2.out _) (HO2.out _ HU1.out) ?_; clear H; intro wr HWwr H; simp only [List.set_cons_succ, List.set_cons_zero] at H) | (refine L_store H rfl rfl 51 _ _ rfl 5 rfl rfl (cellsR (l.set k (setCtr s (s.last + 1) s.wins)) u) rfl (HZ2.out _) (HLN2.out _) (HO2.out _ HU1.out) ?_; clear H; intro wr HWwr H; simp only [List.set_cons_succ, List.set_cons_zero] at H))))
    exact ret_row4 Try.results32 _ _ _ _ _ _ (0, 0) (0, 0) _ _ rfl _ rfl rfl _ rfl (H.out.at (3) rfl) (H.out.at (2) rfl) Try.underlying45 rfl (HKZ2.out) Try.underlying51 rfl (HZ2.out _) rfl (by rw [HF.out]; exact ⟨u, rfl, (HP2.out.wrote HWwr.out HLT6.out).base HB0.out, H.out.1⟩)
end Go.Proofs.Ytjnaegpjhbobaaa
