/- counter.Drop, counter.Install, counter.Receive, counter.Send. -/
import Derived.Test.YtjnaegpjhbobaaaRingC
import Derived.Test.YtjnaegpjhbobaaaLoc
namespace Go.Proofs.Ytjnaegpjhbobaaa
open Go.RowKit
theorem atF_cases (l : List Slot) (ks : Keys16) (slot : Int) : atF l ks slot = 8 ∨ atF l ks slot = 2 ∨ (atF l ks slot = 0 ∧ 0 ≤ slot ∧ slot < 4) := by
  unfold atF
  split
  · exact .inl rfl
  · split
    · exact .inr (.inl rfl)
    · exact .inr (.inr ⟨rfl, by omega, by omega⟩)
/-- A ring and an error. -/
def RetR (r : (List Slot × Keys16) × Int) (w : World) (e : Ending) (w' : World) : Prop := ∃ u, e = .returned (.tuple #[.agg (cellsR r.1.1 u).toArray, .int .i64 r.2]) ∧ PastV w.heap.size w' u r.1.2 ∧ Ext w w'
def badR (n : Int) : (List Slot × Keys16) × Int := ((zeroSs, []), n)
theorem retR_bad {w w' : World} {n : Int} (hx : Ext w w') {e : Ending} (he : e = .returned (.tuple #[.agg zeroR.toArray, .int .i64 n])) : RetR (badR n) w e w' := ⟨nilV, he, PastV.nil _ _, hx⟩
def dropF (l : List Slot) (ks : Keys16) (slot : Int) : (List Slot × Keys16) × Int :=
  if atF l ks slot = 0 then
    match l[slot.toNat]? with
    | some s => if s.used then ((l.set slot.toNat s0, ks), 0) else badR 6
    | none => badR 2
  else badR (atF l ks slot)
theorem cellsR_len2 (l m : List Slot) (u v : Value) (hl : Ring4 l) (hm : Ring4 m) : (cellsR l u).length = (cellsR m v).length := by rw [cellsR_len l u hl, cellsR_len m v hm]
theorem cellsR_used (l : List Slot) (u : Value) (hl : Ring4 l) (k : Nat) (s : Slot) (h : l[k]? = some s) : (cellsR l u)[k * 36]? = some (.bool s.used) := by
  have h1 := cellsR_slots l u k s hl h
  have h2 : ((cellsR l u).drop (k * 36))[0]? = (cellsS s)[0]? := by
    rw [← h1, List.getElem?_take, if_pos (by decide)]
  rw [List.getElem?_drop, Nat.add_zero] at h2
  rw [h2]; rfl
set_option maxHeartbeats 1600000 in
theorem drop_any (l : List Slot) (hl : Ring4 l) (v : Value) (ks : Keys16) (b : Nat) (hn2 : ks.length ≤ 1000) (slot : Int) (w : World) (hs : PastV b w v ks) :
    Calls Try.prog 22 #[.agg (cellsR l v).toArray, .int .i64 slot] w (RetR (dropF l ks slot) w) := by
  have HA := kp (fun w' (h : Ext w w') => at_any l hl v ks b hn2 slot w' (hs.ext h))
  have HT := kp (fun w' (h : Ext w w') => twin_any l hl v ks hn2 w' (hs.sly.ext h))
  have HZ := kp (fun u => sizeR l u hl)
  have HZZ := kp (sizeR zeroSs nilV ring_zero)
  have HZO := kp (one_cellsR zeroSs nilV rfl)
  have HS := kp hs
  have HL := kp hl
  clear hs hl
  have H := kp (Loc.start w)
  rcases atF_cases l ks slot with h | h | ⟨h, h0, h4⟩
  iterate 2
    have HF := kp (show dropF l ks slot = badR (atF l ks slot) by simp [dropF, h])
    rw [h] at HA HF
    clear h
    go_enter Try.func22, Try.ntmps22
    go_wp2_with (first | ((with_reducible show wpList _ _ _ (Oper.mk (some 2) (Op.box 51 _) _ _ _ _ :: _) _ _); (with_reducible refine L_box H rfl 51 _ rfl (cellsR l v) rfl ?_); clear H; intro g2 w2 HGg2 HEg2 H; simp only [Act.put, List.setIfInBounds_toArray, List.set_cons_zero, List.set_cons_succ]) | ((with_reducible show wpList _ _ _ (Oper.mk (some 4) (Op.alloc 51) _ _ _ _ :: _) _ _); (with_reducible refine L_alloc H rfl 51 rfl (zeroR) (fun _ _ => by kernel_rfl) ?_); clear H; intro g4 w4 HGg4 HEg4 H; simp only [Act.put, List.setIfInBounds_toArray, List.set_cons_zero, List.set_cons_succ]) | ((with_reducible show wpList _ _ _ (Oper.mk _ (Op.load 51 _) _ _ _ _ :: _) _ _); (first | (refine L_load H rfl 51 _ rfl 0 rfl rfl Try.underlying51 rfl (HZ.out _) ?_) | (refine L_load H rfl 51 _ rfl 1 rfl rfl Try.underlying51 rfl (HZ.out _) ?_) | (refine L_load H rfl 51 _ rfl 2 rfl rfl Try.underlying51 rfl (HZ.out _) ?_) | (refine L_load H rfl 51 _ rfl 3 rfl rfl Try.underlying51 rfl (HZ.out _) ?_) | (refine L_load H rfl 51 _ rfl 4 rfl rfl Try.underlying51 rfl (HZ.out _) ?_) | (refine L_load H rfl 51 _ rfl 5 rfl rfl Try.underlying51 rfl (HZ.out _) ?_)); simp only [Act.put, List.setIfInBounds_toArray, List.set_cons_zero, List.set_cons_succ]) | ((with_reducible show wpList _ _ _ (Oper.mk _ (Op.build 51 _) _ _ _ _ :: _) _ _); (with_reducible refine wpList_bd0 rfl 51 rfl (zeroR) (fun _ _ => by kernel_rfl) ?_); simp only [Act.put, List.setIfInBounds_toArray, List.set_cons_zero, List.set_cons_succ]) | ((with_reducible show wpList _ _ _ (Oper.mk none (Op.store 51 _ _) _ _ _ _ :: _) _ _); (first | (refine L_store H rfl rfl 51 _ _ rfl 0 rfl rfl (zeroR) rfl (HZZ.out) (rfl) (HZO.out) ?_; clear H; intro wz HWwz H; simp only [List.set_cons_zero] at H) | (refine L_store H rfl rfl 51 _ _ rfl 1 rfl rfl (zeroR) rfl (HZZ.out) (rfl) (HZO.out) ?_; clear H; intro wz HWwz H; simp only [List.set_cons_succ, List.set_cons_zero] at H) | (refine L_store H rfl rfl 51 _ _ rfl 2 rfl rfl (zeroR) rfl (HZZ.out) (rfl) (HZO.out) ?_; clear H; intro wz HWwz H; simp only [List.set_cons_succ, List.set_cons_zero] at H) | (refine L_store H rfl rfl 51 _ _ rfl 3 rfl rfl (zeroR) rfl (HZZ.out) (rfl) (HZO.out) ?_; clear H; intro wz HWwz H; simp only [List.set_cons_succ, List.set_cons_zero] at H) | (refine L_store H rfl rfl 51 _ _ rfl 4 rfl rfl (zeroR) rfl (HZZ.out) (rfl) (HZO.out) ?_; clear H; intro wz HWwz H; simp only [List.set_cons_succ, List.set_cons_zero] at H) | (refine L_store H rfl rfl 51 _ _ rfl 5 rfl rfl (zeroR) rfl (HZZ.out) (rfl) (HZO.out) ?_; clear H; intro wz HWwz H; simp only [List.set_cons_succ, List.set_cons_zero] at H))) | (go_at_call 42; refine (HA.out _ H.out.1).mono ?_; rintro e wa ⟨rfl, hx⟩; have H2 := kp (H.out.ext hx); have HXC := kp hx; clear H hx; have H := H2; clear H2))
    exact ret_row2 Try.results22 _ _ _ (0, 0) _ rfl _ rfl (H.out.at 0 rfl) Try.underlying51 rfl (HZZ.out) rfl (by rw [HF.out]; exact retR_bad H.out.1 rfl)
  obtain ⟨k, rfl⟩ := Int.eq_ofNat_of_zero_le h0
  obtain ⟨s, hk⟩ : ∃ s, l[k]? = some s := ⟨l[k]'(by rw [HL.out.1]; omega), by simp⟩
  have HF := kp (show dropF l ks k = if s.used then ((l.set k s0, ks), 0) else badR 6 by simp [dropF, h, hk])
  have HK := kp hk
  have HU := kp (fun u => cellsR_used l u HL.out k s hk)
  rw [h] at HA
  clear h hk h0
  cases hus : s.used with
  | false =>
    rw [hus] at HF HU
    clear hus
    go_enter Try.func22, Try.ntmps22
    go_wp2_with (first | ((with_reducible show wpList _ _ _ (Oper.mk (some 2) (Op.box 51 _) _ _ _ _ :: _) _ _); (with_reducible refine L_box H rfl 51 _ rfl (cellsR l v) rfl ?_); clear H; intro g2 w2 HGg2 HEg2 H; simp only [Act.put, List.setIfInBounds_toArray, List.set_cons_zero, List.set_cons_succ]) | ((with_reducible show wpList _ _ _ (Oper.mk (some 4) (Op.alloc 51) _ _ _ _ :: _) _ _); (with_reducible refine L_alloc H rfl 51 rfl (zeroR) (fun _ _ => by kernel_rfl) ?_); clear H; intro g4 w4 HGg4 HEg4 H; simp only [Act.put, List.setIfInBounds_toArray, List.set_cons_zero, List.set_cons_succ]) | ((with_reducible show wpList _ _ _ (Oper.mk _ (Op.load 51 _) _ _ _ _ :: _) _ _); (first | (refine L_load H rfl 51 _ rfl 0 rfl rfl Try.underlying51 rfl (HZ.out _) ?_) | (refine L_load H rfl 51 _ rfl 1 rfl rfl Try.underlying51 rfl (HZ.out _) ?_) | (refine L_load H rfl 51 _ rfl 2 rfl rfl Try.underlying51 rfl (HZ.out _) ?_) | (refine L_load H rfl 51 _ rfl 3 rfl rfl Try.underlying51 rfl (HZ.out _) ?_) | (refine L_load H rfl 51 _ rfl 4 rfl rfl Try.underlying51 rfl (HZ.out _) ?_) | (refine L_load H rfl 51 _ rfl 5 rfl rfl Try.underlying51 rfl (HZ.out _) ?_)); simp only [Act.put, List.setIfInBounds_toArray, List.set_cons_zero, List.set_cons_succ]))
    (go_at_call 42; refine (HA.out _ H.out.1).mono ?_; rintro e wa ⟨rfl, hx⟩; have H2 := kp (H.out.ext hx); have HXC := kp hx; clear H hx; have H := H2; clear H2)
    have hc := run_load_cell H.out 1 rfl _ _ (HU.out v)
    go_wp2_with (first | ((with_reducible show wpList _ _ _ (Oper.mk _ (Op.build 51 _) _ _ _ _ :: _) _ _); (with_reducible refine wpList_bd0 rfl 51 rfl (zeroR) (fun _ _ => by kernel_rfl) ?_); simp only [Act.put, List.setIfInBounds_toArray, List.set_cons_zero, List.set_cons_succ]) | ((with_reducible show wpList _ _ _ (Oper.mk none (Op.store 51 _ _) _ _ _ _ :: _) _ _); (first | (refine L_store H rfl rfl 51 _ _ rfl 0 rfl rfl (zeroR) rfl (HZZ.out) (rfl) (HZO.out) ?_; clear H; intro wz HWwz H; simp only [List.set_cons_zero] at H) | (refine L_store H rfl rfl 51 _ _ rfl 1 rfl rfl (zeroR) rfl (HZZ.out) (rfl) (HZO.out) ?_; clear H; intro wz HWwz H; simp only [List.set_cons_succ, List.set_cons_zero] at H) | (refine L_store H rfl rfl 51 _ _ rfl 2 rfl rfl (zeroR) rfl (HZZ.out) (rfl) (HZO.out) ?_; clear H; intro wz HWwz H; simp only [List.set_cons_succ, List.set_cons_zero] at H) | (refine L_store H rfl rfl 51 _ _ rfl 3 rfl rfl (zeroR) rfl (HZZ.out) (rfl) (HZO.out) ?_; clear H; intro wz HWwz H; simp only [List.set_cons_succ, List.set_cons_zero] at H) | (refine L_store H rfl rfl 51 _ _ rfl 4 rfl rfl (zeroR) rfl (HZZ.out) (rfl) (HZO.out) ?_; clear H; intro wz HWwz H; simp only [List.set_cons_succ, List.set_cons_zero] at H) | (refine L_store H rfl rfl 51 _ _ rfl 5 rfl rfl (zeroR) rfl (HZZ.out) (rfl) (HZO.out) ?_; clear H; intro wz HWwz H; simp only [List.set_cons_succ, List.set_cons_zero] at H))))
    exact ret_row2 Try.results22 _ _ _ (0, 0) _ rfl _ rfl (H.out.at 0 rfl) Try.underlying51 rfl (HZZ.out) rfl (by rw [HF.out]; exact retR_bad H.out.1 rfl)
  | true =>
    rw [hus] at HF HU
    clear hus
    have HRS := kp (ring_set l HL.out k s0 ⟨rfl, rfl⟩)
    have HZ2 := kp (fun u => sizeR (l.set k s0) u HRS.out)
    have HO := kp (fun u (h : u.oneCell' = true) => one_cellsR l u h)
    have HO2 := kp (fun u (h : u.oneCell' = true) => one_cellsR (l.set k s0) u h)
    have HSG := kp (fun u => congrArg List.toArray (cellsR_seg l u HL.out k s s0 HK.out))
    have HLN := kp (fun u u' => cellsR_len2 l l u u' HL.out HL.out)
    have HLN2 := kp (fun u u' => cellsR_len2 zeroSs (l.set k s0) u u' ring_zero HRS.out)
    have HZS := kp (show (Try.prog.info? 47).map (·.size) = some (cellsS s0).toArray.size from size47)
    have HOS := kp (all_oneCell_toArray (one_cellsS s0))
    have HFT := kp (fun u => show k * 36 + (cellsS s0).toArray.size ≤ (cellsR l u).toArray.size by rw [List.size_toArray, List.size_toArray, cellsR_len l u HL.out]; show k * 36 + 36 ≤ 145; omega)
    go_enter Try.func22, Try.ntmps22
    go_wp2_with (first | ((with_reducible show wpList _ _ _ (Oper.mk (some 2) (Op.box 51 _) _ _ _ _ :: _) _ _); (with_reducible refine L_box H rfl 51 _ rfl (cellsR l v) rfl ?_); clear H; intro g2 w2 HGg2 HEg2 H; simp only [Act.put, List.setIfInBounds_toArray, List.set_cons_zero, List.set_cons_succ]) | ((with_reducible show wpList _ _ _ (Oper.mk (some 4) (Op.alloc 51) _ _ _ _ :: _) _ _); (with_reducible refine L_alloc H rfl 51 rfl (zeroR) (fun _ _ => by kernel_rfl) ?_); clear H; intro g4 w4 HGg4 HEg4 H; simp only [Act.put, List.setIfInBounds_toArray, List.set_cons_zero, List.set_cons_succ]) | ((with_reducible show wpList _ _ _ (Oper.mk _ (Op.load 51 _) _ _ _ _ :: _) _ _); (first | (refine L_load H rfl 51 _ rfl 0 rfl rfl Try.underlying51 rfl (HZ.out _) ?_) | (refine L_load H rfl 51 _ rfl 1 rfl rfl Try.underlying51 rfl (HZ.out _) ?_) | (refine L_load H rfl 51 _ rfl 2 rfl rfl Try.underlying51 rfl (HZ.out _) ?_) | (refine L_load H rfl 51 _ rfl 3 rfl rfl Try.underlying51 rfl (HZ.out _) ?_) | (refine L_load H rfl 51 _ rfl 4 rfl rfl Try.underlying51 rfl (HZ.out _) ?_) | (refine L_load H rfl 51 _ rfl 5 rfl rfl Try.underlying51 rfl (HZ.out _) ?_)); simp only [Act.put, List.setIfInBounds_toArray, List.set_cons_zero, List.set_cons_succ]))
    (go_at_call 42; refine (HA.out _ H.out.1).mono ?_; rintro e wa ⟨rfl, hx⟩; have H2 := kp (H.out.ext hx); have HXC := kp hx; clear H hx; have H := H2; clear H2)
    have hc := run_load_cell H.out 1 rfl _ _ (HU.out v)
    go_wp2_with (first | ((with_reducible show wpList _ _ _ (Oper.mk _ (Op.load 51 _) _ _ _ _ :: _) _ _); (first | (refine L_load H rfl 51 _ rfl 0 rfl rfl Try.underlying51 rfl (HZ.out _) ?_) | (refine L_load H rfl 51 _ rfl 1 rfl rfl Try.underlying51 rfl (HZ.out _) ?_) | (refine L_load H rfl 51 _ rfl 2 rfl rfl Try.underlying51 rfl (HZ.out _) ?_) | (refine L_load H rfl 51 _ rfl 3 rfl rfl Try.underlying51 rfl (HZ.out _) ?_) | (refine L_load H rfl 51 _ rfl 4 rfl rfl Try.underlying51 rfl (HZ.out _) ?_) | (refine L_load H rfl 51 _ rfl 5 rfl rfl Try.underlying51 rfl (HZ.out _) ?_)); simp only [Act.put, List.setIfInBounds_toArray, List.set_cons_zero, List.set_cons_succ]))
    clear hc
    refine (HT.out _ H.out.1).mono ?_
    rintro e wt ⟨u, rfl, ho, hx⟩
    have HOW := kp ho
    have HU1 := kp (slot_oneP (PastV.of_owns HS.out.sly.1 ho))
    have HLT2 := kp (H.out.lt 0 rfl)
    have HLT4 := kp (H.out.lt 1 rfl)
    have HB0 := kp H.out.1.size
    clear ho
    have H2 := kp (H.out.ext hx); have HXC := kp hx; clear H hx; have H := H2; clear H2
    go_wp2_with (first | ((with_reducible show wpList _ _ _ (Oper.mk _ (Op.build 47 _) _ _ _ _ :: _) _ _); (with_reducible refine wpList_bd0 rfl 47 rfl (cellsS s0) (fun _ _ => by kernel_rfl) ?_); simp only [Act.put, List.setIfInBounds_toArray, List.set_cons_zero, List.set_cons_succ]) | ((with_reducible show wpList _ _ _ (Oper.mk _ (Op.load 51 _) _ _ _ _ :: _) _ _); (first | (refine L_load H rfl 51 _ rfl 0 rfl rfl Try.underlying51 rfl (HZ2.out _) ?_) | (refine L_load H rfl 51 _ rfl 1 rfl rfl Try.underlying51 rfl (HZ2.out _) ?_) | (refine L_load H rfl 51 _ rfl 2 rfl rfl Try.underlying51 rfl (HZ2.out _) ?_) | (refine L_load H rfl 51 _ rfl 3 rfl rfl Try.underlying51 rfl (HZ2.out _) ?_) | (refine L_load H rfl 51 _ rfl 4 rfl rfl Try.underlying51 rfl (HZ2.out _) ?_) | (refine L_load H rfl 51 _ rfl 5 rfl rfl Try.underlying51 rfl (HZ2.out _) ?_)); simp only [Act.put, List.setIfInBounds_toArray, List.set_cons_zero, List.set_cons_succ]) | ((with_reducible show wpList _ _ _ (Oper.mk none (Op.store 51 _ _) _ _ _ _ :: _) _ _); (first | (refine L_store H rfl rfl 51 _ _ rfl 0 rfl rfl (cellsR l u) rfl (HZ.out _) (HLN.out _ _) (HO.out _ HU1.out) ?_; clear H; intro wu HWwu H; simp only [List.set_cons_zero] at H) | (refine L_store H rfl rfl 51 _ _ rfl 1 rfl rfl (cellsR l u) rfl (HZ.out _) (HLN.out _ _) (HO.out _ HU1.out) ?_; clear H; intro wu HWwu H; simp only [List.set_cons_succ, List.set_cons_zero] at H) | (refine L_store H rfl rfl 51 _ _ rfl 2 rfl rfl (cellsR l u) rfl (HZ.out _) (HLN.out _ _) (HO.out _ HU1.out) ?_; clear H; intro wu HWwu H; simp only [List.set_cons_succ, List.set_cons_zero] at H) | (refine L_store H rfl rfl 51 _ _ rfl 3 rfl rfl (cellsR l u) rfl (HZ.out _) (HLN.out _ _) (HO.out _ HU1.out) ?_; clear H; intro wu HWwu H; simp only [List.set_cons_succ, List.set_cons_zero] at H) | (refine L_store H rfl rfl 51 _ _ rfl 4 rfl rfl (cellsR l u) rfl (HZ.out _) (HLN.out _ _) (HO.out _ HU1.out) ?_; clear H; intro wu HWwu H; simp only [List.set_cons_succ, List.set_cons_zero] at H) | (refine L_store H rfl rfl 51 _ _ rfl 5 rfl rfl (cellsR l u) rfl (HZ.out _) (HLN.out _ _) (HO.out _ HU1.out) ?_; clear H; intro wu HWwu H; simp only [List.set_cons_succ, List.set_cons_zero] at H))) | ((with_reducible show wpList _ _ _ (Oper.mk none (Op.store 47 _ _) _ _ _ _ :: _) _ _); (first | (refine L_seg H rfl rfl 47 _ _ rfl 0 rfl (k * 36) rfl (cellsS s0) rfl (HZS.out) (HFT.out _) (HOS.out) (cellsR (l.set k s0) u) (HSG.out _) ?_; clear H; intro ws HWws H; simp only [List.set_cons_zero] at H) | (refine L_seg H rfl rfl 47 _ _ rfl 1 rfl (k * 36) rfl (cellsS s0) rfl (HZS.out) (HFT.out _) (HOS.out) (cellsR (l.set k s0) u) (HSG.out _) ?_; clear H; intro ws HWws H; simp only [List.set_cons_succ, List.set_cons_zero] at H) | (refine L_seg H rfl rfl 47 _ _ rfl 2 rfl (k * 36) rfl (cellsS s0) rfl (HZS.out) (HFT.out _) (HOS.out) (cellsR (l.set k s0) u) (HSG.out _) ?_; clear H; intro ws HWws H; simp only [List.set_cons_succ, List.set_cons_zero] at H) | (refine L_seg H rfl rfl 47 _ _ rfl 3 rfl (k * 36) rfl (cellsS s0) rfl (HZS.out) (HFT.out _) (HOS.out) (cellsR (l.set k s0) u) (HSG.out _) ?_; clear H; intro ws HWws H; simp only [List.set_cons_succ, List.set_cons_zero] at H) | (refine L_seg H rfl rfl 47 _ _ rfl 4 rfl (k * 36) rfl (cellsS s0) rfl (HZS.out) (HFT.out _) (HOS.out) (cellsR (l.set k s0) u) (HSG.out _) ?_; clear H; intro ws HWws H; simp only [List.set_cons_succ, List.set_cons_zero] at H) | (refine L_seg H rfl rfl 47 _ _ rfl 5 rfl (k * 36) rfl (cellsS s0) rfl (HZS.out) (HFT.out _) (HOS.out) (cellsR (l.set k s0) u) (HSG.out _) ?_; clear H; intro ws HWws H; simp only [List.set_cons_succ, List.set_cons_zero] at H))) | ((with_reducible show wpList _ _ _ (Oper.mk none (Op.store 51 _ _) _ _ _ _ :: _) _ _); (first | (refine L_store H rfl rfl 51 _ _ rfl 0 rfl rfl (cellsR (l.set k s0) u) rfl (HZ2.out _) (HLN2.out _ _) (HO2.out _ HU1.out) ?_; clear H; intro wr HWwr H; simp only [List.set_cons_zero] at H) | (refine L_store H rfl rfl 51 _ _ rfl 1 rfl rfl (cellsR (l.set k s0) u) rfl (HZ2.out _) (HLN2.out _ _) (HO2.out _ HU1.out) ?_; clear H; intro wr HWwr H; simp only [List.set_cons_succ, List.set_cons_zero] at H) | (refine L_store H rfl rfl 51 _ _ rfl 2 rfl rfl (cellsR (l.set k s0) u) rfl (HZ2.out _) (HLN2.out _ _) (HO2.out _ HU1.out) ?_; clear H; intro wr HWwr H; simp only [List.set_cons_succ, List.set_cons_zero] at H) | (refine L_store H rfl rfl 51 _ _ rfl 3 rfl rfl (cellsR (l.set k s0) u) rfl (HZ2.out _) (HLN2.out _ _) (HO2.out _ HU1.out) ?_; clear H; intro wr HWwr H; simp only [List.set_cons_succ, List.set_cons_zero] at H) | (refine L_store H rfl rfl 51 _ _ rfl 4 rfl rfl (cellsR (l.set k s0) u) rfl (HZ2.out _) (HLN2.out _ _) (HO2.out _ HU1.out) ?_; clear H; intro wr HWwr H; simp only [List.set_cons_succ, List.set_cons_zero] at H) | (refine L_store H rfl rfl 51 _ _ rfl 5 rfl rfl (cellsR (l.set k s0) u) rfl (HZ2.out _) (HLN2.out _ _) (HO2.out _ HU1.out) ?_; clear H; intro wr HWwr H; simp only [List.set_cons_succ, List.set_cons_zero] at H))))
    exact ret_row2 Try.results22 _ _ _ (0, 0) _ rfl _ rfl (H.out.at 0 rfl) Try.underlying51 rfl (HZ2.out _) rfl (by rw [HF.out]; exact ⟨u, rfl, PastV.base (PastV.of_owns HS.out.sly.1 (owns_wrote (owns_wrote (owns_wrote HOW.out HWwu.out HLT4.out) HWws.out HLT4.out) HWwr.out HLT2.out)) HB0.out, H.out.1⟩)

/-- The slot of a new key. -/
def newSlot (k : List (BitVec 8)) : Slot := ⟨true, k, 0, zeroWs⟩
def lastF (ms : Keys16) : Keys16 := if 16 < ms.length then ms.drop 1 else ms
def installF (l : List Slot) (ks : Keys16) (slot : Int) (k : List (BitVec 8)) : (List Slot × Keys16) × Int :=
  if atF l ks slot = 0 then
    if ks.contains k || heldIn l k then badR 21 else ((l.set slot.toNat (newSlot k), lastF (ks ++ [k])), 0)
  else badR (atF l ks slot)
theorem run_buildSlot (w : World) (k : List (BitVec 8)) (h : k.length = 16) : (Instr.build 47 #[(0, .bool true), (1, .agg (k.map V8).toArray)]).run Try.prog w = .ok (.agg (cellsS (newSlot k)).toArray) w := by
  obtain ⟨a, b, c, d, e, f, g, i, j, l, m, n, o, p, q, r, rfl⟩ := key_form k h
  kernel_rfl
theorem wpList_buildSlot {ops : Array Oper} {rest : List Oper} {o : Oper} {a : Act} {w : World} {Q : Exit → Act → World → Prop} (hgd : o.guard = none) (x : Operand) (ho : o.op = .build 47 #[(0, .const (.bool true)), (1, x)])
    (k : List (BitVec 8)) (hk : k.length = 16) (hx : a.eval x = .agg (k.map V8).toArray)
    (h : wpList Try.prog ops Q rest (a.put o.dst (.agg (cellsS (newSlot k)).toArray)) w) : wpList Try.prog ops Q (o :: rest) a w := by
  refine wpList_plain hgd fun K hK => ?_
  have hc : a.eval (.const (.bool true)) = .bool true := rfl
  unfold Oper.wp execOp
  simp only [ho, hx, hc, Sem.run_bind, List.map_toArray, List.map_cons, List.map_nil, run_buildSlot w k hk, Result.andThen_ok, Sem.run_pure]
  exact hK _ _ h
theorem Loc.grown {w0 w w' : World} {bs : List Bk} {base E sz n : Nat} {v : Value} {xs : List Value} (h : Loc w0 w bs) (hb : w0.heap.size ≤ base) (hall : ∀ g ∈ bs.map (·.1), g < base) (ho : w.ownsRow base E sz v n xs) (hg : w.grownBy w' v.ownBlock) : Loc w0 w' bs := by
  refine ⟨h.1.grown hg (fun k hk => Nat.le_trans hb (owns_blockS ho k hk)), h.2.1, fun b hbm => ⟨(h.2.2 b hbm).1, ?_⟩⟩
  have h1 := (h.2.2 b hbm).2
  exact (hg.block b.1 h1.lt (fun e => by
    have h2 := owns_blockS ho b.1 e.symm
    have h3 := hall b.1 (List.mem_map.2 ⟨b, hbm, rfl⟩)
    omega)).trans h1
/-- append onto a slice of keys of the call's own; the known blocks stay. -/
theorem L_appendY {w0 w : World} {bs : List Bk} {ops : Array Oper} {rest : List Oper} {o : Oper} {a : Act} {Q : Exit → Act → World → Prop} (H : Kp (Loc w0 w bs)) (hgd : o.guard = none) (s x : Operand)
    (ho : o.op = .call { callee := .builtin .append, args := #[s, x], argTypes := #[49, 49] })
    (base : Nat) (hb0 : w0.heap.size ≤ base) (hall : ∀ g ∈ bs.map (·.1), g < base) (hbase : base ≤ w.heap.size) (v : Value) (ks : List (List (BitVec 8))) (hs : a.eval s = v) (hown : w.ownsRow base 45 16 v ks.length (flatK ks)) (y : Value) (ms : List (List (BitVec 8))) (hx : a.eval x = y) (hy : SlY w y ms)
    (hlen : ks.length + ms.length ≤ 10000)
    (h : ∀ v' w', Kp (w'.ownsRow base 45 16 v' (ks ++ ms).length (flatK (ks ++ ms))) → Kp (Loc w0 w' bs) → wpList Try.prog ops Q rest (a.put o.dst v') w') : wpList Try.prog ops Q (o :: rest) a w :=
  wpList_append_SlY hgd s x ho base v ks hs hown y ms hx hy hlen hbase fun v' w' h1 h2 => h v' w' (kp h1) (kp (H.out.grown hb0 hall hown h2))
theorem L_buildKey {w0 w : World} {bs : List Bk} {ops : Array Oper} {rest : List Oper} {o : Oper} {a : Act} {Q : Exit → Act → World → Prop} (H : Kp (Loc w0 w bs)) (hgd : o.guard = none) (x : Operand) (ho : o.op = .buildSlice 49 1 #[(0, x)])
    (k : List (BitVec 8)) (hk : k.length = 16) (hx : a.eval x = .agg (k.map V8).toArray)
    (h : ∀ g w', Kp (Ext w w') → Kp (Loc w0 w' bs) → Kp (SlY w' (.slice (some ⟨g, 0, none⟩) 1 1) [k]) → wpList Try.prog ops Q rest (a.put o.dst (.slice (some ⟨g, 0, none⟩) 1 1)) w') : wpList Try.prog ops Q (o :: rest) a w :=
  wpList_buildKey hgd x ho k hk hx (h _ _ (kp (Ext.alloc _ _)) (kp (H.out.ext (Ext.alloc _ _))) (kp ⟨fun q hq => by simp at hq; rw [hq]; exact hk, .inr ⟨_, 0, 1, rfl, by simp, fun j q hq => by
    match j with
    | 0 => simp at hq; subst hq; exact (Lc.new w 45 (k.map V8)).range (List.take_of_length_le (by simp))
    | j + 1 => simp at hq⟩⟩))
theorem owns_form {w : World} {base E sz n : Nat} {v : Value} {xs : List Value} (h : w.ownsRow base E sz v n xs) (hn : 0 < n) : ∃ g c, v = .slice (some ⟨g, 0, none⟩) n c ∧ n ≤ c := by
  obtain ⟨_, ⟨_, h2⟩ | ⟨g, cap, cur, h3, _, _, h4, _⟩⟩ := h
  · omega
  · exact ⟨g, cap, h3, h4⟩
theorem Wrote.size {w w' : World} {g : Nat} (h : Wrote w w' g) : w'.heap.size = w.heap.size := by obtain ⟨ds, rfl⟩ := h; exact setRow_size _ _ _
theorem PastV.wrote {base g : Nat} {w w' : World} {u : Value} {ks : Keys16} (h : PastV base w u ks) (hw : Wrote w w' g) (hb : g < base) : PastV base w' u ks := by
  obtain ⟨ds, rfl⟩ := hw
  exact h.setRow ds hb
theorem PastV.drop1 {base : Nat} {w : World} {b n c : Nat} {ks : Keys16} (h : PastV base w (.slice (some ⟨b, 0, none⟩) n c) ks) (h1 : 1 ≤ n) : PastV base w (.slice (some ⟨b, 16, none⟩) (n - 1) (c - 1)) (ks.drop 1) := by
  obtain ⟨ad, n', c', he, hn, hc, hs, hb⟩ := h
  cases he
  refine ⟨_, _, _, rfl, by rw [List.length_drop, hn], by omega, ⟨fun q hq => hs.1 q (List.mem_of_mem_drop hq), .inr ?_⟩, fun a ha => (by cases ha; exact hb.1 ⟨b, 0, none⟩ rfl), fun hn h0 a ha => by cases ha; exact hb.2 (by rintro rfl; exact hn rfl) h0 ⟨b, 0, none⟩ rfl⟩
  rcases hs.2 with ⟨h2, _⟩ | ⟨b', off', cap', he2, hlt, hr⟩
  · rw [h2] at hn; simp at hn; omega
  · cases he2
    refine ⟨_, _, c - 1, by rw [List.length_drop], hlt, fun j q hq => ?_⟩
    have h3 := hr (1 + j) q (by rw [List.getElem?_drop] at hq; exact hq)
    rw [show 16 + j * 16 = 0 + (1 + j) * 16 by omega]; exact h3
theorem atF_past (l : List Slot) (ks : Keys16) (slot : Int) (h : atF l ks slot = 0) : ks.length ≤ 16 := by
  have h1 : checkRingF l ks = 0 := by
    rcases checkRingF_cases l ks with h2 | h2
    · simp [atF, h2] at h
    · exact h2
  unfold checkRingF at h1
  by_cases h3 : (l.all okB && uniqB (keysF l) && decide (ks.length ≤ 16) && uniqB ks) = true
  · simp only [Bool.and_eq_true, decide_eq_true_eq] at h3; exact h3.1.2
  · rw [if_neg h3] at h1; cases h1
theorem sizeKey1 : (Try.prog.info? 49).map (·.size) = some 1 := by kernel_rfl
set_option maxHeartbeats 3200000 in
theorem install_any (l : List Slot) (hl : Ring4 l) (v : Value) (ks : Keys16) (b : Nat) (hn2 : ks.length ≤ 1000) (slot : Int) (k : List (BitVec 8)) (hk16 : k.length = 16) (w : World) (hs : PastV b w v ks) :
    Calls Try.prog 18 #[.agg (cellsR l v).toArray, .int .i64 slot, .agg (k.map V8).toArray] w (RetR (installF l ks slot k) w) := by
  have HA := kp (fun w' (h : Ext w w') => at_any l hl v ks b hn2 slot w' (hs.ext h))
  have HT := kp (fun w' (h : Ext w w') => twin_any l hl v ks hn2 w' (hs.sly.ext h))
  have HZ := kp (fun u => sizeR l u hl)
  have HZZ := kp (sizeR zeroSs nilV ring_zero)
  have HZO := kp (one_cellsR zeroSs nilV rfl)
  have HZK := kp (sizeKy k hk16)
  have HS := kp hs
  have HL := kp hl
  have H16 := kp hk16
  obtain ⟨ad, n, c, hv, hrest⟩ := hs
  clear hrest
  subst hv
  have HC := kp (fun w' (h : Ext w w') => containsKey_any ad n c ks k hk16 (by obtain ⟨_, _, _, he, hn, _⟩ := HS.out; cases he; exact hn) (by obtain ⟨_, _, _, he, hn, _⟩ := HS.out; cases he; omega) w' (HS.out.sly.ext h))
  have HP := kp (cellsR_past l (.slice ad n c) hl)
  have HH := kp (fun (g g5 : Nat) (w' : World) (h : Lc w' g 51 (cellsR l (.slice ad n c))) (h5 : Lc w' g5 45 (k.map V8)) => containsHeld_any g 0 4 4 l hl.1.symm hl.2 (by omega) k hk16 g5 w' h5 h.lt (fun j s hj => h.range (by rw [Nat.zero_add, cellsS_len s (hl.2 s (List.mem_of_getElem? hj))]; exact cellsR_slots l _ j s hl hj)))
  clear hl hk16
  have H := kp (Loc.start w)
  rcases atF_cases l ks slot with h | h | ⟨h, h0, h4⟩
  iterate 2
    have HF := kp (show installF l ks slot k = badR (atF l ks slot) by simp [installF, h])
    rw [h] at HA HF
    clear h
    go_enter Try.func18, Try.ntmps18
    go_wp2_with (first | ((with_reducible show wpList _ _ _ (Oper.mk (some 3) (Op.box 51 _) _ _ _ _ :: _) _ _); (with_reducible refine L_box H rfl 51 _ rfl (cellsR l (.slice ad n c)) rfl ?_); clear H; intro g3 w3 HGg3 HEg3 H; simp only [Act.put, List.setIfInBounds_toArray, List.set_cons_zero, List.set_cons_succ]) | ((with_reducible show wpList _ _ _ (Oper.mk (some 5) (Op.box 45 _) _ _ _ _ :: _) _ _); (with_reducible refine L_box H rfl 45 _ rfl (k.map V8) rfl ?_); clear H; intro g5 w5 HGg5 HEg5 H; simp only [Act.put, List.setIfInBounds_toArray, List.set_cons_zero, List.set_cons_succ]) | ((with_reducible show wpList _ _ _ (Oper.mk (some 6) (Op.alloc 51) _ _ _ _ :: _) _ _); (with_reducible refine L_alloc H rfl 51 rfl (zeroR) (fun _ _ => by kernel_rfl) ?_); clear H; intro g6 w6 HGg6 HEg6 H; simp only [Act.put, List.setIfInBounds_toArray, List.set_cons_zero, List.set_cons_succ]) | ((with_reducible show wpList _ _ _ (Oper.mk _ (Op.load 51 _) _ _ _ _ :: _) _ _); (first | (refine L_load H rfl 51 _ rfl 0 rfl rfl Try.underlying51 rfl (HZ.out _) ?_) | (refine L_load H rfl 51 _ rfl 1 rfl rfl Try.underlying51 rfl (HZ.out _) ?_) | (refine L_load H rfl 51 _ rfl 2 rfl rfl Try.underlying51 rfl (HZ.out _) ?_) | (refine L_load H rfl 51 _ rfl 3 rfl rfl Try.underlying51 rfl (HZ.out _) ?_) | (refine L_load H rfl 51 _ rfl 4 rfl rfl Try.underlying51 rfl (HZ.out _) ?_) | (refine L_load H rfl 51 _ rfl 5 rfl rfl Try.underlying51 rfl (HZ.out _) ?_)); simp only [Act.put, List.setIfInBounds_toArray, List.set_cons_zero, List.set_cons_succ]) | ((with_reducible show wpList _ _ _ (Oper.mk _ (Op.build 51 _) _ _ _ _ :: _) _ _); (with_reducible refine wpList_bd0 rfl 51 rfl (zeroR) (fun _ _ => by kernel_rfl) ?_); simp only [Act.put, List.setIfInBounds_toArray, List.set_cons_zero, List.set_cons_succ]) | ((with_reducible show wpList _ _ _ (Oper.mk none (Op.store 51 _ _) _ _ _ _ :: _) _ _); (first | (refine L_store H rfl rfl 51 _ _ rfl 0 rfl rfl (zeroR) rfl (HZZ.out) (rfl) (HZO.out) ?_; clear H; intro wz HWwz H; simp only [List.set_cons_zero] at H) | (refine L_store H rfl rfl 51 _ _ rfl 1 rfl rfl (zeroR) rfl (HZZ.out) (rfl) (HZO.out) ?_; clear H; intro wz HWwz H; simp only [List.set_cons_succ, List.set_cons_zero] at H) | (refine L_store H rfl rfl 51 _ _ rfl 2 rfl rfl (zeroR) rfl (HZZ.out) (rfl) (HZO.out) ?_; clear H; intro wz HWwz H; simp only [List.set_cons_succ, List.set_cons_zero] at H) | (refine L_store H rfl rfl 51 _ _ rfl 3 rfl rfl (zeroR) rfl (HZZ.out) (rfl) (HZO.out) ?_; clear H; intro wz HWwz H; simp only [List.set_cons_succ, List.set_cons_zero] at H) | (refine L_store H rfl rfl 51 _ _ rfl 4 rfl rfl (zeroR) rfl (HZZ.out) (rfl) (HZO.out) ?_; clear H; intro wz HWwz H; simp only [List.set_cons_succ, List.set_cons_zero] at H) | (refine L_store H rfl rfl 51 _ _ rfl 5 rfl rfl (zeroR) rfl (HZZ.out) (rfl) (HZO.out) ?_; clear H; intro wz HWwz H; simp only [List.set_cons_succ, List.set_cons_zero] at H))) | (go_at_call 42; refine (HA.out _ H.out.1).mono ?_; rintro e wa ⟨rfl, hx⟩; have H2 := kp (H.out.ext hx); have HXC := kp hx; clear H hx; have H := H2; clear H2))
    exact ret_row2 Try.results18 _ _ _ (0, 0) _ rfl _ rfl (H.out.at 0 rfl) Try.underlying51 rfl (HZZ.out) rfl (by rw [HF.out]; exact retR_bad H.out.1 rfl)
  have HPL := kp (atF_past l ks slot h)
  obtain ⟨j, rfl⟩ := Int.eq_ofNat_of_zero_le h0
  obtain ⟨s, hj⟩ : ∃ s, l[j]? = some s := ⟨l[j]'(by rw [HL.out.1]; omega), by simp⟩
  have HF := kp (show installF l ks j k = if ks.contains k || heldIn l k then badR 21 else ((l.set j (newSlot k), lastF (ks ++ [k])), 0) by simp [installF, h])
  have HJ := kp hj
  rw [h] at HA
  clear h hj h0
  cases hcn : ks.contains k with
  | true =>
    rw [hcn] at HC
    replace HF := kp (show installF l ks j k = badR 21 by rw [HF.out, hcn]; simp)
    clear hcn
    go_enter Try.func18, Try.ntmps18
    go_wp2_with (first | ((with_reducible show wpList _ _ _ (Oper.mk (some 3) (Op.box 51 _) _ _ _ _ :: _) _ _); (with_reducible refine L_box H rfl 51 _ rfl (cellsR l (.slice ad n c)) rfl ?_); clear H; intro g3 w3 HGg3 HEg3 H; simp only [Act.put, List.setIfInBounds_toArray, List.set_cons_zero, List.set_cons_succ]) | ((with_reducible show wpList _ _ _ (Oper.mk (some 5) (Op.box 45 _) _ _ _ _ :: _) _ _); (with_reducible refine L_box H rfl 45 _ rfl (k.map V8) rfl ?_); clear H; intro g5 w5 HGg5 HEg5 H; simp only [Act.put, List.setIfInBounds_toArray, List.set_cons_zero, List.set_cons_succ]) | ((with_reducible show wpList _ _ _ (Oper.mk (some 6) (Op.alloc 51) _ _ _ _ :: _) _ _); (with_reducible refine L_alloc H rfl 51 rfl (zeroR) (fun _ _ => by kernel_rfl) ?_); clear H; intro g6 w6 HGg6 HEg6 H; simp only [Act.put, List.setIfInBounds_toArray, List.set_cons_zero, List.set_cons_succ]) | ((with_reducible show wpList _ _ _ (Oper.mk _ (Op.load 51 _) _ _ _ _ :: _) _ _); (first | (refine L_load H rfl 51 _ rfl 0 rfl rfl Try.underlying51 rfl (HZ.out _) ?_) | (refine L_load H rfl 51 _ rfl 1 rfl rfl Try.underlying51 rfl (HZ.out _) ?_) | (refine L_load H rfl 51 _ rfl 2 rfl rfl Try.underlying51 rfl (HZ.out _) ?_) | (refine L_load H rfl 51 _ rfl 3 rfl rfl Try.underlying51 rfl (HZ.out _) ?_) | (refine L_load H rfl 51 _ rfl 4 rfl rfl Try.underlying51 rfl (HZ.out _) ?_) | (refine L_load H rfl 51 _ rfl 5 rfl rfl Try.underlying51 rfl (HZ.out _) ?_)); simp only [Act.put, List.setIfInBounds_toArray, List.set_cons_zero, List.set_cons_succ]))
    (go_at_call 42; refine (HA.out _ H.out.1).mono ?_; rintro e wa ⟨rfl, hx⟩; have H2 := kp (H.out.ext hx); have HXC := kp hx; clear H hx; have H := H2; clear H2)
    have hc := run_load_cell H.out 2 rfl _ _ HP.out
    go_wp2_with (first | ((with_reducible show wpList _ _ _ (Oper.mk _ (Op.load 45 _) _ _ _ _ :: _) _ _); (first | (refine L_load H rfl 45 _ rfl 0 rfl rfl Try.underlying45 rfl (HZK.out) ?_) | (refine L_load H rfl 45 _ rfl 1 rfl rfl Try.underlying45 rfl (HZK.out) ?_) | (refine L_load H rfl 45 _ rfl 2 rfl rfl Try.underlying45 rfl (HZK.out) ?_) | (refine L_load H rfl 45 _ rfl 3 rfl rfl Try.underlying45 rfl (HZK.out) ?_) | (refine L_load H rfl 45 _ rfl 4 rfl rfl Try.underlying45 rfl (HZK.out) ?_) | (refine L_load H rfl 45 _ rfl 5 rfl rfl Try.underlying45 rfl (HZK.out) ?_)); simp only [Act.put, List.setIfInBounds_toArray, List.set_cons_zero, List.set_cons_succ]))
    refine (HC.out _ H.out.1).mono ?_
    rintro e wc ⟨rfl, hx⟩
    clear hc
    have H2 := kp (H.out.ext hx); have HXC := kp hx; clear H hx; have H := H2; clear H2
    go_wp2_with (first | ((with_reducible show wpList _ _ _ (Oper.mk _ (Op.build 51 _) _ _ _ _ :: _) _ _); (with_reducible refine wpList_bd0 rfl 51 rfl (zeroR) (fun _ _ => by kernel_rfl) ?_); simp only [Act.put, List.setIfInBounds_toArray, List.set_cons_zero, List.set_cons_succ]) | ((with_reducible show wpList _ _ _ (Oper.mk none (Op.store 51 _ _) _ _ _ _ :: _) _ _); (first | (refine L_store H rfl rfl 51 _ _ rfl 0 rfl rfl (zeroR) rfl (HZZ.out) (rfl) (HZO.out) ?_; clear H; intro wz HWwz H; simp only [List.set_cons_zero] at H) | (refine L_store H rfl rfl 51 _ _ rfl 1 rfl rfl (zeroR) rfl (HZZ.out) (rfl) (HZO.out) ?_; clear H; intro wz HWwz H; simp only [List.set_cons_succ, List.set_cons_zero] at H) | (refine L_store H rfl rfl 51 _ _ rfl 2 rfl rfl (zeroR) rfl (HZZ.out) (rfl) (HZO.out) ?_; clear H; intro wz HWwz H; simp only [List.set_cons_succ, List.set_cons_zero] at H) | (refine L_store H rfl rfl 51 _ _ rfl 3 rfl rfl (zeroR) rfl (HZZ.out) (rfl) (HZO.out) ?_; clear H; intro wz HWwz H; simp only [List.set_cons_succ, List.set_cons_zero] at H) | (refine L_store H rfl rfl 51 _ _ rfl 4 rfl rfl (zeroR) rfl (HZZ.out) (rfl) (HZO.out) ?_; clear H; intro wz HWwz H; simp only [List.set_cons_succ, List.set_cons_zero] at H) | (refine L_store H rfl rfl 51 _ _ rfl 5 rfl rfl (zeroR) rfl (HZZ.out) (rfl) (HZO.out) ?_; clear H; intro wz HWwz H; simp only [List.set_cons_succ, List.set_cons_zero] at H))))
    exact ret_row2 Try.results18 _ _ _ (0, 0) _ rfl _ rfl (H.out.at 0 rfl) Try.underlying51 rfl (HZZ.out) rfl (by rw [HF.out]; exact retR_bad H.out.1 rfl)
  | false =>
    rw [hcn] at HC HF
    clear hcn
    cases hhe : heldIn l k with
    | true =>
      rw [hhe] at HH
      replace HF := kp (show installF l ks j k = badR 21 by rw [HF.out, hhe]; simp)
      clear hhe
      go_enter Try.func18, Try.ntmps18
      go_wp2_with (first | ((with_reducible show wpList _ _ _ (Oper.mk (some 3) (Op.box 51 _) _ _ _ _ :: _) _ _); (with_reducible refine L_box H rfl 51 _ rfl (cellsR l (.slice ad n c)) rfl ?_); clear H; intro g3 w3 HGg3 HEg3 H; simp only [Act.put, List.setIfInBounds_toArray, List.set_cons_zero, List.set_cons_succ]) | ((with_reducible show wpList _ _ _ (Oper.mk (some 5) (Op.box 45 _) _ _ _ _ :: _) _ _); (with_reducible refine L_box H rfl 45 _ rfl (k.map V8) rfl ?_); clear H; intro g5 w5 HGg5 HEg5 H; simp only [Act.put, List.setIfInBounds_toArray, List.set_cons_zero, List.set_cons_succ]) | ((with_reducible show wpList _ _ _ (Oper.mk (some 6) (Op.alloc 51) _ _ _ _ :: _) _ _); (with_reducible refine L_alloc H rfl 51 rfl (zeroR) (fun _ _ => by kernel_rfl) ?_); clear H; intro g6 w6 HGg6 HEg6 H; simp only [Act.put, List.setIfInBounds_toArray, List.set_cons_zero, List.set_cons_succ]) | ((with_reducible show wpList _ _ _ (Oper.mk _ (Op.load 51 _) _ _ _ _ :: _) _ _); (first | (refine L_load H rfl 51 _ rfl 0 rfl rfl Try.underlying51 rfl (HZ.out _) ?_) | (refine L_load H rfl 51 _ rfl 1 rfl rfl Try.underlying51 rfl (HZ.out _) ?_) | (refine L_load H rfl 51 _ rfl 2 rfl rfl Try.underlying51 rfl (HZ.out _) ?_) | (refine L_load H rfl 51 _ rfl 3 rfl rfl Try.underlying51 rfl (HZ.out _) ?_) | (refine L_load H rfl 51 _ rfl 4 rfl rfl Try.underlying51 rfl (HZ.out _) ?_) | (refine L_load H rfl 51 _ rfl 5 rfl rfl Try.underlying51 rfl (HZ.out _) ?_)); simp only [Act.put, List.setIfInBounds_toArray, List.set_cons_zero, List.set_cons_succ]))
      (go_at_call 42; refine (HA.out _ H.out.1).mono ?_; rintro e wa ⟨rfl, hx⟩; have H2 := kp (H.out.ext hx); have HXC := kp hx; clear H hx; have H := H2; clear H2)
      have hc := run_load_cell H.out 2 rfl _ _ HP.out
      go_wp2_with (first | ((with_reducible show wpList _ _ _ (Oper.mk _ (Op.load 45 _) _ _ _ _ :: _) _ _); (first | (refine L_load H rfl 45 _ rfl 0 rfl rfl Try.underlying45 rfl (HZK.out) ?_) | (refine L_load H rfl 45 _ rfl 1 rfl rfl Try.underlying45 rfl (HZK.out) ?_) | (refine L_load H rfl 45 _ rfl 2 rfl rfl Try.underlying45 rfl (HZK.out) ?_) | (refine L_load H rfl 45 _ rfl 3 rfl rfl Try.underlying45 rfl (HZK.out) ?_) | (refine L_load H rfl 45 _ rfl 4 rfl rfl Try.underlying45 rfl (HZK.out) ?_) | (refine L_load H rfl 45 _ rfl 5 rfl rfl Try.underlying45 rfl (HZK.out) ?_)); simp only [Act.put, List.setIfInBounds_toArray, List.set_cons_zero, List.set_cons_succ]))
      refine (HC.out _ H.out.1).mono ?_
      rintro e wc ⟨rfl, hx⟩
      clear hc
      have H2 := kp (H.out.ext hx); have HXC := kp hx; clear H hx; have H := H2; clear H2
      go_wp2_with fail
      refine (HH.out _ _ _ (H.out.at 2 rfl) (H.out.at 1 rfl)).mono ?_
      rintro e wh ⟨rfl, hx⟩
      have H2 := kp (H.out.ext hx); have HXC := kp hx; clear H hx; have H := H2; clear H2
      go_wp2_with (first | ((with_reducible show wpList _ _ _ (Oper.mk _ (Op.build 51 _) _ _ _ _ :: _) _ _); (with_reducible refine wpList_bd0 rfl 51 rfl (zeroR) (fun _ _ => by kernel_rfl) ?_); simp only [Act.put, List.setIfInBounds_toArray, List.set_cons_zero, List.set_cons_succ]) | ((with_reducible show wpList _ _ _ (Oper.mk none (Op.store 51 _ _) _ _ _ _ :: _) _ _); (first | (refine L_store H rfl rfl 51 _ _ rfl 0 rfl rfl (zeroR) rfl (HZZ.out) (rfl) (HZO.out) ?_; clear H; intro wz HWwz H; simp only [List.set_cons_zero] at H) | (refine L_store H rfl rfl 51 _ _ rfl 1 rfl rfl (zeroR) rfl (HZZ.out) (rfl) (HZO.out) ?_; clear H; intro wz HWwz H; simp only [List.set_cons_succ, List.set_cons_zero] at H) | (refine L_store H rfl rfl 51 _ _ rfl 2 rfl rfl (zeroR) rfl (HZZ.out) (rfl) (HZO.out) ?_; clear H; intro wz HWwz H; simp only [List.set_cons_succ, List.set_cons_zero] at H) | (refine L_store H rfl rfl 51 _ _ rfl 3 rfl rfl (zeroR) rfl (HZZ.out) (rfl) (HZO.out) ?_; clear H; intro wz HWwz H; simp only [List.set_cons_succ, List.set_cons_zero] at H) | (refine L_store H rfl rfl 51 _ _ rfl 4 rfl rfl (zeroR) rfl (HZZ.out) (rfl) (HZO.out) ?_; clear H; intro wz HWwz H; simp only [List.set_cons_succ, List.set_cons_zero] at H) | (refine L_store H rfl rfl 51 _ _ rfl 5 rfl rfl (zeroR) rfl (HZZ.out) (rfl) (HZO.out) ?_; clear H; intro wz HWwz H; simp only [List.set_cons_succ, List.set_cons_zero] at H))))
      exact ret_row2 Try.results18 _ _ _ (0, 0) _ rfl _ rfl (H.out.at 0 rfl) Try.underlying51 rfl (HZZ.out) rfl (by rw [HF.out]; exact retR_bad H.out.1 rfl)
    | false =>
      rw [hhe] at HH
      replace HF := kp (show installF l ks j k = ((l.set j (newSlot k), lastF (ks ++ [k])), 0) by rw [HF.out, hhe]; simp)
      clear hhe
      have HRS := kp (ring_set l HL.out j (newSlot k) ⟨H16.out, rfl⟩)
      have HZ2 := kp (fun u => sizeR (l.set j (newSlot k)) u HRS.out)
      have HO := kp (fun u (h : u.oneCell' = true) => one_cellsR l u h)
      have HO2 := kp (fun u (h : u.oneCell' = true) => one_cellsR (l.set j (newSlot k)) u h)
      have HSG := kp (fun u => show ((cellsR l u).take (j * 36) ++ cellsS (newSlot k) ++ (cellsR l u).drop (j * 36 + (cellsS (newSlot k)).length)).toArray = (cellsR (l.set j (newSlot k)) u).toArray by rw [cellsS_len _ ⟨H16.out, rfl⟩]; exact congrArg List.toArray (cellsR_seg l u HL.out j s (newSlot k) HJ.out))
      have HLN := kp (fun u u' => cellsR_len2 l l u u' HL.out HL.out)
      have HLN2 := kp (fun u u' => cellsR_len2 zeroSs (l.set j (newSlot k)) u u' ring_zero HRS.out)
      have HZS := kp (show (Try.prog.info? 47).map (·.size) = some (cellsS (newSlot k)).toArray.size by rw [size47, List.size_toArray, cellsS_len _ ⟨H16.out, rfl⟩])
      have HOS := kp (all_oneCell_toArray (one_cellsS (newSlot k)))
      have HFT := kp (fun u => show j * 36 + (cellsS (newSlot k)).toArray.size ≤ (cellsR l u).toArray.size by rw [List.size_toArray, List.size_toArray, cellsR_len l u HL.out, cellsS_len (newSlot k) ⟨H16.out, rfl⟩]; omega)
      have HP2 := kp (fun u => cellsR_past (l.set j (newSlot k)) u HRS.out)
      have HPS := kp (fun u u' => cellsR_set (l.set j (newSlot k)) u u' HRS.out)
      have HP144 := kp (fun u => show 144 < (cellsR (l.set j (newSlot k)) u).length by rw [cellsR_len _ _ HRS.out]; decide)
      go_enter Try.func18, Try.ntmps18
      generalize h9 : (Code.region 9 _ _ : Code) = R9
      generalize h10 : (Code.region 10 _ _ : Code) = R10
      go_wp2_with (first | ((with_reducible show wpList _ _ _ (Oper.mk (some 3) (Op.box 51 _) _ _ _ _ :: _) _ _); (with_reducible refine L_box H rfl 51 _ rfl (cellsR l (.slice ad n c)) rfl ?_); clear H; intro g3 w3 HGg3 HEg3 H; simp only [Act.put, List.setIfInBounds_toArray, List.set_cons_zero, List.set_cons_succ]) | ((with_reducible show wpList _ _ _ (Oper.mk (some 5) (Op.box 45 _) _ _ _ _ :: _) _ _); (with_reducible refine L_box H rfl 45 _ rfl (k.map V8) rfl ?_); clear H; intro g5 w5 HGg5 HEg5 H; simp only [Act.put, List.setIfInBounds_toArray, List.set_cons_zero, List.set_cons_succ]) | ((with_reducible show wpList _ _ _ (Oper.mk (some 6) (Op.alloc 51) _ _ _ _ :: _) _ _); (with_reducible refine L_alloc H rfl 51 rfl (zeroR) (fun _ _ => by kernel_rfl) ?_); clear H; intro g6 w6 HGg6 HEg6 H; simp only [Act.put, List.setIfInBounds_toArray, List.set_cons_zero, List.set_cons_succ]) | ((with_reducible show wpList _ _ _ (Oper.mk _ (Op.load 51 _) _ _ _ _ :: _) _ _); (first | (refine L_load H rfl 51 _ rfl 0 rfl rfl Try.underlying51 rfl (HZ.out _) ?_) | (refine L_load H rfl 51 _ rfl 1 rfl rfl Try.underlying51 rfl (HZ.out _) ?_) | (refine L_load H rfl 51 _ rfl 2 rfl rfl Try.underlying51 rfl (HZ.out _) ?_) | (refine L_load H rfl 51 _ rfl 3 rfl rfl Try.underlying51 rfl (HZ.out _) ?_) | (refine L_load H rfl 51 _ rfl 4 rfl rfl Try.underlying51 rfl (HZ.out _) ?_) | (refine L_load H rfl 51 _ rfl 5 rfl rfl Try.underlying51 rfl (HZ.out _) ?_)); simp only [Act.put, List.setIfInBounds_toArray, List.set_cons_zero, List.set_cons_succ]))
      (go_at_call 42; refine (HA.out _ H.out.1).mono ?_; rintro e wa ⟨rfl, hx⟩; have H2 := kp (H.out.ext hx); have HXC := kp hx; clear H hx; have H := H2; clear H2)
      have hc := run_load_cell H.out 2 rfl _ _ HP.out
      go_wp2_with (first | ((with_reducible show wpList _ _ _ (Oper.mk _ (Op.load 45 _) _ _ _ _ :: _) _ _); (first | (refine L_load H rfl 45 _ rfl 0 rfl rfl Try.underlying45 rfl (HZK.out) ?_) | (refine L_load H rfl 45 _ rfl 1 rfl rfl Try.underlying45 rfl (HZK.out) ?_) | (refine L_load H rfl 45 _ rfl 2 rfl rfl Try.underlying45 rfl (HZK.out) ?_) | (refine L_load H rfl 45 _ rfl 3 rfl rfl Try.underlying45 rfl (HZK.out) ?_) | (refine L_load H rfl 45 _ rfl 4 rfl rfl Try.underlying45 rfl (HZK.out) ?_) | (refine L_load H rfl 45 _ rfl 5 rfl rfl Try.underlying45 rfl (HZK.out) ?_)); simp only [Act.put, List.setIfInBounds_toArray, List.set_cons_zero, List.set_cons_succ]))
      refine (HC.out _ H.out.1).mono ?_
      rintro e wc ⟨rfl, hx⟩
      clear hc
      have H2 := kp (H.out.ext hx); have HXC := kp hx; clear H hx; have H := H2; clear H2
      go_wp2_with fail
      refine (HH.out _ _ _ (H.out.at 2 rfl) (H.out.at 1 rfl)).mono ?_
      rintro e wh ⟨rfl, hx⟩
      have H2 := kp (H.out.ext hx); have HXC := kp hx; clear H hx; have H := H2; clear H2
      go_wp2_with (first | ((with_reducible show wpList _ _ _ (Oper.mk _ (Op.load 51 _) _ _ _ _ :: _) _ _); (first | (refine L_load H rfl 51 _ rfl 0 rfl rfl Try.underlying51 rfl (HZ.out _) ?_) | (refine L_load H rfl 51 _ rfl 1 rfl rfl Try.underlying51 rfl (HZ.out _) ?_) | (refine L_load H rfl 51 _ rfl 2 rfl rfl Try.underlying51 rfl (HZ.out _) ?_) | (refine L_load H rfl 51 _ rfl 3 rfl rfl Try.underlying51 rfl (HZ.out _) ?_) | (refine L_load H rfl 51 _ rfl 4 rfl rfl Try.underlying51 rfl (HZ.out _) ?_) | (refine L_load H rfl 51 _ rfl 5 rfl rfl Try.underlying51 rfl (HZ.out _) ?_)); simp only [Act.put, List.setIfInBounds_toArray, List.set_cons_zero, List.set_cons_succ]))
      refine (HT.out _ H.out.1).mono ?_
      rintro e wt ⟨u, rfl, ho, hx⟩
      have HOW := kp ho
      have HU1 := kp (slot_oneP (PastV.of_owns HS.out.sly.1 ho))
      have HALL := kp (show ∀ g ∈ [g6, g5, g3], g < wh.heap.size by
        intro g hg
        simp only [List.mem_cons, List.not_mem_nil, or_false] at hg
        rcases hg with rfl | rfl | rfl
        · exact H.out.lt 0 rfl
        · exact H.out.lt 1 rfl
        · exact H.out.lt 2 rfl)
      have HB0 := kp H.out.1.size
      clear ho
      have H2 := kp (H.out.ext hx); have HXC := kp hx; clear H hx; have H := H2; clear H2
      go_wp2_with (first | ((with_reducible show wpList _ _ _ (Oper.mk _ (Op.build _ _) _ _ _ _ :: _) _ _); (refine wpList_buildSlot rfl _ rfl k H16.out rfl ?_); simp only [Act.put, List.setIfInBounds_toArray, List.set_cons_zero, List.set_cons_succ]) | ((with_reducible show wpList _ _ _ (Oper.mk _ (Op.load 45 _) _ _ _ _ :: _) _ _); (first | (refine L_load H rfl 45 _ rfl 0 rfl rfl Try.underlying45 rfl (HZK.out) ?_) | (refine L_load H rfl 45 _ rfl 1 rfl rfl Try.underlying45 rfl (HZK.out) ?_) | (refine L_load H rfl 45 _ rfl 2 rfl rfl Try.underlying45 rfl (HZK.out) ?_) | (refine L_load H rfl 45 _ rfl 3 rfl rfl Try.underlying45 rfl (HZK.out) ?_) | (refine L_load H rfl 45 _ rfl 4 rfl rfl Try.underlying45 rfl (HZK.out) ?_) | (refine L_load H rfl 45 _ rfl 5 rfl rfl Try.underlying45 rfl (HZK.out) ?_)); simp only [Act.put, List.setIfInBounds_toArray, List.set_cons_zero, List.set_cons_succ]) | ((with_reducible show wpList _ _ _ (Oper.mk none (Op.store 51 _ _) _ _ _ _ :: _) _ _); (first | (refine L_store H rfl rfl 51 _ _ rfl 0 rfl rfl (cellsR l u) rfl (HZ.out _) (HLN.out _ _) (HO.out _ HU1.out) ?_; clear H; intro wu HWwu H; simp only [List.set_cons_zero] at H) | (refine L_store H rfl rfl 51 _ _ rfl 1 rfl rfl (cellsR l u) rfl (HZ.out _) (HLN.out _ _) (HO.out _ HU1.out) ?_; clear H; intro wu HWwu H; simp only [List.set_cons_succ, List.set_cons_zero] at H) | (refine L_store H rfl rfl 51 _ _ rfl 2 rfl rfl (cellsR l u) rfl (HZ.out _) (HLN.out _ _) (HO.out _ HU1.out) ?_; clear H; intro wu HWwu H; simp only [List.set_cons_succ, List.set_cons_zero] at H) | (refine L_store H rfl rfl 51 _ _ rfl 3 rfl rfl (cellsR l u) rfl (HZ.out _) (HLN.out _ _) (HO.out _ HU1.out) ?_; clear H; intro wu HWwu H; simp only [List.set_cons_succ, List.set_cons_zero] at H) | (refine L_store H rfl rfl 51 _ _ rfl 4 rfl rfl (cellsR l u) rfl (HZ.out _) (HLN.out _ _) (HO.out _ HU1.out) ?_; clear H; intro wu HWwu H; simp only [List.set_cons_succ, List.set_cons_zero] at H) | (refine L_store H rfl rfl 51 _ _ rfl 5 rfl rfl (cellsR l u) rfl (HZ.out _) (HLN.out _ _) (HO.out _ HU1.out) ?_; clear H; intro wu HWwu H; simp only [List.set_cons_succ, List.set_cons_zero] at H))) | ((with_reducible show wpList _ _ _ (Oper.mk none (Op.store 47 _ _) _ _ _ _ :: _) _ _); (first | (refine L_seg H rfl rfl 47 _ _ rfl 0 rfl (j * 36) rfl (cellsS (newSlot k)) rfl (HZS.out) (HFT.out _) (HOS.out) (cellsR (l.set j (newSlot k)) u) (HSG.out _) ?_; clear H; intro ws HWws H; simp only [List.set_cons_zero] at H) | (refine L_seg H rfl rfl 47 _ _ rfl 1 rfl (j * 36) rfl (cellsS (newSlot k)) rfl (HZS.out) (HFT.out _) (HOS.out) (cellsR (l.set j (newSlot k)) u) (HSG.out _) ?_; clear H; intro ws HWws H; simp only [List.set_cons_succ, List.set_cons_zero] at H) | (refine L_seg H rfl rfl 47 _ _ rfl 2 rfl (j * 36) rfl (cellsS (newSlot k)) rfl (HZS.out) (HFT.out _) (HOS.out) (cellsR (l.set j (newSlot k)) u) (HSG.out _) ?_; clear H; intro ws HWws H; simp only [List.set_cons_succ, List.set_cons_zero] at H) | (refine L_seg H rfl rfl 47 _ _ rfl 3 rfl (j * 36) rfl (cellsS (newSlot k)) rfl (HZS.out) (HFT.out _) (HOS.out) (cellsR (l.set j (newSlot k)) u) (HSG.out _) ?_; clear H; intro ws HWws H; simp only [List.set_cons_succ, List.set_cons_zero] at H) | (refine L_seg H rfl rfl 47 _ _ rfl 4 rfl (j * 36) rfl (cellsS (newSlot k)) rfl (HZS.out) (HFT.out _) (HOS.out) (cellsR (l.set j (newSlot k)) u) (HSG.out _) ?_; clear H; intro ws HWws H; simp only [List.set_cons_succ, List.set_cons_zero] at H) | (refine L_seg H rfl rfl 47 _ _ rfl 5 rfl (j * 36) rfl (cellsS (newSlot k)) rfl (HZS.out) (HFT.out _) (HOS.out) (cellsR (l.set j (newSlot k)) u) (HSG.out _) ?_; clear H; intro ws HWws H; simp only [List.set_cons_succ, List.set_cons_zero] at H))))
      have HOW2 := kp (owns_wrote (owns_wrote HOW.out HWwu.out (HALL.out g3 (by simp))) HWws.out (HALL.out g3 (by simp)))
      clear HOW
      subst h9
      have hc := run_load_cell H.out 2 rfl _ _ (HP2.out u)
      have HBS := kp (show wh.heap.size ≤ ws.heap.size by rw [HWws.out.size, HWwu.out.size]; exact HXC.out.size)
      go_wp2_with (first | ((with_reducible show wpList _ _ _ (Oper.mk _ (Op.load 45 _) _ _ _ _ :: _) _ _); (first | (refine L_load H rfl 45 _ rfl 0 rfl rfl Try.underlying45 rfl (HZK.out) ?_) | (refine L_load H rfl 45 _ rfl 1 rfl rfl Try.underlying45 rfl (HZK.out) ?_) | (refine L_load H rfl 45 _ rfl 2 rfl rfl Try.underlying45 rfl (HZK.out) ?_) | (refine L_load H rfl 45 _ rfl 3 rfl rfl Try.underlying45 rfl (HZK.out) ?_) | (refine L_load H rfl 45 _ rfl 4 rfl rfl Try.underlying45 rfl (HZK.out) ?_) | (refine L_load H rfl 45 _ rfl 5 rfl rfl Try.underlying45 rfl (HZK.out) ?_)); simp only [Act.put, List.setIfInBounds_toArray, List.set_cons_zero, List.set_cons_succ]) | ((with_reducible show wpList _ _ _ (Oper.mk _ (Op.buildSlice _ _ _) _ _ _ _ :: _) _ _); (refine L_buildKey H rfl _ rfl k H16.out rfl ?_); clear H; intro g8 w8 HE8 H HSY; simp only [Act.put, List.setIfInBounds_toArray, List.set_cons_zero, List.set_cons_succ]) | (at_builtin; refine L_appendY H rfl _ _ rfl wh.heap.size HB0.out HALL.out (Nat.le_trans HBS.out HE8.out.size) _ ks rfl (owns_extS HOW2.out HE8.out) _ [k] rfl HSY.out (by simp; omega) ?_; clear H; intro u9 w9 HOW9 H; obtain ⟨g9, c9, hu9, hc9⟩ := owns_form HOW9.out (by simp); have HU9 := kp hu9; have HC9 := kp hc9; clear hu9 hc9) | ((with_reducible show wpList _ _ _ (Oper.mk none (Op.store 49 _ _) _ _ _ _ :: _) _ _); (first | (refine L_cell H rfl rfl 49 _ _ rfl 0 rfl (144) rfl (u9) rfl ((by rw [HU9.out]; rfl)) (sizeKey1) (HP144.out _) (cellsR (l.set j (newSlot k)) u9) (HPS.out _ _) ?_; clear H; intro w10 HWw10 H; simp only [List.set_cons_zero] at H) | (refine L_cell H rfl rfl 49 _ _ rfl 1 rfl (144) rfl (u9) rfl ((by rw [HU9.out]; rfl)) (sizeKey1) (HP144.out _) (cellsR (l.set j (newSlot k)) u9) (HPS.out _ _) ?_; clear H; intro w10 HWw10 H; simp only [List.set_cons_succ, List.set_cons_zero] at H) | (refine L_cell H rfl rfl 49 _ _ rfl 2 rfl (144) rfl (u9) rfl ((by rw [HU9.out]; rfl)) (sizeKey1) (HP144.out _) (cellsR (l.set j (newSlot k)) u9) (HPS.out _ _) ?_; clear H; intro w10 HWw10 H; simp only [List.set_cons_succ, List.set_cons_zero] at H) | (refine L_cell H rfl rfl 49 _ _ rfl 3 rfl (144) rfl (u9) rfl ((by rw [HU9.out]; rfl)) (sizeKey1) (HP144.out _) (cellsR (l.set j (newSlot k)) u9) (HPS.out _ _) ?_; clear H; intro w10 HWw10 H; simp only [List.set_cons_succ, List.set_cons_zero] at H) | (refine L_cell H rfl rfl 49 _ _ rfl 4 rfl (144) rfl (u9) rfl ((by rw [HU9.out]; rfl)) (sizeKey1) (HP144.out _) (cellsR (l.set j (newSlot k)) u9) (HPS.out _ _) ?_; clear H; intro w10 HWw10 H; simp only [List.set_cons_succ, List.set_cons_zero] at H) | (refine L_cell H rfl rfl 49 _ _ rfl 5 rfl (144) rfl (u9) rfl ((by rw [HU9.out]; rfl)) (sizeKey1) (HP144.out _) (cellsR (l.set j (newSlot k)) u9) (HPS.out _ _) ?_; clear H; intro w10 HWw10 H; simp only [List.set_cons_succ, List.set_cons_zero] at H))))
      clear hc
      have HK2 := kp (show ∀ q ∈ ks ++ [k], q.length = 16 by
        intro q hq
        rcases List.mem_append.1 hq with hq | hq
        · exact HS.out.sly.1 q hq
        · simp at hq; rw [hq]; exact H16.out)
      have HPV := kp ((PastV.of_owns HK2.out HOW9.out).wrote HWw10.out (HALL.out g3 (by simp)))
      clear HOW9
      have HN9 := kp (show (ks ++ [k]).length = ks.length + 1 by simp)
      generalize hms : ks ++ [k] = ms at *
      have hu := HU9.out
      subst hu
      clear HU9
      obtain ⟨n9, hn9⟩ : ∃ n, ms.length = n := ⟨_, rfl⟩
      rw [hn9] at H HC9 HN9 HPV
      have HNN := kp hn9
      clear hms hn9
      have hc := run_load_cell H.out 2 rfl _ _ (HP2.out _)
      by_cases h17 : 16 < n9
      · have HLF := kp (show lastF ms = ms.drop 1 by unfold lastF; rw [if_pos (by rw [HNN.out]; exact h17)])
        have hc9 := HC9.out
        subst h10
        go_wp2_with (first | ((with_reducible show wpList _ _ _ (Oper.mk _ (Op.load 51 _) _ _ _ _ :: _) _ _); (first | (refine L_load H rfl 51 _ rfl 0 rfl rfl Try.underlying51 rfl (HZ2.out _) ?_) | (refine L_load H rfl 51 _ rfl 1 rfl rfl Try.underlying51 rfl (HZ2.out _) ?_) | (refine L_load H rfl 51 _ rfl 2 rfl rfl Try.underlying51 rfl (HZ2.out _) ?_) | (refine L_load H rfl 51 _ rfl 3 rfl rfl Try.underlying51 rfl (HZ2.out _) ?_) | (refine L_load H rfl 51 _ rfl 4 rfl rfl Try.underlying51 rfl (HZ2.out _) ?_) | (refine L_load H rfl 51 _ rfl 5 rfl rfl Try.underlying51 rfl (HZ2.out _) ?_)); simp only [Act.put, List.setIfInBounds_toArray, List.set_cons_zero, List.set_cons_succ]) | ((with_reducible show wpList _ _ _ (Oper.mk none (Op.store 49 _ _) _ _ _ _ :: _) _ _); (first | (refine L_cell H rfl rfl 49 _ _ rfl 0 rfl (144) rfl (.slice (some ⟨g9, 16, none⟩) (n9 - 1) (c9 - 1)) rfl (rfl) (sizeKey1) (HP144.out _) (cellsR (l.set j (newSlot k)) (.slice (some ⟨g9, 16, none⟩) (n9 - 1) (c9 - 1))) (HPS.out _ _) ?_; clear H; intro w11 HWw11 H; simp only [List.set_cons_zero] at H) | (refine L_cell H rfl rfl 49 _ _ rfl 1 rfl (144) rfl (.slice (some ⟨g9, 16, none⟩) (n9 - 1) (c9 - 1)) rfl (rfl) (sizeKey1) (HP144.out _) (cellsR (l.set j (newSlot k)) (.slice (some ⟨g9, 16, none⟩) (n9 - 1) (c9 - 1))) (HPS.out _ _) ?_; clear H; intro w11 HWw11 H; simp only [List.set_cons_succ, List.set_cons_zero] at H) | (refine L_cell H rfl rfl 49 _ _ rfl 2 rfl (144) rfl (.slice (some ⟨g9, 16, none⟩) (n9 - 1) (c9 - 1)) rfl (rfl) (sizeKey1) (HP144.out _) (cellsR (l.set j (newSlot k)) (.slice (some ⟨g9, 16, none⟩) (n9 - 1) (c9 - 1))) (HPS.out _ _) ?_; clear H; intro w11 HWw11 H; simp only [List.set_cons_succ, List.set_cons_zero] at H) | (refine L_cell H rfl rfl 49 _ _ rfl 3 rfl (144) rfl (.slice (some ⟨g9, 16, none⟩) (n9 - 1) (c9 - 1)) rfl (rfl) (sizeKey1) (HP144.out _) (cellsR (l.set j (newSlot k)) (.slice (some ⟨g9, 16, none⟩) (n9 - 1) (c9 - 1))) (HPS.out _ _) ?_; clear H; intro w11 HWw11 H; simp only [List.set_cons_succ, List.set_cons_zero] at H) | (refine L_cell H rfl rfl 49 _ _ rfl 4 rfl (144) rfl (.slice (some ⟨g9, 16, none⟩) (n9 - 1) (c9 - 1)) rfl (rfl) (sizeKey1) (HP144.out _) (cellsR (l.set j (newSlot k)) (.slice (some ⟨g9, 16, none⟩) (n9 - 1) (c9 - 1))) (HPS.out _ _) ?_; clear H; intro w11 HWw11 H; simp only [List.set_cons_succ, List.set_cons_zero] at H) | (refine L_cell H rfl rfl 49 _ _ rfl 5 rfl (144) rfl (.slice (some ⟨g9, 16, none⟩) (n9 - 1) (c9 - 1)) rfl (rfl) (sizeKey1) (HP144.out _) (cellsR (l.set j (newSlot k)) (.slice (some ⟨g9, 16, none⟩) (n9 - 1) (c9 - 1))) (HPS.out _ _) ?_; clear H; intro w11 HWw11 H; simp only [List.set_cons_succ, List.set_cons_zero] at H))) | ((with_reducible show wpList _ _ _ (Oper.mk none (Op.store 51 _ _) _ _ _ _ :: _) _ _); (first | (refine L_store H rfl rfl 51 _ _ rfl 0 rfl rfl (cellsR (l.set j (newSlot k)) (.slice (some ⟨g9, 16, none⟩) (n9 - 1) (c9 - 1))) rfl (HZ2.out _) (HLN2.out _ _) (HO2.out _ rfl) ?_; clear H; intro wr HWwr H; simp only [List.set_cons_zero] at H) | (refine L_store H rfl rfl 51 _ _ rfl 1 rfl rfl (cellsR (l.set j (newSlot k)) (.slice (some ⟨g9, 16, none⟩) (n9 - 1) (c9 - 1))) rfl (HZ2.out _) (HLN2.out _ _) (HO2.out _ rfl) ?_; clear H; intro wr HWwr H; simp only [List.set_cons_succ, List.set_cons_zero] at H) | (refine L_store H rfl rfl 51 _ _ rfl 2 rfl rfl (cellsR (l.set j (newSlot k)) (.slice (some ⟨g9, 16, none⟩) (n9 - 1) (c9 - 1))) rfl (HZ2.out _) (HLN2.out _ _) (HO2.out _ rfl) ?_; clear H; intro wr HWwr H; simp only [List.set_cons_succ, List.set_cons_zero] at H) | (refine L_store H rfl rfl 51 _ _ rfl 3 rfl rfl (cellsR (l.set j (newSlot k)) (.slice (some ⟨g9, 16, none⟩) (n9 - 1) (c9 - 1))) rfl (HZ2.out _) (HLN2.out _ _) (HO2.out _ rfl) ?_; clear H; intro wr HWwr H; simp only [List.set_cons_succ, List.set_cons_zero] at H) | (refine L_store H rfl rfl 51 _ _ rfl 4 rfl rfl (cellsR (l.set j (newSlot k)) (.slice (some ⟨g9, 16, none⟩) (n9 - 1) (c9 - 1))) rfl (HZ2.out _) (HLN2.out _ _) (HO2.out _ rfl) ?_; clear H; intro wr HWwr H; simp only [List.set_cons_succ, List.set_cons_zero] at H) | (refine L_store H rfl rfl 51 _ _ rfl 5 rfl rfl (cellsR (l.set j (newSlot k)) (.slice (some ⟨g9, 16, none⟩) (n9 - 1) (c9 - 1))) rfl (HZ2.out _) (HLN2.out _ _) (HO2.out _ rfl) ?_; clear H; intro wr HWwr H; simp only [List.set_cons_succ, List.set_cons_zero] at H))))
        exact ret_row2 Try.results18 _ _ _ (0, 0) _ rfl _ rfl (H.out.at 0 rfl) Try.underlying51 rfl (HZ2.out _) rfl (by rw [HF.out, HLF.out]; exact ⟨_, rfl, PastV.base (((HPV.out.drop1 (Nat.le_trans (by decide) (Nat.le_of_lt h17))).wrote HWw11.out (HALL.out g3 (by simp))).wrote HWwr.out (HALL.out g6 (by simp))) HB0.out, H.out.1⟩)
      · have HLF := kp (show lastF ms = ms by unfold lastF; rw [if_neg (by rw [HNN.out]; exact h17)])
        subst h10
        go_wp2_with (first | ((with_reducible show wpList _ _ _ (Oper.mk _ (Op.load 51 _) _ _ _ _ :: _) _ _); (first | (refine L_load H rfl 51 _ rfl 0 rfl rfl Try.underlying51 rfl (HZ2.out _) ?_) | (refine L_load H rfl 51 _ rfl 1 rfl rfl Try.underlying51 rfl (HZ2.out _) ?_) | (refine L_load H rfl 51 _ rfl 2 rfl rfl Try.underlying51 rfl (HZ2.out _) ?_) | (refine L_load H rfl 51 _ rfl 3 rfl rfl Try.underlying51 rfl (HZ2.out _) ?_) | (refine L_load H rfl 51 _ rfl 4 rfl rfl Try.underlying51 rfl (HZ2.out _) ?_) | (refine L_load H rfl 51 _ rfl 5 rfl rfl Try.underlying51 rfl (HZ2.out _) ?_)); simp only [Act.put, List.setIfInBounds_toArray, List.set_cons_zero, List.set_cons_succ]) | ((with_reducible show wpList _ _ _ (Oper.mk none (Op.store 51 _ _) _ _ _ _ :: _) _ _); (first | (refine L_store H rfl rfl 51 _ _ rfl 0 rfl rfl (cellsR (l.set j (newSlot k)) (.slice (some ⟨g9, 0, none⟩) n9 c9)) rfl (HZ2.out _) (HLN2.out _ _) (HO2.out _ rfl) ?_; clear H; intro wr HWwr H; simp only [List.set_cons_zero] at H) | (refine L_store H rfl rfl 51 _ _ rfl 1 rfl rfl (cellsR (l.set j (newSlot k)) (.slice (some ⟨g9, 0, none⟩) n9 c9)) rfl (HZ2.out _) (HLN2.out _ _) (HO2.out _ rfl) ?_; clear H; intro wr HWwr H; simp only [List.set_cons_succ, List.set_cons_zero] at H) | (refine L_store H rfl rfl 51 _ _ rfl 2 rfl rfl (cellsR (l.set j (newSlot k)) (.slice (some ⟨g9, 0, none⟩) n9 c9)) rfl (HZ2.out _) (HLN2.out _ _) (HO2.out _ rfl) ?_; clear H; intro wr HWwr H; simp only [List.set_cons_succ, List.set_cons_zero] at H) | (refine L_store H rfl rfl 51 _ _ rfl 3 rfl rfl (cellsR (l.set j (newSlot k)) (.slice (some ⟨g9, 0, none⟩) n9 c9)) rfl (HZ2.out _) (HLN2.out _ _) (HO2.out _ rfl) ?_; clear H; intro wr HWwr H; simp only [List.set_cons_succ, List.set_cons_zero] at H) | (refine L_store H rfl rfl 51 _ _ rfl 4 rfl rfl (cellsR (l.set j (newSlot k)) (.slice (some ⟨g9, 0, none⟩) n9 c9)) rfl (HZ2.out _) (HLN2.out _ _) (HO2.out _ rfl) ?_; clear H; intro wr HWwr H; simp only [List.set_cons_succ, List.set_cons_zero] at H) | (refine L_store H rfl rfl 51 _ _ rfl 5 rfl rfl (cellsR (l.set j (newSlot k)) (.slice (some ⟨g9, 0, none⟩) n9 c9)) rfl (HZ2.out _) (HLN2.out _ _) (HO2.out _ rfl) ?_; clear H; intro wr HWwr H; simp only [List.set_cons_succ, List.set_cons_zero] at H))))
        exact ret_row2 Try.results18 _ _ _ (0, 0) _ rfl _ rfl (H.out.at 0 rfl) Try.underlying51 rfl (HZ2.out _) rfl (by rw [HF.out, HLF.out]; exact ⟨_, rfl, PastV.base (HPV.out.wrote HWwr.out (HALL.out g6 (by simp))) HB0.out, H.out.1⟩)
end Go.Proofs.Ytjnaegpjhbobaaa
