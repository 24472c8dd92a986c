/- The walk of CounterCounts. -/
import Derived.Test.YtjnaegpjhbobaaaPlain24c
import Derived.Test.YtjnaegpjhbobaaaOpnR
import Derived.Test.YtjnaegpjhbobaaaSlT
namespace Go.Proofs.Ytjnaegpjhbobaaa
open Go.RowKit
theorem neKey (w : World) (k k' : List (BitVec 8)) (h : k.length = 16) (h' : k'.length = 16) : (binOp .neq 45 (.agg (k.map V8).toArray) (.agg (k'.map V8).toArray)).run Try.prog w = .ok (.bool (!(k == k'))) w := by
  rw [run_neq_struct]
  have := run_eq_ints (P := Try.prog) w Try.underlying45 Try.underlying5 sizeU8 k k' h h' 9998
  rw [show (9998 + 2 : Nat) = 10000 from rfl] at this
  rw [this]; rfl
theorem installF_cases (l : List Slot) (ks : Keys16) (slot : Int) (k : List (BitVec 8)) : installF l ks slot k = badR 8 ∨ installF l ks slot k = badR 2 ∨ installF l ks slot k = badR 21 ∨ ∃ q, installF l ks slot k = (q, 0) := by
  unfold installF
  rcases atF_cases l ks slot with h | h | ⟨h, _, _⟩
  · rw [h, if_neg (by decide)]; exact .inl rfl
  · rw [h, if_neg (by decide)]; exact .inr (.inl rfl)
  · rw [h, if_pos rfl]
    split
    · exact .inr (.inr (.inl rfl))
    · exact .inr (.inr (.inr ⟨_, rfl⟩))
theorem lastF_last (ks : Keys16) (k : List (BitVec 8)) (h : ks.length ≤ 16) : ∃ m, (lastF (ks ++ [k])).length = m + 1 ∧ (lastF (ks ++ [k]))[m]? = some k ∧ m < 16 := by
  unfold lastF
  split
  · refine ⟨ks.length - 1, by simp at *; omega, ?_, by omega⟩
    rename_i h2
    simp at h2
    rw [List.getElem?_drop, show 1 + (ks.length - 1) = ks.length by omega, List.getElem?_append_right (Nat.le_refl _)]; simp
  · rename_i h2
    simp at h2
    exact ⟨ks.length, by simp, by rw [List.getElem?_append_right (Nat.le_refl _)]; simp, by omega⟩
theorem PastV.wrote2 {base g : Nat} {w w' w'' : World} {u : Value} {ks : Keys16} (h : PastV base w u ks) (hx : Ext w w') (hw : Wrote w' w'' g) (hg : w.heap.size ≤ g) : PastV base w'' u ks := by
  obtain ⟨ds, rfl⟩ := hw
  obtain ⟨ad, n, c, rfl, h2, h3, ⟨h0, h4⟩, h5⟩ := h
  refine ⟨ad, n, c, rfl, h2, h3, ⟨h0, ?_⟩, h5.1, h5.2.keep fun _ a _ hl => (setRow_other w' g a.block ds (by omega)).trans (by obtain ⟨x, rfl⟩ := hx; exact more_heap _ _ _ hl)⟩
  rcases h4 with h4 | ⟨b, off, cap, he, hb, hr⟩
  · exact .inl h4
  · exact .inr ⟨b, off, cap, he, by rw [setRow_size]; exact Nat.lt_of_lt_of_le hb hx.size, fun j q hq => range_setRow (rangeAt_ext (hr j q hq) hb hx) (by omega)⟩
theorem PastV.chg {base : Nat} {w w' : World} {u : Value} {ks : Keys16} (h : PastV base w u ks) (hc : Chg w.heap.size w w') : PastV base w' u ks := by
  obtain ⟨ad, n, c, rfl, h2, h3, ⟨h0, h4⟩, h5⟩ := h
  refine ⟨ad, n, c, rfl, h2, h3, ⟨h0, ?_⟩, h5.1, h5.2.keep fun _ a _ hl => hc.2 a.block hl⟩
  rcases h4 with h4 | ⟨b, off, cap, he, hb, hr⟩
  · exact .inl h4
  · refine .inr ⟨b, off, cap, he, Nat.lt_of_lt_of_le hb hc.1, fun j q hq i v hv => ?_⟩
    have := hr j q hq i v hv
    simp only [World.cell?] at this ⊢
    rw [hc.2 b hb]; exact this
set_option maxRecDepth 10000 in
set_option maxHeartbeats 6400000 in
theorem counts_main (l : List Slot) (ks ks2 : Keys16) (hl : Ring4 l) (ad : Option Addr) (c : Nat) (j N : Nat) (hj4 : j < 4) (hN : N ≤ 60) (k : List (BitVec 8)) (hk16 : k.length = 16) (w : World) (hs : PastV 0 w (.slice ad ks.length c) ks) (hg : (ks.length : Int) ≤ 40)
    (hI : installF l ks j k = ((l.set j (sentSlot k 0), ks2), 0)) (hR : RingOk (l.set j (sentSlot k 0)) ks2) (m : Nat) (hm1 : ks2.length = m + 1) (hm2 : ks2[m]? = some k) (hm3 : m < 16) :
    Calls Try.prog 6 #[.agg (cellsR l (.slice ad ks.length c)).toArray, .int .i64 j, .int .i64 N, .agg (k.map V8).toArray] w fun e w' => e = .returned (.bool true) ∧ Ext w w' := by
  have HGR := kp (fun w => great_any l hl ad ks.length c w)
  have HZ := kp (fun u => sizeR l u hl)
  have HZK := kp (sizeKy k hk16)
  have HS := kp hs
  have HL := kp hl
  have H16 := kp hk16
  have HAL := kp alive_any
  have HI := kp (fun w' (h : Ext w w') => install_any l hl (.slice ad ks.length c) ks 0 (by omega) j k hk16 w' (hs.ext h))
  rw [hI] at HI
  have HRI := kp (fun (i : Nat) => ring_set l hl j (sentSlot k i) ⟨hk16, rfl⟩)
  have HZI := kp (fun (i : Nat) u => sizeR (l.set j (sentSlot k i)) u (HRI.out i))
  have HOI := kp (fun (i : Nat) u (h : u.oneCell' = true) => one_cellsR (l.set j (sentSlot k i)) u h)
  have HLN0 := kp (fun (i : Nat) u => cellsR_len2 zeroSs (l.set j (sentSlot k i)) nilV u ring_zero (HRI.out i))
  have HLNI := kp (fun (i i' : Nat) u u' => cellsR_len2 (l.set j (sentSlot k i)) (l.set j (sentSlot k i')) u u' (HRI.out i) (HRI.out i'))
  have HOK := kp (fun (i : Nat) (hi : (i : Int) ≤ 281474976710655) => hR.sent (by rw [hl.1]; exact hj4) i hi)
  have HSE := kp (fun (i : Nat) (hi : (i : Int) < 281474976710655) u w' (hp : PastV 0 w' u ks2) => show Calls Try.prog 19 #[.agg (cellsR (l.set j (sentSlot k i)) u).toArray, .int .i64 j] w' (RetS ⟨k, (i : Int) + 1, l.set j (sentSlot k (i + 1)), ks2, 0⟩ w') by
    have h := send_any (l.set j (sentSlot k i)) (HRI.out i) u ks2 0 (by rw [hm1]; omega) j w' hp
    rwa [send_sent (HOK.out i (by omega)) hj4 hl.1 hi] at h)
  have HK0O := kp (all_V8 k)
  have HKL := kp (show (zeroK.map V8).length = (k.map V8).length by rw [List.length_map, List.length_map, hk16]; rfl)
  have HNE := kp (fun w => neKey w k k hk16 hk16)
  have HEQ := kp (fun w => eqKey w k k hk16 hk16)
  rw [show (k == k) = true by simp] at HEQ HNE
  have HM1 := kp hm1
  have HM2 := kp hm2
  have HRR := kp hR
  have H := kp (Loc.start w)
  have hne := HNE.out
  have heq := HEQ.out
  clear hs hl hk16 hI hR hm1 hm2 HNE HEQ
  go_enter Try.func6, Try.ntmps6
  generalize h7 : (Code.region 7 _ _ : Code) = R7
  generalize h14 : (Code.region 14 _ _ : Code) = R14
  generalize h19 : (Code.region 19 _ _ : Code) = R19
  go_wp2_with (first | ((with_reducible show wpList _ _ _ (Oper.mk (some 4) (Op.box 51 _) _ _ _ _ :: _) _ _); (with_reducible refine L_box H rfl 51 _ rfl (cellsR l (.slice ad ks.length c)) rfl ?_); clear H; intro g4 w4 HGg4 HEg4 H; simp only [Act.put, List.setIfInBounds_toArray, List.set_cons_zero, List.set_cons_succ]) | ((with_reducible show wpList _ _ _ (Oper.mk (some 7) (Op.box 45 _) _ _ _ _ :: _) _ _); (with_reducible refine L_box H rfl 45 _ rfl (k.map V8) rfl ?_); clear H; intro g7 w7 HGg7 HEg7 H; simp only [Act.put, List.setIfInBounds_toArray, List.set_cons_zero, List.set_cons_succ]) | ((with_reducible show wpList _ _ _ (Oper.mk _ (Op.load 51 _) _ _ _ _ :: _) _ _); (first | (refine L_load H rfl 51 _ rfl 0 rfl rfl Try.underlying51 rfl (HZ.out _) ?_) | (refine L_load H rfl 51 _ rfl 1 rfl rfl Try.underlying51 rfl (HZ.out _) ?_) | (refine L_load H rfl 51 _ rfl 2 rfl rfl Try.underlying51 rfl (HZ.out _) ?_) | (refine L_load H rfl 51 _ rfl 3 rfl rfl Try.underlying51 rfl (HZ.out _) ?_) | (refine L_load H rfl 51 _ rfl 4 rfl rfl Try.underlying51 rfl (HZ.out _) ?_) | (refine L_load H rfl 51 _ rfl 5 rfl rfl Try.underlying51 rfl (HZ.out _) ?_)); simp only [Act.put, List.setIfInBounds_toArray, List.set_cons_zero, List.set_cons_succ]) | (go_at_call 10; refine (HAL.out _).mono ?_; rintro e wa ⟨rfl, hx⟩; have H2 := kp (H.out.ext hx); have HXC := kp hx; clear H hx; have H := H2; clear H2) | (go_at_call 17; refine (HGR.out _).mono ?_; rintro e wa ⟨rfl, hx⟩; have H2 := kp (H.out.ext hx); have HXC := kp hx; clear H hx; have H := H2; clear H2) | ((with_reducible show wpList _ _ _ (Oper.mk _ (Op.load 45 _) _ _ _ _ :: _) _ _); (first | (refine L_load H rfl 45 _ rfl 0 rfl rfl Try.underlying45 rfl (HZK.out) ?_) | (refine L_load H rfl 45 _ rfl 1 rfl rfl Try.underlying45 rfl (HZK.out) ?_) | (refine L_load H rfl 45 _ rfl 2 rfl rfl Try.underlying45 rfl (HZK.out) ?_) | (refine L_load H rfl 45 _ rfl 3 rfl rfl Try.underlying45 rfl (HZK.out) ?_) | (refine L_load H rfl 45 _ rfl 4 rfl rfl Try.underlying45 rfl (HZK.out) ?_) | (refine L_load H rfl 45 _ rfl 5 rfl rfl Try.underlying45 rfl (HZK.out) ?_)); simp only [Act.put, List.setIfInBounds_toArray, List.set_cons_zero, List.set_cons_succ]))
  refine (HI.out _ H.out.1).mono ?_
  rintro e wi ⟨u, rfl, hpv, hx⟩
  dsimp only at hpv
  have HPV := kp (hpv.base (Nat.zero_le _))
  have HU1 := kp (slot_oneP hpv)
  clear hpv
  have H2 := kp (H.out.ext hx); have HXC := kp hx; clear H hx; have H := H2; clear H2
  dsimp only
  go_wp2_with (first | ((with_reducible show wpList _ _ _ (Oper.mk (some 10) (Op.alloc 51) _ _ _ _ :: _) _ _); (with_reducible refine L_alloc H rfl 51 rfl (zeroR) (fun _ _ => by kernel_rfl) ?_); clear H; intro g10 w10 HGg10 HEg10 H; simp only [Act.put, List.setIfInBounds_toArray, List.set_cons_zero, List.set_cons_succ]) | ((with_reducible show wpList _ _ _ (Oper.mk none (Op.store 51 _ _) _ _ _ _ :: _) _ _); (first | (refine L_store H rfl rfl 51 _ _ rfl 0 rfl rfl (cellsR (l.set j (sentSlot k 0)) u) rfl (HZI.out _ _) (HLN0.out _ _) (HOI.out _ _ HU1.out) ?_; clear H; intro wz HWwz H; simp only [List.set_cons_zero] at H) | (refine L_store H rfl rfl 51 _ _ rfl 1 rfl rfl (cellsR (l.set j (sentSlot k 0)) u) rfl (HZI.out _ _) (HLN0.out _ _) (HOI.out _ _ HU1.out) ?_; clear H; intro wz HWwz H; simp only [List.set_cons_succ, List.set_cons_zero] at H) | (refine L_store H rfl rfl 51 _ _ rfl 2 rfl rfl (cellsR (l.set j (sentSlot k 0)) u) rfl (HZI.out _ _) (HLN0.out _ _) (HOI.out _ _ HU1.out) ?_; clear H; intro wz HWwz H; simp only [List.set_cons_succ, List.set_cons_zero] at H) | (refine L_store H rfl rfl 51 _ _ rfl 3 rfl rfl (cellsR (l.set j (sentSlot k 0)) u) rfl (HZI.out _ _) (HLN0.out _ _) (HOI.out _ _ HU1.out) ?_; clear H; intro wz HWwz H; simp only [List.set_cons_succ, List.set_cons_zero] at H) | (refine L_store H rfl rfl 51 _ _ rfl 4 rfl rfl (cellsR (l.set j (sentSlot k 0)) u) rfl (HZI.out _ _) (HLN0.out _ _) (HOI.out _ _ HU1.out) ?_; clear H; intro wz HWwz H; simp only [List.set_cons_succ, List.set_cons_zero] at H) | (refine L_store H rfl rfl 51 _ _ rfl 5 rfl rfl (cellsR (l.set j (sentSlot k 0)) u) rfl (HZI.out _ _) (HLN0.out _ _) (HOI.out _ _ HU1.out) ?_; clear H; intro wz HWwz H; simp only [List.set_cons_succ, List.set_cons_zero] at H))))
  have HPZ := kp (HPV.out.wrote2 HEg10.out HWwz.out (by rw [HGg10.out]; exact Nat.le_refl _))
  clear HPV
  have h10n : (N : Int) ≤ 60 := by omega
  subst h7
  go_wp2_with fail
  go_loopw [12] (fun i wr => ∃ (q : Nat) (u : Value), q ≤ N ∧ i = .int .i64 ((q : Int) + 1) ∧ Kp (Loc w wr [(g10, 51, cellsR (l.set j (sentSlot k q)) u), (g7, 45, k.map V8), (g4, 51, cellsR l (.slice ad ks.length c))]) ∧ Kp (PastV 0 wr u ks2)) (fun i _ => N + 1 - (intOf i).toNat)
  case atStart => exact ⟨0, u, Nat.zero_le _, rfl, H, HPZ⟩
  case round =>
    obtain ⟨q, u, hq, rfl, H, HP⟩ := hrel
    by_cases hlt : q < N
    · have hle : (q : Int) + 1 ≤ N := by omega
      go_wp2_with (first | ((with_reducible show wpList _ _ _ (Oper.mk _ (Op.load 51 _) _ _ _ _ :: _) _ _); (first | (refine L_load H rfl 51 _ rfl 0 rfl rfl Try.underlying51 rfl (HZI.out _ _) ?_) | (refine L_load H rfl 51 _ rfl 1 rfl rfl Try.underlying51 rfl (HZI.out _ _) ?_) | (refine L_load H rfl 51 _ rfl 2 rfl rfl Try.underlying51 rfl (HZI.out _ _) ?_) | (refine L_load H rfl 51 _ rfl 3 rfl rfl Try.underlying51 rfl (HZI.out _ _) ?_) | (refine L_load H rfl 51 _ rfl 4 rfl rfl Try.underlying51 rfl (HZI.out _ _) ?_) | (refine L_load H rfl 51 _ rfl 5 rfl rfl Try.underlying51 rfl (HZI.out _ _) ?_)); simp only [Act.put, List.setIfInBounds_toArray, List.set_cons_zero, List.set_cons_succ]))
      refine (HSE.out q (by omega) u _ HP.out).mono ?_
      rintro e ws ⟨u2, rfl, hpv, hx⟩
      dsimp only at hpv
      have HPV := kp hpv
      have HU2 := kp (slot_oneP hpv)
      have HLT := kp (H.out.lt 0 rfl)
      clear hpv
      have H2 := kp (H.out.ext hx); have HXC := kp hx; clear H hx; have H := H2; clear H2
      dsimp only
      go_wp2_with (first | ((with_reducible show wpList _ _ _ (Oper.mk (some 13) (Op.alloc 45) _ _ _ _ :: _) _ _); (with_reducible refine L_alloc H rfl 45 rfl (zeroK.map V8) (fun _ _ => by kernel_rfl) ?_); clear H; intro g13 w13 HGg13 HEg13 H; simp only [Act.put, List.setIfInBounds_toArray, List.set_cons_zero, List.set_cons_succ]) | ((with_reducible show wpList _ _ _ (Oper.mk (some 15) (Op.alloc 51) _ _ _ _ :: _) _ _); (with_reducible refine L_alloc H rfl 51 rfl (zeroR) (fun _ _ => by kernel_rfl) ?_); clear H; intro g15 w15 HGg15 HEg15 H; simp only [Act.put, List.setIfInBounds_toArray, List.set_cons_zero, List.set_cons_succ]) | ((with_reducible show wpList _ _ _ (Oper.mk _ (Op.load 45 _) _ _ _ _ :: _) _ _); (first | (refine L_loadG H (by kernel_rfl) 45 _ rfl 0 rfl rfl Try.underlying45 rfl (HZK.out) ?_) | (refine L_loadG H (by kernel_rfl) 45 _ rfl 1 rfl rfl Try.underlying45 rfl (HZK.out) ?_) | (refine L_loadG H (by kernel_rfl) 45 _ rfl 2 rfl rfl Try.underlying45 rfl (HZK.out) ?_) | (refine L_loadG H (by kernel_rfl) 45 _ rfl 3 rfl rfl Try.underlying45 rfl (HZK.out) ?_) | (refine L_loadG H (by kernel_rfl) 45 _ rfl 4 rfl rfl Try.underlying45 rfl (HZK.out) ?_) | (refine L_loadG H (by kernel_rfl) 45 _ rfl 5 rfl rfl Try.underlying45 rfl (HZK.out) ?_)); simp only [Act.put, List.setIfInBounds_toArray, List.set_cons_zero, List.set_cons_succ]) | ((with_reducible show wpList _ _ _ (Oper.mk none (Op.store 45 _ _) _ _ _ _ :: _) _ _); (first | (refine L_store H rfl rfl 45 _ _ rfl 0 rfl rfl (k.map V8) rfl (HZK.out) (HKL.out) (HK0O.out) ?_; clear H; intro wk HWwk H; simp only [List.set_cons_zero] at H) | (refine L_store H rfl rfl 45 _ _ rfl 1 rfl rfl (k.map V8) rfl (HZK.out) (HKL.out) (HK0O.out) ?_; clear H; intro wk HWwk H; simp only [List.set_cons_succ, List.set_cons_zero] at H) | (refine L_store H rfl rfl 45 _ _ rfl 2 rfl rfl (k.map V8) rfl (HZK.out) (HKL.out) (HK0O.out) ?_; clear H; intro wk HWwk H; simp only [List.set_cons_succ, List.set_cons_zero] at H) | (refine L_store H rfl rfl 45 _ _ rfl 3 rfl rfl (k.map V8) rfl (HZK.out) (HKL.out) (HK0O.out) ?_; clear H; intro wk HWwk H; simp only [List.set_cons_succ, List.set_cons_zero] at H) | (refine L_store H rfl rfl 45 _ _ rfl 4 rfl rfl (k.map V8) rfl (HZK.out) (HKL.out) (HK0O.out) ?_; clear H; intro wk HWwk H; simp only [List.set_cons_succ, List.set_cons_zero] at H) | (refine L_store H rfl rfl 45 _ _ rfl 5 rfl rfl (k.map V8) rfl (HZK.out) (HKL.out) (HK0O.out) ?_; clear H; intro wk HWwk H; simp only [List.set_cons_succ, List.set_cons_zero] at H))) | ((with_reducible show wpList _ _ _ (Oper.mk _ (Op.load 51 _) _ _ _ _ :: _) _ _); (first | (refine L_load H rfl 51 _ rfl 0 rfl rfl Try.underlying51 rfl (HZI.out _ _) ?_) | (refine L_load H rfl 51 _ rfl 1 rfl rfl Try.underlying51 rfl (HZI.out _ _) ?_) | (refine L_load H rfl 51 _ rfl 2 rfl rfl Try.underlying51 rfl (HZI.out _ _) ?_) | (refine L_load H rfl 51 _ rfl 3 rfl rfl Try.underlying51 rfl (HZI.out _ _) ?_) | (refine L_load H rfl 51 _ rfl 4 rfl rfl Try.underlying51 rfl (HZI.out _ _) ?_) | (refine L_load H rfl 51 _ rfl 5 rfl rfl Try.underlying51 rfl (HZI.out _ _) ?_)); simp only [Act.put, List.setIfInBounds_toArray, List.set_cons_zero, List.set_cons_succ]) | ((with_reducible show wpList _ _ _ (Oper.mk none (Op.store 51 _ _) _ _ _ _ :: _) _ _); (first | (refine L_store H rfl rfl 51 _ _ rfl 0 rfl rfl (cellsR (l.set j (sentSlot k (q + 1))) u2) rfl (HZI.out _ _) (HLN0.out _ _) (HOI.out _ _ HU2.out) ?_; clear H; intro wz HWwz H; simp only [List.set_cons_zero] at H) | (refine L_store H rfl rfl 51 _ _ rfl 1 rfl rfl (cellsR (l.set j (sentSlot k (q + 1))) u2) rfl (HZI.out _ _) (HLN0.out _ _) (HOI.out _ _ HU2.out) ?_; clear H; intro wz HWwz H; simp only [List.set_cons_succ, List.set_cons_zero] at H) | (refine L_store H rfl rfl 51 _ _ rfl 2 rfl rfl (cellsR (l.set j (sentSlot k (q + 1))) u2) rfl (HZI.out _ _) (HLN0.out _ _) (HOI.out _ _ HU2.out) ?_; clear H; intro wz HWwz H; simp only [List.set_cons_succ, List.set_cons_zero] at H) | (refine L_store H rfl rfl 51 _ _ rfl 3 rfl rfl (cellsR (l.set j (sentSlot k (q + 1))) u2) rfl (HZI.out _ _) (HLN0.out _ _) (HOI.out _ _ HU2.out) ?_; clear H; intro wz HWwz H; simp only [List.set_cons_succ, List.set_cons_zero] at H) | (refine L_store H rfl rfl 51 _ _ rfl 4 rfl rfl (cellsR (l.set j (sentSlot k (q + 1))) u2) rfl (HZI.out _ _) (HLN0.out _ _) (HOI.out _ _ HU2.out) ?_; clear H; intro wz HWwz H; simp only [List.set_cons_succ, List.set_cons_zero] at H) | (refine L_store H rfl rfl 51 _ _ rfl 5 rfl rfl (cellsR (l.set j (sentSlot k (q + 1))) u2) rfl (HZI.out _ _) (HLN0.out _ _) (HOI.out _ _ HU2.out) ?_; clear H; intro wz HWwz H; simp only [List.set_cons_succ, List.set_cons_zero] at H))) | ((with_reducible show wpList _ _ _ (Oper.mk none (Op.store 51 _ _) _ _ _ _ :: _) _ _); (first | (refine L_store H rfl rfl 51 _ _ rfl 0 rfl rfl (cellsR (l.set j (sentSlot k (q + 1))) u2) rfl (HZI.out _ _) (HLNI.out _ _ _ _) (HOI.out _ _ HU2.out) ?_; clear H; intro wy HWwy H; simp only [List.set_cons_zero] at H) | (refine L_store H rfl rfl 51 _ _ rfl 1 rfl rfl (cellsR (l.set j (sentSlot k (q + 1))) u2) rfl (HZI.out _ _) (HLNI.out _ _ _ _) (HOI.out _ _ HU2.out) ?_; clear H; intro wy HWwy H; simp only [List.set_cons_succ, List.set_cons_zero] at H) | (refine L_store H rfl rfl 51 _ _ rfl 2 rfl rfl (cellsR (l.set j (sentSlot k (q + 1))) u2) rfl (HZI.out _ _) (HLNI.out _ _ _ _) (HOI.out _ _ HU2.out) ?_; clear H; intro wy HWwy H; simp only [List.set_cons_succ, List.set_cons_zero] at H) | (refine L_store H rfl rfl 51 _ _ rfl 3 rfl rfl (cellsR (l.set j (sentSlot k (q + 1))) u2) rfl (HZI.out _ _) (HLNI.out _ _ _ _) (HOI.out _ _ HU2.out) ?_; clear H; intro wy HWwy H; simp only [List.set_cons_succ, List.set_cons_zero] at H) | (refine L_store H rfl rfl 51 _ _ rfl 4 rfl rfl (cellsR (l.set j (sentSlot k (q + 1))) u2) rfl (HZI.out _ _) (HLNI.out _ _ _ _) (HOI.out _ _ HU2.out) ?_; clear H; intro wy HWwy H; simp only [List.set_cons_succ, List.set_cons_zero] at H) | (refine L_store H rfl rfl 51 _ _ rfl 5 rfl rfl (cellsR (l.set j (sentSlot k (q + 1))) u2) rfl (HZI.out _ _) (HLNI.out _ _ _ _) (HOI.out _ _ HU2.out) ?_; clear H; intro wy HWwy H; simp only [List.set_cons_succ, List.set_cons_zero] at H))))
      have HPY := kp ((HPV.out.chg ((((Chg.refl ws).ext (HEg13.out.trans HEg15.out)).wrote HWwk.out (Nat.le_of_eq HGg13.out.symm)).wrote HWwz.out (by rw [HGg15.out]; exact HEg13.out.size))).wrote HWwy.out HLT.out)
      have H3 := kp H.out.tail.tail
      clear H
      go_roundw
      case rel => exact ⟨q + 1, u2, by omega, by go_num, H3, kp (HPY.out.base (Nat.zero_le _))⟩
      case measure => simp [intOf]; omega
    · obtain rfl : q = N := by omega
      have hng : ¬ ((q : Int) + 1 ≤ q) := by omega
      subst h14
      go_wp2_with fail
      go_loopw [17] (fun i wv => ∃ p : Nat, p ≤ 4 ∧ i = .int .i64 p ∧ Kp (Loc w wv [(g10, 51, cellsR (l.set j (sentSlot k q)) u), (g7, 45, k.map V8), (g4, 51, cellsR l (.slice ad ks.length c))]) ∧ Kp (PastV 0 wv u ks2)) (fun i _ => 4 - (intOf i).toNat)
      case atStart => exact ⟨0, by omega, rfl, H, HP⟩
      case round =>
        obtain ⟨p, hp, rfl, H, HP⟩ := hrel
        by_cases hlt2 : (p : Int) < 4
        · by_cases hpj : p = j
          · subst hpj
            go_wp2_with fail
            refine region_free H (tabS [(80, fun zv _ => zv = .int .i64 p), (81, fun zv _ => zv = .int .i64 p), (82, fun zv _ => zv = .bool false), (83, fun zv _ => zv = .bool false), (84, fun zv _ => zv = undef), (85, fun zv _ => zv = undef), (86, fun zv _ => zv = undef), (87, fun zv _ => zv = undef), (88, fun zv _ => zv = undef), (89, fun zv _ => zv = undef), (90, fun zv _ => zv = undef), (91, fun zv _ => zv = undef), (92, fun zv _ => zv = undef), (93, fun zv _ => zv = .bool false)]) [] (tabS_out _ _ (by simp only [List.forall_mem_cons]; exact ⟨mono_eqO _ _, mono_eqO _ _, mono_eqO _ _, mono_eqO _ _, mono_eqO _ _, mono_eqO _ _, mono_eqO _ _, mono_eqO _ _, mono_eqO _ _, mono_eqO _ _, mono_eqO _ _, mono_eqO _ _, mono_eqO _ _, mono_eqO _ _, by simp⟩)) 14 (by kernel_rfl) (by kernel_rfl) (by kernel_rfl) (by kernel_rfl) [] [] rfl rfl (by decide) (by decide) (by decide) trivial ?_
            simp only [List.take_succ_cons, List.take_zero]
            refine ⟨fun wv80 hov80 hSv80 => ?_, fun v80 => ?_⟩
            · clear hSv80
              clear hov80
              go_wp2_with fail
              exact ⟨rfl, _, rfl, fun d hd => by cases hd; exact rfl, Ext.refl _⟩
            simp only [Act.put, List.setIfInBounds_toArray, List.set_cons_zero, List.set_cons_succ]
            refine ⟨fun wv81 hov81 hSv81 => ?_, fun v81 => ?_⟩
            · clear hSv81
              clear hov81
              go_wp2_with fail
              exact ⟨rfl, _, rfl, fun d hd => by cases hd; exact rfl, Ext.refl _⟩
            simp only [Act.put, List.setIfInBounds_toArray, List.set_cons_zero, List.set_cons_succ]
            refine ⟨fun wv82 hov82 hSv82 => ?_, fun v82 => ?_⟩
            · obtain rfl : v80 = .int .i64 p := hSv82 80 (by decide) (by decide)
              obtain rfl : v81 = .int .i64 p := hSv82 81 (by decide) (by decide)
              clear hSv82
              clear hov82
              go_wp2_with fail
              exact ⟨rfl, _, rfl, fun d hd => by cases hd; exact rfl, Ext.refl _⟩
            simp only [Act.put, List.setIfInBounds_toArray, List.set_cons_zero, List.set_cons_succ]
            refine ⟨fun wv83 hov83 hSv83 => ?_, fun v83 => ?_⟩
            · obtain rfl : v82 = .bool false := hSv83 82 (by decide) (by decide)
              clear hSv83
              clear hov83
              go_wp2_with fail
              exact ⟨rfl, _, rfl, fun d hd => by cases hd; exact rfl, Ext.refl _⟩
            simp only [Act.put, List.setIfInBounds_toArray, List.set_cons_zero, List.set_cons_succ]
            refine ⟨fun wv84 hov84 hSv84 => ?_, fun v84 => ?_⟩
            · obtain rfl : v83 = .bool false := hSv84 83 (by decide) (by decide)
              clear hSv84
              clear hov84
              go_wp2_with fail
              exact ⟨rfl, _, rfl, fun d hd => by cases hd; exact rfl, Ext.refl _⟩
            simp only [Act.put, List.setIfInBounds_toArray, List.set_cons_zero, List.set_cons_succ]
            refine ⟨fun wv85 hov85 hSv85 => ?_, fun v85 => ?_⟩
            · obtain rfl : v83 = .bool false := hSv85 83 (by decide) (by decide)
              clear hSv85
              clear hov85
              go_wp2_with fail
              exact ⟨rfl, _, rfl, fun d hd => by cases hd; exact rfl, Ext.refl _⟩
            simp only [Act.put, List.setIfInBounds_toArray, List.set_cons_zero, List.set_cons_succ]
            refine ⟨fun wv86 hov86 hSv86 => ?_, fun v86 => ?_⟩
            · obtain rfl : v83 = .bool false := hSv86 83 (by decide) (by decide)
              clear hSv86
              clear hov86
              go_wp2_with fail
              exact ⟨rfl, _, rfl, fun d hd => by cases hd; exact rfl, Ext.refl _⟩
            simp only [Act.put, List.setIfInBounds_toArray, List.set_cons_zero, List.set_cons_succ]
            refine ⟨fun wv87 hov87 hSv87 => ?_, fun v87 => ?_⟩
            · obtain rfl : v83 = .bool false := hSv87 83 (by decide) (by decide)
              clear hSv87
              clear hov87
              go_wp2_with fail
              exact ⟨rfl, _, rfl, fun d hd => by cases hd; exact rfl, Ext.refl _⟩
            simp only [Act.put, List.setIfInBounds_toArray, List.set_cons_zero, List.set_cons_succ]
            refine ⟨fun wv88 hov88 hSv88 => ?_, fun v88 => ?_⟩
            · obtain rfl : v83 = .bool false := hSv88 83 (by decide) (by decide)
              clear hSv88
              clear hov88
              go_wp2_with fail
              exact ⟨rfl, _, rfl, fun d hd => by cases hd; exact rfl, Ext.refl _⟩
            simp only [Act.put, List.setIfInBounds_toArray, List.set_cons_zero, List.set_cons_succ]
            refine ⟨fun wv89 hov89 hSv89 => ?_, fun v89 => ?_⟩
            · obtain rfl : v83 = .bool false := hSv89 83 (by decide) (by decide)
              clear hSv89
              clear hov89
              go_wp2_with fail
              exact ⟨rfl, _, rfl, fun d hd => by cases hd; exact rfl, Ext.refl _⟩
            simp only [Act.put, List.setIfInBounds_toArray, List.set_cons_zero, List.set_cons_succ]
            refine ⟨fun wv90 hov90 hSv90 => ?_, fun v90 => ?_⟩
            · obtain rfl : v83 = .bool false := hSv90 83 (by decide) (by decide)
              clear hSv90
              clear hov90
              go_wp2_with fail
              exact ⟨rfl, _, rfl, fun d hd => by cases hd; exact rfl, Ext.refl _⟩
            simp only [Act.put, List.setIfInBounds_toArray, List.set_cons_zero, List.set_cons_succ]
            refine ⟨fun wv91 hov91 hSv91 => ?_, fun v91 => ?_⟩
            · obtain rfl : v83 = .bool false := hSv91 83 (by decide) (by decide)
              clear hSv91
              clear hov91
              go_wp2_with fail
              exact ⟨rfl, _, rfl, fun d hd => by cases hd; exact rfl, Ext.refl _⟩
            simp only [Act.put, List.setIfInBounds_toArray, List.set_cons_zero, List.set_cons_succ]
            refine ⟨fun wv92 hov92 hSv92 => ?_, fun v92 => ?_⟩
            · obtain rfl : v83 = .bool false := hSv92 83 (by decide) (by decide)
              clear hSv92
              clear hov92
              go_wp2_with fail
              exact ⟨rfl, _, rfl, fun d hd => by cases hd; exact rfl, Ext.refl _⟩
            simp only [Act.put, List.setIfInBounds_toArray, List.set_cons_zero, List.set_cons_succ]
            refine ⟨fun wv93 hov93 hSv93 => ?_, fun v93 => ?_⟩
            · obtain rfl : v83 = .bool false := hSv93 83 (by decide) (by decide)
              clear hSv93
              clear hov93
              go_wp2_with fail
              exact ⟨rfl, _, rfl, fun d hd => by cases hd; exact rfl, Ext.refl _⟩
            simp only [Act.put, List.setIfInBounds_toArray, List.set_cons_zero, List.set_cons_succ]
            clear H
            intro wn HOX H hfin
            obtain rfl : v80 = .int .i64 p := hfin 80 (by decide)
            obtain rfl : v81 = .int .i64 p := hfin 81 (by decide)
            obtain rfl : v82 = .bool false := hfin 82 (by decide)
            obtain rfl : v83 = .bool false := hfin 83 (by decide)
            obtain rfl : v84 = undef := hfin 84 (by decide)
            obtain rfl : v85 = undef := hfin 85 (by decide)
            obtain rfl : v86 = undef := hfin 86 (by decide)
            obtain rfl : v87 = undef := hfin 87 (by decide)
            obtain rfl : v88 = undef := hfin 88 (by decide)
            obtain rfl : v89 = undef := hfin 89 (by decide)
            obtain rfl : v90 = undef := hfin 90 (by decide)
            obtain rfl : v91 = undef := hfin 91 (by decide)
            obtain rfl : v92 = undef := hfin 92 (by decide)
            obtain rfl : v93 = .bool false := hfin 93 (by decide)
            clear hfin
            simp only [List.drop_succ_cons, List.drop_zero]
            simp only [applyS] at H
            have HXN := kp (HOX.out.ext (Ext.refl wr) (fun g hg => by cases hg))
            have HPN := kp (HP.out.ext HXN.out)
            go_wp2_with fail
            go_roundw
            case rel => exact ⟨p + 1, by omega, by go_num, H, HPN⟩
            case measure => simp [intOf]; omega
          · obtain ⟨s, hps⟩ : ∃ s, l[p]? = some s := ⟨l[p]'(by rw [HL.out.1]; omega), by simp⟩
            have HPS2 := kp (show (l.set j (sentSlot k q))[p]? = some s by rw [List.getElem?_set, if_neg (fun e => hpj e.symm)]; exact hps)
            have HSO := kp (HL.out.2 s (List.mem_of_getElem? hps))
            have HPS := kp hps
            have hpn : ((p : Int) != (j : Int)) = true := by rw [bne_iff_ne]; omega
            have HA := kp (show ((cellsR (l.set j (sentSlot k q)) u).drop (p * 36)).take (cellsS s).length = cellsS s by rw [cellsS_len s HSO.out]; exact cellsR_slots _ u p s (HRI.out q) HPS2.out)
            have HB := kp (show ((cellsR l (.slice ad ks.length c)).drop (p * 36)).take (cellsS s).length = cellsS s by rw [cellsS_len s HSO.out]; exact cellsR_slots _ _ p s HL.out HPS.out)
            have HZS := kp (sizeSl s HSO.out)
            have hns := fun w => neSlot w s s HSO.out HSO.out
            rw [(slotEq_iff s s).2 rfl] at hns
            clear hps
            go_wp2_with fail
            refine region_free H (tabS [(80, fun zv _ => zv = .int .i64 p), (81, fun zv _ => zv = .int .i64 j), (82, fun zv _ => zv = .bool true), (83, fun zv _ => zv = .bool true), (84, fun zv _ => zv = .int .i64 p), (85, fun zv _ => zv = .pointer (some ⟨g10, 0, none⟩)), (86, fun zv _ => zv = .pointer (some ⟨g10, p * 36, none⟩)), (87, fun zv _ => zv = .agg (cellsS s).toArray), (88, fun zv _ => zv = .int .i64 p), (89, fun zv _ => zv = .pointer (some ⟨g4, 0, none⟩)), (90, fun zv _ => zv = .pointer (some ⟨g4, p * 36, none⟩)), (91, fun zv _ => zv = .agg (cellsS s).toArray), (92, fun zv _ => zv = .bool false), (93, fun zv _ => zv = .bool false)]) [] (tabS_out _ _ (by simp only [List.forall_mem_cons]; exact ⟨mono_eqO _ _, mono_eqO _ _, mono_eqO _ _, mono_eqO _ _, mono_eqO _ _, mono_eqO _ _, mono_eqO _ _, mono_eqO _ _, mono_eqO _ _, mono_eqO _ _, mono_eqO _ _, mono_eqO _ _, mono_eqO _ _, mono_eqO _ _, by simp⟩)) 14 (by kernel_rfl) (by kernel_rfl) (by kernel_rfl) (by kernel_rfl) [] [] rfl rfl (by decide) (by decide) (by decide) trivial ?_
            simp only [List.take_succ_cons, List.take_zero]
            refine ⟨fun wv80 hov80 hSv80 => ?_, fun v80 => ?_⟩
            · clear hSv80
              clear hov80
              go_wp2_with fail
              exact ⟨rfl, _, rfl, fun d hd => by cases hd; exact rfl, Ext.refl _⟩
            simp only [Act.put, List.setIfInBounds_toArray, List.set_cons_zero, List.set_cons_succ]
            refine ⟨fun wv81 hov81 hSv81 => ?_, fun v81 => ?_⟩
            · clear hSv81
              clear hov81
              go_wp2_with fail
              exact ⟨rfl, _, rfl, fun d hd => by cases hd; exact rfl, Ext.refl _⟩
            simp only [Act.put, List.setIfInBounds_toArray, List.set_cons_zero, List.set_cons_succ]
            refine ⟨fun wv82 hov82 hSv82 => ?_, fun v82 => ?_⟩
            · obtain rfl : v80 = .int .i64 p := hSv82 80 (by decide) (by decide)
              obtain rfl : v81 = .int .i64 j := hSv82 81 (by decide) (by decide)
              clear hSv82
              clear hov82
              go_wp2_with fail
              exact ⟨rfl, _, rfl, fun d hd => by cases hd; exact rfl, Ext.refl _⟩
            simp only [Act.put, List.setIfInBounds_toArray, List.set_cons_zero, List.set_cons_succ]
            refine ⟨fun wv83 hov83 hSv83 => ?_, fun v83 => ?_⟩
            · obtain rfl : v82 = .bool true := hSv83 82 (by decide) (by decide)
              clear hSv83
              clear hov83
              go_wp2_with fail
              exact ⟨rfl, _, rfl, fun d hd => by cases hd; exact rfl, Ext.refl _⟩
            simp only [Act.put, List.setIfInBounds_toArray, List.set_cons_zero, List.set_cons_succ]
            refine ⟨fun wv84 hov84 hSv84 => ?_, fun v84 => ?_⟩
            · obtain rfl : v83 = .bool true := hSv84 83 (by decide) (by decide)
              clear hSv84
              clear hov84
              go_wp2_with fail
              exact ⟨rfl, _, rfl, fun d hd => by cases hd; exact rfl, Ext.refl _⟩
            simp only [Act.put, List.setIfInBounds_toArray, List.set_cons_zero, List.set_cons_succ]
            refine ⟨fun wv85 hov85 hSv85 => ?_, fun v85 => ?_⟩
            · obtain rfl : v83 = .bool true := hSv85 83 (by decide) (by decide)
              clear hSv85
              clear hov85
              go_wp2_with fail
              exact ⟨rfl, _, rfl, fun d hd => by cases hd; exact rfl, Ext.refl _⟩
            simp only [Act.put, List.setIfInBounds_toArray, List.set_cons_zero, List.set_cons_succ]
            refine ⟨fun wv86 hov86 hSv86 => ?_, fun v86 => ?_⟩
            · obtain rfl : v83 = .bool true := hSv86 83 (by decide) (by decide)
              obtain rfl : v84 = .int .i64 p := hSv86 84 (by decide) (by decide)
              obtain rfl : v85 = .pointer (some ⟨g10, 0, none⟩) := hSv86 85 (by decide) (by decide)
              clear hSv86
              clear hov86
              go_wp2_with fail
              exact ⟨rfl, _, rfl, fun d hd => by cases hd; exact rfl, Ext.refl _⟩
            simp only [Act.put, List.setIfInBounds_toArray, List.set_cons_zero, List.set_cons_succ]
            refine ⟨fun wv87 hov87 hSv87 => ?_, fun v87 => ?_⟩
            · obtain rfl : v83 = .bool true := hSv87 83 (by decide) (by decide)
              obtain rfl : v86 = .pointer (some ⟨g10, p * 36, none⟩) := hSv87 86 (by decide) (by decide)
              clear hSv87
              have H := kp (H.out.keep [0, 1, 2] (St := []) trivial hov87 (by decide) (by kernel_rfl))
              have HOX := kp hov87
              clear hov87
              go_wp2_with ((with_reducible show wpList _ _ _ (Oper.mk _ (Op.load 47 _) _ _ _ _ :: _) _ _); (first | (refine L_subG H (by kernel_rfl) 47 _ rfl 0 rfl (p * 36) rfl (cellsS s) (HA.out) Try.underlying47 rfl (HZS.out) ?_) | (refine L_subG H (by kernel_rfl) 47 _ rfl 1 rfl (p * 36) rfl (cellsS s) (HA.out) Try.underlying47 rfl (HZS.out) ?_) | (refine L_subG H (by kernel_rfl) 47 _ rfl 2 rfl (p * 36) rfl (cellsS s) (HA.out) Try.underlying47 rfl (HZS.out) ?_) | (refine L_subG H (by kernel_rfl) 47 _ rfl 3 rfl (p * 36) rfl (cellsS s) (HA.out) Try.underlying47 rfl (HZS.out) ?_) | (refine L_subG H (by kernel_rfl) 47 _ rfl 4 rfl (p * 36) rfl (cellsS s) (HA.out) Try.underlying47 rfl (HZS.out) ?_) | (refine L_subG H (by kernel_rfl) 47 _ rfl 5 rfl (p * 36) rfl (cellsS s) (HA.out) Try.underlying47 rfl (HZS.out) ?_)); simp only [Act.put, List.setIfInBounds_toArray, List.set_cons_zero, List.set_cons_succ])
              exact ⟨rfl, _, rfl, fun d hd => by cases hd; exact rfl, Ext.refl _⟩
            simp only [Act.put, List.setIfInBounds_toArray, List.set_cons_zero, List.set_cons_succ]
            refine ⟨fun wv88 hov88 hSv88 => ?_, fun v88 => ?_⟩
            · obtain rfl : v83 = .bool true := hSv88 83 (by decide) (by decide)
              clear hSv88
              clear hov88
              go_wp2_with fail
              exact ⟨rfl, _, rfl, fun d hd => by cases hd; exact rfl, Ext.refl _⟩
            simp only [Act.put, List.setIfInBounds_toArray, List.set_cons_zero, List.set_cons_succ]
            refine ⟨fun wv89 hov89 hSv89 => ?_, fun v89 => ?_⟩
            · obtain rfl : v83 = .bool true := hSv89 83 (by decide) (by decide)
              clear hSv89
              clear hov89
              go_wp2_with fail
              exact ⟨rfl, _, rfl, fun d hd => by cases hd; exact rfl, Ext.refl _⟩
            simp only [Act.put, List.setIfInBounds_toArray, List.set_cons_zero, List.set_cons_succ]
            refine ⟨fun wv90 hov90 hSv90 => ?_, fun v90 => ?_⟩
            · obtain rfl : v83 = .bool true := hSv90 83 (by decide) (by decide)
              obtain rfl : v88 = .int .i64 p := hSv90 88 (by decide) (by decide)
              obtain rfl : v89 = .pointer (some ⟨g4, 0, none⟩) := hSv90 89 (by decide) (by decide)
              clear hSv90
              clear hov90
              go_wp2_with fail
              exact ⟨rfl, _, rfl, fun d hd => by cases hd; exact rfl, Ext.refl _⟩
            simp only [Act.put, List.setIfInBounds_toArray, List.set_cons_zero, List.set_cons_succ]
            refine ⟨fun wv91 hov91 hSv91 => ?_, fun v91 => ?_⟩
            · obtain rfl : v83 = .bool true := hSv91 83 (by decide) (by decide)
              obtain rfl : v90 = .pointer (some ⟨g4, p * 36, none⟩) := hSv91 90 (by decide) (by decide)
              clear hSv91
              have H := kp (H.out.keep [0, 1, 2] (St := []) trivial hov91 (by decide) (by kernel_rfl))
              have HOX := kp hov91
              clear hov91
              go_wp2_with ((with_reducible show wpList _ _ _ (Oper.mk _ (Op.load 47 _) _ _ _ _ :: _) _ _); (first | (refine L_subG H (by kernel_rfl) 47 _ rfl 0 rfl (p * 36) rfl (cellsS s) (HB.out) Try.underlying47 rfl (HZS.out) ?_) | (refine L_subG H (by kernel_rfl) 47 _ rfl 1 rfl (p * 36) rfl (cellsS s) (HB.out) Try.underlying47 rfl (HZS.out) ?_) | (refine L_subG H (by kernel_rfl) 47 _ rfl 2 rfl (p * 36) rfl (cellsS s) (HB.out) Try.underlying47 rfl (HZS.out) ?_) | (refine L_subG H (by kernel_rfl) 47 _ rfl 3 rfl (p * 36) rfl (cellsS s) (HB.out) Try.underlying47 rfl (HZS.out) ?_) | (refine L_subG H (by kernel_rfl) 47 _ rfl 4 rfl (p * 36) rfl (cellsS s) (HB.out) Try.underlying47 rfl (HZS.out) ?_) | (refine L_subG H (by kernel_rfl) 47 _ rfl 5 rfl (p * 36) rfl (cellsS s) (HB.out) Try.underlying47 rfl (HZS.out) ?_)); simp only [Act.put, List.setIfInBounds_toArray, List.set_cons_zero, List.set_cons_succ])
              exact ⟨rfl, _, rfl, fun d hd => by cases hd; exact rfl, Ext.refl _⟩
            simp only [Act.put, List.setIfInBounds_toArray, List.set_cons_zero, List.set_cons_succ]
            refine ⟨fun wv92 hov92 hSv92 => ?_, fun v92 => ?_⟩
            · obtain rfl : v83 = .bool true := hSv92 83 (by decide) (by decide)
              obtain rfl : v87 = .agg (cellsS s).toArray := hSv92 87 (by decide) (by decide)
              obtain rfl : v91 = .agg (cellsS s).toArray := hSv92 91 (by decide) (by decide)
              clear hSv92
              clear hov92
              go_wp2_with fail
              exact ⟨rfl, _, rfl, fun d hd => by cases hd; exact rfl, Ext.refl _⟩
            simp only [Act.put, List.setIfInBounds_toArray, List.set_cons_zero, List.set_cons_succ]
            refine ⟨fun wv93 hov93 hSv93 => ?_, fun v93 => ?_⟩
            · obtain rfl : v83 = .bool true := hSv93 83 (by decide) (by decide)
              obtain rfl : v92 = .bool false := hSv93 92 (by decide) (by decide)
              clear hSv93
              clear hov93
              go_wp2_with fail
              exact ⟨rfl, _, rfl, fun d hd => by cases hd; exact rfl, Ext.refl _⟩
            simp only [Act.put, List.setIfInBounds_toArray, List.set_cons_zero, List.set_cons_succ]
            clear H
            intro wn HOX H hfin
            obtain rfl : v80 = .int .i64 p := hfin 80 (by decide)
            obtain rfl : v81 = .int .i64 j := hfin 81 (by decide)
            obtain rfl : v82 = .bool true := hfin 82 (by decide)
            obtain rfl : v83 = .bool true := hfin 83 (by decide)
            obtain rfl : v84 = .int .i64 p := hfin 84 (by decide)
            obtain rfl : v85 = .pointer (some ⟨g10, 0, none⟩) := hfin 85 (by decide)
            obtain rfl : v86 = .pointer (some ⟨g10, p * 36, none⟩) := hfin 86 (by decide)
            obtain rfl : v87 = .agg (cellsS s).toArray := hfin 87 (by decide)
            obtain rfl : v88 = .int .i64 p := hfin 88 (by decide)
            obtain rfl : v89 = .pointer (some ⟨g4, 0, none⟩) := hfin 89 (by decide)
            obtain rfl : v90 = .pointer (some ⟨g4, p * 36, none⟩) := hfin 90 (by decide)
            obtain rfl : v91 = .agg (cellsS s).toArray := hfin 91 (by decide)
            obtain rfl : v92 = .bool false := hfin 92 (by decide)
            obtain rfl : v93 = .bool false := hfin 93 (by decide)
            clear hfin
            simp only [List.drop_succ_cons, List.drop_zero]
            simp only [applyS] at H
            have HXN := kp (HOX.out.ext (Ext.refl wr) (fun g hg => by cases hg))
            have HPN := kp (HP.out.ext HXN.out)
            go_wp2_with fail
            go_roundw
            case rel => exact ⟨p + 1, by omega, by go_num, H, HPN⟩
            case measure => simp [intOf]; omega
        · obtain rfl : p = 4 := by omega
          go_wp2_with fail
          obtain ⟨ad2, n2, c2, rfl, hn2, hc2, hsy, _⟩ := HP.out
          have hnm : n2 = m + 1 := hn2.trans HM1.out
          subst hnm
          obtain ⟨b2, off2, hat⟩ : ∃ b off, ad2 = some ⟨b, off, none⟩ ∧ b < wr.heap.size ∧ wr.rangeAt b (off + m * 16) (k.map V8) := by
            obtain ⟨_, b, off, h1, h2, h3⟩ := hsy.at m k HM2.out
            exact ⟨b, off, h1, h2, h3⟩
          obtain ⟨rfl, hb2, hr2⟩ := hat
          have HR2 := kp hr2
          have HB2 := kp hb2
          have HZQ := kp (sizeKl k H16.out)
          have HPC := kp (cellsR_past (l.set j (sentSlot k q)) (.slice (some ⟨b2, off2, none⟩) (m + 1) c2) (HRI.out q))
          have HCK := kp (fun w' (h : Ext wr w') => checkRing_any (l.set j (sentSlot k q)) (HRI.out q) (some ⟨b2, off2, none⟩) (m + 1) c2 ks2 HM1.out.symm (by omega) hc2 w' (hsy.ext h))
          rw [(ringOk_iff _ _).2 (HOK.out q (by omega))] at HCK
          clear hn2 hsy hr2 hb2 HP
          have hm0 : (0 : Int) ≤ m := by omega
          have hmm : (m : Int) < (m + 1 : Nat) := by omega
          subst h19
          refine region_free H (tabS [(94, fun zv _ => zv = .bool true), (95, fun zv _ => zv = .bool true), (96, fun zv _ => zv = .pointer (some ⟨g10, 144, none⟩)), (97, fun zv _ => zv = .slice (some ⟨b2, off2, none⟩) (m + 1) c2), (98, fun zv _ => zv = .int .i64 (m + 1 : Nat)), (99, fun zv _ => zv = .bool true), (100, fun zv _ => zv = .bool true), (101, fun zv _ => zv = .bool true), (102, fun zv _ => zv = .pointer (some ⟨g10, 144, none⟩)), (103, fun zv _ => zv = .slice (some ⟨b2, off2, none⟩) (m + 1) c2), (104, fun zv _ => zv = .pointer (some ⟨g10, 144, none⟩)), (105, fun zv _ => zv = .slice (some ⟨b2, off2, none⟩) (m + 1) c2), (106, fun zv _ => zv = .int .i64 (m + 1 : Nat)), (107, fun zv _ => zv = .int .i64 m), (108, fun zv _ => zv = .pointer (some ⟨b2, off2 + m * 16, none⟩)), (109, fun zv _ => zv = .agg (k.map V8).toArray), (110, fun zv _ => zv = .agg (k.map V8).toArray), (111, fun zv _ => zv = .bool true), (112, fun zv _ => zv = .bool true), (113, fun zv _ => zv = .bool true), (114, fun zv _ => zv = .agg (cellsR (l.set j (sentSlot k q)) (.slice (some ⟨b2, off2, none⟩) (m + 1) c2)).toArray), (115, fun zv _ => zv = .int .i64 0), (116, fun zv _ => zv = .bool true), (117, fun zv _ => zv = .bool true), (8, fun zv _ => zv = .bool true)]) [] (tabS_out _ _ (by simp only [List.forall_mem_cons]; exact ⟨mono_eqO _ _, mono_eqO _ _, mono_eqO _ _, mono_eqO _ _, mono_eqO _ _, mono_eqO _ _, mono_eqO _ _, mono_eqO _ _, mono_eqO _ _, mono_eqO _ _, mono_eqO _ _, mono_eqO _ _, mono_eqO _ _, mono_eqO _ _, mono_eqO _ _, mono_eqO _ _, mono_eqO _ _, mono_eqO _ _, mono_eqO _ _, mono_eqO _ _, mono_eqO _ _, mono_eqO _ _, mono_eqO _ _, mono_eqO _ _, mono_eqO _ _, by simp⟩)) 25 (by kernel_rfl) (by kernel_rfl) (by kernel_rfl) (by kernel_rfl) [] [] rfl rfl (by decide) (by decide) (by decide) trivial ?_
          simp only [List.take_succ_cons, List.take_zero]
          refine ⟨fun wv94 hov94 hSv94 => ?_, fun v94 => ?_⟩
          · clear hSv94
            clear hov94
            go_wp2_with fail
            exact ⟨rfl, _, rfl, fun d hd => by cases hd; exact rfl, Ext.refl _⟩
          simp only [Act.put, List.setIfInBounds_toArray, List.set_cons_zero, List.set_cons_succ]
          refine ⟨fun wv95 hov95 hSv95 => ?_, fun v95 => ?_⟩
          · obtain rfl : v94 = .bool true := hSv95 94 (by decide) (by decide)
            clear hSv95
            clear hov95
            go_wp2_with fail
            exact ⟨rfl, _, rfl, fun d hd => by cases hd; exact rfl, Ext.refl _⟩
          simp only [Act.put, List.setIfInBounds_toArray, List.set_cons_zero, List.set_cons_succ]
          refine ⟨fun wv96 hov96 hSv96 => ?_, fun v96 => ?_⟩
          · obtain rfl : v95 = .bool true := hSv96 95 (by decide) (by decide)
            clear hSv96
            clear hov96
            go_wp2_with fail
            exact ⟨rfl, _, rfl, fun d hd => by cases hd; exact rfl, Ext.refl _⟩
          simp only [Act.put, List.setIfInBounds_toArray, List.set_cons_zero, List.set_cons_succ]
          refine ⟨fun wv97 hov97 hSv97 => ?_, fun v97 => ?_⟩
          · obtain rfl : v95 = .bool true := hSv97 95 (by decide) (by decide)
            obtain rfl : v96 = .pointer (some ⟨g10, 144, none⟩) := hSv97 96 (by decide) (by decide)
            clear hSv97
            have H := kp (H.out.keep [0, 1, 2] (St := []) trivial hov97 (by decide) (by kernel_rfl))
            have HOX := kp hov97
            clear hov97
            have hc := run_load_cell H.out 0 rfl _ _ HPC.out
            go_wp2_with fail
            exact ⟨rfl, _, rfl, fun d hd => by cases hd; exact rfl, Ext.refl _⟩
          simp only [Act.put, List.setIfInBounds_toArray, List.set_cons_zero, List.set_cons_succ]
          refine ⟨fun wv98 hov98 hSv98 => ?_, fun v98 => ?_⟩
          · obtain rfl : v95 = .bool true := hSv98 95 (by decide) (by decide)
            obtain rfl : v97 = .slice (some ⟨b2, off2, none⟩) (m + 1) c2 := hSv98 97 (by decide) (by decide)
            clear hSv98
            clear hov98
            go_wp2_with fail
            exact ⟨rfl, _, rfl, fun d hd => by cases hd; exact rfl, Ext.refl _⟩
          simp only [Act.put, List.setIfInBounds_toArray, List.set_cons_zero, List.set_cons_succ]
          refine ⟨fun wv99 hov99 hSv99 => ?_, fun v99 => ?_⟩
          · obtain rfl : v95 = .bool true := hSv99 95 (by decide) (by decide)
            obtain rfl : v98 = .int .i64 (m + 1 : Nat) := hSv99 98 (by decide) (by decide)
            clear hSv99
            clear hov99
            go_wp2_with fail
            exact ⟨rfl, _, rfl, fun d hd => by cases hd; exact rfl, Ext.refl _⟩
          simp only [Act.put, List.setIfInBounds_toArray, List.set_cons_zero, List.set_cons_succ]
          refine ⟨fun wv100 hov100 hSv100 => ?_, fun v100 => ?_⟩
          · obtain rfl : v95 = .bool true := hSv100 95 (by decide) (by decide)
            obtain rfl : v99 = .bool true := hSv100 99 (by decide) (by decide)
            clear hSv100
            clear hov100
            go_wp2_with fail
            exact ⟨rfl, _, rfl, fun d hd => by cases hd; exact rfl, Ext.refl _⟩
          simp only [Act.put, List.setIfInBounds_toArray, List.set_cons_zero, List.set_cons_succ]
          refine ⟨fun wv101 hov101 hSv101 => ?_, fun v101 => ?_⟩
          · obtain rfl : v100 = .bool true := hSv101 100 (by decide) (by decide)
            clear hSv101
            clear hov101
            go_wp2_with fail
            exact ⟨rfl, _, rfl, fun d hd => by cases hd; exact rfl, Ext.refl _⟩
          simp only [Act.put, List.setIfInBounds_toArray, List.set_cons_zero, List.set_cons_succ]
          refine ⟨fun wv102 hov102 hSv102 => ?_, fun v102 => ?_⟩
          · obtain rfl : v101 = .bool true := hSv102 101 (by decide) (by decide)
            clear hSv102
            clear hov102
            go_wp2_with fail
            exact ⟨rfl, _, rfl, fun d hd => by cases hd; exact rfl, Ext.refl _⟩
          simp only [Act.put, List.setIfInBounds_toArray, List.set_cons_zero, List.set_cons_succ]
          refine ⟨fun wv103 hov103 hSv103 => ?_, fun v103 => ?_⟩
          · obtain rfl : v101 = .bool true := hSv103 101 (by decide) (by decide)
            obtain rfl : v102 = .pointer (some ⟨g10, 144, none⟩) := hSv103 102 (by decide) (by decide)
            clear hSv103
            have H := kp (H.out.keep [0, 1, 2] (St := []) trivial hov103 (by decide) (by kernel_rfl))
            have HOX := kp hov103
            clear hov103
            have hc := run_load_cell H.out 0 rfl _ _ HPC.out
            go_wp2_with fail
            exact ⟨rfl, _, rfl, fun d hd => by cases hd; exact rfl, Ext.refl _⟩
          simp only [Act.put, List.setIfInBounds_toArray, List.set_cons_zero, List.set_cons_succ]
          refine ⟨fun wv104 hov104 hSv104 => ?_, fun v104 => ?_⟩
          · obtain rfl : v101 = .bool true := hSv104 101 (by decide) (by decide)
            clear hSv104
            clear hov104
            go_wp2_with fail
            exact ⟨rfl, _, rfl, fun d hd => by cases hd; exact rfl, Ext.refl _⟩
          simp only [Act.put, List.setIfInBounds_toArray, List.set_cons_zero, List.set_cons_succ]
          refine ⟨fun wv105 hov105 hSv105 => ?_, fun v105 => ?_⟩
          · obtain rfl : v101 = .bool true := hSv105 101 (by decide) (by decide)
            obtain rfl : v104 = .pointer (some ⟨g10, 144, none⟩) := hSv105 104 (by decide) (by decide)
            clear hSv105
            have H := kp (H.out.keep [0, 1, 2] (St := []) trivial hov105 (by decide) (by kernel_rfl))
            have HOX := kp hov105
            clear hov105
            have hc := run_load_cell H.out 0 rfl _ _ HPC.out
            go_wp2_with fail
            exact ⟨rfl, _, rfl, fun d hd => by cases hd; exact rfl, Ext.refl _⟩
          simp only [Act.put, List.setIfInBounds_toArray, List.set_cons_zero, List.set_cons_succ]
          refine ⟨fun wv106 hov106 hSv106 => ?_, fun v106 => ?_⟩
          · obtain rfl : v101 = .bool true := hSv106 101 (by decide) (by decide)
            obtain rfl : v105 = .slice (some ⟨b2, off2, none⟩) (m + 1) c2 := hSv106 105 (by decide) (by decide)
            clear hSv106
            clear hov106
            go_wp2_with fail
            exact ⟨rfl, _, rfl, fun d hd => by cases hd; exact rfl, Ext.refl _⟩
          simp only [Act.put, List.setIfInBounds_toArray, List.set_cons_zero, List.set_cons_succ]
          refine ⟨fun wv107 hov107 hSv107 => ?_, fun v107 => ?_⟩
          · obtain rfl : v101 = .bool true := hSv107 101 (by decide) (by decide)
            obtain rfl : v106 = .int .i64 (m + 1 : Nat) := hSv107 106 (by decide) (by decide)
            clear hSv107
            clear hov107
            go_wp2_with fail
            exact ⟨rfl, _, rfl, fun d hd => by cases hd; exact rfl, Ext.refl _⟩
          simp only [Act.put, List.setIfInBounds_toArray, List.set_cons_zero, List.set_cons_succ]
          refine ⟨fun wv108 hov108 hSv108 => ?_, fun v108 => ?_⟩
          · obtain rfl : v101 = .bool true := hSv108 101 (by decide) (by decide)
            obtain rfl : v103 = .slice (some ⟨b2, off2, none⟩) (m + 1) c2 := hSv108 103 (by decide) (by decide)
            obtain rfl : v107 = .int .i64 m := hSv108 107 (by decide) (by decide)
            clear hSv108
            clear hov108
            go_wp2_with fail
            exact ⟨rfl, _, rfl, fun d hd => by cases hd; exact rfl, Ext.refl _⟩
          simp only [Act.put, List.setIfInBounds_toArray, List.set_cons_zero, List.set_cons_succ]
          refine ⟨fun wv109 hov109 hSv109 => ?_, fun v109 => ?_⟩
          · obtain rfl : v101 = .bool true := hSv109 101 (by decide) (by decide)
            obtain rfl : v108 = .pointer (some ⟨b2, off2 + m * 16, none⟩) := hSv109 108 (by decide) (by decide)
            clear hSv109
            have H := kp (H.out.keep [0, 1, 2] (St := []) trivial hov109 (by decide) (by kernel_rfl))
            have HOX := kp hov109
            clear hov109
            have HR3 := kp (rangeAt_ext HR2.out HB2.out (HOX.out.ext (Ext.refl _) (fun g hg => by cases hg)))
            go_wp2_with ((with_reducible show wpList _ _ _ (Oper.mk _ (Op.load 45 _) _ _ _ _ :: _) _ _); (with_reducible refine wpList_load_midG (by kernel_rfl) 45 _ rfl (b2) (off2 + m * 16) rfl (k.map V8) _ (HR3.out) Try.underlying45 rfl (HZQ.out) ?_); simp only [Act.put, List.setIfInBounds_toArray, List.set_cons_zero, List.set_cons_succ])
            exact ⟨rfl, _, rfl, fun d hd => by cases hd; exact rfl, Ext.refl _⟩
          simp only [Act.put, List.setIfInBounds_toArray, List.set_cons_zero, List.set_cons_succ]
          refine ⟨fun wv110 hov110 hSv110 => ?_, fun v110 => ?_⟩
          · obtain rfl : v101 = .bool true := hSv110 101 (by decide) (by decide)
            clear hSv110
            have H := kp (H.out.keep [0, 1, 2] (St := []) trivial hov110 (by decide) (by kernel_rfl))
            have HOX := kp hov110
            clear hov110
            go_wp2_with ((with_reducible show wpList _ _ _ (Oper.mk _ (Op.load 45 _) _ _ _ _ :: _) _ _); (first | (refine L_loadG H (by kernel_rfl) 45 _ rfl 0 rfl rfl Try.underlying45 rfl (HZK.out) ?_) | (refine L_loadG H (by kernel_rfl) 45 _ rfl 1 rfl rfl Try.underlying45 rfl (HZK.out) ?_) | (refine L_loadG H (by kernel_rfl) 45 _ rfl 2 rfl rfl Try.underlying45 rfl (HZK.out) ?_) | (refine L_loadG H (by kernel_rfl) 45 _ rfl 3 rfl rfl Try.underlying45 rfl (HZK.out) ?_) | (refine L_loadG H (by kernel_rfl) 45 _ rfl 4 rfl rfl Try.underlying45 rfl (HZK.out) ?_) | (refine L_loadG H (by kernel_rfl) 45 _ rfl 5 rfl rfl Try.underlying45 rfl (HZK.out) ?_)); simp only [Act.put, List.setIfInBounds_toArray, List.set_cons_zero, List.set_cons_succ])
            exact ⟨rfl, _, rfl, fun d hd => by cases hd; exact rfl, Ext.refl _⟩
          simp only [Act.put, List.setIfInBounds_toArray, List.set_cons_zero, List.set_cons_succ]
          refine ⟨fun wv111 hov111 hSv111 => ?_, fun v111 => ?_⟩
          · obtain rfl : v101 = .bool true := hSv111 101 (by decide) (by decide)
            obtain rfl : v109 = .agg (k.map V8).toArray := hSv111 109 (by decide) (by decide)
            obtain rfl : v110 = .agg (k.map V8).toArray := hSv111 110 (by decide) (by decide)
            clear hSv111
            clear hov111
            go_wp2_with fail
            exact ⟨rfl, _, rfl, fun d hd => by cases hd; exact rfl, Ext.refl _⟩
          simp only [Act.put, List.setIfInBounds_toArray, List.set_cons_zero, List.set_cons_succ]
          refine ⟨fun wv112 hov112 hSv112 => ?_, fun v112 => ?_⟩
          · obtain rfl : v101 = .bool true := hSv112 101 (by decide) (by decide)
            obtain rfl : v111 = .bool true := hSv112 111 (by decide) (by decide)
            clear hSv112
            clear hov112
            go_wp2_with fail
            exact ⟨rfl, _, rfl, fun d hd => by cases hd; exact rfl, Ext.refl _⟩
          simp only [Act.put, List.setIfInBounds_toArray, List.set_cons_zero, List.set_cons_succ]
          refine ⟨fun wv113 hov113 hSv113 => ?_, fun v113 => ?_⟩
          · obtain rfl : v112 = .bool true := hSv113 112 (by decide) (by decide)
            clear hSv113
            clear hov113
            go_wp2_with fail
            exact ⟨rfl, _, rfl, fun d hd => by cases hd; exact rfl, Ext.refl _⟩
          simp only [Act.put, List.setIfInBounds_toArray, List.set_cons_zero, List.set_cons_succ]
          refine ⟨fun wv114 hov114 hSv114 => ?_, fun v114 => ?_⟩
          · obtain rfl : v113 = .bool true := hSv114 113 (by decide) (by decide)
            clear hSv114
            have H := kp (H.out.keep [0, 1, 2] (St := []) trivial hov114 (by decide) (by kernel_rfl))
            have HOX := kp hov114
            clear hov114
            go_wp2_with ((with_reducible show wpList _ _ _ (Oper.mk _ (Op.load 51 _) _ _ _ _ :: _) _ _); (first | (refine L_loadG H (by kernel_rfl) 51 _ rfl 0 rfl rfl Try.underlying51 rfl (HZI.out _ _) ?_) | (refine L_loadG H (by kernel_rfl) 51 _ rfl 1 rfl rfl Try.underlying51 rfl (HZI.out _ _) ?_) | (refine L_loadG H (by kernel_rfl) 51 _ rfl 2 rfl rfl Try.underlying51 rfl (HZI.out _ _) ?_) | (refine L_loadG H (by kernel_rfl) 51 _ rfl 3 rfl rfl Try.underlying51 rfl (HZI.out _ _) ?_) | (refine L_loadG H (by kernel_rfl) 51 _ rfl 4 rfl rfl Try.underlying51 rfl (HZI.out _ _) ?_) | (refine L_loadG H (by kernel_rfl) 51 _ rfl 5 rfl rfl Try.underlying51 rfl (HZI.out _ _) ?_)); simp only [Act.put, List.setIfInBounds_toArray, List.set_cons_zero, List.set_cons_succ])
            exact ⟨rfl, _, rfl, fun d hd => by cases hd; exact rfl, Ext.refl _⟩
          simp only [Act.put, List.setIfInBounds_toArray, List.set_cons_zero, List.set_cons_succ]
          refine ⟨fun wv115 hov115 hSv115 => ?_, fun v115 => ?_⟩
          · obtain rfl : v113 = .bool true := hSv115 113 (by decide) (by decide)
            obtain rfl : v114 = .agg (cellsR (l.set j (sentSlot k q)) (.slice (some ⟨b2, off2, none⟩) (m + 1) c2)).toArray := hSv115 114 (by decide) (by decide)
            clear hSv115
            have H := kp (H.out.keep [0, 1, 2] (St := []) trivial hov115 (by decide) (by kernel_rfl))
            have HOX := kp hov115
            clear hov115
            go_wp2_with fail
            refine (HCK.out _ (HOX.out.ext (Ext.refl _) (fun g hg => by cases hg))).mono ?_
            rintro e w2 ⟨rfl, hx⟩
            have HXW := kp hx
            clear hx
            go_wp2_with fail
            exact ⟨rfl, _, rfl, fun d hd => by cases hd; exact rfl, HXW.out⟩
          simp only [Act.put, List.setIfInBounds_toArray, List.set_cons_zero, List.set_cons_succ]
          refine ⟨fun wv116 hov116 hSv116 => ?_, fun v116 => ?_⟩
          · obtain rfl : v113 = .bool true := hSv116 113 (by decide) (by decide)
            obtain rfl : v115 = .int .i64 0 := hSv116 115 (by decide) (by decide)
            clear hSv116
            clear hov116
            go_wp2_with fail
            exact ⟨rfl, _, rfl, fun d hd => by cases hd; exact rfl, Ext.refl _⟩
          simp only [Act.put, List.setIfInBounds_toArray, List.set_cons_zero, List.set_cons_succ]
          refine ⟨fun wv117 hov117 hSv117 => ?_, fun v117 => ?_⟩
          · obtain rfl : v113 = .bool true := hSv117 113 (by decide) (by decide)
            obtain rfl : v116 = .bool true := hSv117 116 (by decide) (by decide)
            clear hSv117
            clear hov117
            go_wp2_with fail
            exact ⟨rfl, _, rfl, fun d hd => by cases hd; exact rfl, Ext.refl _⟩
          simp only [Act.put, List.setIfInBounds_toArray, List.set_cons_zero, List.set_cons_succ]
          refine ⟨fun wv8 hov8 hSv8 => ?_, fun v8 => ?_⟩
          · obtain rfl : v117 = .bool true := hSv8 117 (by decide) (by decide)
            clear hSv8
            clear hov8
            go_wp2_with fail
            exact ⟨rfl, _, rfl, fun d hd => by cases hd; exact rfl, Ext.refl _⟩
          simp only [Act.put, List.setIfInBounds_toArray, List.set_cons_zero, List.set_cons_succ]
          clear H
          intro wn HOX H hfin
          obtain rfl : v94 = .bool true := hfin 94 (by decide)
          obtain rfl : v95 = .bool true := hfin 95 (by decide)
          obtain rfl : v96 = .pointer (some ⟨g10, 144, none⟩) := hfin 96 (by decide)
          obtain rfl : v97 = .slice (some ⟨b2, off2, none⟩) (m + 1) c2 := hfin 97 (by decide)
          obtain rfl : v98 = .int .i64 (m + 1 : Nat) := hfin 98 (by decide)
          obtain rfl : v99 = .bool true := hfin 99 (by decide)
          obtain rfl : v100 = .bool true := hfin 100 (by decide)
          obtain rfl : v101 = .bool true := hfin 101 (by decide)
          obtain rfl : v102 = .pointer (some ⟨g10, 144, none⟩) := hfin 102 (by decide)
          obtain rfl : v103 = .slice (some ⟨b2, off2, none⟩) (m + 1) c2 := hfin 103 (by decide)
          obtain rfl : v104 = .pointer (some ⟨g10, 144, none⟩) := hfin 104 (by decide)
          obtain rfl : v105 = .slice (some ⟨b2, off2, none⟩) (m + 1) c2 := hfin 105 (by decide)
          obtain rfl : v106 = .int .i64 (m + 1 : Nat) := hfin 106 (by decide)
          obtain rfl : v107 = .int .i64 m := hfin 107 (by decide)
          obtain rfl : v108 = .pointer (some ⟨b2, off2 + m * 16, none⟩) := hfin 108 (by decide)
          obtain rfl : v109 = .agg (k.map V8).toArray := hfin 109 (by decide)
          obtain rfl : v110 = .agg (k.map V8).toArray := hfin 110 (by decide)
          obtain rfl : v111 = .bool true := hfin 111 (by decide)
          obtain rfl : v112 = .bool true := hfin 112 (by decide)
          obtain rfl : v113 = .bool true := hfin 113 (by decide)
          obtain rfl : v114 = .agg (cellsR (l.set j (sentSlot k q)) (.slice (some ⟨b2, off2, none⟩) (m + 1) c2)).toArray := hfin 114 (by decide)
          obtain rfl : v115 = .int .i64 0 := hfin 115 (by decide)
          obtain rfl : v116 = .bool true := hfin 116 (by decide)
          obtain rfl : v117 = .bool true := hfin 117 (by decide)
          obtain rfl : v8 = .bool true := hfin 8 (by decide)
          clear hfin
          simp only [List.drop_succ_cons, List.drop_zero]
          simp only [applyS] at H
          have HXN := kp (HOX.out.ext (Ext.refl wr) (fun g hg => by cases hg))
          go_wp2_with fail
          go_ret
          exact ⟨rfl, H.out.1⟩
set_option maxRecDepth 10000 in
set_option maxHeartbeats 6400000 in
theorem counterCounts_walk (l : List Slot) (v : Value) (ks : Keys16) (hl : Ring4 l) (hs0 : ks.length ≤ 9223372036854775807) (slot n : Int) (k : List (BitVec 8)) (hk16 : k.length = 16) (w : World) (hs : PastV 0 w v ks) :
    Calls Try.prog 6 #[.agg (cellsR l v).toArray, .int .i64 slot, .int .i64 n, .agg (k.map V8).toArray] w fun e w' => e = .returned (.bool true) ∧ Ext w w' := by
  obtain ⟨ad, c, hv⟩ := hs.sly.form
  subst hv
  have HGR := kp (fun w => great_any l hl ad ks.length c w)
  have HZ := kp (fun u => sizeR l u hl)
  have HZK := kp (sizeKy k hk16)
  have HS := kp hs
  have HL := kp hl
  have H16 := kp hk16
  have HAL := kp alive_any
  have H := kp (Loc.start w)
  clear hs hl hk16
  by_cases hg : 40 < (ks.length : Int)
  · skip
    go_enter Try.func6, Try.ntmps6
    go_wp2_with (first | ((with_reducible show wpList _ _ _ (Oper.mk (some 4) (Op.box 51 _) _ _ _ _ :: _) _ _); (with_reducible refine L_box H rfl 51 _ rfl (cellsR l (.slice ad ks.length c)) rfl ?_); clear H; intro g4 w4 HGg4 HEg4 H; simp only [Act.put, List.setIfInBounds_toArray, List.set_cons_zero, List.set_cons_succ]) | ((with_reducible show wpList _ _ _ (Oper.mk (some 7) (Op.box 45 _) _ _ _ _ :: _) _ _); (with_reducible refine L_box H rfl 45 _ rfl (k.map V8) rfl ?_); clear H; intro g7 w7 HGg7 HEg7 H; simp only [Act.put, List.setIfInBounds_toArray, List.set_cons_zero, List.set_cons_succ]) | ((with_reducible show wpList _ _ _ (Oper.mk _ (Op.load 51 _) _ _ _ _ :: _) _ _); (first | (refine L_load H rfl 51 _ rfl 0 rfl rfl Try.underlying51 rfl (HZ.out _) ?_) | (refine L_load H rfl 51 _ rfl 1 rfl rfl Try.underlying51 rfl (HZ.out _) ?_) | (refine L_load H rfl 51 _ rfl 2 rfl rfl Try.underlying51 rfl (HZ.out _) ?_) | (refine L_load H rfl 51 _ rfl 3 rfl rfl Try.underlying51 rfl (HZ.out _) ?_) | (refine L_load H rfl 51 _ rfl 4 rfl rfl Try.underlying51 rfl (HZ.out _) ?_) | (refine L_load H rfl 51 _ rfl 5 rfl rfl Try.underlying51 rfl (HZ.out _) ?_)); simp only [Act.put, List.setIfInBounds_toArray, List.set_cons_zero, List.set_cons_succ]) | (go_at_call 10; refine (HAL.out _).mono ?_; rintro e wa ⟨rfl, hx⟩; have H2 := kp (H.out.ext hx); have HXC := kp hx; clear H hx; have H := H2; clear H2) | (go_at_call 17; refine (HGR.out _).mono ?_; rintro e wa ⟨rfl, hx⟩; have H2 := kp (H.out.ext hx); have HXC := kp hx; clear H hx; have H := H2; clear H2))
    go_ret
    exact ⟨rfl, H.out.1⟩
  by_cases hn0 : n < 0
  · skip
    go_enter Try.func6, Try.ntmps6
    go_wp2_with (first | ((with_reducible show wpList _ _ _ (Oper.mk (some 4) (Op.box 51 _) _ _ _ _ :: _) _ _); (with_reducible refine L_box H rfl 51 _ rfl (cellsR l (.slice ad ks.length c)) rfl ?_); clear H; intro g4 w4 HGg4 HEg4 H; simp only [Act.put, List.setIfInBounds_toArray, List.set_cons_zero, List.set_cons_succ]) | ((with_reducible show wpList _ _ _ (Oper.mk (some 7) (Op.box 45 _) _ _ _ _ :: _) _ _); (with_reducible refine L_box H rfl 45 _ rfl (k.map V8) rfl ?_); clear H; intro g7 w7 HGg7 HEg7 H; simp only [Act.put, List.setIfInBounds_toArray, List.set_cons_zero, List.set_cons_succ]) | ((with_reducible show wpList _ _ _ (Oper.mk _ (Op.load 51 _) _ _ _ _ :: _) _ _); (first | (refine L_load H rfl 51 _ rfl 0 rfl rfl Try.underlying51 rfl (HZ.out _) ?_) | (refine L_load H rfl 51 _ rfl 1 rfl rfl Try.underlying51 rfl (HZ.out _) ?_) | (refine L_load H rfl 51 _ rfl 2 rfl rfl Try.underlying51 rfl (HZ.out _) ?_) | (refine L_load H rfl 51 _ rfl 3 rfl rfl Try.underlying51 rfl (HZ.out _) ?_) | (refine L_load H rfl 51 _ rfl 4 rfl rfl Try.underlying51 rfl (HZ.out _) ?_) | (refine L_load H rfl 51 _ rfl 5 rfl rfl Try.underlying51 rfl (HZ.out _) ?_)); simp only [Act.put, List.setIfInBounds_toArray, List.set_cons_zero, List.set_cons_succ]) | (go_at_call 10; refine (HAL.out _).mono ?_; rintro e wa ⟨rfl, hx⟩; have H2 := kp (H.out.ext hx); have HXC := kp hx; clear H hx; have H := H2; clear H2) | (go_at_call 17; refine (HGR.out _).mono ?_; rintro e wa ⟨rfl, hx⟩; have H2 := kp (H.out.ext hx); have HXC := kp hx; clear H hx; have H := H2; clear H2))
    go_ret
    exact ⟨rfl, H.out.1⟩
  by_cases hn6 : 60 < n
  · skip
    go_enter Try.func6, Try.ntmps6
    go_wp2_with (first | ((with_reducible show wpList _ _ _ (Oper.mk (some 4) (Op.box 51 _) _ _ _ _ :: _) _ _); (with_reducible refine L_box H rfl 51 _ rfl (cellsR l (.slice ad ks.length c)) rfl ?_); clear H; intro g4 w4 HGg4 HEg4 H; simp only [Act.put, List.setIfInBounds_toArray, List.set_cons_zero, List.set_cons_succ]) | ((with_reducible show wpList _ _ _ (Oper.mk (some 7) (Op.box 45 _) _ _ _ _ :: _) _ _); (with_reducible refine L_box H rfl 45 _ rfl (k.map V8) rfl ?_); clear H; intro g7 w7 HGg7 HEg7 H; simp only [Act.put, List.setIfInBounds_toArray, List.set_cons_zero, List.set_cons_succ]) | ((with_reducible show wpList _ _ _ (Oper.mk _ (Op.load 51 _) _ _ _ _ :: _) _ _); (first | (refine L_load H rfl 51 _ rfl 0 rfl rfl Try.underlying51 rfl (HZ.out _) ?_) | (refine L_load H rfl 51 _ rfl 1 rfl rfl Try.underlying51 rfl (HZ.out _) ?_) | (refine L_load H rfl 51 _ rfl 2 rfl rfl Try.underlying51 rfl (HZ.out _) ?_) | (refine L_load H rfl 51 _ rfl 3 rfl rfl Try.underlying51 rfl (HZ.out _) ?_) | (refine L_load H rfl 51 _ rfl 4 rfl rfl Try.underlying51 rfl (HZ.out _) ?_) | (refine L_load H rfl 51 _ rfl 5 rfl rfl Try.underlying51 rfl (HZ.out _) ?_)); simp only [Act.put, List.setIfInBounds_toArray, List.set_cons_zero, List.set_cons_succ]) | (go_at_call 10; refine (HAL.out _).mono ?_; rintro e wa ⟨rfl, hx⟩; have H2 := kp (H.out.ext hx); have HXC := kp hx; clear H hx; have H := H2; clear H2) | (go_at_call 17; refine (HGR.out _).mono ?_; rintro e wa ⟨rfl, hx⟩; have H2 := kp (H.out.ext hx); have HXC := kp hx; clear H hx; have H := H2; clear H2))
    go_ret
    exact ⟨rfl, H.out.1⟩
  have HI := kp (fun w' (h : Ext w w') => install_any l HL.out (.slice ad ks.length c) ks 0 (by omega) slot k H16.out w' (HS.out.ext h))
  obtain ⟨r, hr⟩ : ∃ r, installF l ks slot k = r := ⟨_, rfl⟩
  have HR := kp hr
  rw [hr] at HI
  clear hr
  have HZZ := kp (sizeR zeroSs nilV ring_zero)
  rcases installF_cases l ks slot k with h | h | h | h
  iterate 3
    obtain rfl : r = _ := HR.out.symm.trans h
    clear h
    go_enter Try.func6, Try.ntmps6
    go_wp2_with (first | ((with_reducible show wpList _ _ _ (Oper.mk (some 4) (Op.box 51 _) _ _ _ _ :: _) _ _); (with_reducible refine L_box H rfl 51 _ rfl (cellsR l (.slice ad ks.length c)) rfl ?_); clear H; intro g4 w4 HGg4 HEg4 H; simp only [Act.put, List.setIfInBounds_toArray, List.set_cons_zero, List.set_cons_succ]) | ((with_reducible show wpList _ _ _ (Oper.mk (some 7) (Op.box 45 _) _ _ _ _ :: _) _ _); (with_reducible refine L_box H rfl 45 _ rfl (k.map V8) rfl ?_); clear H; intro g7 w7 HGg7 HEg7 H; simp only [Act.put, List.setIfInBounds_toArray, List.set_cons_zero, List.set_cons_succ]) | ((with_reducible show wpList _ _ _ (Oper.mk _ (Op.load 51 _) _ _ _ _ :: _) _ _); (first | (refine L_load H rfl 51 _ rfl 0 rfl rfl Try.underlying51 rfl (HZ.out _) ?_) | (refine L_load H rfl 51 _ rfl 1 rfl rfl Try.underlying51 rfl (HZ.out _) ?_) | (refine L_load H rfl 51 _ rfl 2 rfl rfl Try.underlying51 rfl (HZ.out _) ?_) | (refine L_load H rfl 51 _ rfl 3 rfl rfl Try.underlying51 rfl (HZ.out _) ?_) | (refine L_load H rfl 51 _ rfl 4 rfl rfl Try.underlying51 rfl (HZ.out _) ?_) | (refine L_load H rfl 51 _ rfl 5 rfl rfl Try.underlying51 rfl (HZ.out _) ?_)); simp only [Act.put, List.setIfInBounds_toArray, List.set_cons_zero, List.set_cons_succ]) | (go_at_call 10; refine (HAL.out _).mono ?_; rintro e wa ⟨rfl, hx⟩; have H2 := kp (H.out.ext hx); have HXC := kp hx; clear H hx; have H := H2; clear H2) | (go_at_call 17; refine (HGR.out _).mono ?_; rintro e wa ⟨rfl, hx⟩; have H2 := kp (H.out.ext hx); have HXC := kp hx; clear H hx; have H := H2; clear H2) | ((with_reducible show wpList _ _ _ (Oper.mk _ (Op.load 45 _) _ _ _ _ :: _) _ _); (first | (refine L_load H rfl 45 _ rfl 0 rfl rfl Try.underlying45 rfl (HZK.out) ?_) | (refine L_load H rfl 45 _ rfl 1 rfl rfl Try.underlying45 rfl (HZK.out) ?_) | (refine L_load H rfl 45 _ rfl 2 rfl rfl Try.underlying45 rfl (HZK.out) ?_) | (refine L_load H rfl 45 _ rfl 3 rfl rfl Try.underlying45 rfl (HZK.out) ?_) | (refine L_load H rfl 45 _ rfl 4 rfl rfl Try.underlying45 rfl (HZK.out) ?_) | (refine L_load H rfl 45 _ rfl 5 rfl rfl Try.underlying45 rfl (HZK.out) ?_)); simp only [Act.put, List.setIfInBounds_toArray, List.set_cons_zero, List.set_cons_succ]))
    refine (HI.out _ H.out.1).mono ?_
    rintro e wi ⟨u, rfl, hpv, hx⟩
    have H2 := kp (H.out.ext hx); have HXC := kp hx; clear H hx; have H := H2; clear H2
    obtain ⟨a2, n2, c2, rfl, hn2, _, _, _⟩ := hpv
    obtain rfl : n2 = 0 := hn2
    have HZ2 := kp (sizeR zeroSs (.slice a2 0 c2) ring_zero)
    have HO2 := kp (one_cellsR zeroSs (.slice a2 0 c2) rfl)
    have HP2 := kp (cellsR_past zeroSs (.slice a2 0 c2) ring_zero)
    unfold badR
    dsimp only
    go_wp2_with (first | ((with_reducible show wpList _ _ _ (Oper.mk (some 10) (Op.alloc 51) _ _ _ _ :: _) _ _); (with_reducible refine L_alloc H rfl 51 rfl (zeroR) (fun _ _ => by kernel_rfl) ?_); clear H; intro g10 w10 HGg10 HEg10 H; simp only [Act.put, List.setIfInBounds_toArray, List.set_cons_zero, List.set_cons_succ]) | (((with_reducible show wpList _ _ _ (Oper.mk none (Op.store 51 _ _) _ _ _ _ :: _) _ _); (first | (refine L_store H rfl rfl 51 _ _ rfl 0 rfl rfl (cellsR zeroSs (.slice a2 0 c2)) rfl (HZ2.out) (rfl) (HO2.out) ?_; clear H; intro wz HWwz H; simp only [List.set_cons_zero] at H) | (refine L_store H rfl rfl 51 _ _ rfl 1 rfl rfl (cellsR zeroSs (.slice a2 0 c2)) rfl (HZ2.out) (rfl) (HO2.out) ?_; clear H; intro wz HWwz H; simp only [List.set_cons_succ, List.set_cons_zero] at H) | (refine L_store H rfl rfl 51 _ _ rfl 2 rfl rfl (cellsR zeroSs (.slice a2 0 c2)) rfl (HZ2.out) (rfl) (HO2.out) ?_; clear H; intro wz HWwz H; simp only [List.set_cons_succ, List.set_cons_zero] at H) | (refine L_store H rfl rfl 51 _ _ rfl 3 rfl rfl (cellsR zeroSs (.slice a2 0 c2)) rfl (HZ2.out) (rfl) (HO2.out) ?_; clear H; intro wz HWwz H; simp only [List.set_cons_succ, List.set_cons_zero] at H) | (refine L_store H rfl rfl 51 _ _ rfl 4 rfl rfl (cellsR zeroSs (.slice a2 0 c2)) rfl (HZ2.out) (rfl) (HO2.out) ?_; clear H; intro wz HWwz H; simp only [List.set_cons_succ, List.set_cons_zero] at H) | (refine L_store H rfl rfl 51 _ _ rfl 5 rfl rfl (cellsR zeroSs (.slice a2 0 c2)) rfl (HZ2.out) (rfl) (HO2.out) ?_; clear H; intro wz HWwz H; simp only [List.set_cons_succ, List.set_cons_zero] at H))); have hc := run_load_cell H.out 0 rfl _ _ HP2.out))
    go_ret
    exact ⟨rfl, H.out.1⟩
  obtain ⟨q, hq⟩ := h
  obtain ⟨hok, h0, h4, hcn, hhe, hqe, hrok⟩ := install_ok hq
  obtain ⟨j, rfl⟩ := Int.eq_ofNat_of_zero_le h0
  obtain ⟨N, rfl⟩ := Int.eq_ofNat_of_zero_le hn0
  obtain ⟨m, hm1, hm2, hm3⟩ := lastF_last ks k hok.len
  rw [Int.toNat_natCast] at hqe
  subst hqe
  exact counts_main l ks (lastF (ks ++ [k])) HL.out ad c j N (by omega) (by omega) k H16.out w HS.out (by omega) hq hrok m hm1 hm2 hm3
end Go.Proofs.Ytjnaegpjhbobaaa
