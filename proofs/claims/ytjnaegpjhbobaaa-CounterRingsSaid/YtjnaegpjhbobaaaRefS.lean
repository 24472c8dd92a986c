/- The reference's CheckRing and at. -/
import Derived.Test.YtjnaegpjhbobaaaRefR
import Derived.Test.YtjnaegpjhbobaaaRef24
import Derived.Test.YtjnaegpjhbobaaaApp
namespace Go.Proofs.Ytjnaegpjhbobaaa
open Go.RowKit
theorem keys_in {l : List Slot} {j : Nat} {k : List (BitVec 8)} (h : (keysF (l.take j)).contains k = true) : ∃ i a, i < j ∧ l[i]? = some a ∧ goodB a = true ∧ a.key = k := by
  rw [List.contains_iff_mem] at h
  simp only [keysF, List.mem_map, List.mem_filter] at h
  obtain ⟨a, ⟨ha, hg⟩, hk⟩ := h
  obtain ⟨i, hi⟩ := List.getElem?_of_mem ha
  rw [List.getElem?_take] at hi
  split at hi
  · rename_i hlt; exact ⟨i, a, hlt, hi, hg, hk⟩
  · cases hi
theorem ring_twice {l : List Slot} {ks : Keys16} {j : Nat} {s : Slot} (hj : l[j]? = some s) (hg : goodB s = true) (h : (keysF (l.take j)).contains s.key = true) : checkRingF l ks = 8 := by
  rcases checkRingF_cases l ks with h1 | h1
  · exact h1
  · have hr := (ringOk_iff l ks).1 h1
    obtain ⟨i, a, hlt, hia, hga, hk⟩ := keys_in h
    exact absurd hk (hr.apart i j a s hlt hia hj hga hg)
theorem ring_len {l : List Slot} {ks : Keys16} (h : 16 < ks.length) : checkRingF l ks = 8 := by
  rcases checkRingF_cases l ks with h1 | h1
  · exact h1
  · have := ((ringOk_iff l ks).1 h1).len; omega
theorem ring_past {l : List Slot} {ks : Keys16} (h : uniqB ks = false) : checkRingF l ks = 8 := by
  unfold checkRingF; simp [h]
/-- The slots up to j are valid, their keys differ. -/
def PreOk (l : List Slot) (j : Nat) : Prop := (∀ s ∈ l.take j, okB s = true) ∧ Apart (l.take j)
theorem PreOk.step {l : List Slot} {j : Nat} {s : Slot} (h : PreOk l j) (hj : l[j]? = some s) (ho : okB s = true) (hk : goodB s = true → (keysF (l.take j)).contains s.key = false) : PreOk l (j + 1) := by
  refine ⟨fun q hq => ?_, fun i i' a b hii hia hib hga hgb => ?_⟩
  · rw [List.take_add_one, hj, Option.toList_some] at hq
    rcases List.mem_append.1 hq with hq | hq
    · exact h.1 q hq
    · simp at hq; rw [hq]; exact ho
  · rw [List.getElem?_take] at hia hib
    split at hia
    · split at hib
      · rename_i h1 h2
        by_cases h3 : i' < j
        · exact h.2 i i' a b hii (by rw [List.getElem?_take, if_pos (by omega)]; exact hia) (by rw [List.getElem?_take, if_pos h3]; exact hib) hga hgb
        · obtain rfl : i' = j := by omega
          rw [hj] at hib
          cases hib
          intro e
          have h4 := hk hgb
          have h5 : (keysF (l.take i')).contains s.key = true := by
            rw [List.contains_iff_mem, ← e]
            simp only [keysF, List.mem_map, List.mem_filter]
            exact ⟨a, ⟨List.mem_of_getElem? (i := i) (by rw [List.getElem?_take, if_pos hii]; exact hia), hga⟩, rfl⟩
          rw [h5] at h4; cases h4
      · cases hib
    · cases hia
theorem ring_all {l : List Slot} {ks : Keys16} (h : PreOk l 4) (h4 : l.length = 4) (h16 : ks.length ≤ 16) (hu : uniqB ks = true) : checkRingF l ks = 0 := by
  have e : l.take 4 = l := List.take_of_length_le (by omega)
  unfold PreOk at h
  rw [e] at h
  exact (ringOk_iff l ks).2 ⟨h.1, h.2, h16, (uniq_nodup ks).1 hu⟩
theorem not_used_ok {s : Slot} (hu : s.used = false) : okB s = slotEq s s0 := by simp [okB, goodB, hu]
theorem used_ok {s : Slot} (hu : s.used = true) : okB s = goodB s := by
  unfold okB
  have : slotEq s s0 = false := by
    rw [Bool.eq_false_iff]; intro h; rw [slotEq_iff] at h; rw [h] at hu; cases hu
  rw [this, Bool.or_false]
theorem new_ne {v v' : Value} {n g : Nat} (h : v'.ownBlock = v.ownBlock ∨ v'.ownBlock = some n) (h1 : v.ownBlock ≠ some g) (h2 : g < n) : v'.ownBlock ≠ some g := by
  intro e
  rcases h with h | h
  · exact h1 (h ▸ e)
  · rw [h] at e; cases e; omega
theorem elemK : ElemT Try.prog 49 45 16 16 := by
  obtain ⟨ik, hi, hz, hs, hb⟩ := info_ik
  exact ⟨Try.underlying49, ⟨ik, _, hi, hz, hs, hb, rfl⟩, by decide⟩
set_option maxRecDepth 10000 in
set_option maxHeartbeats 6400000 in
theorem rcheckRing_any (l : List Slot) (hl : Ring4 l) (ad : Option Addr) (n c : Nat) (ks : Keys16) (hn : n = ks.length) (hn2 : n ≤ 1000) (hcap : n ≤ c) (w : World) (hs : SlY w (.slice ad n c) ks) :
    Calls Try.prog 28 #[.agg (cellsR l (.slice ad n c)).toArray] w fun e w' => e = .returned (.int .i64 (checkRingF l ks)) ∧ Ext w w' := by
  have HL := kp hl
  have HS := kp hs
  have HN := kp hn
  have HP := kp (cellsR_past l (.slice ad n c) hl)
  have HIN := kp (fun a m d (hh : m ≤ 1000) q ks' (h1 : m = ks'.length) (h2 : q.length = 16) w' (h3 : SlY w' (.slice a m d) ks') => in_any a m d ks' h1 (by omega) q h2 w' h3)
  have HZS0 := kp (show (Try.prog.info? 47).map (·.size) = some 36 from size47)
  have HOS := kp (fun s => all_oneCell_toArray (one_cellsS s))
  have H := kp (Loc.start w)
  clear hl hs hn
  go_enter Try.func28, Try.ntmps28
  go_wp2_with (first | ((with_reducible show wpList _ _ _ (Oper.mk (some 1) (Op.box 51 _) _ _ _ _ :: _) _ _); (with_reducible refine L_box H rfl 51 _ rfl (cellsR l (.slice ad n c)) rfl ?_); clear H; intro g1 w1 HGg1 HEg1 H; simp only [Act.put, List.setIfInBounds_toArray, List.set_cons_zero, List.set_cons_succ]))
  go_loopw [3, 4] (fun v3 i wr => ∃ j : Nat, j ≤ 4 ∧ i = .int .i64 j ∧ Kp (PreOk l j) ∧ Kp (wr.ownsRow w.heap.size 45 16 v3 (keysF (l.take j)).length (flatK (keysF (l.take j)))) ∧ Kp (v3.ownBlock ≠ some g1) ∧ Kp (Loc w wr [(g1, 51, cellsR l (.slice ad n c))])) (fun _ i _ => 4 - (intOf i).toNat)
  case atStart => exact ⟨0, by omega, rfl, kp ⟨fun s hs => by simp at hs, fun i j a b _ h => by simp at h⟩, kp (ownsK_nil _ _), kp (by intro e; cases e), H⟩
  case round =>
    obtain ⟨j, hj, rfl, HPR, HOW, HD, HW⟩ := hrel
    by_cases hlt : (j : Int) < 4
    · obtain ⟨s, hs⟩ : ∃ s, l[j]? = some s := ⟨l[j]'(by rw [HL.out.1]; omega), by simp⟩
      have HY := kp hs
      have HSO := kp (HL.out.2 s (List.mem_of_getElem? hs))
      have HSL := kp (show ((cellsR l (.slice ad n c)).drop (j * 36)).take (cellsS s).length = cellsS s by rw [cellsS_len s HSO.out]; exact cellsR_slots l _ j s HL.out HY.out)
      have HZL := kp (sizeSl s HSO.out)
      have HZA := kp (show (Try.prog.info? 47).map (·.size) = some (cellsS s).toArray.size by rw [HZS0.out, List.size_toArray, cellsS_len s HSO.out])
      have HLS := kp (show (cellsS s0).length = (cellsS s).length by rw [cellsS_len s HSO.out]; rfl)
      have HL1 := kp (show Lc wr g1 51 (cellsR l (.slice ad n c)) from HW.out.at 0 rfl)
      have HU0 := kp (show (cellsS s)[0]? = some (.bool s.used) from rfl)
      have HCL := kp (slot_sub s HSO.out)
      have HZC := kp (show (Try.prog.info? 29).map (·.size) = some (cellsC s.last s.wins).length by rw [size29, cellsC_len, HSO.out.2])
      have HCK := kp (fun w => rcheck_any s.last s.wins HSO.out.2 w)
      have HKY := kp (slot_keyE s)
      have HKZ := kp (sizeKl s.key HSO.out.1)
      have H := kp (Loc.start wr)
      clear hs
      have hne0 : ∀ w, (binOp .neq 47 (.agg (cellsS s).toArray) (.agg (cellsS s0).toArray)).run Try.prog w = .ok (.bool (!slotEq s s0)) w := fun w => neSlot w s s0 HSO.out ⟨rfl, rfl⟩
      generalize h6 : (Code.region 6 _ _ : Code) = R6
      go_wp2_with (first | ((with_reducible show wpList _ _ _ (Oper.mk _ (Op.load 47 _) _ _ _ _ :: _) _ _); (refine wpList_load_midG (by kernel_rfl) 47 _ rfl (g1) (j * 36) rfl (cellsS s) _ ((HL1.out.ext H.out.1).range HSL.out) Try.underlying47 rfl (HZL.out) ?_); simp only [Act.put, List.setIfInBounds_toArray, List.set_cons_zero, List.set_cons_succ]) | ((with_reducible show wpList _ _ _ (Oper.mk (some 5) (Op.alloc 47) _ _ _ _ :: _) _ _); (with_reducible refine L_alloc H rfl 47 rfl (cellsS s0) (fun _ _ => by kernel_rfl) ?_); clear H; intro g5 w5 HGg5 HEg5 H; simp only [Act.put, List.setIfInBounds_toArray, List.set_cons_zero, List.set_cons_succ]) | (((with_reducible show wpList _ _ _ (Oper.mk none (Op.store 47 _ _) _ _ _ _ :: _) _ _); (first | (refine L_store H rfl rfl 47 _ _ rfl 0 rfl rfl (cellsS s) rfl (HZA.out) (HLS.out) (HOS.out _) ?_; clear H; intro wq HWwq H; simp only [List.set_cons_zero] at H) | (refine L_store H rfl rfl 47 _ _ rfl 1 rfl rfl (cellsS s) rfl (HZA.out) (HLS.out) (HOS.out _) ?_; clear H; intro wq HWwq H; simp only [List.set_cons_succ, List.set_cons_zero] at H) | (refine L_store H rfl rfl 47 _ _ rfl 2 rfl rfl (cellsS s) rfl (HZA.out) (HLS.out) (HOS.out _) ?_; clear H; intro wq HWwq H; simp only [List.set_cons_succ, List.set_cons_zero] at H) | (refine L_store H rfl rfl 47 _ _ rfl 3 rfl rfl (cellsS s) rfl (HZA.out) (HLS.out) (HOS.out _) ?_; clear H; intro wq HWwq H; simp only [List.set_cons_succ, List.set_cons_zero] at H) | (refine L_store H rfl rfl 47 _ _ rfl 4 rfl rfl (cellsS s) rfl (HZA.out) (HLS.out) (HOS.out _) ?_; clear H; intro wq HWwq H; simp only [List.set_cons_succ, List.set_cons_zero] at H) | (refine L_store H rfl rfl 47 _ _ rfl 5 rfl rfl (cellsS s) rfl (HZA.out) (HLS.out) (HOS.out _) ?_; clear H; intro wq HWwq H; simp only [List.set_cons_succ, List.set_cons_zero] at H))); have hc := run_load_cell H.out 0 rfl _ _ HU0.out))
      subst h6
      cases hus : s.used with
      | false =>
        have HNU := kp (not_used_ok hus)
        have HGD := kp (show goodB s = false by simp [goodB, hus])
        rw [hus] at hc HU0
        clear hus
        cases hz : slotEq s s0 with
        | false =>
          rw [hz] at hne0
          have HBD := kp (checkRing_bad l ks j s HY.out (by rw [HNU.out]; exact hz))
          clear hz
          go_wp2_with (first | ((with_reducible show wpList _ _ _ (Oper.mk _ (Op.load 47 _) _ _ _ _ :: _) _ _); (first | (refine L_loadG H (by kernel_rfl) 47 _ rfl 0 rfl rfl Try.underlying47 rfl (HZA.out) ?_) | (refine L_loadG H (by kernel_rfl) 47 _ rfl 1 rfl rfl Try.underlying47 rfl (HZA.out) ?_) | (refine L_loadG H (by kernel_rfl) 47 _ rfl 2 rfl rfl Try.underlying47 rfl (HZA.out) ?_) | (refine L_loadG H (by kernel_rfl) 47 _ rfl 3 rfl rfl Try.underlying47 rfl (HZA.out) ?_) | (refine L_loadG H (by kernel_rfl) 47 _ rfl 4 rfl rfl Try.underlying47 rfl (HZA.out) ?_) | (refine L_loadG H (by kernel_rfl) 47 _ rfl 5 rfl rfl Try.underlying47 rfl (HZA.out) ?_)); simp only [Act.put, List.setIfInBounds_toArray, List.set_cons_zero, List.set_cons_succ]) | ((with_reducible show wpList _ _ _ (Oper.mk (some 20) (Op.build 47 _) _ _ _ _ :: _) _ _); (refine L_bd (by kernel_rfl) 47 _ rfl (#[]) (by kernel_rfl) (cellsS s0) (fun _ => by kernel_rfl) ?_); simp only [Act.put, List.setIfInBounds_toArray, List.set_cons_zero, List.set_cons_succ]))
          go_ret
          exact ⟨congrArg (fun z => Ending.returned (.int .i64 z)) HBD.out.symm, HW.out.1.trans H.out.1⟩
        | true =>
          rw [hz] at hne0
          have HOKs := kp (show okB s = true by rw [HNU.out]; exact hz)
          have HC0 := kp (show checkF s.last s.wins = 0 by rw [(slotEq_iff _ _).1 hz]; exact checkF_zero 0 (by decide) (by decide))
          rw [HC0.out] at HCK
          clear hz
          go_wp2_with (first | ((with_reducible show wpList _ _ _ (Oper.mk _ (Op.load 47 _) _ _ _ _ :: _) _ _); (first | (refine L_loadG H (by kernel_rfl) 47 _ rfl 0 rfl rfl Try.underlying47 rfl (HZA.out) ?_) | (refine L_loadG H (by kernel_rfl) 47 _ rfl 1 rfl rfl Try.underlying47 rfl (HZA.out) ?_) | (refine L_loadG H (by kernel_rfl) 47 _ rfl 2 rfl rfl Try.underlying47 rfl (HZA.out) ?_) | (refine L_loadG H (by kernel_rfl) 47 _ rfl 3 rfl rfl Try.underlying47 rfl (HZA.out) ?_) | (refine L_loadG H (by kernel_rfl) 47 _ rfl 4 rfl rfl Try.underlying47 rfl (HZA.out) ?_) | (refine L_loadG H (by kernel_rfl) 47 _ rfl 5 rfl rfl Try.underlying47 rfl (HZA.out) ?_)); simp only [Act.put, List.setIfInBounds_toArray, List.set_cons_zero, List.set_cons_succ]) | ((with_reducible show wpList _ _ _ (Oper.mk (some 20) (Op.build 47 _) _ _ _ _ :: _) _ _); (refine L_bd (by kernel_rfl) 47 _ rfl (#[]) (by kernel_rfl) (cellsS s0) (fun _ => by kernel_rfl) ?_); simp only [Act.put, List.setIfInBounds_toArray, List.set_cons_zero, List.set_cons_succ]) | ((with_reducible show wpList _ _ _ (Oper.mk _ (Op.load 29 _) _ _ _ _ :: _) _ _); (first | (refine L_subG H (by kernel_rfl) 29 _ rfl 0 rfl (17) rfl (cellsC s.last s.wins) (HCL.out) Try.underlying29 rfl (HZC.out) ?_) | (refine L_subG H (by kernel_rfl) 29 _ rfl 1 rfl (17) rfl (cellsC s.last s.wins) (HCL.out) Try.underlying29 rfl (HZC.out) ?_) | (refine L_subG H (by kernel_rfl) 29 _ rfl 2 rfl (17) rfl (cellsC s.last s.wins) (HCL.out) Try.underlying29 rfl (HZC.out) ?_) | (refine L_subG H (by kernel_rfl) 29 _ rfl 3 rfl (17) rfl (cellsC s.last s.wins) (HCL.out) Try.underlying29 rfl (HZC.out) ?_) | (refine L_subG H (by kernel_rfl) 29 _ rfl 4 rfl (17) rfl (cellsC s.last s.wins) (HCL.out) Try.underlying29 rfl (HZC.out) ?_) | (refine L_subG H (by kernel_rfl) 29 _ rfl 5 rfl (17) rfl (cellsC s.last s.wins) (HCL.out) Try.underlying29 rfl (HZC.out) ?_)); simp only [Act.put, List.setIfInBounds_toArray, List.set_cons_zero, List.set_cons_succ]))
          refine (HCK.out _).mono ?_
          rintro e wa ⟨rfl, hx⟩
          clear hc
          have H2 := kp (H.out.ext hx); have HXC := kp hx; clear H hx; have H := H2; clear H2
          have hc := run_load_cell H.out 0 rfl _ _ HU0.out
          go_wp2_with fail
          have HOW2 := kp (ownsT_ext HOW.out H.out.1)
          have HWX := kp (HW.out.ext H.out.1)
          go_roundw
          case rel => exact ⟨j + 1, by omega, by go_num, kp (HPR.out.step HY.out HOKs.out (fun hg => by rw [HGD.out] at hg; cases hg)), kp (by rw [keysF_take l j s HY.out, HGD.out]; simpa using HOW2.out), HD, HWX⟩
          case measure => simp [intOf]; omega
      | true =>
        have HUS := kp (used_ok hus)
        have HGD := kp (show goodB s = (checkF s.last s.wins == 0) by simp [goodB, hus])
        rw [hus] at hc HU0
        clear hus hne0
        rcases checkF_cases s.last s.wins with h8 | h8
        · rw [h8] at HCK
          have HBD := kp (checkRing_bad l ks j s HY.out (by rw [HUS.out, HGD.out, h8]; rfl))
          clear h8
          go_wp2_with (first | ((with_reducible show wpList _ _ _ (Oper.mk _ (Op.load 29 _) _ _ _ _ :: _) _ _); (first | (refine L_subG H (by kernel_rfl) 29 _ rfl 0 rfl (17) rfl (cellsC s.last s.wins) (HCL.out) Try.underlying29 rfl (HZC.out) ?_) | (refine L_subG H (by kernel_rfl) 29 _ rfl 1 rfl (17) rfl (cellsC s.last s.wins) (HCL.out) Try.underlying29 rfl (HZC.out) ?_) | (refine L_subG H (by kernel_rfl) 29 _ rfl 2 rfl (17) rfl (cellsC s.last s.wins) (HCL.out) Try.underlying29 rfl (HZC.out) ?_) | (refine L_subG H (by kernel_rfl) 29 _ rfl 3 rfl (17) rfl (cellsC s.last s.wins) (HCL.out) Try.underlying29 rfl (HZC.out) ?_) | (refine L_subG H (by kernel_rfl) 29 _ rfl 4 rfl (17) rfl (cellsC s.last s.wins) (HCL.out) Try.underlying29 rfl (HZC.out) ?_) | (refine L_subG H (by kernel_rfl) 29 _ rfl 5 rfl (17) rfl (cellsC s.last s.wins) (HCL.out) Try.underlying29 rfl (HZC.out) ?_)); simp only [Act.put, List.setIfInBounds_toArray, List.set_cons_zero, List.set_cons_succ]))
          refine (HCK.out _).mono ?_
          rintro e wa ⟨rfl, hx⟩
          clear hc
          have H2 := kp (H.out.ext hx); have HXC := kp hx; clear H hx; have H := H2; clear H2
          go_wp2_with fail
          go_ret
          exact ⟨congrArg (fun z => Ending.returned (.int .i64 z)) HBD.out.symm, HW.out.1.trans H.out.1⟩
        · rw [h8] at HCK
          have HG1 := kp (show goodB s = true by rw [HGD.out, h8]; rfl)
          clear h8
          have HSYK := kp (SlY.of_owns (keysF_16 (l.take j) (fun q hq => HL.out.2 q (List.mem_of_mem_take hq))) HOW.out)
          obtain ⟨a3, c3, hu3⟩ := HSYK.out.form
          subst hu3
          have HIK := kp (fun w' (hx : Ext wr w') => HIN.out a3 (keysF (l.take j)).length c3 (by have h1 := keysF_len (l.take j); have h2 := List.length_take_le j l; omega) s.key (keysF (l.take j)) rfl HSO.out.1 w' (HSYK.out.ext hx))
          cases hcn : (keysF (l.take j)).contains s.key with
          | true =>
            rw [hcn] at HIK
            have HBD := kp (ring_twice (ks := ks) HY.out HG1.out hcn)
            clear hcn
            go_wp2_with (first | ((with_reducible show wpList _ _ _ (Oper.mk _ (Op.load 29 _) _ _ _ _ :: _) _ _); (first | (refine L_subG H (by kernel_rfl) 29 _ rfl 0 rfl (17) rfl (cellsC s.last s.wins) (HCL.out) Try.underlying29 rfl (HZC.out) ?_) | (refine L_subG H (by kernel_rfl) 29 _ rfl 1 rfl (17) rfl (cellsC s.last s.wins) (HCL.out) Try.underlying29 rfl (HZC.out) ?_) | (refine L_subG H (by kernel_rfl) 29 _ rfl 2 rfl (17) rfl (cellsC s.last s.wins) (HCL.out) Try.underlying29 rfl (HZC.out) ?_) | (refine L_subG H (by kernel_rfl) 29 _ rfl 3 rfl (17) rfl (cellsC s.last s.wins) (HCL.out) Try.underlying29 rfl (HZC.out) ?_) | (refine L_subG H (by kernel_rfl) 29 _ rfl 4 rfl (17) rfl (cellsC s.last s.wins) (HCL.out) Try.underlying29 rfl (HZC.out) ?_) | (refine L_subG H (by kernel_rfl) 29 _ rfl 5 rfl (17) rfl (cellsC s.last s.wins) (HCL.out) Try.underlying29 rfl (HZC.out) ?_)); simp only [Act.put, List.setIfInBounds_toArray, List.set_cons_zero, List.set_cons_succ]))
            refine (HCK.out _).mono ?_
            rintro e wa ⟨rfl, hx⟩
            clear hc
            have H2 := kp (H.out.ext hx); have HXC := kp hx; clear H hx; have H := H2; clear H2
            have hc := run_load_cell H.out 0 rfl _ _ HU0.out
            go_wp2_with (first | ((with_reducible show wpList _ _ _ (Oper.mk _ (Op.load 45 _) _ _ _ _ :: _) _ _); (first | (refine L_subG H (by kernel_rfl) 45 _ rfl 0 rfl (1) rfl (s.key.map V8) (HKY.out) Try.underlying45 rfl (HKZ.out) ?_) | (refine L_subG H (by kernel_rfl) 45 _ rfl 1 rfl (1) rfl (s.key.map V8) (HKY.out) Try.underlying45 rfl (HKZ.out) ?_) | (refine L_subG H (by kernel_rfl) 45 _ rfl 2 rfl (1) rfl (s.key.map V8) (HKY.out) Try.underlying45 rfl (HKZ.out) ?_) | (refine L_subG H (by kernel_rfl) 45 _ rfl 3 rfl (1) rfl (s.key.map V8) (HKY.out) Try.underlying45 rfl (HKZ.out) ?_) | (refine L_subG H (by kernel_rfl) 45 _ rfl 4 rfl (1) rfl (s.key.map V8) (HKY.out) Try.underlying45 rfl (HKZ.out) ?_) | (refine L_subG H (by kernel_rfl) 45 _ rfl 5 rfl (1) rfl (s.key.map V8) (HKY.out) Try.underlying45 rfl (HKZ.out) ?_)); simp only [Act.put, List.setIfInBounds_toArray, List.set_cons_zero, List.set_cons_succ]))
            refine (HIK.out _ H.out.1).mono ?_
            rintro e wb ⟨rfl, hx⟩
            clear hc
            have H2 := kp (H.out.ext hx); have HXC := kp hx; clear H hx; have H := H2; clear H2
            go_wp2_with fail
            go_ret
            exact ⟨congrArg (fun z => Ending.returned (.int .i64 z)) HBD.out.symm, HW.out.1.trans H.out.1⟩
          | false =>
            rw [hcn] at HIK
            have HCN := kp hcn
            clear hcn
            have HBS := kp (fun w => run_buildKey w s.key HSO.out.1)
            have HLK := kp (show (keysF (l.take j)).length + 1 ≤ 1000 by have h1 := keysF_len (l.take j); have h2 := List.length_take_le j l; omega)
            go_wp2_with (first | ((with_reducible show wpList _ _ _ (Oper.mk _ (Op.load 29 _) _ _ _ _ :: _) _ _); (first | (refine L_subG H (by kernel_rfl) 29 _ rfl 0 rfl (17) rfl (cellsC s.last s.wins) (HCL.out) Try.underlying29 rfl (HZC.out) ?_) | (refine L_subG H (by kernel_rfl) 29 _ rfl 1 rfl (17) rfl (cellsC s.last s.wins) (HCL.out) Try.underlying29 rfl (HZC.out) ?_) | (refine L_subG H (by kernel_rfl) 29 _ rfl 2 rfl (17) rfl (cellsC s.last s.wins) (HCL.out) Try.underlying29 rfl (HZC.out) ?_) | (refine L_subG H (by kernel_rfl) 29 _ rfl 3 rfl (17) rfl (cellsC s.last s.wins) (HCL.out) Try.underlying29 rfl (HZC.out) ?_) | (refine L_subG H (by kernel_rfl) 29 _ rfl 4 rfl (17) rfl (cellsC s.last s.wins) (HCL.out) Try.underlying29 rfl (HZC.out) ?_) | (refine L_subG H (by kernel_rfl) 29 _ rfl 5 rfl (17) rfl (cellsC s.last s.wins) (HCL.out) Try.underlying29 rfl (HZC.out) ?_)); simp only [Act.put, List.setIfInBounds_toArray, List.set_cons_zero, List.set_cons_succ]))
            refine (HCK.out _).mono ?_
            rintro e wa ⟨rfl, hx⟩
            clear hc
            have H2 := kp (H.out.ext hx); have HXC := kp hx; clear H hx; have H := H2; clear H2
            have hc := run_load_cell H.out 0 rfl _ _ HU0.out
            go_wp2_with (first | ((with_reducible show wpList _ _ _ (Oper.mk _ (Op.load 45 _) _ _ _ _ :: _) _ _); (first | (refine L_subG H (by kernel_rfl) 45 _ rfl 0 rfl (1) rfl (s.key.map V8) (HKY.out) Try.underlying45 rfl (HKZ.out) ?_) | (refine L_subG H (by kernel_rfl) 45 _ rfl 1 rfl (1) rfl (s.key.map V8) (HKY.out) Try.underlying45 rfl (HKZ.out) ?_) | (refine L_subG H (by kernel_rfl) 45 _ rfl 2 rfl (1) rfl (s.key.map V8) (HKY.out) Try.underlying45 rfl (HKZ.out) ?_) | (refine L_subG H (by kernel_rfl) 45 _ rfl 3 rfl (1) rfl (s.key.map V8) (HKY.out) Try.underlying45 rfl (HKZ.out) ?_) | (refine L_subG H (by kernel_rfl) 45 _ rfl 4 rfl (1) rfl (s.key.map V8) (HKY.out) Try.underlying45 rfl (HKZ.out) ?_) | (refine L_subG H (by kernel_rfl) 45 _ rfl 5 rfl (1) rfl (s.key.map V8) (HKY.out) Try.underlying45 rfl (HKZ.out) ?_)); simp only [Act.put, List.setIfInBounds_toArray, List.set_cons_zero, List.set_cons_succ]))
            refine (HIK.out _ H.out.1).mono ?_
            rintro e wb ⟨rfl, hx⟩
            clear hc
            have H2 := kp (H.out.ext hx); have HXC := kp hx; clear H hx; have H := H2; clear H2
            have hc := run_load_cell H.out 0 rfl _ _ HU0.out
            go_wp2_with (first | ((with_reducible show wpList _ _ _ (Oper.mk _ (Op.load 45 _) _ _ _ _ :: _) _ _); (first | (refine L_sub H rfl 45 _ rfl 0 rfl (1) rfl (s.key.map V8) (HKY.out) Try.underlying45 rfl (HKZ.out) ?_) | (refine L_sub H rfl 45 _ rfl 1 rfl (1) rfl (s.key.map V8) (HKY.out) Try.underlying45 rfl (HKZ.out) ?_) | (refine L_sub H rfl 45 _ rfl 2 rfl (1) rfl (s.key.map V8) (HKY.out) Try.underlying45 rfl (HKZ.out) ?_) | (refine L_sub H rfl 45 _ rfl 3 rfl (1) rfl (s.key.map V8) (HKY.out) Try.underlying45 rfl (HKZ.out) ?_) | (refine L_sub H rfl 45 _ rfl 4 rfl (1) rfl (s.key.map V8) (HKY.out) Try.underlying45 rfl (HKZ.out) ?_) | (refine L_sub H rfl 45 _ rfl 5 rfl (1) rfl (s.key.map V8) (HKY.out) Try.underlying45 rfl (HKZ.out) ?_)); simp only [Act.put, List.setIfInBounds_toArray, List.set_cons_zero, List.set_cons_succ]) | ((with_reducible show wpList _ _ _ (Oper.mk (some 44) (Op.buildSlice 49 _ _) _ _ _ _ :: _) _ _); (refine L_bs H (by kernel_rfl) 49 1 _ rfl (#[(0, .agg (s.key.map V8).toArray)]) (by kernel_rfl) 45 (s.key.map V8) (HBS.out) ?_); clear H; intro g44 w44 HGg44 HEg44 H; simp only [Act.put, List.setIfInBounds_toArray, List.set_cons_zero, List.set_cons_succ]) | (at_builtin; have HSEP := kp (sep_of (g4 := g1) (T := 51) (cs := cellsR l (.slice ad n c)) H.out (ownsT_lt HOW.out) HD.out); have HXS := kp H.out.1.size; have HJ := kp (HW.out.join H.out); have HL9 := kp (H.out.at 0 rfl); refine L_appT (f := fun q => List.map V8 q) elemK HJ rfl _ _ rfl w.heap.size (Nat.le_refl _) HJ.out.1.size (.slice a3 (keysF (l.take j)).length c3) (keysF (l.take j)) rfl (ownsT_ext HOW.out H.out.1) HSEP.out g44 s.key rfl _ HL9.out (by rw [List.length_map]; exact HSO.out.1) (mem_V8 s.key) (by have := HLK.out; omega) (by have := HLK.out; omega) ?_; clear H; intro va wd HOD HGD2 HWD H; simp only [List.cons_append, List.nil_append] at H; have HD2 := kp (new_ne HWD.out HD.out (Nat.lt_of_lt_of_le HL1.out.lt HXS.out))))
            go_roundw
            case rel => exact ⟨j + 1, by omega, by go_num, kp (HPR.out.step HY.out (by rw [HUS.out]; exact HG1.out) (fun _ => HCN.out)), kp (by rw [keysF_take l j s HY.out, HG1.out]; exact HOD.out), HD2, kp H.out.tail.tail⟩
            case measure => simp [intOf]; omega
    · obtain rfl : j = 4 := by omega
      have hc := run_load_cell HW.out 0 rfl _ _ HP.out
      have H := HW
      clear HW HOW HD
      by_cases h16 : 16 < (n : Int)
      · have HBD := kp (ring_len (l := l) (ks := ks) (by have := HN.out; omega))
        go_wp2_with fail
        go_ret
        exact ⟨congrArg (fun z => Ending.returned (.int .i64 z)) HBD.out.symm, H.out.1⟩
      go_wp2_with fail
      clear hc
      go_loopw [6] (fun i wv => ∃ j : Nat, j ≤ n ∧ i = .int .i64 j ∧ Kp (uniqTo ks j = true) ∧ Kp (Loc w wv [(g1, 51, cellsR l (.slice ad n c))])) (fun i _ => n - (intOf i).toNat)
      case atStart => exact ⟨0, by omega, rfl, kp rfl, H⟩
      case round =>
        obtain ⟨i, hi, rfl, HT, H⟩ := hrel
        have hc := run_load_cell H.out 0 rfl _ _ HP.out
        by_cases hlt : i < n
        · obtain ⟨q, hq⟩ : ∃ q, ks[i]? = some q := ⟨ks[i]'(by rw [← HN.out]; omega), by simp⟩
          obtain ⟨hq16, b, off, rfl, hb, hr⟩ := HS.out.at i q hq
          have HB := kp hb
          have HR := kp hr
          have HY := kp hq
          have HZQ := kp (sizeKl q hq16)
          have HI := kp (fun w' (hx : Ext w w') => HIN.out (some ⟨b, off, none⟩) i c (by omega) q (ks.take i) (by rw [List.length_take, ← HN.out]; omega) hq16 w' ((HS.out.ext hx).take (n := i) (cap' := c) (by rw [← HN.out]; exact hi) (by simp)))
          clear hb hr hq hq16
          have hic : i ≤ c := by omega
          cases hcn : (ks.take i).contains q with
          | false =>
            rw [hcn] at HI
            have HO := kp (show uniqTo ks (i + 1) = true by rw [uniqTo_succ ks i q HY.out, HT.out, hcn]; rfl)
            clear hcn
            go_wp2_with fail
            clear hc
            refine region_free H (tabS [(57, fun zv _ => zv = .pointer (some ⟨g1, 144, none⟩)), (58, fun zv _ => zv = .slice (some ⟨b, off, none⟩) n c), (59, fun zv _ => zv = .int .i64 i), (60, fun zv _ => zv = .slice (some ⟨b, off, none⟩) i c), (61, fun zv _ => zv = .pointer (some ⟨g1, 144, none⟩)), (62, fun zv _ => zv = .slice (some ⟨b, off, none⟩) n c), (63, fun zv _ => zv = .int .i64 i), (64, fun zv _ => zv = .pointer (some ⟨b, off + i * 16, none⟩)), (65, fun zv _ => zv = .agg (q.map V8).toArray), (66, fun zv _ => zv = .bool false)]) [] (tabS_out _ _ (by simp only [List.forall_mem_cons]; exact ⟨mono_eqO _ _, mono_eqO _ _, mono_eqO _ _, mono_eqO _ _, mono_eqO _ _, mono_eqO _ _, mono_eqO _ _, mono_eqO _ _, mono_eqO _ _, mono_eqO _ _, by simp⟩)) 10 (by kernel_rfl) (by kernel_rfl) (by kernel_rfl) (by kernel_rfl) [] [] rfl rfl (by decide) (by decide) (by decide) trivial ?_
            simp only [List.take_succ_cons, List.take_zero]
            refine ⟨fun wv57 hov57 hSv57 => ?_, fun v57 => ?_⟩
            · clear hSv57
              clear hov57
              go_wp2_with fail
              exact ⟨rfl, _, rfl, fun d hd => by cases hd; exact rfl, Ext.refl _⟩
            simp only [Act.put, List.setIfInBounds_toArray, List.set_cons_zero, List.set_cons_succ]
            refine ⟨fun wv58 hov58 hSv58 => ?_, fun v58 => ?_⟩
            · obtain rfl : v57 = .pointer (some ⟨g1, 144, none⟩) := hSv58 57 (by decide) (by decide)
              clear hSv58
              have H := kp (H.out.keep [0] (St := []) trivial hov58 (by decide) (by kernel_rfl))
              have HOX := kp hov58
              clear hov58
              have hc := run_load_cell H.out 0 rfl _ _ HP.out
              go_wp2_with fail
              exact ⟨rfl, _, rfl, fun d hd => by cases hd; exact rfl, Ext.refl _⟩
            simp only [Act.put, List.setIfInBounds_toArray, List.set_cons_zero, List.set_cons_succ]
            refine ⟨fun wv59 hov59 hSv59 => ?_, fun v59 => ?_⟩
            · clear hSv59
              clear hov59
              go_wp2_with fail
              exact ⟨rfl, _, rfl, fun d hd => by cases hd; exact rfl, Ext.refl _⟩
            simp only [Act.put, List.setIfInBounds_toArray, List.set_cons_zero, List.set_cons_succ]
            refine ⟨fun wv60 hov60 hSv60 => ?_, fun v60 => ?_⟩
            · obtain rfl : v58 = .slice (some ⟨b, off, none⟩) n c := hSv60 58 (by decide) (by decide)
              obtain rfl : v59 = .int .i64 i := hSv60 59 (by decide) (by decide)
              clear hSv60
              clear hov60
              go_wp2_with fail
              exact ⟨rfl, _, rfl, fun d hd => by cases hd; exact rfl, Ext.refl _⟩
            simp only [Act.put, List.setIfInBounds_toArray, List.set_cons_zero, List.set_cons_succ]
            refine ⟨fun wv61 hov61 hSv61 => ?_, fun v61 => ?_⟩
            · clear hSv61
              clear hov61
              go_wp2_with fail
              exact ⟨rfl, _, rfl, fun d hd => by cases hd; exact rfl, Ext.refl _⟩
            simp only [Act.put, List.setIfInBounds_toArray, List.set_cons_zero, List.set_cons_succ]
            refine ⟨fun wv62 hov62 hSv62 => ?_, fun v62 => ?_⟩
            · obtain rfl : v61 = .pointer (some ⟨g1, 144, none⟩) := hSv62 61 (by decide) (by decide)
              clear hSv62
              have H := kp (H.out.keep [0] (St := []) trivial hov62 (by decide) (by kernel_rfl))
              have HOX := kp hov62
              clear hov62
              have hc := run_load_cell H.out 0 rfl _ _ HP.out
              go_wp2_with fail
              exact ⟨rfl, _, rfl, fun d hd => by cases hd; exact rfl, Ext.refl _⟩
            simp only [Act.put, List.setIfInBounds_toArray, List.set_cons_zero, List.set_cons_succ]
            refine ⟨fun wv63 hov63 hSv63 => ?_, fun v63 => ?_⟩
            · clear hSv63
              clear hov63
              go_wp2_with fail
              exact ⟨rfl, _, rfl, fun d hd => by cases hd; exact rfl, Ext.refl _⟩
            simp only [Act.put, List.setIfInBounds_toArray, List.set_cons_zero, List.set_cons_succ]
            refine ⟨fun wv64 hov64 hSv64 => ?_, fun v64 => ?_⟩
            · obtain rfl : v62 = .slice (some ⟨b, off, none⟩) n c := hSv64 62 (by decide) (by decide)
              obtain rfl : v63 = .int .i64 i := hSv64 63 (by decide) (by decide)
              clear hSv64
              clear hov64
              go_wp2_with fail
              exact ⟨rfl, _, rfl, fun d hd => by cases hd; exact rfl, Ext.refl _⟩
            simp only [Act.put, List.setIfInBounds_toArray, List.set_cons_zero, List.set_cons_succ]
            refine ⟨fun wv65 hov65 hSv65 => ?_, fun v65 => ?_⟩
            · obtain rfl : v64 = .pointer (some ⟨b, off + i * 16, none⟩) := hSv65 64 (by decide) (by decide)
              clear hSv65
              have H := kp (H.out.keep [0] (St := []) trivial hov65 (by decide) (by kernel_rfl))
              have HOX := kp hov65
              clear hov65
              go_wp2_with ((with_reducible show wpList _ _ _ (Oper.mk _ (Op.load 45 _) _ _ _ _ :: _) _ _); (refine wpList_load_midG (by kernel_rfl) 45 _ rfl (b) (off + i * 16) rfl (q.map V8) _ (rangeAt_ext HR.out HB.out H.out.1) Try.underlying45 rfl (HZQ.out) ?_); simp only [Act.put, List.setIfInBounds_toArray, List.set_cons_zero, List.set_cons_succ])
              exact ⟨rfl, _, rfl, fun d hd => by cases hd; exact rfl, Ext.refl _⟩
            simp only [Act.put, List.setIfInBounds_toArray, List.set_cons_zero, List.set_cons_succ]
            refine ⟨fun wv66 hov66 hSv66 => ?_, fun v66 => ?_⟩
            · obtain rfl : v60 = .slice (some ⟨b, off, none⟩) i c := hSv66 60 (by decide) (by decide)
              obtain rfl : v65 = .agg (q.map V8).toArray := hSv66 65 (by decide) (by decide)
              clear hSv66
              have H := kp (H.out.keep [0] (St := []) trivial hov66 (by decide) (by kernel_rfl))
              have HOX := kp hov66
              clear hov66
              go_wp2_with fail
              refine (HI.out _ H.out.1).mono ?_
              rintro e w2 ⟨rfl, hx⟩
              have HXW := kp hx
              clear hx
              go_wp2_with fail
              exact ⟨rfl, _, rfl, fun d hd => by cases hd; exact rfl, HXW.out⟩
            simp only [Act.put, List.setIfInBounds_toArray, List.set_cons_zero, List.set_cons_succ]
            clear H
            intro wn HOX H hfin
            obtain rfl : v57 = .pointer (some ⟨g1, 144, none⟩) := hfin 57 (by decide)
            obtain rfl : v58 = .slice (some ⟨b, off, none⟩) n c := hfin 58 (by decide)
            obtain rfl : v59 = .int .i64 i := hfin 59 (by decide)
            obtain rfl : v60 = .slice (some ⟨b, off, none⟩) i c := hfin 60 (by decide)
            obtain rfl : v61 = .pointer (some ⟨g1, 144, none⟩) := hfin 61 (by decide)
            obtain rfl : v62 = .slice (some ⟨b, off, none⟩) n c := hfin 62 (by decide)
            obtain rfl : v63 = .int .i64 i := hfin 63 (by decide)
            obtain rfl : v64 = .pointer (some ⟨b, off + i * 16, none⟩) := hfin 64 (by decide)
            obtain rfl : v65 = .agg (q.map V8).toArray := hfin 65 (by decide)
            obtain rfl : v66 = .bool false := hfin 66 (by decide)
            clear hfin
            simp only [List.drop_succ_cons, List.drop_zero]
            simp only [applyS] at H
            have HXN := kp (HOX.out.ext (Ext.refl wr) (fun g hg => by cases hg))
            go_wp2_with fail
            go_roundw
            case rel => exact ⟨i + 1, by omega, by go_num, HO, H⟩
            case measure => simp [intOf]; omega
          | true =>
            rw [hcn] at HI
            have HBD := kp (ring_past (l := l) (uniqB_bad ks i q HY.out hcn))
            clear hcn
            go_wp2_with fail
            clear hc
            refine region_free H (tabS [(57, fun zv _ => zv = .pointer (some ⟨g1, 144, none⟩)), (58, fun zv _ => zv = .slice (some ⟨b, off, none⟩) n c), (59, fun zv _ => zv = .int .i64 i), (60, fun zv _ => zv = .slice (some ⟨b, off, none⟩) i c), (61, fun zv _ => zv = .pointer (some ⟨g1, 144, none⟩)), (62, fun zv _ => zv = .slice (some ⟨b, off, none⟩) n c), (63, fun zv _ => zv = .int .i64 i), (64, fun zv _ => zv = .pointer (some ⟨b, off + i * 16, none⟩)), (65, fun zv _ => zv = .agg (q.map V8).toArray), (66, fun zv _ => zv = .bool true)]) [] (tabS_out _ _ (by simp only [List.forall_mem_cons]; exact ⟨mono_eqO _ _, mono_eqO _ _, mono_eqO _ _, mono_eqO _ _, mono_eqO _ _, mono_eqO _ _, mono_eqO _ _, mono_eqO _ _, mono_eqO _ _, mono_eqO _ _, by simp⟩)) 10 (by kernel_rfl) (by kernel_rfl) (by kernel_rfl) (by kernel_rfl) [] [] rfl rfl (by decide) (by decide) (by decide) trivial ?_
            simp only [List.take_succ_cons, List.take_zero]
            refine ⟨fun wv57 hov57 hSv57 => ?_, fun v57 => ?_⟩
            · clear hSv57
              clear hov57
              go_wp2_with fail
              exact ⟨rfl, _, rfl, fun d hd => by cases hd; exact rfl, Ext.refl _⟩
            simp only [Act.put, List.setIfInBounds_toArray, List.set_cons_zero, List.set_cons_succ]
            refine ⟨fun wv58 hov58 hSv58 => ?_, fun v58 => ?_⟩
            · obtain rfl : v57 = .pointer (some ⟨g1, 144, none⟩) := hSv58 57 (by decide) (by decide)
              clear hSv58
              have H := kp (H.out.keep [0] (St := []) trivial hov58 (by decide) (by kernel_rfl))
              have HOX := kp hov58
              clear hov58
              have hc := run_load_cell H.out 0 rfl _ _ HP.out
              go_wp2_with fail
              exact ⟨rfl, _, rfl, fun d hd => by cases hd; exact rfl, Ext.refl _⟩
            simp only [Act.put, List.setIfInBounds_toArray, List.set_cons_zero, List.set_cons_succ]
            refine ⟨fun wv59 hov59 hSv59 => ?_, fun v59 => ?_⟩
            · clear hSv59
              clear hov59
              go_wp2_with fail
              exact ⟨rfl, _, rfl, fun d hd => by cases hd; exact rfl, Ext.refl _⟩
            simp only [Act.put, List.setIfInBounds_toArray, List.set_cons_zero, List.set_cons_succ]
            refine ⟨fun wv60 hov60 hSv60 => ?_, fun v60 => ?_⟩
            · obtain rfl : v58 = .slice (some ⟨b, off, none⟩) n c := hSv60 58 (by decide) (by decide)
              obtain rfl : v59 = .int .i64 i := hSv60 59 (by decide) (by decide)
              clear hSv60
              clear hov60
              go_wp2_with fail
              exact ⟨rfl, _, rfl, fun d hd => by cases hd; exact rfl, Ext.refl _⟩
            simp only [Act.put, List.setIfInBounds_toArray, List.set_cons_zero, List.set_cons_succ]
            refine ⟨fun wv61 hov61 hSv61 => ?_, fun v61 => ?_⟩
            · clear hSv61
              clear hov61
              go_wp2_with fail
              exact ⟨rfl, _, rfl, fun d hd => by cases hd; exact rfl, Ext.refl _⟩
            simp only [Act.put, List.setIfInBounds_toArray, List.set_cons_zero, List.set_cons_succ]
            refine ⟨fun wv62 hov62 hSv62 => ?_, fun v62 => ?_⟩
            · obtain rfl : v61 = .pointer (some ⟨g1, 144, none⟩) := hSv62 61 (by decide) (by decide)
              clear hSv62
              have H := kp (H.out.keep [0] (St := []) trivial hov62 (by decide) (by kernel_rfl))
              have HOX := kp hov62
              clear hov62
              have hc := run_load_cell H.out 0 rfl _ _ HP.out
              go_wp2_with fail
              exact ⟨rfl, _, rfl, fun d hd => by cases hd; exact rfl, Ext.refl _⟩
            simp only [Act.put, List.setIfInBounds_toArray, List.set_cons_zero, List.set_cons_succ]
            refine ⟨fun wv63 hov63 hSv63 => ?_, fun v63 => ?_⟩
            · clear hSv63
              clear hov63
              go_wp2_with fail
              exact ⟨rfl, _, rfl, fun d hd => by cases hd; exact rfl, Ext.refl _⟩
            simp only [Act.put, List.setIfInBounds_toArray, List.set_cons_zero, List.set_cons_succ]
            refine ⟨fun wv64 hov64 hSv64 => ?_, fun v64 => ?_⟩
            · obtain rfl : v62 = .slice (some ⟨b, off, none⟩) n c := hSv64 62 (by decide) (by decide)
              obtain rfl : v63 = .int .i64 i := hSv64 63 (by decide) (by decide)
              clear hSv64
              clear hov64
              go_wp2_with fail
              exact ⟨rfl, _, rfl, fun d hd => by cases hd; exact rfl, Ext.refl _⟩
            simp only [Act.put, List.setIfInBounds_toArray, List.set_cons_zero, List.set_cons_succ]
            refine ⟨fun wv65 hov65 hSv65 => ?_, fun v65 => ?_⟩
            · obtain rfl : v64 = .pointer (some ⟨b, off + i * 16, none⟩) := hSv65 64 (by decide) (by decide)
              clear hSv65
              have H := kp (H.out.keep [0] (St := []) trivial hov65 (by decide) (by kernel_rfl))
              have HOX := kp hov65
              clear hov65
              go_wp2_with ((with_reducible show wpList _ _ _ (Oper.mk _ (Op.load 45 _) _ _ _ _ :: _) _ _); (refine wpList_load_midG (by kernel_rfl) 45 _ rfl (b) (off + i * 16) rfl (q.map V8) _ (rangeAt_ext HR.out HB.out H.out.1) Try.underlying45 rfl (HZQ.out) ?_); simp only [Act.put, List.setIfInBounds_toArray, List.set_cons_zero, List.set_cons_succ])
              exact ⟨rfl, _, rfl, fun d hd => by cases hd; exact rfl, Ext.refl _⟩
            simp only [Act.put, List.setIfInBounds_toArray, List.set_cons_zero, List.set_cons_succ]
            refine ⟨fun wv66 hov66 hSv66 => ?_, fun v66 => ?_⟩
            · obtain rfl : v60 = .slice (some ⟨b, off, none⟩) i c := hSv66 60 (by decide) (by decide)
              obtain rfl : v65 = .agg (q.map V8).toArray := hSv66 65 (by decide) (by decide)
              clear hSv66
              have H := kp (H.out.keep [0] (St := []) trivial hov66 (by decide) (by kernel_rfl))
              have HOX := kp hov66
              clear hov66
              go_wp2_with fail
              refine (HI.out _ H.out.1).mono ?_
              rintro e w2 ⟨rfl, hx⟩
              have HXW := kp hx
              clear hx
              go_wp2_with fail
              exact ⟨rfl, _, rfl, fun d hd => by cases hd; exact rfl, HXW.out⟩
            simp only [Act.put, List.setIfInBounds_toArray, List.set_cons_zero, List.set_cons_succ]
            clear H
            intro wn HOX H hfin
            obtain rfl : v57 = .pointer (some ⟨g1, 144, none⟩) := hfin 57 (by decide)
            obtain rfl : v58 = .slice (some ⟨b, off, none⟩) n c := hfin 58 (by decide)
            obtain rfl : v59 = .int .i64 i := hfin 59 (by decide)
            obtain rfl : v60 = .slice (some ⟨b, off, none⟩) i c := hfin 60 (by decide)
            obtain rfl : v61 = .pointer (some ⟨g1, 144, none⟩) := hfin 61 (by decide)
            obtain rfl : v62 = .slice (some ⟨b, off, none⟩) n c := hfin 62 (by decide)
            obtain rfl : v63 = .int .i64 i := hfin 63 (by decide)
            obtain rfl : v64 = .pointer (some ⟨b, off + i * 16, none⟩) := hfin 64 (by decide)
            obtain rfl : v65 = .agg (q.map V8).toArray := hfin 65 (by decide)
            obtain rfl : v66 = .bool true := hfin 66 (by decide)
            clear hfin
            simp only [List.drop_succ_cons, List.drop_zero]
            simp only [applyS] at H
            have HXN := kp (HOX.out.ext (Ext.refl wr) (fun g hg => by cases hg))
            go_wp2_with fail
            go_ret
            exact ⟨congrArg (fun z => Ending.returned (.int .i64 z)) HBD.out.symm, H.out.1⟩
        · obtain rfl : i = n := by omega
          have HBD := kp (ring_all (ks := ks) HPR.out HL.out.1 (by have := HN.out; omega) (by have h := HT.out; rw [HN.out] at h; exact h))
          go_wp2_with fail
          go_ret
          exact ⟨congrArg (fun z => Ending.returned (.int .i64 z)) HBD.out.symm, H.out.1⟩
set_option maxHeartbeats 800000 in
theorem rat_any (l : List Slot) (hl : Ring4 l) (v : Value) (ks : Keys16) (b : Nat) (hn2 : ks.length ≤ 1000) (slot : Int) (w : World) (hs : PastV b w v ks) :
    Calls Try.prog 50 #[.agg (cellsR l v).toArray, .int .i64 slot] w fun e w' => e = .returned (.int .i64 (atF l ks slot)) ∧ Ext w w' := by
  obtain ⟨ad, n, c, rfl, rfl, hcap, hs, _⟩ := hs
  have HC := kp (fun w' (hx : Ext w w') => rcheckRing_any l hl ad ks.length c ks rfl hn2 hcap w' (hs.ext hx))
  have HZ := kp (sizeR l (.slice ad ks.length c) hl)
  have H := kp (Loc.start w)
  clear hs hl
  rcases checkRingF_cases l ks with h | h
  · have HF := kp (show atF l ks slot = 8 by simp [atF, h])
    rw [h] at HC
    clear h
    go_enter Try.func50, Try.ntmps50
    go_wp2_with (first | ((with_reducible show wpList _ _ _ (Oper.mk (some 2) (Op.box 51 _) _ _ _ _ :: _) _ _); (with_reducible refine L_box H rfl 51 _ rfl (cellsR l (.slice ad ks.length c)) rfl ?_); clear H; intro g2 w2 HGg2 HEg2 H; simp only [Act.put, List.setIfInBounds_toArray, List.set_cons_zero, List.set_cons_succ]) | ((with_reducible show wpList _ _ _ (Oper.mk _ (Op.load 51 _) _ _ _ _ :: _) _ _); (first | (refine L_load H rfl 51 _ rfl 0 rfl rfl Try.underlying51 rfl (HZ.out) ?_) | (refine L_load H rfl 51 _ rfl 1 rfl rfl Try.underlying51 rfl (HZ.out) ?_) | (refine L_load H rfl 51 _ rfl 2 rfl rfl Try.underlying51 rfl (HZ.out) ?_) | (refine L_load H rfl 51 _ rfl 3 rfl rfl Try.underlying51 rfl (HZ.out) ?_) | (refine L_load H rfl 51 _ rfl 4 rfl rfl Try.underlying51 rfl (HZ.out) ?_) | (refine L_load H rfl 51 _ rfl 5 rfl rfl Try.underlying51 rfl (HZ.out) ?_)); simp only [Act.put, List.setIfInBounds_toArray, List.set_cons_zero, List.set_cons_succ]))
    refine (HC.out _ H.out.1).mono ?_
    rintro e w1 ⟨rfl, hx⟩
    have H2 := kp (H.out.ext hx); have HXC := kp hx; clear H hx; have H := H2; clear H2
    go_wp2_with fail
    go_ret
    exact ⟨congrArg (fun z => Ending.returned (.int .i64 z)) HF.out.symm, H.out.1⟩
  · have HF0 := kp (show atF l ks slot = if slot < 0 ∨ 3 < slot then 2 else 0 by simp [atF, h])
    rw [h] at HC
    clear h
    by_cases h1 : slot < 0
    · have HF := kp (show atF l ks slot = 2 by rw [HF0.out, if_pos (.inl h1)])
      go_enter Try.func50, Try.ntmps50
      go_wp2_with (first | ((with_reducible show wpList _ _ _ (Oper.mk (some 2) (Op.box 51 _) _ _ _ _ :: _) _ _); (with_reducible refine L_box H rfl 51 _ rfl (cellsR l (.slice ad ks.length c)) rfl ?_); clear H; intro g2 w2 HGg2 HEg2 H; simp only [Act.put, List.setIfInBounds_toArray, List.set_cons_zero, List.set_cons_succ]) | ((with_reducible show wpList _ _ _ (Oper.mk _ (Op.load 51 _) _ _ _ _ :: _) _ _); (first | (refine L_load H rfl 51 _ rfl 0 rfl rfl Try.underlying51 rfl (HZ.out) ?_) | (refine L_load H rfl 51 _ rfl 1 rfl rfl Try.underlying51 rfl (HZ.out) ?_) | (refine L_load H rfl 51 _ rfl 2 rfl rfl Try.underlying51 rfl (HZ.out) ?_) | (refine L_load H rfl 51 _ rfl 3 rfl rfl Try.underlying51 rfl (HZ.out) ?_) | (refine L_load H rfl 51 _ rfl 4 rfl rfl Try.underlying51 rfl (HZ.out) ?_) | (refine L_load H rfl 51 _ rfl 5 rfl rfl Try.underlying51 rfl (HZ.out) ?_)); simp only [Act.put, List.setIfInBounds_toArray, List.set_cons_zero, List.set_cons_succ]))
      refine (HC.out _ H.out.1).mono ?_
      rintro e w1 ⟨rfl, hx⟩
      have H2 := kp (H.out.ext hx); have HXC := kp hx; clear H hx; have H := H2; clear H2
      go_wp2_with fail
      go_ret
      exact ⟨congrArg (fun z => Ending.returned (.int .i64 z)) HF.out.symm, H.out.1⟩
    by_cases h2 : 3 < slot
    · have HF := kp (show atF l ks slot = 2 by rw [HF0.out, if_pos (.inr h2)])
      go_enter Try.func50, Try.ntmps50
      go_wp2_with (first | ((with_reducible show wpList _ _ _ (Oper.mk (some 2) (Op.box 51 _) _ _ _ _ :: _) _ _); (with_reducible refine L_box H rfl 51 _ rfl (cellsR l (.slice ad ks.length c)) rfl ?_); clear H; intro g2 w2 HGg2 HEg2 H; simp only [Act.put, List.setIfInBounds_toArray, List.set_cons_zero, List.set_cons_succ]) | ((with_reducible show wpList _ _ _ (Oper.mk _ (Op.load 51 _) _ _ _ _ :: _) _ _); (first | (refine L_load H rfl 51 _ rfl 0 rfl rfl Try.underlying51 rfl (HZ.out) ?_) | (refine L_load H rfl 51 _ rfl 1 rfl rfl Try.underlying51 rfl (HZ.out) ?_) | (refine L_load H rfl 51 _ rfl 2 rfl rfl Try.underlying51 rfl (HZ.out) ?_) | (refine L_load H rfl 51 _ rfl 3 rfl rfl Try.underlying51 rfl (HZ.out) ?_) | (refine L_load H rfl 51 _ rfl 4 rfl rfl Try.underlying51 rfl (HZ.out) ?_) | (refine L_load H rfl 51 _ rfl 5 rfl rfl Try.underlying51 rfl (HZ.out) ?_)); simp only [Act.put, List.setIfInBounds_toArray, List.set_cons_zero, List.set_cons_succ]))
      refine (HC.out _ H.out.1).mono ?_
      rintro e w1 ⟨rfl, hx⟩
      have H2 := kp (H.out.ext hx); have HXC := kp hx; clear H hx; have H := H2; clear H2
      go_wp2_with fail
      go_ret
      exact ⟨congrArg (fun z => Ending.returned (.int .i64 z)) HF.out.symm, H.out.1⟩
    · have HF := kp (show atF l ks slot = 0 by rw [HF0.out, if_neg (fun h => h.elim h1 h2)])
      go_enter Try.func50, Try.ntmps50
      go_wp2_with (first | ((with_reducible show wpList _ _ _ (Oper.mk (some 2) (Op.box 51 _) _ _ _ _ :: _) _ _); (with_reducible refine L_box H rfl 51 _ rfl (cellsR l (.slice ad ks.length c)) rfl ?_); clear H; intro g2 w2 HGg2 HEg2 H; simp only [Act.put, List.setIfInBounds_toArray, List.set_cons_zero, List.set_cons_succ]) | ((with_reducible show wpList _ _ _ (Oper.mk _ (Op.load 51 _) _ _ _ _ :: _) _ _); (first | (refine L_load H rfl 51 _ rfl 0 rfl rfl Try.underlying51 rfl (HZ.out) ?_) | (refine L_load H rfl 51 _ rfl 1 rfl rfl Try.underlying51 rfl (HZ.out) ?_) | (refine L_load H rfl 51 _ rfl 2 rfl rfl Try.underlying51 rfl (HZ.out) ?_) | (refine L_load H rfl 51 _ rfl 3 rfl rfl Try.underlying51 rfl (HZ.out) ?_) | (refine L_load H rfl 51 _ rfl 4 rfl rfl Try.underlying51 rfl (HZ.out) ?_) | (refine L_load H rfl 51 _ rfl 5 rfl rfl Try.underlying51 rfl (HZ.out) ?_)); simp only [Act.put, List.setIfInBounds_toArray, List.set_cons_zero, List.set_cons_succ]))
      refine (HC.out _ H.out.1).mono ?_
      rintro e w1 ⟨rfl, hx⟩
      have H2 := kp (H.out.ext hx); have HXC := kp hx; clear H hx; have H := H2; clear H2
      go_wp2_with fail
      go_ret
      exact ⟨congrArg (fun z => Ending.returned (.int .i64 z)) HF.out.symm, H.out.1⟩
end Go.Proofs.Ytjnaegpjhbobaaa
