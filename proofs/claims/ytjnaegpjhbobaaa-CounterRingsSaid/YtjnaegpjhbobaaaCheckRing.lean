/- counter.CheckRing, counter.at. -/
import Derived.Test.YtjnaegpjhbobaaaCeqC
import Derived.Test.YtjnaegpjhbobaaaBs
namespace Go.Proofs.Ytjnaegpjhbobaaa
open Go.RowKit
def goodB (s : Slot) : Bool := s.used && checkF s.last s.wins == 0
def okB (s : Slot) : Bool := goodB s || slotEq s s0
def keysF (l : List Slot) : List (List (BitVec 8)) := (l.filter goodB).map (·.key)
def checkRingF (l : List Slot) (ks : List (List (BitVec 8))) : Int := if l.all okB && uniqB (keysF l) && decide (ks.length ≤ 16) && uniqB ks then 0 else 8
theorem keysF_take (l : List Slot) (j : Nat) (s : Slot) (h : l[j]? = some s) : keysF (l.take (j + 1)) = keysF (l.take j) ++ (if goodB s then [s.key] else []) := by
  unfold keysF
  rw [List.take_add_one, h, Option.toList_some, List.filter_append, List.map_append]
  cases hg : goodB s <;> simp [hg]
theorem okTo_succ (l : List Slot) (j : Nat) (s : Slot) (h : l[j]? = some s) (h0 : (l.take j).all okB = true) (h1 : okB s = true) : (l.take (j + 1)).all okB = true := by
  rw [List.take_add_one, h, Option.toList_some, List.all_append, h0]; simp [h1]
theorem keysF_16 (l : List Slot) (h : ∀ s ∈ l, s.Ok) : ∀ k ∈ keysF l, k.length = 16 := by
  intro k hk
  simp only [keysF, List.mem_map, List.mem_filter] at hk
  obtain ⟨s, ⟨hs, _⟩, rfl⟩ := hk
  exact (h s hs).1
theorem keysF_len (l : List Slot) : (keysF l).length ≤ l.length := by unfold keysF; rw [List.length_map]; exact List.length_filter_le _ _
theorem checkRing_bad (l : List Slot) (ks : List (List (BitVec 8))) (j : Nat) (s : Slot) (h : l[j]? = some s) (hb : okB s = false) : checkRingF l ks = 8 := by
  have : l.all okB = false := by rw [List.all_eq_false]; exact ⟨s, List.mem_of_getElem? h, by simp [hb]⟩
  simp [checkRingF, this]
theorem owns_extS {w w' : World} {base E n sz : Nat} {v : Value} {xs : List Value} (h : w.ownsRow base E sz v n xs) (hx : Ext w w') : w'.ownsRow base E sz v n xs := by
  obtain ⟨h1, h2⟩ := h
  rcases h2 with ⟨rfl, rfl⟩ | ⟨g, cap, cur, rfl, hb, hg, a, b, c, ht⟩
  · exact ⟨h1, .inl ⟨rfl, rfl⟩⟩
  · exact ⟨h1, .inr ⟨g, cap, cur, rfl, hb, ext_heap hx hg, a, b, c, ht⟩⟩
theorem range_ctr {w : World} {g : Nat} {s : Slot} {t : TypeId} (hk : s.key.length = 16) (h : w.heap[g]? = some (.cells (cellsS s).toArray t (0, 0))) : w.rangeAt g 17 (cellsC s.last s.wins) := fun j v hv => by
  rw [cell_of_row w g _ _ t (0, 0) h]
  rw [List.getElem?_toArray, cellsS, show 17 + j = (16 + j) + 1 by omega, List.getElem?_cons_succ, List.getElem?_append_right (by simp [hk]), List.length_map, hk, show 16 + j - 16 = j by omega]; exact hv
theorem range_slots {w : World} {g : Nat} {l : List Slot} {v : Value} {t : TypeId} (h : w.heap[g]? = some (.cells (cellsR l v).toArray t (0, 0))) : w.rangeAt g 0 (cellsSs l) := fun j u hu => by
  have hj := (List.getElem?_eq_some_iff.1 hu).1
  rw [cell_of_row w g _ _ t (0, 0) h, List.getElem?_toArray, cellsR, Nat.zero_add, List.getElem?_append_left hj]; exact hu
theorem owns_capS {w : World} {base E n sz cap : Nat} {a : Option Addr} {xs : List Value} (h : w.ownsRow base E sz (.slice a n cap) n xs) : n ≤ cap := by
  obtain ⟨_, ⟨h, rfl⟩ | ⟨g, cap', cur, h, _, _, hc, _⟩⟩ := h
  · cases h; exact Nat.le_refl _
  · cases h; exact hc
theorem size48 : (Try.prog.info? 48).map (·.size) = some 144 := by kernel_rfl
set_option maxHeartbeats 3200000 in
theorem checkRing_any (l : List Slot) (hl : Ring4 l) (ad : Option Addr) (n c : Nat) (ks : List (List (BitVec 8))) (hn : n = ks.length) (hn2 : n ≤ 1000) (hcap : n ≤ c) (w : World) (hs : SlY w (.slice ad n c) ks) :
    Calls Try.prog 20 #[.agg (cellsR l (.slice ad n c)).toArray] w fun e w' => e = .returned (.int .i64 (checkRingF l ks)) ∧ Ext w w' := by
  have HL := kp hl
  have HS := kp hs
  have HN := kp hn
  have HZ4 := kp (show (Try.prog.info? 48).map (·.size) = some (cellsSs l).length by rw [size48, cellsSs_four l hl])
  have HP := kp (hp_new w (.cells (cellsR l (.slice ad n c)).toArray 51))
  have HR := kp (range_slots HP.out)
  have HC144 := kp (cellsR_past l (.slice ad n c) hl)
  have hix := fun j s hj w => run_index_slot w l hl j s hj
  have HIX := kp hix
  clear hl hs hn hix
  generalize hR : cellsR l (.slice ad n c) = cr at *
  go_enter Try.func20, Try.ntmps20
  generalize h10 : (Code.region 10 _ _ : Code) = R10
  go_wp2_with ((with_reducible show wpList _ _ _ (Oper.mk _ (Op.load 48 _) _ _ _ _ :: _) _ _); (with_reducible refine wpList_load_mid rfl 48 _ rfl (w.heap.size) (0) rfl (cellsSs l) _ (HR.out) Try.underlying48 rfl (HZ4.out) ?_); simp only [Act.put, List.setIfInBounds_toArray, List.set_cons_zero, List.set_cons_succ])
  have H10 := kp h10
  have HRR := kp hR
  clear h10 hR
  have HXW := kp (Ext.alloc w (.cells cr.toArray 51))
  have HB := kp (show w.heap.size < (w.alloc (.cells cr.toArray 51)).heap.size by simp)
  generalize hW : w.alloc (.cells cr.toArray 51) = W at *
  have HW := kp hW
  clear hW
  go_loopw [8, 3] (fun i v3 wr => ∃ j : Nat, j ≤ 4 ∧ i = .int .i64 j ∧ Kp ((l.take j).all okB = true) ∧ Kp (wr.ownsRow W.heap.size 45 16 v3 (keysF (l.take j)).length (flatK (keysF (l.take j)))) ∧ Kp (Ext W wr)) (fun i _ _ => 4 - (intOf i).toNat)
  case atStart => exact ⟨0, by omega, rfl, kp rfl, kp (ownsK_nil _ _), kp (Ext.refl _)⟩
  case round =>
    obtain ⟨j, hj, rfl, HT, HO, HX⟩ := hrel
    by_cases hlt : (j : Int) < 4
    · obtain ⟨s, hs⟩ : ∃ s, l[j]? = some s := ⟨l[j]'(by rw [HL.out.1]; omega), by simp⟩
      have hix := HIX.out j s hs
      have HY := kp hs
      have HOK := kp (HL.out.2 s (List.mem_of_getElem? hs))
      have HZS := kp (sizeSl s HOK.out)
      have HSL := kp (cellsS_len s HOK.out)
      have HON := kp (all_oneCell_toArray (one_cellsS s))
      have HZA := kp (show (Try.prog.info? 47).map (·.size) = some (cellsS s).toArray.size by rw [size47, List.size_toArray, HSL.out])
      clear hs
      generalize h5 : (Code.region 5 _ _ : Code) = R5
      go_wp2_with (first | ((with_reducible show wpList _ _ _ (Oper.mk none (Op.store 47 _ _) _ _ _ _ :: _) _ _); with_reducible refine wpList_st_row rfl rfl 47 _ _ rfl (wr.heap.size) ((cellsS s).toArray) rfl rfl 47 (_) (hp_new _ _) (HZA.out) (by simp [HSL.out]) (HON.out) (by rewrite [setRow_at _ _ _ _ _ _ (by simp <;> omega)]; rfl) ?_))
      have HG5 := kp (hp_new wr (.cells (cellsS s).toArray 47))
      have HX5 := kp (HX.out.trans (Ext.alloc wr (.cells (cellsS s).toArray 47)))
      have HO5 := kp (owns_extS HO.out (Ext.alloc wr (.cells (cellsS s).toArray 47)))
      generalize wr.alloc (.cells (cellsS s).toArray 47) = w5 at *
      generalize wr.heap.size = g at *
      have hc0 : w5.cell? ⟨g, 0, none⟩ = some (.bool s.used) := by rw [cell_of_row w5 g 0 _ _ (0, 0) HG5.out]; rfl
      have HK5 := kp (range_key HG5.out)
      have HC5 := kp (range_ctr HOK.out.1 HG5.out)
      have hne : ∀ w, (binOp .neq 47 (.agg (cellsS s).toArray) (.agg #[Value.bool false, .int .u8 0, .int .u8 0, .int .u8 0, .int .u8 0, .int .u8 0, .int .u8 0, .int .u8 0, .int .u8 0, .int .u8 0, .int .u8 0, .int .u8 0, .int .u8 0, .int .u8 0, .int .u8 0, .int .u8 0, .int .u8 0, .int .i64 0, .int .i64 0, .int .u64 0, .int .i64 0, .int .u64 0, .int .i64 0, .int .u64 0, .int .i64 0, .int .u64 0, .int .i64 0, .int .u64 0, .int .i64 0, .int .u64 0, .int .i64 0, .int .u64 0, .int .i64 0, .int .u64 0, .int .i64 0, .int .u64 0])).run Try.prog w = .ok (.bool (!slotEq s s0)) w := fun w => neSlot w s s0 HOK.out ⟨rfl, rfl⟩
      subst h5
      cases hus : s.used with
      | false =>
        rw [hus] at hc0
        have HGD := kp (show goodB s = false by simp [goodB, hus])
        cases hz : slotEq s s0 with
        | true =>
          rw [hz] at hne
          have HZ0 := kp hz
          clear hz hus
          go_wp2_with ((with_reducible show wpList _ _ _ (Oper.mk _ (Op.load 47 _) _ _ _ _ :: _) _ _); (with_reducible refine wpList_load_row rfl 47 _ rfl (g) rfl 47 ((cellsS s).toArray) (0, 0) _ (HG5.out) Try.underlying47 rfl (HZA.out) ?_); simp only [Act.put, List.setIfInBounds_toArray, List.set_cons_zero, List.set_cons_succ])
          go_roundw
          case rel => exact ⟨j + 1, by omega, by go_num, kp (okTo_succ l j s HY.out HT.out (by simp [okB, HZ0.out])), kp (by rw [keysF_take l j s HY.out, HGD.out]; simpa using HO5.out), HX5⟩
          case measure => simp [intOf]; omega
        | false =>
          rw [hz] at hne
          have HBD := kp (checkRing_bad l ks j s HY.out (by simp [okB, HGD.out, hz]))
          clear hz hus
          go_wp2_with ((with_reducible show wpList _ _ _ (Oper.mk _ (Op.load 47 _) _ _ _ _ :: _) _ _); (with_reducible refine wpList_load_row rfl 47 _ rfl (g) rfl 47 ((cellsS s).toArray) (0, 0) _ (HG5.out) Try.underlying47 rfl (HZA.out) ?_); simp only [Act.put, List.setIfInBounds_toArray, List.set_cons_zero, List.set_cons_succ])
          go_ret
          exact ⟨by rw [HBD.out]; rfl, HXW.out.trans HX5.out⟩
      | true =>
        rw [hus] at hc0
        have HZC := kp (show (Try.prog.info? 29).map (·.size) = some (cellsC s.last s.wins).length by rw [size29, cellsC_len, HOK.out.2])
        have HCK := kp (fun w => check_any s.last s.wins HOK.out.2 w)
        have HGD := kp (show goodB s = (checkF s.last s.wins == 0) by simp [goodB, hus])
        clear hus
        cases checkF_cases s.last s.wins with
        | inl h8 =>
          rw [h8] at HCK HGD
          clear h8
          go_wp2_with (first | ((with_reducible show wpList _ _ _ (Oper.mk _ (Op.load 29 _) _ _ _ _ :: _) _ _); (with_reducible refine wpList_load_midG (by kernel_rfl) 29 _ rfl (g) (17) rfl (cellsC s.last s.wins) _ (HC5.out) Try.underlying29 rfl (HZC.out) ?_); simp only [Act.put, List.setIfInBounds_toArray, List.set_cons_zero, List.set_cons_succ]))
          refine (HCK.out _).mono ?_
          rintro e w6 ⟨rfl, hx6⟩
          have HX6 := kp (HX5.out.trans hx6)
          have HG6 := kp (ext_heap hx6 HG5.out)
          have HO6 := kp (owns_extS HO5.out hx6)
          clear hx6 HC5 HK5 HG5 HO5 HX5 hc0
          cases hz : slotEq s s0 with
          | true =>
            rw [hz] at hne
            have HZ0 := kp hz
            clear hz
            go_wp2_with ((with_reducible show wpList _ _ _ (Oper.mk _ (Op.load 47 _) _ _ _ _ :: _) _ _); (with_reducible refine wpList_load_row rfl 47 _ rfl (g) rfl 47 ((cellsS s).toArray) (0, 0) _ (HG6.out) Try.underlying47 rfl (HZA.out) ?_); simp only [Act.put, List.setIfInBounds_toArray, List.set_cons_zero, List.set_cons_succ])
            go_roundw
            case rel => exact ⟨j + 1, by omega, by go_num, kp (okTo_succ l j s HY.out HT.out (by simp [okB, HZ0.out])), kp (by rw [keysF_take l j s HY.out, HGD.out]; simpa using HO6.out), HX6⟩
            case measure => simp [intOf]; omega
          | false =>
            rw [hz] at hne
            have HBD := kp (checkRing_bad l ks j s HY.out (by simp [okB, HGD.out, hz]))
            clear hz
            go_wp2_with ((with_reducible show wpList _ _ _ (Oper.mk _ (Op.load 47 _) _ _ _ _ :: _) _ _); (with_reducible refine wpList_load_row rfl 47 _ rfl (g) rfl 47 ((cellsS s).toArray) (0, 0) _ (HG6.out) Try.underlying47 rfl (HZA.out) ?_); simp only [Act.put, List.setIfInBounds_toArray, List.set_cons_zero, List.set_cons_succ])
            go_ret
            exact ⟨by rw [HBD.out]; rfl, HXW.out.trans HX6.out⟩
        | inr h0 =>
          rw [h0] at HCK HGD
          clear h0
          go_wp2_with (first | ((with_reducible show wpList _ _ _ (Oper.mk _ (Op.load 29 _) _ _ _ _ :: _) _ _); (with_reducible refine wpList_load_midG (by kernel_rfl) 29 _ rfl (g) (17) rfl (cellsC s.last s.wins) _ (HC5.out) Try.underlying29 rfl (HZC.out) ?_); simp only [Act.put, List.setIfInBounds_toArray, List.set_cons_zero, List.set_cons_succ]))
          refine (HCK.out _).mono ?_
          rintro e w6 ⟨rfl, hx6⟩
          have HX6 := kp (HX5.out.trans hx6)
          have HG6 := kp (ext_heap hx6 HG5.out)
          have HO6 := kp (owns_extS HO5.out hx6)
          clear hx6 HC5 HK5 HG5 HO5 HX5 hc0
          have HK6 := kp (range_key HG6.out)
          have HKL := kp (sizeKl s.key HOK.out.1)
          have hbk := fun w => run_buildKey w s.key HOK.out.1
          have HSY := kp (show SlY (w6.alloc (.cells (s.key.map V8).toArray 45)) (.slice (some ⟨w6.heap.size, 0, none⟩) 1 1) [s.key] from ⟨by simp [HOK.out.1], .inr ⟨w6.heap.size, 0, 1, rfl, by simp, fun i k hi => by
            obtain ⟨rfl, rfl⟩ : i = 0 ∧ k = s.key := by
              cases i with
              | zero => simpa using hi.symm
              | succ i => simp at hi
            intro x u hu
            rw [cell_of_row _ _ _ _ _ (0, 0) (hp_new _ _)]; simpa using hu⟩⟩)
          have HO7 := kp (owns_extS HO6.out (Ext.alloc w6 (.cells (s.key.map V8).toArray 45)))
          have HLN := kp (show (keysF (l.take j)).length + [s.key].length ≤ 10000 by have h1 := keysF_len (l.take j); have h2 := List.length_take_le j l; simp; omega)
          have HBS := kp (show W.heap.size ≤ (w6.alloc (.cells (s.key.map V8).toArray 45)).heap.size by have := HX6.out.size; simp; omega)
          go_wp2_with (first | ((with_reducible show wpList _ _ _ (Oper.mk _ (Op.load 45 _) _ _ _ _ :: _) _ _); (with_reducible refine wpList_load_mid rfl 45 _ rfl (g) (1) rfl (s.key.map V8) _ (HK6.out) Try.underlying45 rfl (HKL.out) ?_); simp only [Act.put, List.setIfInBounds_toArray, List.set_cons_zero, List.set_cons_succ]) | ((with_reducible show wpList _ _ _ (Oper.mk _ (Op.buildSlice _ _ _) _ _ _ _ :: _) _ _); (refine wpList_buildKey rfl _ rfl s.key HOK.out.1 rfl ?_); simp only [Act.put, List.setIfInBounds_toArray, List.set_cons_zero, List.set_cons_succ]) | (at_builtin; refine wpList_append_SlY rfl _ _ rfl W.heap.size _ (keysF (l.take j)) rfl HO7.out _ [s.key] rfl HSY.out HLN.out HBS.out ?_; intro v7 w7 ho7 hg7))
          go_roundw
          case rel => exact ⟨j + 1, by omega, by go_num, kp (okTo_succ l j s HY.out HT.out (by simp [okB, HGD.out])), kp (by rw [keysF_take l j s HY.out, HGD.out]; simpa using ho7), kp ((HX6.out.trans (Ext.alloc _ _)).grown hg7 (fun q hq => owns_blockS HO7.out q hq))⟩
          case measure => simp [intOf]; omega
    · obtain rfl : j = 4 := by omega
      have HT4 := kp (show l.all okB = true by have h := HT.out; rwa [List.take_of_length_le (by rw [HL.out.1]; exact Nat.le_refl _)] at h)
      have HO4 := kp (show wr.ownsRow W.heap.size 45 16 u3 (keysF l).length (flatK (keysF l)) by have h := HO.out; rwa [List.take_of_length_le (by rw [HL.out.1]; exact Nat.le_refl _)] at h)
      clear HO HT
      go_wp2_with fail
      have h10 := H10.out
      subst h10
      have HXA := kp (HXW.out.trans HX.out)
      have HSY := kp (SlY.of_owns (keysF_16 l HL.out.2) HO4.out)
      have HLK := kp (show (keysF l).length ≤ 1000 by have h := keysF_len l; rw [HL.out.1] at h; omega)
      obtain ⟨a3, c3, hv3⟩ := HSY.out.form
      have HCP := kp (show (keysF l).length ≤ c3 by have h := HO4.out; rw [hv3] at h; exact owns_capS h)
      subst hv3
      have HPH := kp (ext_heap HX.out HP.out)
      have hc144 : wr.cell? ⟨w.heap.size, 144, none⟩ = some (.slice ad n c) := by rw [cell_of_row wr _ _ _ _ (0, 0) HPH.out, List.getElem?_toArray, HC144.out]
      have HU1 := kp (unique_any a3 _ c3 (keysF l) rfl HLK.out HCP.out wr HSY.out)
      clear HO4 HPH
      go_wp2_with fail
      refine HU1.out.mono ?_
      rintro e w1 ⟨rfl, hx1⟩
      have HX1 := kp (HXA.out.trans hx1)
      have hc1 : w1.cell? ⟨w.heap.size, 144, none⟩ = some (.slice ad n c) := by rw [hx1.cell (Nat.lt_of_lt_of_le HB.out HX.out.size)]; exact hc144
      have HU2 := kp (unique_any ad n c ks HN.out hn2 hcap w1 (HS.out.ext HX1.out))
      clear hc144 hx1
      have HD := kp (show checkRingF l ks = if uniqB (keysF l) && decide (ks.length ≤ 16) && uniqB ks then 0 else 8 by simp [checkRingF, HT4.out])
      cases hu1 : uniqB (keysF l) with
      | false =>
        rw [hu1] at HD
        clear hu1
        go_wp2_with fail
        go_ret
        exact ⟨by rw [HD.out]; rfl, HX1.out⟩
      | true =>
        rw [hu1] at HD
        clear hu1
        by_cases h16 : n ≤ 16
        · have HD2 := kp (show checkRingF l ks = if uniqB ks then 0 else 8 by rw [HD.out, ← HN.out]; simp [h16])
          go_wp2_with fail
          refine HU2.out.mono ?_
          rintro e w2 ⟨rfl, hx2⟩
          have HX2 := kp (HX1.out.trans hx2)
          clear hx2
          cases hu2 : uniqB ks with
          | false =>
            rw [hu2] at HD2
            clear hu2
            go_wp2_with fail
            go_ret
            exact ⟨by rw [HD2.out]; rfl, HX2.out⟩
          | true =>
            rw [hu2] at HD2
            clear hu2
            go_wp2_with fail
            go_ret
            exact ⟨by rw [HD2.out]; rfl, HX2.out⟩
        · have HD2 := kp (show checkRingF l ks = 8 by rw [HD.out, ← HN.out]; simp [h16])
          go_wp2_with fail
          go_ret
          exact ⟨by rw [HD2.out]; rfl, HX1.out⟩
end Go.Proofs.Ytjnaegpjhbobaaa
