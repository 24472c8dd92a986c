/- Contracts of package hotspotref21's functions: they return what cipher's functions return. -/
import Derived.Test.YtnofmppimihjpaaPlain21
namespace Go.Proofs.Ytnofmppimihjpaa
open Go.RowKit

/-! ### Plain -/
theorem word4_add (a b c d : BitVec 8) : word4 a b c d = a.setWidth 32 + b.setWidth 32 <<< 8 + c.setWidth 32 <<< 16 + d.setWidth 32 <<< 24 := by
  unfold word4
  have e1 : a.setWidth 32 + b.setWidth 32 <<< 8 = a.setWidth 32 ||| b.setWidth 32 <<< 8 := by
    refine BitVec.add_eq_or_of_and_eq_zero _ _ (BitVec.eq_of_getLsbD_eq fun j hj => ?_)
    have h32 : j = 0 ∨ j = 1 ∨ j = 2 ∨ j = 3 ∨ j = 4 ∨ j = 5 ∨ j = 6 ∨ j = 7 ∨ j = 8 ∨ j = 9 ∨ j = 10 ∨ j = 11 ∨ j = 12 ∨ j = 13 ∨ j = 14 ∨ j = 15 ∨ j = 16 ∨ j = 17 ∨ j = 18 ∨ j = 19 ∨ j = 20 ∨ j = 21 ∨ j = 22 ∨ j = 23 ∨ j = 24 ∨ j = 25 ∨ j = 26 ∨ j = 27 ∨ j = 28 ∨ j = 29 ∨ j = 30 ∨ j = 31 := by omega
    rcases h32 with rfl | rfl | rfl | rfl | rfl | rfl | rfl | rfl | rfl | rfl | rfl | rfl | rfl | rfl | rfl | rfl | rfl | rfl | rfl | rfl | rfl | rfl | rfl | rfl | rfl | rfl | rfl | rfl | rfl | rfl | rfl | rfl <;> simp
  have e2 : (a.setWidth 32 ||| b.setWidth 32 <<< 8) + c.setWidth 32 <<< 16 = a.setWidth 32 ||| b.setWidth 32 <<< 8 ||| c.setWidth 32 <<< 16 := by
    refine BitVec.add_eq_or_of_and_eq_zero _ _ (BitVec.eq_of_getLsbD_eq fun j hj => ?_)
    have h32 : j = 0 ∨ j = 1 ∨ j = 2 ∨ j = 3 ∨ j = 4 ∨ j = 5 ∨ j = 6 ∨ j = 7 ∨ j = 8 ∨ j = 9 ∨ j = 10 ∨ j = 11 ∨ j = 12 ∨ j = 13 ∨ j = 14 ∨ j = 15 ∨ j = 16 ∨ j = 17 ∨ j = 18 ∨ j = 19 ∨ j = 20 ∨ j = 21 ∨ j = 22 ∨ j = 23 ∨ j = 24 ∨ j = 25 ∨ j = 26 ∨ j = 27 ∨ j = 28 ∨ j = 29 ∨ j = 30 ∨ j = 31 := by omega
    rcases h32 with rfl | rfl | rfl | rfl | rfl | rfl | rfl | rfl | rfl | rfl | rfl | rfl | rfl | rfl | rfl | rfl | rfl | rfl | rfl | rfl | rfl | rfl | rfl | rfl | rfl | rfl | rfl | rfl | rfl | rfl | rfl | rfl <;> simp
  have e3 : (a.setWidth 32 ||| b.setWidth 32 <<< 8 ||| c.setWidth 32 <<< 16) + d.setWidth 32 <<< 24 = a.setWidth 32 ||| b.setWidth 32 <<< 8 ||| c.setWidth 32 <<< 16 ||| d.setWidth 32 <<< 24 := by
    refine BitVec.add_eq_or_of_and_eq_zero _ _ (BitVec.eq_of_getLsbD_eq fun j hj => ?_)
    have h32 : j = 0 ∨ j = 1 ∨ j = 2 ∨ j = 3 ∨ j = 4 ∨ j = 5 ∨ j = 6 ∨ j = 7 ∨ j = 8 ∨ j = 9 ∨ j = 10 ∨ j = 11 ∨ j = 12 ∨ j = 13 ∨ j = 14 ∨ j = 15 ∨ j = 16 ∨ j = 17 ∨ j = 18 ∨ j = 19 ∨ j = 20 ∨ j = 21 ∨ j = 22 ∨ j = 23 ∨ j = 24 ∨ j = 25 ∨ j = 26 ∨ j = 27 ∨ j = 28 ∨ j = 29 ∨ j = 30 ∨ j = 31 := by omega
    rcases h32 with rfl | rfl | rfl | rfl | rfl | rfl | rfl | rfl | rfl | rfl | rfl | rfl | rfl | rfl | rfl | rfl | rfl | rfl | rfl | rfl | rfl | rfl | rfl | rfl | rfl | rfl | rfl | rfl | rfl | rfl | rfl | rfl <;> simp
  rw [e1, e2, e3]
  simp
theorem word4_int (a b c d : BitVec 8) : ((wI (a.setWidth 32) + 256 * wI (b.setWidth 32) + 65536 * wI (c.setWidth 32)) % 4294967296 + 16777216 * wI (d.setWidth 32) % 4294967296) % 4294967296 = wI (word4 a b c d) := by
  rw [word4_add]
  unfold wI
  simp only [BitVec.toNat_add, BitVec.toNat_shiftLeft, Nat.shiftLeft_eq, BitVec.toNat_setWidth]
  omega
theorem left_rotl (x : BitVec 32) (n : Nat) (h1 : 1 ≤ n) (h2 : n < 32) : x <<< n + x >>> (32 - n) = rotl n x := by
  unfold rotl
  refine BitVec.add_eq_or_of_and_eq_zero _ _ (BitVec.eq_of_getLsbD_eq fun j hj => ?_)
  simp only [BitVec.getLsbD_and, BitVec.getLsbD_shiftLeft, BitVec.getLsbD_ushiftRight, BitVec.getLsbD_zero]
  by_cases hjn : j < n
  · simp [hjn]
  · have : x.getLsbD (32 - n + j) = false := BitVec.getLsbD_of_ge _ _ (by omega)
    simp [this]

/-! ### word, Left -/
set_option maxHeartbeats 400000 in
theorem rword_any (a b c d : BitVec 8) (w : World) : Calls Try.prog 48 #[V8 a, V8 b, V8 c, V8 d] w fun e w' => e = .returned (V32 (word4 a b c d)) ∧ w' = w := by
  go_enter Try.func48, Try.ntmps48
  go_wp2
  go_ret
  exact ⟨ret_int (word4_int a b c d), rfl⟩
set_option maxHeartbeats 400000 in
theorem rleft_nat (x : BitVec 32) (n : Nat) (h1 : 1 ≤ n) (h : n < 32) (w : World) :
    Calls Try.prog 47 #[V32 x, .int .i64 n] w fun e w' => e = .returned (V32 (rotl n x)) ∧ w' = w := by
  have HR := kp (left_rotl x n h1 h)
  have h2 : n ≤ 32 := by omega
  have h3 : 32 - n ≤ 32 := by omega
  have h4 : ((32 : Int) - (n : Int)) = ((32 - n : Nat) : Int) := by omega
  go_enter Try.func47, Try.ntmps47
  go_wp2
  go_ret
  exact ⟨by rw [← HR.out]; rfl, rfl⟩
theorem rleft_any (x : BitVec 32) (n : Int) (h0 : 1 ≤ n) (h : n < 32) (w : World) :
    Calls Try.prog 47 #[V32 x, .int .i64 n] w fun e w' => e = .returned (V32 (rotl n.toNat x)) ∧ w' = w := by
  obtain ⟨m, rfl⟩ := Int.eq_ofNat_of_zero_le (show 0 ≤ n by omega)
  exact rleft_nat x m (by omega) (by omega) w

/-! ### Round, Back -/
set_option maxHeartbeats 400000 in
theorem rround_any (x0 x1 x2 x3 a b : BitVec 32) (w : World) :
    Calls Try.prog 44 #[.agg #[V32 x0, V32 x1, V32 x2, V32 x3], V32 a, V32 b] w
     fun e w' => e = .returned (.agg ((roundF x0 x1 x2 x3 a b).map V32).toArray) ∧ Ext w w' := by
  go_enter Try.func44, Try.ntmps44
  go_wp2
  (first | with_reducible refine region_f2 9 (by kernel_rfl) (by kernel_rfl) (by kernel_rfl) (by kernel_rfl) (by decide) (Nat.le_of_ble_eq_true (by kernel_rfl)) ?_ | refine region_f 9 (by kernel_rfl) (by kernel_rfl) (by kernel_rfl) (by kernel_rfl) (by decide) (Nat.le_of_ble_eq_true (by kernel_rfl)) ?_)
  apply Exists.intro
  refine ⟨fun xz2 => ?_, fun xq2 => ?_⟩
  · simp only [List.take_succ_cons, List.take_zero]
    unfold Cx
    repeat (go_big_quiet_step (exact Calls.cx_of_same (rleft_any _ _ (by decide) (by decide) _)))
    exact wpQuiet_nil rfl
  simp only [List.drop_succ_cons, List.drop_zero]
  go_wp2
  (first | with_reducible refine region_f2 9 (by kernel_rfl) (by kernel_rfl) (by kernel_rfl) (by kernel_rfl) (by decide) (Nat.le_of_ble_eq_true (by kernel_rfl)) ?_ | refine region_f 9 (by kernel_rfl) (by kernel_rfl) (by kernel_rfl) (by kernel_rfl) (by decide) (Nat.le_of_ble_eq_true (by kernel_rfl)) ?_)
  apply Exists.intro
  refine ⟨fun xz3 => ?_, fun xq3 => ?_⟩
  · simp only [List.take_succ_cons, List.take_zero]
    unfold Cx
    repeat (go_big_quiet_step (exact Calls.cx_of_same (rleft_any _ _ (by decide) (by decide) _)))
    exact wpQuiet_nil rfl
  simp only [List.drop_succ_cons, List.drop_zero]
  go_wp2
  (first | with_reducible refine region_f2 8 (by kernel_rfl) (by kernel_rfl) (by kernel_rfl) (by kernel_rfl) (by decide) (Nat.le_of_ble_eq_true (by kernel_rfl)) ?_ | refine region_f 8 (by kernel_rfl) (by kernel_rfl) (by kernel_rfl) (by kernel_rfl) (by decide) (Nat.le_of_ble_eq_true (by kernel_rfl)) ?_)
  apply Exists.intro
  refine ⟨fun xz4 => ?_, fun xq4 => ?_⟩
  · simp only [List.take_succ_cons, List.take_zero]
    unfold Cx
    repeat (go_big_quiet_step (exact Calls.cx_of_same (rleft_any _ _ (by decide) (by decide) _)))
    exact wpQuiet_nil rfl
  simp only [List.drop_succ_cons, List.drop_zero]
  go_wp2
  (first | with_reducible refine region_f2 8 (by kernel_rfl) (by kernel_rfl) (by kernel_rfl) (by kernel_rfl) (by decide) (Nat.le_of_ble_eq_true (by kernel_rfl)) ?_ | refine region_f 8 (by kernel_rfl) (by kernel_rfl) (by kernel_rfl) (by kernel_rfl) (by decide) (Nat.le_of_ble_eq_true (by kernel_rfl)) ?_)
  apply Exists.intro
  refine ⟨fun xz5 => ?_, fun xq5 => ?_⟩
  · simp only [List.take_succ_cons, List.take_zero]
    unfold Cx
    repeat (go_big_quiet_step (exact Calls.cx_of_same (rleft_any _ _ (by decide) (by decide) _)))
    exact wpQuiet_nil rfl
  simp only [List.drop_succ_cons, List.drop_zero]
  go_wp2
  exact ret_row Try.results44 (w.heap.size + 1) 61 (((roundF x0 x1 x2 x3 a b).map V32).toArray) (0, 0) _ rfl (hp_more (hp_at _ _ _ (by simp))) Try.underlying61 rfl (size61) rfl ⟨rfl, ((Ext.alloc _ _).trans (Ext.alloc _ _)).trans (Ext.more _ _)⟩
def rwordsTo (ws : List (BitVec 32)) (k : Nat) : List (BitVec 32) := ws.take k ++ List.replicate (4 - k) 0
theorem rwordsTo_step (ws : List (BitVec 32)) (h : ws.length = 4) (k : Nat) (hk : k < 4) (x : BitVec 32) (hx : ws[k]? = some x) : rwordsTo ws (k + 1) = (rwordsTo ws k).set k x := by
  unfold rwordsTo
  have e : 4 - k = (4 - (k + 1)) + 1 := by omega
  rw [List.take_add_one, hx, e, List.replicate_succ, List.set_append_right _ _ (by simp; omega)]
  simp [Nat.min_eq_left (show k ≤ ws.length by omega)]
theorem rwordsTo_len (ws : List (BitVec 32)) (h : ws.length = 4) (k : Nat) (hk : k ≤ 4) : (rwordsTo ws k).length = 4 := by
  simp [rwordsTo]; omega
theorem rwordsTo_end (ws : List (BitVec 32)) (h : ws.length = 4) : rwordsTo ws 4 = ws := by
  simp [rwordsTo, List.take_of_length_le (show ws.length ≤ 4 by omega)]
theorem wordsF_at (bs : List (BitVec 8)) (h : bs.length = 16) (k : Nat) (hk : k < 4) : ∃ a b c d, bs[4 * k]? = some a ∧ bs[4 * k + 1]? = some b ∧ bs[4 * k + 2]? = some c ∧ bs[4 * k + 3]? = some d ∧ (wordsF bs)[k]? = some (word4 a b c d) := by
  obtain ⟨a0, a1, a2, a3, a4, a5, a6, a7, a8, a9, a10, a11, a12, a13, a14, a15, rfl⟩ := list16 h
  rw [wordsF_lit]
  have h4 : k = 0 ∨ k = 1 ∨ k = 2 ∨ k = 3 := by omega
  rcases h4 with rfl | rfl | rfl | rfl
  · exact ⟨a0, a1, a2, a3, rfl, rfl, rfl, rfl, rfl⟩
  · exact ⟨a4, a5, a6, a7, rfl, rfl, rfl, rfl, rfl⟩
  · exact ⟨a8, a9, a10, a11, rfl, rfl, rfl, rfl, rfl⟩
  · exact ⟨a12, a13, a14, a15, rfl, rfl, rfl, rfl, rfl⟩

set_option maxHeartbeats 400000 in
theorem rwords_any (bs : List (BitVec 8)) (hl : bs.length = 16) (w : World) :
    Calls Try.prog 43 #[.agg (bs.map V8).toArray] w
     fun e w' => e = .returned (.agg ((wordsF bs).map V32).toArray) ∧ Ext w w' := by
  have HL := kp hl
  have HAT := kp (wordsF_at bs hl)
  have HWL := kp (wordsF_len bs)
  generalize hws : wordsF bs = ws at *
  clear hl hws
  go_enter Try.func43, Try.ntmps43
  go_wp2_with fail
  go_loopw [4] (fun i wr => ∃ (k : Nat) (x : Xtra), k ≤ 4 ∧ i = .int .i64 k ∧ wr = more (((w.alloc (.cells (bs.map V8).toArray 38)).alloc (.cells #[.int .u32 0, .int .u32 0, .int .u32 0, .int .u32 0] 61)).alloc (.cells ((rwordsTo ws k).map V32).toArray 61)) x) (fun i _ => 4 - (intOf i).toNat)
  case atStart => exact ⟨0, _, by omega, rfl, by rw [← more_self]; rfl⟩
  case round =>
    obtain ⟨k, x, hk, rfl, rfl⟩ := hrel
    by_cases hlt : k < 4
    · obtain ⟨a, b, c, d, ha, hb, hc, hd, hw⟩ := HAT.out k hlt
      obtain ⟨z, hz⟩ : ∃ z, (rwordsTo ws k)[k]? = some z := ⟨(rwordsTo ws k)[k]'(by rw [rwordsTo_len ws HWL.out k hk]; omega), by simp⟩
      have HN := kp (rwordsTo_step ws HWL.out k hlt _ hw)
      clear hw
      go_wp2_with fail
      (first | with_reducible refine region_f2 22 (by kernel_rfl) (by kernel_rfl) (by kernel_rfl) (by kernel_rfl) (by decide) (Nat.le_of_ble_eq_true (by kernel_rfl)) ?_ | refine region_f 22 (by kernel_rfl) (by kernel_rfl) (by kernel_rfl) (by kernel_rfl) (by decide) (Nat.le_of_ble_eq_true (by kernel_rfl)) ?_)
      apply Exists.intro
      refine ⟨fun xz2 => ?_, fun xq2 => ?_⟩
      · simp only [List.take_succ_cons, List.take_zero]
        unfold Cx
        repeat (go_big_quiet_step (exact Calls.cx_of_same (rword_any _ _ _ _ _)))
        exact wpQuiet_nil rfl
      simp only [List.drop_succ_cons, List.drop_zero]
      go_wp2_with fail
      go_roundw
      case rel => exact ⟨k + 1, _, by omega, by go_num, by rw [HN.out, List.map_set]⟩
      case measure => simp [intOf]; omega
    · obtain rfl : k = 4 := by omega
      rw [rwordsTo_end ws HWL.out]
      have HT := kp (show (Try.prog.info? 61).map (·.size) = some (ws.map V32).toArray.size by rw [size61]; simp [HWL.out])
      go_wp2_with (first | ((with_reducible show wpList _ _ _ (Oper.mk _ (Op.load 61 _) _ _ _ _ :: _) _ _); (with_reducible refine wpList_load_row rfl 61 _ rfl (w.heap.size + 1 + 1) rfl 61 ((ws.map V32).toArray) (0, 0) _ (hp_more (hp_at _ _ _ (by simp))) Try.underlying61 rfl (HT.out) ?_); simp only [Act.put, List.setIfInBounds_toArray, List.set_cons_zero, List.set_cons_succ]) | ((with_reducible show wpList _ _ _ (Oper.mk none (Op.store 61 _ _) _ _ _ _ :: _) _ _); with_reducible refine wpList_st_row rfl rfl 61 _ _ rfl (w.heap.size + 1) ((ws.map V32).toArray) rfl rfl 61 (#[.int .u32 0, .int .u32 0, .int .u32 0, .int .u32 0]) (hp_more (hp_alloc (hp_at _ _ _ (by simp)))) (HT.out) (by simp [HWL.out]) (all_V32 _) (by rewrite [setRow_more _ _ _ _ (by simp <;> omega), setRow_past _ _ _ _ (by simp <;> omega), setRow_at _ _ _ _ _ _ (by simp <;> omega)]; rfl) ?_))
      exact ret_row Try.results43 (w.heap.size + 1) 61 ((ws.map V32).toArray) (0, 0) _ rfl (hp_more (hp_alloc (hp_at _ _ _ (by simp)))) Try.underlying61 rfl (HT.out) rfl ⟨rfl, (((Ext.alloc _ _).trans (Ext.alloc _ _)).trans (Ext.alloc _ _)).trans (Ext.more _ _)⟩

/-! ### Join -/
theorem wI_mod256 (x : BitVec 32) : wI x % 256 = wI (x.setWidth 8) := wI_low x
theorem wI_div256 (x : BitVec 32) (k : Nat) : wI (x >>> (k * 8)) / 256 = wI (x >>> ((k + 1) * 8)) := by
  unfold wI
  simp only [BitVec.toNat_ushiftRight, Nat.shiftRight_eq_div_pow]
  rw [show (k + 1) * 8 = k * 8 + 8 by omega, Nat.pow_add, ← Nat.div_div_eq_div_mul]
  omega
theorem wI_tdiv256 (x : BitVec 32) (k : Nat) : (wI (x >>> (k * 8))).tdiv 256 % 4294967296 = wI (x >>> ((k + 1) * 8)) := by
  have h0 := wI_nonneg (x >>> (k * 8))
  have h1 := wI_lt32 (x >>> (k * 8))
  rw [Int.tdiv_eq_ediv_of_nonneg h0, ← wI_div256]
  omega
theorem wI_mod8 (x : BitVec 8) : wI x % 256 = wI x := by have h0 := wI_nonneg x; have h1 := wI_lt8 x; omega
theorem joinTo_step (xs : List (BitVec 32)) (i k : Nat) (hk : k < 4) (y : BitVec 32) (hy : xs[i]? = some y) : joinTo xs (4 * i + (k + 1)) = (joinTo xs (4 * i + k)).set (4 * i + k) ((y >>> (k * 8)).setWidth 8) := by
  rw [show 4 * i + (k + 1) = (4 * i + k) + 1 by omega, joinTo, show (4 * i + k) / 4 = i by omega, show (4 * i + k) % 4 = k by omega]
  simp [hy]
set_option maxHeartbeats 800000 in
theorem rjoin_any (xs : List (BitVec 32)) (hl : xs.length = 4) (w : World) :
    Calls Try.prog 45 #[.agg (xs.map V32).toArray] w
     fun e w' => e = .returned (.agg ((joinF xs).map V8).toArray) ∧ Ext w w' := by
  have HL := kp hl
  clear hl
  go_enter Try.func45, Try.ntmps45
  go_wp2_with fail
  go_loopw [4] (fun i wr => ∃ (k : Nat) (x : Xtra), k ≤ 4 ∧ i = .int .i64 k ∧ wr = more (((w.alloc (.cells (xs.map V32).toArray 61)).alloc (.cells #[.int .u8 0, .int .u8 0, .int .u8 0, .int .u8 0, .int .u8 0, .int .u8 0, .int .u8 0, .int .u8 0, .int .u8 0, .int .u8 0, .int .u8 0, .int .u8 0, .int .u8 0, .int .u8 0, .int .u8 0, .int .u8 0] 38)).alloc (.cells ((joinTo xs (4 * k)).map V8).toArray 38)) x) (fun i _ => 4 - (intOf i).toNat)
  case atStart => exact ⟨0, _, by omega, rfl, by rw [← more_self]; rfl⟩
  case round =>
    obtain ⟨i, x, hi, rfl, rfl⟩ := hrel
    by_cases hlt : i < 4
    · obtain ⟨y, hy⟩ : ∃ y, xs[i]? = some y := ⟨xs[i]'(by rw [HL.out]; omega), by simp⟩
      have HJ := kp (fun k hk => joinTo_step xs i k hk y hy)
      go_wp2_with fail
      go_loopw [5, 6] (fun v j wr => ∃ (k : Nat) (x : Xtra), k ≤ 4 ∧ j = .int .i64 k ∧ v = .int .u32 (wI (y >>> (k * 8))) ∧ wr = more (((w.alloc (.cells (xs.map V32).toArray 61)).alloc (.cells #[.int .u8 0, .int .u8 0, .int .u8 0, .int .u8 0, .int .u8 0, .int .u8 0, .int .u8 0, .int .u8 0, .int .u8 0, .int .u8 0, .int .u8 0, .int .u8 0, .int .u8 0, .int .u8 0, .int .u8 0, .int .u8 0] 38)).alloc (.cells ((joinTo xs (4 * i + k)).map V8).toArray 38)) x) (fun _ j _ => 4 - (intOf j).toNat)
      case atStart => exact ⟨0, _, by omega, rfl, by simp, rfl⟩
      case round =>
        obtain ⟨k, x, hk, rfl, rfl, rfl⟩ := hrel
        by_cases hlk : k < 4
        · obtain ⟨z, hz⟩ : ∃ z, (joinTo xs (4 * i + k))[4 * i + k]? = some z := ⟨(joinTo xs (4 * i + k))[4 * i + k]'(by rw [joinTo_len]; omega), by simp⟩
          have HD := kp (wI_tdiv256 y k)
          have HM := kp (wI_mod8 ((y >>> (k * 8)).setWidth 8))
          have HN := kp (HJ.out k hlk)
          have hn := wI_nonneg (y >>> (k * 8))
          go_wp2_with fail
          go_roundw
          case rel => exact ⟨k + 1, _, by omega, by go_num, by rw [HD.out], by rw [HN.out, List.map_set, HM.out]⟩
          case measure => simp [intOf]; omega
        · obtain rfl : k = 4 := by omega
          have HE := kp (show joinTo xs (4 * (i + 1)) = joinTo xs (4 * i + 4) from rfl)
          go_wp2_with fail
          go_roundw
          case rel => exact ⟨i + 1, _, by omega, by go_num, by rw [HE.out]⟩
          case measure => simp [intOf]; omega
    · obtain rfl : i = 4 := by omega
      have HT := kp (show (Try.prog.info? 38).map (·.size) = some ((joinTo xs 16).map V8).toArray.size by rw [size38]; simp [joinTo_len])
      have e16 : 4 * 4 = 16 := rfl
      rw [e16]
      clear e16
      go_wp2_with (first | ((with_reducible show wpList _ _ _ (Oper.mk _ (Op.load 38 _) _ _ _ _ :: _) _ _); (with_reducible refine wpList_load_row rfl 38 _ rfl (w.heap.size + 1 + 1) rfl 38 (((joinTo xs 16).map V8).toArray) (0, 0) _ (hp_more (hp_at _ _ _ (by simp))) Try.underlying38 rfl (HT.out) ?_); simp only [Act.put, List.setIfInBounds_toArray, List.set_cons_zero, List.set_cons_succ]) | ((with_reducible show wpList _ _ _ (Oper.mk none (Op.store 38 _ _) _ _ _ _ :: _) _ _); with_reducible refine wpList_st_row rfl rfl 38 _ _ rfl (w.heap.size + 1) (((joinTo xs 16).map V8).toArray) rfl rfl 38 (#[.int .u8 0, .int .u8 0, .int .u8 0, .int .u8 0, .int .u8 0, .int .u8 0, .int .u8 0, .int .u8 0, .int .u8 0, .int .u8 0, .int .u8 0, .int .u8 0, .int .u8 0, .int .u8 0, .int .u8 0, .int .u8 0]) (hp_more (hp_alloc (hp_at _ _ _ (by simp)))) (HT.out) (by simp [joinTo_len]) (all_V8 _) (by rewrite [setRow_more _ _ _ _ (by simp <;> omega), setRow_past _ _ _ _ (by simp <;> omega), setRow_at _ _ _ _ _ _ (by simp <;> omega)]; rfl) ?_))
      exact ret_row Try.results45 (w.heap.size + 1) 38 (((joinTo xs 16).map V8).toArray) (0, 0) _ rfl (hp_more (hp_alloc (hp_at _ _ _ (by simp)))) Try.underlying38 rfl (HT.out) rfl ⟨rfl, (((Ext.alloc _ _).trans (Ext.alloc _ _)).trans (Ext.alloc _ _)).trans (Ext.more _ _)⟩

/-! ### Schedule -/
def rschedTo (ws : List (BitVec 32)) (k : Nat) : List (BitVec 32) := if k < 4 then ws.take k ++ List.replicate (36 - k) 0 else schedTo ws (k - 4)
theorem rschedTo_len (ws : List (BitVec 32)) (h : ws.length = 4) (k : Nat) : (rschedTo ws k).length = 36 := by
  unfold rschedTo; split
  · simp; omega
  · rw [schedTo_len, h]
theorem rschedTo_low (ws : List (BitVec 32)) (h : ws.length = 4) (k : Nat) (hk : k < 4) (x : BitVec 32) (hx : ws[k]? = some x) : rschedTo ws (k + 1) = (rschedTo ws k).set k x := by
  have e : ws.take (k + 1) ++ List.replicate (36 - (k + 1)) 0 = (ws.take k ++ List.replicate (36 - k) 0).set k x := by
    have e : 36 - k = (36 - (k + 1)) + 1 := by omega
    rw [List.take_add_one, hx, e, List.replicate_succ, List.set_append_right _ _ (by simp; omega)]
    simp [Nat.min_eq_left (show k ≤ ws.length by omega)]
  unfold rschedTo
  rw [if_pos hk, ← e]
  split
  · rfl
  · obtain rfl : k = 3 := by omega
    simp [schedTo, List.take_of_length_le (show ws.length ≤ 4 by omega)]
theorem rschedTo_high (ws : List (BitVec 32)) (k : Nat) (y z : BitVec 32) (hy : (rschedTo ws (k + 4))[k]? = some y) (hz : (rschedTo ws (k + 4))[k + 3]? = some z) :
    rschedTo ws (k + 4 + 1) = (rschedTo ws (k + 4)).set (k + 4) (y + (rotl 7 z ^^^ schedC (k + 4))) := by
  have e : ∀ m, rschedTo ws (m + 4) = schedTo ws m := fun m => by
    unfold rschedTo; rw [if_neg (by omega), show m + 4 - 4 = m by omega]
  rw [e] at hy hz
  rw [show k + 4 + 1 = (k + 1) + 4 by omega, e, e, schedTo]
  simp [hy, hz]

set_option maxHeartbeats 1600000 in
theorem rschedule_any (bs : List (BitVec 8)) (hl : bs.length = 16) (w : World) :
    Calls Try.prog 42 #[.agg (bs.map V8).toArray] w
     fun e w' => e = .returned (.agg ((schedF bs).map V32).toArray) ∧ Ext w w' := by
  have HS := kp (show (Try.prog.info? 23).map (·.size) = some (bs.map V8).toArray.size by rw [size23]; simp [hl])
  have HWC := kp (rwords_any bs hl)
  have HWL := kp (wordsF_len bs)
  have HSF := kp (show schedF bs = rschedTo (wordsF bs) 36 from rfl)
  generalize hws : wordsF bs = ws at *
  clear hl hws
  have HT := kp (show (Try.prog.info? 61).map (·.size) = some (ws.map V32).toArray.size by rw [size61]; simp [HWL.out])
  go_enter Try.func42, Try.ntmps42
  go_wp2_with (first | ((with_reducible show wpList _ _ _ (Oper.mk _ (Op.load 23 _) _ _ _ _ :: _) _ _); (with_reducible refine wpList_load_row rfl 23 _ rfl (w.heap.size) rfl 23 ((bs.map V8).toArray) (0, 0) _ (hp_alloc (hp_alloc (hp_new _ _))) Try.underlying23 rfl (HS.out) ?_); simp only [Act.put, List.setIfInBounds_toArray, List.set_cons_zero, List.set_cons_succ]) | (go_at_call 43; refine (HWC.out _).mono ?_; rintro e w' ⟨rfl, xa, rfl⟩) | ((with_reducible show wpList _ _ _ (Oper.mk none (Op.store 61 _ _) _ _ _ _ :: _) _ _); with_reducible refine wpList_st_row rfl rfl 61 _ _ rfl (_) ((ws.map V32).toArray) rfl rfl 61 (#[.int .u32 0, .int .u32 0, .int .u32 0, .int .u32 0]) (hp_at _ _ _ (by simp)) (HT.out) (by simp [HWL.out]) (all_V32 _) (by rewrite [setRow_at _ _ _ _ _ _ (by simp <;> omega)]; rfl) ?_))
  go_loopw [5] (fun i wr => ∃ (k : Nat) (x : Xtra), k ≤ 36 ∧ i = .int .i64 k ∧ wr = more ((more (((w.alloc (.cells (bs.map V8).toArray 23)).alloc (.cells #[.int .u32 0, .int .u32 0, .int .u32 0, .int .u32 0, .int .u32 0, .int .u32 0, .int .u32 0, .int .u32 0, .int .u32 0, .int .u32 0, .int .u32 0, .int .u32 0, .int .u32 0, .int .u32 0, .int .u32 0, .int .u32 0, .int .u32 0, .int .u32 0, .int .u32 0, .int .u32 0, .int .u32 0, .int .u32 0, .int .u32 0, .int .u32 0, .int .u32 0, .int .u32 0, .int .u32 0, .int .u32 0, .int .u32 0, .int .u32 0, .int .u32 0, .int .u32 0, .int .u32 0, .int .u32 0, .int .u32 0, .int .u32 0] 59)).alloc (.cells ((rschedTo ws k).map V32).toArray 59)) xa).alloc (.cells (ws.map V32).toArray 61)) x) (fun i _ => 36 - (intOf i).toNat)
  case atStart => exact ⟨0, _, by omega, rfl, by rw [← more_self]; rfl⟩
  case round =>
    obtain ⟨k, x, hk, rfl, rfl⟩ := hrel
    by_cases hlt : k < 36
    · obtain ⟨o, ho⟩ : ∃ o, (rschedTo ws k)[k]? = some o := ⟨(rschedTo ws k)[k]'(by rw [rschedTo_len ws HWL.out]; omega), by simp⟩
      by_cases h4 : k < 4
      · obtain ⟨y, hy⟩ : ∃ y, ws[k]? = some y := ⟨ws[k]'(by rw [HWL.out]; omega), by simp⟩
        have HN := kp (rschedTo_low ws HWL.out k h4 y hy)
        go_wp2_with fail
        go_roundw
        case rel => exact ⟨k + 1, _, by omega, by go_num, by rw [HN.out, List.map_set]⟩
        case measure => simp [intOf]; omega
      · obtain ⟨j, rfl⟩ : ∃ j, k = j + 4 := ⟨k - 4, by omega⟩
        obtain ⟨y, hy⟩ : ∃ y, (rschedTo ws (j + 4))[j]? = some y := ⟨(rschedTo ws (j + 4))[j]'(by rw [rschedTo_len ws HWL.out]; omega), by simp⟩
        obtain ⟨z, hz⟩ : ∃ z, (rschedTo ws (j + 4))[j + 3]? = some z := ⟨(rschedTo ws (j + 4))[j + 3]'(by rw [rschedTo_len ws HWL.out]; omega), by simp⟩
        have HN := kp (rschedTo_high ws j y z hy hz)
        have hc := schedC_int j (by omega)
        have hcast : ((j + 4 : Nat) : Int) = (j : Int) + 4 := by omega
        rw [hcast]
        clear hcast
        go_wp2_with fail
        (first | with_reducible refine region_f2 17 (by kernel_rfl) (by kernel_rfl) (by kernel_rfl) (by kernel_rfl) (by decide) (Nat.le_of_ble_eq_true (by kernel_rfl)) ?_ | refine region_f 17 (by kernel_rfl) (by kernel_rfl) (by kernel_rfl) (by kernel_rfl) (by decide) (Nat.le_of_ble_eq_true (by kernel_rfl)) ?_)
        apply Exists.intro
        refine ⟨fun xz2 => ?_, fun xq2 => ?_⟩
        · simp only [List.take_succ_cons, List.take_zero]
          unfold Cx
          repeat (go_big_quiet_step (exact Calls.cx_of_same (rleft_any _ _ (by decide) (by decide) _)))
          exact wpQuiet_nil rfl
        simp only [List.drop_succ_cons, List.drop_zero]
        go_wp2_with fail
        go_roundw
        case rel => exact ⟨j + 4 + 1, _, by omega, by go_num, by rw [HN.out, List.map_set]⟩
        case measure => simp [intOf]; omega
    · obtain rfl : k = 36 := by omega
      have HRL := kp (rschedTo_len ws HWL.out 36)
      generalize hss : rschedTo ws 36 = ss at *
      clear hss
      have HU := kp (show (Try.prog.info? 59).map (·.size) = some (ss.map V32).toArray.size by rw [size59]; simp [HRL.out])
      go_wp2_with (first | ((with_reducible show wpList _ _ _ (Oper.mk _ (Op.load 59 _) _ _ _ _ :: _) _ _); (with_reducible refine wpList_load_row rfl 59 _ rfl (w.heap.size + 1 + 1) rfl 59 ((ss.map V32).toArray) (0, 0) _ (hp_more (hp_alloc (hp_more (hp_at _ _ _ (by simp))))) Try.underlying59 rfl (HU.out) ?_); simp only [Act.put, List.setIfInBounds_toArray, List.set_cons_zero, List.set_cons_succ]) | ((with_reducible show wpList _ _ _ (Oper.mk none (Op.store 59 _ _) _ _ _ _ :: _) _ _); with_reducible refine wpList_st_row rfl rfl 59 _ _ rfl (w.heap.size + 1) ((ss.map V32).toArray) rfl rfl 59 (#[.int .u32 0, .int .u32 0, .int .u32 0, .int .u32 0, .int .u32 0, .int .u32 0, .int .u32 0, .int .u32 0, .int .u32 0, .int .u32 0, .int .u32 0, .int .u32 0, .int .u32 0, .int .u32 0, .int .u32 0, .int .u32 0, .int .u32 0, .int .u32 0, .int .u32 0, .int .u32 0, .int .u32 0, .int .u32 0, .int .u32 0, .int .u32 0, .int .u32 0, .int .u32 0, .int .u32 0, .int .u32 0, .int .u32 0, .int .u32 0, .int .u32 0, .int .u32 0, .int .u32 0, .int .u32 0, .int .u32 0, .int .u32 0]) (hp_more (hp_alloc (hp_more (hp_alloc (hp_at _ _ _ (by simp)))))) (HU.out) (by rw [zero36]; simp [HRL.out]) (all_V32 _) (by rewrite [setRow_more _ _ _ _ (by simp <;> omega), setRow_past _ _ _ _ (by simp <;> omega), setRow_more _ _ _ _ (by simp <;> omega), setRow_past _ _ _ _ (by simp <;> omega), setRow_at _ _ _ _ _ _ (by simp <;> omega)]; rfl) ?_))
      exact ret_row Try.results42 (w.heap.size + 1) 59 ((ss.map V32).toArray) (0, 0) _ rfl (hp_more (hp_alloc (hp_more (hp_alloc (hp_at _ _ _ (by simp)))))) Try.underlying59 rfl (HU.out) rfl ⟨by rw [HSF.out], (((((Ext.alloc _ _).trans (Ext.alloc _ _)).trans (Ext.alloc _ _)).trans (Ext.more _ _)).trans (Ext.alloc _ _)).trans (Ext.more _ _)⟩
end Go.Proofs.Ytnofmppimihjpaa
