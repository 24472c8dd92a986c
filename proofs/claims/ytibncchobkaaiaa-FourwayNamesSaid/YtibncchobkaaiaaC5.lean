/- Texts of this proof, put together: Cipher, ComB. -/
import Derived.Test.YtibncchobkaaiaaProg
import Derived.Test.YtibncchobkaaiaaC2
import Derived.Outline
import Derived.LoopTactic
import Derived.Test.YtibncchobkaaiaaC4
import Derived.Test.YtibncchobkaaiaaC1
namespace Go.Proofs.Ytibncchobkaaiaa
open Go.RowKit
set_option maxHeartbeats 400000 in
theorem rot_nat (x : BitVec 32) (n : Nat) (h : n < 32) (w : World) :
  Calls Try.prog 111 #[V32 x, .int .i64 n] w fun e w' => e = .returned (V32 (rotl n x)) ∧ w' = w := by
 have h1 := and31 n h
 have h2 : n ≤ 32 := by omega
 have h3 : 32 - n ≤ 32 := by omega
 have h4 : ((32 : Int) - (n : Int)) = ((32 - n : Nat) : Int) := by omega
 go_enter Try.func111, Try.ntmps111
 go_wp2
 go_ret
 exact ⟨rfl, rfl⟩
theorem rot_any (x : BitVec 32) (n : Int) (h0 : 0 ≤ n) (h : n < 32) (w : World) :
  Calls Try.prog 111 #[V32 x, .int .i64 n] w fun e w' => e = .returned (V32 (rotl n.toNat x)) ∧ w' = w := by
 obtain ⟨m, rfl⟩ := Int.eq_ofNat_of_zero_le h0
 exact rot_nat x m (by omega) w
def roundF (x0 x1 x2 x3 a b : BitVec 32) : List (BitVec 32) :=
 [x1 ^^^ rotl 13 (x2 + (rotl 9 x3 ^^^ b) + a), x2 + (rotl 9 x3 ^^^ b), x3 ^^^ rotl 19 (x0 + (rotl 5 x1 ^^^ a) + b), x0 + (rotl 5 x1 ^^^ a)]
theorem size148 : (Try.prog.info? 148).map (·.size) = some 4 := by kernel_rfl
set_option maxHeartbeats 400000 in
theorem round_any (x0 x1 x2 x3 a b : BitVec 32) (w : World) :
  Calls Try.prog 100 #[.agg #[V32 x0, V32 x1, V32 x2, V32 x3], V32 a, V32 b] w
   fun e w' => e = .returned (.agg ((roundF x0 x1 x2 x3 a b).map V32).toArray) ∧ Ext w w' := by
 go_enter Try.func100, Try.ntmps100
 go_wp2
 (first | with_reducible refine region_f2 9 (by kernel_rfl) (by kernel_rfl) (by kernel_rfl) (by kernel_rfl) (by decide) (Nat.le_of_ble_eq_true (by kernel_rfl)) ?_ | refine region_f 9 (by kernel_rfl) (by kernel_rfl) (by kernel_rfl) (by kernel_rfl) (by decide) (Nat.le_of_ble_eq_true (by kernel_rfl)) ?_)
 apply Exists.intro
 refine ⟨fun xz2 => ?_, fun xq2 => ?_⟩
 ·simp only [List.take_succ_cons, List.take_zero]
  unfold Cx
  repeat (go_big_quiet_step (exact Calls.cx_of_same (rot_any _ _ (by decide) (by decide) _)))
  exact wpQuiet_nil rfl
 simp only [List.drop_succ_cons, List.drop_zero]
 go_wp2
 (first | with_reducible refine region_f2 9 (by kernel_rfl) (by kernel_rfl) (by kernel_rfl) (by kernel_rfl) (by decide) (Nat.le_of_ble_eq_true (by kernel_rfl)) ?_ | refine region_f 9 (by kernel_rfl) (by kernel_rfl) (by kernel_rfl) (by kernel_rfl) (by decide) (Nat.le_of_ble_eq_true (by kernel_rfl)) ?_)
 apply Exists.intro
 refine ⟨fun xz3 => ?_, fun xq3 => ?_⟩
 ·simp only [List.take_succ_cons, List.take_zero]
  unfold Cx
  repeat (go_big_quiet_step (exact Calls.cx_of_same (rot_any _ _ (by decide) (by decide) _)))
  exact wpQuiet_nil rfl
 simp only [List.drop_succ_cons, List.drop_zero]
 go_wp2
 (first | with_reducible refine region_f2 9 (by kernel_rfl) (by kernel_rfl) (by kernel_rfl) (by kernel_rfl) (by decide) (Nat.le_of_ble_eq_true (by kernel_rfl)) ?_ | refine region_f 9 (by kernel_rfl) (by kernel_rfl) (by kernel_rfl) (by kernel_rfl) (by decide) (Nat.le_of_ble_eq_true (by kernel_rfl)) ?_)
 apply Exists.intro
 refine ⟨fun xz4 => ?_, fun xq4 => ?_⟩
 ·simp only [List.take_succ_cons, List.take_zero]
  unfold Cx
  repeat (go_big_quiet_step (exact Calls.cx_of_same (rot_any _ _ (by decide) (by decide) _)))
  exact wpQuiet_nil rfl
 simp only [List.drop_succ_cons, List.drop_zero]
 go_wp2
 (first | with_reducible refine region_f2 9 (by kernel_rfl) (by kernel_rfl) (by kernel_rfl) (by kernel_rfl) (by decide) (Nat.le_of_ble_eq_true (by kernel_rfl)) ?_ | refine region_f 9 (by kernel_rfl) (by kernel_rfl) (by kernel_rfl) (by kernel_rfl) (by decide) (Nat.le_of_ble_eq_true (by kernel_rfl)) ?_)
 apply Exists.intro
 refine ⟨fun xz5 => ?_, fun xq5 => ?_⟩
 ·simp only [List.take_succ_cons, List.take_zero]
  unfold Cx
  repeat (go_big_quiet_step (exact Calls.cx_of_same (rot_any _ _ (by decide) (by decide) _)))
  exact wpQuiet_nil rfl
 simp only [List.drop_succ_cons, List.drop_zero]
 go_wp2
 exact ret_row Try.results100 (w.heap.size + 1) 148 ((roundF x0 x1 x2 x3 a b).map V32).toArray (0, 0) _ rfl (hp_more (hp_at _ _ _ (by simp))) Try.underlying148 rfl size148 rfl ⟨rfl, ((Ext.alloc _ _).trans (Ext.alloc _ _)).trans (Ext.more _ _)⟩
def wordsTo (bs : List (BitVec 8)) : Nat → List (BitVec 32)
 | 0 => [0, 0, 0, 0]
 | k + 1 => (wordsTo bs k).set (k / 4) ((wordsTo bs k).getD (k / 4) 0 ||| (bs.getD k 0).setWidth 32 <<< (k % 4 * 8))
theorem wordsTo_len (bs : List (BitVec 8)) : ∀ k, (wordsTo bs k).length = 4
 | 0 => rfl
 | k + 1 => by rw [wordsTo, List.length_set]; exact wordsTo_len bs k
def wordsF (bs : List (BitVec 8)) : List (BitVec 32) := wordsTo bs 16
theorem size115 : (Try.prog.info? 115).map (·.size) = some 16 := by kernel_rfl
theorem size5 : (Try.prog.info? 5).map (·.size) = some 1 := by kernel_rfl
theorem size145 : (Try.prog.info? 145).map (·.size) = some 1 := by kernel_rfl
set_option maxHeartbeats 400000 in
theorem words_any (bs : List (BitVec 8)) (hl : bs.length = 16) (w : World) :
  Calls Try.prog 99 #[.agg (bs.map V8).toArray] w
   fun e w' => e = .returned (.agg ((wordsF bs).map V32).toArray) ∧ Ext w w' := by
 have HS := kp (show (Try.prog.info? 115).map (·.size) = some (bs.map V8).toArray.size by rw [size115]; simp [hl])
 have HL := kp hl
 clear hl
 go_enter Try.func99, Try.ntmps99
 go_wp2_with (with_reducible refine wpList_load_row rfl 115 _ rfl w.heap.size rfl 115 (bs.map V8).toArray (0, 0) _ (hp_alloc (hp_new _ _)) Try.underlying115 rfl HS.out ?_)
 go_loopw [6] (fun i wr => ∃ (k : Nat) (x : Xtra), k ≤ 16 ∧ i = .int .i64 k ∧ wr = more ((w.alloc (.cells (bs.map V8).toArray 115)).alloc (.cells ((wordsTo bs k).map V32).toArray 148)) x) (fun i _ => 16 - (intOf i).toNat)
 case atStart => exact ⟨0, _, by omega, rfl, by rw [← more_self]; rfl⟩
 case round =>
  obtain ⟨k, x, hk, rfl, rfl⟩ := hrel
  by_cases hlt : k < 16
  ·obtain ⟨b, hb⟩ : ∃ b, bs[k]? = some b := ⟨bs[k]'(by rw [HL.out]; omega), by simp⟩
   obtain ⟨y, hy⟩ : ∃ y, (wordsTo bs k)[k / 4]? = some y := ⟨(wordsTo bs k)[k / 4]'(by rw [wordsTo_len]; omega), by simp⟩
   have hix := fun w => run_index_arr (P := Try.prog) w Try.underlying115 Try.underlying5 rfl size5 (bs.map V8).toArray .i64 k (V8 b) hlt (by simp [hb])
   have HN := kp (show wordsTo bs (k + 1) = (wordsTo bs k).set (k / 4) (y ||| b.setWidth 32 <<< (k % 4 * 8)) by rw [wordsTo]; simp [hy, hb])
   go_wp2_with fail
   (first | with_reducible refine region_f2 12 (by kernel_rfl) (by kernel_rfl) (by kernel_rfl) (by kernel_rfl) (by decide) (Nat.le_of_ble_eq_true (by kernel_rfl)) ?_ | refine region_f 12 (by kernel_rfl) (by kernel_rfl) (by kernel_rfl) (by kernel_rfl) (by decide) (Nat.le_of_ble_eq_true (by kernel_rfl)) ?_)
   apply Exists.intro
   refine ⟨fun xz2 => ?_, fun xq2 => ?_⟩
   ·simp only [List.take_succ_cons, List.take_zero]
    unfold Cx
    repeat (go_big_quiet_step (fail))
    exact wpQuiet_nil rfl
   simp only [List.drop_succ_cons, List.drop_zero]
   go_wp2_with fail
   go_roundw
   case rel => exact ⟨k + 1, _, by omega, by go_num, by rw [HN.out, List.map_set]⟩
   case measure => simp [intOf]; omega
  ·obtain rfl : k = 16 := by omega
   have HT := kp (show (Try.prog.info? 148).map (·.size) = some ((wordsTo bs 16).map V32).toArray.size by rw [size148]; simp [wordsTo_len])
   go_wp2_with (first | ((with_reducible refine isLd 148 ?_); (with_reducible refine wpList_load_row rfl 148 _ rfl (w.heap.size + 1) rfl 148 (((wordsTo bs 16).map V32).toArray) (0, 0) _ (hp_more (hp_at _ _ _ (by simp))) Try.underlying148 rfl (HT.out) ?_); simp only [Act.put, sbA, szA, ssA]) | ((with_reducible refine isSt 148 ?_); with_reducible refine wpList_st_row rfl rfl 148 _ _ rfl (w.heap.size + 1) (((wordsTo bs 16).map V32).toArray) rfl rfl 148 (((wordsTo bs 16).map V32).toArray) (hp_more (hp_at _ _ _ (by simp))) (HT.out) (rfl) (all_V32 _) (by rewrite [setRow_more _ _ _ _ (by first | assumption | (simp <;> omega)), setRow_at _ _ _ _ _ _ (by simp <;> omega)]; rfl) ?_))
   exact ret_row Try.results99 (w.heap.size + 1) 148 (((wordsTo bs 16).map V32).toArray) (0, 0) _ rfl (hp_more (hp_at _ _ _ (by simp))) Try.underlying148 rfl (HT.out) rfl ⟨rfl, ((Ext.alloc _ _).trans (Ext.alloc _ _)).trans (Ext.more _ _)⟩
def joinTo (xs : List (BitVec 32)) : Nat → List (BitVec 8)
 | 0 => List.replicate 16 0
 | k + 1 => (joinTo xs k).set k ((xs.getD (k / 4) 0 >>> (k % 4 * 8)).setWidth 8)
theorem joinTo_len (xs : List (BitVec 32)) : ∀ k, (joinTo xs k).length = 16
 | 0 => rfl
 | k + 1 => by rw [joinTo, List.length_set]; exact joinTo_len xs k
def joinF (xs : List (BitVec 32)) : List (BitVec 8) := joinTo xs 16
set_option maxHeartbeats 400000 in
theorem join_any (xs : List (BitVec 32)) (hl : xs.length = 4) (w : World) :
  Calls Try.prog 101 #[.agg (xs.map V32).toArray] w
   fun e w' => e = .returned (.agg ((joinF xs).map V8).toArray) ∧ Ext w w' := by
 have HL := kp hl
 clear hl
 go_enter Try.func101, Try.ntmps101
 go_wp2_with fail
 go_loopw [4] (fun i wr => ∃ (k : Nat) (x : Xtra), k ≤ 16 ∧ i = .int .i64 k ∧ wr = more ((w.alloc (.cells (xs.map V32).toArray 148)).alloc (.cells ((joinTo xs k).map V8).toArray 115)) x) (fun i _ => 16 - (intOf i).toNat)
 case atStart => exact ⟨0, _, by omega, rfl, by rw [← more_self]; rfl⟩
 case round =>
  obtain ⟨k, x, hk, rfl, rfl⟩ := hrel
  by_cases hlt : k < 16
  ·obtain ⟨y, hy⟩ : ∃ y, xs[k / 4]? = some y := ⟨xs[k / 4]'(by rw [HL.out]; omega), by simp⟩
   obtain ⟨z, hz⟩ : ∃ z, (joinTo xs k)[k]? = some z := ⟨(joinTo xs k)[k]'(by rw [joinTo_len]; omega), by simp⟩
   have HN := kp (show joinTo xs (k + 1) = (joinTo xs k).set k ((y >>> (k % 4 * 8)).setWidth 8) by rw [joinTo]; simp [hy])
   go_wp2_with fail
   go_roundw
   case rel => exact ⟨k + 1, _, by omega, by go_num, by rw [HN.out, List.map_set]⟩
   case measure => simp [intOf]; omega
  ·obtain rfl : k = 16 := by omega
   have HT := kp (show (Try.prog.info? 115).map (·.size) = some ((joinTo xs 16).map V8).toArray.size by rw [size115]; simp [joinTo_len])
   go_wp2_with (first | ((with_reducible refine isLd 115 ?_); (with_reducible refine wpList_load_row rfl 115 _ rfl (w.heap.size + 1) rfl 115 (((joinTo xs 16).map V8).toArray) (0, 0) _ (hp_more (hp_at _ _ _ (by simp))) Try.underlying115 rfl (HT.out) ?_); simp only [Act.put, sbA, szA, ssA]) | ((with_reducible refine isSt 115 ?_); with_reducible refine wpList_st_row rfl rfl 115 _ _ rfl (w.heap.size + 1) (((joinTo xs 16).map V8).toArray) rfl rfl 115 (((joinTo xs 16).map V8).toArray) (hp_more (hp_at _ _ _ (by simp))) (HT.out) (rfl) (all_V8 _) (by rewrite [setRow_more _ _ _ _ (by first | assumption | (simp <;> omega)), setRow_at _ _ _ _ _ _ (by simp <;> omega)]; rfl) ?_))
   exact ret_row Try.results101 (w.heap.size + 1) 115 (((joinTo xs 16).map V8).toArray) (0, 0) _ rfl (hp_more (hp_at _ _ _ (by simp))) Try.underlying115 rfl (HT.out) rfl ⟨rfl, ((Ext.alloc _ _).trans (Ext.alloc _ _)).trans (Ext.more _ _)⟩
def maskTo (xs ws : List (BitVec 32)) : Nat → List (BitVec 32)
 | 0 => xs
 | k + 1 => (maskTo xs ws k).set k ((maskTo xs ws k).getD k 0 ^^^ ws.getD k 0)
theorem maskTo_len (xs ws : List (BitVec 32)) : ∀ k, (maskTo xs ws k).length = xs.length
 | 0 => rfl
 | k + 1 => by rw [maskTo, List.length_set]; exact maskTo_len xs ws k
def maskF (xs ws : List (BitVec 32)) : List (BitVec 32) := maskTo xs ws 4
set_option maxHeartbeats 400000 in
theorem mask_any (xs ws : List (BitVec 32)) (hl : xs.length = 4) (hw : ws.length = 36) (w : World) :
  Calls Try.prog 98 #[.agg (xs.map V32).toArray, .agg (ws.map V32).toArray] w
   fun e w' => e = .returned (.agg ((maskF xs ws).map V32).toArray) ∧ Ext w w' := by
 have HL := kp hl
 have HW := kp hw
 clear hl hw
 go_enter Try.func98, Try.ntmps98
 go_wp2_with fail
 go_loopw [6] (fun i wr => ∃ (k : Nat) (x : Xtra), k ≤ 4 ∧ i = .int .i64 k ∧ wr = more (((w.alloc (.cells ((maskTo xs ws k).map V32).toArray 148)).alloc (.cells (ws.map V32).toArray 146)).alloc (.cells #[.int .u32 0, .int .u32 0, .int .u32 0, .int .u32 0] 148)) x) (fun i _ => 4 - (intOf i).toNat)
 case atStart => exact ⟨0, _, by omega, rfl, by rw [← more_self]; rfl⟩
 case round =>
  obtain ⟨k, x, hk, rfl, rfl⟩ := hrel
  by_cases hlt : k < 4
  ·obtain ⟨y, hy⟩ : ∃ y, (maskTo xs ws k)[k]? = some y := ⟨(maskTo xs ws k)[k]'(by rw [maskTo_len, HL.out]; omega), by simp⟩
   obtain ⟨z, hz⟩ : ∃ z, ws[k]? = some z := ⟨ws[k]'(by rw [HW.out]; omega), by simp⟩
   have HN := kp (show maskTo xs ws (k + 1) = (maskTo xs ws k).set k (y ^^^ z) by rw [maskTo]; simp [hy, hz])
   have hk36 : k < 36 := by omega
   go_wp2_with fail
   (first | with_reducible refine region_f2 8 (by kernel_rfl) (by kernel_rfl) (by kernel_rfl) (by kernel_rfl) (by decide) (Nat.le_of_ble_eq_true (by kernel_rfl)) ?_ | refine region_f 8 (by kernel_rfl) (by kernel_rfl) (by kernel_rfl) (by kernel_rfl) (by decide) (Nat.le_of_ble_eq_true (by kernel_rfl)) ?_)
   apply Exists.intro
   refine ⟨fun xz2 => ?_, fun xq2 => ?_⟩
   ·simp only [List.take_succ_cons, List.take_zero]
    unfold Cx
    repeat (go_big_quiet_step (fail))
    exact wpQuiet_nil rfl
   simp only [List.drop_succ_cons, List.drop_zero]
   go_wp2_with fail
   go_roundw
   case rel => exact ⟨k + 1, _, by omega, by go_num, by rw [HN.out, List.map_set]⟩
   case measure => simp [intOf]; omega
  ·obtain rfl : k = 4 := by omega
   have HT := kp (show (Try.prog.info? 148).map (·.size) = some ((maskTo xs ws 4).map V32).toArray.size by rw [size148]; simp [maskTo_len, HL.out])
   go_wp2_with (first | ((with_reducible refine isLd 148 ?_); (with_reducible refine wpList_load_row rfl 148 _ rfl (w.heap.size) rfl 148 (((maskTo xs ws 4).map V32).toArray) (0, 0) _ (hp_more (hp_alloc (hp_alloc (hp_new _ _)))) Try.underlying148 rfl (HT.out) ?_); simp only [Act.put, sbA, szA, ssA]) | ((with_reducible refine isSt 148 ?_); with_reducible refine wpList_st_row rfl rfl 148 _ _ rfl (w.heap.size + 2) (((maskTo xs ws 4).map V32).toArray) rfl rfl 148 (#[.int .u32 0, .int .u32 0, .int .u32 0, .int .u32 0]) (hp_more (hp_at _ _ _ (by simp))) (HT.out) (by simp [maskTo_len, HL.out]) (all_V32 _) (by rewrite [setRow_more _ _ _ _ (by first | assumption | (simp <;> omega)), setRow_at _ _ _ _ _ _ (by simp <;> omega)]; rfl) ?_))
   exact ret_row Try.results98 (w.heap.size + 2) 148 (((maskTo xs ws 4).map V32).toArray) (0, 0) _ rfl (hp_more (hp_at _ _ _ (by simp))) Try.underlying148 rfl (HT.out) rfl ⟨rfl, (((Ext.alloc _ _).trans (Ext.alloc _ _)).trans (Ext.alloc _ _)).trans (Ext.more _ _)⟩
def schedC (k : Nat) : BitVec 32 := BitVec.ofNat 32 k * 2050759141#32 + 525043411#32
def schedTo (xs : List (BitVec 32)) : Nat → List (BitVec 32)
 | 0 => xs ++ List.replicate 32 0
 | k + 1 => (schedTo xs k).set (k + 4) ((schedTo xs k).getD k 0 + (rotl 7 ((schedTo xs k).getD (k + 3) 0) ^^^ schedC (k + 4)))
theorem schedTo_len (xs : List (BitVec 32)) : ∀ k, (schedTo xs k).length = xs.length + 32
 | 0 => by simp [schedTo]
 | k + 1 => by rw [schedTo, List.length_set]; exact schedTo_len xs k
def schedF (bs : List (BitVec 8)) : List (BitVec 32) := schedTo (wordsF bs) 32
theorem size146 : (Try.prog.info? 146).map (·.size) = some 36 := by kernel_rfl
theorem size25 : (Try.prog.info? 25).map (·.size) = some 16 := by kernel_rfl
theorem sched_start (ws : List (BitVec 32)) (h : ws.length = 4) : ((List.replicate 36 (0 : BitVec 32)).map V32).take 0 ++ (((ws.map V32).drop 0).take 4 ++ ((List.replicate 36 (0 : BitVec 32)).map V32).drop (0 + 4)) = (schedTo ws 0).map V32 := by
 have e : (ws.map V32).take 4 = ws.map V32 := List.take_of_length_le (by simp [h])
 rw [List.take_zero, List.drop_zero, e, schedTo, List.map_append]
 rfl
theorem schedC_int (k : Nat) (h : k < 32) : (((k : Int) + 4) * 2050759141 + 525043411) % 4294967296 = wI (schedC (k + 4)) := by
 unfold wI schedC
 rw [BitVec.toNat_add, BitVec.toNat_mul, BitVec.toNat_ofNat, BitVec.toNat_ofNat, BitVec.toNat_ofNat]
 have e : (k + 4) % 2 ^ 32 = k + 4 := Nat.mod_eq_of_lt (by omega)
 rw [e]
 simp only [Nat.reducePow, Nat.reduceMod]
 omega
set_option maxHeartbeats 800000 in
theorem schedule_any (bs : List (BitVec 8)) (hl : bs.length = 16) (w : World) :
  Calls Try.prog 97 #[.agg (bs.map V8).toArray] w
   fun e w' => e = .returned (.agg ((schedF bs).map V32).toArray) ∧ Ext w w' := by
 have HS := kp (show (Try.prog.info? 25).map (·.size) = some (bs.map V8).toArray.size by rw [size25]; simp [hl])
 have HL := kp hl
 clear hl
 have HT := kp (show (Try.prog.info? 148).map (·.size) = some ((wordsF bs).map V32).toArray.size by rw [size148]; simp [wordsF, wordsTo_len])
 go_enter Try.func97, Try.ntmps97
 go_wp2_with (first | ((with_reducible refine isLd 25 ?_); (with_reducible refine wpList_load_row rfl 25 _ rfl (w.heap.size) rfl 25 ((bs.map V8).toArray) (0, 0) _ (hp_alloc (hp_new _ _)) Try.underlying25 rfl (HS.out) ?_); simp only [Act.put, sbA, szA, ssA]) | (go_at_call 99; refine (words_any bs HL.out _).mono ?_; rintro e w' ⟨rfl, xa, rfl⟩) | ((with_reducible refine isSt 148 ?_); with_reducible refine wpList_st_row rfl rfl 148 _ _ rfl (_) (((wordsF bs).map V32).toArray) rfl rfl 148 (#[.int .u32 0, .int .u32 0, .int .u32 0, .int .u32 0]) (hp_at _ _ _ (by simp [more_size])) (HT.out) (by simp [wordsF, wordsTo_len]) (all_V32 _) (by rewrite [setRow_at _ _ _ _ _ _ (by simp <;> omega)]; rfl) ?_))
 (first | with_reducible refine region_f2 2 (by kernel_rfl) (by kernel_rfl) (by kernel_rfl) (by kernel_rfl) (by decide) (Nat.le_of_ble_eq_true (by kernel_rfl)) ?_ | refine region_f 2 (by kernel_rfl) (by kernel_rfl) (by kernel_rfl) (by kernel_rfl) (by decide) (Nat.le_of_ble_eq_true (by kernel_rfl)) ?_)
 apply Exists.intro
 refine ⟨fun xz2 => ?_, fun xq2 => ?_⟩
 ·simp only [List.take_succ_cons, List.take_zero]
  unfold Cx
  repeat (go_big_quiet_step (fail))
  exact wpQuiet_nil rfl
 simp only [List.drop_succ_cons, List.drop_zero]
 have HZ := kp (show (wordsF bs).length = 4 by simp [wordsF, wordsTo_len])
 generalize hws : wordsF bs = ws at *
 have HWS := kp hws
 clear hws
 (with_reducible refine wpList_cp rfl (.tmp 7) (.tmp 8) 162 162 rfl 145 Try.underlying162 size145 (w.heap.size + 1) 0 36 36 (w.heap.size + 1 + 1 + xa.blocks.size) 0 4 4 rfl rfl ((List.replicate 36 (0 : BitVec 32)).map V32) 146 (hp_more (hp_alloc (hp_more (hp_at _ _ _ (by simp))))) (ws.map V32) 148 (0, 0) (hp_more (hp_at _ _ _ (by simp))) 4 (by decide) (by simp [HZ.out]) (by simp) (mem_V32 _) ((schedTo ws 0).map V32) (sched_start ws HZ.out) (by rewrite [setRow_more _ _ _ _ (by first | assumption | (simp <;> omega)), setRow_past _ _ _ _ (by simp <;> omega), setRow_more _ _ _ _ (by first | assumption | (simp <;> omega)), setRow_at _ _ _ _ _ _ (by simp <;> omega)]; rfl) ?_)
 simp only [Act.put, sbA, szA, ssA]
 go_wp2_with fail
 go_loopw [4] (fun i wr => ∃ (k : Nat) (x : Xtra), k ≤ 32 ∧ i = .int .i64 ((k : Int) + 4) ∧ wr = more ((more ((w.alloc (.cells (bs.map V8).toArray 25)).alloc (.cells ((schedTo ws k).map V32).toArray 146)) xa).alloc (.cells (ws.map V32).toArray 148)) x) (fun i _ => 36 - (intOf i).toNat)
 case atStart => exact ⟨0, _, by omega, rfl, rfl⟩
 case round =>
  obtain ⟨k, x, hk, rfl, rfl⟩ := hrel
  by_cases hlt : k < 32
  ·obtain ⟨y, hy⟩ : ∃ y, (schedTo ws k)[k]? = some y := ⟨(schedTo ws k)[k]'(by rw [schedTo_len, HZ.out]; omega), by simp⟩
   obtain ⟨z, hz⟩ : ∃ z, (schedTo ws k)[k + 3]? = some z := ⟨(schedTo ws k)[k + 3]'(by rw [schedTo_len, HZ.out]; omega), by simp⟩
   obtain ⟨o, ho⟩ : ∃ o, (schedTo ws k)[k + 4]? = some o := ⟨(schedTo ws k)[k + 4]'(by rw [schedTo_len, HZ.out]; omega), by simp⟩
   have HN := kp (show schedTo ws (k + 1) = (schedTo ws k).set (k + 4) (y + (rotl 7 z ^^^ schedC (k + 4))) by rw [schedTo]; simp [hy, hz])
   have hc := schedC_int k hlt
   go_wp2_with fail
   (first | with_reducible refine region_f2 17 (by kernel_rfl) (by kernel_rfl) (by kernel_rfl) (by kernel_rfl) (by decide) (Nat.le_of_ble_eq_true (by kernel_rfl)) ?_ | refine region_f 17 (by kernel_rfl) (by kernel_rfl) (by kernel_rfl) (by kernel_rfl) (by decide) (Nat.le_of_ble_eq_true (by kernel_rfl)) ?_)
   apply Exists.intro
   refine ⟨fun xz3 => ?_, fun xq3 => ?_⟩
   ·simp only [List.take_succ_cons, List.take_zero]
    unfold Cx
    repeat (go_big_quiet_step (exact Calls.cx_of_same (rot_any _ _ (by decide) (by decide) _)))
    exact wpQuiet_nil rfl
   simp only [List.drop_succ_cons, List.drop_zero]
   go_wp2_with fail
   go_roundw
   case rel => exact ⟨k + 1, _, by omega, by go_num, by rw [HN.out, List.map_set]⟩
   case measure => simp [intOf]; omega
  ·obtain rfl : k = 32 := by omega
   have HU := kp (show (Try.prog.info? 146).map (·.size) = some ((schedTo ws 32).map V32).toArray.size by rw [size146]; simp [schedTo_len, HZ.out])
   go_wp2_with (first | ((with_reducible refine isLd 146 ?_); (with_reducible refine wpList_load_row rfl 146 _ rfl (w.heap.size + 1) rfl 146 (((schedTo ws 32).map V32).toArray) (0, 0) _ (hp_more (hp_alloc (hp_more (hp_at _ _ _ (by simp))))) Try.underlying146 rfl (HU.out) ?_); simp only [Act.put, sbA, szA, ssA]) | ((with_reducible refine isSt 146 ?_); with_reducible refine wpList_st_row rfl rfl 146 _ _ rfl (w.heap.size + 1) (((schedTo ws 32).map V32).toArray) rfl rfl 146 (((schedTo ws 32).map V32).toArray) (hp_more (hp_alloc (hp_more (hp_at _ _ _ (by simp))))) (HU.out) (rfl) (all_V32 _) (by rewrite [setRow_more _ _ _ _ (by first | assumption | (simp <;> omega)), setRow_past _ _ _ _ (by simp <;> omega), setRow_more _ _ _ _ (by first | assumption | (simp <;> omega)), setRow_at _ _ _ _ _ _ (by simp <;> omega)]; rfl) ?_))
   exact ret_row Try.results97 (w.heap.size + 1) 146 (((schedTo ws 32).map V32).toArray) (0, 0) _ rfl (hp_more (hp_alloc (hp_more (hp_at _ _ _ (by simp))))) Try.underlying146 rfl (HU.out) rfl ⟨by rw [← HWS.out]; rfl, ((((Ext.alloc _ _).trans (Ext.alloc _ _)).trans (Ext.more _ _)).trans (Ext.alloc _ _)).trans (Ext.more _ _)⟩
def roundL (xs : List (BitVec 32)) (p q : BitVec 32) : List (BitVec 32) := roundF (xs.getD 0 0) (xs.getD 1 0) (xs.getD 2 0) (xs.getD 3 0) p q
def encTo (xs ws : List (BitVec 32)) : Nat → List (BitVec 32)
 | 0 => xs
 | k + 1 => roundL (encTo xs ws k) (ws.getD (4 + 2 * k) 0) (ws.getD (5 + 2 * k) 0)
theorem encTo_len (xs ws : List (BitVec 32)) (h : xs.length = 4) : ∀ k, (encTo xs ws k).length = 4
 | 0 => h
 | _ + 1 => rfl
theorem list4 {α : Type} {l : List α} (h : l.length = 4) : ∃ a b c d, l = [a, b, c, d] := by
 match l, h with
 | [a, b, c, d], _ => exact ⟨a, b, c, d, rfl⟩
def encF (ks bs : List (BitVec 8)) : List (BitVec 8) := joinF (encTo (maskF (wordsF bs) (schedF ks)) (schedF ks) 16)
theorem wordsF_len (bs : List (BitVec 8)) : (wordsF bs).length = 4 := by simp [wordsF, wordsTo_len]
theorem schedF_len (bs : List (BitVec 8)) : (schedF bs).length = 36 := by simp [schedF, schedTo_len, wordsF_len]
theorem maskF_len (xs ws : List (BitVec 32)) (h : xs.length = 4) : (maskF xs ws).length = 4 := by simp [maskF, maskTo_len, h]
theorem joinF_len (xs : List (BitVec 32)) : (joinF xs).length = 16 := by simp [joinF, joinTo_len]
def zero4 : Array Value := #[.int .u32 0, .int .u32 0, .int .u32 0, .int .u32 0]
theorem zero36 : (#[.int .u32 0, .int .u32 0, .int .u32 0, .int .u32 0, .int .u32 0, .int .u32 0, .int .u32 0, .int .u32 0, .int .u32 0, .int .u32 0, .int .u32 0, .int .u32 0, .int .u32 0, .int .u32 0, .int .u32 0, .int .u32 0, .int .u32 0, .int .u32 0, .int .u32 0, .int .u32 0, .int .u32 0, .int .u32 0, .int .u32 0, .int .u32 0, .int .u32 0, .int .u32 0, .int .u32 0, .int .u32 0, .int .u32 0, .int .u32 0, .int .u32 0, .int .u32 0, .int .u32 0, .int .u32 0, .int .u32 0, .int .u32 0] : Array Value).size = 36 := rfl
set_option maxHeartbeats 1600000 in
theorem encrypt_any (ks bs : List (BitVec 8)) (hk : ks.length = 16) (hl : bs.length = 16) (w : World) :
  Calls Try.prog 80 #[.agg (ks.map V8).toArray, .agg (bs.map V8).toArray] w
   fun e w' => e = .returned (.agg ((encF ks bs).map V8).toArray) ∧ Ext w w' := by
 have HK := kp (show (Try.prog.info? 25).map (·.size) = some (ks.map V8).toArray.size by rw [size25]; simp [hk])
 have HB := kp (show (Try.prog.info? 115).map (·.size) = some (bs.map V8).toArray.size by rw [size115]; simp [hl])
 have HL := kp hl
 have HKL := kp hk
 have HSL := kp (schedF_len ks)
 have HWL := kp (wordsF_len bs)
 generalize hss : schedF ks = ss at *
 have HSS := kp hss
 generalize hws : wordsF bs = xs at *
 have HWS := kp hws
 have HS := kp (show (Try.prog.info? 146).map (·.size) = some (ss.map V32).toArray.size by rw [size146]; simp [HSL.out])
 have HM := kp (show (Try.prog.info? 148).map (·.size) = some ((maskF xs ss).map V32).toArray.size by rw [size148]; simp [maskF_len _ _ HWL.out])
 have HML := kp (maskF_len xs ss HWL.out)
 clear hl hk hss hws
 have HWC := kp (fun w => show Calls Try.prog 99 #[.agg (bs.map V8).toArray] w fun e w' => e = .returned (.agg (xs.map V32).toArray) ∧ Ext w w' from by have h := words_any bs HL.out w; rw [HWS.out] at h; exact h)
 go_enter Try.func80, Try.ntmps80
 go_wp2_with (first | ((with_reducible refine isLd 25 ?_); (with_reducible refine wpList_load_row rfl 25 _ rfl (w.heap.size) rfl 25 ((ks.map V8).toArray) (0, 0) _ (hp_alloc (hp_alloc (hp_new _ _))) Try.underlying25 rfl (HK.out) ?_); simp only [Act.put, sbA, szA, ssA]) | (go_at_call 97; refine (schedule_any ks HKL.out _).mono ?_; rintro e w' ⟨rfl, xa, rfl⟩; rw [HSS.out]) | ((with_reducible refine isSt 146 ?_); with_reducible refine wpList_st_row rfl rfl 146 _ _ rfl (_) ((ss.map V32).toArray) rfl rfl 146 (_) (hp_at _ _ _ (by simp)) (HS.out) (by rw [zero36]; simp [HSL.out]) (all_V32 _) (by rewrite [setRow_at _ _ _ _ _ _ (by simp <;> omega)]; rfl) ?_))
 (first | with_reducible refine region_a2 5 4 6 (.cells zero4 148) (by kernel_rfl) (by kernel_rfl) (by kernel_rfl) (by kernel_rfl) (by intro o ho; cases ho; exact ⟨rfl, rfl, by simp, fun _ _ => by kernel_rfl⟩) (by decide) ?_ | refine region_a 5 4 6 (.cells zero4 148) (by kernel_rfl) (by kernel_rfl) (by kernel_rfl) (by kernel_rfl) (by intro o ho; cases ho; exact ⟨rfl, rfl, by simp, fun _ _ => by kernel_rfl⟩) (by decide) ?_)
 apply Exists.intro
 refine ⟨fun xz2 => ?_, fun xm2 xq2 => ?_⟩
 ·simp only [List.take_succ_cons, List.take_zero, List.eraseIdx_cons_succ, List.eraseIdx_cons_zero]
  unfold Cx
  (((with_reducible show wpQuiet _ _ _ _ (Oper.mk _ (Op.load 115 _) _ _ _ _ :: _) _); go_big_quiet_want; with_reducible refine quiet_load_row 115 _ rfl (w.heap.size + 1) rfl 115 ((bs.map V8).toArray) (0, 0) _ (fun _ hw => by obtain ⟨xx, rfl⟩ := hw; exact hp_more (hp_alloc (hp_more (hp_alloc (hp_at _ _ _ (by simp)))))) Try.underlying115 rfl (HB.out) ?_; simp only [Act.put, sbA, szA, ssA]; go_big_quiet_on); go_big_quiet_step (exact Calls.cx_of (HWC.out _)); ((with_reducible show wpQuiet _ _ _ _ (Oper.mk _ (Op.load 146 _) _ _ _ _ :: _) _); go_big_quiet_want; with_reducible refine quiet_load_row 146 _ rfl (w.heap.size + 1 + 1 + 1 + xa.blocks.size) rfl 146 ((ss.map V32).toArray) (0, 0) _ (fun _ hw => by obtain ⟨xx, rfl⟩ := hw; exact hp_more (hp_at _ _ _ (by simp))) Try.underlying146 rfl (HS.out) ?_; simp only [Act.put, sbA, szA, ssA]; go_big_quiet_on); go_big_quiet_step (exact Calls.cx_of (mask_any xs ss HWL.out HSL.out _)))
  exact wpQuiet_nil rfl
 simp only [List.drop_succ_cons, List.drop_zero, Act.put, List.setIfInBounds_toArray, List.set_cons_zero, List.set_cons_succ]
 try simp only [World.size_alloc]
 try simp only [more_size]
 generalize hms : maskF xs ss = ms at *
 have HMS := kp hms
 clear hms
 go_wp2_with (first | ((with_reducible refine isSt 148 ?_); with_reducible refine wpList_st_row rfl rfl 148 _ _ rfl (_) ((ms.map V32).toArray) rfl rfl 148 (zero4) (hp_more (hp_at _ _ _ (by simp))) (HM.out) (by simp [HML.out, zero4]) (all_V32 _) (by rewrite [setRow_more _ _ _ _ (by first | assumption | (simp <;> omega)), setRow_at _ _ _ _ _ _ (by simp <;> omega)]; rfl) ?_))
 go_loopw [14] (fun i wr => ∃ (k : Nat) (x : Xtra), k ≤ 16 ∧ i = .int .i64 k ∧ wr = more ((more ((more (((w.alloc (.cells (ks.map V8).toArray 25)).alloc (.cells (bs.map V8).toArray 115)).alloc (.cells #[.int .u8 0, .int .u8 0, .int .u8 0, .int .u8 0, .int .u8 0, .int .u8 0, .int .u8 0, .int .u8 0, .int .u8 0, .int .u8 0, .int .u8 0, .int .u8 0, .int .u8 0, .int .u8 0, .int .u8 0, .int .u8 0] 115)) xa).alloc (.cells (ss.map V32).toArray 146)) xm2).alloc (.cells ((encTo ms ss k).map V32).toArray 148)) x) (fun i _ => 16 - (intOf i).toNat)
 case atStart => exact ⟨0, _, by omega, rfl, rfl⟩
 case round =>
  obtain ⟨k, x, hk, rfl, rfl⟩ := hrel
  by_cases hlt : k < 16
  ·obtain ⟨p, hp⟩ : ∃ p, ss[4 + 2 * k]? = some p := ⟨ss[4 + 2 * k]'(by rw [HSL.out]; omega), by simp⟩
   obtain ⟨q, hq⟩ : ∃ q, ss[5 + 2 * k]? = some q := ⟨ss[5 + 2 * k]'(by rw [HSL.out]; omega), by simp⟩
   obtain ⟨a, b, c, d, he⟩ := list4 (encTo_len ms ss HML.out k)
   have HN := kp (show encTo ms ss (k + 1) = roundF a b c d p q by rw [encTo, he]; simp [roundL, hp, hq])
   rw [he]
   clear he
   have HR := kp (show (Try.prog.info? 148).map (·.size) = some ((roundF a b c d p q).map V32).toArray.size by rw [size148]; rfl)
   simp only [List.map_cons, List.map_nil]
   go_wp2_with fail
   (first | with_reducible refine region_f2 12 (by kernel_rfl) (by kernel_rfl) (by kernel_rfl) (by kernel_rfl) (by decide) (Nat.le_of_ble_eq_true (by kernel_rfl)) ?_ | refine region_f 12 (by kernel_rfl) (by kernel_rfl) (by kernel_rfl) (by kernel_rfl) (by decide) (Nat.le_of_ble_eq_true (by kernel_rfl)) ?_)
   apply Exists.intro
   refine ⟨fun xz3 => ?_, fun xq3 => ?_⟩
   ·simp only [List.take_succ_cons, List.take_zero]
    unfold Cx
    repeat (go_big_quiet_step (exact Calls.cx_of (round_any a b c d p q _)))
    exact wpQuiet_nil rfl
   simp only [List.drop_succ_cons, List.drop_zero]
   go_wp2_with (first | ((with_reducible refine isSt 148 ?_); with_reducible refine wpList_st_row rfl rfl 148 _ _ rfl (_) (((roundF a b c d p q).map V32).toArray) rfl rfl 148 (#[V32 a, V32 b, V32 c, V32 d]) (hp_more (hp_at _ _ _ (by simp))) (HR.out) (rfl) (all_V32 _) (by rewrite [setRow_more _ _ _ _ (by first | assumption | (simp <;> omega)), setRow_at _ _ _ _ _ _ (by simp <;> omega)]; rfl) ?_))
   go_roundw
   case rel => exact ⟨k + 1, _, by omega, by go_num, by rw [HN.out]⟩
   case measure => simp [intOf]; omega
  ·obtain rfl : k = 16 := by omega
   have HE := kp (show (Try.prog.info? 148).map (·.size) = some ((encTo ms ss 16).map V32).toArray.size by rw [size148]; simp [encTo_len _ _ HML.out])
   have HJ := kp (show (Try.prog.info? 115).map (·.size) = some ((joinF (encTo ms ss 16)).map V8).toArray.size by rw [size115]; simp [joinF_len])
   go_wp2_with (first | ((with_reducible refine isLd 148 ?_); (with_reducible refine wpList_load_row rfl 148 _ rfl (_) rfl 148 (((encTo ms ss 16).map V32).toArray) (0, 0) _ (hp_more (hp_at _ _ _ (by simp))) Try.underlying148 rfl (HE.out) ?_); simp only [Act.put, sbA, szA, ssA]) | (go_at_call 101; refine (join_any (encTo ms ss 16) (encTo_len _ _ HML.out 16) _).mono ?_; rintro e w' ⟨rfl, xj, rfl⟩; rw [more_more]) | ((with_reducible refine isSt 115 ?_); with_reducible refine wpList_st_row rfl rfl 115 _ _ rfl (w.heap.size + 1 + 1) (((joinF (encTo ms ss 16)).map V8).toArray) rfl rfl 115 (#[.int .u8 0, .int .u8 0, .int .u8 0, .int .u8 0, .int .u8 0, .int .u8 0, .int .u8 0, .int .u8 0, .int .u8 0, .int .u8 0, .int .u8 0, .int .u8 0, .int .u8 0, .int .u8 0, .int .u8 0, .int .u8 0]) (hp_more (hp_alloc (hp_more (hp_alloc (hp_more (hp_at _ _ _ (by simp))))))) (HJ.out) (by simp [joinF_len]) (all_V8 _) (by rewrite [setRow_more _ _ _ _ (by first | assumption | (simp <;> omega)), setRow_past _ _ _ _ (by simp <;> omega), setRow_more _ _ _ _ (by first | assumption | (simp <;> omega)), setRow_past _ _ _ _ (by simp <;> omega), setRow_more _ _ _ _ (by first | assumption | (simp <;> omega)), setRow_at _ _ _ _ _ _ (by simp <;> omega)]; rfl) ?_))
   exact ret_row Try.results80 (w.heap.size + 1 + 1) 115 (((joinF (encTo ms ss 16)).map V8).toArray) (0, 0) _ rfl (hp_more (hp_alloc (hp_more (hp_alloc (hp_more (hp_at _ _ _ (by simp))))))) Try.underlying115 rfl (HJ.out) rfl ⟨by rw [← HMS.out, ← HWS.out, ← HSS.out]; rfl, (((((((Ext.alloc _ _).trans (Ext.alloc _ _)).trans (Ext.alloc _ _)).trans (Ext.more _ _)).trans (Ext.alloc _ _)).trans (Ext.more _ _)).trans (Ext.alloc _ _)).trans (Ext.more _ _)⟩
end Go.Proofs.Ytibncchobkaaiaa
namespace Go.Proofs.Ytibncchobkaaiaa
open Go.RowKit
def z16 : Array Value := ((List.replicate 16 (0 : BitVec 8)).map V8).toArray
theorem z16_size (l : List (BitVec 8)) (h : l.length = 16) : z16.size = (l.map V8).toArray.size := by simp [z16, h]
theorem encF_len (ks bs : List (BitVec 8)) : (encF ks bs).length = 16 := by simp [encF, joinF_len]
theorem sizeK (l : List (BitVec 8)) (h : l.length = 16) : (Try.prog.info? 25).map (·.size) = some (l.map V8).toArray.size := by rw [size25]; simp [h]
theorem sizeB (l : List (BitVec 8)) (h : l.length = 16) : (Try.prog.info? 115).map (·.size) = some (l.map V8).toArray.size := by rw [size115]; simp [h]
end Go.Proofs.Ytibncchobkaaiaa
