/- Texts of this proof, put together: Lit, Cipher, ComB, AppB, ApZ. -/
import Derived.Test.YtibncchobkaaiaaF4
import Derived.Test.YtibncchobkaaiaaProg
import Derived.Test.YtibncchobkaaiaaF2
import Derived.Outline
import Derived.LoopTactic
import Derived.Test.YtibncchobkaaiaaF5
import Derived.Test.YtibncchobkaaiaaF1
namespace Go.Proofs.Ytibncchobkaaiaa
open Go.RowKit
theorem Loc.tl {w0 w : World} {b : Bk} {bs : List Bk} (h : Loc w0 w (b :: bs)) : Loc w0 w bs :=
 ⟨h.1, (List.nodup_cons.1 h.2.1).2, fun c hc => h.2.2 c (by simp [hc])⟩
section
variable {P : Program} {ops : Array Oper} {rest : List Oper} {o : Oper} {a : Act} {w0 w : World} {Q : Exit → Act → World → Prop} {bs : List Bk}
theorem L_bd (hgd : Region.wanted o (yielded ops a.tmps) = true) (t : TypeId) (parts : Array (Nat × Operand)) (ho : o.op = .build t parts) (ps : Array (Nat × Value)) (hp : parts.map (fun p => (p.1, a.eval p.2)) = ps) (cs : List Value)
  (hrun : ∀ w, (Instr.build t ps).run P w = .ok (.agg cs.toArray) w) (h : wpList P ops Q rest (a.put o.dst (.agg cs.toArray)) w) : wpList P ops Q (o :: rest) a w := by
 refine wpList_step fun K hK => ?_
 rw [if_pos hgd]
 unfold Oper.wp execOp
 simp only [ho, Sem.run_bind, hp, hrun w, Result.andThen_ok, Sem.run_pure]
 exact hK _ _ h
theorem L_bs (H : Kp (Loc w0 w bs)) (hgd : Region.wanted o (yielded ops a.tmps) = true) (t : TypeId) (n : Nat) (parts : Array (Nat × Operand)) (ho : o.op = .buildSlice t n parts) (ps : Array (Nat × Value)) (hp : parts.map (fun p => (p.1, a.eval p.2)) = ps) (e : TypeId) (cs : List Value)
  (hrun : ∀ w, (Instr.buildSlice t n ps).run P w = .ok (.slice (some ⟨w.heap.size, 0, none⟩) n n) (w.alloc (.cells cs.toArray e)))
  (h : ∀ g w', Kp (g = w.heap.size) → Kp (Ext w w') → Kp (Loc w0 w' ((g, e, cs) :: bs)) → wpList P ops Q rest (a.put o.dst (.slice (some ⟨g, 0, none⟩) n n)) w') : wpList P ops Q (o :: rest) a w := by
 refine wpList_step fun K hK => ?_
 rw [if_pos hgd]
 unfold Oper.wp execOp
 simp only [ho, Sem.run_bind, hp, hrun w, Result.andThen_ok, Sem.run_pure]
 exact hK _ _ (h _ _ (kp rfl) (kp (Ext.alloc _ _)) (kp (H.out.new e cs)))
theorem L_mk (H : Kp (Loc w0 w bs)) (hgd : Region.wanted o (yielded ops a.tmps) = true) (t : TypeId) (x y : Operand) (ho : o.op = .makeSlice t x y) (u v : Value) (hx : a.eval x = u) (hy : a.eval y = v) (n c : Nat) (e : TypeId) (cs : List Value)
  (hrun : ∀ w, (Instr.makeSlice t u v).run P w = .ok (.slice (some ⟨w.heap.size, 0, none⟩) n c) (w.alloc (.cells cs.toArray e)))
  (h : ∀ g w', Kp (g = w.heap.size) → Kp (Ext w w') → Kp (Loc w0 w' ((g, e, cs) :: bs)) → wpList P ops Q rest (a.put o.dst (.slice (some ⟨g, 0, none⟩) n c)) w') : wpList P ops Q (o :: rest) a w := by
 refine wpList_step fun K hK => ?_
 rw [if_pos hgd]
 unfold Oper.wp execOp
 simp only [ho, hx, hy, Sem.run_bind, hrun w, Result.andThen_ok, Sem.run_pure]
 exact hK _ _ (h _ _ (kp rfl) (kp (Ext.alloc _ _)) (kp (H.out.new e cs)))
end
set_option maxHeartbeats 400000 in
theorem rot_nat (x : BitVec 32) (n : Nat) (h : n < 32) (w : World) :
  Calls Try.prog 111 #[V32 x, .int .i64 n] w fun e w' => e = .returned (V32 (rotl n x)) ∧ w' = w := by
 have h1 := and31 n h
 have h2 : n ≤ 32 := by omega
 have h3 : 32 - n ≤ 32 := by omega
 have h4 : ((32 : Int) - (n : Int)) = ((32 - n : Nat) : Int) := by omega
 go_enter Try.func111, Try.ntmps111
 go_wp2
 go_ret
 exact ⟨rfl, rfl⟩
theorem rot_any (x : BitVec 32) (n : Int) (h0 : 0 ≤ n) (h : n < 32) (w : World) :
  Calls Try.prog 111 #[V32 x, .int .i64 n] w fun e w' => e = .returned (V32 (rotl n.toNat x)) ∧ w' = w := by
 obtain ⟨m, rfl⟩ := Int.eq_ofNat_of_zero_le h0
 exact rot_nat x m (by omega) w
def roundF (x0 x1 x2 x3 a b : BitVec 32) : List (BitVec 32) :=
 [x1 ^^^ rotl 13 (x2 + (rotl 9 x3 ^^^ b) + a), x2 + (rotl 9 x3 ^^^ b), x3 ^^^ rotl 19 (x0 + (rotl 5 x1 ^^^ a) + b), x0 + (rotl 5 x1 ^^^ a)]
theorem size148 : (Try.prog.info? 148).map (·.size) = some 4 := by kernel_rfl
set_option maxHeartbeats 400000 in
theorem round_any (x0 x1 x2 x3 a b : BitVec 32) (w : World) :
  Calls Try.prog 100 #[.agg #[V32 x0, V32 x1, V32 x2, V32 x3], V32 a, V32 b] w
   fun e w' => e = .returned (.agg ((roundF x0 x1 x2 x3 a b).map V32).toArray) ∧ Ext w w' := by
 go_enter Try.func100, Try.ntmps100
 go_wp2
 (first | with_reducible refine region_f2 9 (by kernel_rfl) (by kernel_rfl) (by kernel_rfl) (by kernel_rfl) (by decide) (Nat.le_of_ble_eq_true (by kernel_rfl)) ?_ | refine region_f 9 (by kernel_rfl) (by kernel_rfl) (by kernel_rfl) (by kernel_rfl) (by decide) (Nat.le_of_ble_eq_true (by kernel_rfl)) ?_)
 apply Exists.intro
 refine ⟨fun xz2 => ?_, fun xq2 => ?_⟩
 ·simp only [List.take_succ_cons, List.take_zero]
  unfold Cx
  repeat (go_big_quiet_step (exact Calls.cx_of_same (rot_any _ _ (by decide) (by decide) _)))
  exact wpQuiet_nil rfl
 simp only [List.drop_succ_cons, List.drop_zero]
 go_wp2
 (first | with_reducible refine region_f2 9 (by kernel_rfl) (by kernel_rfl) (by kernel_rfl) (by kernel_rfl) (by decide) (Nat.le_of_ble_eq_true (by kernel_rfl)) ?_ | refine region_f 9 (by kernel_rfl) (by kernel_rfl) (by kernel_rfl) (by kernel_rfl) (by decide) (Nat.le_of_ble_eq_true (by kernel_rfl)) ?_)
 apply Exists.intro
 refine ⟨fun xz3 => ?_, fun xq3 => ?_⟩
 ·simp only [List.take_succ_cons, List.take_zero]
  unfold Cx
  repeat (go_big_quiet_step (exact Calls.cx_of_same (rot_any _ _ (by decide) (by decide) _)))
  exact wpQuiet_nil rfl
 simp only [List.drop_succ_cons, List.drop_zero]
 go_wp2
 (first | with_reducible refine region_f2 9 (by kernel_rfl) (by kernel_rfl) (by kernel_rfl) (by kernel_rfl) (by decide) (Nat.le_of_ble_eq_true (by kernel_rfl)) ?_ | refine region_f 9 (by kernel_rfl) (by kernel_rfl) (by kernel_rfl) (by kernel_rfl) (by decide) (Nat.le_of_ble_eq_true (by kernel_rfl)) ?_)
 apply Exists.intro
 refine ⟨fun xz4 => ?_, fun xq4 => ?_⟩
 ·simp only [List.take_succ_cons, List.take_zero]
  unfold Cx
  repeat (go_big_quiet_step (exact Calls.cx_of_same (rot_any _ _ (by decide) (by decide) _)))
  exact wpQuiet_nil rfl
 simp only [List.drop_succ_cons, List.drop_zero]
 go_wp2
 (first | with_reducible refine region_f2 9 (by kernel_rfl) (by kernel_rfl) (by kernel_rfl) (by kernel_rfl) (by decide) (Nat.le_of_ble_eq_true (by kernel_rfl)) ?_ | refine region_f 9 (by kernel_rfl) (by kernel_rfl) (by kernel_rfl) (by kernel_rfl) (by decide) (Nat.le_of_ble_eq_true (by kernel_rfl)) ?_)
 apply Exists.intro
 refine ⟨fun xz5 => ?_, fun xq5 => ?_⟩
 ·simp only [List.take_succ_cons, List.take_zero]
  unfold Cx
  repeat (go_big_quiet_step (exact Calls.cx_of_same (rot_any _ _ (by decide) (by decide) _)))
  exact wpQuiet_nil rfl
 simp only [List.drop_succ_cons, List.drop_zero]
 go_wp2
 exact ret_row Try.results100 (w.heap.size + 1) 148 ((roundF x0 x1 x2 x3 a b).map V32).toArray (0, 0) _ rfl (hp_more (hp_at _ _ _ (by simp))) Try.underlying148 rfl size148 rfl ⟨rfl, ((Ext.alloc _ _).trans (Ext.alloc _ _)).trans (Ext.more _ _)⟩
def wordsTo (bs : List (BitVec 8)) : Nat → List (BitVec 32)
 | 0 => [0, 0, 0, 0]
 | k + 1 => (wordsTo bs k).set (k / 4) ((wordsTo bs k).getD (k / 4) 0 ||| (bs.getD k 0).setWidth 32 <<< (k % 4 * 8))
theorem wordsTo_len (bs : List (BitVec 8)) : ∀ k, (wordsTo bs k).length = 4
 | 0 => rfl
 | k + 1 => by rw [wordsTo, List.length_set]; exact wordsTo_len bs k
def wordsF (bs : List (BitVec 8)) : List (BitVec 32) := wordsTo bs 16
theorem size115 : (Try.prog.info? 115).map (·.size) = some 16 := by kernel_rfl
theorem size5 : (Try.prog.info? 5).map (·.size) = some 1 := by kernel_rfl
theorem size145 : (Try.prog.info? 145).map (·.size) = some 1 := by kernel_rfl
set_option maxHeartbeats 400000 in
theorem words_any (bs : List (BitVec 8)) (hl : bs.length = 16) (w : World) :
  Calls Try.prog 99 #[.agg (bs.map V8).toArray] w
   fun e w' => e = .returned (.agg ((wordsF bs).map V32).toArray) ∧ Ext w w' := by
 have HS := kp (show (Try.prog.info? 115).map (·.size) = some (bs.map V8).toArray.size by rw [size115]; simp [hl])
 have HL := kp hl
 clear hl
 go_enter Try.func99, Try.ntmps99
 go_wp2_with (with_reducible refine wpList_load_row rfl 115 _ rfl w.heap.size rfl 115 (bs.map V8).toArray (0, 0) _ (hp_alloc (hp_new _ _)) Try.underlying115 rfl HS.out ?_)
 go_loopw [6] (fun i wr => ∃ (k : Nat) (x : Xtra), k ≤ 16 ∧ i = .int .i64 k ∧ wr = more ((w.alloc (.cells (bs.map V8).toArray 115)).alloc (.cells ((wordsTo bs k).map V32).toArray 148)) x) (fun i _ => 16 - (intOf i).toNat)
 case atStart => exact ⟨0, _, by omega, rfl, by rw [← more_self]; rfl⟩
 case round =>
  obtain ⟨k, x, hk, rfl, rfl⟩ := hrel
  by_cases hlt : k < 16
  ·obtain ⟨b, hb⟩ : ∃ b, bs[k]? = some b := ⟨bs[k]'(by rw [HL.out]; omega), by simp⟩
   obtain ⟨y, hy⟩ : ∃ y, (wordsTo bs k)[k / 4]? = some y := ⟨(wordsTo bs k)[k / 4]'(by rw [wordsTo_len]; omega), by simp⟩
   have hix := fun w => run_index_arr (P := Try.prog) w Try.underlying115 Try.underlying5 rfl size5 (bs.map V8).toArray .i64 k (V8 b) hlt (by simp [hb])
   have HN := kp (show wordsTo bs (k + 1) = (wordsTo bs k).set (k / 4) (y ||| b.setWidth 32 <<< (k % 4 * 8)) by rw [wordsTo]; simp [hy, hb])
   go_wp2_with fail
   (first | with_reducible refine region_f2 12 (by kernel_rfl) (by kernel_rfl) (by kernel_rfl) (by kernel_rfl) (by decide) (Nat.le_of_ble_eq_true (by kernel_rfl)) ?_ | refine region_f 12 (by kernel_rfl) (by kernel_rfl) (by kernel_rfl) (by kernel_rfl) (by decide) (Nat.le_of_ble_eq_true (by kernel_rfl)) ?_)
   apply Exists.intro
   refine ⟨fun xz2 => ?_, fun xq2 => ?_⟩
   ·simp only [List.take_succ_cons, List.take_zero]
    unfold Cx
    repeat (go_big_quiet_step (fail))
    exact wpQuiet_nil rfl
   simp only [List.drop_succ_cons, List.drop_zero]
   go_wp2_with fail
   go_roundw
   case rel => exact ⟨k + 1, _, by omega, by go_num, by rw [HN.out, List.map_set]⟩
   case measure => simp [intOf]; omega
  ·obtain rfl : k = 16 := by omega
   have HT := kp (show (Try.prog.info? 148).map (·.size) = some ((wordsTo bs 16).map V32).toArray.size by rw [size148]; simp [wordsTo_len])
   go_wp2_with (first | ((with_reducible refine isLd 148 ?_); (with_reducible refine wpList_load_row rfl 148 _ rfl (w.heap.size + 1) rfl 148 (((wordsTo bs 16).map V32).toArray) (0, 0) _ (hp_more (hp_at _ _ _ (by simp))) Try.underlying148 rfl (HT.out) ?_); simp only [pA]) | ((with_reducible refine isSt 148 ?_); with_reducible refine wpList_st_row rfl rfl 148 _ _ rfl (w.heap.size + 1) (((wordsTo bs 16).map V32).toArray) rfl rfl 148 (((wordsTo bs 16).map V32).toArray) (hp_more (hp_at _ _ _ (by simp))) (HT.out) (rfl) (all_V32 _) (by rewrite [setRow_more _ _ _ _ (by first | assumption | (simp <;> omega)), setRow_at _ _ _ _ _ _ (by simp <;> omega)]; rfl) ?_))
   exact ret_row Try.results99 (w.heap.size + 1) 148 (((wordsTo bs 16).map V32).toArray) (0, 0) _ rfl (hp_more (hp_at _ _ _ (by simp))) Try.underlying148 rfl (HT.out) rfl ⟨rfl, ((Ext.alloc _ _).trans (Ext.alloc _ _)).trans (Ext.more _ _)⟩
def joinTo (xs : List (BitVec 32)) : Nat → List (BitVec 8)
 | 0 => List.replicate 16 0
 | k + 1 => (joinTo xs k).set k ((xs.getD (k / 4) 0 >>> (k % 4 * 8)).setWidth 8)
theorem joinTo_len (xs : List (BitVec 32)) : ∀ k, (joinTo xs k).length = 16
 | 0 => rfl
 | k + 1 => by rw [joinTo, List.length_set]; exact joinTo_len xs k
def joinF (xs : List (BitVec 32)) : List (BitVec 8) := joinTo xs 16
set_option maxHeartbeats 400000 in
theorem join_any (xs : List (BitVec 32)) (hl : xs.length = 4) (w : World) :
  Calls Try.prog 101 #[.agg (xs.map V32).toArray] w
   fun e w' => e = .returned (.agg ((joinF xs).map V8).toArray) ∧ Ext w w' := by
 have HL := kp hl
 clear hl
 go_enter Try.func101, Try.ntmps101
 go_wp2_with fail
 go_loopw [4] (fun i wr => ∃ (k : Nat) (x : Xtra), k ≤ 16 ∧ i = .int .i64 k ∧ wr = more ((w.alloc (.cells (xs.map V32).toArray 148)).alloc (.cells ((joinTo xs k).map V8).toArray 115)) x) (fun i _ => 16 - (intOf i).toNat)
 case atStart => exact ⟨0, _, by omega, rfl, by rw [← more_self]; rfl⟩
 case round =>
  obtain ⟨k, x, hk, rfl, rfl⟩ := hrel
  by_cases hlt : k < 16
  ·obtain ⟨y, hy⟩ : ∃ y, xs[k / 4]? = some y := ⟨xs[k / 4]'(by rw [HL.out]; omega), by simp⟩
   obtain ⟨z, hz⟩ : ∃ z, (joinTo xs k)[k]? = some z := ⟨(joinTo xs k)[k]'(by rw [joinTo_len]; omega), by simp⟩
   have HN := kp (show joinTo xs (k + 1) = (joinTo xs k).set k ((y >>> (k % 4 * 8)).setWidth 8) by rw [joinTo]; simp [hy])
   go_wp2_with fail
   go_roundw
   case rel => exact ⟨k + 1, _, by omega, by go_num, by rw [HN.out, List.map_set]⟩
   case measure => simp [intOf]; omega
  ·obtain rfl : k = 16 := by omega
   have HT := kp (show (Try.prog.info? 115).map (·.size) = some ((joinTo xs 16).map V8).toArray.size by rw [size115]; simp [joinTo_len])
   go_wp2_with (first | ((with_reducible refine isLd 115 ?_); (with_reducible refine wpList_load_row rfl 115 _ rfl (w.heap.size + 1) rfl 115 (((joinTo xs 16).map V8).toArray) (0, 0) _ (hp_more (hp_at _ _ _ (by simp))) Try.underlying115 rfl (HT.out) ?_); simp only [pA]) | ((with_reducible refine isSt 115 ?_); with_reducible refine wpList_st_row rfl rfl 115 _ _ rfl (w.heap.size + 1) (((joinTo xs 16).map V8).toArray) rfl rfl 115 (((joinTo xs 16).map V8).toArray) (hp_more (hp_at _ _ _ (by simp))) (HT.out) (rfl) (all_V8 _) (by rewrite [setRow_more _ _ _ _ (by first | assumption | (simp <;> omega)), setRow_at _ _ _ _ _ _ (by simp <;> omega)]; rfl) ?_))
   exact ret_row Try.results101 (w.heap.size + 1) 115 (((joinTo xs 16).map V8).toArray) (0, 0) _ rfl (hp_more (hp_at _ _ _ (by simp))) Try.underlying115 rfl (HT.out) rfl ⟨rfl, ((Ext.alloc _ _).trans (Ext.alloc _ _)).trans (Ext.more _ _)⟩
def maskTo (xs ws : List (BitVec 32)) : Nat → List (BitVec 32)
 | 0 => xs
 | k + 1 => (maskTo xs ws k).set k ((maskTo xs ws k).getD k 0 ^^^ ws.getD k 0)
theorem maskTo_len (xs ws : List (BitVec 32)) : ∀ k, (maskTo xs ws k).length = xs.length
 | 0 => rfl
 | k + 1 => by rw [maskTo, List.length_set]; exact maskTo_len xs ws k
def maskF (xs ws : List (BitVec 32)) : List (BitVec 32) := maskTo xs ws 4
set_option maxHeartbeats 400000 in
theorem mask_any (xs ws : List (BitVec 32)) (hl : xs.length = 4) (hw : ws.length = 36) (w : World) :
  Calls Try.prog 98 #[.agg (xs.map V32).toArray, .agg (ws.map V32).toArray] w
   fun e w' => e = .returned (.agg ((maskF xs ws).map V32).toArray) ∧ Ext w w' := by
 have HL := kp hl
 have HW := kp hw
 clear hl hw
 go_enter Try.func98, Try.ntmps98
 go_wp2_with fail
 go_loopw [6] (fun i wr => ∃ (k : Nat) (x : Xtra), k ≤ 4 ∧ i = .int .i64 k ∧ wr = more (((w.alloc (.cells ((maskTo xs ws k).map V32).toArray 148)).alloc (.cells (ws.map V32).toArray 146)).alloc (.cells #[.int .u32 0, .int .u32 0, .int .u32 0, .int .u32 0] 148)) x) (fun i _ => 4 - (intOf i).toNat)
 case atStart => exact ⟨0, _, by omega, rfl, by rw [← more_self]; rfl⟩
 case round =>
  obtain ⟨k, x, hk, rfl, rfl⟩ := hrel
  by_cases hlt : k < 4
  ·obtain ⟨y, hy⟩ : ∃ y, (maskTo xs ws k)[k]? = some y := ⟨(maskTo xs ws k)[k]'(by rw [maskTo_len, HL.out]; omega), by simp⟩
   obtain ⟨z, hz⟩ : ∃ z, ws[k]? = some z := ⟨ws[k]'(by rw [HW.out]; omega), by simp⟩
   have HN := kp (show maskTo xs ws (k + 1) = (maskTo xs ws k).set k (y ^^^ z) by rw [maskTo]; simp [hy, hz])
   have hk36 : k < 36 := by omega
   go_wp2_with fail
   (first | with_reducible refine region_f2 8 (by kernel_rfl) (by kernel_rfl) (by kernel_rfl) (by kernel_rfl) (by decide) (Nat.le_of_ble_eq_true (by kernel_rfl)) ?_ | refine region_f 8 (by kernel_rfl) (by kernel_rfl) (by kernel_rfl) (by kernel_rfl) (by decide) (Nat.le_of_ble_eq_true (by kernel_rfl)) ?_)
   apply Exists.intro
   refine ⟨fun xz2 => ?_, fun xq2 => ?_⟩
   ·simp only [List.take_succ_cons, List.take_zero]
    unfold Cx
    repeat (go_big_quiet_step (fail))
    exact wpQuiet_nil rfl
   simp only [List.drop_succ_cons, List.drop_zero]
   go_wp2_with fail
   go_roundw
   case rel => exact ⟨k + 1, _, by omega, by go_num, by rw [HN.out, List.map_set]⟩
   case measure => simp [intOf]; omega
  ·obtain rfl : k = 4 := by omega
   have HT := kp (show (Try.prog.info? 148).map (·.size) = some ((maskTo xs ws 4).map V32).toArray.size by rw [size148]; simp [maskTo_len, HL.out])
   go_wp2_with (first | ((with_reducible refine isLd 148 ?_); (with_reducible refine wpList_load_row rfl 148 _ rfl (w.heap.size) rfl 148 (((maskTo xs ws 4).map V32).toArray) (0, 0) _ (hp_more (hp_alloc (hp_alloc (hp_new _ _)))) Try.underlying148 rfl (HT.out) ?_); simp only [pA]) | ((with_reducible refine isSt 148 ?_); with_reducible refine wpList_st_row rfl rfl 148 _ _ rfl (w.heap.size + 2) (((maskTo xs ws 4).map V32).toArray) rfl rfl 148 (#[.int .u32 0, .int .u32 0, .int .u32 0, .int .u32 0]) (hp_more (hp_at _ _ _ (by simp))) (HT.out) (by simp [maskTo_len, HL.out]) (all_V32 _) (by rewrite [setRow_more _ _ _ _ (by first | assumption | (simp <;> omega)), setRow_at _ _ _ _ _ _ (by simp <;> omega)]; rfl) ?_))
   exact ret_row Try.results98 (w.heap.size + 2) 148 (((maskTo xs ws 4).map V32).toArray) (0, 0) _ rfl (hp_more (hp_at _ _ _ (by simp))) Try.underlying148 rfl (HT.out) rfl ⟨rfl, (((Ext.alloc _ _).trans (Ext.alloc _ _)).trans (Ext.alloc _ _)).trans (Ext.more _ _)⟩
def schedC (k : Nat) : BitVec 32 := BitVec.ofNat 32 k * 2050759141#32 + 525043411#32
def schedTo (xs : List (BitVec 32)) : Nat → List (BitVec 32)
 | 0 => xs ++ List.replicate 32 0
 | k + 1 => (schedTo xs k).set (k + 4) ((schedTo xs k).getD k 0 + (rotl 7 ((schedTo xs k).getD (k + 3) 0) ^^^ schedC (k + 4)))
theorem schedTo_len (xs : List (BitVec 32)) : ∀ k, (schedTo xs k).length = xs.length + 32
 | 0 => by simp [schedTo]
 | k + 1 => by rw [schedTo, List.length_set]; exact schedTo_len xs k
def schedF (bs : List (BitVec 8)) : List (BitVec 32) := schedTo (wordsF bs) 32
theorem size146 : (Try.prog.info? 146).map (·.size) = some 36 := by kernel_rfl
theorem size25 : (Try.prog.info? 25).map (·.size) = some 16 := by kernel_rfl
theorem sched_start (ws : List (BitVec 32)) (h : ws.length = 4) : ((List.replicate 36 (0 : BitVec 32)).map V32).take 0 ++ (((ws.map V32).drop 0).take 4 ++ ((List.replicate 36 (0 : BitVec 32)).map V32).drop (0 + 4)) = (schedTo ws 0).map V32 := by
 have e : (ws.map V32).take 4 = ws.map V32 := List.take_of_length_le (by simp [h])
 rw [List.take_zero, List.drop_zero, e, schedTo, List.map_append]
 rfl
theorem schedC_int (k : Nat) (h : k < 32) : (((k : Int) + 4) * 2050759141 + 525043411) % 4294967296 = wI (schedC (k + 4)) := by
 unfold wI schedC
 rw [BitVec.toNat_add, BitVec.toNat_mul, BitVec.toNat_ofNat, BitVec.toNat_ofNat, BitVec.toNat_ofNat]
 have e : (k + 4) % 2 ^ 32 = k + 4 := Nat.mod_eq_of_lt (by omega)
 rw [e]
 simp only [Nat.reducePow, Nat.reduceMod]
 omega
set_option maxHeartbeats 800000 in
theorem schedule_any (bs : List (BitVec 8)) (hl : bs.length = 16) (w : World) :
  Calls Try.prog 97 #[.agg (bs.map V8).toArray] w
   fun e w' => e = .returned (.agg ((schedF bs).map V32).toArray) ∧ Ext w w' := by
 have HS := kp (show (Try.prog.info? 25).map (·.size) = some (bs.map V8).toArray.size by rw [size25]; simp [hl])
 have HL := kp hl
 clear hl
 have HT := kp (show (Try.prog.info? 148).map (·.size) = some ((wordsF bs).map V32).toArray.size by rw [size148]; simp [wordsF, wordsTo_len])
 go_enter Try.func97, Try.ntmps97
 go_wp2_with (first | ((with_reducible refine isLd 25 ?_); (with_reducible refine wpList_load_row rfl 25 _ rfl (w.heap.size) rfl 25 ((bs.map V8).toArray) (0, 0) _ (hp_alloc (hp_new _ _)) Try.underlying25 rfl (HS.out) ?_); simp only [pA]) | (go_at_call 99; refine (words_any bs HL.out _).mono ?_; rintro e w' ⟨rfl, xa, rfl⟩) | ((with_reducible refine isSt 148 ?_); with_reducible refine wpList_st_row rfl rfl 148 _ _ rfl (_) (((wordsF bs).map V32).toArray) rfl rfl 148 (#[.int .u32 0, .int .u32 0, .int .u32 0, .int .u32 0]) (hp_at _ _ _ (by simp [more_size])) (HT.out) (by simp [wordsF, wordsTo_len]) (all_V32 _) (by rewrite [setRow_at _ _ _ _ _ _ (by simp <;> omega)]; rfl) ?_))
 (first | with_reducible refine region_f2 2 (by kernel_rfl) (by kernel_rfl) (by kernel_rfl) (by kernel_rfl) (by decide) (Nat.le_of_ble_eq_true (by kernel_rfl)) ?_ | refine region_f 2 (by kernel_rfl) (by kernel_rfl) (by kernel_rfl) (by kernel_rfl) (by decide) (Nat.le_of_ble_eq_true (by kernel_rfl)) ?_)
 apply Exists.intro
 refine ⟨fun xz2 => ?_, fun xq2 => ?_⟩
 ·simp only [List.take_succ_cons, List.take_zero]
  unfold Cx
  repeat (go_big_quiet_step (fail))
  exact wpQuiet_nil rfl
 simp only [List.drop_succ_cons, List.drop_zero]
 have HZ := kp (show (wordsF bs).length = 4 by simp [wordsF, wordsTo_len])
 generalize hws : wordsF bs = ws at *
 have HWS := kp hws
 clear hws
 (with_reducible refine wpList_cp rfl (.tmp 7) (.tmp 8) 162 162 rfl 145 Try.underlying162 size145 (w.heap.size + 1) 0 36 36 (w.heap.size + 1 + 1 + xa.blocks.size) 0 4 4 rfl rfl ((List.replicate 36 (0 : BitVec 32)).map V32) 146 (hp_more (hp_alloc (hp_more (hp_at _ _ _ (by simp))))) (ws.map V32) 148 (0, 0) (hp_more (hp_at _ _ _ (by simp))) 4 (by decide) (by simp [HZ.out]) (by simp) (mem_V32 _) ((schedTo ws 0).map V32) (sched_start ws HZ.out) (by rewrite [setRow_more _ _ _ _ (by first | assumption | (simp <;> omega)), setRow_past _ _ _ _ (by simp <;> omega), setRow_more _ _ _ _ (by first | assumption | (simp <;> omega)), setRow_at _ _ _ _ _ _ (by simp <;> omega)]; rfl) ?_)
 simp only [pA]
 go_wp2_with fail
 go_loopw [4] (fun i wr => ∃ (k : Nat) (x : Xtra), k ≤ 32 ∧ i = .int .i64 ((k : Int) + 4) ∧ wr = more ((more ((w.alloc (.cells (bs.map V8).toArray 25)).alloc (.cells ((schedTo ws k).map V32).toArray 146)) xa).alloc (.cells (ws.map V32).toArray 148)) x) (fun i _ => 36 - (intOf i).toNat)
 case atStart => exact ⟨0, _, by omega, rfl, rfl⟩
 case round =>
  obtain ⟨k, x, hk, rfl, rfl⟩ := hrel
  by_cases hlt : k < 32
  ·obtain ⟨y, hy⟩ : ∃ y, (schedTo ws k)[k]? = some y := ⟨(schedTo ws k)[k]'(by rw [schedTo_len, HZ.out]; omega), by simp⟩
   obtain ⟨z, hz⟩ : ∃ z, (schedTo ws k)[k + 3]? = some z := ⟨(schedTo ws k)[k + 3]'(by rw [schedTo_len, HZ.out]; omega), by simp⟩
   obtain ⟨o, ho⟩ : ∃ o, (schedTo ws k)[k + 4]? = some o := ⟨(schedTo ws k)[k + 4]'(by rw [schedTo_len, HZ.out]; omega), by simp⟩
   have HN := kp (show schedTo ws (k + 1) = (schedTo ws k).set (k + 4) (y + (rotl 7 z ^^^ schedC (k + 4))) by rw [schedTo]; simp [hy, hz])
   have hc := schedC_int k hlt
   go_wp2_with fail
   (first | with_reducible refine region_f2 17 (by kernel_rfl) (by kernel_rfl) (by kernel_rfl) (by kernel_rfl) (by decide) (Nat.le_of_ble_eq_true (by kernel_rfl)) ?_ | refine region_f 17 (by kernel_rfl) (by kernel_rfl) (by kernel_rfl) (by kernel_rfl) (by decide) (Nat.le_of_ble_eq_true (by kernel_rfl)) ?_)
   apply Exists.intro
   refine ⟨fun xz3 => ?_, fun xq3 => ?_⟩
   ·simp only [List.take_succ_cons, List.take_zero]
    unfold Cx
    repeat (go_big_quiet_step (exact Calls.cx_of_same (rot_any _ _ (by decide) (by decide) _)))
    exact wpQuiet_nil rfl
   simp only [List.drop_succ_cons, List.drop_zero]
   go_wp2_with fail
   go_roundw
   case rel => exact ⟨k + 1, _, by omega, by go_num, by rw [HN.out, List.map_set]⟩
   case measure => simp [intOf]; omega
  ·obtain rfl : k = 32 := by omega
   have HU := kp (show (Try.prog.info? 146).map (·.size) = some ((schedTo ws 32).map V32).toArray.size by rw [size146]; simp [schedTo_len, HZ.out])
   go_wp2_with (first | ((with_reducible refine isLd 146 ?_); (with_reducible refine wpList_load_row rfl 146 _ rfl (w.heap.size + 1) rfl 146 (((schedTo ws 32).map V32).toArray) (0, 0) _ (hp_more (hp_alloc (hp_more (hp_at _ _ _ (by simp))))) Try.underlying146 rfl (HU.out) ?_); simp only [pA]) | ((with_reducible refine isSt 146 ?_); with_reducible refine wpList_st_row rfl rfl 146 _ _ rfl (w.heap.size + 1) (((schedTo ws 32).map V32).toArray) rfl rfl 146 (((schedTo ws 32).map V32).toArray) (hp_more (hp_alloc (hp_more (hp_at _ _ _ (by simp))))) (HU.out) (rfl) (all_V32 _) (by rewrite [setRow_more _ _ _ _ (by first | assumption | (simp <;> omega)), setRow_past _ _ _ _ (by simp <;> omega), setRow_more _ _ _ _ (by first | assumption | (simp <;> omega)), setRow_at _ _ _ _ _ _ (by simp <;> omega)]; rfl) ?_))
   exact ret_row Try.results97 (w.heap.size + 1) 146 (((schedTo ws 32).map V32).toArray) (0, 0) _ rfl (hp_more (hp_alloc (hp_more (hp_at _ _ _ (by simp))))) Try.underlying146 rfl (HU.out) rfl ⟨by rw [← HWS.out]; rfl, ((((Ext.alloc _ _).trans (Ext.alloc _ _)).trans (Ext.more _ _)).trans (Ext.alloc _ _)).trans (Ext.more _ _)⟩
def roundL (xs : List (BitVec 32)) (p q : BitVec 32) : List (BitVec 32) := roundF (xs.getD 0 0) (xs.getD 1 0) (xs.getD 2 0) (xs.getD 3 0) p q
def encTo (xs ws : List (BitVec 32)) : Nat → List (BitVec 32)
 | 0 => xs
 | k + 1 => roundL (encTo xs ws k) (ws.getD (4 + 2 * k) 0) (ws.getD (5 + 2 * k) 0)
theorem encTo_len (xs ws : List (BitVec 32)) (h : xs.length = 4) : ∀ k, (encTo xs ws k).length = 4
 | 0 => h
 | _ + 1 => rfl
theorem list4 {α : Type} {l : List α} (h : l.length = 4) : ∃ a b c d, l = [a, b, c, d] := by
 match l, h with
 | [a, b, c, d], _ => exact ⟨a, b, c, d, rfl⟩
def encF (ks bs : List (BitVec 8)) : List (BitVec 8) := joinF (encTo (maskF (wordsF bs) (schedF ks)) (schedF ks) 16)
theorem wordsF_len (bs : List (BitVec 8)) : (wordsF bs).length = 4 := by simp [wordsF, wordsTo_len]
theorem schedF_len (bs : List (BitVec 8)) : (schedF bs).length = 36 := by simp [schedF, schedTo_len, wordsF_len]
theorem maskF_len (xs ws : List (BitVec 32)) (h : xs.length = 4) : (maskF xs ws).length = 4 := by simp [maskF, maskTo_len, h]
theorem joinF_len (xs : List (BitVec 32)) : (joinF xs).length = 16 := by simp [joinF, joinTo_len]
def zero4 : Array Value := #[.int .u32 0, .int .u32 0, .int .u32 0, .int .u32 0]
theorem zero36 : (#[.int .u32 0, .int .u32 0, .int .u32 0, .int .u32 0, .int .u32 0, .int .u32 0, .int .u32 0, .int .u32 0, .int .u32 0, .int .u32 0, .int .u32 0, .int .u32 0, .int .u32 0, .int .u32 0, .int .u32 0, .int .u32 0, .int .u32 0, .int .u32 0, .int .u32 0, .int .u32 0, .int .u32 0, .int .u32 0, .int .u32 0, .int .u32 0, .int .u32 0, .int .u32 0, .int .u32 0, .int .u32 0, .int .u32 0, .int .u32 0, .int .u32 0, .int .u32 0, .int .u32 0, .int .u32 0, .int .u32 0, .int .u32 0] : Array Value).size = 36 := rfl
set_option maxHeartbeats 1600000 in
theorem encrypt_any (ks bs : List (BitVec 8)) (hk : ks.length = 16) (hl : bs.length = 16) (w : World) :
  Calls Try.prog 80 #[.agg (ks.map V8).toArray, .agg (bs.map V8).toArray] w
   fun e w' => e = .returned (.agg ((encF ks bs).map V8).toArray) ∧ Ext w w' := by
 have HK := kp (show (Try.prog.info? 25).map (·.size) = some (ks.map V8).toArray.size by rw [size25]; simp [hk])
 have HB := kp (show (Try.prog.info? 115).map (·.size) = some (bs.map V8).toArray.size by rw [size115]; simp [hl])
 have HL := kp hl
 have HKL := kp hk
 have HSL := kp (schedF_len ks)
 have HWL := kp (wordsF_len bs)
 generalize hss : schedF ks = ss at *
 have HSS := kp hss
 generalize hws : wordsF bs = xs at *
 have HWS := kp hws
 have HS := kp (show (Try.prog.info? 146).map (·.size) = some (ss.map V32).toArray.size by rw [size146]; simp [HSL.out])
 have HM := kp (show (Try.prog.info? 148).map (·.size) = some ((maskF xs ss).map V32).toArray.size by rw [size148]; simp [maskF_len _ _ HWL.out])
 have HML := kp (maskF_len xs ss HWL.out)
 clear hl hk hss hws
 have HWC := kp (fun w => show Calls Try.prog 99 #[.agg (bs.map V8).toArray] w fun e w' => e = .returned (.agg (xs.map V32).toArray) ∧ Ext w w' from by have h := words_any bs HL.out w; rw [HWS.out] at h; exact h)
 go_enter Try.func80, Try.ntmps80
 go_wp2_with (first | ((with_reducible refine isLd 25 ?_); (with_reducible refine wpList_load_row rfl 25 _ rfl (w.heap.size) rfl 25 ((ks.map V8).toArray) (0, 0) _ (hp_alloc (hp_alloc (hp_new _ _))) Try.underlying25 rfl (HK.out) ?_); simp only [pA]) | (go_at_call 97; refine (schedule_any ks HKL.out _).mono ?_; rintro e w' ⟨rfl, xa, rfl⟩; rw [HSS.out]) | ((with_reducible refine isSt 146 ?_); with_reducible refine wpList_st_row rfl rfl 146 _ _ rfl (_) ((ss.map V32).toArray) rfl rfl 146 (_) (hp_at _ _ _ (by simp)) (HS.out) (by rw [zero36]; simp [HSL.out]) (all_V32 _) (by rewrite [setRow_at _ _ _ _ _ _ (by simp <;> omega)]; rfl) ?_))
 (first | with_reducible refine region_a2 5 4 6 (.cells zero4 148) (by kernel_rfl) (by kernel_rfl) (by kernel_rfl) (by kernel_rfl) (by intro o ho; cases ho; exact ⟨rfl, rfl, by simp, fun _ _ => by kernel_rfl⟩) (by decide) ?_ | refine region_a 5 4 6 (.cells zero4 148) (by kernel_rfl) (by kernel_rfl) (by kernel_rfl) (by kernel_rfl) (by intro o ho; cases ho; exact ⟨rfl, rfl, by simp, fun _ _ => by kernel_rfl⟩) (by decide) ?_)
 apply Exists.intro
 refine ⟨fun xz2 => ?_, fun xm2 xq2 => ?_⟩
 ·simp only [List.take_succ_cons, List.take_zero, List.eraseIdx_cons_succ, List.eraseIdx_cons_zero]
  unfold Cx
  (((with_reducible show wpQuiet _ _ _ _ (Oper.mk _ (Op.load 115 _) _ _ _ _ :: _) _); go_big_quiet_want; with_reducible refine quiet_load_row 115 _ rfl (w.heap.size + 1) rfl 115 ((bs.map V8).toArray) (0, 0) _ (fun _ hw => by obtain ⟨xx, rfl⟩ := hw; exact hp_more (hp_alloc (hp_more (hp_alloc (hp_at _ _ _ (by simp)))))) Try.underlying115 rfl (HB.out) ?_; simp only [pA]; go_big_quiet_on); go_big_quiet_step (exact Calls.cx_of (HWC.out _)); ((with_reducible show wpQuiet _ _ _ _ (Oper.mk _ (Op.load 146 _) _ _ _ _ :: _) _); go_big_quiet_want; with_reducible refine quiet_load_row 146 _ rfl (w.heap.size + 1 + 1 + 1 + xa.blocks.size) rfl 146 ((ss.map V32).toArray) (0, 0) _ (fun _ hw => by obtain ⟨xx, rfl⟩ := hw; exact hp_more (hp_at _ _ _ (by simp))) Try.underlying146 rfl (HS.out) ?_; simp only [pA]; go_big_quiet_on); go_big_quiet_step (exact Calls.cx_of (mask_any xs ss HWL.out HSL.out _)))
  exact wpQuiet_nil rfl
 simp only [List.drop_succ_cons, List.drop_zero, Act.put, List.setIfInBounds_toArray, List.set_cons_zero, List.set_cons_succ]
 try simp only [World.size_alloc]
 try simp only [more_size]
 generalize hms : maskF xs ss = ms at *
 have HMS := kp hms
 clear hms
 go_wp2_with (first | ((with_reducible refine isSt 148 ?_); with_reducible refine wpList_st_row rfl rfl 148 _ _ rfl (_) ((ms.map V32).toArray) rfl rfl 148 (zero4) (hp_more (hp_at _ _ _ (by simp))) (HM.out) (by simp [HML.out, zero4]) (all_V32 _) (by rewrite [setRow_more _ _ _ _ (by first | assumption | (simp <;> omega)), setRow_at _ _ _ _ _ _ (by simp <;> omega)]; rfl) ?_))
 go_loopw [14] (fun i wr => ∃ (k : Nat) (x : Xtra), k ≤ 16 ∧ i = .int .i64 k ∧ wr = more ((more ((more (((w.alloc (.cells (ks.map V8).toArray 25)).alloc (.cells (bs.map V8).toArray 115)).alloc (.cells #[.int .u8 0, .int .u8 0, .int .u8 0, .int .u8 0, .int .u8 0, .int .u8 0, .int .u8 0, .int .u8 0, .int .u8 0, .int .u8 0, .int .u8 0, .int .u8 0, .int .u8 0, .int .u8 0, .int .u8 0, .int .u8 0] 115)) xa).alloc (.cells (ss.map V32).toArray 146)) xm2).alloc (.cells ((encTo ms ss k).map V32).toArray 148)) x) (fun i _ => 16 - (intOf i).toNat)
 case atStart => exact ⟨0, _, by omega, rfl, rfl⟩
 case round =>
  obtain ⟨k, x, hk, rfl, rfl⟩ := hrel
  by_cases hlt : k < 16
  ·obtain ⟨p, hp⟩ : ∃ p, ss[4 + 2 * k]? = some p := ⟨ss[4 + 2 * k]'(by rw [HSL.out]; omega), by simp⟩
   obtain ⟨q, hq⟩ : ∃ q, ss[5 + 2 * k]? = some q := ⟨ss[5 + 2 * k]'(by rw [HSL.out]; omega), by simp⟩
   obtain ⟨a, b, c, d, he⟩ := list4 (encTo_len ms ss HML.out k)
   have HN := kp (show encTo ms ss (k + 1) = roundF a b c d p q by rw [encTo, he]; simp [roundL, hp, hq])
   rw [he]
   clear he
   have HR := kp (show (Try.prog.info? 148).map (·.size) = some ((roundF a b c d p q).map V32).toArray.size by rw [size148]; rfl)
   simp only [List.map_cons, List.map_nil]
   go_wp2_with fail
   (first | with_reducible refine region_f2 12 (by kernel_rfl) (by kernel_rfl) (by kernel_rfl) (by kernel_rfl) (by decide) (Nat.le_of_ble_eq_true (by kernel_rfl)) ?_ | refine region_f 12 (by kernel_rfl) (by kernel_rfl) (by kernel_rfl) (by kernel_rfl) (by decide) (Nat.le_of_ble_eq_true (by kernel_rfl)) ?_)
   apply Exists.intro
   refine ⟨fun xz3 => ?_, fun xq3 => ?_⟩
   ·simp only [List.take_succ_cons, List.take_zero]
    unfold Cx
    repeat (go_big_quiet_step (exact Calls.cx_of (round_any a b c d p q _)))
    exact wpQuiet_nil rfl
   simp only [List.drop_succ_cons, List.drop_zero]
   go_wp2_with (first | ((with_reducible refine isSt 148 ?_); with_reducible refine wpList_st_row rfl rfl 148 _ _ rfl (_) (((roundF a b c d p q).map V32).toArray) rfl rfl 148 (#[V32 a, V32 b, V32 c, V32 d]) (hp_more (hp_at _ _ _ (by simp))) (HR.out) (rfl) (all_V32 _) (by rewrite [setRow_more _ _ _ _ (by first | assumption | (simp <;> omega)), setRow_at _ _ _ _ _ _ (by simp <;> omega)]; rfl) ?_))
   go_roundw
   case rel => exact ⟨k + 1, _, by omega, by go_num, by rw [HN.out]⟩
   case measure => simp [intOf]; omega
  ·obtain rfl : k = 16 := by omega
   have HE := kp (show (Try.prog.info? 148).map (·.size) = some ((encTo ms ss 16).map V32).toArray.size by rw [size148]; simp [encTo_len _ _ HML.out])
   have HJ := kp (show (Try.prog.info? 115).map (·.size) = some ((joinF (encTo ms ss 16)).map V8).toArray.size by rw [size115]; simp [joinF_len])
   go_wp2_with (first | ((with_reducible refine isLd 148 ?_); (with_reducible refine wpList_load_row rfl 148 _ rfl (_) rfl 148 (((encTo ms ss 16).map V32).toArray) (0, 0) _ (hp_more (hp_at _ _ _ (by simp))) Try.underlying148 rfl (HE.out) ?_); simp only [pA]) | (go_at_call 101; refine (join_any (encTo ms ss 16) (encTo_len _ _ HML.out 16) _).mono ?_; rintro e w' ⟨rfl, xj, rfl⟩; rw [more_more]) | ((with_reducible refine isSt 115 ?_); with_reducible refine wpList_st_row rfl rfl 115 _ _ rfl (w.heap.size + 1 + 1) (((joinF (encTo ms ss 16)).map V8).toArray) rfl rfl 115 (#[.int .u8 0, .int .u8 0, .int .u8 0, .int .u8 0, .int .u8 0, .int .u8 0, .int .u8 0, .int .u8 0, .int .u8 0, .int .u8 0, .int .u8 0, .int .u8 0, .int .u8 0, .int .u8 0, .int .u8 0, .int .u8 0]) (hp_more (hp_alloc (hp_more (hp_alloc (hp_more (hp_at _ _ _ (by simp))))))) (HJ.out) (by simp [joinF_len]) (all_V8 _) (by rewrite [setRow_more _ _ _ _ (by first | assumption | (simp <;> omega)), setRow_past _ _ _ _ (by simp <;> omega), setRow_more _ _ _ _ (by first | assumption | (simp <;> omega)), setRow_past _ _ _ _ (by simp <;> omega), setRow_more _ _ _ _ (by first | assumption | (simp <;> omega)), setRow_at _ _ _ _ _ _ (by simp <;> omega)]; rfl) ?_))
   exact ret_row Try.results80 (w.heap.size + 1 + 1) 115 (((joinF (encTo ms ss 16)).map V8).toArray) (0, 0) _ rfl (hp_more (hp_alloc (hp_more (hp_alloc (hp_more (hp_at _ _ _ (by simp))))))) Try.underlying115 rfl (HJ.out) rfl ⟨by rw [← HMS.out, ← HWS.out, ← HSS.out]; rfl, (((((((Ext.alloc _ _).trans (Ext.alloc _ _)).trans (Ext.alloc _ _)).trans (Ext.more _ _)).trans (Ext.alloc _ _)).trans (Ext.more _ _)).trans (Ext.alloc _ _)).trans (Ext.more _ _)⟩
def z16 : Array Value := ((List.replicate 16 (0 : BitVec 8)).map V8).toArray
theorem z16_size (l : List (BitVec 8)) (h : l.length = 16) : z16.size = (l.map V8).toArray.size := by simp [z16, h]
theorem encF_len (ks bs : List (BitVec 8)) : (encF ks bs).length = 16 := by simp [encF, joinF_len]
theorem sizeK (l : List (BitVec 8)) (h : l.length = 16) : (Try.prog.info? 25).map (·.size) = some (l.map V8).toArray.size := by rw [size25]; simp [h]
theorem sizeB (l : List (BitVec 8)) (h : l.length = 16) : (Try.prog.info? 115).map (·.size) = some (l.map V8).toArray.size := by rw [size115]; simp [h]
theorem L_appB {w0 w : World} {bs : List Bk} {ops : Array Oper} {rest : List Oper} {o : Oper} {a : Act} {Q : Exit → Act → World → Prop} (H : Kp (Loc w0 w bs)) (hgd : o.guard = none) (s x : Operand)
  (ho : o.op = .call { callee := .builtin .append, args := #[s, x], argTypes := #[33, 33] })
  (base : Nat) (hb0 : w0.heap.size ≤ base) (hbase : base ≤ w.heap.size) (hlt : ∀ g ∈ bs.map (·.1), g < base) (v : Value) (l : List (BitVec 8)) (hs : a.eval s = v) (hown : w.ownsRow base 5 1 v l.length (l.map V8))
  (vx : Value) (m : List (BitVec 8)) (hx : a.eval x = vx) (hsl : SlB w vx m) (hlen : l.length + m.length ≤ 1000000)
  (h : ∀ v' w', Kp (w'.ownsRow base 5 1 v' (l ++ m).length ((l ++ m).map V8)) → Kp (w.grownBy w' v.ownBlock) → Kp (Loc w0 w' bs) → wpList Try.prog ops Q rest (a.put o.dst v') w') : wpList Try.prog ops Q (o :: rest) a w := by
 obtain ⟨iu, hiu, hu⟩ := info_iu
 refine wpList_append_SlB hgd s x 33 ho base 5 iu Try.underlying33 hiu hu.1 hu.2.1 hu.2.2 v l hs hown vx m hx hsl hlen hbase ?_
 intro v' w' ho1 hg1
 refine h v' w' (kp ho1) (kp hg1) (kp ⟨H.out.1.grown hg1 (fun k hk => Nat.le_trans hb0 (owns_block hown k hk)), H.out.2.1, fun b hb => ⟨(H.out.2.2 b hb).1, ?_⟩⟩)
 have h5 := (H.out.2.2 b hb).2
 have h6 := hlt b.1 (List.mem_map.2 ⟨b, hb, rfl⟩)
 exact (hg1.block b.1 h5.lt (fun e => by have := owns_block hown b.1 e.symm; omega)).trans h5
def zs16 : List Value := List.replicate 16 (.int .u8 0)
theorem zero16 : Builtin.zeroCells #[Value.int .u8 0] 16 = zs16.toArray := by kernel_rfl
section
variable {P : Program}
theorem run_append_zeros (w : World) (base : Nat) (t u ty e : TypeId) (i : TypeInfo) (ht : P.underlying t = some (.slice e)) (hu : P.underlying u = some (.int .i64)) (hi : P.info? e = some i) (hz : i.zero = some (.int .u8 0)) (hsize : i.size = 1) (hby : i.bytes = 1)
  (v : Value) (n : Nat) (xs : List Value) (hown : w.ownsRow base e 1 v n xs) (hn0 : 0 < n) (h63 : n ≤ 1000000) (hbase : base ≤ w.heap.size) :
  ∃ v' w', (Builtin.append_ #[t, u] ty #[v, .int .i64 16]).run P w = .ok v' w' ∧ w'.ownsRow base e 1 v' (n + 16) (xs ++ zs16) ∧ w.grownBy w' v.ownBlock := by
 have hlen : (xs ++ zs16).length = (n + 16) * 1 := by rw [List.length_append, hown.1]; simp [zs16]
 have hai : ∀ w, (asInt (.int .i64 16)).run P w = .ok 16 w := fun _ => rfl
 have hwr : IntKind.i64.wrap 16 = 16 := by decide
 rcases hown.2 with ⟨_, h0⟩ | ⟨g, cap, cur, rfl, hbg, hg, hnc, hcm, hcs, htake⟩
 ·omega
 ·by_cases hroom : n + 16 ≤ cap
  ·have hst := run_storeCells_at P g n e zs16 0 cur w hg (by simp [zs16]; omega) (by simp [zs16, Value.oneCell'])
   simp only [Nat.add_zero] at hst
   refine ⟨.slice (some ⟨g, 0, none⟩) (n + 16) cap, w.setRow g (cur.toList.take n ++ zs16 ++ cur.toList.drop (n + zs16.length)).toArray, ?_, ⟨hlen, .inr ⟨g, cap, _, rfl, hbg, setRow_heap w g cur _ e _ hg, hroom, hcm, ?_, ?_⟩⟩, ⟨rfl, rfl, rfl, by simp, fun k _ hk => setRow_other w g k _ (fun e => hk (by simp [Value.ownBlock, e]))⟩⟩
   ·simp [Builtin.append_, run_underlying ht, run_underlying hu, sizeOf, typeInfo, zeroValue, hi, hz, hsize, hby, hroom, hai, hwr, Value.cells, zero16, Addr.add_lit, hst]
   ·simp only [List.size_toArray, List.length_append, List.length_take, List.length_drop, Array.length_toList]
    have : zs16.length = 16 := rfl
    omega
   ·have h1 : cur.toList.take n = xs := by simpa using htake
    rw [h1, ← hlen]
    exact List.take_left
  ·have holds : ∀ j u, xs[j]? = some u → w.cell? ((⟨g, 0, none⟩ : Addr).add j) = some u := hown.cells (g := g) rfl
   have hfo := run_firstCells_some (P := P) w.drew 1 n ⟨g, 0, none⟩ n cap xs hown.1 (by simpa using holds)
   have hn : ¬ (n + 16 ≤ cap) := by omega
   have h63' : ¬ (9223372036854775807 < ((n : Int) + (max 16 0 : Int))) := by omega
   have h48' : ¬ (281474976710656 < Builtin.nextslicecap (n + 16) cap) := by
    have := growslice_fits (need := n + 16) (old := cap) (bytes := 1) (by omega) (by omega)
    omega
   have hge := grownCap_ge w (n + 16) cap e
   have hcm2 : grownCap w (n + 16) cap e ≤ maxLen := grownCap_le_maxLen w (n + 16) cap e (by unfold maxLen; omega)
   refine ⟨.slice (some ⟨w.heap.size, 0, none⟩) (n + 16) (grownCap w (n + 16) cap e), w.drew.alloc (.cells (xs.toArray ++ zs16.toArray ++ Builtin.zeroCells #[.int .u8 0] (grownCap w (n + 16) cap e - (n + 16))) e), ?_, ⟨hlen, .inr ⟨w.heap.size, _, _, rfl, hbase, heap_alloc_new w.drew _, hge, hcm2, ?_, ?_⟩⟩, ⟨rfl, rfl, rfl, by simp, fun k hk _ => heap_alloc_old w.drew _ hk⟩⟩
   ·simp [Builtin.append_, run_underlying ht, run_underlying hu, sizeOf, typeInfo, zeroValue, hi, hz, hsize, hby, hn, h63', h48', hai, hwr, Value.cells, zero16, Question.forced, hfo, newRow, grownCap]
    congr 2
    apply Array.ext'
    simp [List.append_assoc]
   ·simp only [Array.size_append, List.size_toArray, size_zeroCells, hown.1]
    have : zs16.length = 16 := rfl
    rw [this]; simp; omega
   ·simp only [Array.toList_append, List.append_assoc]
    rw [← List.append_assoc, ← hlen]
    exact List.take_left
theorem L_appZ {w0 w : World} {bs : List Bk} {ops : Array Oper} {rest : List Oper} {o : Oper} {a : Act} {Q : Exit → Act → World → Prop} (H : Kp (Loc w0 w bs)) (hgd : o.guard = none) (s : Operand)
  (ho : o.op = .call { callee := .builtin .append, args := #[s, .const (.int .i64 16)], argTypes := #[33, 3] })
  (base : Nat) (hb0 : w0.heap.size ≤ base) (hbase : base ≤ w.heap.size) (hlt : ∀ g ∈ bs.map (·.1), g < base) (v : Value) (l : List (BitVec 8)) (hs : a.eval s = v) (hown : w.ownsRow base 5 1 v l.length (l.map V8)) (h0 : 0 < l.length) (hlen : l.length ≤ 1000000)
  (h : ∀ v' w', Kp (w'.ownsRow base 5 1 v' (l ++ List.replicate 16 0#8).length ((l ++ List.replicate 16 0#8).map V8)) → Kp (w.grownBy w' v.ownBlock) → Kp (Loc w0 w' bs) → wpList Try.prog ops Q rest (a.put o.dst v') w') : wpList Try.prog ops Q (o :: rest) a w := by
 obtain ⟨iu, hiu, hu⟩ := info_iu
 obtain ⟨v', w', hr, h2, hg1⟩ := run_append_zeros (P := Try.prog) w base 33 3 o.type 5 iu Try.underlying33 Try.underlying3 hiu hu.1 hu.2.1 hu.2.2 v l.length (l.map V8) hown h0 hlen hbase
 refine wpList_plain hgd fun K hK => ?_
 unfold Oper.wp execOp
 simp only [ho, resolve, invoke, builtin, Sem.run_bind, Sem.run_pure, Result.andThen_ok, List.map_toArray, List.map_cons, List.map_nil, hs]
 rw [show a.eval (.const (.int .i64 16)) = .int .i64 16 from rfl, hr]
 refine hK _ _ (h v' w' (kp ?_) (kp hg1) (kp ⟨H.out.1.grown hg1 (fun k hk => Nat.le_trans hb0 (owns_block hown k hk)), H.out.2.1, fun b hb => ⟨(H.out.2.2 b hb).1, ?_⟩⟩))
 ·have e1 : (l ++ List.replicate 16 0#8).length = l.length + 16 := by simp
  have e2 : (l ++ List.replicate 16 0#8).map V8 = l.map V8 ++ zs16 := by rw [List.map_append]; rfl
  rw [e1, e2]; exact h2
 ·have h5 := (H.out.2.2 b hb).2
  have h6 := hlt b.1 (List.mem_map.2 ⟨b, hb, rfl⟩)
  exact (hg1.block b.1 h5.lt (fun e => by have := owns_block hown b.1 e.symm; omega)).trans h5
theorem wpList_append_full {w : World} {ops : Array Oper} {rest : List Oper} {o : Oper} {a : Act} {Q : Exit → Act → World → Prop} (hgd : o.guard = none) (s x : Operand)
  (ho : o.op = .call { callee := .builtin .append, args := #[s, x], argTypes := #[33, 33] })
  {g T : Nat} {l : List (BitVec 8)} (hL : Lc w g T (l.map V8)) {n : Nat} (hn : n = l.length) (hs : a.eval s = .slice (some ⟨g, 0, none⟩) n n) {y : Value} {m : List (BitVec 8)} (hx : a.eval x = y) (hy : SlB w y m) (h0 : 0 < m.length) (hlen : l.length + m.length ≤ 1000000)
  (h : ∀ v' w', w'.ownsRow w.heap.size 5 1 v' (l ++ m).length ((l ++ m).map V8) → Ext w w' → wpList Try.prog ops Q rest (a.put o.dst v') w') : wpList Try.prog ops Q (o :: rest) a w := by
 obtain ⟨iu, hiu, hu⟩ := info_iu
 rcases hy with ⟨rfl, _⟩ | ⟨b, off, cap, rfl, hb, hc⟩
 ·simp at h0
 subst hn
 have holds : ∀ j v, (l.map V8)[j]? = some v → w.cell? ((⟨g, 0, none⟩ : Addr).add j) = some v := fun j v hj => by
  rw [Addr.add_mid, Nat.zero_add]; exact hL.cell hj
 have hnews : ∀ j v, (m.map V8)[j]? = some v → w.cell? ((⟨b, off, none⟩ : Addr).add j) = some v := fun j v hj => by
  rw [Addr.add_mid]
  rw [List.getElem?_map] at hj
  cases hm : m[j]? with
  | none => simp [hm] at hj
  | some z => simp [hm] at hj; subst hj; exact hc j z hm
 have hr := run_append_grow (P := Try.prog) w 33 o.type 5 iu (.int .u8 0) Try.underlying33 hiu hu.1 ⟨g, 0, none⟩ l.length l.length (l.map V8) (by simp [hu.2.1]) holds ⟨b, off, none⟩ m.length cap (m.map V8) (by simp [hu.2.1]) hnews (by omega) (by omega) (growslice_fits (by omega) (by rw [hu.2.2]; omega))
 refine wpList_plain hgd fun K hK => ?_
 unfold Oper.wp execOp
 simp only [ho, resolve, invoke, builtin, Sem.run_bind, Sem.run_pure, Result.andThen_ok, List.map_toArray, List.map_cons, List.map_nil, hs, hx, hr]
 have hge := grownCap_ge w (l.length + m.length) l.length 5
 have hcm := grownCap_le_maxLen w (l.length + m.length) l.length 5 (by unfold maxLen; omega)
 refine hK _ _ (h _ _ ⟨by simp, .inr ⟨w.heap.size, _, _, by rw [List.length_append], Nat.le_refl _, heap_alloc_new w.drew _, by rw [List.length_append]; exact hge, hcm, ?_, ?_⟩⟩ ((Ext.drew w).trans (Ext.alloc _ _)))
 ·simp only [Array.size_append, List.size_toArray, size_zeroCells, List.length_map, Value.cells]
  simp; omega
 ·simp only [Array.toList_append, List.append_assoc, List.map_append]
  rw [← List.append_assoc]
  exact List.take_left' (by simp)
end
end Go.Proofs.Ytibncchobkaaiaa
