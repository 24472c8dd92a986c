/- The walk of CounterGrows. -/
import Derived.Test.YtjnaegpjhbobaaaLaw24a
import Derived.Test.YtjnaegpjhbobaaaPlain24
import Derived.Test.YtjnaegpjhbobaaaCeq
namespace Go.Proofs.Ytjnaegpjhbobaaa
open Go.RowKit

theorem acceptF_bad (a : Int) (l : List Win) (tid n : Int) (h : checkF a l = 8 ∨ tid < 0 ∨ 8 < tid ∨ n < 1 ∨ 281474976710655 < n) : ∃ e, acceptF a l tid n = ((0, zeroWs), e) ∧ e ≠ 0 := by
  unfold acceptF most
  by_cases h1 : checkF a l = 8
  · rw [if_pos h1]; exact ⟨8, rfl, by decide⟩
  · rw [if_neg h1, if_pos (by omega)]; exact ⟨2, rfl, by decide⟩

set_option maxHeartbeats 3200000 in
set_option maxRecDepth 10000 in
theorem growsBad (a : Int) (l : List Win) (hl : l.length = 9) (tid n : Int) (w : World) (h : checkF a l = 8 ∨ tid < 0 ∨ 8 < tid ∨ n < 1 ∨ 281474976710655 < n) :
    Calls Try.prog 4 #[.agg (cellsC a l).toArray, .int .i64 tid, .int .i64 n] w fun e w' => e = .returned (.bool true) ∧ Ext w w' := by
  obtain ⟨q, hq, hq0⟩ := acceptF_bad a l tid n h
  have HA := kp (fun w => accept_any a l tid n hl w)
  rw [hq] at HA
  unfold RetAcc at HA
  dsimp only at HA
  have HC := kp (fun w => check_any a l hl w)
  have HS := kp (sizeC a l hl)
  have HS2 := kp (sizeC 0 zeroWs rfl)
  have HE := kp (zeroC_size 0 zeroWs rfl)
  have HO := kp (all_cellsC 0 zeroWs)
  have heqz : ∀ w, (binOp .eql 29 (.agg (cellsC 0 zeroWs).toArray) (.agg #[.int .i64 0, .int .i64 0, .int .u64 0, .int .i64 0, .int .u64 0, .int .i64 0, .int .u64 0, .int .i64 0, .int .u64 0, .int .i64 0, .int .u64 0, .int .i64 0, .int .u64 0, .int .i64 0, .int .u64 0, .int .i64 0, .int .u64 0, .int .i64 0, .int .u64 0])).run Try.prog w = .ok (.bool true) w := fun w => eqCounters w 0 zeroWs rfl
  clear hq hl
  have hqb : (q != 0) = true := by simpa using hq0
  have HH := kp h
  clear h
  rcases checkF_cases a l with hk | hk
  case inl =>
    rw [hk] at HC
    clear hk
    go_enter Try.func4, Try.ntmps4
    go_wp2_with fail
    refine (alive_any _).mono ?_
    rintro e w' ⟨rfl, xa, rfl⟩
    go_wp2_with ((with_reducible show wpList _ _ _ (Oper.mk _ (Op.load 29 _) _ _ _ _ :: _) _ _); (with_reducible refine wpList_load_row rfl 29 _ rfl (w.heap.size) rfl 29 ((cellsC a l).toArray) (0, 0) _ (hp_more (hp_new _ _)) Try.underlying29 rfl (HS.out) ?_); simp only [Act.put, List.setIfInBounds_toArray, List.set_cons_zero, List.set_cons_succ])
    refine (HA.out _).mono ?_
    rintro e w' ⟨rfl, x1, rfl⟩
    rw [more_more]
    go_wp2_with (first | ((with_reducible show wpList _ _ _ (Oper.mk none (Op.store 29 _ _) _ _ _ _ :: _) _ _); with_reducible refine wpList_st_row rfl rfl 29 _ _ rfl (w.heap.size + 1 + (xa.blocks.size + x1.blocks.size)) ((cellsC 0 zeroWs).toArray) rfl rfl 29 (_) (hp_at _ _ _ (by simp)) (HS2.out) (HE.out) (HO.out) (by rewrite [setRow_at _ _ _ _ _ _ (by simp <;> omega)]; rfl) ?_) | ((with_reducible show wpList _ _ _ (Oper.mk _ (Op.load 29 _) _ _ _ _ :: _) _ _); (with_reducible refine wpList_load_row rfl 29 _ rfl (w.heap.size) rfl 29 ((cellsC a l).toArray) (0, 0) _ (hp_alloc (hp_more (hp_new _ _))) Try.underlying29 rfl (HS.out) ?_); simp only [Act.put, List.setIfInBounds_toArray, List.set_cons_zero, List.set_cons_succ]))
    refine (HC.out _).mono ?_
    rintro e w' ⟨rfl, x2, rfl⟩
    go_wp2_with ((with_reducible show wpList _ _ _ (Oper.mk _ (Op.load 29 _) _ _ _ _ :: _) _ _); (with_reducible refine wpList_load_rowG (by kernel_rfl) 29 _ rfl (w.heap.size + 1 + (xa.blocks.size + x1.blocks.size)) rfl 29 ((cellsC 0 zeroWs).toArray) (0, 0) _ (hp_more (hp_at _ _ _ (by simp))) Try.underlying29 rfl (HS2.out) ?_); simp only [Act.put, List.setIfInBounds_toArray, List.set_cons_zero, List.set_cons_succ])
    go_ret
    exact ⟨rfl, (((Ext.alloc _ _).trans (Ext.more _ _)).trans (Ext.alloc _ _)).trans (Ext.more _ _)⟩
  have HH2 := kp (show tid < 0 ∨ 8 < tid ∨ n < 1 ∨ 281474976710655 < n by rcases HH.out with h | h; rw [hk] at h; cases h; exact h)
  rw [hk] at HC
  clear hk HH
  by_cases h1 : tid < 0
  case pos =>
    go_enter Try.func4, Try.ntmps4
    go_wp2_with fail
    refine (alive_any _).mono ?_
    rintro e w' ⟨rfl, xa, rfl⟩
    go_wp2_with ((with_reducible show wpList _ _ _ (Oper.mk _ (Op.load 29 _) _ _ _ _ :: _) _ _); (with_reducible refine wpList_load_row rfl 29 _ rfl (w.heap.size) rfl 29 ((cellsC a l).toArray) (0, 0) _ (hp_more (hp_new _ _)) Try.underlying29 rfl (HS.out) ?_); simp only [Act.put, List.setIfInBounds_toArray, List.set_cons_zero, List.set_cons_succ])
    refine (HA.out _).mono ?_
    rintro e w' ⟨rfl, x1, rfl⟩
    rw [more_more]
    go_wp2_with (first | ((with_reducible show wpList _ _ _ (Oper.mk none (Op.store 29 _ _) _ _ _ _ :: _) _ _); with_reducible refine wpList_st_row rfl rfl 29 _ _ rfl (w.heap.size + 1 + (xa.blocks.size + x1.blocks.size)) ((cellsC 0 zeroWs).toArray) rfl rfl 29 (_) (hp_at _ _ _ (by simp)) (HS2.out) (HE.out) (HO.out) (by rewrite [setRow_at _ _ _ _ _ _ (by simp <;> omega)]; rfl) ?_) | ((with_reducible show wpList _ _ _ (Oper.mk _ (Op.load 29 _) _ _ _ _ :: _) _ _); (with_reducible refine wpList_load_row rfl 29 _ rfl (w.heap.size) rfl 29 ((cellsC a l).toArray) (0, 0) _ (hp_alloc (hp_more (hp_new _ _))) Try.underlying29 rfl (HS.out) ?_); simp only [Act.put, List.setIfInBounds_toArray, List.set_cons_zero, List.set_cons_succ]))
    refine (HC.out _).mono ?_
    rintro e w' ⟨rfl, x2, rfl⟩
    go_wp2_with ((with_reducible show wpList _ _ _ (Oper.mk _ (Op.load 29 _) _ _ _ _ :: _) _ _); (with_reducible refine wpList_load_rowG (by kernel_rfl) 29 _ rfl (w.heap.size + 1 + (xa.blocks.size + x1.blocks.size)) rfl 29 ((cellsC 0 zeroWs).toArray) (0, 0) _ (hp_more (hp_at _ _ _ (by simp))) Try.underlying29 rfl (HS2.out) ?_); simp only [Act.put, List.setIfInBounds_toArray, List.set_cons_zero, List.set_cons_succ])
    go_ret
    exact ⟨rfl, (((Ext.alloc _ _).trans (Ext.more _ _)).trans (Ext.alloc _ _)).trans (Ext.more _ _)⟩
  by_cases h2 : 8 < tid
  case pos =>
    go_enter Try.func4, Try.ntmps4
    go_wp2_with fail
    refine (alive_any _).mono ?_
    rintro e w' ⟨rfl, xa, rfl⟩
    go_wp2_with ((with_reducible show wpList _ _ _ (Oper.mk _ (Op.load 29 _) _ _ _ _ :: _) _ _); (with_reducible refine wpList_load_row rfl 29 _ rfl (w.heap.size) rfl 29 ((cellsC a l).toArray) (0, 0) _ (hp_more (hp_new _ _)) Try.underlying29 rfl (HS.out) ?_); simp only [Act.put, List.setIfInBounds_toArray, List.set_cons_zero, List.set_cons_succ])
    refine (HA.out _).mono ?_
    rintro e w' ⟨rfl, x1, rfl⟩
    rw [more_more]
    go_wp2_with (first | ((with_reducible show wpList _ _ _ (Oper.mk none (Op.store 29 _ _) _ _ _ _ :: _) _ _); with_reducible refine wpList_st_row rfl rfl 29 _ _ rfl (w.heap.size + 1 + (xa.blocks.size + x1.blocks.size)) ((cellsC 0 zeroWs).toArray) rfl rfl 29 (_) (hp_at _ _ _ (by simp)) (HS2.out) (HE.out) (HO.out) (by rewrite [setRow_at _ _ _ _ _ _ (by simp <;> omega)]; rfl) ?_) | ((with_reducible show wpList _ _ _ (Oper.mk _ (Op.load 29 _) _ _ _ _ :: _) _ _); (with_reducible refine wpList_load_row rfl 29 _ rfl (w.heap.size) rfl 29 ((cellsC a l).toArray) (0, 0) _ (hp_alloc (hp_more (hp_new _ _))) Try.underlying29 rfl (HS.out) ?_); simp only [Act.put, List.setIfInBounds_toArray, List.set_cons_zero, List.set_cons_succ]))
    refine (HC.out _).mono ?_
    rintro e w' ⟨rfl, x2, rfl⟩
    go_wp2_with ((with_reducible show wpList _ _ _ (Oper.mk _ (Op.load 29 _) _ _ _ _ :: _) _ _); (with_reducible refine wpList_load_rowG (by kernel_rfl) 29 _ rfl (w.heap.size + 1 + (xa.blocks.size + x1.blocks.size)) rfl 29 ((cellsC 0 zeroWs).toArray) (0, 0) _ (hp_more (hp_at _ _ _ (by simp))) Try.underlying29 rfl (HS2.out) ?_); simp only [Act.put, List.setIfInBounds_toArray, List.set_cons_zero, List.set_cons_succ])
    go_ret
    exact ⟨rfl, (((Ext.alloc _ _).trans (Ext.more _ _)).trans (Ext.alloc _ _)).trans (Ext.more _ _)⟩
  by_cases h3 : n < 1
  case pos =>
    go_enter Try.func4, Try.ntmps4
    go_wp2_with fail
    refine (alive_any _).mono ?_
    rintro e w' ⟨rfl, xa, rfl⟩
    go_wp2_with ((with_reducible show wpList _ _ _ (Oper.mk _ (Op.load 29 _) _ _ _ _ :: _) _ _); (with_reducible refine wpList_load_row rfl 29 _ rfl (w.heap.size) rfl 29 ((cellsC a l).toArray) (0, 0) _ (hp_more (hp_new _ _)) Try.underlying29 rfl (HS.out) ?_); simp only [Act.put, List.setIfInBounds_toArray, List.set_cons_zero, List.set_cons_succ])
    refine (HA.out _).mono ?_
    rintro e w' ⟨rfl, x1, rfl⟩
    rw [more_more]
    go_wp2_with (first | ((with_reducible show wpList _ _ _ (Oper.mk none (Op.store 29 _ _) _ _ _ _ :: _) _ _); with_reducible refine wpList_st_row rfl rfl 29 _ _ rfl (w.heap.size + 1 + (xa.blocks.size + x1.blocks.size)) ((cellsC 0 zeroWs).toArray) rfl rfl 29 (_) (hp_at _ _ _ (by simp)) (HS2.out) (HE.out) (HO.out) (by rewrite [setRow_at _ _ _ _ _ _ (by simp <;> omega)]; rfl) ?_) | ((with_reducible show wpList _ _ _ (Oper.mk _ (Op.load 29 _) _ _ _ _ :: _) _ _); (with_reducible refine wpList_load_row rfl 29 _ rfl (w.heap.size) rfl 29 ((cellsC a l).toArray) (0, 0) _ (hp_alloc (hp_more (hp_new _ _))) Try.underlying29 rfl (HS.out) ?_); simp only [Act.put, List.setIfInBounds_toArray, List.set_cons_zero, List.set_cons_succ]))
    refine (HC.out _).mono ?_
    rintro e w' ⟨rfl, x2, rfl⟩
    go_wp2_with ((with_reducible show wpList _ _ _ (Oper.mk _ (Op.load 29 _) _ _ _ _ :: _) _ _); (with_reducible refine wpList_load_rowG (by kernel_rfl) 29 _ rfl (w.heap.size + 1 + (xa.blocks.size + x1.blocks.size)) rfl 29 ((cellsC 0 zeroWs).toArray) (0, 0) _ (hp_more (hp_at _ _ _ (by simp))) Try.underlying29 rfl (HS2.out) ?_); simp only [Act.put, List.setIfInBounds_toArray, List.set_cons_zero, List.set_cons_succ])
    go_ret
    exact ⟨rfl, (((Ext.alloc _ _).trans (Ext.more _ _)).trans (Ext.alloc _ _)).trans (Ext.more _ _)⟩
  by_cases h4 : 281474976710655 < n
  case pos =>
    go_enter Try.func4, Try.ntmps4
    go_wp2_with fail
    refine (alive_any _).mono ?_
    rintro e w' ⟨rfl, xa, rfl⟩
    go_wp2_with ((with_reducible show wpList _ _ _ (Oper.mk _ (Op.load 29 _) _ _ _ _ :: _) _ _); (with_reducible refine wpList_load_row rfl 29 _ rfl (w.heap.size) rfl 29 ((cellsC a l).toArray) (0, 0) _ (hp_more (hp_new _ _)) Try.underlying29 rfl (HS.out) ?_); simp only [Act.put, List.setIfInBounds_toArray, List.set_cons_zero, List.set_cons_succ])
    refine (HA.out _).mono ?_
    rintro e w' ⟨rfl, x1, rfl⟩
    rw [more_more]
    go_wp2_with (first | ((with_reducible show wpList _ _ _ (Oper.mk none (Op.store 29 _ _) _ _ _ _ :: _) _ _); with_reducible refine wpList_st_row rfl rfl 29 _ _ rfl (w.heap.size + 1 + (xa.blocks.size + x1.blocks.size)) ((cellsC 0 zeroWs).toArray) rfl rfl 29 (_) (hp_at _ _ _ (by simp)) (HS2.out) (HE.out) (HO.out) (by rewrite [setRow_at _ _ _ _ _ _ (by simp <;> omega)]; rfl) ?_) | ((with_reducible show wpList _ _ _ (Oper.mk _ (Op.load 29 _) _ _ _ _ :: _) _ _); (with_reducible refine wpList_load_row rfl 29 _ rfl (w.heap.size) rfl 29 ((cellsC a l).toArray) (0, 0) _ (hp_alloc (hp_more (hp_new _ _))) Try.underlying29 rfl (HS.out) ?_); simp only [Act.put, List.setIfInBounds_toArray, List.set_cons_zero, List.set_cons_succ]))
    refine (HC.out _).mono ?_
    rintro e w' ⟨rfl, x2, rfl⟩
    go_wp2_with ((with_reducible show wpList _ _ _ (Oper.mk _ (Op.load 29 _) _ _ _ _ :: _) _ _); (with_reducible refine wpList_load_rowG (by kernel_rfl) 29 _ rfl (w.heap.size + 1 + (xa.blocks.size + x1.blocks.size)) rfl 29 ((cellsC 0 zeroWs).toArray) (0, 0) _ (hp_more (hp_at _ _ _ (by simp))) Try.underlying29 rfl (HS2.out) ?_); simp only [Act.put, List.setIfInBounds_toArray, List.set_cons_zero, List.set_cons_succ])
    go_ret
    exact ⟨rfl, (((Ext.alloc _ _).trans (Ext.more _ _)).trans (Ext.alloc _ _)).trans (Ext.more _ _)⟩
  exact absurd HH2.out (by omega)

set_option maxHeartbeats 3200000 in
set_option maxRecDepth 10000 in
theorem growsNo (a : Int) (l : List Win) (hl : l.length = 9) (k : Nat) (n : Int) (w : World) (hk : checkF a l = 0) (hk9 : k < 9) (h3 : 1 ≤ n) (h4 : n ≤ 281474976710655) (t : Int) (s : BitVec 64) (hx : l[k]? = some (t, s)) (hr : (takeF t s n).2 = false) :
    Calls Try.prog 4 #[.agg (cellsC a l).toArray, .int .i64 k, .int .i64 n] w fun e w' => e = .returned (.bool true) ∧ Ext w w' := by
  have hq : acceptF a l k n = ((0, zeroWs), 32) := by
    unfold acceptF
    rw [hk, if_neg (by decide), if_neg (by unfold most; omega), Int.toNat_natCast, hx]
    simp [hr]
  have HA := kp (fun w => accept_any a l k n hl w)
  rw [hq] at HA
  unfold RetAcc at HA
  dsimp only at HA
  have HC := kp (fun w => check_any a l hl w)
  rw [hk] at HC
  have HS := kp (sizeC a l hl)
  have HS2 := kp (sizeC 0 zeroWs rfl)
  have HE := kp (zeroC_size 0 zeroWs rfl)
  have HO := kp (all_cellsC 0 zeroWs)
  obtain ⟨hx1, hx2⟩ := cellsC_at a l k _ hx
  rw [show 2 * k = k * 2 by omega] at hx1 hx2
  have hnt : ¬ t < n := fun h => by rw [take_gt t s n h] at hr; cases hr
  clear hq hl hk hx hr
  have h1 : ¬ (k : Int) < 0 := by omega
  have h2 : ¬ 8 < (k : Int) := by omega
  have h3' : ¬ n < 1 := by omega
  have h4' : ¬ 281474976710655 < n := by omega
  go_enter Try.func4, Try.ntmps4
  go_wp2_with fail
  refine (alive_any _).mono ?_
  rintro e w' ⟨rfl, xa, rfl⟩
  go_wp2_with ((with_reducible show wpList _ _ _ (Oper.mk _ (Op.load 29 _) _ _ _ _ :: _) _ _); (with_reducible refine wpList_load_row rfl 29 _ rfl (w.heap.size) rfl 29 ((cellsC a l).toArray) (0, 0) _ (hp_more (hp_new _ _)) Try.underlying29 rfl (HS.out) ?_); simp only [Act.put, List.setIfInBounds_toArray, List.set_cons_zero, List.set_cons_succ])
  refine (HA.out _).mono ?_
  rintro e w' ⟨rfl, x1, rfl⟩
  rw [more_more]
  go_wp2_with (first | ((with_reducible show wpList _ _ _ (Oper.mk none (Op.store 29 _ _) _ _ _ _ :: _) _ _); with_reducible refine wpList_st_row rfl rfl 29 _ _ rfl (w.heap.size + 1 + (xa.blocks.size + x1.blocks.size)) ((cellsC 0 zeroWs).toArray) rfl rfl 29 (_) (hp_at _ _ _ (by simp)) (HS2.out) (HE.out) (HO.out) (by rewrite [setRow_at _ _ _ _ _ _ (by simp <;> omega)]; rfl) ?_) | ((with_reducible show wpList _ _ _ (Oper.mk _ (Op.load 29 _) _ _ _ _ :: _) _ _); (with_reducible refine wpList_load_row rfl 29 _ rfl (w.heap.size) rfl 29 ((cellsC a l).toArray) (0, 0) _ (hp_alloc (hp_more (hp_new _ _))) Try.underlying29 rfl (HS.out) ?_); simp only [Act.put, List.setIfInBounds_toArray, List.set_cons_zero, List.set_cons_succ]))
  refine (HC.out _).mono ?_
  rintro e w' ⟨rfl, x2, rfl⟩
  go_wp2_with fail
  go_ret
  exact ⟨rfl, (((Ext.alloc _ _).trans (Ext.more _ _)).trans (Ext.alloc _ _)).trans (Ext.more _ _)⟩

set_option maxHeartbeats 3200000 in
set_option maxRecDepth 10000 in
theorem growsYes (a : Int) (l : List Win) (hl : l.length = 9) (k : Nat) (n : Int) (w : World) (hk : checkF a l = 0) (hk9 : k < 9) (h3 : 1 ≤ n) (h4 : n ≤ 281474976710655) (t : Int) (s : BitVec 64) (hx : l[k]? = some (t, s)) (hr : (takeF t s n).2 = true) :
    Calls Try.prog 4 #[.agg (cellsC a l).toArray, .int .i64 k, .int .i64 n] w fun e w' => e = .returned (.bool true) ∧ Ext w w' := by
  have hv := checkF_validB a l hk k _ hx
  obtain ⟨q1, q2, q3⟩ := take_keeps t s n hv h3 h4 hr
  have hq : acceptF a l k n = ((a, l.set k (takeF t s n).1), 0) := by
    unfold acceptF
    rw [hk, if_neg (by decide), if_neg (by unfold most; omega), Int.toNat_natCast, hx]
    simp [hr]
  have hne : n ≠ t := fun h => by
    subst h
    unfold takeF at hr
    rw [if_neg (by omega), if_pos (by omega)] at hr
    cases hr
  have hkl : k < l.length := by omega
  obtain ⟨⟨⟨t2, s2⟩, br⟩, hr2⟩ : ∃ r, takeF t s n = r := ⟨_, rfl⟩
  rw [hr2] at q1 q2 q3 hq
  dsimp only at q1 q2 q3 hq
  have hx' : (l.set k (t2, s2))[k]? = some (t2, s2) := by rw [List.getElem?_set_self hkl]
  have hck : checkF a (l.set k (t2, s2)) = 0 := by
    have h0 := hk
    unfold checkF at h0
    split at h0
    · cases h0
    · rename_i hn
      simp at hn
      exact checkF_of _ (oddAt_set _ _ _ hn.2.2 q1) a hn.1 (by have := hn.2.1; unfold most at this; exact this)
  have hq2 : acceptF a (l.set k (t2, s2)) k n = ((0, zeroWs), 32) := by
    unfold acceptF
    rw [hck, if_neg (by decide), if_neg (by unfold most; omega), Int.toNat_natCast, hx']
    simp [q2]
  have hl2 : (l.set k (t2, s2)).length = 9 := by simpa using hl
  have HA := kp (fun w => accept_any a l k n hl w)
  rw [hq] at HA
  unfold RetAcc at HA
  dsimp only at HA
  have HA2 := kp (fun w => accept_any a (l.set k (t2, s2)) k n hl2 w)
  rw [hq2] at HA2
  unfold RetAcc at HA2
  dsimp only at HA2
  have HC := kp (fun w => check_any a l hl w)
  rw [hk] at HC
  have HS := kp (sizeC a l hl)
  have HSD := kp (sizeC a (l.set k (t2, s2)) hl2)
  have HED := kp (zeroC_size a (l.set k (t2, s2)) hl2)
  have HOD := kp (all_cellsC a (l.set k (t2, s2)))
  have HS2 := kp (sizeC 0 zeroWs rfl)
  have HE := kp (zeroC_size 0 zeroWs rfl)
  have HO := kp (all_cellsC 0 zeroWs)
  have heqz : ∀ w, (binOp .eql 29 (.agg (cellsC 0 zeroWs).toArray) (.agg #[.int .i64 0, .int .i64 0, .int .u64 0, .int .i64 0, .int .u64 0, .int .i64 0, .int .u64 0, .int .i64 0, .int .u64 0, .int .i64 0, .int .u64 0, .int .i64 0, .int .u64 0, .int .i64 0, .int .u64 0, .int .i64 0, .int .u64 0, .int .i64 0, .int .u64 0])).run Try.prog w = .ok (.bool true) w := fun w => eqCounters w 0 zeroWs rfl
  obtain ⟨hx1, hx2⟩ := cellsC_at a l k _ hx
  rw [show 2 * k = k * 2 by omega] at hx1 hx2
  obtain ⟨hy1, hy2⟩ := cellsC_at a (l.set k (t2, s2)) k _ hx'
  rw [show 2 * k = k * 2 by omega] at hy1 hy2
  have hll : (l.set k (t2, s2)).set k (t, s) = l := by
    rw [List.set_set]
    refine List.ext_getElem? fun i => ?_
    rw [List.getElem?_set]
    split
    · rename_i h; subst h; rw [hx]
    · rfl
  obtain ⟨l2, hl2e⟩ : ∃ l2, l.set k (t2, s2) = l2 := ⟨_, rfl⟩
  have hback : ((cellsC a l2).set (1 + k * 2) (.int .i64 t)).set (1 + k * 2 + 1) (.int .u64 (wI s)) = cellsC a l := by
    have := cellsC_set a l2 k (t, s) (by rw [← hl2e]; simpa using hkl)
    rw [← hl2e, hll, show 2 * k = k * 2 by omega] at this
    rw [← hl2e]; exact this
  rw [hl2e] at HA HA2 HSD HED HOD hy1 hy2
  have HB := kp hback
  have HSB := kp (show (Try.prog.info? 29).map (·.size) = some (((cellsC a l2).set (1 + k * 2) (.int .i64 t)).set (1 + k * 2 + 1) (.int .u64 (wI s))).toArray.size by rw [hback]; exact HS.out)
  have heqb : ∀ w, (binOp .eql 29 (.agg (((cellsC a l2).set (1 + k * 2) (.int .i64 t)).set (1 + k * 2 + 1) (.int .u64 (wI s))).toArray) (.agg (cellsC a l).toArray)).run Try.prog w = .ok (.bool true) w := by
    rw [hback]; exact fun w => eqCounters w a l hl
  clear hq hl hk hx hr hr2 hq2 hck hx' hl2 hl2e hback hll hkl hv q1 q2 HB
  have h1 : ¬ (k : Int) < 0 := by omega
  have h2 : ¬ 8 < (k : Int) := by omega
  have h3' : ¬ n < 1 := by omega
  have h4' : ¬ 281474976710655 < n := by omega
  by_cases hnt : t < n
  case pos =>
    obtain rfl : t2 = n := by omega
    have hmax : max t2 t = t2 := by omega
    clear q3
    go_enter Try.func4, Try.ntmps4
    go_wp2_with fail
    refine (alive_any _).mono ?_
    rintro e w' ⟨rfl, xa, rfl⟩
    go_wp2_with ((with_reducible show wpList _ _ _ (Oper.mk _ (Op.load 29 _) _ _ _ _ :: _) _ _); (with_reducible refine wpList_load_row rfl 29 _ rfl (w.heap.size) rfl 29 ((cellsC a l).toArray) (0, 0) _ (hp_more (hp_new _ _)) Try.underlying29 rfl (HS.out) ?_); simp only [Act.put, List.setIfInBounds_toArray, List.set_cons_zero, List.set_cons_succ])
    refine (HA.out _).mono ?_
    rintro e w' ⟨rfl, x1, rfl⟩
    rw [more_more]
    go_wp2_with (first | ((with_reducible show wpList _ _ _ (Oper.mk none (Op.store 29 _ _) _ _ _ _ :: _) _ _); with_reducible refine wpList_st_row rfl rfl 29 _ _ rfl (w.heap.size + 1 + (xa.blocks.size + x1.blocks.size)) ((cellsC a l2).toArray) rfl rfl 29 (_) (hp_at _ _ _ (by simp)) (HSD.out) (HED.out) (HOD.out) (by rewrite [setRow_at _ _ _ _ _ _ (by simp <;> omega)]; rfl) ?_) | ((with_reducible show wpList _ _ _ (Oper.mk _ (Op.load 29 _) _ _ _ _ :: _) _ _); (with_reducible refine wpList_load_row rfl 29 _ rfl (w.heap.size) rfl 29 ((cellsC a l).toArray) (0, 0) _ (hp_alloc (hp_more (hp_new _ _))) Try.underlying29 rfl (HS.out) ?_); simp only [Act.put, List.setIfInBounds_toArray, List.set_cons_zero, List.set_cons_succ]))
    refine (HC.out _).mono ?_
    rintro e w' ⟨rfl, x2, rfl⟩
    go_wp2_with ((with_reducible show wpList _ _ _ (Oper.mk _ (Op.load 29 _) _ _ _ _ :: _) _ _); (with_reducible refine wpList_load_row rfl 29 _ rfl (w.heap.size + 1 + (xa.blocks.size + x1.blocks.size)) rfl 29 ((cellsC a l2).toArray) (0, 0) _ (hp_more (hp_at _ _ _ (by simp))) Try.underlying29 rfl (HSD.out) ?_); simp only [Act.put, List.setIfInBounds_toArray, List.set_cons_zero, List.set_cons_succ])
    refine (HA2.out _).mono ?_
    rintro e w' ⟨rfl, x3, rfl⟩
    rw [more_more]
    go_wp2_with (first | ((with_reducible show wpList _ _ _ (Oper.mk none (Op.store 29 _ _) _ _ _ _ :: _) _ _); with_reducible refine wpList_st_row rfl rfl 29 _ _ rfl (_) ((cellsC 0 zeroWs).toArray) rfl rfl 29 (_) (hp_at _ _ _ (by simp)) (HS2.out) (HE.out) (HO.out) (by rewrite [setRow_at _ _ _ _ _ _ (by simp <;> omega)]; rfl) ?_) | ((with_reducible show wpList _ _ _ (Oper.mk _ (Op.load 29 _) _ _ _ _ :: _) _ _); (with_reducible refine wpList_load_rowG (by kernel_rfl) 29 _ rfl (w.heap.size + 1 + (xa.blocks.size + x1.blocks.size)) rfl 29 ((((cellsC a l2).set (1 + k * 2) (.int .i64 t)).set (1 + k * 2 + 1) (.int .u64 (wI s))).toArray) (0, 0) _ (hp_alloc (hp_more (hp_at _ _ _ (by simp)))) Try.underlying29 rfl (HSB.out) ?_); simp only [Act.put, List.setIfInBounds_toArray, List.set_cons_zero, List.set_cons_succ]) | ((with_reducible show wpList _ _ _ (Oper.mk _ (Op.load 29 _) _ _ _ _ :: _) _ _); (with_reducible refine wpList_load_rowG (by kernel_rfl) 29 _ rfl (w.heap.size) rfl 29 ((cellsC a l).toArray) (0, 0) _ (hp_alloc (hp_more (hp_alloc (hp_more (hp_new _ _))))) Try.underlying29 rfl (HS.out) ?_); simp only [Act.put, List.setIfInBounds_toArray, List.set_cons_zero, List.set_cons_succ]) | ((with_reducible show wpList _ _ _ (Oper.mk _ (Op.load 29 _) _ _ _ _ :: _) _ _); (with_reducible refine wpList_load_rowG (by kernel_rfl) 29 _ rfl (w.heap.size + 1 + (xa.blocks.size + x1.blocks.size) + 1 + (x2.blocks.size + x3.blocks.size)) rfl 29 ((cellsC 0 zeroWs).toArray) (0, 0) _ (hp_at _ _ _ (by simp)) Try.underlying29 rfl (HS2.out) ?_); simp only [Act.put, List.setIfInBounds_toArray, List.set_cons_zero, List.set_cons_succ]))
    go_ret
    exact ⟨rfl, ((((Ext.alloc _ _).trans (Ext.more _ _)).trans (Ext.alloc _ _)).trans (Ext.more _ _)).trans (Ext.alloc _ _)⟩
  obtain rfl : t2 = t := by omega
  have hmax : max n t2 = t2 := by omega
  clear q3
  have hlt : n < t2 := by omega
  go_enter Try.func4, Try.ntmps4
  go_wp2_with fail
  refine (alive_any _).mono ?_
  rintro e w' ⟨rfl, xa, rfl⟩
  go_wp2_with ((with_reducible show wpList _ _ _ (Oper.mk _ (Op.load 29 _) _ _ _ _ :: _) _ _); (with_reducible refine wpList_load_row rfl 29 _ rfl (w.heap.size) rfl 29 ((cellsC a l).toArray) (0, 0) _ (hp_more (hp_new _ _)) Try.underlying29 rfl (HS.out) ?_); simp only [Act.put, List.setIfInBounds_toArray, List.set_cons_zero, List.set_cons_succ])
  refine (HA.out _).mono ?_
  rintro e w' ⟨rfl, x1, rfl⟩
  rw [more_more]
  go_wp2_with (first | ((with_reducible show wpList _ _ _ (Oper.mk none (Op.store 29 _ _) _ _ _ _ :: _) _ _); with_reducible refine wpList_st_row rfl rfl 29 _ _ rfl (w.heap.size + 1 + (xa.blocks.size + x1.blocks.size)) ((cellsC a l2).toArray) rfl rfl 29 (_) (hp_at _ _ _ (by simp)) (HSD.out) (HED.out) (HOD.out) (by rewrite [setRow_at _ _ _ _ _ _ (by simp <;> omega)]; rfl) ?_) | ((with_reducible show wpList _ _ _ (Oper.mk _ (Op.load 29 _) _ _ _ _ :: _) _ _); (with_reducible refine wpList_load_row rfl 29 _ rfl (w.heap.size) rfl 29 ((cellsC a l).toArray) (0, 0) _ (hp_alloc (hp_more (hp_new _ _))) Try.underlying29 rfl (HS.out) ?_); simp only [Act.put, List.setIfInBounds_toArray, List.set_cons_zero, List.set_cons_succ]))
  refine (HC.out _).mono ?_
  rintro e w' ⟨rfl, x2, rfl⟩
  go_wp2_with ((with_reducible show wpList _ _ _ (Oper.mk _ (Op.load 29 _) _ _ _ _ :: _) _ _); (with_reducible refine wpList_load_row rfl 29 _ rfl (w.heap.size + 1 + (xa.blocks.size + x1.blocks.size)) rfl 29 ((cellsC a l2).toArray) (0, 0) _ (hp_more (hp_at _ _ _ (by simp))) Try.underlying29 rfl (HSD.out) ?_); simp only [Act.put, List.setIfInBounds_toArray, List.set_cons_zero, List.set_cons_succ])
  refine (HA2.out _).mono ?_
  rintro e w' ⟨rfl, x3, rfl⟩
  rw [more_more]
  go_wp2_with (first | ((with_reducible show wpList _ _ _ (Oper.mk none (Op.store 29 _ _) _ _ _ _ :: _) _ _); with_reducible refine wpList_st_row rfl rfl 29 _ _ rfl (_) ((cellsC 0 zeroWs).toArray) rfl rfl 29 (_) (hp_at _ _ _ (by simp)) (HS2.out) (HE.out) (HO.out) (by rewrite [setRow_at _ _ _ _ _ _ (by simp <;> omega)]; rfl) ?_) | ((with_reducible show wpList _ _ _ (Oper.mk _ (Op.load 29 _) _ _ _ _ :: _) _ _); (with_reducible refine wpList_load_rowG (by kernel_rfl) 29 _ rfl (w.heap.size + 1 + (xa.blocks.size + x1.blocks.size)) rfl 29 ((((cellsC a l2).set (1 + k * 2) (.int .i64 t2)).set (1 + k * 2 + 1) (.int .u64 (wI s))).toArray) (0, 0) _ (hp_alloc (hp_more (hp_at _ _ _ (by simp)))) Try.underlying29 rfl (HSB.out) ?_); simp only [Act.put, List.setIfInBounds_toArray, List.set_cons_zero, List.set_cons_succ]) | ((with_reducible show wpList _ _ _ (Oper.mk _ (Op.load 29 _) _ _ _ _ :: _) _ _); (with_reducible refine wpList_load_rowG (by kernel_rfl) 29 _ rfl (w.heap.size) rfl 29 ((cellsC a l).toArray) (0, 0) _ (hp_alloc (hp_more (hp_alloc (hp_more (hp_new _ _))))) Try.underlying29 rfl (HS.out) ?_); simp only [Act.put, List.setIfInBounds_toArray, List.set_cons_zero, List.set_cons_succ]) | ((with_reducible show wpList _ _ _ (Oper.mk _ (Op.load 29 _) _ _ _ _ :: _) _ _); (with_reducible refine wpList_load_rowG (by kernel_rfl) 29 _ rfl (w.heap.size + 1 + (xa.blocks.size + x1.blocks.size) + 1 + (x2.blocks.size + x3.blocks.size)) rfl 29 ((cellsC 0 zeroWs).toArray) (0, 0) _ (hp_at _ _ _ (by simp)) Try.underlying29 rfl (HS2.out) ?_); simp only [Act.put, List.setIfInBounds_toArray, List.set_cons_zero, List.set_cons_succ]))
  go_ret
  exact ⟨rfl, ((((Ext.alloc _ _).trans (Ext.more _ _)).trans (Ext.alloc _ _)).trans (Ext.more _ _)).trans (Ext.alloc _ _)⟩

theorem counterGrows.walk (a : Int) (_ : (Lit.int .i64 a).wf = true) (l : List Win) (hl : l.length = 9) (tid : Int) (_ : (Lit.int .i64 tid).wf = true) (n : Int) (_ : (Lit.int .i64 n).wf = true) (w : World) :
    Calls Try.prog 4 #[.agg (cellsC a l).toArray, .int .i64 tid, .int .i64 n] w fun e w' => e = .returned (.bool true) ∧ Ext w w' := by
  by_cases h : checkF a l = 8 ∨ tid < 0 ∨ 8 < tid ∨ n < 1 ∨ 281474976710655 < n
  · exact growsBad a l hl tid n w h
  · have hk : checkF a l = 0 := by
      rcases checkF_cases a l with h' | h'
      · exact absurd (.inl h') h
      · exact h'
    obtain ⟨k, rfl⟩ : ∃ k : Nat, tid = k := ⟨tid.toNat, by omega⟩
    obtain ⟨⟨t, s⟩, hx⟩ : ∃ x, l[k]? = some x := ⟨l[k]'(by omega), by simp⟩
    cases hr : (takeF t s n).2 with
    | false => exact growsNo a l hl k n w hk (by omega) (by omega) (by omega) t s hx hr
    | true => exact growsYes a l hl k n w hk (by omega) (by omega) (by omega) t s hx hr
end Go.Proofs.Ytjnaegpjhbobaaa
