/- Contracts of counter.Accept and counter.Next. -/
import Derived.Test.YtjnaegpjhbobaaaProg
import Derived.Test.YtjnaegpjhbobaaaLaws
import Derived.Test.YtjnaegpjhbobaaaCounter
import Derived.Test.YtjnaegpjhbobaaaCom
import Derived.Test.YtjnaegpjhbobaaaLc
import Derived.Outline
import Derived.LoopTactic
namespace Go.Proofs.Ytjnaegpjhbobaaa
open Go.RowKit

theorem size29 : (Try.prog.info? 29).map (·.size) = some 19 := by kernel_rfl
abbrev w0 : Win := (0, 0#64)
def zeroWs : List Win := [w0, w0, w0, w0, w0, w0, w0, w0, w0]
/-- Accept: the counters after, and the error. -/
def acceptF (a : Int) (l : List Win) (tid n : Int) : (Int × List Win) × Int :=
  if checkF a l = 8 then ((0, zeroWs), 8)
  else if tid < 0 ∨ 8 < tid ∨ n < 1 ∨ most < n then ((0, zeroWs), 2)
  else match l[tid.toNat]? with
    | none => ((0, zeroWs), 2)
    | some x => if (takeF x.1 x.2 n).2 = true then ((a, l.set tid.toNat (takeF x.1 x.2 n).1), 0) else ((0, zeroWs), 32)
def RetAcc (r : (Int × List Win) × Int) (w : World) (e : Ending) (w' : World) : Prop := e = .returned (.tuple #[.agg (cellsC r.1.1 r.1.2).toArray, .int .i64 r.2]) ∧ Ext w w'
theorem checkF_cases (a : Int) (l : List Win) : checkF a l = 8 ∨ checkF a l = 0 := by unfold checkF; split <;> simp
theorem set2_seg {α : Type} (x y : α) : ∀ (c : List α) (i : Nat), i + 2 ≤ c.length → c.take i ++ [x, y] ++ c.drop (i + 2) = (c.set i x).set (i + 1) y
  | a :: b :: c, 0, _ => by simp
  | a :: c, i + 1, h => by
    have := set2_seg x y c i (by simp at h; omega)
    rw [show i + 1 + 2 = (i + 2) + 1 by omega]
    simpa using this
  | [], i, h => by simp at h
  | [a], 0, h => by simp at h
theorem cellsC_seg (a : Int) (l : List Win) (k : Nat) (t : Int) (s : BitVec 64) (h : k < l.length) :
    ((cellsC a l).toArray.toList.take (1 + k * 2) ++ (#[.int .i64 t, .int .u64 (wI s)] : Array Value).toList ++ (cellsC a l).toArray.toList.drop (1 + k * 2 + (#[.int .i64 t, .int .u64 (wI s)] : Array Value).size)).toArray = (cellsC a (l.set k (t, s))).toArray := by
  rw [← cellsC_set a l k (t, s) h, show 2 * k = k * 2 by omega]
  exact congrArg List.toArray (set2_seg _ _ _ _ (by rw [cellsC_len]; omega))
theorem size26 : (Try.prog.info? 26).map (·.size) = some 2 := by kernel_rfl
theorem validB_top (t : Int) (s : BitVec 64) (h : validB t s = true) : 0 ≤ t ∧ t ≤ 281474976710655 := by
  unfold validB most at h
  simp at h
  exact ⟨h.1.1, h.1.2⟩
theorem checkF_odd (a : Int) (l : List Win) (h : checkF a l = 0) : oddAt l = false := by
  unfold checkF at h
  split at h
  · simp at h
  · rename_i hn; simp at hn; exact hn.2.2
theorem checkF_validB (a : Int) (l : List Win) (h : checkF a l = 0) (k : Nat) (x : Win) (hx : l[k]? = some x) : validB x.1 x.2 = true := by
  cases hv : validB x.1 x.2 with
  | true => rfl
  | false => have := oddAt_mem l k x hx hv; rw [checkF_odd a l h] at this; simp at this
theorem checkF_valid (a : Int) (l : List Win) (h : checkF a l = 0) (k : Nat) (t : Int) (s : BitVec 64) (hx : l[k]? = some (t, s)) : 0 ≤ t ∧ t ≤ 281474976710655 :=
  validB_top t s (checkF_validB a l h k (t, s) hx)
set_option maxHeartbeats 1600000 in
theorem accept_yes (a : Int) (l : List Win) (k : Nat) (n : Int) (hl : l.length = 9) (hk : checkF a l = 0) (hk9 : k < 9) (h3 : ¬ n < 1) (h4 : ¬ 281474976710655 < n) (t : Int) (s : BitVec 64) (hx : l[k]? = some (t, s)) (t' : Int) (s' : BitVec 64) (hr : takeF t s n = ((t', s'), true)) (w : World) :
    Calls Try.prog 11 #[.agg (cellsC a l).toArray, .int .i64 k, .int .i64 n] w (RetAcc (acceptF a l k n) w) := by
  have hc0 : (cellsC a l)[0]? = some (.int .i64 a) := rfl
  have HS := kp (show (Try.prog.info? 29).map (·.size) = some (cellsC a l).toArray.size by rw [size29]; simp [cellsC_len, hl])
  have HL := kp hl
  clear hl
  have HK := kp (fun w => check_any a l HL.out w)
  rw [hk] at HK
  have HK2 := kp hk
  have HX := kp hx
  obtain ⟨hx1, hx2⟩ := cellsC_at a l k _ hx
  have HV := kp (checkF_valid a l HK2.out k t s hx)
  clear hx hk
  have ht0 : 0 ≤ t := HV.out.1
  have ht1 : t ≤ 281474976710655 := HV.out.2
  rw [show 2 * k = k * 2 by omega] at hx1 hx2
  have HT := kp (fun w => take_any t s n ht0 ht1 (by omega) (by omega) w)
  have HR := kp hr
  rw [hr] at HT
  clear hr
  unfold RetWin at HT
  dsimp only at HT
  have HF := kp (show acceptF a l k n = ((a, l.set k (t', s')), 0) by
    unfold acceptF
    rw [HK2.out, if_neg (by decide), if_neg (by unfold most; omega), Int.toNat_natCast, HX.out]
    simp [HR.out])
  have h1 : ¬ (k : Int) < 0 := by omega
  have h2 : ¬ 8 < (k : Int) := by omega
  have HG := kp (show (((cellsC a l).set (1 + k * 2) (.int .i64 t')).set (1 + k * 2 + 1) (.int .u64 (wI s'))).toArray = (cellsC a (l.set k (t', s'))).toArray by rw [← cellsC_set a l k (t', s') (by rw [HL.out]; exact hk9), show 2 * k = k * 2 by omega])
  have HS2 := kp (show (Try.prog.info? 29).map (·.size) = some (((cellsC a l).set (1 + k * 2) (.int .i64 t')).set (1 + k * 2 + 1) (.int .u64 (wI s'))).toArray.size by rw [size29]; simp [cellsC_len, HL.out])
  have HO := kp (show ((((cellsC a l).set (1 + k * 2) (.int .i64 t')).set (1 + k * 2 + 1) (.int .u64 (wI s'))).toArray.all (·.oneCell')) = true by rw [HG.out]; exact all_cellsC _ _)
  have HE := kp (show (#[.int .i64 0, .int .i64 0, .int .u64 0, .int .i64 0, .int .u64 0, .int .i64 0, .int .u64 0, .int .i64 0, .int .u64 0, .int .i64 0, .int .u64 0, .int .i64 0, .int .u64 0, .int .i64 0, .int .u64 0, .int .i64 0, .int .u64 0, .int .i64 0, .int .u64 0] : Array Value).size = (((cellsC a l).set (1 + k * 2) (.int .i64 t')).set (1 + k * 2 + 1) (.int .u64 (wI s'))).toArray.size by simp [cellsC_len, HL.out])
  go_enter Try.func11, Try.ntmps11
  go_wp2_with (first | ((with_reducible show wpList _ _ _ (Oper.mk _ (Op.load 29 _) _ _ _ _ :: _) _ _); (with_reducible refine wpList_load_row rfl 29 _ rfl (w.heap.size) rfl 29 ((cellsC a l).toArray) (0, 0) _ (hp_alloc (hp_new _ _)) Try.underlying29 rfl (HS.out) ?_); simp only [Act.put, List.setIfInBounds_toArray, List.set_cons_zero, List.set_cons_succ]) | go_at_call 12; refine (HK.out _).mono ?_; rintro e w' ⟨rfl, x, rfl⟩)
  go_at_call 35
  refine (HT.out _).mono ?_
  rintro e w' ⟨rfl, xt, rfl⟩
  rw [more_more]
  go_wp2_with first | (((with_reducible show wpList _ _ _ (Oper.mk none (Op.store 29 _ _) _ _ _ _ :: _) _ _); with_reducible refine wpList_st_row rfl rfl 29 _ _ rfl (w.heap.size + 1) ((((cellsC a l).set (1 + k * 2) (.int .i64 t')).set (1 + k * 2 + 1) (.int .u64 (wI s'))).toArray) rfl rfl 29 (_) (hp_alloc (hp_more (hp_at _ _ _ (by simp)))) (HS2.out) (HE.out) (HO.out) (by rewrite [setRow_past _ _ _ _ (by simp <;> omega), setRow_more _ _ _ _ (by first | assumption | (simp <;> omega)), setRow_at _ _ _ _ _ _ (by simp <;> omega)]; rfl) ?_)) | ((with_reducible show wpList _ _ _ (Oper.mk _ (Op.load 29 _) _ _ _ _ :: _) _ _); (with_reducible refine wpList_load_row rfl 29 _ rfl (w.heap.size) rfl 29 ((((cellsC a l).set (1 + k * 2) (.int .i64 t')).set (1 + k * 2 + 1) (.int .u64 (wI s'))).toArray) (0, 0) _ (hp_alloc (hp_more (hp_alloc (hp_new _ _)))) Try.underlying29 rfl (HS2.out) ?_); simp only [Act.put, List.setIfInBounds_toArray, List.set_cons_zero, List.set_cons_succ])
  exact ret_row2 Try.results11 (w.heap.size + 1) 29 _ (0, 0) _ rfl (.int .i64 0) rfl (hp_alloc (hp_more (hp_at _ _ _ (by simp)))) Try.underlying29 rfl HS2.out rfl ⟨by rw [HF.out, HG.out], ((Ext.alloc _ _).trans (Ext.alloc _ _)).trans ((Ext.more _ _).trans (Ext.alloc _ _))⟩

set_option maxHeartbeats 6400000 in
theorem accept_any (a : Int) (l : List Win) (tid n : Int) (hl : l.length = 9) (w : World) :
    Calls Try.prog 11 #[.agg (cellsC a l).toArray, .int .i64 tid, .int .i64 n] w (RetAcc (acceptF a l tid n) w) := by
  have hc0 : (cellsC a l)[0]? = some (.int .i64 a) := rfl
  have HS := kp (show (Try.prog.info? 29).map (·.size) = some (cellsC a l).toArray.size by rw [size29]; simp [cellsC_len, hl])
  have HL := kp hl
  clear hl
  have HK := kp (fun w => check_any a l HL.out w)
  have HZ := kp (show (Try.prog.info? 29).map (·.size) = some (#[.int .i64 0, .int .i64 0, .int .u64 0, .int .i64 0, .int .u64 0, .int .i64 0, .int .u64 0, .int .i64 0, .int .u64 0, .int .i64 0, .int .u64 0, .int .i64 0, .int .u64 0, .int .i64 0, .int .u64 0, .int .i64 0, .int .u64 0, .int .i64 0, .int .u64 0] : Array Value).size from size29)
  have HO := kp (show ((#[.int .i64 0, .int .i64 0, .int .u64 0, .int .i64 0, .int .u64 0, .int .i64 0, .int .u64 0, .int .i64 0, .int .u64 0, .int .i64 0, .int .u64 0, .int .i64 0, .int .u64 0, .int .i64 0, .int .u64 0, .int .i64 0, .int .u64 0, .int .i64 0, .int .u64 0] : Array Value).all (·.oneCell')) = true by simp [Value.oneCell'])
  rcases checkF_cases a l with hk | hk
  case inl =>
    have HF := kp (show acceptF a l tid n = ((0, zeroWs), 8) by simp [acceptF, hk])
    rw [hk] at HK
    clear hk
    go_enter Try.func11, Try.ntmps11
    go_wp2_with (first | ((with_reducible show wpList _ _ _ (Oper.mk _ (Op.load 29 _) _ _ _ _ :: _) _ _); (with_reducible refine wpList_load_row rfl 29 _ rfl (w.heap.size) rfl 29 ((cellsC a l).toArray) (0, 0) _ (hp_alloc (hp_new _ _)) Try.underlying29 rfl (HS.out) ?_); simp only [Act.put, List.setIfInBounds_toArray, List.set_cons_zero, List.set_cons_succ]) | ((with_reducible show wpList _ _ _ (Oper.mk none (Op.store 29 _ _) _ _ _ _ :: _) _ _); with_reducible refine wpList_st_row rfl rfl 29 _ _ rfl (w.heap.size + 1) (_) rfl rfl 29 (_) (hp_more (hp_at _ _ _ (by simp))) (HZ.out) (rfl) (HO.out) (by rewrite [setRow_more _ _ _ _ (by first | assumption | (simp <;> omega)), setRow_at _ _ _ _ _ _ (by simp <;> omega)]; rfl) ?_) | go_at_call 12; refine (HK.out _).mono ?_; rintro e w' ⟨rfl, x, rfl⟩)
    exact ret_row2 Try.results11 (w.heap.size + 1) 29 _ (0, 0) _ rfl _ rfl (hp_more (hp_at _ _ _ (by simp))) Try.underlying29 rfl HZ.out rfl ⟨by rw [HF.out]; rfl, ((Ext.alloc _ _).trans (Ext.alloc _ _)).trans (Ext.more _ _)⟩
  have HK2 := kp hk
  rw [hk] at HK
  by_cases h1 : tid < 0
  case pos =>
    have HF := kp (show acceptF a l tid n = ((0, zeroWs), 2) by simp [acceptF, hk, most, h1])
    clear hk
    go_enter Try.func11, Try.ntmps11
    go_wp2_with (first | ((with_reducible show wpList _ _ _ (Oper.mk _ (Op.load 29 _) _ _ _ _ :: _) _ _); (with_reducible refine wpList_load_row rfl 29 _ rfl (w.heap.size) rfl 29 ((cellsC a l).toArray) (0, 0) _ (hp_alloc (hp_new _ _)) Try.underlying29 rfl (HS.out) ?_); simp only [Act.put, List.setIfInBounds_toArray, List.set_cons_zero, List.set_cons_succ]) | ((with_reducible show wpList _ _ _ (Oper.mk none (Op.store 29 _ _) _ _ _ _ :: _) _ _); with_reducible refine wpList_st_row rfl rfl 29 _ _ rfl (w.heap.size + 1) (_) rfl rfl 29 (_) (hp_more (hp_at _ _ _ (by simp))) (HZ.out) (rfl) (HO.out) (by rewrite [setRow_more _ _ _ _ (by first | assumption | (simp <;> omega)), setRow_at _ _ _ _ _ _ (by simp <;> omega)]; rfl) ?_) | go_at_call 12; refine (HK.out _).mono ?_; rintro e w' ⟨rfl, x, rfl⟩)
    exact ret_row2 Try.results11 (w.heap.size + 1) 29 _ (0, 0) _ rfl _ rfl (hp_more (hp_at _ _ _ (by simp))) Try.underlying29 rfl HZ.out rfl ⟨by rw [HF.out]; rfl, ((Ext.alloc _ _).trans (Ext.alloc _ _)).trans (Ext.more _ _)⟩
  by_cases h2 : 8 < tid
  case pos =>
    have HF := kp (show acceptF a l tid n = ((0, zeroWs), 2) by simp [acceptF, hk, most, h2])
    clear hk
    go_enter Try.func11, Try.ntmps11
    go_wp2_with (first | ((with_reducible show wpList _ _ _ (Oper.mk _ (Op.load 29 _) _ _ _ _ :: _) _ _); (with_reducible refine wpList_load_row rfl 29 _ rfl (w.heap.size) rfl 29 ((cellsC a l).toArray) (0, 0) _ (hp_alloc (hp_new _ _)) Try.underlying29 rfl (HS.out) ?_); simp only [Act.put, List.setIfInBounds_toArray, List.set_cons_zero, List.set_cons_succ]) | ((with_reducible show wpList _ _ _ (Oper.mk none (Op.store 29 _ _) _ _ _ _ :: _) _ _); with_reducible refine wpList_st_row rfl rfl 29 _ _ rfl (w.heap.size + 1) (_) rfl rfl 29 (_) (hp_more (hp_at _ _ _ (by simp))) (HZ.out) (rfl) (HO.out) (by rewrite [setRow_more _ _ _ _ (by first | assumption | (simp <;> omega)), setRow_at _ _ _ _ _ _ (by simp <;> omega)]; rfl) ?_) | go_at_call 12; refine (HK.out _).mono ?_; rintro e w' ⟨rfl, x, rfl⟩)
    exact ret_row2 Try.results11 (w.heap.size + 1) 29 _ (0, 0) _ rfl _ rfl (hp_more (hp_at _ _ _ (by simp))) Try.underlying29 rfl HZ.out rfl ⟨by rw [HF.out]; rfl, ((Ext.alloc _ _).trans (Ext.alloc _ _)).trans (Ext.more _ _)⟩
  by_cases h3 : n < 1
  case pos =>
    have HF := kp (show acceptF a l tid n = ((0, zeroWs), 2) by simp [acceptF, hk, most, h3])
    clear hk
    go_enter Try.func11, Try.ntmps11
    go_wp2_with (first | ((with_reducible show wpList _ _ _ (Oper.mk _ (Op.load 29 _) _ _ _ _ :: _) _ _); (with_reducible refine wpList_load_row rfl 29 _ rfl (w.heap.size) rfl 29 ((cellsC a l).toArray) (0, 0) _ (hp_alloc (hp_new _ _)) Try.underlying29 rfl (HS.out) ?_); simp only [Act.put, List.setIfInBounds_toArray, List.set_cons_zero, List.set_cons_succ]) | ((with_reducible show wpList _ _ _ (Oper.mk none (Op.store 29 _ _) _ _ _ _ :: _) _ _); with_reducible refine wpList_st_row rfl rfl 29 _ _ rfl (w.heap.size + 1) (_) rfl rfl 29 (_) (hp_more (hp_at _ _ _ (by simp))) (HZ.out) (rfl) (HO.out) (by rewrite [setRow_more _ _ _ _ (by first | assumption | (simp <;> omega)), setRow_at _ _ _ _ _ _ (by simp <;> omega)]; rfl) ?_) | go_at_call 12; refine (HK.out _).mono ?_; rintro e w' ⟨rfl, x, rfl⟩)
    exact ret_row2 Try.results11 (w.heap.size + 1) 29 _ (0, 0) _ rfl _ rfl (hp_more (hp_at _ _ _ (by simp))) Try.underlying29 rfl HZ.out rfl ⟨by rw [HF.out]; rfl, ((Ext.alloc _ _).trans (Ext.alloc _ _)).trans (Ext.more _ _)⟩
  by_cases h4 : 281474976710655 < n
  case pos =>
    have HF := kp (show acceptF a l tid n = ((0, zeroWs), 2) by simp [acceptF, hk, most, h4])
    clear hk
    go_enter Try.func11, Try.ntmps11
    go_wp2_with (first | ((with_reducible show wpList _ _ _ (Oper.mk _ (Op.load 29 _) _ _ _ _ :: _) _ _); (with_reducible refine wpList_load_row rfl 29 _ rfl (w.heap.size) rfl 29 ((cellsC a l).toArray) (0, 0) _ (hp_alloc (hp_new _ _)) Try.underlying29 rfl (HS.out) ?_); simp only [Act.put, List.setIfInBounds_toArray, List.set_cons_zero, List.set_cons_succ]) | ((with_reducible show wpList _ _ _ (Oper.mk none (Op.store 29 _ _) _ _ _ _ :: _) _ _); with_reducible refine wpList_st_row rfl rfl 29 _ _ rfl (w.heap.size + 1) (_) rfl rfl 29 (_) (hp_more (hp_at _ _ _ (by simp))) (HZ.out) (rfl) (HO.out) (by rewrite [setRow_more _ _ _ _ (by first | assumption | (simp <;> omega)), setRow_at _ _ _ _ _ _ (by simp <;> omega)]; rfl) ?_) | go_at_call 12; refine (HK.out _).mono ?_; rintro e w' ⟨rfl, x, rfl⟩)
    exact ret_row2 Try.results11 (w.heap.size + 1) 29 _ (0, 0) _ rfl _ rfl (hp_more (hp_at _ _ _ (by simp))) Try.underlying29 rfl HZ.out rfl ⟨by rw [HF.out]; rfl, ((Ext.alloc _ _).trans (Ext.alloc _ _)).trans (Ext.more _ _)⟩
  clear hk
  obtain ⟨k, rfl⟩ : ∃ k : Nat, tid = k := ⟨tid.toNat, by omega⟩
  have hk9 : k < 9 := by omega
  obtain ⟨⟨t, s⟩, hx⟩ : ∃ x, l[k]? = some x := ⟨l[k]'(by rw [HL.out]; exact hk9), by simp⟩
  have HX := kp hx
  obtain ⟨hx1, hx2⟩ := cellsC_at a l k _ hx
  have HV := kp (checkF_valid a l HK2.out k t s hx)
  clear hx
  have ht0 : 0 ≤ t := HV.out.1
  have ht1 : t ≤ 281474976710655 := HV.out.2
  rw [show 2 * k = k * 2 by omega] at hx1 hx2
  have HT := kp (fun w => take_any t s n ht0 ht1 (by omega) (by omega) w)
  obtain ⟨r, hr⟩ : ∃ r, takeF t s n = r := ⟨_, rfl⟩
  have HR := kp hr
  rw [hr] at HT
  clear hr
  obtain ⟨⟨t', s'⟩, b⟩ := r
  unfold RetWin at HT
  dsimp only at HT
  cases b
  case false =>
    have HF := kp (show acceptF a l k n = ((0, zeroWs), 32) by
      unfold acceptF
      rw [HK2.out, if_neg (by decide), if_neg (by unfold most; omega), Int.toNat_natCast, HX.out]
      simp [HR.out])
    go_enter Try.func11, Try.ntmps11
    go_wp2_with (first | (go_at_call 35; refine (HT.out _).mono ?_; rintro e w' ⟨rfl, xt, rfl⟩; rw [more_more]) | ((with_reducible show wpList _ _ _ (Oper.mk _ (Op.load 29 _) _ _ _ _ :: _) _ _); (with_reducible refine wpList_load_row rfl 29 _ rfl (w.heap.size) rfl 29 ((cellsC a l).toArray) (0, 0) _ (hp_alloc (hp_new _ _)) Try.underlying29 rfl (HS.out) ?_); simp only [Act.put, List.setIfInBounds_toArray, List.set_cons_zero, List.set_cons_succ]) | ((with_reducible show wpList _ _ _ (Oper.mk none (Op.store 29 _ _) _ _ _ _ :: _) _ _); with_reducible refine wpList_st_row rfl rfl 29 _ _ rfl (w.heap.size + 1) (_) rfl rfl 29 (_) (hp_alloc (hp_more (hp_at _ _ _ (by simp)))) (HZ.out) (rfl) (HO.out) (by rewrite [setRow_past _ _ _ _ (by simp <;> omega), setRow_more _ _ _ _ (by first | assumption | (simp <;> omega)), setRow_at _ _ _ _ _ _ (by simp <;> omega)]; rfl) ?_) | go_at_call 12; refine (HK.out _).mono ?_; rintro e w' ⟨rfl, x, rfl⟩)
    exact ret_row2 Try.results11 (w.heap.size + 1) 29 _ (0, 0) _ rfl _ rfl (hp_alloc (hp_more (hp_at _ _ _ (by simp)))) Try.underlying29 rfl HZ.out rfl ⟨by rw [HF.out]; rfl, ((Ext.alloc _ _).trans (Ext.alloc _ _)).trans ((Ext.more _ _).trans (Ext.alloc _ _))⟩
  exact accept_yes a l k n HL.out HK2.out hk9 h3 h4 t s HX.out t' s' HR.out w
end Go.Proofs.Ytjnaegpjhbobaaa
