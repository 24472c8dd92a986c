/- Contracts of package counter. -/
import Derived.Test.YtjnaegpjhbobaaaProg
import Derived.Test.YtjnaegpjhbobaaaLaws
import Derived.Outline
import Derived.LoopTactic
namespace Go.Proofs.Ytjnaegpjhbobaaa
open Go.RowKit

/-- A window: the greatest number, and what was seen below it. -/
abbrev Win : Type := Int × BitVec 64
abbrev cellsW (x : Win) : List Value := [.int .i64 x.1, V64 x.2]
def most : Int := 281474976710655
def validB (t : Int) (s : BitVec 64) : Bool := decide (0 ≤ t) && decide (t ≤ most) && (decide (64 < t) || (s >>> (t - 1).toNat == 0#64))

set_option maxHeartbeats 800000 in
theorem validWin_any (t : Int) (s : BitVec 64) (w : World) :
    Calls Try.prog 37 #[.agg #[.int .i64 t, V64 s]] w fun e w' => e = .returned (.bool (validB t s)) ∧ Ext w w' := by
  by_cases h1 : t < 0
  case pos =>
    have HV := kp (show validB t s = false by simp [validB]; omega)
    go_enter Try.func37, Try.ntmps37
    go_wp2_with fail
    go_ret
    exact ⟨by rw [HV.out]; rfl, Ext.alloc _ _⟩
  by_cases h2 : 281474976710655 < t
  case pos =>
    have HV := kp (show validB t s = false by
      have hm : decide (t ≤ most) = false := decide_eq_false (by unfold most; omega)
      simp [validB, hm])
    go_enter Try.func37, Try.ntmps37
    go_wp2_with fail
    go_ret
    exact ⟨by rw [HV.out]; rfl, Ext.alloc _ _⟩
  by_cases h3 : 64 < t
  case pos =>
    have HV := kp (show validB t s = true by
      have hm : decide (t ≤ most) = true := decide_eq_true (by unfold most; omega)
      have h0 : decide (0 ≤ t) = true := by simp; omega
      simp [validB, hm, h0, h3])
    go_enter Try.func37, Try.ntmps37
    go_wp2_with fail
    go_ret
    exact ⟨by rw [HV.out]; rfl, Ext.alloc _ _⟩
  have HV := kp (show validB t s = (s >>> (t - 1).toNat == 0#64) by simp [validB, most, h3, show 0 ≤ t by omega, show t ≤ 281474976710655 by omega])
  by_cases h4 : t = 0
  case pos =>
    subst h4
    go_enter Try.func37, Try.ntmps37
    go_wp2_with fail
    go_ret
    exact ⟨by rw [HV.out]; simp, Ext.alloc _ _⟩
  have h5 : 1 ≤ t := by omega
  have h6 : 0 ≤ t - 1 := by omega
  have HQ := kp (show (t - 1).toNat = t.toNat - 1 by omega)
  go_enter Try.func37, Try.ntmps37
  go_wp2_with fail
  go_ret
  exact ⟨by rw [HV.out, HQ.out]; rfl, Ext.alloc _ _⟩

set_option maxHeartbeats 800000 in
theorem odd_any (t : Int) (s : BitVec 64) (w : World) :
    Calls Try.prog 36 #[.agg #[.int .i64 t, V64 s]] w fun e w' => e = .returned (.bool (!validB t s)) ∧ Ext w w' := by
  go_enter Try.func36, Try.ntmps36
  go_wp2_with (go_at_call 37; refine (validWin_any t s _).mono ?_; rintro e w' ⟨rfl, x, rfl⟩)
  go_ret
  exact ⟨rfl, (Ext.alloc _ _).trans (Ext.more _ _)⟩

/-- Counters: the last number sent, and nine windows. -/
def cellsWs (l : List Win) : List Value := l.flatMap cellsW
def cellsC (a : Int) (l : List Win) : List Value := .int .i64 a :: cellsWs l
theorem cellsWs_len (l : List Win) : (cellsWs l).length = 2 * l.length := by
  induction l with
  | nil => rfl
  | cons x l ih => simp only [cellsWs, List.flatMap_cons, List.length_append] at *; simp [ih]; omega
theorem cellsWs_at : ∀ (l : List Win) (i : Nat) (x : Win), l[i]? = some x → (cellsWs l)[2 * i]? = some (.int .i64 x.1) ∧ (cellsWs l)[2 * i + 1]? = some (V64 x.2)
  | [], i, x, h => by simp at h
  | y :: l, 0, x, h => by
    have : y = x := by simpa using h
    subst this; exact ⟨rfl, rfl⟩
  | y :: l, i + 1, x, h => by
    have := cellsWs_at l i x (by simpa using h)
    rw [show 2 * (i + 1) = 2 * i + 2 by omega]
    exact ⟨by simpa [cellsWs] using this.1, by simpa [cellsWs] using this.2⟩
theorem cellsWs_set : ∀ (l : List Win) (i : Nat) (x : Win), i < l.length → ((cellsWs l).set (2 * i) (.int .i64 x.1)).set (2 * i + 1) (V64 x.2) = cellsWs (l.set i x)
  | [], i, x, h => by simp at h
  | y :: l, 0, x, h => by simp [cellsWs]
  | y :: l, i + 1, x, h => by
    have := cellsWs_set l i x (by simpa using h)
    rw [show 2 * (i + 1) = 2 * i + 2 by omega]
    simpa [cellsWs] using this
theorem cellsC_at (a : Int) (l : List Win) (i : Nat) (x : Win) (h : l[i]? = some x) : (cellsC a l)[1 + 2 * i]? = some (.int .i64 x.1) ∧ (cellsC a l)[1 + 2 * i + 1]? = some (V64 x.2) := by
  have := cellsWs_at l i x h
  rw [show 1 + 2 * i = 2 * i + 1 by omega]
  exact ⟨by simpa [cellsC] using this.1, by simpa [cellsC] using this.2⟩
theorem cellsC_set (a : Int) (l : List Win) (i : Nat) (x : Win) (h : i < l.length) : ((cellsC a l).set (1 + 2 * i) (.int .i64 x.1)).set (1 + 2 * i + 1) (V64 x.2) = cellsC a (l.set i x) := by
  rw [show 1 + 2 * i = 2 * i + 1 by omega]
  simp [cellsC, cellsWs_set l i x h]
theorem cellsC_len (a : Int) (l : List Win) : (cellsC a l).length = 2 * l.length + 1 := by simp [cellsC, cellsWs_len]
theorem all_cellsC (a : Int) (l : List Win) : ((cellsC a l).toArray.all (·.oneCell')) = true := by
  simp [cellsC, cellsWs, Value.oneCell']

/-- The first window that is not valid, from k on. -/
def oddAt (l : List Win) : Bool := l.any fun x => !validB x.1 x.2

theorem oddAt_take (l : List Win) (k : Nat) (x : Win) (h : l[k]? = some x) (hk : oddAt (l.take k) = false) : oddAt (l.take (k + 1)) = !validB x.1 x.2 := by
  unfold oddAt at *
  rw [List.take_add_one, h, List.any_append, hk]; simp
theorem oddAt_mem (l : List Win) (k : Nat) (x : Win) (h : l[k]? = some x) (hx : validB x.1 x.2 = false) : oddAt l = true := by
  unfold oddAt
  rw [List.any_eq_true]
  exact ⟨x, List.mem_of_getElem? h, by simp [hx]⟩
/-- An index, or a number below zero. -/
def RetIdx (b : Bool) (w : World) (e : Ending) (w' : World) : Prop := ∃ r : Int, e = .returned (.int .i64 r) ∧ decide (0 ≤ r) = b ∧ Ext w w'
set_option maxHeartbeats 1600000 in
theorem indexOdd_any (b o c : Nat) (l : List Win) (hl : l.length ≤ 1000) (w : World) (hb : b < w.heap.size) (hc : ∀ (i : Nat) (x : Win), l[i]? = some x → w.cell? ⟨b, o + i * 2, none⟩ = some (.int .i64 x.1) ∧ w.cell? ⟨b, o + i * 2 + 1, none⟩ = some (V64 x.2)) :
    Calls Try.prog 52 #[.slice (some ⟨b, o, none⟩) l.length c, .func (.func 36) #[] #[]] w (RetIdx (oddAt l) w) := by
  have HC := kp hc
  obtain ⟨n, hn⟩ : ∃ n, n = l.length := ⟨_, rfl⟩
  rw [← hn] at hl ⊢
  have HN := kp hn
  clear hc hn
  go_enter Try.func52, Try.ntmps52
  go_wp2_with fail
  go_loopw [8] (fun i wr => ∃ (k : Nat) (x : Xtra), k ≤ n ∧ i = .int .i64 k ∧ Kp (oddAt (l.take k) = false) ∧ wr = more w x) (fun i _ => n - (intOf i).toNat)
  case atStart => exact ⟨0, _, by omega, rfl, kp rfl, by rw [← more_self]⟩
  case round =>
    obtain ⟨k, x, hk, rfl, HT, rfl⟩ := hrel
    by_cases hlt : k < n
    · obtain ⟨y, hy⟩ : ∃ y, l[k]? = some y := ⟨l[k]'(by rw [← HN.out]; omega), by simp⟩
      obtain ⟨c1, c2⟩ := HC.out k y hy
      obtain ⟨t, s⟩ := y
      dsimp only at c1 c2
      have HY := kp hy
      clear hy
      by_cases hv : validB t s = true
      · have HO := kp (show oddAt (l.take (k + 1)) = false by rw [oddAt_take l k _ HY.out HT.out]; simp [hv])
        have HV := kp (show (!validB t s) = false by simp [hv])
        clear hv
        go_wp2_with fail
        refine (odd_any t s _).mono ?_
        rintro e w' ⟨rfl, x2, rfl⟩
        rw [more_more, HV.out]
        go_wp2_with fail
        go_roundw
        case rel => exact ⟨k + 1, _, by omega, by go_num, HO, rfl⟩
        case measure => simp [intOf]; omega
      · have HO := kp (oddAt_mem l k _ HY.out (by simpa using hv))
        have HV := kp (show (!validB t s) = true by simpa using hv)
        clear hv
        go_wp2_with fail
        refine (odd_any t s _).mono ?_
        rintro e w' ⟨rfl, x2, rfl⟩
        rw [more_more, HV.out]
        go_wp2_with fail
        go_ret
        exact ⟨(k : Int), rfl, by rw [HO.out]; simp, Ext.more _ _⟩
    · obtain rfl : k = n := by omega
      have HO := kp (show oddAt l = false by
        have h := HT.out
        rwa [List.take_of_length_le (by rw [HN.out]; exact Nat.le_refl _)] at h)
      go_wp2_with fail
      go_ret
      exact ⟨-1, rfl, by rw [HO.out]; rfl, Ext.more _ _⟩

set_option maxHeartbeats 800000 in
theorem containsOdd_any (b o c : Nat) (l : List Win) (hl : l.length ≤ 1000) (w : World) (hb : b < w.heap.size) (hc : ∀ (i : Nat) (x : Win), l[i]? = some x → w.cell? ⟨b, o + i * 2, none⟩ = some (.int .i64 x.1) ∧ w.cell? ⟨b, o + i * 2 + 1, none⟩ = some (V64 x.2)) :
    Calls Try.prog 38 #[.slice (some ⟨b, o, none⟩) l.length c, .func (.func 36) #[] #[]] w fun e w' => e = .returned (.bool (oddAt l)) ∧ Ext w w' := by
  have HI := kp (indexOdd_any b o c l hl w hb hc)
  clear hc hb hl
  go_enter Try.func38, Try.ntmps38
  go_wp2_with fail
  refine HI.out.mono ?_
  rintro e w' ⟨r, rfl, hr, hx⟩
  have HR := kp hr
  have HX := kp hx
  clear hr hx
  go_wp2_with fail
  go_ret
  exact ⟨by rw [← HR.out]; rfl, HX.out⟩

/-- Check: 0 or 8. -/
def checkF (a : Int) (l : List Win) : Int := if a < 0 ∨ most < a ∨ oddAt l = true then 8 else 0
set_option maxHeartbeats 1600000 in
theorem check_any (a : Int) (l : List Win) (hl : l.length = 9) (w : World) :
    Calls Try.prog 12 #[.agg (cellsC a l).toArray] w fun e w' => e = .returned (.int .i64 (checkF a l)) ∧ Ext w w' := by
  have hc0 : (cellsC a l)[0]? = some (.int .i64 a) := rfl
  have HC := kp (fun (w : World) (i : Nat) (x : Win) (h : l[i]? = some x) => show (w.alloc (.cells (cellsC a l).toArray 29)).cell? ⟨w.heap.size, 1 + i * 2, none⟩ = some (.int .i64 x.1) ∧ (w.alloc (.cells (cellsC a l).toArray 29)).cell? ⟨w.heap.size, 1 + i * 2 + 1, none⟩ = some (V64 x.2) from by
    have h2 := cellsC_at a l i x h
    rw [show 2 * i = i * 2 by omega] at h2
    rw [cell_of_row _ _ _ _ _ _ (hp_new _ _), cell_of_row _ _ _ _ _ _ (hp_new _ _)]
    simpa using h2)
  have HL := kp hl
  clear hl
  by_cases h1 : a < 0
  case pos =>
    have HF := kp (show checkF a l = 8 by simp [checkF, h1])
    go_enter Try.func12, Try.ntmps12
    go_wp2_with fail
    go_ret
    exact ⟨by rw [HF.out]; rfl, Ext.alloc _ _⟩
  by_cases h2 : 281474976710655 < a
  case pos =>
    have HF := kp (show checkF a l = 8 by simp [checkF, most, h2])
    go_enter Try.func12, Try.ntmps12
    go_wp2_with fail
    go_ret
    exact ⟨by rw [HF.out]; rfl, Ext.alloc _ _⟩
  have HF := kp (show checkF a l = if oddAt l = true then 8 else 0 by simp [checkF, most, h1, h2])
  have HA := kp (containsOdd_any w.heap.size 1 9 l (by rw [HL.out]; decide) (w.alloc (.cells (cellsC a l).toArray 29)) (by simp) (HC.out w))
  rw [HL.out] at HA
  generalize hod : oddAt l = od at *
  clear hod
  cases od
  case true =>
    go_enter Try.func12, Try.ntmps12
    go_wp2_with fail
    refine HA.out.mono ?_
    rintro e w' ⟨rfl, x, rfl⟩
    go_wp2_with fail
    go_ret
    exact ⟨by rw [HF.out]; rfl, (Ext.alloc _ _).trans (Ext.more _ _)⟩
  go_enter Try.func12, Try.ntmps12
  go_wp2_with fail
  refine HA.out.mono ?_
  rintro e w' ⟨rfl, x, rfl⟩
  go_wp2_with fail
  go_ret
  exact ⟨by rw [HF.out]; rfl, (Ext.alloc _ _).trans (Ext.more _ _)⟩

/-- A window that has accepted a number; false: it is not new. -/
def takeF (t : Int) (s : BitVec 64) (n : Int) : Win × Bool :=
  if t < n then
    if n - t ≤ 64 then
      if 0 < t then ((n, s <<< (n - t).toNat ||| 1#64 <<< ((n - t).toNat - 1)), true) else ((n, s <<< (n - t).toNat), true)
    else ((n, 0#64), true)
  else if t - 1 - n < 0 then ((t, s), false)
  else if 63 < t - 1 - n then ((t, s), false)
  else if (s >>> (t - 1 - n).toNat &&& 1#64 == 1#64) = true then ((t, s), false)
  else ((t, s ||| 1#64 <<< (t - 1 - n).toNat), true)
theorem run_shl1 (P : Program) (w : World) (k : IntKind) (n : Int) (h0 : 0 ≤ n) (h : n ≤ 64) : (Op.shift .shl .u64 1 k n).run P w = .ok (.int .u64 (wI (1#64 <<< n.toNat))) w := by
  obtain ⟨m, rfl⟩ := Int.eq_ofNat_of_zero_le h0
  have := run_shl64 P w k 1#64 m (by omega)
  rw [show wI 1#64 = 1 from rfl] at this
  exact this
theorem run_shlN (P : Program) (w : World) (k : IntKind) (x : BitVec 64) (n : Int) (h0 : 0 ≤ n) (h : n ≤ 64) : (Op.shift .shl .u64 (wI x) k n).run P w = .ok (.int .u64 (wI (x <<< n.toNat))) w := by
  obtain ⟨m, rfl⟩ := Int.eq_ofNat_of_zero_le h0
  exact run_shl64 P w k x m (by omega)
theorem run_shrN (P : Program) (w : World) (k : IntKind) (x : BitVec 64) (n : Int) (h0 : 0 ≤ n) (h : n ≤ 64) : (Op.shift .shr .u64 (wI x) k n).run P w = .ok (.int .u64 (wI (x >>> n.toNat))) w := by
  obtain ⟨m, rfl⟩ := Int.eq_ofNat_of_zero_le h0
  exact run_shr64 P w k x m (by omega)

theorem wI_wbig (x : BitVec 64) : IntKind.u64.wrap (wI x * 18446744073709551616) = wI 0#64 := by
  rw [wrap_u64, Int.mul_emod_left]; rfl
/-- A window and a bool. -/
def RetWin (r : Win × Bool) (w : World) (e : Ending) (w' : World) : Prop := e = .returned (.tuple #[.agg #[.int .i64 r.1.1, V64 r.1.2], .bool r.2]) ∧ Ext w w'
set_option maxHeartbeats 1600000 in
theorem take_any (t : Int) (s : BitVec 64) (n : Int) (h0 : 0 ≤ t) (h1 : t ≤ 281474976710655) (h2 : 1 ≤ n) (h3 : n ≤ 281474976710655) (w : World) :
    Calls Try.prog 35 #[.agg #[.int .i64 t, V64 s], .int .i64 n] w (RetWin (takeF t s n) w) := by
  by_cases h4 : t < n
  case pos =>
    by_cases h5 : n - t ≤ 64
    case pos =>
      by_cases h6 : 0 < t
      case pos =>
        have HF := kp (show takeF t s n = ((n, s <<< (n - t).toNat ||| 1#64 <<< ((n - t).toNat - 1)), true) by unfold takeF; rw [if_pos h4, if_pos h5, if_pos h6])
        go_enter Try.func35, Try.ntmps35
        go_wp2_with fail
        (first | with_reducible refine region_f2 7 (by kernel_rfl) (by kernel_rfl) (by kernel_rfl) (by kernel_rfl) (by decide) (Nat.le_of_ble_eq_true (by kernel_rfl)) ?_ | refine region_f 7 (by kernel_rfl) (by kernel_rfl) (by kernel_rfl) (by kernel_rfl) (by decide) (Nat.le_of_ble_eq_true (by kernel_rfl)) ?_)
        apply Exists.intro
        refine ⟨fun xz2 => ?_, fun xq2 => ?_⟩
        · simp only [List.take_succ_cons, List.take_zero]
          unfold Cx
          repeat (go_big_quiet_step (fail))
          exact wpQuiet_nil rfl
        simp only [List.drop_succ_cons, List.drop_zero]
        go_wp2_with fail
        refine bodyPost_ret (v := .tuple #[.agg #[.int .i64 n, V64 (s <<< (n - t).toNat ||| 1#64 <<< ((n - t).toNat - 1))], .bool true]) (by simp [results, Try.results35, go_sem]) rfl ⟨by rw [HF.out], ?_⟩
        exact ((Ext.alloc _ _).trans (Ext.alloc _ _)).trans (Ext.more _ _)
      have HF := kp (show takeF t s n = ((n, s <<< (n - t).toNat), true) by unfold takeF; rw [if_pos h4, if_pos h5, if_neg h6])
      go_enter Try.func35, Try.ntmps35
      go_wp2_with fail
      refine bodyPost_ret (v := .tuple #[.agg #[.int .i64 n, V64 (s <<< (n - t).toNat)], .bool true]) (by simp [results, Try.results35, go_sem]) rfl ⟨by rw [HF.out], ?_⟩
      exact (Ext.alloc _ _).trans (Ext.alloc _ _)
    have HF := kp (show takeF t s n = ((n, 0#64), true) by unfold takeF; rw [if_pos h4, if_neg h5])
    have HZ := kp (wI_wbig s)
    by_cases h6 : 0 < t
    case pos =>
      go_enter Try.func35, Try.ntmps35
      go_wp2_with fail
      refine bodyPost_ret (v := .tuple #[.agg #[.int .i64 n, .int .u64 (IntKind.u64.wrap (wI s * 18446744073709551616))], .bool true]) (by simp [results, Try.results35, go_sem]) rfl ⟨by rw [HF.out, HZ.out], ?_⟩
      exact (Ext.alloc _ _).trans (Ext.alloc _ _)
    go_enter Try.func35, Try.ntmps35
    go_wp2_with fail
    refine bodyPost_ret (v := .tuple #[.agg #[.int .i64 n, .int .u64 (IntKind.u64.wrap (wI s * 18446744073709551616))], .bool true]) (by simp [results, Try.results35, go_sem]) rfl ⟨by rw [HF.out, HZ.out], ?_⟩
    exact (Ext.alloc _ _).trans (Ext.alloc _ _)
  by_cases h5 : t - 1 - n < 0
  case pos =>
    have HF := kp (show takeF t s n = ((t, s), false) by unfold takeF; rw [if_neg h4, if_pos h5])
    go_enter Try.func35, Try.ntmps35
    go_wp2_with fail
    refine bodyPost_ret (v := .tuple #[.agg #[.int .i64 t, V64 (s)], .bool false]) (by simp [results, Try.results35, go_sem]) rfl ⟨by rw [HF.out], ?_⟩
    exact (Ext.alloc _ _).trans (Ext.alloc _ _)
  by_cases h6 : 63 < t - 1 - n
  case pos =>
    have HF := kp (show takeF t s n = ((t, s), false) by unfold takeF; rw [if_neg h4, if_neg h5, if_pos h6])
    go_enter Try.func35, Try.ntmps35
    go_wp2_with fail
    refine bodyPost_ret (v := .tuple #[.agg #[.int .i64 t, V64 (s)], .bool false]) (by simp [results, Try.results35, go_sem]) rfl ⟨by rw [HF.out], ?_⟩
    exact (Ext.alloc _ _).trans (Ext.alloc _ _)
  by_cases h7 : (s >>> (t - 1 - n).toNat &&& 1#64 == 1#64) = true
  case pos =>
    have HF := kp (show takeF t s n = ((t, s), false) by unfold takeF; rw [if_neg h4, if_neg h5, if_neg h6, if_pos h7])
    go_enter Try.func35, Try.ntmps35
    go_wp2_with fail
    refine bodyPost_ret (v := .tuple #[.agg #[.int .i64 t, V64 (s)], .bool false]) (by simp [results, Try.results35, go_sem]) rfl ⟨by rw [HF.out], ?_⟩
    exact (Ext.alloc _ _).trans (Ext.alloc _ _)
  have h7' : (s >>> (t - 1 - n).toNat &&& 1#64 == 1#64) = false := by simpa using h7
  have HF := kp (show takeF t s n = ((t, s ||| 1#64 <<< (t - 1 - n).toNat), true) by unfold takeF; rw [if_neg h4, if_neg h5, if_neg h6, if_neg h7])
  clear h7
  go_enter Try.func35, Try.ntmps35
  go_wp2_with fail
  (first | with_reducible refine region_f2 6 (by kernel_rfl) (by kernel_rfl) (by kernel_rfl) (by kernel_rfl) (by decide) (Nat.le_of_ble_eq_true (by kernel_rfl)) ?_ | refine region_f 6 (by kernel_rfl) (by kernel_rfl) (by kernel_rfl) (by kernel_rfl) (by decide) (Nat.le_of_ble_eq_true (by kernel_rfl)) ?_)
  apply Exists.intro
  refine ⟨fun xz10 => ?_, fun xq10 => ?_⟩
  · simp only [List.take_succ_cons, List.take_zero]
    unfold Cx
    repeat (go_big_quiet_step (fail))
    exact wpQuiet_nil rfl
  simp only [List.drop_succ_cons, List.drop_zero]
  go_wp2_with fail
  refine bodyPost_ret (v := .tuple #[.agg #[.int .i64 t, V64 (s ||| 1#64 <<< (t - 1 - n).toNat)], .bool true]) (by simp [results, Try.results35, go_sem]) rfl ⟨by rw [HF.out], ?_⟩
  exact ((Ext.alloc _ _).trans (Ext.alloc _ _)).trans (Ext.more _ _)
end Go.Proofs.Ytjnaegpjhbobaaa
