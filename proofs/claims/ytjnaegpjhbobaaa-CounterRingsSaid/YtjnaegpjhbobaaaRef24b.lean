/- Contracts of hotspotref24's Taken and Accept. -/
import Derived.Test.YtjnaegpjhbobaaaPlain24b
import Derived.Test.YtjnaegpjhbobaaaLaw24a
namespace Go.Proofs.Ytjnaegpjhbobaaa
open Go.RowKit

theorem wI_add64 (x y : BitVec 64) : (wI x + wI y) % 18446744073709551616 = wI (x + y) := by
  unfold wI; rw [BitVec.toNat_add]; omega
theorem wI_wadd64 (x y : BitVec 64) : IntKind.u64.wrap (wI x + wI y) = wI (x + y) := by rw [wrap_u64, wI_add64]
attribute [go_sem] wI_add64 wI_wadd64

set_option maxHeartbeats 1600000 in
theorem rtaken_any (t : Int) (s : BitVec 64) (n : Int) (h0 : 0 ≤ t) (h1 : t ≤ 281474976710655) (h2 : 1 ≤ n) (h3 : n ≤ 281474976710655) (hne : n ≠ t) (w : World) :
    Calls Try.prog 40 #[.agg #[.int .i64 t, V64 s], .int .i64 n] w fun e w' => e = .returned (.agg #[.int .i64 (max n t), V64 (seenTo (max n t) t s n 64)]) ∧ Ext w w' := by
  by_cases h4 : t < n
  case pos =>
    have hmax : max n t = n := by omega
    have HMX := kp hmax
    go_enter Try.func40, Try.ntmps40
    go_wp2_with fail
    go_loopw [6] (fun i wr => ∃ (k : Nat) (x : Xtra), k ≤ 64 ∧ i = .int .i64 k ∧ wr = more (((w.alloc (.cells #[.int .i64 t, V64 s] 26)).alloc (.cells #[.int .i64 0, .int .u64 0] 26)).alloc (.cells #[.int .i64 n, V64 (seenTo n t s n k)] 26)) x) (fun i _ => 64 - (intOf i).toNat)
    case atStart => exact ⟨0, _, by omega, rfl, by rw [← more_self]; rfl⟩
    case round =>
      obtain ⟨k, x, hk, rfl, rfl⟩ := hrel
      by_cases hlt : k < 64
      · have HH := kp (fun w => rhas_any t s (n - 1 - (k : Int)) h0 h1 (by omega) w)
        cases hh : hasB t s (n - 1 - (k : Int))
        case true =>
          have HN := kp (show seenTo n t s n (k + 1) = seenTo n t s n k + 1#64 <<< k by rw [seenTo, if_pos (by simp [condB, hh])])
          rw [hh] at HH
          clear hh
          go_wp2_with (go_at_call 53; refine (HH.out _).mono ?_; rintro e w' ⟨rfl, x2, rfl⟩; rw [more_more])
          go_roundw
          case rel => exact ⟨k + 1, _, by omega, by go_num, by rw [HN.out]⟩
          case measure => simp [intOf]; omega
        case false =>
          rw [hh] at HH
          by_cases he : n - 1 - (k : Int) = n
          · have HN := kp (show seenTo n t s n (k + 1) = seenTo n t s n k + 1#64 <<< k by rw [seenTo, if_pos (by simp [condB, he])])
            have he2 : (n - 1 - (k : Int) == n) = true := by simpa using he
            clear hh he
            go_wp2_with (go_at_call 53; refine (HH.out _).mono ?_; rintro e w' ⟨rfl, x2, rfl⟩; rw [more_more])
            go_roundw
            case rel => exact ⟨k + 1, _, by omega, by go_num, by rw [HN.out]⟩
            case measure => simp [intOf]; omega
          · have HN := kp (show seenTo n t s n (k + 1) = seenTo n t s n k by rw [seenTo, if_neg (by simp [condB, hh, he])])
            have he2 : (n - 1 - (k : Int) == n) = false := by simpa using he
            clear hh he
            go_wp2_with (go_at_call 53; refine (HH.out _).mono ?_; rintro e w' ⟨rfl, x2, rfl⟩; rw [more_more])
            go_roundw
            case rel => exact ⟨k + 1, _, by omega, by go_num, by rw [HN.out]⟩
            case measure => simp [intOf]; omega
      · obtain rfl : k = 64 := by omega
        go_wp2_with fail
        refine bodyPost_ret (v := .agg #[.int .i64 n, V64 (seenTo n t s n 64)]) (by simp [results, Try.results40, go_sem]) rfl ⟨by rw [HMX.out], ?_⟩
        exact (((Ext.alloc _ _).trans (Ext.alloc _ _)).trans (Ext.alloc _ _)).trans (Ext.more _ _)
  have h5 : n < t := by omega
  have hmax : max n t = t := by omega
  have HMX := kp hmax
  case neg =>
    go_enter Try.func40, Try.ntmps40
    go_wp2_with fail
    go_loopw [6] (fun i wr => ∃ (k : Nat) (x : Xtra), k ≤ 64 ∧ i = .int .i64 k ∧ wr = more (((w.alloc (.cells #[.int .i64 t, V64 s] 26)).alloc (.cells #[.int .i64 0, .int .u64 0] 26)).alloc (.cells #[.int .i64 t, V64 (seenTo t t s n k)] 26)) x) (fun i _ => 64 - (intOf i).toNat)
    case atStart => exact ⟨0, _, by omega, rfl, by rw [← more_self]; rfl⟩
    case round =>
      obtain ⟨k, x, hk, rfl, rfl⟩ := hrel
      by_cases hlt : k < 64
      · have HH := kp (fun w => rhas_any t s (t - 1 - (k : Int)) h0 h1 (by omega) w)
        cases hh : hasB t s (t - 1 - (k : Int))
        case true =>
          have HN := kp (show seenTo t t s n (k + 1) = seenTo t t s n k + 1#64 <<< k by rw [seenTo, if_pos (by simp [condB, hh])])
          rw [hh] at HH
          clear hh
          go_wp2_with (go_at_call 53; refine (HH.out _).mono ?_; rintro e w' ⟨rfl, x2, rfl⟩; rw [more_more])
          go_roundw
          case rel => exact ⟨k + 1, _, by omega, by go_num, by rw [HN.out]⟩
          case measure => simp [intOf]; omega
        case false =>
          rw [hh] at HH
          by_cases he : t - 1 - (k : Int) = n
          · have HN := kp (show seenTo t t s n (k + 1) = seenTo t t s n k + 1#64 <<< k by rw [seenTo, if_pos (by simp [condB, he])])
            have he2 : (t - 1 - (k : Int) == n) = true := by simpa using he
            clear hh he
            go_wp2_with (go_at_call 53; refine (HH.out _).mono ?_; rintro e w' ⟨rfl, x2, rfl⟩; rw [more_more])
            go_roundw
            case rel => exact ⟨k + 1, _, by omega, by go_num, by rw [HN.out]⟩
            case measure => simp [intOf]; omega
          · have HN := kp (show seenTo t t s n (k + 1) = seenTo t t s n k by rw [seenTo, if_neg (by simp [condB, hh, he])])
            have he2 : (t - 1 - (k : Int) == n) = false := by simpa using he
            clear hh he
            go_wp2_with (go_at_call 53; refine (HH.out _).mono ?_; rintro e w' ⟨rfl, x2, rfl⟩; rw [more_more])
            go_roundw
            case rel => exact ⟨k + 1, _, by omega, by go_num, by rw [HN.out]⟩
            case measure => simp [intOf]; omega
      · obtain rfl : k = 64 := by omega
        go_wp2_with fail
        refine bodyPost_ret (v := .agg #[.int .i64 t, V64 (seenTo t t s n 64)]) (by simp [results, Try.results40, go_sem]) rfl ⟨by rw [HMX.out], ?_⟩
        exact (((Ext.alloc _ _).trans (Ext.alloc _ _)).trans (Ext.alloc _ _)).trans (Ext.more _ _)

set_option maxHeartbeats 6400000 in
theorem raccept_any (a : Int) (l : List Win) (tid n : Int) (hl : l.length = 9) (w : World) :
    Calls Try.prog 15 #[.agg (cellsC a l).toArray, .int .i64 tid, .int .i64 n] w (RetAcc (acceptF a l tid n) w) := by
  have hc0 : (cellsC a l)[0]? = some (.int .i64 a) := rfl
  have HS := kp (sizeC a l hl)
  have HL := kp hl
  clear hl
  have HK := kp (fun w => rcheck_any a l HL.out w)
  have HZ := kp (show (Try.prog.info? 29).map (·.size) = some zeroC.size from size29)
  have HO := kp (show (zeroC.all (·.oneCell')) = true by simp [Value.oneCell'])
  rcases checkF_cases a l with hk | hk
  case inl =>
    have HF := kp (show acceptF a l tid n = ((0, zeroWs), 8) by simp [acceptF, hk])
    rw [hk] at HK
    clear hk
    go_enter Try.func15, Try.ntmps15
    go_wp2_with (first | ((with_reducible show wpList _ _ _ (Oper.mk _ (Op.load 29 _) _ _ _ _ :: _) _ _); (with_reducible refine wpList_load_row rfl 29 _ rfl (w.heap.size) rfl 29 ((cellsC a l).toArray) (0, 0) _ (hp_alloc (hp_new _ _)) Try.underlying29 rfl (HS.out) ?_); simp only [Act.put, List.setIfInBounds_toArray, List.set_cons_zero, List.set_cons_succ]) | ((with_reducible show wpList _ _ _ (Oper.mk none (Op.store 29 _ _) _ _ _ _ :: _) _ _); with_reducible refine wpList_st_row rfl rfl 29 _ _ rfl (w.heap.size + 1) (zeroC) rfl rfl 29 (_) (hp_more (hp_at _ _ _ (by simp))) (HZ.out) (rfl) (HO.out) (by rewrite [setRow_more _ _ _ _ (by first | assumption | (simp <;> omega)), setRow_at _ _ _ _ _ _ (by simp <;> omega)]; rfl) ?_) | (go_at_call 16; refine (HK.out _).mono ?_; rintro e w' ⟨rfl, x, rfl⟩))
    exact ret_row2 Try.results15 (w.heap.size + 1) 29 _ (0, 0) _ rfl (.int .i64 8) rfl (hp_more (hp_at _ _ _ (by simp))) Try.underlying29 rfl HZ.out rfl ⟨by rw [HF.out]; rfl, ((Ext.alloc _ _).trans (Ext.alloc _ _)).trans (Ext.more _ _)⟩
  have HK2 := kp hk
  rw [hk] at HK
  clear hk
  by_cases h1 : tid < 0
  case pos =>
    have HF := kp (show acceptF a l tid n = ((0, zeroWs), 2) by simp [acceptF, HK2.out, most, h1])
    go_enter Try.func15, Try.ntmps15
    go_wp2_with (first | ((with_reducible show wpList _ _ _ (Oper.mk _ (Op.load 29 _) _ _ _ _ :: _) _ _); (with_reducible refine wpList_load_row rfl 29 _ rfl (w.heap.size) rfl 29 ((cellsC a l).toArray) (0, 0) _ (hp_alloc (hp_new _ _)) Try.underlying29 rfl (HS.out) ?_); simp only [Act.put, List.setIfInBounds_toArray, List.set_cons_zero, List.set_cons_succ]) | ((with_reducible show wpList _ _ _ (Oper.mk none (Op.store 29 _ _) _ _ _ _ :: _) _ _); with_reducible refine wpList_st_row rfl rfl 29 _ _ rfl (w.heap.size + 1) (zeroC) rfl rfl 29 (_) (hp_more (hp_at _ _ _ (by simp))) (HZ.out) (rfl) (HO.out) (by rewrite [setRow_more _ _ _ _ (by first | assumption | (simp <;> omega)), setRow_at _ _ _ _ _ _ (by simp <;> omega)]; rfl) ?_) | (go_at_call 16; refine (HK.out _).mono ?_; rintro e w' ⟨rfl, x, rfl⟩))
    exact ret_row2 Try.results15 (w.heap.size + 1) 29 _ (0, 0) _ rfl (.int .i64 2) rfl (hp_more (hp_at _ _ _ (by simp))) Try.underlying29 rfl HZ.out rfl ⟨by rw [HF.out]; rfl, ((Ext.alloc _ _).trans (Ext.alloc _ _)).trans (Ext.more _ _)⟩
  by_cases h2 : 8 < tid
  case pos =>
    have HF := kp (show acceptF a l tid n = ((0, zeroWs), 2) by simp [acceptF, HK2.out, most, h2])
    go_enter Try.func15, Try.ntmps15
    go_wp2_with (first | ((with_reducible show wpList _ _ _ (Oper.mk _ (Op.load 29 _) _ _ _ _ :: _) _ _); (with_reducible refine wpList_load_row rfl 29 _ rfl (w.heap.size) rfl 29 ((cellsC a l).toArray) (0, 0) _ (hp_alloc (hp_new _ _)) Try.underlying29 rfl (HS.out) ?_); simp only [Act.put, List.setIfInBounds_toArray, List.set_cons_zero, List.set_cons_succ]) | ((with_reducible show wpList _ _ _ (Oper.mk none (Op.store 29 _ _) _ _ _ _ :: _) _ _); with_reducible refine wpList_st_row rfl rfl 29 _ _ rfl (w.heap.size + 1) (zeroC) rfl rfl 29 (_) (hp_more (hp_at _ _ _ (by simp))) (HZ.out) (rfl) (HO.out) (by rewrite [setRow_more _ _ _ _ (by first | assumption | (simp <;> omega)), setRow_at _ _ _ _ _ _ (by simp <;> omega)]; rfl) ?_) | (go_at_call 16; refine (HK.out _).mono ?_; rintro e w' ⟨rfl, x, rfl⟩))
    exact ret_row2 Try.results15 (w.heap.size + 1) 29 _ (0, 0) _ rfl (.int .i64 2) rfl (hp_more (hp_at _ _ _ (by simp))) Try.underlying29 rfl HZ.out rfl ⟨by rw [HF.out]; rfl, ((Ext.alloc _ _).trans (Ext.alloc _ _)).trans (Ext.more _ _)⟩
  by_cases h3 : n < 1
  case pos =>
    have HF := kp (show acceptF a l tid n = ((0, zeroWs), 2) by simp [acceptF, HK2.out, most, h3])
    go_enter Try.func15, Try.ntmps15
    go_wp2_with (first | ((with_reducible show wpList _ _ _ (Oper.mk _ (Op.load 29 _) _ _ _ _ :: _) _ _); (with_reducible refine wpList_load_row rfl 29 _ rfl (w.heap.size) rfl 29 ((cellsC a l).toArray) (0, 0) _ (hp_alloc (hp_new _ _)) Try.underlying29 rfl (HS.out) ?_); simp only [Act.put, List.setIfInBounds_toArray, List.set_cons_zero, List.set_cons_succ]) | ((with_reducible show wpList _ _ _ (Oper.mk none (Op.store 29 _ _) _ _ _ _ :: _) _ _); with_reducible refine wpList_st_row rfl rfl 29 _ _ rfl (w.heap.size + 1) (zeroC) rfl rfl 29 (_) (hp_more (hp_at _ _ _ (by simp))) (HZ.out) (rfl) (HO.out) (by rewrite [setRow_more _ _ _ _ (by first | assumption | (simp <;> omega)), setRow_at _ _ _ _ _ _ (by simp <;> omega)]; rfl) ?_) | (go_at_call 16; refine (HK.out _).mono ?_; rintro e w' ⟨rfl, x, rfl⟩))
    exact ret_row2 Try.results15 (w.heap.size + 1) 29 _ (0, 0) _ rfl (.int .i64 2) rfl (hp_more (hp_at _ _ _ (by simp))) Try.underlying29 rfl HZ.out rfl ⟨by rw [HF.out]; rfl, ((Ext.alloc _ _).trans (Ext.alloc _ _)).trans (Ext.more _ _)⟩
  by_cases h4 : 281474976710655 < n
  case pos =>
    have HF := kp (show acceptF a l tid n = ((0, zeroWs), 2) by simp [acceptF, HK2.out, most, h4])
    go_enter Try.func15, Try.ntmps15
    go_wp2_with (first | ((with_reducible show wpList _ _ _ (Oper.mk _ (Op.load 29 _) _ _ _ _ :: _) _ _); (with_reducible refine wpList_load_row rfl 29 _ rfl (w.heap.size) rfl 29 ((cellsC a l).toArray) (0, 0) _ (hp_alloc (hp_new _ _)) Try.underlying29 rfl (HS.out) ?_); simp only [Act.put, List.setIfInBounds_toArray, List.set_cons_zero, List.set_cons_succ]) | ((with_reducible show wpList _ _ _ (Oper.mk none (Op.store 29 _ _) _ _ _ _ :: _) _ _); with_reducible refine wpList_st_row rfl rfl 29 _ _ rfl (w.heap.size + 1) (zeroC) rfl rfl 29 (_) (hp_more (hp_at _ _ _ (by simp))) (HZ.out) (rfl) (HO.out) (by rewrite [setRow_more _ _ _ _ (by first | assumption | (simp <;> omega)), setRow_at _ _ _ _ _ _ (by simp <;> omega)]; rfl) ?_) | (go_at_call 16; refine (HK.out _).mono ?_; rintro e w' ⟨rfl, x, rfl⟩))
    exact ret_row2 Try.results15 (w.heap.size + 1) 29 _ (0, 0) _ rfl (.int .i64 2) rfl (hp_more (hp_at _ _ _ (by simp))) Try.underlying29 rfl HZ.out rfl ⟨by rw [HF.out]; rfl, ((Ext.alloc _ _).trans (Ext.alloc _ _)).trans (Ext.more _ _)⟩
  obtain ⟨k, rfl⟩ : ∃ k : Nat, tid = k := ⟨tid.toNat, by omega⟩
  have hk9 : k < 9 := by omega
  obtain ⟨⟨t, s⟩, hx⟩ : ∃ x, l[k]? = some x := ⟨l[k]'(by rw [HL.out]; exact hk9), by simp⟩
  have HX := kp hx
  obtain ⟨hx1, hx2⟩ := cellsC_at a l k _ hx
  have HVB := kp (checkF_validB a l HK2.out k (t, s) hx)
  have HV := kp (checkF_valid a l HK2.out k t s hx)
  clear hx
  have ht0 : 0 ≤ t := HV.out.1
  have ht1 : t ≤ 281474976710655 := HV.out.2
  rw [show 2 * k = k * 2 by omega] at hx1 hx2
  dsimp only at hx1 hx2
  have HNW := kp (fun w => rnew_any t s n ht0 ht1 (by omega) w)
  have HTN := kp (take_new t s n HVB.out (by omega))
  cases hnb : newB t s n
  case false =>
    rw [hnb] at HNW
    have HF := kp (show acceptF a l k n = ((0, zeroWs), 32) by
      unfold acceptF
      rw [HK2.out, if_neg (by decide), if_neg (by unfold most; omega), Int.toNat_natCast, HX.out]
      simp [HTN.out, hnb])
    clear hnb
    go_enter Try.func15, Try.ntmps15
    go_wp2_with (first | ((with_reducible show wpList _ _ _ (Oper.mk _ (Op.load 29 _) _ _ _ _ :: _) _ _); (with_reducible refine wpList_load_row rfl 29 _ rfl (w.heap.size) rfl 29 ((cellsC a l).toArray) (0, 0) _ (hp_alloc (hp_new _ _)) Try.underlying29 rfl (HS.out) ?_); simp only [Act.put, List.setIfInBounds_toArray, List.set_cons_zero, List.set_cons_succ]) | ((with_reducible show wpList _ _ _ (Oper.mk none (Op.store 29 _ _) _ _ _ _ :: _) _ _); with_reducible refine wpList_st_row rfl rfl 29 _ _ rfl (w.heap.size + 1) (zeroC) rfl rfl 29 (_) (hp_more (hp_at _ _ _ (by simp))) (HZ.out) (rfl) (HO.out) (by rewrite [setRow_more _ _ _ _ (by first | assumption | (simp <;> omega)), setRow_at _ _ _ _ _ _ (by simp <;> omega)]; rfl) ?_) | (go_at_call 16; refine (HK.out _).mono ?_; rintro e w' ⟨rfl, x, rfl⟩) | (go_at_call 39; refine (HNW.out _).mono ?_; rintro e w' ⟨rfl, x2, rfl⟩; rw [more_more]))
    exact ret_row2 Try.results15 (w.heap.size + 1) 29 _ (0, 0) _ rfl (.int .i64 32) rfl (hp_more (hp_at _ _ _ (by simp))) Try.underlying29 rfl HZ.out rfl ⟨by rw [HF.out]; rfl, ((Ext.alloc _ _).trans (Ext.alloc _ _)).trans (Ext.more _ _)⟩
  rw [hnb] at HNW
  have HTS := kp (take_seen t s n HVB.out (by omega) hnb)
  have hne : n ≠ t := fun h => by
    have h2 := HTN.out
    rw [hnb, h] at h2
    unfold takeF at h2
    rw [if_neg (by omega), if_pos (by omega)] at h2; cases h2
  have HTK := kp (fun w => rtaken_any t s n ht0 ht1 (by omega) (by omega) hne w)
  have HF := kp (show acceptF a l k n = ((a, l.set k (max n t, seenTo (max n t) t s n 64)), 0) by
    unfold acceptF
    rw [HK2.out, if_neg (by decide), if_neg (by unfold most; omega), Int.toNat_natCast, HX.out]
    dsimp only
    rw [if_pos (by rw [HTN.out, hnb]), HTS.out])
  obtain ⟨t2, ht2⟩ : ∃ t2, max n t = t2 := ⟨_, rfl⟩
  rw [ht2] at HTK HF
  obtain ⟨s2, hs2⟩ : ∃ s2, seenTo t2 t s n 64 = s2 := ⟨_, rfl⟩
  rw [hs2] at HTK HF
  clear hnb ht2 hs2 HTS hne
  have HG := kp (show (((cellsC a l).set (1 + k * 2) (.int .i64 t2)).set (1 + k * 2 + 1) (.int .u64 (wI s2))).toArray = (cellsC a (l.set k (t2, s2))).toArray by rw [← cellsC_set a l k (t2, s2) (by rw [HL.out]; exact hk9), show 2 * k = k * 2 by omega])
  have HS2 := kp (show (Try.prog.info? 29).map (·.size) = some (((cellsC a l).set (1 + k * 2) (.int .i64 t2)).set (1 + k * 2 + 1) (.int .u64 (wI s2))).toArray.size by rw [size29]; simp [cellsC_len, HL.out])
  have HO2 := kp (show ((((cellsC a l).set (1 + k * 2) (.int .i64 t2)).set (1 + k * 2 + 1) (.int .u64 (wI s2))).toArray.all (·.oneCell')) = true by rw [HG.out]; exact all_cellsC _ _)
  have HE := kp (show zeroC.size = (((cellsC a l).set (1 + k * 2) (.int .i64 t2)).set (1 + k * 2 + 1) (.int .u64 (wI s2))).toArray.size by simp [cellsC_len, HL.out])
  go_enter Try.func15, Try.ntmps15
  go_wp2_with (first | ((with_reducible show wpList _ _ _ (Oper.mk _ (Op.load 29 _) _ _ _ _ :: _) _ _); (with_reducible refine wpList_load_row rfl 29 _ rfl (w.heap.size) rfl 29 ((cellsC a l).toArray) (0, 0) _ (hp_alloc (hp_new _ _)) Try.underlying29 rfl (HS.out) ?_); simp only [Act.put, List.setIfInBounds_toArray, List.set_cons_zero, List.set_cons_succ]) | (go_at_call 16; refine (HK.out _).mono ?_; rintro e w' ⟨rfl, x, rfl⟩) | (go_at_call 39; refine (HNW.out _).mono ?_; rintro e w' ⟨rfl, x2, rfl⟩; rw [more_more]))
  refine (HTK.out _).mono ?_
  rintro e w' ⟨rfl, x3, rfl⟩
  rw [more_more]
  go_wp2_with (first | ((with_reducible show wpList _ _ _ (Oper.mk none (Op.store 29 _ _) _ _ _ _ :: _) _ _); with_reducible refine wpList_st_row rfl rfl 29 _ _ rfl (w.heap.size + 1) ((((cellsC a l).set (1 + k * 2) (.int .i64 t2)).set (1 + k * 2 + 1) (.int .u64 (wI s2))).toArray) rfl rfl 29 (_) (hp_more (hp_at _ _ _ (by simp))) (HS2.out) (HE.out) (HO2.out) (by rewrite [setRow_more _ _ _ _ (by first | assumption | (simp <;> omega)), setRow_at _ _ _ _ _ _ (by simp <;> omega)]; rfl) ?_) | ((with_reducible show wpList _ _ _ (Oper.mk _ (Op.load 29 _) _ _ _ _ :: _) _ _); (with_reducible refine wpList_load_row rfl 29 _ rfl (w.heap.size) rfl 29 ((((cellsC a l).set (1 + k * 2) (.int .i64 t2)).set (1 + k * 2 + 1) (.int .u64 (wI s2))).toArray) (0, 0) _ (hp_more (hp_alloc (hp_new _ _))) Try.underlying29 rfl (HS2.out) ?_); simp only [Act.put, List.setIfInBounds_toArray, List.set_cons_zero, List.set_cons_succ]))
  exact ret_row2 Try.results15 (w.heap.size + 1) 29 _ (0, 0) _ rfl (.int .i64 0) rfl (hp_more (hp_at _ _ _ (by simp))) Try.underlying29 rfl HS2.out rfl ⟨by rw [HF.out, HG.out], ((Ext.alloc _ _).trans (Ext.alloc _ _)).trans (Ext.more _ _)⟩
end Go.Proofs.Ytjnaegpjhbobaaa
