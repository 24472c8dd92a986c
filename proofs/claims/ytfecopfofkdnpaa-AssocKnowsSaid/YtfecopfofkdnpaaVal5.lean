/- The reference's validity of a header: hotspotref05.Known, Used, Valid. -/
import Derived.Test.YtfecopfofkdnpaaPl30
namespace Go.Proofs.Ytfecopfofkdnpaa
open Go.RowKit
theorem known5_step (L : List Int) (s : Int) (j : Nat) (x : Int) (h : L[j]? = some x) (hT : s ∉ L.take j) (hx : x ≠ s) : s ∉ L.take (j + 1) := by
  rw [List.take_add_one, h, Option.toList_some, List.mem_append, List.mem_singleton]
  rintro (c | c)
  · exact hT c
  · exact hx c.symm
def tab5 (g7 g8 g9 : Nat) : List Value := [.slice (some ⟨g7, 0, none⟩) 11 11, .slice (some ⟨g8, 0, none⟩) 6 6, .slice (some ⟨g9, 0, none⟩) 4 4]
set_option maxHeartbeats 1600000 in
theorem known5_0 (s : Int) (w : World) :
    Calls Try.prog 83 #[.int .u8 0, .int .u8 s] w fun e w' => e = .returned (.bool (known5F 0 s)) ∧ Ext w w' := by
  have H := kp (Loc.start w)
  go_enter Try.func83, Try.ntmps83
  go_wp2_with (first | ((with_reducible show wpList _ _ _ (Oper.mk (some 7) (Op.buildSlice 29 _ _) _ _ _ _ :: _) _ _); (refine L_bs H (by kernel_rfl) 29 11 _ rfl (#[(0, .int .u8 0), (1, .int .u8 1), (2, .int .u8 2), (3, .int .u8 3), (4, .int .u8 4), (5, .int .u8 5), (6, .int .u8 8), (7, .int .u8 10), (8, .int .u8 11), (9, .int .u8 12), (10, .int .u8 13)]) (by kernel_rfl) 5 ((subs5 0).map (fun z => Value.int .u8 z)) (fun _ => by kernel_rfl) ?_); clear H; intro g7 w7 HGg7 HEg7 H; simp only [Act.put, List.setIfInBounds_toArray, List.set_cons_zero, List.set_cons_succ]) | ((with_reducible show wpList _ _ _ (Oper.mk (some 8) (Op.buildSlice 29 _ _) _ _ _ _ :: _) _ _); (refine L_bs H (by kernel_rfl) 29 6 _ rfl (#[(0, .int .u8 8), (1, .int .u8 9), (2, .int .u8 10), (3, .int .u8 11), (4, .int .u8 12), (5, .int .u8 13)]) (by kernel_rfl) 5 ((subs5 1).map (fun z => Value.int .u8 z)) (fun _ => by kernel_rfl) ?_); clear H; intro g8 w8 HGg8 HEg8 H; simp only [Act.put, List.setIfInBounds_toArray, List.set_cons_zero, List.set_cons_succ]) | ((with_reducible show wpList _ _ _ (Oper.mk (some 9) (Op.buildSlice 29 _ _) _ _ _ _ :: _) _ _); (refine L_bs H (by kernel_rfl) 29 4 _ rfl (#[(0, .int .u8 0), (1, .int .u8 4), (2, .int .u8 8), (3, .int .u8 12)]) (by kernel_rfl) 5 ((subs5 2).map (fun z => Value.int .u8 z)) (fun _ => by kernel_rfl) ?_); clear H; intro g9 w9 HGg9 HEg9 H; simp only [Act.put, List.setIfInBounds_toArray, List.set_cons_zero, List.set_cons_succ]) | ((with_reducible show wpList _ _ _ (Oper.mk (some 10) (Op.buildSlice 171 _ _) _ _ _ _ :: _) _ _); (refine L_bs H (by kernel_rfl) 171 3 _ rfl (#[(0, .slice (some ⟨g7, 0, none⟩) 11 11), (1, .slice (some ⟨g8, 0, none⟩) 6 6), (2, .slice (some ⟨g9, 0, none⟩) 4 4)]) (by kernel_rfl) 29 (tab5 g7 g8 g9) (fun _ => by kernel_rfl) ?_); clear H; intro g10 w10 HGg10 HEg10 H; simp only [Act.put, List.setIfInBounds_toArray, List.set_cons_zero, List.set_cons_succ]))
  go_loopw [6] (fun i wr => ∃ j : Nat, j ≤ 11 ∧ i = .int .i64 j ∧ Kp (s ∉ (subs5 0).take j) ∧ Kp (Loc w wr [(g10, _, tab5 g7 g8 g9), (g9, _, (subs5 2).map (fun z => Value.int .u8 z)), (g8, _, (subs5 1).map (fun z => Value.int .u8 z)), (g7, _, (subs5 0).map (fun z => Value.int .u8 z))])) (fun i _ => 11 - (intOf i).toNat)
  case atStart => exact ⟨0, by omega, rfl, kp (by simp), H⟩
  case round =>
    obtain ⟨j, hj, rfl, HT, H⟩ := hrel
    have hcs := run_load_cell H.out 0 rfl 0 _ rfl
    by_cases hlt : j < 11
    · obtain ⟨x, hx⟩ : ∃ x, (subs5 0)[j]? = some x := ⟨(subs5 0)[j]'(by show j < 11; exact hlt), by simp⟩
      have hcx := run_load_cell H.out 3 rfl j (.int .u8 x) (by rw [List.getElem?_map, hx]; rfl)
      have HX := kp hx
      clear hx
      by_cases he : x = s
      · have HK := kp (show known5F 0 s = true by rw [known5F, decide_eq_true_eq, ← he]; exact List.mem_of_getElem? HX.out)
        have hb : (x == s) = true := by simp [he]
        clear he
        go_wp2_with fail
        go_ret
        exact ⟨congrArg (fun z => Ending.returned (.bool z)) HK.out.symm, H.out.1⟩
      · have HK := kp (known5_step _ s j x HX.out HT.out he)
        have hb : (x == s) = false := by simp [he]
        clear he
        go_wp2_with fail
        go_roundw
        case rel => exact ⟨j + 1, by omega, by go_num, HK, H⟩
        case measure => simp [intOf]; omega
    · obtain rfl : j = 11 := by omega
      have HK := kp (show known5F 0 s = false by
        have h := HT.out
        rw [List.take_of_length_le (show (subs5 0).length ≤ 11 from Nat.le_refl _)] at h
        simp [known5F, h])
      go_wp2_with fail
      go_ret
      exact ⟨congrArg (fun z => Ending.returned (.bool z)) HK.out.symm, H.out.1⟩
set_option maxHeartbeats 1600000 in
theorem known5_1 (s : Int) (w : World) :
    Calls Try.prog 83 #[.int .u8 1, .int .u8 s] w fun e w' => e = .returned (.bool (known5F 1 s)) ∧ Ext w w' := by
  have H := kp (Loc.start w)
  go_enter Try.func83, Try.ntmps83
  go_wp2_with (first | ((with_reducible show wpList _ _ _ (Oper.mk (some 7) (Op.buildSlice 29 _ _) _ _ _ _ :: _) _ _); (refine L_bs H (by kernel_rfl) 29 11 _ rfl (#[(0, .int .u8 0), (1, .int .u8 1), (2, .int .u8 2), (3, .int .u8 3), (4, .int .u8 4), (5, .int .u8 5), (6, .int .u8 8), (7, .int .u8 10), (8, .int .u8 11), (9, .int .u8 12), (10, .int .u8 13)]) (by kernel_rfl) 5 ((subs5 0).map (fun z => Value.int .u8 z)) (fun _ => by kernel_rfl) ?_); clear H; intro g7 w7 HGg7 HEg7 H; simp only [Act.put, List.setIfInBounds_toArray, List.set_cons_zero, List.set_cons_succ]) | ((with_reducible show wpList _ _ _ (Oper.mk (some 8) (Op.buildSlice 29 _ _) _ _ _ _ :: _) _ _); (refine L_bs H (by kernel_rfl) 29 6 _ rfl (#[(0, .int .u8 8), (1, .int .u8 9), (2, .int .u8 10), (3, .int .u8 11), (4, .int .u8 12), (5, .int .u8 13)]) (by kernel_rfl) 5 ((subs5 1).map (fun z => Value.int .u8 z)) (fun _ => by kernel_rfl) ?_); clear H; intro g8 w8 HGg8 HEg8 H; simp only [Act.put, List.setIfInBounds_toArray, List.set_cons_zero, List.set_cons_succ]) | ((with_reducible show wpList _ _ _ (Oper.mk (some 9) (Op.buildSlice 29 _ _) _ _ _ _ :: _) _ _); (refine L_bs H (by kernel_rfl) 29 4 _ rfl (#[(0, .int .u8 0), (1, .int .u8 4), (2, .int .u8 8), (3, .int .u8 12)]) (by kernel_rfl) 5 ((subs5 2).map (fun z => Value.int .u8 z)) (fun _ => by kernel_rfl) ?_); clear H; intro g9 w9 HGg9 HEg9 H; simp only [Act.put, List.setIfInBounds_toArray, List.set_cons_zero, List.set_cons_succ]) | ((with_reducible show wpList _ _ _ (Oper.mk (some 10) (Op.buildSlice 171 _ _) _ _ _ _ :: _) _ _); (refine L_bs H (by kernel_rfl) 171 3 _ rfl (#[(0, .slice (some ⟨g7, 0, none⟩) 11 11), (1, .slice (some ⟨g8, 0, none⟩) 6 6), (2, .slice (some ⟨g9, 0, none⟩) 4 4)]) (by kernel_rfl) 29 (tab5 g7 g8 g9) (fun _ => by kernel_rfl) ?_); clear H; intro g10 w10 HGg10 HEg10 H; simp only [Act.put, List.setIfInBounds_toArray, List.set_cons_zero, List.set_cons_succ]))
  go_loopw [6] (fun i wr => ∃ j : Nat, j ≤ 6 ∧ i = .int .i64 j ∧ Kp (s ∉ (subs5 1).take j) ∧ Kp (Loc w wr [(g10, _, tab5 g7 g8 g9), (g9, _, (subs5 2).map (fun z => Value.int .u8 z)), (g8, _, (subs5 1).map (fun z => Value.int .u8 z)), (g7, _, (subs5 0).map (fun z => Value.int .u8 z))])) (fun i _ => 6 - (intOf i).toNat)
  case atStart => exact ⟨0, by omega, rfl, kp (by simp), H⟩
  case round =>
    obtain ⟨j, hj, rfl, HT, H⟩ := hrel
    have hcs := run_load_cell H.out 0 rfl 1 _ rfl
    by_cases hlt : j < 6
    · obtain ⟨x, hx⟩ : ∃ x, (subs5 1)[j]? = some x := ⟨(subs5 1)[j]'(by show j < 6; exact hlt), by simp⟩
      have hcx := run_load_cell H.out 2 rfl j (.int .u8 x) (by rw [List.getElem?_map, hx]; rfl)
      have HX := kp hx
      clear hx
      by_cases he : x = s
      · have HK := kp (show known5F 1 s = true by rw [known5F, decide_eq_true_eq, ← he]; exact List.mem_of_getElem? HX.out)
        have hb : (x == s) = true := by simp [he]
        clear he
        go_wp2_with fail
        go_ret
        exact ⟨congrArg (fun z => Ending.returned (.bool z)) HK.out.symm, H.out.1⟩
      · have HK := kp (known5_step _ s j x HX.out HT.out he)
        have hb : (x == s) = false := by simp [he]
        clear he
        go_wp2_with fail
        go_roundw
        case rel => exact ⟨j + 1, by omega, by go_num, HK, H⟩
        case measure => simp [intOf]; omega
    · obtain rfl : j = 6 := by omega
      have HK := kp (show known5F 1 s = false by
        have h := HT.out
        rw [List.take_of_length_le (show (subs5 1).length ≤ 6 from Nat.le_refl _)] at h
        simp [known5F, h])
      go_wp2_with fail
      go_ret
      exact ⟨congrArg (fun z => Ending.returned (.bool z)) HK.out.symm, H.out.1⟩
set_option maxHeartbeats 1600000 in
theorem known5_2 (s : Int) (w : World) :
    Calls Try.prog 83 #[.int .u8 2, .int .u8 s] w fun e w' => e = .returned (.bool (known5F 2 s)) ∧ Ext w w' := by
  have H := kp (Loc.start w)
  go_enter Try.func83, Try.ntmps83
  go_wp2_with (first | ((with_reducible show wpList _ _ _ (Oper.mk (some 7) (Op.buildSlice 29 _ _) _ _ _ _ :: _) _ _); (refine L_bs H (by kernel_rfl) 29 11 _ rfl (#[(0, .int .u8 0), (1, .int .u8 1), (2, .int .u8 2), (3, .int .u8 3), (4, .int .u8 4), (5, .int .u8 5), (6, .int .u8 8), (7, .int .u8 10), (8, .int .u8 11), (9, .int .u8 12), (10, .int .u8 13)]) (by kernel_rfl) 5 ((subs5 0).map (fun z => Value.int .u8 z)) (fun _ => by kernel_rfl) ?_); clear H; intro g7 w7 HGg7 HEg7 H; simp only [Act.put, List.setIfInBounds_toArray, List.set_cons_zero, List.set_cons_succ]) | ((with_reducible show wpList _ _ _ (Oper.mk (some 8) (Op.buildSlice 29 _ _) _ _ _ _ :: _) _ _); (refine L_bs H (by kernel_rfl) 29 6 _ rfl (#[(0, .int .u8 8), (1, .int .u8 9), (2, .int .u8 10), (3, .int .u8 11), (4, .int .u8 12), (5, .int .u8 13)]) (by kernel_rfl) 5 ((subs5 1).map (fun z => Value.int .u8 z)) (fun _ => by kernel_rfl) ?_); clear H; intro g8 w8 HGg8 HEg8 H; simp only [Act.put, List.setIfInBounds_toArray, List.set_cons_zero, List.set_cons_succ]) | ((with_reducible show wpList _ _ _ (Oper.mk (some 9) (Op.buildSlice 29 _ _) _ _ _ _ :: _) _ _); (refine L_bs H (by kernel_rfl) 29 4 _ rfl (#[(0, .int .u8 0), (1, .int .u8 4), (2, .int .u8 8), (3, .int .u8 12)]) (by kernel_rfl) 5 ((subs5 2).map (fun z => Value.int .u8 z)) (fun _ => by kernel_rfl) ?_); clear H; intro g9 w9 HGg9 HEg9 H; simp only [Act.put, List.setIfInBounds_toArray, List.set_cons_zero, List.set_cons_succ]) | ((with_reducible show wpList _ _ _ (Oper.mk (some 10) (Op.buildSlice 171 _ _) _ _ _ _ :: _) _ _); (refine L_bs H (by kernel_rfl) 171 3 _ rfl (#[(0, .slice (some ⟨g7, 0, none⟩) 11 11), (1, .slice (some ⟨g8, 0, none⟩) 6 6), (2, .slice (some ⟨g9, 0, none⟩) 4 4)]) (by kernel_rfl) 29 (tab5 g7 g8 g9) (fun _ => by kernel_rfl) ?_); clear H; intro g10 w10 HGg10 HEg10 H; simp only [Act.put, List.setIfInBounds_toArray, List.set_cons_zero, List.set_cons_succ]))
  go_loopw [6] (fun i wr => ∃ j : Nat, j ≤ 4 ∧ i = .int .i64 j ∧ Kp (s ∉ (subs5 2).take j) ∧ Kp (Loc w wr [(g10, _, tab5 g7 g8 g9), (g9, _, (subs5 2).map (fun z => Value.int .u8 z)), (g8, _, (subs5 1).map (fun z => Value.int .u8 z)), (g7, _, (subs5 0).map (fun z => Value.int .u8 z))])) (fun i _ => 4 - (intOf i).toNat)
  case atStart => exact ⟨0, by omega, rfl, kp (by simp), H⟩
  case round =>
    obtain ⟨j, hj, rfl, HT, H⟩ := hrel
    have hcs := run_load_cell H.out 0 rfl 2 _ rfl
    by_cases hlt : j < 4
    · obtain ⟨x, hx⟩ : ∃ x, (subs5 2)[j]? = some x := ⟨(subs5 2)[j]'(by show j < 4; exact hlt), by simp⟩
      have hcx := run_load_cell H.out 1 rfl j (.int .u8 x) (by rw [List.getElem?_map, hx]; rfl)
      have HX := kp hx
      clear hx
      by_cases he : x = s
      · have HK := kp (show known5F 2 s = true by rw [known5F, decide_eq_true_eq, ← he]; exact List.mem_of_getElem? HX.out)
        have hb : (x == s) = true := by simp [he]
        clear he
        go_wp2_with fail
        go_ret
        exact ⟨congrArg (fun z => Ending.returned (.bool z)) HK.out.symm, H.out.1⟩
      · have HK := kp (known5_step _ s j x HX.out HT.out he)
        have hb : (x == s) = false := by simp [he]
        clear he
        go_wp2_with fail
        go_roundw
        case rel => exact ⟨j + 1, by omega, by go_num, HK, H⟩
        case measure => simp [intOf]; omega
    · obtain rfl : j = 4 := by omega
      have HK := kp (show known5F 2 s = false by
        have h := HT.out
        rw [List.take_of_length_le (show (subs5 2).length ≤ 4 from Nat.le_refl _)] at h
        simp [known5F, h])
      go_wp2_with fail
      go_ret
      exact ⟨congrArg (fun z => Ending.returned (.bool z)) HK.out.symm, H.out.1⟩
theorem known5_high (k s : Int) (hk : 2 < k) (w : World) :
    Calls Try.prog 83 #[.int .u8 k, .int .u8 s] w fun e w' => e = .returned (.bool (known5F k s)) ∧ Ext w w' := by
  have H := kp (Loc.start w)
  have HK := kp (show known5F k s = false by simp [known5F, subs5, show k ≠ 0 by omega, show k ≠ 1 by omega, show k ≠ 2 by omega])
  go_enter Try.func83, Try.ntmps83
  go_wp2_with (first | ((with_reducible show wpList _ _ _ (Oper.mk (some 7) (Op.buildSlice 29 _ _) _ _ _ _ :: _) _ _); (refine L_bs H (by kernel_rfl) 29 11 _ rfl (#[(0, .int .u8 0), (1, .int .u8 1), (2, .int .u8 2), (3, .int .u8 3), (4, .int .u8 4), (5, .int .u8 5), (6, .int .u8 8), (7, .int .u8 10), (8, .int .u8 11), (9, .int .u8 12), (10, .int .u8 13)]) (by kernel_rfl) 5 ((subs5 0).map (fun z => Value.int .u8 z)) (fun _ => by kernel_rfl) ?_); clear H; intro g7 w7 HGg7 HEg7 H; simp only [Act.put, List.setIfInBounds_toArray, List.set_cons_zero, List.set_cons_succ]) | ((with_reducible show wpList _ _ _ (Oper.mk (some 8) (Op.buildSlice 29 _ _) _ _ _ _ :: _) _ _); (refine L_bs H (by kernel_rfl) 29 6 _ rfl (#[(0, .int .u8 8), (1, .int .u8 9), (2, .int .u8 10), (3, .int .u8 11), (4, .int .u8 12), (5, .int .u8 13)]) (by kernel_rfl) 5 ((subs5 1).map (fun z => Value.int .u8 z)) (fun _ => by kernel_rfl) ?_); clear H; intro g8 w8 HGg8 HEg8 H; simp only [Act.put, List.setIfInBounds_toArray, List.set_cons_zero, List.set_cons_succ]) | ((with_reducible show wpList _ _ _ (Oper.mk (some 9) (Op.buildSlice 29 _ _) _ _ _ _ :: _) _ _); (refine L_bs H (by kernel_rfl) 29 4 _ rfl (#[(0, .int .u8 0), (1, .int .u8 4), (2, .int .u8 8), (3, .int .u8 12)]) (by kernel_rfl) 5 ((subs5 2).map (fun z => Value.int .u8 z)) (fun _ => by kernel_rfl) ?_); clear H; intro g9 w9 HGg9 HEg9 H; simp only [Act.put, List.setIfInBounds_toArray, List.set_cons_zero, List.set_cons_succ]) | ((with_reducible show wpList _ _ _ (Oper.mk (some 10) (Op.buildSlice 171 _ _) _ _ _ _ :: _) _ _); (refine L_bs H (by kernel_rfl) 171 3 _ rfl (#[(0, .slice (some ⟨g7, 0, none⟩) 11 11), (1, .slice (some ⟨g8, 0, none⟩) 6 6), (2, .slice (some ⟨g9, 0, none⟩) 4 4)]) (by kernel_rfl) 29 (tab5 g7 g8 g9) (fun _ => by kernel_rfl) ?_); clear H; intro g10 w10 HGg10 HEg10 H; simp only [Act.put, List.setIfInBounds_toArray, List.set_cons_zero, List.set_cons_succ]))
  all_goals (go_ret; exact ⟨congrArg (fun z => Ending.returned (.bool z)) HK.out.symm, H.out.1⟩)
theorem known5_any (k s : Int) (h0 : 0 ≤ k) (w : World) :
    Calls Try.prog 83 #[.int .u8 k, .int .u8 s] w fun e w' => e = .returned (.bool (known5F k s)) ∧ Ext w w' := by
  by_cases c0 : k = 0
  · subst c0; exact known5_0 s w
  by_cases c1 : k = 1
  · subst c1; exact known5_1 s w
  by_cases c2 : k = 2
  · subst c2; exact known5_2 s w
  exact known5_high k s (by omega) w
end Go.Proofs.Ytfecopfofkdnpaa
