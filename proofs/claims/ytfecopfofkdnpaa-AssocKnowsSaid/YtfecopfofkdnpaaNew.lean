/- New of both. -/
import Derived.Test.YtfecopfofkdnpaaVal30
import Derived.Test.YtfecopfofkdnpaaSame
namespace Go.Proofs.Ytfecopfofkdnpaa
open Go.RowKit
def nilV : Value := .slice none 0 0
def as0 : As := ⟨zero6, 0, 0, 0⟩
def newA (a : As) : As := if validA a [] then a else as0
def newE (a : As) : Int := if validA a [] then 0 else 2
theorem nil_ok : ∀ x ∈ ([] : List En), x.addr.length = 6 := fun x hx => by cases hx
theorem newA_len {a : As} (h : a.own.length = 6) : (newA a).own.length = 6 := by unfold newA; split; exact h; rfl
theorem new_good {a : As} (h : validA a [] = true) : newA a = a ∧ newE a = 0 := by simp [newA, newE, h]
theorem new_bad {a : As} (h : validA a [] = false) : newA a = as0 ∧ newE a = 2 := by simp [newA, newE, h]
theorem one_cellsA (a : As) : (cellsA a nilV).toArray.all (·.oneCell') = true := by
  simp [cellsA, nilV, Value.oneCell', List.all_map]
theorem build_as (a : As) (ha : a.own.length = 6) (w : World) : (Instr.build 26 #[(0, .agg (a.own.map V8).toArray), (1, .int .i64 a.caps), (2, .int .i64 a.limit), (3, .int .i64 a.idle)]).run Try.prog w = .ok (.agg (cellsA a nilV).toArray) w := by
  obtain ⟨own, ca, li, id⟩ := a
  dsimp only at ha
  obtain ⟨_, _, _, _, _, _, rfl⟩ := six ha
  kernel_rfl
set_option maxHeartbeats 1600000 in
theorem new_any (a : As) (ha : a.own.length = 6) (w : World) :
    Calls Try.prog 10 #[.agg (a.own.map V8).toArray, .int .i64 a.caps, .int .i64 a.limit, .int .i64 a.idle] w fun e w' => e = .returned (.tuple #[.agg (cellsA (newA a) nilV).toArray, .int .i64 (newE a)]) ∧ Ext w w' := by
  have H := kp (Loc.start w)
  have HCH := kp (fun w' => check_any a ha nilV [] nil_ok (by simp) w' (SlT.nil w'))
  have HZ8 := kp (sizeA8a ha)
  have HZA := kp (sizeAs (a := a) nilV ha)
  have HZ0 := kp (sizeAs (a := as0) nilV rfl)
  have HLE := kp (show (cellsA as0 nilV).length = (cellsA a nilV).length by rw [cellsA_len _ ha]; rfl)
  have HOA := kp one_cellsA
  have HBD := kp (build_as a ha)
  clear ha
  go_enter Try.func10, Try.ntmps10
  generalize h2 : ((Code.region 2 _ _ : Code).seq _) = C2
  go_wp2_with (first | ((with_reducible show wpList _ _ _ (Oper.mk (some 4) (Op.box 23 _) _ _ _ _ :: _) _ _); (with_reducible refine L_box H rfl 23 _ rfl (a.own.map V8) rfl ?_); clear H; intro g4 w4 HGg4 HEg4 H; simp only [Act.put, List.setIfInBounds_toArray, List.set_cons_zero, List.set_cons_succ]) | ((with_reducible show wpList _ _ _ (Oper.mk (some 8) (Op.alloc 26) _ _ _ _ :: _) _ _); (with_reducible refine L_alloc H rfl 26 rfl (cellsA as0 nilV) (fun _ _ => by kernel_rfl) ?_); clear H; intro g8 w8 HGg8 HEg8 H; simp only [Act.put, List.setIfInBounds_toArray, List.set_cons_zero, List.set_cons_succ]) | ((with_reducible show wpList _ _ _ (Oper.mk _ (Op.load 23 _) _ _ _ _ :: _) _ _); (refine wpList_load_rowG (by kernel_rfl) 23 _ rfl (g4) rfl 23 (a.own.map V8).toArray (0, 0) _ (H.out.at 1 rfl) Try.underlying23 rfl (HZ8.out) ?_); simp only [Act.put, List.setIfInBounds_toArray, List.set_cons_zero, List.set_cons_succ]) | ((with_reducible show wpList _ _ _ (Oper.mk (some 15) (Op.build 26 _) _ _ _ _ :: _) _ _); (refine L_bd (by kernel_rfl) 26 _ rfl (#[(0, .agg (a.own.map V8).toArray), (1, .int .i64 a.caps), (2, .int .i64 a.limit), (3, .int .i64 a.idle)]) (by kernel_rfl) (cellsA a nilV) (fun w => HBD.out w) ?_); simp only [Act.put, List.setIfInBounds_toArray, List.set_cons_zero, List.set_cons_succ]) | ((with_reducible show wpList _ _ _ (Oper.mk (some 10) (Op.alloc 26) _ _ _ _ :: _) _ _); (with_reducible refine L_alloc H rfl 26 rfl (cellsA as0 nilV) (fun _ _ => by kernel_rfl) ?_); clear H; intro g10 w10 HGg10 HEg10 H; simp only [Act.put, List.setIfInBounds_toArray, List.set_cons_zero, List.set_cons_succ]) | ((with_reducible show wpList _ _ _ (Oper.mk none (Op.store 26 _ _) _ _ _ _ :: _) _ _); (first | (refine L_store H rfl rfl 26 _ _ rfl 0 rfl rfl (cellsA a nilV) rfl (HZA.out) (HLE.out) (HOA.out _) ?_; clear H; intro w11 HWw11 H; simp only [List.set_cons_zero] at H) | (refine L_store H rfl rfl 26 _ _ rfl 1 rfl rfl (cellsA a nilV) rfl (HZA.out) (HLE.out) (HOA.out _) ?_; clear H; intro w11 HWw11 H; simp only [List.set_cons_succ, List.set_cons_zero] at H) | (refine L_store H rfl rfl 26 _ _ rfl 2 rfl rfl (cellsA a nilV) rfl (HZA.out) (HLE.out) (HOA.out _) ?_; clear H; intro w11 HWw11 H; simp only [List.set_cons_succ, List.set_cons_zero] at H) | (refine L_store H rfl rfl 26 _ _ rfl 3 rfl rfl (cellsA a nilV) rfl (HZA.out) (HLE.out) (HOA.out _) ?_; clear H; intro w11 HWw11 H; simp only [List.set_cons_succ, List.set_cons_zero] at H) | (refine L_store H rfl rfl 26 _ _ rfl 4 rfl rfl (cellsA a nilV) rfl (HZA.out) (HLE.out) (HOA.out _) ?_; clear H; intro w11 HWw11 H; simp only [List.set_cons_succ, List.set_cons_zero] at H) | (refine L_store H rfl rfl 26 _ _ rfl 5 rfl rfl (cellsA a nilV) rfl (HZA.out) (HLE.out) (HOA.out _) ?_; clear H; intro w11 HWw11 H; simp only [List.set_cons_succ, List.set_cons_zero] at H))))
  subst h2
  cases hv : validA a [] with
  | false =>
    have HN := kp (new_bad hv)
    have HCC := kp (chk_bad hv)
    clear hv
    rw [HCC.out] at HCH
    go_wp2_with (first | ((with_reducible show wpList _ _ _ (Oper.mk _ (Op.load 26 _) _ _ _ _ :: _) _ _); (refine wpList_load_rowG (by kernel_rfl) 26 _ rfl (g10) rfl 26 (cellsA a nilV).toArray (0, 0) _ (H.out.at 0 rfl) Try.underlying26 rfl (HZA.out) ?_); simp only [Act.put, List.setIfInBounds_toArray, List.set_cons_zero, List.set_cons_succ]) | (go_at_call 20; refine (HCH.out _).mono ?_; rintro e wa ⟨rfl, hx⟩; have H2 := kp (H.out.ext hx); have HXC := kp hx; clear H hx; have H := H2; clear H2) | ((with_reducible show wpList _ _ _ (Oper.mk (some 19) (Op.build 26 _) _ _ _ _ :: _) _ _); (refine L_bd (by kernel_rfl) 26 _ rfl (#[]) (by kernel_rfl) (cellsA as0 nilV) (fun _ => by kernel_rfl) ?_); simp only [Act.put, List.setIfInBounds_toArray, List.set_cons_zero, List.set_cons_succ]) | ((with_reducible show wpList _ _ _ (Oper.mk none (Op.store 26 _ _) _ _ _ _ :: _) _ _); (first | (refine L_store H rfl rfl 26 _ _ rfl 0 rfl rfl (cellsA as0 nilV) rfl (HZ0.out) (rfl) (HOA.out _) ?_; clear H; intro w12 HWw12 H; simp only [List.set_cons_zero] at H) | (refine L_store H rfl rfl 26 _ _ rfl 1 rfl rfl (cellsA as0 nilV) rfl (HZ0.out) (rfl) (HOA.out _) ?_; clear H; intro w12 HWw12 H; simp only [List.set_cons_succ, List.set_cons_zero] at H) | (refine L_store H rfl rfl 26 _ _ rfl 2 rfl rfl (cellsA as0 nilV) rfl (HZ0.out) (rfl) (HOA.out _) ?_; clear H; intro w12 HWw12 H; simp only [List.set_cons_succ, List.set_cons_zero] at H) | (refine L_store H rfl rfl 26 _ _ rfl 3 rfl rfl (cellsA as0 nilV) rfl (HZ0.out) (rfl) (HOA.out _) ?_; clear H; intro w12 HWw12 H; simp only [List.set_cons_succ, List.set_cons_zero] at H) | (refine L_store H rfl rfl 26 _ _ rfl 4 rfl rfl (cellsA as0 nilV) rfl (HZ0.out) (rfl) (HOA.out _) ?_; clear H; intro w12 HWw12 H; simp only [List.set_cons_succ, List.set_cons_zero] at H) | (refine L_store H rfl rfl 26 _ _ rfl 5 rfl rfl (cellsA as0 nilV) rfl (HZ0.out) (rfl) (HOA.out _) ?_; clear H; intro w12 HWw12 H; simp only [List.set_cons_succ, List.set_cons_zero] at H))))
    rw [HN.out.1, HN.out.2]
    exact ret_row2 Try.results10 _ _ _ (0, 0) _ rfl _ rfl (H.out.at 1 rfl) Try.underlying26 rfl (HZ0.out) rfl ⟨rfl, H.out.1⟩
  | true =>
    have HN := kp (new_good hv)
    have HCC := kp (chk_good hv)
    clear hv
    rw [HCC.out] at HCH
    go_wp2_with (first | ((with_reducible show wpList _ _ _ (Oper.mk _ (Op.load 26 _) _ _ _ _ :: _) _ _); (refine wpList_load_rowG (by kernel_rfl) 26 _ rfl (g10) rfl 26 (cellsA a nilV).toArray (0, 0) _ (H.out.at 0 rfl) Try.underlying26 rfl (HZA.out) ?_); simp only [Act.put, List.setIfInBounds_toArray, List.set_cons_zero, List.set_cons_succ]) | (go_at_call 20; refine (HCH.out _).mono ?_; rintro e wa ⟨rfl, hx⟩; have H2 := kp (H.out.ext hx); have HXC := kp hx; clear H hx; have H := H2; clear H2) | ((with_reducible show wpList _ _ _ (Oper.mk none (Op.store 26 _ _) _ _ _ _ :: _) _ _); (first | (refine L_store H rfl rfl 26 _ _ rfl 0 rfl rfl (cellsA a nilV) rfl (HZA.out) (HLE.out) (HOA.out _) ?_; clear H; intro w12 HWw12 H; simp only [List.set_cons_zero] at H) | (refine L_store H rfl rfl 26 _ _ rfl 1 rfl rfl (cellsA a nilV) rfl (HZA.out) (HLE.out) (HOA.out _) ?_; clear H; intro w12 HWw12 H; simp only [List.set_cons_succ, List.set_cons_zero] at H) | (refine L_store H rfl rfl 26 _ _ rfl 2 rfl rfl (cellsA a nilV) rfl (HZA.out) (HLE.out) (HOA.out _) ?_; clear H; intro w12 HWw12 H; simp only [List.set_cons_succ, List.set_cons_zero] at H) | (refine L_store H rfl rfl 26 _ _ rfl 3 rfl rfl (cellsA a nilV) rfl (HZA.out) (HLE.out) (HOA.out _) ?_; clear H; intro w12 HWw12 H; simp only [List.set_cons_succ, List.set_cons_zero] at H) | (refine L_store H rfl rfl 26 _ _ rfl 4 rfl rfl (cellsA a nilV) rfl (HZA.out) (HLE.out) (HOA.out _) ?_; clear H; intro w12 HWw12 H; simp only [List.set_cons_succ, List.set_cons_zero] at H) | (refine L_store H rfl rfl 26 _ _ rfl 5 rfl rfl (cellsA a nilV) rfl (HZA.out) (HLE.out) (HOA.out _) ?_; clear H; intro w12 HWw12 H; simp only [List.set_cons_succ, List.set_cons_zero] at H))))
    rw [HN.out.1, HN.out.2]
    exact ret_row2 Try.results10 _ _ _ (0, 0) _ rfl _ rfl (H.out.at 1 rfl) Try.underlying26 rfl (HZA.out) rfl ⟨rfl, H.out.1⟩
set_option maxHeartbeats 1600000 in
theorem new30_any (a : As) (ha : a.own.length = 6) (w : World) :
    Calls Try.prog 11 #[.agg (a.own.map V8).toArray, .int .i64 a.caps, .int .i64 a.limit, .int .i64 a.idle] w fun e w' => e = .returned (.tuple #[.agg (cellsA (newA a) nilV).toArray, .int .i64 (newE a)]) ∧ Ext w w' := by
  have H := kp (Loc.start w)
  have HCH := kp (fun w' => valid30_any a ha nilV [] nil_ok (by simp) w' (SlT.nil w'))
  rw [valid30_eq] at HCH
  have HZ8 := kp (sizeA8a ha)
  have HZA := kp (sizeAs (a := a) nilV ha)
  have HZ0 := kp (sizeAs (a := as0) nilV rfl)
  have HLE := kp (show (cellsA as0 nilV).length = (cellsA a nilV).length by rw [cellsA_len _ ha]; rfl)
  have HOA := kp one_cellsA
  have HBD := kp (build_as a ha)
  clear ha
  go_enter Try.func11, Try.ntmps11
  generalize h2 : ((Code.region 2 _ _ : Code).seq _) = C2
  go_wp2_with (first | ((with_reducible show wpList _ _ _ (Oper.mk (some 4) (Op.box 23 _) _ _ _ _ :: _) _ _); (with_reducible refine L_box H rfl 23 _ rfl (a.own.map V8) rfl ?_); clear H; intro g4 w4 HGg4 HEg4 H; simp only [Act.put, List.setIfInBounds_toArray, List.set_cons_zero, List.set_cons_succ]) | ((with_reducible show wpList _ _ _ (Oper.mk (some 8) (Op.alloc 26) _ _ _ _ :: _) _ _); (with_reducible refine L_alloc H rfl 26 rfl (cellsA as0 nilV) (fun _ _ => by kernel_rfl) ?_); clear H; intro g8 w8 HGg8 HEg8 H; simp only [Act.put, List.setIfInBounds_toArray, List.set_cons_zero, List.set_cons_succ]) | ((with_reducible show wpList _ _ _ (Oper.mk _ (Op.load 23 _) _ _ _ _ :: _) _ _); (refine wpList_load_rowG (by kernel_rfl) 23 _ rfl (g4) rfl 23 (a.own.map V8).toArray (0, 0) _ (H.out.at 1 rfl) Try.underlying23 rfl (HZ8.out) ?_); simp only [Act.put, List.setIfInBounds_toArray, List.set_cons_zero, List.set_cons_succ]) | ((with_reducible show wpList _ _ _ (Oper.mk (some 15) (Op.build 26 _) _ _ _ _ :: _) _ _); (refine L_bd (by kernel_rfl) 26 _ rfl (#[(0, .agg (a.own.map V8).toArray), (1, .int .i64 a.caps), (2, .int .i64 a.limit), (3, .int .i64 a.idle)]) (by kernel_rfl) (cellsA a nilV) (fun w => HBD.out w) ?_); simp only [Act.put, List.setIfInBounds_toArray, List.set_cons_zero, List.set_cons_succ]) | ((with_reducible show wpList _ _ _ (Oper.mk (some 10) (Op.alloc 26) _ _ _ _ :: _) _ _); (with_reducible refine L_alloc H rfl 26 rfl (cellsA as0 nilV) (fun _ _ => by kernel_rfl) ?_); clear H; intro g10 w10 HGg10 HEg10 H; simp only [Act.put, List.setIfInBounds_toArray, List.set_cons_zero, List.set_cons_succ]) | ((with_reducible show wpList _ _ _ (Oper.mk none (Op.store 26 _ _) _ _ _ _ :: _) _ _); (first | (refine L_store H rfl rfl 26 _ _ rfl 0 rfl rfl (cellsA a nilV) rfl (HZA.out) (HLE.out) (HOA.out _) ?_; clear H; intro w11 HWw11 H; simp only [List.set_cons_zero] at H) | (refine L_store H rfl rfl 26 _ _ rfl 1 rfl rfl (cellsA a nilV) rfl (HZA.out) (HLE.out) (HOA.out _) ?_; clear H; intro w11 HWw11 H; simp only [List.set_cons_succ, List.set_cons_zero] at H) | (refine L_store H rfl rfl 26 _ _ rfl 2 rfl rfl (cellsA a nilV) rfl (HZA.out) (HLE.out) (HOA.out _) ?_; clear H; intro w11 HWw11 H; simp only [List.set_cons_succ, List.set_cons_zero] at H) | (refine L_store H rfl rfl 26 _ _ rfl 3 rfl rfl (cellsA a nilV) rfl (HZA.out) (HLE.out) (HOA.out _) ?_; clear H; intro w11 HWw11 H; simp only [List.set_cons_succ, List.set_cons_zero] at H) | (refine L_store H rfl rfl 26 _ _ rfl 4 rfl rfl (cellsA a nilV) rfl (HZA.out) (HLE.out) (HOA.out _) ?_; clear H; intro w11 HWw11 H; simp only [List.set_cons_succ, List.set_cons_zero] at H) | (refine L_store H rfl rfl 26 _ _ rfl 5 rfl rfl (cellsA a nilV) rfl (HZA.out) (HLE.out) (HOA.out _) ?_; clear H; intro w11 HWw11 H; simp only [List.set_cons_succ, List.set_cons_zero] at H))))
  subst h2
  cases hv : validA a [] with
  | false =>
    have HN := kp (new_bad hv)
    rw [hv] at HCH
    clear hv
    go_wp2_with (first | ((with_reducible show wpList _ _ _ (Oper.mk _ (Op.load 26 _) _ _ _ _ :: _) _ _); (refine wpList_load_rowG (by kernel_rfl) 26 _ rfl (g10) rfl 26 (cellsA a nilV).toArray (0, 0) _ (H.out.at 0 rfl) Try.underlying26 rfl (HZA.out) ?_); simp only [Act.put, List.setIfInBounds_toArray, List.set_cons_zero, List.set_cons_succ]) | (go_at_call 14; refine (HCH.out _).mono ?_; rintro e wa ⟨rfl, hx⟩; have H2 := kp (H.out.ext hx); have HXC := kp hx; clear H hx; have H := H2; clear H2) | ((with_reducible show wpList _ _ _ (Oper.mk (some 19) (Op.build 26 _) _ _ _ _ :: _) _ _); (refine L_bd (by kernel_rfl) 26 _ rfl (#[]) (by kernel_rfl) (cellsA as0 nilV) (fun _ => by kernel_rfl) ?_); simp only [Act.put, List.setIfInBounds_toArray, List.set_cons_zero, List.set_cons_succ]) | ((with_reducible show wpList _ _ _ (Oper.mk none (Op.store 26 _ _) _ _ _ _ :: _) _ _); (first | (refine L_store H rfl rfl 26 _ _ rfl 0 rfl rfl (cellsA as0 nilV) rfl (HZ0.out) (rfl) (HOA.out _) ?_; clear H; intro w12 HWw12 H; simp only [List.set_cons_zero] at H) | (refine L_store H rfl rfl 26 _ _ rfl 1 rfl rfl (cellsA as0 nilV) rfl (HZ0.out) (rfl) (HOA.out _) ?_; clear H; intro w12 HWw12 H; simp only [List.set_cons_succ, List.set_cons_zero] at H) | (refine L_store H rfl rfl 26 _ _ rfl 2 rfl rfl (cellsA as0 nilV) rfl (HZ0.out) (rfl) (HOA.out _) ?_; clear H; intro w12 HWw12 H; simp only [List.set_cons_succ, List.set_cons_zero] at H) | (refine L_store H rfl rfl 26 _ _ rfl 3 rfl rfl (cellsA as0 nilV) rfl (HZ0.out) (rfl) (HOA.out _) ?_; clear H; intro w12 HWw12 H; simp only [List.set_cons_succ, List.set_cons_zero] at H) | (refine L_store H rfl rfl 26 _ _ rfl 4 rfl rfl (cellsA as0 nilV) rfl (HZ0.out) (rfl) (HOA.out _) ?_; clear H; intro w12 HWw12 H; simp only [List.set_cons_succ, List.set_cons_zero] at H) | (refine L_store H rfl rfl 26 _ _ rfl 5 rfl rfl (cellsA as0 nilV) rfl (HZ0.out) (rfl) (HOA.out _) ?_; clear H; intro w12 HWw12 H; simp only [List.set_cons_succ, List.set_cons_zero] at H))))
    rw [HN.out.1, HN.out.2]
    exact ret_row2 Try.results11 _ _ _ (0, 0) _ rfl _ rfl (H.out.at 1 rfl) Try.underlying26 rfl (HZ0.out) rfl ⟨rfl, H.out.1⟩
  | true =>
    have HN := kp (new_good hv)
    rw [hv] at HCH
    clear hv
    go_wp2_with (first | ((with_reducible show wpList _ _ _ (Oper.mk _ (Op.load 26 _) _ _ _ _ :: _) _ _); (refine wpList_load_rowG (by kernel_rfl) 26 _ rfl (g10) rfl 26 (cellsA a nilV).toArray (0, 0) _ (H.out.at 0 rfl) Try.underlying26 rfl (HZA.out) ?_); simp only [Act.put, List.setIfInBounds_toArray, List.set_cons_zero, List.set_cons_succ]) | (go_at_call 14; refine (HCH.out _).mono ?_; rintro e wa ⟨rfl, hx⟩; have H2 := kp (H.out.ext hx); have HXC := kp hx; clear H hx; have H := H2; clear H2) | ((with_reducible show wpList _ _ _ (Oper.mk none (Op.store 26 _ _) _ _ _ _ :: _) _ _); (first | (refine L_store H rfl rfl 26 _ _ rfl 0 rfl rfl (cellsA a nilV) rfl (HZA.out) (HLE.out) (HOA.out _) ?_; clear H; intro w12 HWw12 H; simp only [List.set_cons_zero] at H) | (refine L_store H rfl rfl 26 _ _ rfl 1 rfl rfl (cellsA a nilV) rfl (HZA.out) (HLE.out) (HOA.out _) ?_; clear H; intro w12 HWw12 H; simp only [List.set_cons_succ, List.set_cons_zero] at H) | (refine L_store H rfl rfl 26 _ _ rfl 2 rfl rfl (cellsA a nilV) rfl (HZA.out) (HLE.out) (HOA.out _) ?_; clear H; intro w12 HWw12 H; simp only [List.set_cons_succ, List.set_cons_zero] at H) | (refine L_store H rfl rfl 26 _ _ rfl 3 rfl rfl (cellsA a nilV) rfl (HZA.out) (HLE.out) (HOA.out _) ?_; clear H; intro w12 HWw12 H; simp only [List.set_cons_succ, List.set_cons_zero] at H) | (refine L_store H rfl rfl 26 _ _ rfl 4 rfl rfl (cellsA a nilV) rfl (HZA.out) (HLE.out) (HOA.out _) ?_; clear H; intro w12 HWw12 H; simp only [List.set_cons_succ, List.set_cons_zero] at H) | (refine L_store H rfl rfl 26 _ _ rfl 5 rfl rfl (cellsA a nilV) rfl (HZA.out) (HLE.out) (HOA.out _) ?_; clear H; intro w12 HWw12 H; simp only [List.set_cons_succ, List.set_cons_zero] at H))))
    rw [HN.out.1, HN.out.2]
    exact ret_row2 Try.results11 _ _ _ (0, 0) _ rfl _ rfl (H.out.at 1 rfl) Try.underlying26 rfl (HZA.out) rfl ⟨rfl, H.out.1⟩
end Go.Proofs.Ytfecopfofkdnpaa
