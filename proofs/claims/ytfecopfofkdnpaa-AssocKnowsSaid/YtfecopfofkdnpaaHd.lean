/- Headers of frames: their cells, and the small functions on them. -/
import Derived.Test.YtfecopfofkdnpaaFree2
import Derived.Test.YtfecopfofkdnpaaCut
import Derived.Test.YtfecopfofkdnpaaSlT
import Derived.Test.YtfecopfofkdnpaaCom
namespace Go.Proofs.Ytfecopfofkdnpaa
open Go.RowKit
structure Hd where
  kind : Int
  sub : Int
  toDs : Bool
  fromDs : Bool
  more : Bool
  retry : Bool
  sleep : Bool
  mdata : Bool
  prot : Bool
  dur : Int
  a1 : List (BitVec 8)
  a2 : List (BitVec 8)
  a3 : List (BitVec 8)
  a4 : List (BitVec 8)
  seq : Int
  frag : Int
  tid : Int
  ack : Int
  amsdu : Bool
  eosp : Bool
deriving DecidableEq
structure Hd.Ok (h : Hd) : Prop where
  k0 : 0 ≤ h.kind
  k1 : h.kind < 256
  s0 : 0 ≤ h.sub
  s1 : h.sub < 256
  c0 : 0 ≤ h.ack
  c1 : h.ack < 256
  l1 : h.a1.length = 6
  l2 : h.a2.length = 6
  l3 : h.a3.length = 6
  l4 : h.a4.length = 6
def cellsH (h : Hd) : List Value :=
  [.int .u8 h.kind, .int .u8 h.sub, .bool h.toDs, .bool h.fromDs, .bool h.more, .bool h.retry, .bool h.sleep, .bool h.mdata, .bool h.prot, .int .i64 h.dur] ++ (h.a1.map V8 ++ (h.a2.map V8 ++ (h.a3.map V8 ++ (h.a4.map V8 ++ [.int .i64 h.seq, .int .i64 h.frag, .int .i64 h.tid, .int .u8 h.ack, .bool h.amsdu, .bool h.eosp]))))
theorem six {α : Type} {l : List α} (h : l.length = 6) : ∃ a b c d e f, l = [a, b, c, d, e, f] := by
  match l, h with
  | [a, b, c, d, e, f], _ => exact ⟨a, b, c, d, e, f, rfl⟩
def b8 (n m : Int) : Int := bits .and .u8 n m
def knownF (k s : Int) : (Bool × Bool × Bool) × Bool :=
  if k = 0 then ((true, true, false), decide (s ≤ 5) || s == 8 || (decide (10 ≤ s) && decide (s ≤ 13)))
  else if k = 1 then ((false, false, false), decide (8 ≤ s) && decide (s ≤ 13))
  else if k = 2 then ((true, true, bits .and .u8 s 8 != 0), bits .and .u8 s 3 == 0 && decide (s ≤ 12))
  else ((false, false, false), false)
def cellsFm (f : Bool × Bool × Bool) : List Value := [.bool f.1, .bool f.2.1, .bool f.2.2]
theorem known_any (k s : Int) (w : World) :
    Calls Try.prog 64 #[.int .u8 k, .int .u8 s] w fun e w' => e = .returned (.tuple #[.agg (cellsFm (knownF k s).1).toArray, .bool (knownF k s).2]) ∧ Ext w w' := by
  have H := kp (Loc.start w)
  have HZ := kp (fun f : Bool × Bool × Bool => show (Try.prog.info? 117).map (·.size) = some (cellsFm f).toArray.size by kernel_rfl)
  have HO := kp (fun f : Bool × Bool × Bool => show (cellsFm f).toArray.all (·.oneCell') = true by simp [cellsFm, Value.oneCell'])
  by_cases h0 : k = 0
  · subst h0
    go_enter Try.func64, Try.ntmps64
    go_wp2_with (first | ((with_reducible show wpList _ _ _ (Oper.mk (some 4) (Op.alloc 117) _ _ _ _ :: _) _ _); (with_reducible refine L_alloc H rfl 117 rfl (cellsFm (false, false, false)) (fun _ _ => by kernel_rfl) ?_); clear H; intro g4 w4 HGg4 HEg4 H; simp only [Act.put, List.setIfInBounds_toArray, List.set_cons_zero, List.set_cons_succ]) | ((with_reducible show wpList _ _ _ (Oper.mk none (Op.store 117 _ _) _ _ _ _ :: _) _ _); (first | (refine L_store H rfl rfl 117 _ _ rfl 0 rfl rfl (cellsFm (true, true, false)) rfl (HZ.out _) (rfl) (HO.out _) ?_; clear H; intro wz HWwz H; simp only [List.set_cons_zero] at H) | (refine L_store H rfl rfl 117 _ _ rfl 1 rfl rfl (cellsFm (true, true, false)) rfl (HZ.out _) (rfl) (HO.out _) ?_; clear H; intro wz HWwz H; simp only [List.set_cons_succ, List.set_cons_zero] at H) | (refine L_store H rfl rfl 117 _ _ rfl 2 rfl rfl (cellsFm (true, true, false)) rfl (HZ.out _) (rfl) (HO.out _) ?_; clear H; intro wz HWwz H; simp only [List.set_cons_succ, List.set_cons_zero] at H) | (refine L_store H rfl rfl 117 _ _ rfl 3 rfl rfl (cellsFm (true, true, false)) rfl (HZ.out _) (rfl) (HO.out _) ?_; clear H; intro wz HWwz H; simp only [List.set_cons_succ, List.set_cons_zero] at H) | (refine L_store H rfl rfl 117 _ _ rfl 4 rfl rfl (cellsFm (true, true, false)) rfl (HZ.out _) (rfl) (HO.out _) ?_; clear H; intro wz HWwz H; simp only [List.set_cons_succ, List.set_cons_zero] at H) | (refine L_store H rfl rfl 117 _ _ rfl 5 rfl rfl (cellsFm (true, true, false)) rfl (HZ.out _) (rfl) (HO.out _) ?_; clear H; intro wz HWwz H; simp only [List.set_cons_succ, List.set_cons_zero] at H))))
    all_goals exact ret_row2 Try.results64 _ _ _ (0, 0) _ rfl _ rfl (H.out.at 0 rfl) Try.underlying117 rfl (HZ.out _) rfl ⟨by simp [knownF, *] <;> omega, H.out.1⟩
  by_cases h1 : k = 1
  · subst h1
    go_enter Try.func64, Try.ntmps64
    go_wp2_with (first | ((with_reducible show wpList _ _ _ (Oper.mk (some 4) (Op.alloc 117) _ _ _ _ :: _) _ _); (with_reducible refine L_alloc H rfl 117 rfl (cellsFm (false, false, false)) (fun _ _ => by kernel_rfl) ?_); clear H; intro g4 w4 HGg4 HEg4 H; simp only [Act.put, List.setIfInBounds_toArray, List.set_cons_zero, List.set_cons_succ]) | ((with_reducible show wpList _ _ _ (Oper.mk none (Op.store 117 _ _) _ _ _ _ :: _) _ _); (first | (refine L_store H rfl rfl 117 _ _ rfl 0 rfl rfl (cellsFm (false, false, false)) rfl (HZ.out _) (rfl) (HO.out _) ?_; clear H; intro wz HWwz H; simp only [List.set_cons_zero] at H) | (refine L_store H rfl rfl 117 _ _ rfl 1 rfl rfl (cellsFm (false, false, false)) rfl (HZ.out _) (rfl) (HO.out _) ?_; clear H; intro wz HWwz H; simp only [List.set_cons_succ, List.set_cons_zero] at H) | (refine L_store H rfl rfl 117 _ _ rfl 2 rfl rfl (cellsFm (false, false, false)) rfl (HZ.out _) (rfl) (HO.out _) ?_; clear H; intro wz HWwz H; simp only [List.set_cons_succ, List.set_cons_zero] at H) | (refine L_store H rfl rfl 117 _ _ rfl 3 rfl rfl (cellsFm (false, false, false)) rfl (HZ.out _) (rfl) (HO.out _) ?_; clear H; intro wz HWwz H; simp only [List.set_cons_succ, List.set_cons_zero] at H) | (refine L_store H rfl rfl 117 _ _ rfl 4 rfl rfl (cellsFm (false, false, false)) rfl (HZ.out _) (rfl) (HO.out _) ?_; clear H; intro wz HWwz H; simp only [List.set_cons_succ, List.set_cons_zero] at H) | (refine L_store H rfl rfl 117 _ _ rfl 5 rfl rfl (cellsFm (false, false, false)) rfl (HZ.out _) (rfl) (HO.out _) ?_; clear H; intro wz HWwz H; simp only [List.set_cons_succ, List.set_cons_zero] at H))))
    all_goals exact ret_row2 Try.results64 _ _ _ (0, 0) _ rfl _ rfl (H.out.at 0 rfl) Try.underlying117 rfl (HZ.out _) rfl ⟨by simp [knownF, *] <;> omega, H.out.1⟩
  by_cases h2 : k = 2
  · subst h2
    go_enter Try.func64, Try.ntmps64
    go_wp2_with (first | ((with_reducible show wpList _ _ _ (Oper.mk (some 4) (Op.alloc 117) _ _ _ _ :: _) _ _); (with_reducible refine L_alloc H rfl 117 rfl (cellsFm (false, false, false)) (fun _ _ => by kernel_rfl) ?_); clear H; intro g4 w4 HGg4 HEg4 H; simp only [Act.put, List.setIfInBounds_toArray, List.set_cons_zero, List.set_cons_succ]) | ((with_reducible show wpList _ _ _ (Oper.mk none (Op.store 117 _ _) _ _ _ _ :: _) _ _); (first | (refine L_store H rfl rfl 117 _ _ rfl 0 rfl rfl (cellsFm (true, true, bits .and .u8 s 8 != 0)) rfl (HZ.out _) (rfl) (HO.out _) ?_; clear H; intro wz HWwz H; simp only [List.set_cons_zero] at H) | (refine L_store H rfl rfl 117 _ _ rfl 1 rfl rfl (cellsFm (true, true, bits .and .u8 s 8 != 0)) rfl (HZ.out _) (rfl) (HO.out _) ?_; clear H; intro wz HWwz H; simp only [List.set_cons_succ, List.set_cons_zero] at H) | (refine L_store H rfl rfl 117 _ _ rfl 2 rfl rfl (cellsFm (true, true, bits .and .u8 s 8 != 0)) rfl (HZ.out _) (rfl) (HO.out _) ?_; clear H; intro wz HWwz H; simp only [List.set_cons_succ, List.set_cons_zero] at H) | (refine L_store H rfl rfl 117 _ _ rfl 3 rfl rfl (cellsFm (true, true, bits .and .u8 s 8 != 0)) rfl (HZ.out _) (rfl) (HO.out _) ?_; clear H; intro wz HWwz H; simp only [List.set_cons_succ, List.set_cons_zero] at H) | (refine L_store H rfl rfl 117 _ _ rfl 4 rfl rfl (cellsFm (true, true, bits .and .u8 s 8 != 0)) rfl (HZ.out _) (rfl) (HO.out _) ?_; clear H; intro wz HWwz H; simp only [List.set_cons_succ, List.set_cons_zero] at H) | (refine L_store H rfl rfl 117 _ _ rfl 5 rfl rfl (cellsFm (true, true, bits .and .u8 s 8 != 0)) rfl (HZ.out _) (rfl) (HO.out _) ?_; clear H; intro wz HWwz H; simp only [List.set_cons_succ, List.set_cons_zero] at H))))
    all_goals exact ret_row2 Try.results64 _ _ _ (0, 0) _ rfl _ rfl (H.out.at 0 rfl) Try.underlying117 rfl (HZ.out _) rfl ⟨by simp [knownF, *] <;> omega, H.out.1⟩
  have e0 : (k == 0) = false := by simp [h0]
  have e1 : (k == 1) = false := by simp [h1]
  have e2 : (k == 2) = false := by simp [h2]
  go_enter Try.func64, Try.ntmps64
  go_wp2_with (first | ((with_reducible show wpList _ _ _ (Oper.mk (some 4) (Op.alloc 117) _ _ _ _ :: _) _ _); (with_reducible refine L_alloc H rfl 117 rfl (cellsFm (false, false, false)) (fun _ _ => by kernel_rfl) ?_); clear H; intro g4 w4 HGg4 HEg4 H; simp only [Act.put, List.setIfInBounds_toArray, List.set_cons_zero, List.set_cons_succ]) | ((with_reducible show wpList _ _ _ (Oper.mk none (Op.store 117 _ _) _ _ _ _ :: _) _ _); (first | (refine L_store H rfl rfl 117 _ _ rfl 0 rfl rfl (cellsFm (false, false, false)) rfl (HZ.out _) (rfl) (HO.out _) ?_; clear H; intro wz HWwz H; simp only [List.set_cons_zero] at H) | (refine L_store H rfl rfl 117 _ _ rfl 1 rfl rfl (cellsFm (false, false, false)) rfl (HZ.out _) (rfl) (HO.out _) ?_; clear H; intro wz HWwz H; simp only [List.set_cons_succ, List.set_cons_zero] at H) | (refine L_store H rfl rfl 117 _ _ rfl 2 rfl rfl (cellsFm (false, false, false)) rfl (HZ.out _) (rfl) (HO.out _) ?_; clear H; intro wz HWwz H; simp only [List.set_cons_succ, List.set_cons_zero] at H) | (refine L_store H rfl rfl 117 _ _ rfl 3 rfl rfl (cellsFm (false, false, false)) rfl (HZ.out _) (rfl) (HO.out _) ?_; clear H; intro wz HWwz H; simp only [List.set_cons_succ, List.set_cons_zero] at H) | (refine L_store H rfl rfl 117 _ _ rfl 4 rfl rfl (cellsFm (false, false, false)) rfl (HZ.out _) (rfl) (HO.out _) ?_; clear H; intro wz HWwz H; simp only [List.set_cons_succ, List.set_cons_zero] at H) | (refine L_store H rfl rfl 117 _ _ rfl 5 rfl rfl (cellsFm (false, false, false)) rfl (HZ.out _) (rfl) (HO.out _) ?_; clear H; intro wz HWwz H; simp only [List.set_cons_succ, List.set_cons_zero] at H))))
  all_goals exact ret_row2 Try.results64 _ _ _ (0, 0) _ rfl _ rfl (H.out.at 0 rfl) Try.underlying117 rfl (HZ.out _) rfl ⟨by simp [knownF, *] <;> omega, H.out.1⟩
end Go.Proofs.Ytfecopfofkdnpaa
