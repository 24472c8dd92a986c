/- The small functions of chapters 5, 2 and 30 on headers, addresses and numbers. -/
import Derived.Test.YtfecopfofkdnpaaHd
namespace Go.Proofs.Ytfecopfofkdnpaa
open Go.RowKit
theorem u8_and1 (x : BitVec 8) : bits .and .u8 (wI x) 1 = wI (x &&& 1#8) := by
  revert x; decide +kernel
theorem group8 (x : BitVec 8) : (x &&& 1#8 == 0#8) = !decide (wI x % 2 = 1) := by
  revert x; decide +kernel
def groupF (l : List (BitVec 8)) : Bool := decide (wI (l.headD 0#8) % 2 = 1)
def inF (n a b : Int) : Bool := decide (a ≤ n) && decide (n ≤ b)
def nullF (h : Hd) : Bool := h.kind == 2 && bits .and .u8 h.sub 4 != 0
def null5F (h : Hd) : Bool := h.kind == 2 && (h.sub == 4 || h.sub == 12)
def qosF (h : Hd) : Bool := h.kind == 2 && (h.sub == 8 || h.sub == 12)
def addrsF (h : Hd) : Int := if h.kind = 1 ∧ (h.sub = 12 ∨ h.sub = 13) then 1 else if h.kind = 1 then 2 else if h.toDs && h.fromDs then 4 else 3
structure As where
  own : List (BitVec 8)
  caps : Int
  limit : Int
  idle : Int
deriving DecidableEq
def cellsA (a : As) (v : Value) : List Value := a.own.map V8 ++ [.int .i64 a.caps, .int .i64 a.limit, .int .i64 a.idle, v]
def addrF (a : As) (h : Hd) : Bool := h.a1 == a.own && h.a2 != a.own && (h.kind == 0 && h.a3 == a.own || h.kind == 2 && h.toDs && !h.fromDs)
theorem cH34 {h : Hd} (ok : h.Ok) : (cellsH h)[34]? = some (.int .i64 h.seq) := by
  obtain ⟨_, _, _, _, _, _, h1⟩ := six ok.l1; obtain ⟨_, _, _, _, _, _, h2⟩ := six ok.l2; obtain ⟨_, _, _, _, _, _, h3⟩ := six ok.l3; obtain ⟨_, _, _, _, _, _, h4⟩ := six ok.l4
  simp [cellsH, h1, h2, h3, h4]
theorem cH35 {h : Hd} (ok : h.Ok) : (cellsH h)[35]? = some (.int .i64 h.frag) := by
  obtain ⟨_, _, _, _, _, _, h1⟩ := six ok.l1; obtain ⟨_, _, _, _, _, _, h2⟩ := six ok.l2; obtain ⟨_, _, _, _, _, _, h3⟩ := six ok.l3; obtain ⟨_, _, _, _, _, _, h4⟩ := six ok.l4
  simp [cellsH, h1, h2, h3, h4]
theorem cH36 {h : Hd} (ok : h.Ok) : (cellsH h)[36]? = some (.int .i64 h.tid) := by
  obtain ⟨_, _, _, _, _, _, h1⟩ := six ok.l1; obtain ⟨_, _, _, _, _, _, h2⟩ := six ok.l2; obtain ⟨_, _, _, _, _, _, h3⟩ := six ok.l3; obtain ⟨_, _, _, _, _, _, h4⟩ := six ok.l4
  simp [cellsH, h1, h2, h3, h4]
theorem cH37 {h : Hd} (ok : h.Ok) : (cellsH h)[37]? = some (.int .u8 h.ack) := by
  obtain ⟨_, _, _, _, _, _, h1⟩ := six ok.l1; obtain ⟨_, _, _, _, _, _, h2⟩ := six ok.l2; obtain ⟨_, _, _, _, _, _, h3⟩ := six ok.l3; obtain ⟨_, _, _, _, _, _, h4⟩ := six ok.l4
  simp [cellsH, h1, h2, h3, h4]
theorem cH38 {h : Hd} (ok : h.Ok) : (cellsH h)[38]? = some (.bool h.amsdu) := by
  obtain ⟨_, _, _, _, _, _, h1⟩ := six ok.l1; obtain ⟨_, _, _, _, _, _, h2⟩ := six ok.l2; obtain ⟨_, _, _, _, _, _, h3⟩ := six ok.l3; obtain ⟨_, _, _, _, _, _, h4⟩ := six ok.l4
  simp [cellsH, h1, h2, h3, h4]
theorem cH39 {h : Hd} (ok : h.Ok) : (cellsH h)[39]? = some (.bool h.eosp) := by
  obtain ⟨_, _, _, _, _, _, h1⟩ := six ok.l1; obtain ⟨_, _, _, _, _, _, h2⟩ := six ok.l2; obtain ⟨_, _, _, _, _, _, h3⟩ := six ok.l3; obtain ⟨_, _, _, _, _, _, h4⟩ := six ok.l4
  simp [cellsH, h1, h2, h3, h4]
theorem pH1 {h : Hd} (ok : h.Ok) : ((cellsH h).drop 10).take (h.a1.map V8).length = h.a1.map V8 := by
  obtain ⟨_, _, _, _, _, _, h1⟩ := six ok.l1; obtain ⟨_, _, _, _, _, _, h2⟩ := six ok.l2; obtain ⟨_, _, _, _, _, _, h3⟩ := six ok.l3; obtain ⟨_, _, _, _, _, _, h4⟩ := six ok.l4
  simp [cellsH, h1, h2, h3, h4]
theorem pH2 {h : Hd} (ok : h.Ok) : ((cellsH h).drop 16).take (h.a2.map V8).length = h.a2.map V8 := by
  obtain ⟨_, _, _, _, _, _, h1⟩ := six ok.l1; obtain ⟨_, _, _, _, _, _, h2⟩ := six ok.l2; obtain ⟨_, _, _, _, _, _, h3⟩ := six ok.l3; obtain ⟨_, _, _, _, _, _, h4⟩ := six ok.l4
  simp [cellsH, h1, h2, h3, h4]
theorem pH3 {h : Hd} (ok : h.Ok) : ((cellsH h).drop 22).take (h.a3.map V8).length = h.a3.map V8 := by
  obtain ⟨_, _, _, _, _, _, h1⟩ := six ok.l1; obtain ⟨_, _, _, _, _, _, h2⟩ := six ok.l2; obtain ⟨_, _, _, _, _, _, h3⟩ := six ok.l3; obtain ⟨_, _, _, _, _, _, h4⟩ := six ok.l4
  simp [cellsH, h1, h2, h3, h4]
theorem pH4 {h : Hd} (ok : h.Ok) : ((cellsH h).drop 28).take (h.a4.map V8).length = h.a4.map V8 := by
  obtain ⟨_, _, _, _, _, _, h1⟩ := six ok.l1; obtain ⟨_, _, _, _, _, _, h2⟩ := six ok.l2; obtain ⟨_, _, _, _, _, _, h3⟩ := six ok.l3; obtain ⟨_, _, _, _, _, _, h4⟩ := six ok.l4
  simp [cellsH, h1, h2, h3, h4]
theorem cellsH_len {h : Hd} (ok : h.Ok) : (cellsH h).length = 40 := by
  obtain ⟨_, _, _, _, _, _, h1⟩ := six ok.l1; obtain ⟨_, _, _, _, _, _, h2⟩ := six ok.l2; obtain ⟨_, _, _, _, _, _, h3⟩ := six ok.l3; obtain ⟨_, _, _, _, _, _, h4⟩ := six ok.l4
  simp [cellsH, h1, h2, h3, h4]
theorem sizeH {h : Hd} (ok : h.Ok) : (Try.prog.info? 28).map (·.size) = some (cellsH h).toArray.size := by
  rw [List.size_toArray, cellsH_len ok]; kernel_rfl
theorem one_cellsH (h : Hd) : (cellsH h).toArray.all (·.oneCell') = true := by
  simp [cellsH, Value.oneCell', List.all_map]
theorem sizeA8 {l : List (BitVec 8)} (h : l.length = 6) : (Try.prog.info? 23).map (·.size) = some (l.map V8).length := by
  rw [List.length_map, h]; kernel_rfl
theorem sizeA8a {l : List (BitVec 8)} (h : l.length = 6) : (Try.prog.info? 23).map (·.size) = some (l.map V8).toArray.size := by
  rw [List.size_toArray]; exact sizeA8 h
theorem sizeU8 : (Try.prog.info? 5).map (·.size) = some 1 := by kernel_rfl
theorem eqAddr (l m : List (BitVec 8)) (h : l.length = 6) (h' : m.length = 6) (w : World) : (binOp .eql 23 (.agg (l.map V8).toArray) (.agg (m.map V8).toArray)).run Try.prog w = .ok (.bool (l == m)) w :=
  run_eql_V8 w Try.underlying23 Try.underlying5 sizeU8 l m h h'
theorem neAddr (l m : List (BitVec 8)) (h : l.length = 6) (h' : m.length = 6) (w : World) : (binOp .neq 23 (.agg (l.map V8).toArray) (.agg (m.map V8).toArray)).run Try.prog w = .ok (.bool (!(l == m))) w :=
  by
  rw [run_neq_struct]
  have := run_eq_ints (P := Try.prog) w Try.underlying23 Try.underlying5 sizeU8 l m h h' 9998
  rw [this]; rfl
theorem within_any (n a b : Int) (w : World) :
    Calls Try.prog 52 #[.int .i64 n, .int .i64 a, .int .i64 b] w fun e w' => e = .returned (.bool (inF n a b)) ∧ Ext w w' := by
  have H := kp (Loc.start w)
  go_enter Try.func52, Try.ntmps52
  go_wp2_with fail
  all_goals (go_ret; exact ⟨by simp [inF, *] <;> omega, H.out.1⟩)
theorem in30_any (n a b : Int) (w : World) :
    Calls Try.prog 45 #[.int .i64 n, .int .i64 a, .int .i64 b] w fun e w' => e = .returned (.bool (inF n a b)) ∧ Ext w w' := by
  have H := kp (Loc.start w)
  go_enter Try.func45, Try.ntmps45
  go_wp2_with fail
  all_goals (go_ret; exact ⟨by simp [inF, *] <;> omega, H.out.1⟩)
theorem in0_any (n b : Int) (w : World) :
    Calls Try.prog 66 #[.int .i64 n, .int .i64 b] w fun e w' => e = .returned (.bool (inF n 0 b)) ∧ Ext w w' := by
  have H := kp (Loc.start w)
  go_enter Try.func66, Try.ntmps66
  go_wp2_with fail
  all_goals (go_ret; exact ⟨by simp [inF, *] <;> omega, H.out.1⟩)
theorem moment_any (n : Int) (w : World) :
    Calls Try.prog 56 #[.int .i64 n] w fun e w' => e = .returned (.bool (inF n 0 1099511627776)) ∧ Ext w w' := by
  have H := kp (Loc.start w)
  have HW := kp (within_any n 0 1099511627776)
  go_enter Try.func56, Try.ntmps56
  go_wp2_with (first | (go_at_call 52; refine (HW.out _).mono ?_; rintro e w2 ⟨rfl, hx⟩; have H2 := kp (H.out.ext hx); clear H hx; have H := H2; clear H2))
  all_goals (go_ret; exact ⟨by rfl, H.out.1⟩)
theorem null_any (h : Hd) (w : World) :
    Calls Try.prog 67 #[.agg (cellsH h).toArray] w fun e w' => e = .returned (.bool (nullF h)) ∧ Ext w w' := by
  have H := kp (Loc.start w)
  go_enter Try.func67, Try.ntmps67
  go_wp2_with (first | (((with_reducible show wpList _ _ _ (Oper.mk (some 1) (Op.box 28 _) _ _ _ _ :: _) _ _); (with_reducible refine L_box H rfl 28 _ rfl (cellsH h) rfl ?_); clear H; intro g1 w1 HGg1 HEg1 H; simp only [Act.put, List.setIfInBounds_toArray, List.set_cons_zero, List.set_cons_succ]); have hc0 := run_load_cell H.out 0 rfl 0 _ rfl; have hc1 := run_load_cell H.out 0 rfl 1 _ rfl; have hc2 := run_load_cell H.out 0 rfl 2 _ rfl; have hc3 := run_load_cell H.out 0 rfl 3 _ rfl))
  all_goals (go_ret; exact ⟨by simp [nullF, *], H.out.1⟩)
theorem null5_any (h : Hd) (w : World) :
    Calls Try.prog 85 #[.agg (cellsH h).toArray] w fun e w' => e = .returned (.bool (null5F h)) ∧ Ext w w' := by
  have H := kp (Loc.start w)
  go_enter Try.func85, Try.ntmps85
  go_wp2_with (first | (((with_reducible show wpList _ _ _ (Oper.mk (some 1) (Op.box 28 _) _ _ _ _ :: _) _ _); (with_reducible refine L_box H rfl 28 _ rfl (cellsH h) rfl ?_); clear H; intro g1 w1 HGg1 HEg1 H; simp only [Act.put, List.setIfInBounds_toArray, List.set_cons_zero, List.set_cons_succ]); have hc0 := run_load_cell H.out 0 rfl 0 _ rfl; have hc1 := run_load_cell H.out 0 rfl 1 _ rfl; have hc2 := run_load_cell H.out 0 rfl 2 _ rfl; have hc3 := run_load_cell H.out 0 rfl 3 _ rfl))
  all_goals (go_ret; exact ⟨by simp [null5F, *], H.out.1⟩)
theorem qos_any (h : Hd) (w : World) :
    Calls Try.prog 102 #[.agg (cellsH h).toArray] w fun e w' => e = .returned (.bool (qosF h)) ∧ Ext w w' := by
  have H := kp (Loc.start w)
  go_enter Try.func102, Try.ntmps102
  go_wp2_with (first | (((with_reducible show wpList _ _ _ (Oper.mk (some 1) (Op.box 28 _) _ _ _ _ :: _) _ _); (with_reducible refine L_box H rfl 28 _ rfl (cellsH h) rfl ?_); clear H; intro g1 w1 HGg1 HEg1 H; simp only [Act.put, List.setIfInBounds_toArray, List.set_cons_zero, List.set_cons_succ]); have hc0 := run_load_cell H.out 0 rfl 0 _ rfl; have hc1 := run_load_cell H.out 0 rfl 1 _ rfl; have hc2 := run_load_cell H.out 0 rfl 2 _ rfl; have hc3 := run_load_cell H.out 0 rfl 3 _ rfl))
  all_goals (go_ret; exact ⟨by simp [qosF, *], H.out.1⟩)
theorem addrs_any (h : Hd) (w : World) :
    Calls Try.prog 101 #[.agg (cellsH h).toArray] w fun e w' => e = .returned (.int .i64 (addrsF h)) ∧ Ext w w' := by
  have H := kp (Loc.start w)
  go_enter Try.func101, Try.ntmps101
  go_wp2_with (first | (((with_reducible show wpList _ _ _ (Oper.mk (some 1) (Op.box 28 _) _ _ _ _ :: _) _ _); (with_reducible refine L_box H rfl 28 _ rfl (cellsH h) rfl ?_); clear H; intro g1 w1 HGg1 HEg1 H; simp only [Act.put, List.setIfInBounds_toArray, List.set_cons_zero, List.set_cons_succ]); have hc0 := run_load_cell H.out 0 rfl 0 _ rfl; have hc1 := run_load_cell H.out 0 rfl 1 _ rfl; have hc2 := run_load_cell H.out 0 rfl 2 _ rfl; have hc3 := run_load_cell H.out 0 rfl 3 _ rfl))
  all_goals (go_ret; exact ⟨by simp [addrsF, *] <;> simp_all, H.out.1⟩)
theorem group_any (l : List (BitVec 8)) (hl : l.length = 6) (w : World) :
    Calls Try.prog 51 #[.agg (l.map V8).toArray] w fun e w' => e = .returned (.bool (groupF l)) ∧ Ext w w' := by
  have H := kp (Loc.start w)
  obtain ⟨x, x1, x2, x3, x4, x5, rfl⟩ := six hl
  go_enter Try.func51, Try.ntmps51
  go_wp2_with (first | (((with_reducible show wpList _ _ _ (Oper.mk (some 1) (Op.box 23 _) _ _ _ _ :: _) _ _); (with_reducible refine L_box H rfl 23 _ rfl ([x, x1, x2, x3, x4, x5].map V8) rfl ?_); clear H; intro g1 w1 HGg1 HEg1 H; simp only [Act.put, List.setIfInBounds_toArray, List.set_cons_zero, List.set_cons_succ]); have hc0 := run_load_cell H.out 0 rfl 0 _ rfl))
  all_goals (go_ret; exact ⟨by simp [groupF, u8_and1, group8, wI_beq0, bne], H.out.1⟩)
theorem group2_any (l : List (BitVec 8)) (hl : l.length = 6) (w : World) :
    Calls Try.prog 44 #[.agg (l.map V8).toArray] w fun e w' => e = .returned (.bool (groupF l)) ∧ Ext w w' := by
  have H := kp (Loc.start w)
  obtain ⟨x, x1, x2, x3, x4, x5, rfl⟩ := six hl
  go_enter Try.func44, Try.ntmps44
  go_wp2_with (first | (((with_reducible show wpList _ _ _ (Oper.mk (some 1) (Op.box 23 _) _ _ _ _ :: _) _ _); (with_reducible refine L_box H rfl 23 _ rfl ([x, x1, x2, x3, x4, x5].map V8) rfl ?_); clear H; intro g1 w1 HGg1 HEg1 H; simp only [Act.put, List.setIfInBounds_toArray, List.set_cons_zero, List.set_cons_succ]); have hc0 := run_load_cell H.out 0 rfl 0 _ rfl))
  all_goals (go_ret; exact ⟨by simp [groupF, Int.tmod_eq_emod_of_nonneg (wI_nonneg x), Bool.beq_eq_decide_eq], H.out.1⟩)
theorem cellsA_own {a : As} (v : Value) (h : a.own.length = 6) : ((cellsA a v).drop 0).take (a.own.map V8).length = a.own.map V8 := by
  obtain ⟨_, _, _, _, _, _, h1⟩ := six h; simp [cellsA, h1]
theorem cA6 {a : As} (v : Value) (h : a.own.length = 6) : (cellsA a v)[6]? = some (.int .i64 a.caps) := by
  obtain ⟨_, _, _, _, _, _, h1⟩ := six h; simp [cellsA, h1]
theorem cA7 {a : As} (v : Value) (h : a.own.length = 6) : (cellsA a v)[7]? = some (.int .i64 a.limit) := by
  obtain ⟨_, _, _, _, _, _, h1⟩ := six h; simp [cellsA, h1]
theorem cA8 {a : As} (v : Value) (h : a.own.length = 6) : (cellsA a v)[8]? = some (.int .i64 a.idle) := by
  obtain ⟨_, _, _, _, _, _, h1⟩ := six h; simp [cellsA, h1]
theorem cA9 {a : As} (v : Value) (h : a.own.length = 6) : (cellsA a v)[9]? = some v := by
  obtain ⟨_, _, _, _, _, _, h1⟩ := six h; simp [cellsA, h1]
theorem cellsA_len {a : As} (v : Value) (h : a.own.length = 6) : (cellsA a v).length = 10 := by simp [cellsA, h]
theorem sizeAs {a : As} (v : Value) (h : a.own.length = 6) : (Try.prog.info? 26).map (·.size) = some (cellsA a v).toArray.size := by
  rw [List.size_toArray, cellsA_len v h]; kernel_rfl
set_option maxHeartbeats 6400000 in
theorem addressed_any (a : As) (v : Value) (ha : a.own.length = 6) (h : Hd) (ok : h.Ok) (w : World) :
    Calls Try.prog 48 #[.agg (cellsA a v).toArray, .agg (cellsH h).toArray] w fun e w' => e = .returned (.bool (addrF a h)) ∧ Ext w w' := by
  have H := kp (Loc.start w)
  have HOW := kp (cellsA_own v ha)
  have HP1 := kp (pH1 ok)
  have HP2 := kp (pH2 ok)
  have HP3 := kp (pH3 ok)
  have HZo := kp (sizeA8 ha)
  have HZ1 := kp (sizeA8 ok.l1)
  have HZ2 := kp (sizeA8 ok.l2)
  have HZ3 := kp (sizeA8 ok.l3)
  have he1 := eqAddr h.a1 a.own ok.l1 ha
  have he2 := neAddr h.a2 a.own ok.l2 ha
  have he3 := eqAddr h.a3 a.own ok.l3 ha
  go_enter Try.func48, Try.ntmps48
  go_wp2_with (first | ((with_reducible show wpList _ _ _ (Oper.mk (some 2) (Op.box 26 _) _ _ _ _ :: _) _ _); (with_reducible refine L_box H rfl 26 _ rfl (cellsA a v) rfl ?_); clear H; intro g2 w2 HGg2 HEg2 H; simp only [Act.put, List.setIfInBounds_toArray, List.set_cons_zero, List.set_cons_succ]) | (((with_reducible show wpList _ _ _ (Oper.mk (some 3) (Op.box 28 _) _ _ _ _ :: _) _ _); (with_reducible refine L_box H rfl 28 _ rfl (cellsH h) rfl ?_); clear H; intro g3 w3 HGg3 HEg3 H; simp only [Act.put, List.setIfInBounds_toArray, List.set_cons_zero, List.set_cons_succ]); have hc0 := run_load_cell H.out 0 rfl 0 _ rfl; have hc2 := run_load_cell H.out 0 rfl 2 _ rfl; have hc3 := run_load_cell H.out 0 rfl 3 _ rfl) | ((with_reducible show wpList _ _ _ (Oper.mk _ (Op.load 23 _) _ _ _ _ :: _) _ _); (first | (refine L_subG H (by kernel_rfl) 23 _ rfl 0 rfl (10) rfl (h.a1.map V8) (HP1.out) Try.underlying23 rfl (HZ1.out) ?_) | (refine L_subG H (by kernel_rfl) 23 _ rfl 1 rfl (10) rfl (h.a1.map V8) (HP1.out) Try.underlying23 rfl (HZ1.out) ?_) | (refine L_subG H (by kernel_rfl) 23 _ rfl 2 rfl (10) rfl (h.a1.map V8) (HP1.out) Try.underlying23 rfl (HZ1.out) ?_) | (refine L_subG H (by kernel_rfl) 23 _ rfl 3 rfl (10) rfl (h.a1.map V8) (HP1.out) Try.underlying23 rfl (HZ1.out) ?_) | (refine L_subG H (by kernel_rfl) 23 _ rfl 4 rfl (10) rfl (h.a1.map V8) (HP1.out) Try.underlying23 rfl (HZ1.out) ?_) | (refine L_subG H (by kernel_rfl) 23 _ rfl 5 rfl (10) rfl (h.a1.map V8) (HP1.out) Try.underlying23 rfl (HZ1.out) ?_)); simp only [Act.put, List.setIfInBounds_toArray, List.set_cons_zero, List.set_cons_succ]) | ((with_reducible show wpList _ _ _ (Oper.mk _ (Op.load 23 _) _ _ _ _ :: _) _ _); (first | (refine L_subG H (by kernel_rfl) 23 _ rfl 0 rfl (16) rfl (h.a2.map V8) (HP2.out) Try.underlying23 rfl (HZ2.out) ?_) | (refine L_subG H (by kernel_rfl) 23 _ rfl 1 rfl (16) rfl (h.a2.map V8) (HP2.out) Try.underlying23 rfl (HZ2.out) ?_) | (refine L_subG H (by kernel_rfl) 23 _ rfl 2 rfl (16) rfl (h.a2.map V8) (HP2.out) Try.underlying23 rfl (HZ2.out) ?_) | (refine L_subG H (by kernel_rfl) 23 _ rfl 3 rfl (16) rfl (h.a2.map V8) (HP2.out) Try.underlying23 rfl (HZ2.out) ?_) | (refine L_subG H (by kernel_rfl) 23 _ rfl 4 rfl (16) rfl (h.a2.map V8) (HP2.out) Try.underlying23 rfl (HZ2.out) ?_) | (refine L_subG H (by kernel_rfl) 23 _ rfl 5 rfl (16) rfl (h.a2.map V8) (HP2.out) Try.underlying23 rfl (HZ2.out) ?_)); simp only [Act.put, List.setIfInBounds_toArray, List.set_cons_zero, List.set_cons_succ]) | ((with_reducible show wpList _ _ _ (Oper.mk _ (Op.load 23 _) _ _ _ _ :: _) _ _); (first | (refine L_subG H (by kernel_rfl) 23 _ rfl 0 rfl (22) rfl (h.a3.map V8) (HP3.out) Try.underlying23 rfl (HZ3.out) ?_) | (refine L_subG H (by kernel_rfl) 23 _ rfl 1 rfl (22) rfl (h.a3.map V8) (HP3.out) Try.underlying23 rfl (HZ3.out) ?_) | (refine L_subG H (by kernel_rfl) 23 _ rfl 2 rfl (22) rfl (h.a3.map V8) (HP3.out) Try.underlying23 rfl (HZ3.out) ?_) | (refine L_subG H (by kernel_rfl) 23 _ rfl 3 rfl (22) rfl (h.a3.map V8) (HP3.out) Try.underlying23 rfl (HZ3.out) ?_) | (refine L_subG H (by kernel_rfl) 23 _ rfl 4 rfl (22) rfl (h.a3.map V8) (HP3.out) Try.underlying23 rfl (HZ3.out) ?_) | (refine L_subG H (by kernel_rfl) 23 _ rfl 5 rfl (22) rfl (h.a3.map V8) (HP3.out) Try.underlying23 rfl (HZ3.out) ?_)); simp only [Act.put, List.setIfInBounds_toArray, List.set_cons_zero, List.set_cons_succ]) | ((with_reducible show wpList _ _ _ (Oper.mk _ (Op.load 23 _) _ _ _ _ :: _) _ _); (first | (refine L_subG H (by kernel_rfl) 23 _ rfl 0 rfl (0) rfl (a.own.map V8) (HOW.out) Try.underlying23 rfl (HZo.out) ?_) | (refine L_subG H (by kernel_rfl) 23 _ rfl 1 rfl (0) rfl (a.own.map V8) (HOW.out) Try.underlying23 rfl (HZo.out) ?_) | (refine L_subG H (by kernel_rfl) 23 _ rfl 2 rfl (0) rfl (a.own.map V8) (HOW.out) Try.underlying23 rfl (HZo.out) ?_) | (refine L_subG H (by kernel_rfl) 23 _ rfl 3 rfl (0) rfl (a.own.map V8) (HOW.out) Try.underlying23 rfl (HZo.out) ?_) | (refine L_subG H (by kernel_rfl) 23 _ rfl 4 rfl (0) rfl (a.own.map V8) (HOW.out) Try.underlying23 rfl (HZo.out) ?_) | (refine L_subG H (by kernel_rfl) 23 _ rfl 5 rfl (0) rfl (a.own.map V8) (HOW.out) Try.underlying23 rfl (HZo.out) ?_)); simp only [Act.put, List.setIfInBounds_toArray, List.set_cons_zero, List.set_cons_succ]))
  all_goals (go_ret; exact ⟨by simp [addrF, bne, *] <;> simp_all, H.out.1⟩)
set_option maxHeartbeats 6400000 in
theorem addressed30_any (a : As) (v : Value) (ha : a.own.length = 6) (h : Hd) (ok : h.Ok) (w : World) :
    Calls Try.prog 50 #[.agg (cellsA a v).toArray, .agg (cellsH h).toArray] w fun e w' => e = .returned (.bool (addrF a h)) ∧ Ext w w' := by
  have H := kp (Loc.start w)
  have HOW := kp (cellsA_own v ha)
  have HP1 := kp (pH1 ok)
  have HP2 := kp (pH2 ok)
  have HP3 := kp (pH3 ok)
  have HZo := kp (sizeA8 ha)
  have HZ1 := kp (sizeA8 ok.l1)
  have HZ2 := kp (sizeA8 ok.l2)
  have HZ3 := kp (sizeA8 ok.l3)
  have he1 := neAddr h.a1 a.own ok.l1 ha
  have he2 := eqAddr h.a2 a.own ok.l2 ha
  have he3 := eqAddr h.a3 a.own ok.l3 ha
  go_enter Try.func50, Try.ntmps50
  go_wp2_with (first | ((with_reducible show wpList _ _ _ (Oper.mk (some 2) (Op.box 26 _) _ _ _ _ :: _) _ _); (with_reducible refine L_box H rfl 26 _ rfl (cellsA a v) rfl ?_); clear H; intro g2 w2 HGg2 HEg2 H; simp only [Act.put, List.setIfInBounds_toArray, List.set_cons_zero, List.set_cons_succ]) | (((with_reducible show wpList _ _ _ (Oper.mk (some 3) (Op.box 28 _) _ _ _ _ :: _) _ _); (with_reducible refine L_box H rfl 28 _ rfl (cellsH h) rfl ?_); clear H; intro g3 w3 HGg3 HEg3 H; simp only [Act.put, List.setIfInBounds_toArray, List.set_cons_zero, List.set_cons_succ]); have hc0 := run_load_cell H.out 0 rfl 0 _ rfl; have hc2 := run_load_cell H.out 0 rfl 2 _ rfl; have hc3 := run_load_cell H.out 0 rfl 3 _ rfl) | ((with_reducible show wpList _ _ _ (Oper.mk _ (Op.load 23 _) _ _ _ _ :: _) _ _); (first | (refine L_subG H (by kernel_rfl) 23 _ rfl 0 rfl (10) rfl (h.a1.map V8) (HP1.out) Try.underlying23 rfl (HZ1.out) ?_) | (refine L_subG H (by kernel_rfl) 23 _ rfl 1 rfl (10) rfl (h.a1.map V8) (HP1.out) Try.underlying23 rfl (HZ1.out) ?_) | (refine L_subG H (by kernel_rfl) 23 _ rfl 2 rfl (10) rfl (h.a1.map V8) (HP1.out) Try.underlying23 rfl (HZ1.out) ?_) | (refine L_subG H (by kernel_rfl) 23 _ rfl 3 rfl (10) rfl (h.a1.map V8) (HP1.out) Try.underlying23 rfl (HZ1.out) ?_) | (refine L_subG H (by kernel_rfl) 23 _ rfl 4 rfl (10) rfl (h.a1.map V8) (HP1.out) Try.underlying23 rfl (HZ1.out) ?_) | (refine L_subG H (by kernel_rfl) 23 _ rfl 5 rfl (10) rfl (h.a1.map V8) (HP1.out) Try.underlying23 rfl (HZ1.out) ?_)); simp only [Act.put, List.setIfInBounds_toArray, List.set_cons_zero, List.set_cons_succ]) | ((with_reducible show wpList _ _ _ (Oper.mk _ (Op.load 23 _) _ _ _ _ :: _) _ _); (first | (refine L_subG H (by kernel_rfl) 23 _ rfl 0 rfl (16) rfl (h.a2.map V8) (HP2.out) Try.underlying23 rfl (HZ2.out) ?_) | (refine L_subG H (by kernel_rfl) 23 _ rfl 1 rfl (16) rfl (h.a2.map V8) (HP2.out) Try.underlying23 rfl (HZ2.out) ?_) | (refine L_subG H (by kernel_rfl) 23 _ rfl 2 rfl (16) rfl (h.a2.map V8) (HP2.out) Try.underlying23 rfl (HZ2.out) ?_) | (refine L_subG H (by kernel_rfl) 23 _ rfl 3 rfl (16) rfl (h.a2.map V8) (HP2.out) Try.underlying23 rfl (HZ2.out) ?_) | (refine L_subG H (by kernel_rfl) 23 _ rfl 4 rfl (16) rfl (h.a2.map V8) (HP2.out) Try.underlying23 rfl (HZ2.out) ?_) | (refine L_subG H (by kernel_rfl) 23 _ rfl 5 rfl (16) rfl (h.a2.map V8) (HP2.out) Try.underlying23 rfl (HZ2.out) ?_)); simp only [Act.put, List.setIfInBounds_toArray, List.set_cons_zero, List.set_cons_succ]) | ((with_reducible show wpList _ _ _ (Oper.mk _ (Op.load 23 _) _ _ _ _ :: _) _ _); (first | (refine L_subG H (by kernel_rfl) 23 _ rfl 0 rfl (22) rfl (h.a3.map V8) (HP3.out) Try.underlying23 rfl (HZ3.out) ?_) | (refine L_subG H (by kernel_rfl) 23 _ rfl 1 rfl (22) rfl (h.a3.map V8) (HP3.out) Try.underlying23 rfl (HZ3.out) ?_) | (refine L_subG H (by kernel_rfl) 23 _ rfl 2 rfl (22) rfl (h.a3.map V8) (HP3.out) Try.underlying23 rfl (HZ3.out) ?_) | (refine L_subG H (by kernel_rfl) 23 _ rfl 3 rfl (22) rfl (h.a3.map V8) (HP3.out) Try.underlying23 rfl (HZ3.out) ?_) | (refine L_subG H (by kernel_rfl) 23 _ rfl 4 rfl (22) rfl (h.a3.map V8) (HP3.out) Try.underlying23 rfl (HZ3.out) ?_) | (refine L_subG H (by kernel_rfl) 23 _ rfl 5 rfl (22) rfl (h.a3.map V8) (HP3.out) Try.underlying23 rfl (HZ3.out) ?_)); simp only [Act.put, List.setIfInBounds_toArray, List.set_cons_zero, List.set_cons_succ]) | ((with_reducible show wpList _ _ _ (Oper.mk _ (Op.load 23 _) _ _ _ _ :: _) _ _); (first | (refine L_subG H (by kernel_rfl) 23 _ rfl 0 rfl (0) rfl (a.own.map V8) (HOW.out) Try.underlying23 rfl (HZo.out) ?_) | (refine L_subG H (by kernel_rfl) 23 _ rfl 1 rfl (0) rfl (a.own.map V8) (HOW.out) Try.underlying23 rfl (HZo.out) ?_) | (refine L_subG H (by kernel_rfl) 23 _ rfl 2 rfl (0) rfl (a.own.map V8) (HOW.out) Try.underlying23 rfl (HZo.out) ?_) | (refine L_subG H (by kernel_rfl) 23 _ rfl 3 rfl (0) rfl (a.own.map V8) (HOW.out) Try.underlying23 rfl (HZo.out) ?_) | (refine L_subG H (by kernel_rfl) 23 _ rfl 4 rfl (0) rfl (a.own.map V8) (HOW.out) Try.underlying23 rfl (HZo.out) ?_) | (refine L_subG H (by kernel_rfl) 23 _ rfl 5 rfl (0) rfl (a.own.map V8) (HOW.out) Try.underlying23 rfl (HZo.out) ?_)); simp only [Act.put, List.setIfInBounds_toArray, List.set_cons_zero, List.set_cons_succ]))
  all_goals (go_ret; exact ⟨by simp [addrF, bne, *] <;> simp_all, H.out.1⟩)
end Go.Proofs.Ytfecopfofkdnpaa
