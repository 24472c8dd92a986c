/- Texts of this proof, put together: HdA, HdP. -/
import Derived.Test.YtfecopfofkdnpaaS5
import Derived.ArgAppend
import Derived.Test.YtfecopfofkdnpaaS1
namespace Go.Proofs.Ytfecopfofkdnpaa
open Go.RowKit
theorem u8_and1 (x : BitVec 8) : bits .and .u8 (wI x) 1 = wI (x &&& 1#8) := by
 revert x; decide +kernel
theorem group8 (x : BitVec 8) : (x &&& 1#8 == 0#8) = !decide (wI x % 2 = 1) := by
 revert x; decide +kernel
def groupF (l : List (BitVec 8)) : Bool := decide (wI (l.headD 0#8) % 2 = 1)
def inF (n a b : Int) : Bool := decide (a ≤ n) && decide (n ≤ b)
def nullF (h : Hd) : Bool := h.kind == 2 && bits .and .u8 h.sub 4 != 0
structure As where
 own : List (BitVec 8)
 caps : Int
 limit : Int
 idle : Int
deriving DecidableEq
def cellsA (a : As) (v : Value) : List Value := a.own.map V8 ++ [.int .i64 a.caps, .int .i64 a.limit, .int .i64 a.idle, v]
def addrF (a : As) (h : Hd) : Bool := h.a1 == a.own && h.a2 != a.own && (h.kind == 0 && h.a3 == a.own || h.kind == 2 && h.toDs && !h.fromDs)
theorem cH34 {h : Hd} (ok : h.Ok) : (cellsH h)[34]? = some (.int .i64 h.seq) := by
 obtain ⟨_, _, _, _, _, _, h1⟩ := six ok.l1; obtain ⟨_, _, _, _, _, _, h2⟩ := six ok.l2; obtain ⟨_, _, _, _, _, _, h3⟩ := six ok.l3; obtain ⟨_, _, _, _, _, _, h4⟩ := six ok.l4
 simp [cellsH, h1, h2, h3, h4]
theorem cH35 {h : Hd} (ok : h.Ok) : (cellsH h)[35]? = some (.int .i64 h.frag) := by
 obtain ⟨_, _, _, _, _, _, h1⟩ := six ok.l1; obtain ⟨_, _, _, _, _, _, h2⟩ := six ok.l2; obtain ⟨_, _, _, _, _, _, h3⟩ := six ok.l3; obtain ⟨_, _, _, _, _, _, h4⟩ := six ok.l4
 simp [cellsH, h1, h2, h3, h4]
theorem cH36 {h : Hd} (ok : h.Ok) : (cellsH h)[36]? = some (.int .i64 h.tid) := by
 obtain ⟨_, _, _, _, _, _, h1⟩ := six ok.l1; obtain ⟨_, _, _, _, _, _, h2⟩ := six ok.l2; obtain ⟨_, _, _, _, _, _, h3⟩ := six ok.l3; obtain ⟨_, _, _, _, _, _, h4⟩ := six ok.l4
 simp [cellsH, h1, h2, h3, h4]
theorem cH37 {h : Hd} (ok : h.Ok) : (cellsH h)[37]? = some (.int .u8 h.ack) := by
 obtain ⟨_, _, _, _, _, _, h1⟩ := six ok.l1; obtain ⟨_, _, _, _, _, _, h2⟩ := six ok.l2; obtain ⟨_, _, _, _, _, _, h3⟩ := six ok.l3; obtain ⟨_, _, _, _, _, _, h4⟩ := six ok.l4
 simp [cellsH, h1, h2, h3, h4]
theorem cH38 {h : Hd} (ok : h.Ok) : (cellsH h)[38]? = some (.bool h.amsdu) := by
 obtain ⟨_, _, _, _, _, _, h1⟩ := six ok.l1; obtain ⟨_, _, _, _, _, _, h2⟩ := six ok.l2; obtain ⟨_, _, _, _, _, _, h3⟩ := six ok.l3; obtain ⟨_, _, _, _, _, _, h4⟩ := six ok.l4
 simp [cellsH, h1, h2, h3, h4]
theorem pH1 {h : Hd} (ok : h.Ok) : ((cellsH h).drop 10).take (h.a1.map V8).length = h.a1.map V8 := by
 obtain ⟨_, _, _, _, _, _, h1⟩ := six ok.l1; obtain ⟨_, _, _, _, _, _, h2⟩ := six ok.l2; obtain ⟨_, _, _, _, _, _, h3⟩ := six ok.l3; obtain ⟨_, _, _, _, _, _, h4⟩ := six ok.l4
 simp [cellsH, h1, h2, h3, h4]
theorem pH2 {h : Hd} (ok : h.Ok) : ((cellsH h).drop 16).take (h.a2.map V8).length = h.a2.map V8 := by
 obtain ⟨_, _, _, _, _, _, h1⟩ := six ok.l1; obtain ⟨_, _, _, _, _, _, h2⟩ := six ok.l2; obtain ⟨_, _, _, _, _, _, h3⟩ := six ok.l3; obtain ⟨_, _, _, _, _, _, h4⟩ := six ok.l4
 simp [cellsH, h1, h2, h3, h4]
theorem pH3 {h : Hd} (ok : h.Ok) : ((cellsH h).drop 22).take (h.a3.map V8).length = h.a3.map V8 := by
 obtain ⟨_, _, _, _, _, _, h1⟩ := six ok.l1; obtain ⟨_, _, _, _, _, _, h2⟩ := six ok.l2; obtain ⟨_, _, _, _, _, _, h3⟩ := six ok.l3; obtain ⟨_, _, _, _, _, _, h4⟩ := six ok.l4
 simp [cellsH, h1, h2, h3, h4]
theorem cellsH_len {h : Hd} (ok : h.Ok) : (cellsH h).length = 40 := by
 obtain ⟨_, _, _, _, _, _, h1⟩ := six ok.l1; obtain ⟨_, _, _, _, _, _, h2⟩ := six ok.l2; obtain ⟨_, _, _, _, _, _, h3⟩ := six ok.l3; obtain ⟨_, _, _, _, _, _, h4⟩ := six ok.l4
 simp [cellsH, h1, h2, h3, h4]
theorem sizeH {h : Hd} (ok : h.Ok) : (Try.prog.info? 28).map (·.size) = some (cellsH h).toArray.size := by
 rw [List.size_toArray, cellsH_len ok]; kernel_rfl
theorem one_cellsH (h : Hd) : (cellsH h).toArray.all (·.oneCell') = true := by
 simp [cellsH, Value.oneCell', List.all_map]
theorem sizeA8 {l : List (BitVec 8)} (h : l.length = 6) : (Try.prog.info? 23).map (·.size) = some (l.map V8).length := by
 rw [List.length_map, h]; kernel_rfl
theorem sizeA8a {l : List (BitVec 8)} (h : l.length = 6) : (Try.prog.info? 23).map (·.size) = some (l.map V8).toArray.size := by
 rw [List.size_toArray]; exact sizeA8 h
theorem sizeU8 : (Try.prog.info? 5).map (·.size) = some 1 := by kernel_rfl
theorem eqAddr (l m : List (BitVec 8)) (h : l.length = 6) (h' : m.length = 6) (w : World) : (binOp .eql 23 (.agg (l.map V8).toArray) (.agg (m.map V8).toArray)).run Try.prog w = .ok (.bool (l == m)) w :=
 run_eql_V8 w Try.underlying23 Try.underlying5 sizeU8 l m h h'
theorem neAddr (l m : List (BitVec 8)) (h : l.length = 6) (h' : m.length = 6) (w : World) : (binOp .neq 23 (.agg (l.map V8).toArray) (.agg (m.map V8).toArray)).run Try.prog w = .ok (.bool (!(l == m))) w :=
 by
 rw [run_neq_struct]
 have := run_eq_ints (P := Try.prog) w Try.underlying23 Try.underlying5 sizeU8 l m h h' 9998
 rw [this]; rfl
theorem within_any (n a b : Int) (w : World) :
  Calls Try.prog 52 #[.int .i64 n, .int .i64 a, .int .i64 b] w fun e w' => e = .returned (.bool (inF n a b)) ∧ Ext w w' := by
 have H := kp (Loc.start w)
 go_enter Try.func52, Try.ntmps52
 go_wp2_with fail
 all_goals (go_ret; exact ⟨by simp [inF, *] <;> omega, H.out.1⟩)
theorem in0_any (n b : Int) (w : World) :
  Calls Try.prog 66 #[.int .i64 n, .int .i64 b] w fun e w' => e = .returned (.bool (inF n 0 b)) ∧ Ext w w' := by
 have H := kp (Loc.start w)
 go_enter Try.func66, Try.ntmps66
 go_wp2_with fail
 all_goals (go_ret; exact ⟨by simp [inF, *] <;> omega, H.out.1⟩)
theorem moment_any (n : Int) (w : World) :
  Calls Try.prog 56 #[.int .i64 n] w fun e w' => e = .returned (.bool (inF n 0 1099511627776)) ∧ Ext w w' := by
 have H := kp (Loc.start w)
 have HW := kp (within_any n 0 1099511627776)
 go_enter Try.func56, Try.ntmps56
 go_wp2_with (first | (go_at_call 52; refine (HW.out _).mono ?_; rintro e w2 ⟨rfl, hx⟩; have H2 := kp (H.out.ext hx); clear H hx; have H := H2; clear H2))
 all_goals (go_ret; exact ⟨by rfl, H.out.1⟩)
theorem null_any (h : Hd) (w : World) :
  Calls Try.prog 67 #[.agg (cellsH h).toArray] w fun e w' => e = .returned (.bool (nullF h)) ∧ Ext w w' := by
 have H := kp (Loc.start w)
 go_enter Try.func67, Try.ntmps67
 go_wp2_with (first | (((with_reducible refine isBx 1 28 ?_); (with_reducible refine L_box H rfl 28 _ rfl (cellsH h) rfl ?_); clear H; intro g1 w1 HGg1 HEg1 H; simp only [pA]); have hc0 := run_load_cell H.out 0 rfl 0 _ rfl; have hc1 := run_load_cell H.out 0 rfl 1 _ rfl; have hc2 := run_load_cell H.out 0 rfl 2 _ rfl; have hc3 := run_load_cell H.out 0 rfl 3 _ rfl))
 all_goals (go_ret; exact ⟨by simp [nullF, *], H.out.1⟩)
theorem group_any (l : List (BitVec 8)) (hl : l.length = 6) (w : World) :
  Calls Try.prog 51 #[.agg (l.map V8).toArray] w fun e w' => e = .returned (.bool (groupF l)) ∧ Ext w w' := by
 have H := kp (Loc.start w)
 obtain ⟨x, x1, x2, x3, x4, x5, rfl⟩ := six hl
 go_enter Try.func51, Try.ntmps51
 go_wp2_with (first | (((with_reducible refine isBx 1 23 ?_); (with_reducible refine L_box H rfl 23 _ rfl ([x, x1, x2, x3, x4, x5].map V8) rfl ?_); clear H; intro g1 w1 HGg1 HEg1 H; simp only [pA]); have hc0 := run_load_cell H.out 0 rfl 0 _ rfl))
 all_goals (go_ret; exact ⟨by simp [groupF, u8_and1, group8, wI_beq0, bne], H.out.1⟩)
theorem cellsA_own {a : As} (v : Value) (h : a.own.length = 6) : ((cellsA a v).drop 0).take (a.own.map V8).length = a.own.map V8 := by
 obtain ⟨_, _, _, _, _, _, h1⟩ := six h; simp [cellsA, h1]
theorem cA6 {a : As} (v : Value) (h : a.own.length = 6) : (cellsA a v)[6]? = some (.int .i64 a.caps) := by
 obtain ⟨_, _, _, _, _, _, h1⟩ := six h; simp [cellsA, h1]
theorem cA7 {a : As} (v : Value) (h : a.own.length = 6) : (cellsA a v)[7]? = some (.int .i64 a.limit) := by
 obtain ⟨_, _, _, _, _, _, h1⟩ := six h; simp [cellsA, h1]
theorem cA8 {a : As} (v : Value) (h : a.own.length = 6) : (cellsA a v)[8]? = some (.int .i64 a.idle) := by
 obtain ⟨_, _, _, _, _, _, h1⟩ := six h; simp [cellsA, h1]
theorem cA9 {a : As} (v : Value) (h : a.own.length = 6) : (cellsA a v)[9]? = some v := by
 obtain ⟨_, _, _, _, _, _, h1⟩ := six h; simp [cellsA, h1]
theorem cellsA_len {a : As} (v : Value) (h : a.own.length = 6) : (cellsA a v).length = 10 := by simp [cellsA, h]
theorem sizeAs {a : As} (v : Value) (h : a.own.length = 6) : (Try.prog.info? 26).map (·.size) = some (cellsA a v).toArray.size := by
 rw [List.size_toArray, cellsA_len v h]; kernel_rfl
set_option maxHeartbeats 6400000 in
theorem addressed_any (a : As) (v : Value) (ha : a.own.length = 6) (h : Hd) (ok : h.Ok) (w : World) :
  Calls Try.prog 48 #[.agg (cellsA a v).toArray, .agg (cellsH h).toArray] w fun e w' => e = .returned (.bool (addrF a h)) ∧ Ext w w' := by
 have H := kp (Loc.start w)
 have HOW := kp (cellsA_own v ha)
 have HP1 := kp (pH1 ok)
 have HP2 := kp (pH2 ok)
 have HP3 := kp (pH3 ok)
 have HZo := kp (sizeA8 ha)
 have HZ1 := kp (sizeA8 ok.l1)
 have HZ2 := kp (sizeA8 ok.l2)
 have HZ3 := kp (sizeA8 ok.l3)
 have he1 := eqAddr h.a1 a.own ok.l1 ha
 have he2 := neAddr h.a2 a.own ok.l2 ha
 have he3 := eqAddr h.a3 a.own ok.l3 ha
 go_enter Try.func48, Try.ntmps48
 go_wp2_with (first | ((with_reducible refine isBx 2 26 ?_); (with_reducible refine L_box H rfl 26 _ rfl (cellsA a v) rfl ?_); clear H; intro g2 w2 HGg2 HEg2 H; simp only [pA]) | (((with_reducible refine isBx 3 28 ?_); (with_reducible refine L_box H rfl 28 _ rfl (cellsH h) rfl ?_); clear H; intro g3 w3 HGg3 HEg3 H; simp only [pA]); have hc0 := run_load_cell H.out 0 rfl 0 _ rfl; have hc2 := run_load_cell H.out 0 rfl 2 _ rfl; have hc3 := run_load_cell H.out 0 rfl 3 _ rfl) | ((with_reducible refine isLd 23 ?_); (first | (refine L_subG H (by kernel_rfl) 23 _ rfl 0 rfl (10) rfl (h.a1.map V8) (HP1.out) Try.underlying23 rfl (HZ1.out) ?_) | (refine L_subG H (by kernel_rfl) 23 _ rfl 1 rfl (10) rfl (h.a1.map V8) (HP1.out) Try.underlying23 rfl (HZ1.out) ?_) | (refine L_subG H (by kernel_rfl) 23 _ rfl 2 rfl (10) rfl (h.a1.map V8) (HP1.out) Try.underlying23 rfl (HZ1.out) ?_) | (refine L_subG H (by kernel_rfl) 23 _ rfl 3 rfl (10) rfl (h.a1.map V8) (HP1.out) Try.underlying23 rfl (HZ1.out) ?_) | (refine L_subG H (by kernel_rfl) 23 _ rfl 4 rfl (10) rfl (h.a1.map V8) (HP1.out) Try.underlying23 rfl (HZ1.out) ?_) | (refine L_subG H (by kernel_rfl) 23 _ rfl 5 rfl (10) rfl (h.a1.map V8) (HP1.out) Try.underlying23 rfl (HZ1.out) ?_)); simp only [pA]) | ((with_reducible refine isLd 23 ?_); (first | (refine L_subG H (by kernel_rfl) 23 _ rfl 0 rfl (16) rfl (h.a2.map V8) (HP2.out) Try.underlying23 rfl (HZ2.out) ?_) | (refine L_subG H (by kernel_rfl) 23 _ rfl 1 rfl (16) rfl (h.a2.map V8) (HP2.out) Try.underlying23 rfl (HZ2.out) ?_) | (refine L_subG H (by kernel_rfl) 23 _ rfl 2 rfl (16) rfl (h.a2.map V8) (HP2.out) Try.underlying23 rfl (HZ2.out) ?_) | (refine L_subG H (by kernel_rfl) 23 _ rfl 3 rfl (16) rfl (h.a2.map V8) (HP2.out) Try.underlying23 rfl (HZ2.out) ?_) | (refine L_subG H (by kernel_rfl) 23 _ rfl 4 rfl (16) rfl (h.a2.map V8) (HP2.out) Try.underlying23 rfl (HZ2.out) ?_) | (refine L_subG H (by kernel_rfl) 23 _ rfl 5 rfl (16) rfl (h.a2.map V8) (HP2.out) Try.underlying23 rfl (HZ2.out) ?_)); simp only [pA]) | ((with_reducible refine isLd 23 ?_); (first | (refine L_subG H (by kernel_rfl) 23 _ rfl 0 rfl (22) rfl (h.a3.map V8) (HP3.out) Try.underlying23 rfl (HZ3.out) ?_) | (refine L_subG H (by kernel_rfl) 23 _ rfl 1 rfl (22) rfl (h.a3.map V8) (HP3.out) Try.underlying23 rfl (HZ3.out) ?_) | (refine L_subG H (by kernel_rfl) 23 _ rfl 2 rfl (22) rfl (h.a3.map V8) (HP3.out) Try.underlying23 rfl (HZ3.out) ?_) | (refine L_subG H (by kernel_rfl) 23 _ rfl 3 rfl (22) rfl (h.a3.map V8) (HP3.out) Try.underlying23 rfl (HZ3.out) ?_) | (refine L_subG H (by kernel_rfl) 23 _ rfl 4 rfl (22) rfl (h.a3.map V8) (HP3.out) Try.underlying23 rfl (HZ3.out) ?_) | (refine L_subG H (by kernel_rfl) 23 _ rfl 5 rfl (22) rfl (h.a3.map V8) (HP3.out) Try.underlying23 rfl (HZ3.out) ?_)); simp only [pA]) | ((with_reducible refine isLd 23 ?_); (first | (refine L_subG H (by kernel_rfl) 23 _ rfl 0 rfl (0) rfl (a.own.map V8) (HOW.out) Try.underlying23 rfl (HZo.out) ?_) | (refine L_subG H (by kernel_rfl) 23 _ rfl 1 rfl (0) rfl (a.own.map V8) (HOW.out) Try.underlying23 rfl (HZo.out) ?_) | (refine L_subG H (by kernel_rfl) 23 _ rfl 2 rfl (0) rfl (a.own.map V8) (HOW.out) Try.underlying23 rfl (HZo.out) ?_) | (refine L_subG H (by kernel_rfl) 23 _ rfl 3 rfl (0) rfl (a.own.map V8) (HOW.out) Try.underlying23 rfl (HZo.out) ?_) | (refine L_subG H (by kernel_rfl) 23 _ rfl 4 rfl (0) rfl (a.own.map V8) (HOW.out) Try.underlying23 rfl (HZo.out) ?_) | (refine L_subG H (by kernel_rfl) 23 _ rfl 5 rfl (0) rfl (a.own.map V8) (HOW.out) Try.underlying23 rfl (HZo.out) ?_)); simp only [pA]))
 all_goals (go_ret; exact ⟨by simp [addrF, bne, *] <;> simp_all, H.out.1⟩)
def bothF (h : Hd) : Bool := h.kind == 2 && h.toDs && h.fromDs
def placesN (h : Hd) : Nat := if h.kind = 1 ∧ (h.sub = 12 ∨ h.sub = 13) then 1 else if h.kind = 1 then 2 else 3
def ptrs (g : Nat) : List Value := [.pointer (some ⟨g, 10, none⟩), .pointer (some ⟨g, 16, none⟩), .pointer (some ⟨g, 22, none⟩), .pointer (some ⟨g, 28, none⟩)]
def nil4 : List Value := [.pointer none, .pointer none, .pointer none, .pointer none]
def afterV (h : Hd) (g4 : Nat) : Value := if bothF h then .slice (some ⟨g4, 3, none⟩) 1 1 else .slice none 0 0
set_option maxHeartbeats 6400000 in
theorem places_any (h : Hd) (g : Nat) (w0 : World) (hg : Lc w0 g 28 (cellsH h)) :
  Calls Try.prog 65 #[.pointer (some ⟨g, 0, none⟩)] w0 fun e w' => ∃ g4, w0.heap.size ≤ g4 ∧ Lc w' g4 160 (ptrs g) ∧ Ext w0 w' ∧ e = .returned (.tuple #[.slice (some ⟨g4, 0, none⟩) (placesN h) 4, afterV h g4]) := by
 have H := kp (Loc.start w0)
 have HG := kp hg
 have HZ := kp (show (Try.prog.info? 160).map (·.size) = some (ptrs g).toArray.size by kernel_rfl)
 have HO := kp (show (ptrs g).toArray.all (·.oneCell') = true by simp [ptrs, Value.oneCell'])
 clear hg
 go_enter Try.func65, Try.ntmps65
 generalize h2 : (Code.region 2 _ _ : Code) = R2
 go_wp2_with fail
 refine region_free H (tabS [(5, fun vQ _ => vQ = .pointer (some ⟨g, 0, none⟩)), (6, fun vQ _ => vQ = .pointer (some ⟨g, 0, none⟩)), (7, fun vQ _ => vQ = .pointer (some ⟨g, 10, none⟩)), (8, fun vQ _ => vQ = .pointer (some ⟨g, 0, none⟩)), (9, fun vQ _ => vQ = .pointer (some ⟨g, 0, none⟩)), (10, fun vQ _ => vQ = .pointer (some ⟨g, 16, none⟩)), (11, fun vQ _ => vQ = .pointer (some ⟨g, 0, none⟩)), (12, fun vQ _ => vQ = .pointer (some ⟨g, 0, none⟩)), (13, fun vQ _ => vQ = .pointer (some ⟨g, 22, none⟩)), (14, fun vQ _ => vQ = .pointer (some ⟨g, 0, none⟩)), (15, fun vQ _ => vQ = .pointer (some ⟨g, 0, none⟩)), (16, fun vQ _ => vQ = .pointer (some ⟨g, 28, none⟩)), (17, fun vQ _ => vQ = .agg (ptrs g).toArray), (4, fun vQ wQ => ∃ g, vQ = .pointer (some ⟨g, 0, none⟩) ∧ w0.heap.size ≤ g ∧ Lc wQ g 160 nil4)]) [] (tabS_out _ _ (by simp only [List.forall_mem_cons, mono_eqO, true_and]; exact ⟨(fun _ _ _ ⟨g, h1, h2, h3⟩ hx => ⟨g, h1, h2, hx.lc h3 (by simp)⟩), by simp⟩)) 14 (by kernel_rfl) (by kernel_rfl) (by kernel_rfl) (by kernel_rfl) [] [] rfl rfl (by decide) (by decide) (by decide) trivial ?_
 simp only [List.take_succ_cons, List.take_zero]
 refine ⟨fun w_ o_ S_ => ?_, fun v5 => ?_⟩
 ·clear S_
  clear o_
  go_wp2_with fail
  exact kso
 simp only [pA]
 refine ⟨fun w_ o_ S_ => ?_, fun v6 => ?_⟩
 ·obtain rfl : v5 = .pointer (some ⟨g, 0, none⟩) := hsR S_ 5 rfl
  clear S_ o_
  go_wp2_with fail
  exact kso
 simp only [pA]
 refine ⟨fun w_ o_ S_ => ?_, fun v7 => ?_⟩
 ·obtain rfl : v6 = .pointer (some ⟨g, 0, none⟩) := hsR S_ 6 rfl
  clear S_ o_
  go_wp2_with fail
  exact kso
 simp only [pA]
 refine ⟨fun w_ o_ S_ => ?_, fun v8 => ?_⟩
 ·clear S_
  clear o_
  go_wp2_with fail
  exact kso
 simp only [pA]
 refine ⟨fun w_ o_ S_ => ?_, fun v9 => ?_⟩
 ·obtain rfl : v8 = .pointer (some ⟨g, 0, none⟩) := hsR S_ 8 rfl
  clear S_ o_
  go_wp2_with fail
  exact kso
 simp only [pA]
 refine ⟨fun w_ o_ S_ => ?_, fun v10 => ?_⟩
 ·obtain rfl : v9 = .pointer (some ⟨g, 0, none⟩) := hsR S_ 9 rfl
  clear S_ o_
  go_wp2_with fail
  exact kso
 simp only [pA]
 refine ⟨fun w_ o_ S_ => ?_, fun v11 => ?_⟩
 ·clear S_
  clear o_
  go_wp2_with fail
  exact kso
 simp only [pA]
 refine ⟨fun w_ o_ S_ => ?_, fun v12 => ?_⟩
 ·obtain rfl : v11 = .pointer (some ⟨g, 0, none⟩) := hsR S_ 11 rfl
  clear S_ o_
  go_wp2_with fail
  exact kso
 simp only [pA]
 refine ⟨fun w_ o_ S_ => ?_, fun v13 => ?_⟩
 ·obtain rfl : v12 = .pointer (some ⟨g, 0, none⟩) := hsR S_ 12 rfl
  clear S_ o_
  go_wp2_with fail
  exact kso
 simp only [pA]
 refine ⟨fun w_ o_ S_ => ?_, fun v14 => ?_⟩
 ·clear S_
  clear o_
  go_wp2_with fail
  exact kso
 simp only [pA]
 refine ⟨fun w_ o_ S_ => ?_, fun v15 => ?_⟩
 ·obtain rfl : v14 = .pointer (some ⟨g, 0, none⟩) := hsR S_ 14 rfl
  clear S_ o_
  go_wp2_with fail
  exact kso
 simp only [pA]
 refine ⟨fun w_ o_ S_ => ?_, fun v16 => ?_⟩
 ·obtain rfl : v15 = .pointer (some ⟨g, 0, none⟩) := hsR S_ 15 rfl
  clear S_ o_
  go_wp2_with fail
  exact kso
 simp only [pA]
 refine ⟨fun w_ o_ S_ => ?_, fun v17 => ?_⟩
 ·obtain rfl : v7 = .pointer (some ⟨g, 10, none⟩) := hsR S_ 7 rfl
  obtain rfl : v10 = .pointer (some ⟨g, 16, none⟩) := hsR S_ 10 rfl
  obtain rfl : v13 = .pointer (some ⟨g, 22, none⟩) := hsR S_ 13 rfl
  obtain rfl : v16 = .pointer (some ⟨g, 28, none⟩) := hsR S_ 16 rfl
  clear S_ o_
  go_wp2_with fail
  exact kso
 simp only [pA]
 refine ⟨fun w_ o_ S_ => ?_, fun v4 => ?_⟩
 ·clear S_
  have H := kp (kK [] H o_)
  have HOX := kp o_
  clear o_
  go_wp2_with ((with_reducible refine isAl 4 160 ?_); (with_reducible refine L_alloc H rfl 160 rfl (nil4) (fun _ _ => by kernel_rfl) ?_); clear H; intro g4 w4 HGg4 HEg4 H; simp only [pA])
  exact ⟨rfl, .pointer (some ⟨g4, 0, none⟩), rfl, fun d hd => by cases hd; exact ⟨g4, rfl, (by rw [HGg4.out]; exact HOX.out.size), H.out.at 0 rfl⟩, HEg4.out⟩
 simp only [pA]
 clear H
 intro w1 HOX H hfin
 obtain rfl : v5 = .pointer (some ⟨g, 0, none⟩) := hfin 5 (by decide)
 obtain rfl : v6 = .pointer (some ⟨g, 0, none⟩) := hfin 6 (by decide)
 obtain rfl : v7 = .pointer (some ⟨g, 10, none⟩) := hfin 7 (by decide)
 obtain rfl : v8 = .pointer (some ⟨g, 0, none⟩) := hfin 8 (by decide)
 obtain rfl : v9 = .pointer (some ⟨g, 0, none⟩) := hfin 9 (by decide)
 obtain rfl : v10 = .pointer (some ⟨g, 16, none⟩) := hfin 10 (by decide)
 obtain rfl : v11 = .pointer (some ⟨g, 0, none⟩) := hfin 11 (by decide)
 obtain rfl : v12 = .pointer (some ⟨g, 0, none⟩) := hfin 12 (by decide)
 obtain rfl : v13 = .pointer (some ⟨g, 22, none⟩) := hfin 13 (by decide)
 obtain rfl : v14 = .pointer (some ⟨g, 0, none⟩) := hfin 14 (by decide)
 obtain rfl : v15 = .pointer (some ⟨g, 0, none⟩) := hfin 15 (by decide)
 obtain rfl : v16 = .pointer (some ⟨g, 28, none⟩) := hfin 16 (by decide)
 obtain rfl : v17 = .agg (ptrs g).toArray := hfin 17 (by decide)
 have F4 := kp (show ∃ g, v4 = .pointer (some ⟨g, 0, none⟩) ∧ w0.heap.size ≤ g ∧ Lc w1 g 160 nil4 from hfin 4 (by decide))
 clear hfin
 simp only [List.drop_succ_cons, List.drop_zero]
 simp only [applyS] at H
 have HXN := kp (HOX.out.ext (Ext.refl w0) (fun g hg => by cases hg))
 obtain ⟨g4, rfl, hge, hl4⟩ := F4.out
 have HA := kp (H.out.add w0.heap.size (fun g hg => by cases hg) (Nat.le_refl _) hge hl4)
 have HGE := kp hge
 have HGw := kp (HG.out.ext HXN.out)
 have hne : g < g4 := Nat.lt_of_lt_of_le HG.out.lt hge
 clear H F4 hl4 hge
 have H := HA
 clear HA
 go_wp2_with (first | ((with_reducible refine isSt 160 ?_); (first | (refine L_store H rfl rfl 160 _ _ rfl 0 rfl rfl (ptrs g) rfl (HZ.out) (rfl) (HO.out) ?_; clear H; intro w5 HWw5 H; simp only [szA] at H) | (refine L_store H rfl rfl 160 _ _ rfl 1 rfl rfl (ptrs g) rfl (HZ.out) (rfl) (HO.out) ?_; clear H; intro w5 HWw5 H; simp only [ssA, szA] at H) | (refine L_store H rfl rfl 160 _ _ rfl 2 rfl rfl (ptrs g) rfl (HZ.out) (rfl) (HO.out) ?_; clear H; intro w5 HWw5 H; simp only [ssA, szA] at H) | (refine L_store H rfl rfl 160 _ _ rfl 3 rfl rfl (ptrs g) rfl (HZ.out) (rfl) (HO.out) ?_; clear H; intro w5 HWw5 H; simp only [ssA, szA] at H) | (refine L_store H rfl rfl 160 _ _ rfl 4 rfl rfl (ptrs g) rfl (HZ.out) (rfl) (HO.out) ?_; clear H; intro w5 HWw5 H; simp only [ssA, szA] at H) | (refine L_store H rfl rfl 160 _ _ rfl 5 rfl rfl (ptrs g) rfl (HZ.out) (rfl) (HO.out) ?_; clear H; intro w5 HWw5 H; simp only [ssA, szA] at H))))
 have HGx := kp (show Lc w5 g 28 (cellsH h) by obtain ⟨ds, rfl⟩ := HWw5.out; exact HGw.out.other (Nat.ne_of_lt hne) ds)
 have hc0 := HGx.out.cell (show (cellsH h)[0]? = _ from rfl)
 have hc1 := HGx.out.cell (show (cellsH h)[1]? = _ from rfl)
 have hc2 := HGx.out.cell (show (cellsH h)[2]? = _ from rfl)
 have hc3 := HGx.out.cell (show (cellsH h)[3]? = _ from rfl)
 clear hne
 subst h2
 go_wp2_with fail
 all_goals try (go_ret2; exact ⟨g4, HGE.out, H.out.at 0 rfl, H.out.1, by simp [placesN, afterV, bothF, *] <;> simp_all⟩)
 clear hc0 hc1 hc2 hc3
 refine region_free H (tabS [(64, fun vQ _ => vQ = .slice (some ⟨g4, 0, none⟩) 3 4), (65, fun vQ _ => vQ = .slice (some ⟨g4, 3, none⟩) 1 1), (2, fun vQ _ => vQ = .slice (some ⟨g4, 0, none⟩) 3 4), (3, fun vQ _ => vQ = .slice (some ⟨g4, 3, none⟩) 1 1)]) [] (tabS_out _ _ (by simp only [List.forall_mem_cons, mono_eqO, true_and]; simp)) 4 (by kernel_rfl) (by kernel_rfl) (by kernel_rfl) (by kernel_rfl) [] [] rfl rfl (by decide) (by decide) (by decide) trivial ?_
 simp only [List.take_succ_cons, List.take_zero]
 refine ⟨fun w_ o_ S_ => ?_, fun v64 => ?_⟩
 ·clear S_
  clear o_
  go_wp2_with fail
  exact kso
 simp only [pA]
 refine ⟨fun w_ o_ S_ => ?_, fun v65 => ?_⟩
 ·clear S_
  clear o_
  go_wp2_with fail
  exact kso
 simp only [pA]
 refine ⟨fun w_ o_ S_ => ?_, fun v2 => ?_⟩
 ·obtain rfl : v64 = .slice (some ⟨g4, 0, none⟩) 3 4 := hsR S_ 64 rfl
  clear S_ o_
  go_wp2_with fail
  exact kso
 simp only [pA]
 refine ⟨fun w_ o_ S_ => ?_, fun v3 => ?_⟩
 ·obtain rfl : v65 = .slice (some ⟨g4, 3, none⟩) 1 1 := hsR S_ 65 rfl
  clear S_ o_
  go_wp2_with fail
  exact kso
 simp only [pA]
 clear H
 intro w6 HOX H hfin
 obtain rfl : v64 = .slice (some ⟨g4, 0, none⟩) 3 4 := hfin 64 (by decide)
 obtain rfl : v65 = .slice (some ⟨g4, 3, none⟩) 1 1 := hfin 65 (by decide)
 obtain rfl : v2 = .slice (some ⟨g4, 0, none⟩) 3 4 := hfin 2 (by decide)
 obtain rfl : v3 = .slice (some ⟨g4, 3, none⟩) 1 1 := hfin 3 (by decide)
 clear hfin
 simp only [List.drop_succ_cons, List.drop_zero]
 simp only [applyS] at H
 have HXN := kp (HOX.out.ext (Ext.refl w5) (fun g hg => by cases hg))
 go_wp2_with fail
 go_ret2
 exact ⟨g4, HGE.out, H.out.at 0 rfl, H.out.1, by simp [placesN, afterV, bothF, *] <;> simp_all⟩
end Go.Proofs.Ytfecopfofkdnpaa
