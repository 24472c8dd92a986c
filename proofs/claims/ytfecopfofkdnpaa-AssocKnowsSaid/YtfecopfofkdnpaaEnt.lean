/- Entries of stations: checkEntry, the numbers of members, the holder of an identifier. -/
import Derived.Test.YtfecopfofkdnpaaNum
import Derived.Test.YtfecopfofkdnpaaEqS
namespace Go.Proofs.Ytfecopfofkdnpaa
open Go.RowKit
theorem cE0 {e : En} (h : e.addr.length = 6) : ((cellsE e).drop 0).take (e.addr.map V8).length = e.addr.map V8 := by
  obtain ⟨_, _, _, _, _, _, h1⟩ := six h; simp [cellsE, h1]
theorem cE6 {e : En} (h : e.addr.length = 6) : (cellsE e)[6]? = some (.int .u8 e.state) := by
  obtain ⟨_, _, _, _, _, _, h1⟩ := six h; simp [cellsE, h1]
theorem cE7 {e : En} (h : e.addr.length = 6) : (cellsE e)[7]? = some (.int .i64 e.aid) := by
  obtain ⟨_, _, _, _, _, _, h1⟩ := six h; simp [cellsE, h1]
theorem cE8 {e : En} (h : e.addr.length = 6) : (cellsE e)[8]? = some (.int .i64 e.caps) := by
  obtain ⟨_, _, _, _, _, _, h1⟩ := six h; simp [cellsE, h1]
theorem cE9 {e : En} (h : e.addr.length = 6) : (cellsE e)[9]? = some (.int .i64 e.listen) := by
  obtain ⟨_, _, _, _, _, _, h1⟩ := six h; simp [cellsE, h1]
theorem cE10 {e : En} (h : e.addr.length = 6) : (cellsE e)[10]? = some (.int .i64 e.seen) := by
  obtain ⟨_, _, _, _, _, _, h1⟩ := six h; simp [cellsE, h1]
theorem cellsE_len {e : En} (h : e.addr.length = 6) : (cellsE e).length = 11 := by simp [cellsE, h]
theorem sizeE {e : En} (h : e.addr.length = 6) : (Try.prog.info? 39).map (·.size) = some (cellsE e).length := by
  rw [cellsE_len h]; kernel_rfl
theorem sizeEa {e : En} (h : e.addr.length = 6) : (Try.prog.info? 39).map (·.size) = some (cellsE e).toArray.size := by
  rw [List.size_toArray]; exact sizeE h
theorem one_cellsE (e : En) : (cellsE e).toArray.all (·.oneCell') = true := by
  simp [cellsE, Value.oneCell', List.all_map]
set_option maxHeartbeats 1600000 in
theorem checkEntry_any (s : En) (hs : s.addr.length = 6) (w : World) :
    Calls Try.prog 53 #[.agg (cellsE s).toArray] w fun e w' => e = .returned (.bool (entF s)) ∧ Ext w w' := by
  have H := kp (Loc.start w)
  have HG := kp (group_any s.addr hs)
  have HM := kp (moment_any s.seen)
  have HW := kp within_any
  have HP := kp (cE0 hs)
  have HZ := kp (sizeA8 hs)
  have H6 := kp (cE6 hs)
  have H7 := kp (cE7 hs)
  have H8 := kp (cE8 hs)
  have H9 := kp (cE9 hs)
  have H10 := kp (cE10 hs)
  clear hs
  go_enter Try.func53, Try.ntmps53
  go_wp2_with (first | (((with_reducible show wpList _ _ _ (Oper.mk (some 1) (Op.box 39 _) _ _ _ _ :: _) _ _); (with_reducible refine L_box H rfl 39 _ rfl (cellsE s) rfl ?_); clear H; intro g1 w1 HGg1 HEg1 H; simp only [Act.put, List.setIfInBounds_toArray, List.set_cons_zero, List.set_cons_succ]); have hc6 := run_load_cell H.out 0 rfl _ _ H6.out; have hc7 := run_load_cell H.out 0 rfl _ _ H7.out; have hc8 := run_load_cell H.out 0 rfl _ _ H8.out; have hc9 := run_load_cell H.out 0 rfl _ _ H9.out; have hc10 := run_load_cell H.out 0 rfl _ _ H10.out) | ((with_reducible show wpList _ _ _ (Oper.mk _ (Op.load 23 _) _ _ _ _ :: _) _ _); (first | (refine L_subG H (by kernel_rfl) 23 _ rfl 0 rfl (0) rfl (s.addr.map V8) (HP.out) Try.underlying23 rfl (HZ.out) ?_) | (refine L_subG H (by kernel_rfl) 23 _ rfl 1 rfl (0) rfl (s.addr.map V8) (HP.out) Try.underlying23 rfl (HZ.out) ?_) | (refine L_subG H (by kernel_rfl) 23 _ rfl 2 rfl (0) rfl (s.addr.map V8) (HP.out) Try.underlying23 rfl (HZ.out) ?_) | (refine L_subG H (by kernel_rfl) 23 _ rfl 3 rfl (0) rfl (s.addr.map V8) (HP.out) Try.underlying23 rfl (HZ.out) ?_) | (refine L_subG H (by kernel_rfl) 23 _ rfl 4 rfl (0) rfl (s.addr.map V8) (HP.out) Try.underlying23 rfl (HZ.out) ?_) | (refine L_subG H (by kernel_rfl) 23 _ rfl 5 rfl (0) rfl (s.addr.map V8) (HP.out) Try.underlying23 rfl (HZ.out) ?_)); simp only [Act.put, List.setIfInBounds_toArray, List.set_cons_zero, List.set_cons_succ]) | (go_at_call 51; clear hc6 hc7 hc8 hc9 hc10; refine (HG.out _).mono ?_; rintro e wa ⟨rfl, hx⟩; have H2 := kp (H.out.ext hx); have HXC := kp hx; clear H hx; have H := H2; clear H2; have hc6 := run_load_cell H.out 0 rfl _ _ H6.out; have hc7 := run_load_cell H.out 0 rfl _ _ H7.out; have hc8 := run_load_cell H.out 0 rfl _ _ H8.out; have hc9 := run_load_cell H.out 0 rfl _ _ H9.out; have hc10 := run_load_cell H.out 0 rfl _ _ H10.out) | (go_at_call 56; clear hc6 hc7 hc8 hc9 hc10; refine (HM.out _).mono ?_; rintro e wa ⟨rfl, hx⟩; have H2 := kp (H.out.ext hx); have HXC := kp hx; clear H hx; have H := H2; clear H2; have hc6 := run_load_cell H.out 0 rfl _ _ H6.out; have hc7 := run_load_cell H.out 0 rfl _ _ H7.out; have hc8 := run_load_cell H.out 0 rfl _ _ H8.out; have hc9 := run_load_cell H.out 0 rfl _ _ H9.out; have hc10 := run_load_cell H.out 0 rfl _ _ H10.out) | (go_at_call 52; clear hc6 hc7 hc8 hc9 hc10; refine (HW.out _ _ _ _).mono ?_; rintro e wa ⟨rfl, hx⟩; have H2 := kp (H.out.ext hx); have HXC := kp hx; clear H hx; have H := H2; clear H2; have hc6 := run_load_cell H.out 0 rfl _ _ H6.out; have hc7 := run_load_cell H.out 0 rfl _ _ H7.out; have hc8 := run_load_cell H.out 0 rfl _ _ H8.out; have hc9 := run_load_cell H.out 0 rfl _ _ H9.out; have hc10 := run_load_cell H.out 0 rfl _ _ H10.out))
  all_goals (go_ret; exact ⟨by simp [entF, *] <;> simp_all, H.out.1⟩)
end Go.Proofs.Ytfecopfofkdnpaa
