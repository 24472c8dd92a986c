/- The walk of CounterOrder. -/
import Derived.Test.YtjnaegpjhbobaaaLaw24a
import Derived.Test.YtjnaegpjhbobaaaPlain24
import Derived.Test.YtjnaegpjhbobaaaCeq
namespace Go.Proofs.Ytjnaegpjhbobaaa
open Go.RowKit

/-- A new variable of whatever type. -/
theorem wpList_al {P : Program} {ops : Array Oper} {rest : List Oper} {o : Oper} {a : Act} {w : World} {Q : Exit → Act → World → Prop} (hg : o.guard = none) (t : TypeId) (_ : o.op = .alloc t) (ob : Obj)
    (hrun : ∀ (e : Operand → Value) (w : World), (execOp e o).run P w = .ok (.value (.pointer (some ⟨w.heap.size, 0, none⟩))) (w.alloc ob))
    (h : wpList P ops Q rest (a.put o.dst (.pointer (some ⟨w.heap.size, 0, none⟩))) (w.alloc ob)) : wpList P ops Q (o :: rest) a w := by
  refine wpList_plain hg fun K hK => ?_
  unfold Oper.wp
  rw [hrun]
  exact hK _ _ h
theorem SlI.ext {w w' : World} {ad : Option Addr} {l : List Int} (h : SlI w ad l) (hx : Ext w w') : SlI w' ad l := by
  intro j x hj
  obtain ⟨b, off, rfl, hb, hc⟩ := h j x hj
  obtain ⟨y, rfl⟩ := hx
  exact ⟨b, off, rfl, by rw [more_size]; omega, by rw [more_cell w y b _ hb]; exact hc⟩
theorem set_zero (k : Nat) : zeroWs.set k (0, 0#64) = zeroWs := by
  apply List.ext_getElem? fun i => ?_
  rw [List.getElem?_set]
  split
  · rename_i h; subst h
    rcases k with _ | _ | _ | _ | _ | _ | _ | _ | _ | k <;> simp [zeroWs, w0]
  · rfl
theorem odd_zero : oddAt zeroWs = false := by decide
/-- Accept on a window of otherwise empty counters. -/
theorem accept_ord {fr t : Int} {s : BitVec 64} {sn : List Bool} (h : Ord fr t s sn) (h1 : 1 ≤ fr) (h2 : fr ≤ 281474976710591) (d : Nat) (hd : d ≤ 64) (hl : sn.length = 65) (k : Nat) (hk : k < 9) :
    (sn.getD d false = true → acceptF 0 (zeroWs.set k (t, s)) k (fr + d) = ((0, zeroWs), 32)) ∧
    (sn.getD d false = false → ∃ t' s', acceptF 0 (zeroWs.set k (t, s)) k (fr + d) = ((0, zeroWs.set k (t', s')), 0) ∧ Ord fr t' s' (sn.set d true)) := by
  have hv := h.valid h1 (by omega)
  have hck : checkF 0 (zeroWs.set k (t, s)) = 0 := checkF_of _ (oddAt_set _ _ _ odd_zero hv) 0 (by omega) (by omega)
  obtain ⟨s1, s2⟩ := h.step h1 d hd hl
  have hzl : zeroWs.length = 9 := rfl
  have hx : (zeroWs.set k (t, s))[k]? = some (t, s) := by
    rw [List.getElem?_set_self (by rw [hzl]; exact hk)]
  have hu : acceptF 0 (zeroWs.set k (t, s)) k (fr + d) = if (takeF t s (fr + d)).2 = true then ((0, (zeroWs.set k (t, s)).set k (takeF t s (fr + d)).1), 0) else ((0, zeroWs), 32) := by
    unfold acceptF
    rw [hck, if_neg (by decide), if_neg (by unfold most; omega), Int.toNat_natCast, hx]
  constructor
  · intro hs
    rw [hu, s1, hs]; simp
  · intro hs
    refine ⟨(takeF t s (fr + d)).1.1, (takeF t s (fr + d)).1.2, ?_, s2 hs⟩
    rw [hu, s1, hs]
    simp [List.set_set]

theorem orderOut (fr tid : Int) (ad : Option Addr) (n cap : Nat) (hn : n ≤ 9223372036854775807) (w : World) (ho : fr < 1 ∨ 281474976710591 < fr ∨ tid < 0 ∨ 8 < tid ∨ 200 < n) :
    Calls Try.prog 3 #[.int .i64 fr, .int .i64 tid, .slice ad n cap] w fun e w' => e = .returned (.bool true) ∧ Ext w w' := by
  by_cases h1 : fr < 1
  case pos =>
    go_enter Try.func3, Try.ntmps3
    go_wp2_with (go_at_call 10; refine (alive_any _).mono ?_; rintro e w' ⟨rfl, xa, rfl⟩)
    go_ret
    exact ⟨rfl, Ext.more _ _⟩
  by_cases h2 : 281474976710591 < fr
  case pos =>
    go_enter Try.func3, Try.ntmps3
    go_wp2_with (go_at_call 10; refine (alive_any _).mono ?_; rintro e w' ⟨rfl, xa, rfl⟩)
    go_ret
    exact ⟨rfl, Ext.more _ _⟩
  by_cases h3 : tid < 0
  case pos =>
    go_enter Try.func3, Try.ntmps3
    go_wp2_with (go_at_call 10; refine (alive_any _).mono ?_; rintro e w' ⟨rfl, xa, rfl⟩)
    go_ret
    exact ⟨rfl, Ext.more _ _⟩
  by_cases h4 : 8 < tid
  case pos =>
    go_enter Try.func3, Try.ntmps3
    go_wp2_with (go_at_call 10; refine (alive_any _).mono ?_; rintro e w' ⟨rfl, xa, rfl⟩)
    go_ret
    exact ⟨rfl, Ext.more _ _⟩
  have h5 : 200 < n := by omega
  have h6 : 200 < (n : Int) := by omega
  go_enter Try.func3, Try.ntmps3
  go_wp2_with (go_at_call 10; refine (alive_any _).mono ?_; rintro e w' ⟨rfl, xa, rfl⟩)
  go_ret
  exact ⟨rfl, Ext.more _ _⟩

abbrev snC (sn : List Bool) : Array Value := (sn.map Value.bool).toArray
set_option maxHeartbeats 3200000 in
theorem orderIn (fr : Int) (tid : Nat) (ad : Option Addr) (ds : List Int) (cap : Nat) (w : World) (hs : SlI w ad ds) (h1 : 1 ≤ fr) (h2 : fr ≤ 281474976710591) (h3 : tid < 9) (h5 : ds.length ≤ 200) :
    Calls Try.prog 3 #[.int .i64 fr, .int .i64 tid, .slice ad ds.length cap] w fun e w' => e = .returned (.bool true) ∧ Ext w w' := by
  have HS0 := kp hs
  obtain ⟨n, hnn⟩ : ∃ n, n = ds.length := ⟨_, rfl⟩
  rw [← hnn] at h5 ⊢
  have HN := kp hnn
  clear hnn hs
  have h1' : ¬ fr < 1 := by omega
  have h2' : ¬ 281474976710591 < fr := by omega
  have h3' : ¬ (tid : Int) < 0 := by omega
  have h4' : ¬ 8 < (tid : Int) := by omega
  have h5' : ¬ 200 < (n : Int) := by omega
  go_enter Try.func3, Try.ntmps3
  go_wp2_with (first | ((with_reducible refine wpList_al rfl 30 rfl (.cells (snC (List.replicate 65 false)) 30) (fun _ _ => by kernel_rfl) ?_); simp only [Act.put, List.setIfInBounds_toArray, List.set_cons_zero, List.set_cons_succ, World.size_alloc, more_size]) | (go_at_call 10; refine (alive_any _).mono ?_; rintro e w' ⟨rfl, xa, rfl⟩))
  have HS := kp (HS0.out.ext (Ext.more w xa))
  clear HS0
  have HXA := kp (Ext.more w xa)
  rw [show w.heap.size + xa.blocks.size = (more w xa).heap.size from (more_size ..).symm]
  generalize more w xa = W at *
  go_loopw [10] (fun i wr => ∃ (k : Nat) (t : Int) (s : BitVec 64) (sn : List Bool) (x : Xtra), k ≤ n ∧ i = .int .i64 k ∧ Kp (sn.length = 65 ∧ Ord fr t s sn) ∧ wr = more ((W.alloc (.cells (cellsC 0 (zeroWs.set tid (t, s))).toArray 29)).alloc (.cells (snC sn) 30)) x) (fun i _ => n - (intOf i).toNat)
  case atStart =>
    refine ⟨0, 0, 0#64, List.replicate 65 false, ⟨#[], W.drawn⟩, by omega, rfl, kp ⟨by simp, .inl ⟨rfl, rfl, fun d => ?_⟩⟩, ?_⟩
    · simp only [List.getD, List.getElem?_replicate]; split <;> rfl
    · rw [show zeroWs.set tid (0, 0#64) = zeroWs from set_zero tid]
      exact more_self _
  case round =>
    obtain ⟨k, t, s, sn, x, hk, rfl, HT, rfl⟩ := hrel
    have hlz : ∀ y, (zeroWs.set tid y).length = 9 := fun y => by simp [zeroWs]
    have HSC := kp (sizeC 0 (zeroWs.set tid (t, s)) (hlz _))
    by_cases hlt : k < n
    · obtain ⟨d, hd⟩ : ∃ d, ds[k]? = some d := ⟨ds[k]'(by rw [← HN.out]; omega), by simp⟩
      obtain ⟨b, off, rfl, hb, hcell⟩ := HS.out k d hd
      have hb1 : b < W.heap.size + 1 := by omega
      have hb2 : b < W.heap.size + 1 + 1 := by omega
      have hb3 : b < W.heap.size + 1 + 1 + x.blocks.size := by omega
      clear hd
      by_cases hd1 : d < 0
      case pos =>
        go_wp2_with fail
        go_ret
        exact ⟨rfl, HXA.out.trans (((Ext.alloc _ _).trans (Ext.alloc _ _)).trans (Ext.more _ _))⟩
      by_cases hd2 : 64 < d
      case pos =>
        go_wp2_with fail
        go_ret
        exact ⟨rfl, HXA.out.trans (((Ext.alloc _ _).trans (Ext.alloc _ _)).trans (Ext.more _ _))⟩
      obtain ⟨m, rfl⟩ : ∃ m : Nat, d = m := ⟨d.toNat, by omega⟩
      have hm : m ≤ 64 := by omega
      have hm65 : m < 65 := by omega
      have ACC := kp (accept_ord HT.out.2 h1 h2 m hm HT.out.1 tid h3)
      have hml : m < sn.length := by rw [HT.out.1]; exact hm65
      have HO2 := kp (fun y => all_cellsC 0 (zeroWs.set tid y))
      have HA0 := kp (fun w => accept_any 0 (zeroWs.set tid (t, s)) tid (fr + m) (hlz _) w)
      cases hsm : sn.getD m false
      case false =>
        have hcs : (sn.map Value.bool)[m]? = some (.bool false) := by
          rw [List.getElem?_map, List.getElem?_eq_getElem hml]
          have h : sn[m] = false := by simpa [List.getD, List.getElem?_eq_getElem hml] using hsm
          rw [h]; rfl
        obtain ⟨t2, s2, hacc, hord⟩ := ACC.out.2 hsm
        have HA := HA0
        rw [hacc] at HA
        unfold RetAcc at HA
        dsimp only at HA
        have HORD := kp (show (sn.set m true).length = 65 ∧ Ord fr t2 s2 (sn.set m true) from ⟨by simp [HT.out.1], hord⟩)
        have HS2 := kp (sizeC 0 (zeroWs.set tid (t2, s2)) (hlz _))
        have HE := kp (zeroC_size 0 (zeroWs.set tid (t2, s2)) (hlz _))
        have HO := kp (all_cellsC 0 (zeroWs.set tid (t2, s2)))
        have HEE := kp (show (cellsC 0 (zeroWs.set tid (t, s))).toArray.size = (cellsC 0 (zeroWs.set tid (t2, s2))).toArray.size by simp [cellsC_len, hlz])
        clear hacc hord hsm HA0 hml
        go_wp2_with fail
        refine region_late 12 11 13 67 29 29 (zeroC) ((cellsC 0 (zeroWs.set tid (t2, s2))).toArray) (by kernel_rfl) (by kernel_rfl) (by kernel_rfl) (by kernel_rfl) (by intro o ho; cases ho; exact ⟨rfl, rfl, by simp, fun _ _ => by kernel_rfl⟩) (by intro o ho; cases ho; exact ⟨rfl, rfl, rfl, by decide⟩) (by kernel_rfl) (by decide) (by decide) (by decide) (HS2.out) (HE.out) (HO.out) (((W.alloc (.cells (cellsC 0 (zeroWs.set tid (t, s))).toArray 29)).alloc (.cells (snC sn) 30))) (.inr ⟨_, rfl⟩) ?_
        apply Exists.intro
        refine ⟨fun xz2 => ?_, ?_, fun xm2 xq2 => ?_⟩
        · simp only [List.eraseIdx_cons_succ, List.eraseIdx_cons_zero]
          unfold Cx
          repeat (first | (go_big_quiet_want; with_reducible refine quiet_load_row 29 _ rfl (W.heap.size) rfl 29 ((cellsC 0 (zeroWs.set tid (t, s))).toArray) (0, 0) _ (fun _ hw => by obtain ⟨xx, rfl⟩ := hw; exact hp_more (hp_alloc (hp_new _ _))) Try.underlying29 rfl (HSC.out) ?_; simp only [Act.put, List.setIfInBounds_toArray, List.set_cons_zero, List.set_cons_succ]; go_big_quiet_on) | go_big_quiet_step (exact Calls.cx_of (HA.out _)))
          exact wpQuiet_nil rfl
        · rfl
        simp only [Act.put, List.setIfInBounds_toArray, List.set_cons_zero, List.set_cons_succ, World.size_alloc]
        try simp only [more_size]
        have hb4 : b < W.heap.size + 1 + 1 + xm2.blocks.size := by omega
        have hb5 : b < W.heap.size + 1 + 1 + xm2.blocks.size + 1 := by omega
        go_wp2_with (first | ((with_reducible refine wpList_load_row rfl 29 _ rfl (_) rfl 29 ((cellsC 0 (zeroWs.set tid (t2, s2))).toArray) (0, 0) _ (hp_more (hp_at _ _ _ (by simp))) Try.underlying29 rfl (HS2.out) ?_); simp only [Act.put, List.setIfInBounds_toArray, List.set_cons_zero, List.set_cons_succ]) | with_reducible refine wpList_st_row rfl rfl 29 _ _ rfl (W.heap.size) ((cellsC 0 (zeroWs.set tid (t2, s2))).toArray) rfl rfl 29 (_) (hp_more (hp_alloc (hp_more (hp_alloc (hp_new _ _))))) (HS2.out) (HEE.out) (HO.out) (by rewrite [setRow_more _ _ _ _ (by simp <;> omega), setRow_past _ _ _ _ (by simp <;> omega), setRow_more _ _ _ _ (by simp <;> omega), setRow_past _ _ _ _ (by simp <;> omega), setRow_at _ _ _ _ _ _ (by simp <;> omega)]; rfl) ?_)
        go_roundw
        case rel => exact ⟨k + 1, t2, s2, sn.set m true, _, by omega, by go_num, HORD, by rw [alloc_more (more _ _), more_more, more_more]; simp only [snC, List.map_set]; rfl⟩
        case measure => simp [intOf]; omega
      case true =>
        have hcs : (sn.map Value.bool)[m]? = some (.bool true) := by
          rw [List.getElem?_map, List.getElem?_eq_getElem hml]
          have h : sn[m] = true := by simpa [List.getD, List.getElem?_eq_getElem hml] using hsm
          rw [h]; rfl
        have HID := kp (show sn.set m true = sn by
          apply List.ext_getElem? fun i => ?_
          rw [List.getElem?_set]
          split
          · rename_i h; subst h
            have h : sn[m] = true := by simpa [List.getD, List.getElem?_eq_getElem hml] using hsm
            simp [List.getElem?_eq_getElem hml, h]
          · rfl)
        have HIDM := kp (show (sn.map Value.bool).set m (.bool true) = sn.map Value.bool by rw [← List.map_set (f := Value.bool), HID.out])
        have HA := HA0
        rw [ACC.out.1 hsm] at HA
        unfold RetAcc at HA
        dsimp only at HA
        have HS2 := kp (sizeC 0 zeroWs rfl)
        have HE := kp (zeroC_size 0 zeroWs rfl)
        have HO := kp (all_cellsC 0 zeroWs)
        clear hsm HA0 hml
        go_wp2_with fail
        refine region_late 12 11 13 67 29 29 (zeroC) ((cellsC 0 zeroWs).toArray) (by kernel_rfl) (by kernel_rfl) (by kernel_rfl) (by kernel_rfl) (by intro o ho; cases ho; exact ⟨rfl, rfl, by simp, fun _ _ => by kernel_rfl⟩) (by intro o ho; cases ho; exact ⟨rfl, rfl, rfl, by decide⟩) (by kernel_rfl) (by decide) (by decide) (by decide) (HS2.out) (HE.out) (HO.out) (((W.alloc (.cells (cellsC 0 (zeroWs.set tid (t, s))).toArray 29)).alloc (.cells (snC sn) 30))) (.inr ⟨_, rfl⟩) ?_
        apply Exists.intro
        refine ⟨fun xz3 => ?_, ?_, fun xm3 xq3 => ?_⟩
        · simp only [List.eraseIdx_cons_succ, List.eraseIdx_cons_zero]
          unfold Cx
          repeat (first | (go_big_quiet_want; with_reducible refine quiet_load_row 29 _ rfl (W.heap.size) rfl 29 ((cellsC 0 (zeroWs.set tid (t, s))).toArray) (0, 0) _ (fun _ hw => by obtain ⟨xx, rfl⟩ := hw; exact hp_more (hp_alloc (hp_new _ _))) Try.underlying29 rfl (HSC.out) ?_; simp only [Act.put, List.setIfInBounds_toArray, List.set_cons_zero, List.set_cons_succ]; go_big_quiet_on) | go_big_quiet_step (exact Calls.cx_of (HA.out _)))
          exact wpQuiet_nil rfl
        · rfl
        simp only [Act.put, List.setIfInBounds_toArray, List.set_cons_zero, List.set_cons_succ, World.size_alloc]
        try simp only [more_size]
        have hb4 : b < W.heap.size + 1 + 1 + xm3.blocks.size := by omega
        have hb5 : b < W.heap.size + 1 + 1 + xm3.blocks.size + 1 := by omega
        go_wp2_with fail
        go_roundw
        case rel => exact ⟨k + 1, t, s, sn, _, by omega, by go_num, HT, by rw [HIDM.out, alloc_more (more _ _), more_more, more_more]⟩
        case measure => simp [intOf]; omega
    · obtain rfl : k = n := by omega
      go_wp2_with fail
      go_ret
      exact ⟨rfl, HXA.out.trans (((Ext.alloc _ _).trans (Ext.alloc _ _)).trans (Ext.more _ _))⟩
theorem counterOrder.walk (fr : Int) (_ : (Lit.int .i64 fr).wf = true) (tid : Int) (_ : (Lit.int .i64 tid).wf = true) (ad : Option Addr) (ds : List Int) (cap : Nat) (hn : ds.length ≤ 9223372036854775807) (w : World) (hs : SlI w ad ds) :
    Calls Try.prog 3 #[.int .i64 fr, .int .i64 tid, .slice ad ds.length cap] w fun e w' => e = .returned (.bool true) ∧ Ext w w' := by
  by_cases h : fr < 1 ∨ 281474976710591 < fr ∨ tid < 0 ∨ 8 < tid ∨ 200 < ds.length
  · exact orderOut fr tid ad ds.length cap hn w h
  · obtain ⟨k, rfl⟩ : ∃ k : Nat, tid = k := ⟨tid.toNat, by omega⟩
    exact orderIn fr k ad ds cap w hs (by omega) (by omega) (by omega) (by omega)
end Go.Proofs.Ytjnaegpjhbobaaa
