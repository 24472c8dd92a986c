/- Texts of this proof, put together: Seal, Blocks. -/
import Derived.Test.YtibncchobkaaiaaF4
import Derived.Test.YtibncchobkaaiaaF6
import Derived.RangeFuncNested
import Derived.RangeFuncBound
import Derived.RangeFuncCalls
import Derived.RangeFuncLeaves
import Derived.Shelf.Abstract
import Derived.Shelf.RegionOpen
import Derived.WalkKit
import Derived.OwnWalkIn
import Derived.TacticsInMore
import Derived.LoopNIn
import Derived.LoopIn
import Derived.Test.YtibncchobkaaiaaF1
namespace Go.Proofs.Ytibncchobkaaiaa
open Go.RowKit
def markF (m : BitVec 8) (nc : List (BitVec 8)) (n : Int) : List (BitVec 8) := m :: (nc ++ [BitVec.ofInt 8 n, BitVec.ofInt 8 (n / 256)])
theorem markF_len (m : BitVec 8) (nc : List (BitVec 8)) (h : nc.length = 13) (n : Int) : (markF m nc n).length = 16 := by simp [markF, h]
def streamF (ks nc : List (BitVec 8)) (i : Int) : List (BitVec 8) := encF ks (markF 1 nc i)
theorem streamF_len (ks nc : List (BitVec 8)) (i : Int) : (streamF ks nc i).length = 16 := encF_len _ _
theorem size107 : (Try.prog.info? 107).map (·.size) = some 13 := by kernel_rfl
theorem sizeN (l : List (BitVec 8)) (h : l.length = 13) : (Try.prog.info? 107).map (·.size) = some (l.map V8).toArray.size := by rw [size107]; simp [h]
set_option maxHeartbeats 1600000 in
theorem marked_any (m : BitVec 8) (nc : List (BitVec 8)) (hl : nc.length = 13) (n : Int) (w : World) :
  Calls Try.prog 94 #[.int .u8 (wI m), .agg (nc.map V8).toArray, .int .i64 n] w fun e w' => e = .returned (.agg ((markF m nc n).map V8).toArray) ∧ Ext w w' := by
 have HB := kp (sizeB _ (markF_len m nc hl n))
 have HL := kp hl
 have HNW := kp (show [V8 m, .int .u8 0, .int .u8 0, .int .u8 0, .int .u8 0, .int .u8 0, .int .u8 0, .int .u8 0, .int .u8 0, .int .u8 0, .int .u8 0, .int .u8 0, .int .u8 0, .int .u8 0, .int .u8 (n % 256), .int .u8 (n / 256 % 256)].take 1 ++ ((nc.map V8).take 13 ++ [V8 m, .int .u8 0, .int .u8 0, .int .u8 0, .int .u8 0, .int .u8 0, .int .u8 0, .int .u8 0, .int .u8 0, .int .u8 0, .int .u8 0, .int .u8 0, .int .u8 0, .int .u8 0, .int .u8 (n % 256), .int .u8 (n / 256 % 256)].drop (1 + 13)) = (markF m nc n).map V8 by
  rw [List.take_of_length_le (l := nc.map V8) (by simp [hl]), markF, List.map_cons, List.map_append, List.map_cons, List.map_cons, V8_ofInt, V8_ofInt]; rfl)
 have HZ := kp (show z16.size = ((markF m nc n).map V8).toArray.size from z16_size _ (markF_len m nc hl n))
 generalize markF m nc n = M at *
 clear hl
 go_enter Try.func94, Try.ntmps94
 go_wp2_with fail
 (refine region_f 2 (by kernel_rfl) (by kernel_rfl) (by kernel_rfl) (by kernel_rfl) (by decide) (Nat.le_of_ble_eq_true (by kernel_rfl)) ?_)
 apply Exists.intro
 refine ⟨fun xz2 => ?_, fun xq2 => ?_⟩
 ·simp only [List.take_succ_cons, List.take_zero]
  unfold Cx
  repeat (go_big_quiet_step (fail))
  exact wpQuiet_nil rfl
 simp only [List.drop_succ_cons, List.drop_zero]
 have HSX := kp (show SlB (more ((w.alloc (.cells (nc.map V8).toArray 107)).alloc (.cells #[V8 m, .int .u8 0, .int .u8 0, .int .u8 0, .int .u8 0, .int .u8 0, .int .u8 0, .int .u8 0, .int .u8 0, .int .u8 0, .int .u8 0, .int .u8 0, .int .u8 0, .int .u8 0, .int .u8 (n % 256), .int .u8 (n / 256 % 256)] 115)) xq2) (.slice (some ⟨w.heap.size, 0, none⟩) 13 13) nc by
  have h := SlB.of_block (l := nc) (cap := 13) (hp_more (x := xq2) (hp_alloc (o' := .cells #[V8 m, .int .u8 0, .int .u8 0, .int .u8 0, .int .u8 0, .int .u8 0, .int .u8 0, .int .u8 0, .int .u8 0, .int .u8 0, .int .u8 0, .int .u8 0, .int .u8 0, .int .u8 0, .int .u8 (n % 256), .int .u8 (n / 256 % 256)] 115) (hp_new w (.cells (nc.map V8).toArray 107))))
  rwa [HL.out] at h)
 go_wp2_with (first | ((with_reducible show wpList _ _ _ (Oper.mk _ (Op.call { callee := .builtin .copy, args := _, argTypes := _ }) _ _ _ _ :: _) _ _); (refine wpList_cpS rfl _ _ 33 33 rfl 5 Try.underlying33 size5 (w.heap.size + 1) (1) (15) (15) rfl _ rfl (nc) (HSX.out) ([V8 m, .int .u8 0, .int .u8 0, .int .u8 0, .int .u8 0, .int .u8 0, .int .u8 0, .int .u8 0, .int .u8 0, .int .u8 0, .int .u8 0, .int .u8 0, .int .u8 0, .int .u8 0, .int .u8 (n % 256), .int .u8 (n / 256 % 256)]) 115 (hp_more (hp_at _ _ _ (by simp))) (13) (by rw [HL.out]; rfl) (by simp) (M.map V8) (HNW.out) (by rewrite [setRow_more _ _ _ _ (by first | assumption | (simp <;> omega)), setRow_at _ _ _ _ _ _ (by simp <;> omega)]; rfl) ?_); simp only [pA]) | ((with_reducible refine isLd 115 ?_); (with_reducible refine wpList_load_row rfl 115 _ rfl (w.heap.size + 1) rfl 115 ((M.map V8).toArray) (0, 0) _ (hp_more (hp_at _ _ _ (by simp))) Try.underlying115 rfl (HB.out) ?_); simp only [pA]) | ((with_reducible refine isSt 115 ?_); with_reducible refine wpList_st_row rfl rfl 115 _ _ rfl (w.heap.size + 1) ((M.map V8).toArray) rfl rfl 115 ((M.map V8).toArray) (hp_more (hp_at _ _ _ (by simp))) (HB.out) (rfl) (all_V8 _) (by rewrite [setRow_more _ _ _ _ (by first | assumption | (simp <;> omega)), setRow_at _ _ _ _ _ _ (by simp <;> omega)]; rfl) ?_))
 exact ret_row Try.results94 (w.heap.size + 1) 115 ((M.map V8).toArray) (0, 0) _ rfl (hp_more (hp_at _ _ _ (by simp))) Try.underlying115 rfl (HB.out) rfl ⟨rfl, ((Ext.alloc _ _).trans (Ext.alloc _ _)).trans (Ext.more _ _)⟩
set_option maxHeartbeats 1600000 in
theorem stream_any (ks nc : List (BitVec 8)) (hk : ks.length = 16) (hl : nc.length = 13) (i : Int) (w : World) :
  Calls Try.prog 78 #[.agg (ks.map V8).toArray, .agg (nc.map V8).toArray, .int .i64 i] w fun e w' => e = .returned (.agg ((streamF ks nc i).map V8).toArray) ∧ Ext w w' := by
 have HK := kp (sizeK ks hk)
 have HN := kp (sizeN nc hl)
 have HS := kp (sizeB _ (streamF_len ks nc i))
 have HM := kp (fun w => marked_any 1 nc hl i w)
 have HE := kp (fun w => encrypt_any ks (markF 1 nc i) hk (markF_len 1 nc hl i) w)
 have HZ := kp (z16_size _ (streamF_len ks nc i))
 rw [show encF ks (markF 1 nc i) = streamF ks nc i from rfl] at HE
 generalize markF 1 nc i = M at *
 generalize streamF ks nc i = S at *
 clear hk hl
 go_enter Try.func78, Try.ntmps78
 go_wp2_with fail
 (refine region_f 5 (by kernel_rfl) (by kernel_rfl) (by kernel_rfl) (by kernel_rfl) (by decide) (Nat.le_of_ble_eq_true (by kernel_rfl)) ?_)
 apply Exists.intro
 refine ⟨fun xz2 => ?_, fun xq2 => ?_⟩
 ·simp only [List.take_succ_cons, List.take_zero]
  unfold Cx
  (((with_reducible show wpQuiet _ _ _ _ (Oper.mk _ (Op.load 25 _) _ _ _ _ :: _) _); go_big_quiet_want; with_reducible refine quiet_load_row 25 _ rfl (w.heap.size) rfl 25 ((ks.map V8).toArray) (0, 0) _ (fun _ hw => by obtain ⟨xx, rfl⟩ := hw; exact hp_more (hp_alloc (hp_alloc (hp_new _ _)))) Try.underlying25 rfl (HK.out) ?_; simp only [pA]; go_big_quiet_on); ((with_reducible show wpQuiet _ _ _ _ (Oper.mk _ (Op.load 107 _) _ _ _ _ :: _) _); go_big_quiet_want; with_reducible refine quiet_load_row 107 _ rfl (w.heap.size + 1) rfl 107 ((nc.map V8).toArray) (0, 0) _ (fun _ hw => by obtain ⟨xx, rfl⟩ := hw; exact hp_more (hp_alloc (hp_at _ _ _ (by simp)))) Try.underlying107 rfl (HN.out) ?_; simp only [pA]; go_big_quiet_on); go_big_quiet_step (fail); go_big_quiet_step (exact Calls.cx_of (HM.out _)); go_big_quiet_step (exact Calls.cx_of (HE.out _)))
  exact wpQuiet_nil rfl
 simp only [List.drop_succ_cons, List.drop_zero]
 go_wp2_with ((with_reducible refine isSt 115 ?_); with_reducible refine wpList_st_row rfl rfl 115 _ _ rfl (w.heap.size + 1 + 1) ((S.map V8).toArray) rfl rfl 115 (z16) (hp_more (hp_at _ _ _ (by simp))) (HS.out) (HZ.out) (all_V8 _) (by rewrite [setRow_more _ _ _ _ (by first | assumption | (simp <;> omega)), setRow_at _ _ _ _ _ _ (by simp <;> omega)]; rfl) ?_)
 exact ret_row Try.results78 (w.heap.size + 1 + 1) 115 ((S.map V8).toArray) (0, 0) _ rfl (hp_more (hp_at _ _ _ (by simp))) Try.underlying115 rfl (HS.out) rfl ⟨rfl, (((Ext.alloc _ _).trans (Ext.alloc _ _)).trans (Ext.alloc _ _)).trans (Ext.more _ _)⟩
def mixTo (l xs : List (BitVec 8)) : Nat → List (BitVec 8)
 | 0 => l
 | k + 1 => (mixTo l xs k).set k ((mixTo l xs k).getD k 0 ^^^ xs.getD k 0)
theorem mixTo_len (l xs : List (BitVec 8)) : ∀ k, (mixTo l xs k).length = l.length
 | 0 => rfl
 | k + 1 => by rw [mixTo, List.length_set]; exact mixTo_len l xs k
def mixF (l xs : List (BitVec 8)) : List (BitVec 8) := mixTo l xs (min l.length 16)
theorem mixF_len (l xs : List (BitVec 8)) : (mixF l xs).length = l.length := mixTo_len l xs _
theorem mix_next {w wr : World} {g i : Nat} {c c' : List Value} {o : Obj} {T : TypeId} {v : Value} (hg : g < w.heap.size) (HW : Ext ((w.setRow g c.toArray).alloc o) wr) (HR : wr.heap[g]? = some (.cells c.toArray T (0, 0))) (hs : c.set i v = c') : Ext ((w.setRow g c'.toArray).alloc o) (wr.setCell ⟨g, i, none⟩ v) := by
 rw [setRow_setCell v HR, List.setIfInBounds_toArray, hs]
 have h := ext_setRow2 HW (g := g) (by simp; omega) c'.toArray
 rwa [setRow_past _ _ _ _ (by rw [setRow_size]; exact hg), setRow_setRow] at h
set_option maxHeartbeats 1600000 in
theorem mix_any (xs : List (BitVec 8)) (hx : xs.length = 16) (g off n cap : Nat) (T : TypeId) (pre post : List Value) (l : List (BitVec 8)) (hp : pre.length = off) (hl : l.length = n) (hn : n ≤ 1000000000) (w : World) (hg : w.heap[g]? = some (.cells (pre ++ (l.map V8 ++ post)).toArray T (0, 0))) :
  Calls Try.prog 77 #[.slice (some ⟨g, off, none⟩) n cap, .agg (xs.map V8).toArray] w fun e w' => e = .returned (.tuple #[]) ∧ Ext (w.setRow g (pre ++ ((mixF l xs).map V8 ++ post)).toArray) w' := by
 have hgs : g < w.heap.size := by rw [Array.getElem?_eq_some_iff] at hg; exact hg.1
 have HG := kp hg
 have HL := kp hl
 have HX := kp hx
 have HP := kp hp
 obtain ⟨m, hm⟩ : ∃ m, m = min n 16 := ⟨_, rfl⟩
 have HM := kp hm
 have hm1 : m ≤ 16 := by omega
 have hm2 : m ≤ n := by omega
 have HM' := kp (show mixF l xs = mixTo l xs m by rw [mixF, hl, hm])
 rw [HM'.out]
 have HM2 := kp (fun k => mixTo_len l xs k)
 have hm3 : m = n ∨ (m = 16 ∧ 16 < n) := by omega
 clear hg hl hx hp HM' hm
 go_enter Try.func77, Try.ntmps77
 go_wp2_with fail
 all_goals
  go_loopw [8] (fun i wr => ∃ (k : Nat), k ≤ m ∧ i = .int .i64 k ∧ Kp (Ext ((w.setRow g (pre ++ ((mixTo l xs k).map V8 ++ post)).toArray).alloc (.cells (xs.map V8).toArray 115)) wr)) (fun i _ => m - (intOf i).toNat)
  case atStart => exact ⟨0, by omega, rfl, kp (by rw [mixTo, setRow_same HG.out]; exact Ext.refl _)⟩
  case round =>
   obtain ⟨k, hk, rfl, HW⟩ := hrel
   have HR := kp (ext_heap HW.out (hp_alloc (setRow_heap w g _ (pre ++ ((mixTo l xs k).map V8 ++ post)).toArray T (0, 0) HG.out)))
   have HXR := kp (ext_heap HW.out (hp_at (w.setRow g (pre ++ ((mixTo l xs k).map V8 ++ post)).toArray) (.cells (xs.map V8).toArray 115) w.heap.size (by rw [setRow_size])))
   have hgr : g < wr.heap.size := by have := HW.out.size; simp at this; omega
   have hwr : w.heap.size < wr.heap.size := by have := HW.out.size; simp at this; omega
   by_cases hlt : k < m
   ·have hltA : (k : Int) < 16 := by omega
    have hltB : (k : Int) < n := by omega
    obtain ⟨y, hy⟩ : ∃ y, (mixTo l xs k)[k]? = some y := ⟨(mixTo l xs k)[k]'(by rw [HM2.out, HL.out]; omega), by simp⟩
    obtain ⟨z, hz⟩ : ∃ z, xs[k]? = some z := ⟨xs[k]'(by rw [HX.out]; omega), by simp⟩
    have hat : (pre ++ ((mixTo l xs k).map V8 ++ post))[off + k]? = some (V8 y) := by
     rw [List.getElem?_append_right (by rw [HP.out]; omega), HP.out, Nat.add_sub_cancel_left, List.getElem?_append_left (by rw [List.length_map, HM2.out, HL.out]; omega), List.getElem?_map, hy]; rfl
    have hc1 : wr.cell? ⟨g, off + k, none⟩ = some (V8 y) := by
     rw [cell_of_row wr g (off + k) _ _ _ HR.out]; simpa using hat
    have hf1 : wr.frozen? ⟨g, off + k, none⟩ = false := by simp [World.frozen?, HR.out]
    have hc2 : wr.cell? ⟨w.heap.size, k, none⟩ = some (V8 z) := by
     rw [cell_of_row wr _ k _ _ _ HXR.out]; simp [hz]
    have HST := kp (show (pre ++ ((mixTo l xs k).map V8 ++ post)).set (off + k) (V8 (y ^^^ z)) = pre ++ ((mixTo l xs (k + 1)).map V8 ++ post) by
     rw [List.set_append_right _ _ (by rw [HP.out]; omega), HP.out, Nat.add_sub_cancel_left, List.set_append_left _ _ (by rw [List.length_map, HM2.out, HL.out]; omega), ← List.map_set, mixTo]
     simp [List.getD, hy, hz])
    clear hy hz hat
    go_wp2_with fail
    (refine region_f 9 (by kernel_rfl) (by kernel_rfl) (by kernel_rfl) (by kernel_rfl) (by decide) (Nat.le_of_ble_eq_true (by kernel_rfl)) ?_)
    apply Exists.intro
    refine ⟨fun xz2 => ?_, fun xq2 => ?_⟩
    ·simp only [List.take_succ_cons, List.take_zero]
     unfold Cx
     repeat (go_big_quiet_step (fail))
     exact wpQuiet_nil rfl
    simp only [List.drop_succ_cons, List.drop_zero]
    go_wp2_with fail
    go_roundw
    case rel => exact ⟨k + 1, by omega, by go_num, kp ((mix_next hgs HW.out HR.out HST.out).trans (Ext.more _ _))⟩
    case measure => simp [intOf]; omega
   ·obtain rfl : k = m := by omega
    first | have hge : ¬ (k : Int) < 16 := by omega | skip
    first | have hge : ¬ (k : Int) < n := by omega | skip
    go_wp2_with fail
    go_end0
    exact ⟨rfl, (Ext.alloc _ _).trans HW.out⟩
theorem mixF16 (ch xs : List (BitVec 8)) (h : ch.length = 16) : (mixF ch xs).length = 16 := by rw [mixF_len, h]
set_option maxHeartbeats 1600000 in
theorem next_any (ks ch xs : List (BitVec 8)) (hk : ks.length = 16) (hc : ch.length = 16) (hx : xs.length = 16) (gc gk : Nat) (hne : gk ≠ gc) (w : World) (hgc : w.heap[gc]? = some (.cells (ch.map V8).toArray 115 (0, 0))) (hgk : w.heap[gk]? = some (.cells (ks.map V8).toArray 25 (0, 0))) :
  Calls Try.prog 95 #[.agg (xs.map V8).toArray, .pointer (some ⟨gc, 0, none⟩), .pointer (some ⟨gk, 0, none⟩)] w fun e w' => e = .returned (.tuple #[]) ∧ Ext (w.setRow gc ((encF ks (mixF ch xs)).map V8).toArray) w' := by
 have h1 : gc < w.heap.size := by rw [Array.getElem?_eq_some_iff] at hgc; exact hgc.1
 have h2 : gk < w.heap.size := by rw [Array.getElem?_eq_some_iff] at hgk; exact hgk.1
 have HK := kp (sizeK ks hk)
 have HC := kp (sizeB ch hc)
 have HX := kp (sizeB xs hx)
 have HGC := kp hgc
 have HGK := kp hgk
 have HMX := kp (fun w (h : w.heap[gc]? = some (.cells (ch.map V8).toArray 115 (0, 0))) => mix_any xs hx gc 0 16 16 115 [] [] ch rfl hc (by omega) w (by simpa using h))
 simp only [List.nil_append, List.append_nil] at HMX
 have HMS := kp (sizeB _ (mixF16 ch xs hc))
 have HEN := kp (fun w => encrypt_any ks (mixF ch xs) hk (mixF16 ch xs hc) w)
 have HES := kp (sizeB _ (encF_len ks (mixF ch xs)))
 have HEZ := kp (show ((mixF ch xs).map V8).toArray.size = ((encF ks (mixF ch xs)).map V8).toArray.size by simp [mixF_len, hc, encF_len])
 generalize encF ks (mixF ch xs) = E at *
 generalize mixF ch xs = M at *
 clear hk hc hx hgc hgk
 go_enter Try.func95, Try.ntmps95
 go_wp2_with fail
 (refine region_f 2 (by kernel_rfl) (by kernel_rfl) (by kernel_rfl) (by kernel_rfl) (by decide) (Nat.le_of_ble_eq_true (by kernel_rfl)) ?_)
 apply Exists.intro
 refine ⟨fun xz2 => ?_, fun xq2 => ?_⟩
 ·simp only [List.take_succ_cons, List.take_zero]
  unfold Cx
  (go_big_quiet_step (fail); ((with_reducible show wpQuiet _ _ _ _ (Oper.mk _ (Op.load 115 _) _ _ _ _ :: _) _); go_big_quiet_want; with_reducible refine quiet_load_row 115 _ rfl (w.heap.size) rfl 115 ((xs.map V8).toArray) (0, 0) _ (fun _ hw => by obtain ⟨xx, rfl⟩ := hw; exact hp_more (hp_new _ _)) Try.underlying115 rfl (HX.out) ?_; simp only [pA]; go_big_quiet_on))
  exact wpQuiet_nil rfl
 simp only [List.drop_succ_cons, List.drop_zero]
 go_wp2_with fail
 refine (HMX.out _ (hp_more (hp_alloc HGC.out))).mono ?_
 rintro e w1 ⟨rfl, hx1⟩
 rw [setRow_more _ _ _ _ (by simp; omega), setRow_past _ _ _ _ h1] at hx1
 have HX1 := kp ((Ext.more _ _).trans hx1)
 have HG1 := kp (ext_heap HX1.out (hp_alloc (setRow_heap w gc _ (M.map V8).toArray 115 (0, 0) HGC.out)))
 have HK1 := kp (ext_heap HX1.out (hp_alloc ((setRow_other w gc gk (M.map V8).toArray hne).trans HGK.out)))
 have hs1 : gc < w1.heap.size := by have := HG1.out; rw [Array.getElem?_eq_some_iff] at this; exact this.1
 clear hx1
 go_wp2_with (first | ((with_reducible refine isLd 25 ?_); (with_reducible refine wpList_load_row rfl 25 _ rfl (gk) rfl 25 ((ks.map V8).toArray) (0, 0) _ (HK1.out) Try.underlying25 rfl (HK.out) ?_); simp only [pA]) | ((with_reducible refine isLd 115 ?_); (with_reducible refine wpList_load_row rfl 115 _ rfl (gc) rfl 115 ((M.map V8).toArray) (0, 0) _ (HG1.out) Try.underlying115 rfl (HMS.out) ?_); simp only [pA]) | (go_at_call 80; refine (HEN.out _).mono ?_; rintro e w' ⟨rfl, x2, rfl⟩) | ((with_reducible refine isSt 115 ?_); with_reducible refine wpList_st_row rfl rfl 115 _ _ rfl (gc) ((E.map V8).toArray) rfl rfl 115 ((M.map V8).toArray) (hp_more HG1.out) (HES.out) (HEZ.out) (all_V8 _) (by rewrite [setRow_more _ _ _ _ (by first | assumption | (simp <;> omega))]; rfl) ?_))
 go_end0
 refine ⟨rfl, ?_⟩
 have h9 := ext_setRow2 HX1.out (g := gc) (by simp; omega) (E.map V8).toArray
 rw [setRow_past _ _ _ _ (by rw [setRow_size]; exact h1), setRow_setRow] at h9
 exact ((Ext.alloc _ _).trans h9).trans (Ext.more _ _)
end Go.Proofs.Ytibncchobkaaiaa
namespace Go.Proofs.Ytibncchobkaaiaa
open Go.RowKit Go.Shelf
attribute [local go_sem] Oper.semAt_some
section
variable {F : Fence} {n : Nat} {P : Program} {ops : Array Oper} {rest : List Oper} {o : Oper} {a : Act} {w : World} {Q : Exit → Act → World → Prop}
theorem wpListIn_load_row (hgd : o.guard = none) (ty : TypeId) (x : Operand) (ho : o.op = .load ty x)
  (g : Nat) (hx : a.eval x = .pointer (some ⟨g, 0, none⟩)) (t : TypeId) (cs : Array Value) (fr : Nat × Nat) (d : TypeDesc) (hg : w.heap[g]? = some (.cells cs t fr))
  (hu : P.underlying ty = some d) (hd : (match d with | .struct _ | .array _ _ => true | _ => false) = true) (hi : (P.info? ty).map (·.size) = some cs.size)
  (h : wpListIn F n P ops Q rest (a.put o.dst (.agg cs)) w) : wpListIn F n P ops Q (o :: rest) a w := by
 refine wpListIn_plain hgd fun K hK => ?_
 unfold Oper.wpIn
 refine ⟨fun f hf => by simp [Oper.about, ho] at hf, ?_⟩
 rw [Oper.semAt_plain F _ _ (by rw [ho]; intro c hc; cases hc)]
 unfold execOp
 simp only [ho, hx, Instr.loadAt, Instr.sureAddr, Sem.run_bind, Sem.run_pure, Result.andThen_ok, run_loadVar_row w g t ty cs fr d hg hu hd hi]
 exact hK _ _ h
theorem wpListIn_st_row {w' : World} (hgd : o.guard = none) (hdst : o.dst = none) (ty : TypeId) (x y : Operand) (ho : o.op = .store ty x y)
  (g : Nat) (cells : Array Value) (hx : a.eval x = .pointer (some ⟨g, 0, none⟩)) (hy : a.eval y = .agg cells)
  (t : TypeId) (old : Array Value) (hg : w.heap[g]? = some (.cells old t (0, 0))) (hi : (P.info? ty).map (·.size) = some cells.size)
  (hold : old.size = cells.size) (h1 : cells.all (·.oneCell') = true) (hw : w.setRow g cells = w')
  (h : wpListIn F n P ops Q rest a w') : wpListIn F n P ops Q (o :: rest) a w := by
 refine wpListIn_plain hgd fun K hK => ?_
 unfold Oper.wpIn
 refine ⟨fun f hf => by simp [Oper.about, ho] at hf, ?_⟩
 rw [Oper.semAt_plain F _ _ (by rw [ho]; intro c hc; cases hc)]
 unfold execOp
 simp only [ho, hx, hy, Instr.storeAt, Instr.sureAddr, Sem.run_bind, Sem.run_pure, Result.andThen_ok, run_storeVar_row w g t ty old cells hg hi hold h1]
 rw [hw]
 refine hK _ _ ?_
 rw [hdst]; exact h
end
def KpB (C n : Nat) (W W' : World) : Prop := W.heap.size ≤ W'.heap.size ∧ ∀ k, k < n → k ≠ C → W'.heap[k]? = W.heap[k]?
theorem KpB.refl (C n : Nat) (W : World) : KpB C n W W := ⟨Nat.le_refl _, fun _ _ _ => rfl⟩
theorem KpB.trans {C n : Nat} {A B D : World} (h : KpB C n A B) (k : KpB C n B D) : KpB C n A D := ⟨Nat.le_trans h.1 k.1, fun j h1 h2 => (k.2 j h1 h2).trans (h.2 j h1 h2)⟩
theorem KpB.ext {C n : Nat} {A B : World} (h : Ext A B) (hn : n ≤ A.heap.size) : KpB C n A B := by
 obtain ⟨x, rfl⟩ := h
 exact ⟨by rw [more_size]; omega, fun k h1 _ => more_heap A x k (by omega)⟩
theorem KpB.setRow {C n : Nat} (A : World) (cs : Array Value) : KpB C n A (A.setRow C cs) := ⟨by rw [setRow_size]; exact Nat.le_refl _, fun k _ h => setRow_other A C k cs h⟩
theorem KpB.put {C n : Nat} {w : World} (hn : n ≤ w.heap.size) (W : World) (l : Nat) (o o' : Obj) (hl : w.heap.size ≤ l) (_ : W.heap[l]? = some o) (_ : o.isCells = false) (_ : o.isWalk = false) : KpB C n W (W.putObj l o') :=
 ⟨by simp [World.putObj], fun k h1 _ => World.putObj_heap_other (by omega)⟩
def CapOk (v : Value) : Prop := ∀ a len cap, v = .slice a len cap → len ≤ cap
def SlK (C n : Nat) (W : World) (v : Value) (l : List (BitVec 8)) : Prop := SlB W v l ∧ (∀ b off len cap, v = .slice (some ⟨b, off, none⟩) len cap → 0 < len → b ≠ C ∧ b < n) ∧ CapOk v
theorem SlK.keep {C n : Nat} {W W' : World} {v : Value} {l : List (BitVec 8)} (h : SlK C n W v l) (k : KpB C n W W') : SlK C n W' v l := by
 refine ⟨?_, h.2⟩
 rcases h.1 with h1 | ⟨b, off, cap, rfl, hb, hc⟩
 ·exact .inl h1
 ·by_cases h0 : l.length = 0
  ·obtain rfl : l = [] := List.eq_nil_of_length_eq_zero h0
   exact .inl ⟨rfl, .inr ⟨_, _, rfl⟩⟩
  ·obtain ⟨h3, h4⟩ := h.2.1 b off _ cap rfl (by omega)
   refine .inr ⟨b, off, cap, rfl, Nat.lt_of_lt_of_le hb k.1, fun j x hj => ?_⟩
   rw [World.cell?_of_block (w := W) (k.2 b h4 h3)]
   exact hc j x hj
def chunk (l : List (BitVec 8)) (k : Nat) : List (BitVec 8) := (l.drop (16 * k)).take 16 ++ List.replicate (16 - (l.length - 16 * k)) 0
theorem chunk_len (l : List (BitVec 8)) (k : Nat) : (chunk l k).length = 16 := by
 unfold chunk; rw [List.length_append, List.length_take, List.length_drop, List.length_replicate]; omega
def Blk := { l : List (BitVec 8) // l.length = 16 }
def blk (l : List (BitVec 8)) (k : Nat) : Blk := ⟨chunk l k, chunk_len l k⟩
def blocksTo (l : List (BitVec 8)) (k : Nat) : List Blk := (List.range k).map (blk l)
theorem blocksTo_succ (l : List (BitVec 8)) (k : Nat) : blocksTo l (k + 1) = blocksTo l k ++ [blk l k] := by simp [blocksTo, List.range_succ]
def blocksF (l : List (BitVec 8)) : List Blk := blocksTo l ((l.length + 15) / 16)
def blocksAll (ls : List (List (BitVec 8))) : List Blk := (ls.map blocksF).flatten
theorem blocksAll_take (ls : List (List (BitVec 8))) (k : Nat) (l : List (BitVec 8)) (h : ls[k]? = some l) : blocksAll (ls.take (k + 1)) = blocksAll (ls.take k) ++ blocksF l := by
 unfold blocksAll
 rw [List.take_add_one, h]; simp
theorem blocksAll_le (ls : List (List (BitVec 8))) (k : Nat) : (blocksAll (ls.take k)).length ≤ (blocksAll ls).length := by
 unfold blocksAll
 conv => rhs; rw [← List.take_append_drop k ls, List.map_append, List.flatten_append, List.length_append]
 omega
theorem blocks_lt (ls : List (List (BitVec 8))) (k j : Nat) (l : List (BitVec 8)) (h : blocksAll (ls.take (k + 1)) = blocksAll (ls.take k) ++ blocksF l) (hj : 16 * j < l.length) : (blocksAll (ls.take k) ++ blocksTo l j).length < (blocksAll ls).length := by
 have h1 := blocksAll_le ls (k + 1)
 rw [h] at h1
 simp [blocksF, blocksTo] at h1 ⊢
 omega
theorem J_alloc {β : Type} {B : Nat} {J : β → World → Prop} (h : AbidesFrom B J) {s : β} {W : World} (o : Obj) (hs : J s W) : J s (W.alloc o) :=
 h s W _ none hs (World.grownBy_alloc W o none) (fun r e => by cases e)
theorem SlK.cutEnd {C n : Nat} {W : World} {b off len nn : Nat} {l : List (BitVec 8)} {ad : Addr} (h : SlK C n W (.slice (some ⟨b, off, none⟩) len nn) l) : SlK C n W (.slice (some ad) (len - nn) 0) (l.drop nn) := by
 have h1 := h.2.2 _ _ _ rfl
 obtain ⟨a, c, h2⟩ := h.1.form
 cases h2
 rw [show l.length - nn = 0 by omega, List.drop_of_length_le (by omega)]
 exact ⟨.inl ⟨rfl, .inr ⟨_, _, rfl⟩⟩, fun _ _ _ _ e h0 => (by cases e; omega), fun _ _ _ e => by cases e; exact Nat.le_refl _⟩
theorem SlK.cut {C n : Nat} {W : World} {b off len cap nn : Nat} {l : List (BitVec 8)} (h : SlK C n W (.slice (some ⟨b, off, none⟩) len cap) l) (hn : nn ≤ len) : SlK C n W (.slice (some ⟨b, off + nn, none⟩) (len - nn) (cap - nn)) (l.drop nn) := by
 have h1 := h.2.2 _ _ _ rfl
 refine ⟨?_, fun b' off' len' cap' e h0 => ?_, fun _ _ _ e => by cases e; omega⟩
 ·rcases h.1 with ⟨rfl, h2 | ⟨a, c, h2⟩⟩ | ⟨b', off', cap', h2, hb, hc⟩
  ·cases h2
  ·cases h2
   exact .inl ⟨by simp, .inr ⟨⟨b, off + nn, none⟩, cap - nn, by simp⟩⟩
  ·cases h2
   refine .inr ⟨_, _, _, by rw [List.length_drop], hb, fun i x hi => ?_⟩
   rw [List.getElem?_drop] at hi
   rw [Nat.add_assoc]
   exact hc _ x hi
 ·cases e
  exact h.2.1 _ _ _ _ rfl (by omega)
def encB (x : Blk) : Array Value := #[.agg (x.1.map V8).toArray]
set_option maxHeartbeats 3200000 in
theorem blocks_stops (C n0 Bl Bs cap : Nat) (vs : List Value) (ls : List (List (BitVec 8))) (hn : vs.length ≤ 1000) (hls : ∀ l ∈ ls, l.length ≤ 1000000) (w : World) (hn0 : n0 ≤ w.heap.size)
  (hBl : w.heap[Bl]? = some (.cells #[.slice (some ⟨Bs, 0, none⟩) vs.length cap] 34 (0, 0))) (hlC : Bl ≠ C) (hl0 : Bl < n0)
  (hBs : w.heap[Bs]? = some (.cells vs.toArray 33 (0, 0))) (hsC : Bs ≠ C) (hs0 : Bs < n0)
  (hp : vs.length = ls.length ∧ ∀ (j : Nat) v l, vs[j]? = some v → ls[j]? = some l → SlK C n0 w v l) :
  SeqStopsK Fence.wide 2 Try.prog 110 #[.pointer (some ⟨Bl, 0, none⟩)] encB (KpB C n0) (fun ys => ys = blocksAll ls) (fun _ => True) (blocksAll ls).length w := by
 intro l J Jx W hW hJ hJx hY h0
 refine callsIn_wide.2 ?_
 have HY := kp hY
 have HJ := kp hJ
 have HP := kp hp
 have HLS := kp hls
 have HK0 := kp (show KpB C n0 w W from ⟨hW.size, fun k h1 h2 => hW.block k (by omega)⟩)
 have HBl := kp hBl
 have HBs := kp hBs
 clear hY hJ hJx hp hls hW hBl hBs
 obtain ⟨m, hm⟩ : ∃ m, m = vs.length := ⟨_, rfl⟩
 rw [← hm] at hn HBl
 have HM := kp hm
 clear hm
 have hcl : W.cell? ⟨Bl, 0, none⟩ = some (.slice (some ⟨Bs, 0, none⟩) m cap) := by
  rw [cell_of_row W Bl 0 _ _ _ ((HK0.out.2 Bl hl0 hlC).trans HBl.out)]; rfl
 have H0 := kp h0
 clear h0
 simp only [List.append_toArray, List.cons_append, List.nil_append]
 go_enter Try.func110, Try.ntmps110
 go_wp2_with fail
 go_loopw [8] (fun i wr => ∃ (k : Nat), k ≤ m ∧ i = .int .i64 k ∧ Kp (KpB C n0 w wr) ∧ Kp (J (blocksAll (ls.take k)) wr)) (fun i _ => m - (intOf i).toNat)
 case atStart => exact ⟨0, by omega, rfl, HK0, H0⟩
 case round =>
  obtain ⟨k, hk, rfl, HKr, HJr⟩ := hrel
  by_cases hlt : k < m
  ·obtain ⟨y, hy⟩ : ∃ y, vs[k]? = some y := ⟨vs[k]'(by rw [← HM.out]; omega), by simp⟩
   obtain ⟨b, hb⟩ : ∃ l, ls[k]? = some l := ⟨ls[k]'(by rw [← HP.out.1, ← HM.out]; omega), by simp⟩
   have HS := kp ((HP.out.2 k y b hy hb).keep HKr.out)
   have hc : wr.cell? ⟨Bs, k, none⟩ = some y := by
    rw [cell_of_row wr Bs k _ _ _ ((HKr.out.2 Bs hs0 hsC).trans HBs.out)]; simpa using hy
   have hbs : Bs < wr.heap.size := by have := HKr.out.1; omega
   obtain ⟨ay, cy, hyf⟩ := HS.out.1.form
   have HT := kp (blocksAll_take ls k b hb)
   have HLB := kp (HLS.out b (List.mem_of_getElem? hb))
   subst hyf
   clear hy hb
   go_wp2_with fail
   go_loopw [4] (fun v wq => ∃ (j len cap : Nat) (av : Option Addr), v = .slice av len cap ∧ Kp (len = b.length - 16 * j) ∧ 16 * j ≤ b.length + 15 ∧ Kp (SlK C n0 wq v (b.drop (16 * j))) ∧ Kp (KpB C n0 w wq) ∧ Kp (J (blocksAll (ls.take k) ++ blocksTo b j) wq)) (fun v _ => sliceLen v)
   case atStart => exact ⟨0, b.length, cy, ay, rfl, kp (by omega), by omega, kp (by simpa using HS.out), HKr, kp (by simpa [blocksTo] using HJr.out)⟩
   case round =>
    obtain ⟨j, len, cap2, av, rfl, HLEN, hj, HS2, HK2, HJ2⟩ := hrel
    have hlenb : len ≤ 1000000 := by have := HLEN.out; have := HLB.out; omega
    by_cases hpos : 0 < len
    ·have hposI : 0 < (len : Int) := by omega
     obtain ⟨bb, off, cp, hv, hbb, hcc⟩ : ∃ bb off cp, Value.slice av len cap2 = .slice (some ⟨bb, off, none⟩) (b.drop (16 * j)).length cp ∧ bb < wr.heap.size ∧ ∀ (i : Nat) x, (b.drop (16 * j))[i]? = some x → wr.cell? ⟨bb, off + i, none⟩ = some (V8 x) := by
      rcases HS2.out.1 with ⟨h1, _⟩ | h
      ·have := congrArg List.length h1; simp at this; have := HLEN.out; omega
      ·exact h
     simp only [Value.slice.injEq] at hv
     obtain ⟨rfl, hv2, rfl⟩ := hv
     have hcap : len ≤ cap2 := HS2.out.2.2 _ _ _ rfl
     have HSA := kp (HS2.out.1.ext (Ext.alloc wr (.cells z16 115)))
     obtain ⟨nn, hnn⟩ : ∃ nn, nn = min len 16 := ⟨_, rfl⟩
     have HNN := kp (show nn = Nat.min (b.drop (16 * j)).length 16 by rw [← hv2]; exact hnn)
     have HCH := kp (show ((List.replicate 16 (0 : BitVec 8)).map V8).take 0 ++ (((b.drop (16 * j)).map V8).take nn ++ ((List.replicate 16 (0 : BitVec 8)).map V8).drop (0 + nn)) = (chunk b j).map V8 by
      have hle := HLEN.out
      unfold chunk
      rw [List.take_zero, List.nil_append, Nat.zero_add, List.map_append, ← List.map_take, List.map_replicate, List.map_replicate, List.drop_replicate]
      by_cases h16 : len < 16
      ·rw [show nn = len by omega, hv2, List.take_of_length_le (Nat.le_refl _), List.take_of_length_le (l := b.drop (16 * j)) (by omega)]
       congr 2; rw [← hv2]; omega
      ·rw [show nn = 16 by omega, show 16 - (b.length - 16 * j) = 0 by omega])
     have hn1 : nn ≤ 16 := by omega
     have hn2 : nn ≤ len := by omega
     have hn3 : nn = len ∨ (nn = 16 ∧ 16 ≤ len) := by omega
     have hn4 : 0 < nn := by omega
     have HDR := kp (show (b.drop (16 * j)).drop nn = b.drop (16 * (j + 1)) by
      have hle := HLEN.out
      rw [List.drop_drop]
      rcases hn3 with h | h
      ·rw [List.drop_of_length_le (by omega), List.drop_of_length_le (by omega)]
      ·congr 1; omega)
     have HJA := kp (J_alloc HJ.out (.cells ((chunk b j).map V8).toArray 115) HJ2.out)
     have HKA := kp (HK2.out.trans (KpB.ext (Ext.alloc wr (.cells ((chunk b j).map V8).toArray 115)) (by have := HK2.out.1; omega)))
     have HLT := kp (blocks_lt ls k j b HT.out (by have hle := HLEN.out; omega))
     have HBC := kp (sizeB _ (chunk_len b j))
     clear hnn hcc hv2
     generalize h6 : (Code.region 6 _ _ : Code) = R6
     go_wp2_with ((with_reducible show wpList _ _ _ (Oper.mk _ (Op.call { callee := .builtin .copy, args := _, argTypes := _ }) _ _ _ _ :: _) _ _); (refine wpList_cpS rfl _ _ 33 33 rfl 5 Try.underlying33 size5 (wr.heap.size) (0) (16) (16) rfl _ rfl (b.drop (16 * j)) (HSA.out) ((List.replicate 16 (0 : BitVec 8)).map V8) 115 (hp_new _ _) (nn) (HNN.out) (by simp; omega) ((chunk b j).map V8) (HCH.out) (by rewrite [setRow_at _ _ _ _ _ _ (by simp <;> omega)]; rfl) ?_); simp only [pA])
     ·obtain rfl : cap2 = nn := by omega
      have HV := kp (show SlK C n0 (wr.alloc (.cells ((chunk b j).map V8).toArray 115)) (.slice (some ⟨bb, off, none⟩) (len - cap2) 0) (b.drop (16 * (j + 1))) by
       rw [← HDR.out]
       exact (HS2.out.cutEnd).keep (KpB.ext (Ext.alloc _ _) (by have := HK2.out.1; omega)))
      subst h6
      obtain ⟨fn, tmps, assign, body, hy, hR⟩ := HY.out _ (blk b j) _ HJA.out HLT.out
      simp only [encB, blk] at hy
      refine (wpIn_wide (n := 2)).1 ?_
      gi_wp2_with (with_reducible refine wpListIn_load_row rfl 115 _ rfl wr.heap.size rfl 115 ((chunk b j).map V8).toArray (0, 0) _ (hp_new _ _) Try.underlying115 rfl HBC.out ?_)
      refine hR.mono ?_
      rintro e W3 (⟨rfl, hJ3, hk3⟩ | ⟨rfl, hJx3⟩)
      ·have HJ3 := kp hJ3
       have HK3 := kp hk3
       clear hJ3 hk3 hy hR
       gi_wp2_with fail
       go_wp2_with fail
       go_roundw
       case rel => exact ⟨j + 1, 0, _, _, rfl, kp (by have hle := HLEN.out; omega), by have hle := HLEN.out; omega, kp (by have h := HV.out.keep HK3.out; rwa [show len - cap2 = 0 by omega] at h), kp (HKA.out.trans HK3.out), kp (by rw [blocksTo_succ, ← List.append_assoc]; exact HJ3.out)⟩
       case measure => simp [sliceLen]; omega
      ·have HJx3 := kp hJx3
       clear hJx3 hy hR
       gi_wp2_with fail
       go_wp2_with fail
       refine bodyPost_ret (results_none rfl _ _ _) rfl ?_
       exact ⟨⟨_, rfl⟩, .inr ⟨_, trivial, HJx3.out⟩⟩
     ·have HV := kp (show SlK C n0 (wr.alloc (.cells ((chunk b j).map V8).toArray 115)) (.slice (some ⟨bb, off + nn, none⟩) (len - nn) (cap2 - nn)) (b.drop (16 * (j + 1))) by
       rw [← HDR.out]
       exact (HS2.out.cut hn2).keep (KpB.ext (Ext.alloc _ _) (by have := HK2.out.1; omega)))
      subst h6
      obtain ⟨fn, tmps, assign, body, hy, hR⟩ := HY.out _ (blk b j) _ HJA.out HLT.out
      simp only [encB, blk] at hy
      refine (wpIn_wide (n := 2)).1 ?_
      gi_wp2_with (with_reducible refine wpListIn_load_row rfl 115 _ rfl wr.heap.size rfl 115 ((chunk b j).map V8).toArray (0, 0) _ (hp_new _ _) Try.underlying115 rfl HBC.out ?_)
      refine hR.mono ?_
      rintro e W3 (⟨rfl, hJ3, hk3⟩ | ⟨rfl, hJx3⟩)
      ·have HJ3 := kp hJ3
       have HK3 := kp hk3
       clear hJ3 hk3 hy hR
       gi_wp2_with fail
       go_wp2_with fail
       go_roundw
       case rel => exact ⟨j + 1, len - nn, _, _, rfl, kp (by have hle := HLEN.out; omega), by have hle := HLEN.out; omega, kp (HV.out.keep HK3.out), kp (HKA.out.trans HK3.out), kp (by rw [blocksTo_succ, ← List.append_assoc]; exact HJ3.out)⟩
       case measure => simp [sliceLen]; omega
      ·have HJx3 := kp hJx3
       clear hJx3 hy hR
       gi_wp2_with fail
       go_wp2_with fail
       refine bodyPost_ret (results_none rfl _ _ _) rfl ?_
       exact ⟨⟨_, rfl⟩, .inr ⟨_, trivial, HJx3.out⟩⟩
    ·obtain rfl : len = 0 := by omega
     have HB9 := kp (show blocksTo b j = blocksF b by
      have hle := HLEN.out
      rw [blocksF]; congr 1; omega)
     go_wp2_with fail
     go_roundw
     case rel => exact ⟨k + 1, by omega, by go_num, HK2, kp (by rw [HT.out, ← HB9.out]; exact HJ2.out)⟩
     case measure => simp [intOf]; omega
  ·obtain rfl : k = m := by omega
   have HT9 := kp (show ls.take k = ls from List.take_of_length_le (by rw [← HP.out.1, ← HM.out]; exact Nat.le_refl _))
   go_wp2_with fail
   go_end0
   exact ⟨⟨_, rfl⟩, .inl ⟨_, rfl, by rw [← HT9.out]; exact HJr.out⟩⟩
end Go.Proofs.Ytibncchobkaaiaa
