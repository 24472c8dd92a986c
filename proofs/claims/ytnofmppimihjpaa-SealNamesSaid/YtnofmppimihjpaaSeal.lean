/- Contracts of seal.marked, seal.Stream, seal.mix and the closure of seal.Code. -/
import Derived.Test.YtnofmppimihjpaaComB
import Derived.Test.YtnofmppimihjpaaLate
namespace Go.Proofs.Ytnofmppimihjpaa
open Go.RowKit

/-- The block with a mark, a nonce and a number. -/
def markF (m : BitVec 8) (nc : List (BitVec 8)) (n : Int) : List (BitVec 8) := m :: (nc ++ [BitVec.ofInt 8 n, BitVec.ofInt 8 (n / 256)])
theorem markF_len (m : BitVec 8) (nc : List (BitVec 8)) (h : nc.length = 13) (n : Int) : (markF m nc n).length = 16 := by simp [markF, h]
def streamF (ks nc : List (BitVec 8)) (i : Int) : List (BitVec 8) := encF ks (markF 1 nc i)
theorem streamF_len (ks nc : List (BitVec 8)) (i : Int) : (streamF ks nc i).length = 16 := encF_len _ _
theorem size24 : (Try.prog.info? 24).map (·.size) = some 13 := by kernel_rfl
theorem sizeN (l : List (BitVec 8)) (h : l.length = 13) : (Try.prog.info? 24).map (·.size) = some (l.map V8).toArray.size := by rw [size24]; simp [h]

set_option maxHeartbeats 1600000 in
theorem marked_any (m : BitVec 8) (nc : List (BitVec 8)) (hl : nc.length = 13) (n : Int) (w : World) :
    Calls Try.prog 24 #[.int .u8 (wI m), .agg (nc.map V8).toArray, .int .i64 n] w fun e w' => e = .returned (.agg ((markF m nc n).map V8).toArray) ∧ Ext w w' := by
  have HB := kp (sizeB _ (markF_len m nc hl n))
  have HL := kp hl
  have HNW := kp (show [V8 m, .int .u8 0, .int .u8 0, .int .u8 0, .int .u8 0, .int .u8 0, .int .u8 0, .int .u8 0, .int .u8 0, .int .u8 0, .int .u8 0, .int .u8 0, .int .u8 0, .int .u8 0, .int .u8 (n % 256), .int .u8 (n / 256 % 256)].take 1 ++ ((nc.map V8).take 13 ++ [V8 m, .int .u8 0, .int .u8 0, .int .u8 0, .int .u8 0, .int .u8 0, .int .u8 0, .int .u8 0, .int .u8 0, .int .u8 0, .int .u8 0, .int .u8 0, .int .u8 0, .int .u8 0, .int .u8 (n % 256), .int .u8 (n / 256 % 256)].drop (1 + 13)) = (markF m nc n).map V8 by
    rw [List.take_of_length_le (l := nc.map V8) (by simp [hl]), markF, List.map_cons, List.map_append, List.map_cons, List.map_cons, V8_ofInt, V8_ofInt]; rfl)
  have HZ := kp (show z16.size = ((markF m nc n).map V8).toArray.size from z16_size _ (markF_len m nc hl n))
  generalize markF m nc n = M at *
  clear hl
  go_enter Try.func24, Try.ntmps24
  go_wp2_with fail
  (first | with_reducible refine region_f2 2 (by kernel_rfl) (by kernel_rfl) (by kernel_rfl) (by kernel_rfl) (by decide) (Nat.le_of_ble_eq_true (by kernel_rfl)) ?_ | refine region_f 2 (by kernel_rfl) (by kernel_rfl) (by kernel_rfl) (by kernel_rfl) (by decide) (Nat.le_of_ble_eq_true (by kernel_rfl)) ?_)
  apply Exists.intro
  refine ⟨fun xz2 => ?_, fun xq2 => ?_⟩
  · simp only [List.take_succ_cons, List.take_zero]
    unfold Cx
    repeat (go_big_quiet_step (fail))
    exact wpQuiet_nil rfl
  simp only [List.drop_succ_cons, List.drop_zero]
  have HSX := kp (show SlB (more ((w.alloc (.cells (nc.map V8).toArray 24)).alloc (.cells #[V8 m, .int .u8 0, .int .u8 0, .int .u8 0, .int .u8 0, .int .u8 0, .int .u8 0, .int .u8 0, .int .u8 0, .int .u8 0, .int .u8 0, .int .u8 0, .int .u8 0, .int .u8 0, .int .u8 (n % 256), .int .u8 (n / 256 % 256)] 38)) xq2) (.slice (some ⟨w.heap.size, 0, none⟩) 13 13) nc by
    have h := SlB.of_block (l := nc) (cap := 13) (hp_more (x := xq2) (hp_alloc (o' := .cells #[V8 m, .int .u8 0, .int .u8 0, .int .u8 0, .int .u8 0, .int .u8 0, .int .u8 0, .int .u8 0, .int .u8 0, .int .u8 0, .int .u8 0, .int .u8 0, .int .u8 0, .int .u8 0, .int .u8 (n % 256), .int .u8 (n / 256 % 256)] 38) (hp_new w (.cells (nc.map V8).toArray 24))))
    rwa [HL.out] at h)
  go_wp2_with (first | ((with_reducible show wpList _ _ _ (Oper.mk _ (Op.call { callee := .builtin .copy, args := _, argTypes := _ }) _ _ _ _ :: _) _ _); (refine wpList_cpS rfl _ _ 25 25 rfl 5 Try.underlying25 size5 (w.heap.size + 1) (1) (15) (15) rfl _ rfl (nc) (HSX.out) ([V8 m, .int .u8 0, .int .u8 0, .int .u8 0, .int .u8 0, .int .u8 0, .int .u8 0, .int .u8 0, .int .u8 0, .int .u8 0, .int .u8 0, .int .u8 0, .int .u8 0, .int .u8 0, .int .u8 (n % 256), .int .u8 (n / 256 % 256)]) 38 (hp_more (hp_at _ _ _ (by simp))) (13) (by rw [HL.out]; rfl) (by simp) (M.map V8) (HNW.out) (by rewrite [setRow_more _ _ _ _ (by first | assumption | (simp <;> omega)), setRow_at _ _ _ _ _ _ (by simp <;> omega)]; rfl) ?_); simp only [Act.put, List.setIfInBounds_toArray, List.set_cons_zero, List.set_cons_succ]) | ((with_reducible show wpList _ _ _ (Oper.mk _ (Op.load 38 _) _ _ _ _ :: _) _ _); (with_reducible refine wpList_load_row rfl 38 _ rfl (w.heap.size + 1) rfl 38 ((M.map V8).toArray) (0, 0) _ (hp_more (hp_at _ _ _ (by simp))) Try.underlying38 rfl (HB.out) ?_); simp only [Act.put, List.setIfInBounds_toArray, List.set_cons_zero, List.set_cons_succ]) | ((with_reducible show wpList _ _ _ (Oper.mk none (Op.store 38 _ _) _ _ _ _ :: _) _ _); with_reducible refine wpList_st_row rfl rfl 38 _ _ rfl (w.heap.size + 1) ((M.map V8).toArray) rfl rfl 38 ((M.map V8).toArray) (hp_more (hp_at _ _ _ (by simp))) (HB.out) (rfl) (all_V8 _) (by rewrite [setRow_more _ _ _ _ (by first | assumption | (simp <;> omega)), setRow_at _ _ _ _ _ _ (by simp <;> omega)]; rfl) ?_))
  exact ret_row Try.results24 (w.heap.size + 1) 38 ((M.map V8).toArray) (0, 0) _ rfl (hp_more (hp_at _ _ _ (by simp))) Try.underlying38 rfl (HB.out) rfl ⟨rfl, ((Ext.alloc _ _).trans (Ext.alloc _ _)).trans (Ext.more _ _)⟩

set_option maxHeartbeats 1600000 in
theorem stream_any (ks nc : List (BitVec 8)) (hk : ks.length = 16) (hl : nc.length = 13) (i : Int) (w : World) :
    Calls Try.prog 17 #[.agg (ks.map V8).toArray, .agg (nc.map V8).toArray, .int .i64 i] w fun e w' => e = .returned (.agg ((streamF ks nc i).map V8).toArray) ∧ Ext w w' := by
  have HK := kp (sizeK ks hk)
  have HN := kp (sizeN nc hl)
  have HS := kp (sizeB _ (streamF_len ks nc i))
  have HM := kp (fun w => marked_any 1 nc hl i w)
  have HE := kp (fun w => encrypt_any ks (markF 1 nc i) hk (markF_len 1 nc hl i) w)
  have HZ := kp (z16_size _ (streamF_len ks nc i))
  rw [show encF ks (markF 1 nc i) = streamF ks nc i from rfl] at HE
  generalize markF 1 nc i = M at *
  generalize streamF ks nc i = S at *
  clear hk hl
  go_enter Try.func17, Try.ntmps17
  go_wp2_with fail
  (first | with_reducible refine region_f2 5 (by kernel_rfl) (by kernel_rfl) (by kernel_rfl) (by kernel_rfl) (by decide) (Nat.le_of_ble_eq_true (by kernel_rfl)) ?_ | refine region_f 5 (by kernel_rfl) (by kernel_rfl) (by kernel_rfl) (by kernel_rfl) (by decide) (Nat.le_of_ble_eq_true (by kernel_rfl)) ?_)
  apply Exists.intro
  refine ⟨fun xz2 => ?_, fun xq2 => ?_⟩
  · simp only [List.take_succ_cons, List.take_zero]
    unfold Cx
    (((with_reducible show wpQuiet _ _ _ _ (Oper.mk _ (Op.load 23 _) _ _ _ _ :: _) _); go_big_quiet_want; with_reducible refine quiet_load_row 23 _ rfl (w.heap.size) rfl 23 ((ks.map V8).toArray) (0, 0) _ (fun _ hw => by obtain ⟨xx, rfl⟩ := hw; exact hp_more (hp_alloc (hp_alloc (hp_new _ _)))) Try.underlying23 rfl (HK.out) ?_; simp only [Act.put, List.setIfInBounds_toArray, List.set_cons_zero, List.set_cons_succ]; go_big_quiet_on); ((with_reducible show wpQuiet _ _ _ _ (Oper.mk _ (Op.load 24 _) _ _ _ _ :: _) _); go_big_quiet_want; with_reducible refine quiet_load_row 24 _ rfl (w.heap.size + 1) rfl 24 ((nc.map V8).toArray) (0, 0) _ (fun _ hw => by obtain ⟨xx, rfl⟩ := hw; exact hp_more (hp_alloc (hp_at _ _ _ (by simp)))) Try.underlying24 rfl (HN.out) ?_; simp only [Act.put, List.setIfInBounds_toArray, List.set_cons_zero, List.set_cons_succ]; go_big_quiet_on); go_big_quiet_step (fail); go_big_quiet_step (exact Calls.cx_of (HM.out _)); go_big_quiet_step (exact Calls.cx_of (HE.out _)))
    exact wpQuiet_nil rfl
  simp only [List.drop_succ_cons, List.drop_zero]
  go_wp2_with ((with_reducible show wpList _ _ _ (Oper.mk none (Op.store 38 _ _) _ _ _ _ :: _) _ _); with_reducible refine wpList_st_row rfl rfl 38 _ _ rfl (w.heap.size + 1 + 1) ((S.map V8).toArray) rfl rfl 38 (z16) (hp_more (hp_at _ _ _ (by simp))) (HS.out) (HZ.out) (all_V8 _) (by rewrite [setRow_more _ _ _ _ (by first | assumption | (simp <;> omega)), setRow_at _ _ _ _ _ _ (by simp <;> omega)]; rfl) ?_)
  exact ret_row Try.results17 (w.heap.size + 1 + 1) 38 ((S.map V8).toArray) (0, 0) _ rfl (hp_more (hp_at _ _ _ (by simp))) Try.underlying38 rfl (HS.out) rfl ⟨rfl, (((Ext.alloc _ _).trans (Ext.alloc _ _)).trans (Ext.alloc _ _)).trans (Ext.more _ _)⟩

/-- Bytes with a block put into them: what is behind k of them. -/
def mixTo (l xs : List (BitVec 8)) : Nat → List (BitVec 8)
  | 0 => l
  | k + 1 => (mixTo l xs k).set k ((mixTo l xs k).getD k 0 ^^^ xs.getD k 0)
theorem mixTo_len (l xs : List (BitVec 8)) : ∀ k, (mixTo l xs k).length = l.length
  | 0 => rfl
  | k + 1 => by rw [mixTo, List.length_set]; exact mixTo_len l xs k
def mixF (l xs : List (BitVec 8)) : List (BitVec 8) := mixTo l xs (min l.length 16)
theorem mixF_len (l xs : List (BitVec 8)) : (mixF l xs).length = l.length := mixTo_len l xs _
theorem setRow_same {w : World} {g : Nat} {cs : Array Value} {t : TypeId} {fr : Nat × Nat} (h : w.heap[g]? = some (.cells cs t fr)) : w.setRow g cs = w := by
  unfold World.setRow
  congr 1
  refine Array.ext_getElem? fun j => ?_
  rw [Array.getElem?_modify]
  split
  · subst_vars; rw [h]; rfl
  · rfl
theorem setRow_setRow (w : World) (g : Nat) (cs cs' : Array Value) : (w.setRow g cs).setRow g cs' = w.setRow g cs' := by
  unfold World.setRow
  congr 1
  refine Array.ext_getElem? fun j => ?_
  simp only [Array.getElem?_modify]
  split
  · cases w.heap[j]? with
    | none => rfl
    | some o => cases o <;> rfl
  · rfl
theorem setRow_size (w : World) (g : Nat) (cs : Array Value) : (w.setRow g cs).heap.size = w.heap.size := by simp [World.setRow]
theorem setRow_setCell {w : World} {g i : Nat} {cs : Array Value} {t : TypeId} (v : Value) (h : w.heap[g]? = some (.cells cs t (0, 0))) : w.setCell ⟨g, i, none⟩ v = w.setRow g (cs.setIfInBounds i v) := by
  unfold World.setRow World.setCell
  congr 1
  refine Array.ext_getElem? fun j => ?_
  simp only [Array.getElem?_modify]
  split
  · rename_i e; subst e; rw [h]; rfl
  · rfl
theorem ext_setRow2 {w w' : World} (h : Ext w w') {g : Nat} (hg : g < w.heap.size) (cs : Array Value) : Ext (w.setRow g cs) (w'.setRow g cs) := by
  obtain ⟨x, rfl⟩ := h
  exact ⟨x, setRow_more w x cs g hg⟩
theorem mix_next {w wr : World} {g i : Nat} {c c' : List Value} {o : Obj} {T : TypeId} {v : Value} (hg : g < w.heap.size) (HW : Ext ((w.setRow g c.toArray).alloc o) wr) (HR : wr.heap[g]? = some (.cells c.toArray T (0, 0))) (hs : c.set i v = c') : Ext ((w.setRow g c'.toArray).alloc o) (wr.setCell ⟨g, i, none⟩ v) := by
  rw [setRow_setCell v HR, List.setIfInBounds_toArray, hs]
  have h := ext_setRow2 HW (g := g) (by simp; omega) c'.toArray
  rwa [setRow_past _ _ _ _ (by rw [setRow_size]; exact hg), setRow_setRow] at h

set_option maxHeartbeats 1600000 in
theorem mix_any (xs : List (BitVec 8)) (hx : xs.length = 16) (g off n cap : Nat) (T : TypeId) (pre post : List Value) (l : List (BitVec 8)) (hp : pre.length = off) (hl : l.length = n) (hn : n ≤ 1000000000) (w : World) (hg : w.heap[g]? = some (.cells (pre ++ (l.map V8 ++ post)).toArray T (0, 0))) :
    Calls Try.prog 26 #[.slice (some ⟨g, off, none⟩) n cap, .agg (xs.map V8).toArray] w fun e w' => e = .returned (.tuple #[]) ∧ Ext (w.setRow g (pre ++ ((mixF l xs).map V8 ++ post)).toArray) w' := by
  have hgs : g < w.heap.size := by rw [Array.getElem?_eq_some_iff] at hg; exact hg.1
  have HG := kp hg
  have HL := kp hl
  have HX := kp hx
  have HP := kp hp
  obtain ⟨m, hm⟩ : ∃ m, m = min n 16 := ⟨_, rfl⟩
  have HM := kp hm
  have hm1 : m ≤ 16 := by omega
  have hm2 : m ≤ n := by omega
  have HM' := kp (show mixF l xs = mixTo l xs m by rw [mixF, hl, hm])
  rw [HM'.out]
  have HM2 := kp (fun k => mixTo_len l xs k)
  have hm3 : m = n ∨ (m = 16 ∧ 16 < n) := by omega
  clear hg hl hx hp HM' hm
  go_enter Try.func26, Try.ntmps26
  go_wp2_with fail
  all_goals
    go_loopw [8] (fun i wr => ∃ (k : Nat), k ≤ m ∧ i = .int .i64 k ∧ Kp (Ext ((w.setRow g (pre ++ ((mixTo l xs k).map V8 ++ post)).toArray).alloc (.cells (xs.map V8).toArray 38)) wr)) (fun i _ => m - (intOf i).toNat)
    case atStart => exact ⟨0, by omega, rfl, kp (by rw [mixTo, setRow_same HG.out]; exact Ext.refl _)⟩
    case round =>
      obtain ⟨k, hk, rfl, HW⟩ := hrel
      have HR := kp (ext_heap HW.out (hp_alloc (setRow_heap w g _ (pre ++ ((mixTo l xs k).map V8 ++ post)).toArray T (0, 0) HG.out)))
      have HXR := kp (ext_heap HW.out (hp_at (w.setRow g (pre ++ ((mixTo l xs k).map V8 ++ post)).toArray) (.cells (xs.map V8).toArray 38) w.heap.size (by rw [setRow_size])))
      have hgr : g < wr.heap.size := by have := HW.out.size; simp at this; omega
      have hwr : w.heap.size < wr.heap.size := by have := HW.out.size; simp at this; omega
      by_cases hlt : k < m
      · have hltA : (k : Int) < 16 := by omega
        have hltB : (k : Int) < n := by omega
        obtain ⟨y, hy⟩ : ∃ y, (mixTo l xs k)[k]? = some y := ⟨(mixTo l xs k)[k]'(by rw [HM2.out, HL.out]; omega), by simp⟩
        obtain ⟨z, hz⟩ : ∃ z, xs[k]? = some z := ⟨xs[k]'(by rw [HX.out]; omega), by simp⟩
        have hat : (pre ++ ((mixTo l xs k).map V8 ++ post))[off + k]? = some (V8 y) := by
          rw [List.getElem?_append_right (by rw [HP.out]; omega), HP.out, Nat.add_sub_cancel_left, List.getElem?_append_left (by rw [List.length_map, HM2.out, HL.out]; omega), List.getElem?_map, hy]; rfl
        have hc1 : wr.cell? ⟨g, off + k, none⟩ = some (V8 y) := by
          rw [cell_of_row wr g (off + k) _ _ _ HR.out]; simpa using hat
        have hf1 : wr.frozen? ⟨g, off + k, none⟩ = false := by simp [World.frozen?, HR.out]
        have hc2 : wr.cell? ⟨w.heap.size, k, none⟩ = some (V8 z) := by
          rw [cell_of_row wr _ k _ _ _ HXR.out]; simp [hz]
        have HST := kp (show (pre ++ ((mixTo l xs k).map V8 ++ post)).set (off + k) (V8 (y ^^^ z)) = pre ++ ((mixTo l xs (k + 1)).map V8 ++ post) by
          rw [List.set_append_right _ _ (by rw [HP.out]; omega), HP.out, Nat.add_sub_cancel_left, List.set_append_left _ _ (by rw [List.length_map, HM2.out, HL.out]; omega), ← List.map_set, mixTo]
          simp [List.getD, hy, hz])
        clear hy hz hat
        go_wp2_with fail
        (first | with_reducible refine region_f2 9 (by kernel_rfl) (by kernel_rfl) (by kernel_rfl) (by kernel_rfl) (by decide) (Nat.le_of_ble_eq_true (by kernel_rfl)) ?_ | refine region_f 9 (by kernel_rfl) (by kernel_rfl) (by kernel_rfl) (by kernel_rfl) (by decide) (Nat.le_of_ble_eq_true (by kernel_rfl)) ?_)
        apply Exists.intro
        refine ⟨fun xz2 => ?_, fun xq2 => ?_⟩
        · simp only [List.take_succ_cons, List.take_zero]
          unfold Cx
          repeat (go_big_quiet_step (fail))
          exact wpQuiet_nil rfl
        simp only [List.drop_succ_cons, List.drop_zero]
        go_wp2_with fail
        go_roundw
        case rel => exact ⟨k + 1, by omega, by go_num, kp ((mix_next hgs HW.out HR.out HST.out).trans (Ext.more _ _))⟩
        case measure => simp [intOf]; omega
      · obtain rfl : k = m := by omega
        first | have hge : ¬ (k : Int) < 16 := by omega | skip
        first | have hge : ¬ (k : Int) < n := by omega | skip
        go_wp2_with fail
        go_end0
        exact ⟨rfl, (Ext.alloc _ _).trans HW.out⟩

theorem mixF16 (ch xs : List (BitVec 8)) (h : ch.length = 16) : (mixF ch xs).length = 16 := by rw [mixF_len, h]
set_option maxHeartbeats 1600000 in
/-- The closure that puts a block into the chain. -/
theorem next_any (ks ch xs : List (BitVec 8)) (hk : ks.length = 16) (hc : ch.length = 16) (hx : xs.length = 16) (gc gk : Nat) (hne : gk ≠ gc) (w : World) (hgc : w.heap[gc]? = some (.cells (ch.map V8).toArray 38 (0, 0))) (hgk : w.heap[gk]? = some (.cells (ks.map V8).toArray 23 (0, 0))) :
    Calls Try.prog 25 #[.agg (xs.map V8).toArray, .pointer (some ⟨gc, 0, none⟩), .pointer (some ⟨gk, 0, none⟩)] w fun e w' => e = .returned (.tuple #[]) ∧ Ext (w.setRow gc ((encF ks (mixF ch xs)).map V8).toArray) w' := by
  have h1 : gc < w.heap.size := by rw [Array.getElem?_eq_some_iff] at hgc; exact hgc.1
  have h2 : gk < w.heap.size := by rw [Array.getElem?_eq_some_iff] at hgk; exact hgk.1
  have HK := kp (sizeK ks hk)
  have HC := kp (sizeB ch hc)
  have HX := kp (sizeB xs hx)
  have HGC := kp hgc
  have HGK := kp hgk
  have HMX := kp (fun w (h : w.heap[gc]? = some (.cells (ch.map V8).toArray 38 (0, 0))) => mix_any xs hx gc 0 16 16 38 [] [] ch rfl hc (by omega) w (by simpa using h))
  simp only [List.nil_append, List.append_nil] at HMX
  have HMS := kp (sizeB _ (mixF16 ch xs hc))
  have HEN := kp (fun w => encrypt_any ks (mixF ch xs) hk (mixF16 ch xs hc) w)
  have HES := kp (sizeB _ (encF_len ks (mixF ch xs)))
  have HEZ := kp (show ((mixF ch xs).map V8).toArray.size = ((encF ks (mixF ch xs)).map V8).toArray.size by simp [mixF_len, hc, encF_len])
  generalize encF ks (mixF ch xs) = E at *
  generalize mixF ch xs = M at *
  clear hk hc hx hgc hgk
  go_enter Try.func25, Try.ntmps25
  go_wp2_with fail
  (first | with_reducible refine region_f2 2 (by kernel_rfl) (by kernel_rfl) (by kernel_rfl) (by kernel_rfl) (by decide) (Nat.le_of_ble_eq_true (by kernel_rfl)) ?_ | refine region_f 2 (by kernel_rfl) (by kernel_rfl) (by kernel_rfl) (by kernel_rfl) (by decide) (Nat.le_of_ble_eq_true (by kernel_rfl)) ?_)
  apply Exists.intro
  refine ⟨fun xz2 => ?_, fun xq2 => ?_⟩
  · simp only [List.take_succ_cons, List.take_zero]
    unfold Cx
    (go_big_quiet_step (fail); ((with_reducible show wpQuiet _ _ _ _ (Oper.mk _ (Op.load 38 _) _ _ _ _ :: _) _); go_big_quiet_want; with_reducible refine quiet_load_row 38 _ rfl (w.heap.size) rfl 38 ((xs.map V8).toArray) (0, 0) _ (fun _ hw => by obtain ⟨xx, rfl⟩ := hw; exact hp_more (hp_new _ _)) Try.underlying38 rfl (HX.out) ?_; simp only [Act.put, List.setIfInBounds_toArray, List.set_cons_zero, List.set_cons_succ]; go_big_quiet_on))
    exact wpQuiet_nil rfl
  simp only [List.drop_succ_cons, List.drop_zero]
  go_wp2_with fail
  refine (HMX.out _ (hp_more (hp_alloc HGC.out))).mono ?_
  rintro e w1 ⟨rfl, hx1⟩
  rw [setRow_more _ _ _ _ (by simp; omega), setRow_past _ _ _ _ h1] at hx1
  have HX1 := kp ((Ext.more _ _).trans hx1)
  have HG1 := kp (ext_heap HX1.out (hp_alloc (setRow_heap w gc _ (M.map V8).toArray 38 (0, 0) HGC.out)))
  have HK1 := kp (ext_heap HX1.out (hp_alloc ((setRow_other w gc gk (M.map V8).toArray hne).trans HGK.out)))
  have hs1 : gc < w1.heap.size := by have := HG1.out; rw [Array.getElem?_eq_some_iff] at this; exact this.1
  clear hx1
  go_wp2_with (first | ((with_reducible show wpList _ _ _ (Oper.mk _ (Op.load 23 _) _ _ _ _ :: _) _ _); (with_reducible refine wpList_load_row rfl 23 _ rfl (gk) rfl 23 ((ks.map V8).toArray) (0, 0) _ (HK1.out) Try.underlying23 rfl (HK.out) ?_); simp only [Act.put, List.setIfInBounds_toArray, List.set_cons_zero, List.set_cons_succ]) | ((with_reducible show wpList _ _ _ (Oper.mk _ (Op.load 38 _) _ _ _ _ :: _) _ _); (with_reducible refine wpList_load_row rfl 38 _ rfl (gc) rfl 38 ((M.map V8).toArray) (0, 0) _ (HG1.out) Try.underlying38 rfl (HMS.out) ?_); simp only [Act.put, List.setIfInBounds_toArray, List.set_cons_zero, List.set_cons_succ]) | (go_at_call 23; refine (HEN.out _).mono ?_; rintro e w' ⟨rfl, x2, rfl⟩) | ((with_reducible show wpList _ _ _ (Oper.mk none (Op.store 38 _ _) _ _ _ _ :: _) _ _); with_reducible refine wpList_st_row rfl rfl 38 _ _ rfl (gc) ((E.map V8).toArray) rfl rfl 38 ((M.map V8).toArray) (hp_more HG1.out) (HES.out) (HEZ.out) (all_V8 _) (by rewrite [setRow_more _ _ _ _ (by first | assumption | (simp <;> omega))]; rfl) ?_))
  go_end0
  refine ⟨rfl, ?_⟩
  have h9 := ext_setRow2 HX1.out (g := gc) (by simp; omega) (E.map V8).toArray
  rw [setRow_past _ _ _ _ (by rw [setRow_size]; exact h1), setRow_setRow] at h9
  exact ((Ext.alloc _ _).trans h9).trans (Ext.more _ _)
end Go.Proofs.Ytnofmppimihjpaa
