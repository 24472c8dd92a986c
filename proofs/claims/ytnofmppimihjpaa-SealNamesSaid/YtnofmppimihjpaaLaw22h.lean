/- SealNames. -/
import Derived.Test.YtnofmppimihjpaaLaw22g
import Derived.Test.YtnofmppimihjpaaLateM
import Derived.Laws.OwnMore
namespace Go.Proofs.Ytnofmppimihjpaa
open Go.RowKit

def kZ : List (BitVec 8) := [0, 0, 0, 0, 0, 0, 0, 0, 0, 0, 0, 0, 0, 0, 0, 0]
def nZ : List (BitVec 8) := [0, 0, 0, 0, 0, 0, 0, 0, 0, 0, 0, 0, 0]
theorem stream_a : streamF kZ nZ 65536 = streamF kZ nZ 0 := by rw [streamF, streamF, show markF 1 nZ 65536 = markF 1 nZ 0 by decide]
theorem stream_b : streamF kZ nZ 65535 = streamF kZ nZ (-1) := by rw [streamF, streamF, show markF 1 nZ 65535 = markF 1 nZ (-1) by decide]

set_option maxHeartbeats 6400000 in
set_option maxRecDepth 10000 in
theorem sealNames.walk (w : World) : Calls Try.prog 5 #[] w fun e w' => e = .returned (.bool true) ∧ Ext w w' := by
  have HK := kp (show (Try.prog.info? 23).map (·.size) = some (kZ.map V8).toArray.size from sizeK kZ rfl)
  have HN := kp (show (Try.prog.info? 24).map (·.size) = some (nZ.map V8).toArray.size from sizeN nZ rfl)
  have HZ := kp (show (Try.prog.info? 28).map (·.size) = some z8.size from size8 (List.replicate 8 0) (by simp))
  have HAL := kp (show (z8.all (·.oneCell')) = true from all_V8 _)
  have S1 := kp (fun vb w h2 h3 => seal_ok kZ nZ rfl rfl (.slice none 0 0) vb [] [1] (by simp) (by simp) w (SlB.nil w) h2 h3)
  have L1 := kp (show (sealF kZ nZ [] [1]).length = 9 from sealF_len kZ nZ [] [1])
  obtain ⟨y, hy⟩ : ∃ y, (sealF kZ nZ [] [1])[8]? = some y := ⟨(sealF kZ nZ [] [1])[8]'(by rw [L1.out]; decide), by simp⟩
  have hne : BitVec.ofInt 8 (wI y + 1) ≠ (sealF kZ nZ [] [1]).getD 8 0 := by
    rw [getElem_getD22 hy]
    intro e
    have h := congrArg (fun z : BitVec 8 => wI z) e
    simp only [wI_ofInt8] at h
    have h1 := wI_lt8 y
    have h2 := wI_nonneg y
    omega
  have HOK := kp (openOk_tag kZ nZ [] [1] 8 (BitVec.ofInt 8 (wI y + 1)) (by decide) (by decide) hne)
  have S2 := kp (fun vt w h2 h3 => open_any kZ nZ rfl rfl (.slice none 0 0) vt [] ((sealF kZ nZ [] [1]).set 8 (BitVec.ofInt 8 (wI y + 1))) (by simp) (by rw [List.length_set, L1.out]; decide) (by rw [List.length_set, L1.out]; decide) w (SlB.nil w) h2 h3)
  rw [HOK.out, if_neg (by decide), if_neg (by decide)] at S2
  have HY := kp hy
  generalize sealF kZ nZ [] [1] = sf at *
  have HSa := kp (fun w => stream_any kZ nZ rfl rfl 65536 w)
  rw [stream_a] at HSa
  have HSb := kp (fun w => stream_any kZ nZ rfl rfl 0 w)
  have HSc := kp (fun w => stream_any kZ nZ rfl rfl (-1) w)
  have HSd := kp (fun w => stream_any kZ nZ rfl rfl 65535 w)
  rw [stream_b] at HSd
  have heq0 : ∀ w, (binOp .eql 38 (.agg ((streamF kZ nZ 0).map V8).toArray) (.agg ((streamF kZ nZ 0).map V8).toArray)).run Try.prog w = .ok (.bool true) w := fun w => by
    rw [run_eql_V8 (P := Try.prog) w Try.underlying38 Try.underlying5 size5 _ _ (streamF_len _ _ _) (streamF_len _ _ _)]; simp
  have heq1 : ∀ w, (binOp .eql 38 (.agg ((streamF kZ nZ (-1)).map V8).toArray) (.agg ((streamF kZ nZ (-1)).map V8).toArray)).run Try.prog w = .ok (.bool true) w := fun w => by
    rw [run_eql_V8 (P := Try.prog) w Try.underlying38 Try.underlying5 size5 _ _ (streamF_len _ _ _) (streamF_len _ _ _)]; simp
  generalize streamF kZ nZ 0 = S0 at *
  generalize streamF kZ nZ (-1) = Sm at *
  clear hy hne
  go_enter Try.func5, Try.ntmps5
  generalize h2 : (Code.region 2 _ _ : Code) = R2
  generalize h6 : (Code.region 6 _ _ : Code) = R6
  generalize h10 : (Code.region 10 _ _ : Code) = R10
  generalize h11 : (Code.region 11 _ _ : Code) = R11
  generalize h12 : (Code.region 12 _ _ : Code) = R12
  go_wp2_with fail
  have hk1 : ((w.alloc (.cells (kZ.map V8).toArray 23)).alloc (.cells (nZ.map V8).toArray 24)).heap[w.heap.size]? = some (.cells (kZ.map V8).toArray 23 (0, 0)) := hp_alloc (hp_new _ _)
  have hn1 : ((w.alloc (.cells (kZ.map V8).toArray 23)).alloc (.cells (nZ.map V8).toArray 24)).heap[w.heap.size + 1]? = some (.cells (nZ.map V8).toArray 24 (0, 0)) := hp_at _ _ _ (by simp)
  have hx1 : Ext w ((w.alloc (.cells (kZ.map V8).toArray 23)).alloc (.cells (nZ.map V8).toArray 24)) := (Ext.alloc _ _).trans (Ext.alloc _ _)
  rw [show (#[Value.int .u8 0, .int .u8 0, .int .u8 0, .int .u8 0, .int .u8 0, .int .u8 0, .int .u8 0, .int .u8 0, .int .u8 0, .int .u8 0, .int .u8 0, .int .u8 0, .int .u8 0, .int .u8 0, .int .u8 0, .int .u8 0] : Array Value) = (kZ.map V8).toArray from rfl, show (#[Value.int .u8 0, .int .u8 0, .int .u8 0, .int .u8 0, .int .u8 0, .int .u8 0, .int .u8 0, .int .u8 0, .int .u8 0, .int .u8 0, .int .u8 0, .int .u8 0, .int .u8 0] : Array Value) = (nZ.map V8).toArray from rfl]
  generalize (w.alloc (.cells (kZ.map V8).toArray 23)).alloc (.cells (nZ.map V8).toArray 24) = w1 at *
  have HK1 := kp hk1
  have HN1 := kp hn1
  have HX1 := kp hx1
  clear hk1 hn1 hx1
  subst h2
  refine region_spine0 (tabS [(19, fun v _ => v = .agg (kZ.map V8).toArray), (20, fun v _ => v = .agg (nZ.map V8).toArray), (21, fun v _ => ∃ ad cap, v = .slice ad 257 cap), (22, fun v _ => ∃ u, v = .tuple #[u, .int .i64 4]), (18, fun v _ => ∃ u, v = .tuple #[u, .int .i64 4]), (23, fun _ _ => True), (24, fun v _ => v = .int .i64 4), (3, fun _ _ => True), (4, fun v _ => v = .int .i64 4)]) (tabS_mono _ (by simp only [List.forall_mem_cons]; exact ⟨mono_eq _, mono_eq _, fun _ _ _ h _ => h, fun _ _ _ h _ => h, fun _ _ _ h _ => h, fun _ _ _ h _ => h, mono_eq _, fun _ _ _ h _ => h, mono_eq _, by simp⟩)) 9 (by kernel_rfl) (by kernel_rfl) (by kernel_rfl) (by kernel_rfl) (by decide) (Nat.le_of_ble_eq_true (by kernel_rfl)) (by kernel_rfl) (w1) (.inl rfl) ?_
  simp only [List.take_succ_cons, List.take_zero]
  refine ⟨fun wv19 hwv19 hSv19 => ?_, fun v19 => ?_⟩
  · obtain ⟨xv19, rfl⟩ := hwv19
    clear hSv19
    go_wp2_with ((with_reducible show wpList _ _ _ (Oper.mk _ (Op.load 23 _) _ _ _ _ :: _) _ _); (with_reducible refine wpList_load_row rfl 23 _ rfl (w.heap.size) rfl 23 ((kZ.map V8).toArray) (0, 0) _ (hp_more HK1.out) Try.underlying23 rfl (HK.out) ?_); simp only [Act.put, List.setIfInBounds_toArray, List.set_cons_zero, List.set_cons_succ])
    exact ⟨rfl, _, rfl, fun d hd => by cases hd; exact rfl, Ext.refl _⟩
  simp only [Act.put, List.setIfInBounds_toArray, List.set_cons_zero, List.set_cons_succ]
  refine ⟨fun wv20 hwv20 hSv20 => ?_, fun v20 => ?_⟩
  · obtain ⟨xv20, rfl⟩ := hwv20
    clear hSv20
    go_wp2_with ((with_reducible show wpList _ _ _ (Oper.mk _ (Op.load 24 _) _ _ _ _ :: _) _ _); (with_reducible refine wpList_load_row rfl 24 _ rfl (w.heap.size + 1) rfl 24 ((nZ.map V8).toArray) (0, 0) _ (hp_more HN1.out) Try.underlying24 rfl (HN.out) ?_); simp only [Act.put, List.setIfInBounds_toArray, List.set_cons_zero, List.set_cons_succ])
    exact ⟨rfl, _, rfl, fun d hd => by cases hd; exact rfl, Ext.refl _⟩
  simp only [Act.put, List.setIfInBounds_toArray, List.set_cons_zero, List.set_cons_succ]
  refine ⟨fun wv21 hwv21 hSv21 => ?_, fun v21 => ?_⟩
  · obtain ⟨xv21, rfl⟩ := hwv21
    clear hSv21
    obtain ⟨Z, hmk, hsl⟩ := make_at 257 (by decide)
    clear hsl
    have hmk2 : (Instr.makeSlice 25 (.int .i64 257) (.int .i64 257)).run Try.prog (more w1 xv21) = .ok (.slice (some ⟨(more w1 xv21).heap.size, 0, none⟩) 257 257) ((more w1 xv21).alloc (.cells Z 5)) := hmk _
    clear hmk
    go_wp2_with fail
    exact ⟨rfl, _, rfl, fun d hd => by cases hd; exact ⟨_, _, rfl⟩, Ext.alloc _ _⟩
  simp only [Act.put, List.setIfInBounds_toArray, List.set_cons_zero, List.set_cons_succ]
  refine ⟨fun wv22 hwv22 hSv22 => ?_, fun v22 => ?_⟩
  · obtain ⟨xv22, rfl⟩ := hwv22
    obtain rfl : v19 = .agg (kZ.map V8).toArray := hSv22 19 (by decide) (by decide)
    obtain rfl : v20 = .agg (nZ.map V8).toArray := hSv22 20 (by decide) (by decide)
    have h21 := kp (show ∃ ad cap, v21 = .slice ad 257 cap from hSv22 21 (by decide) (by decide))
    clear hSv22
    obtain ⟨a7, c7, rfl⟩ := h21.out
    go_wp2_with fail
    refine (seal_many kZ nZ rfl rfl a7 none 257 c7 0 0 (by decide) _).mono ?_
    rintro e w' ⟨u, rfl, ho, hx⟩
    have HXL := kp hx
    obtain ⟨a6, c6, rfl⟩ := (SlB.of_owns ho).form
    clear ho hx
    go_wp2_with fail
    exact ⟨rfl, _, rfl, fun d hd => by cases hd; exact ⟨_, rfl⟩, HXL.out⟩
  simp only [Act.put, List.setIfInBounds_toArray, List.set_cons_zero, List.set_cons_succ]
  refine ⟨fun wv18 hwv18 hSv18 => ?_, fun v18 => ?_⟩
  · obtain ⟨xv18, rfl⟩ := hwv18
    have h22 := kp (show ∃ u, v22 = .tuple #[u, .int .i64 4] from hSv18 22 (by decide) (by decide))
    clear hSv18
    go_wp2_with fail
    exact ⟨rfl, _, rfl, fun d hd => by cases hd; exact h22.out, Ext.refl _⟩
  simp only [Act.put, List.setIfInBounds_toArray, List.set_cons_zero, List.set_cons_succ]
  refine ⟨fun wv23 hwv23 hSv23 => ?_, fun v23 => ?_⟩
  · obtain ⟨xv23, rfl⟩ := hwv23
    have h18 := kp (show ∃ u, v18 = .tuple #[u, .int .i64 4] from hSv23 18 (by decide) (by decide))
    clear hSv23
    obtain ⟨u, rfl⟩ := h18.out
    go_wp2_with fail
    exact ⟨rfl, _, rfl, fun d hd => by cases hd; exact trivial, Ext.refl _⟩
  simp only [Act.put, List.setIfInBounds_toArray, List.set_cons_zero, List.set_cons_succ]
  refine ⟨fun wv24 hwv24 hSv24 => ?_, fun v24 => ?_⟩
  · obtain ⟨xv24, rfl⟩ := hwv24
    have h18 := kp (show ∃ u, v18 = .tuple #[u, .int .i64 4] from hSv24 18 (by decide) (by decide))
    clear hSv24
    obtain ⟨u, rfl⟩ := h18.out
    go_wp2_with fail
    exact ⟨rfl, _, rfl, fun d hd => by cases hd; exact rfl, Ext.refl _⟩
  simp only [Act.put, List.setIfInBounds_toArray, List.set_cons_zero, List.set_cons_succ]
  refine ⟨fun wv3 hwv3 hSv3 => ?_, fun v3 => ?_⟩
  · obtain ⟨xv3, rfl⟩ := hwv3
    clear hSv3
    go_wp2_with fail
    exact ⟨rfl, _, rfl, fun d hd => by cases hd; exact trivial, Ext.refl _⟩
  simp only [Act.put, List.setIfInBounds_toArray, List.set_cons_zero, List.set_cons_succ]
  refine ⟨fun wv4 hwv4 hSv4 => ?_, fun v4 => ?_⟩
  · obtain ⟨xv4, rfl⟩ := hwv4
    obtain rfl : v24 = .int .i64 4 := hSv4 24 (by decide) (by decide)
    clear hSv4
    go_wp2_with fail
    exact ⟨rfl, _, rfl, fun d hd => by cases hd; exact rfl, Ext.refl _⟩
  simp only [Act.put, List.setIfInBounds_toArray, List.set_cons_zero, List.set_cons_succ]
  intro x1 hfin
  obtain rfl : v4 = .int .i64 4 := hfin 4 (by decide)
  clear hfin
  have HK2 := kp (hp_more (x := x1) HK1.out)
  have HN2 := kp (hp_more (x := x1) HN1.out)
  have HX2 := kp (HX1.out.trans (Ext.more _ x1))
  generalize more w1 x1 = w2 at *
  clear HK1 HN1 HX1
  simp only [List.drop_succ_cons, List.drop_zero]
  go_wp2_with fail
  refine region_lateM (tabM [(26, fun v => v = .agg (kZ.map V8).toArray), (27, fun v => v = .agg (nZ.map V8).toArray), (28, fun v => ∃ ad cap, v = .slice ad 4097 cap), (29, fun v => v = .tuple #[.agg z8, .int .i64 4]), (25, fun v => v = .tuple #[.agg z8, .int .i64 4]), (30, fun v => v = .agg z8), (31, fun v => v = .int .i64 4), (6, fun v => v = .int .i64 4)]) 7 5 8 30 28 28 (z8) (z8) (by kernel_rfl) (by kernel_rfl) (by kernel_rfl) (by kernel_rfl) (by kernel_rfl) (by intro o ho; cases ho; exact ⟨rfl, rfl, by simp, fun _ _ => by kernel_rfl⟩) (by intro o ho; cases ho; exact ⟨rfl, rfl, rfl, by decide⟩) (by kernel_rfl) (by decide) (by decide) (by decide) (by decide) (fun v hv => hv) (HZ.out) (rfl) (HAL.out) (w2) (.inl rfl) ?_
  simp only [List.eraseIdx_cons_succ, List.eraseIdx_cons_zero]
  refine ⟨fun wv26 hwv26 hSv26 => ?_, fun v26 => ?_⟩
  · obtain ⟨xv26, rfl⟩ := hwv26
    clear hSv26
    go_wp2_with ((with_reducible show wpList _ _ _ (Oper.mk _ (Op.load 23 _) _ _ _ _ :: _) _ _); (with_reducible refine wpList_load_row rfl 23 _ rfl (w.heap.size) rfl 23 ((kZ.map V8).toArray) (0, 0) _ (hp_more HK2.out) Try.underlying23 rfl (HK.out) ?_); simp only [Act.put, List.setIfInBounds_toArray, List.set_cons_zero, List.set_cons_succ])
    exact ⟨rfl, _, rfl, fun d hd => by cases hd; exact rfl, Ext.refl _⟩
  simp only [Act.put, List.setIfInBounds_toArray, List.set_cons_zero, List.set_cons_succ]
  refine ⟨fun wv27 hwv27 hSv27 => ?_, fun v27 => ?_⟩
  · obtain ⟨xv27, rfl⟩ := hwv27
    clear hSv27
    go_wp2_with ((with_reducible show wpList _ _ _ (Oper.mk _ (Op.load 24 _) _ _ _ _ :: _) _ _); (with_reducible refine wpList_load_row rfl 24 _ rfl (w.heap.size + 1) rfl 24 ((nZ.map V8).toArray) (0, 0) _ (hp_more HN2.out) Try.underlying24 rfl (HN.out) ?_); simp only [Act.put, List.setIfInBounds_toArray, List.set_cons_zero, List.set_cons_succ])
    exact ⟨rfl, _, rfl, fun d hd => by cases hd; exact rfl, Ext.refl _⟩
  simp only [Act.put, List.setIfInBounds_toArray, List.set_cons_zero, List.set_cons_succ]
  refine ⟨fun wv28 hwv28 hSv28 => ?_, fun v28 => ?_⟩
  · obtain ⟨xv28, rfl⟩ := hwv28
    clear hSv28
    obtain ⟨Z, hmk, hsl⟩ := make_at 4097 (by decide)
    clear hsl
    have hmk2 : (Instr.makeSlice 25 (.int .i64 4097) (.int .i64 4097)).run Try.prog (more w2 xv28) = .ok (.slice (some ⟨(more w2 xv28).heap.size, 0, none⟩) 4097 4097) ((more w2 xv28).alloc (.cells Z 5)) := hmk _
    clear hmk
    go_wp2_with fail
    exact ⟨rfl, _, rfl, fun d hd => by cases hd; exact ⟨_, _, rfl⟩, Ext.alloc _ _⟩
  simp only [Act.put, List.setIfInBounds_toArray, List.set_cons_zero, List.set_cons_succ]
  refine ⟨fun wv29 hwv29 hSv29 => ?_, fun v29 => ?_⟩
  · obtain ⟨xv29, rfl⟩ := hwv29
    obtain rfl : v26 = .agg (kZ.map V8).toArray := hSv29 26 (by decide) (by decide)
    obtain rfl : v27 = .agg (nZ.map V8).toArray := hSv29 27 (by decide) (by decide)
    have h28 := kp (show ∃ ad cap, v28 = .slice ad 4097 cap from hSv29 28 (by decide) (by decide))
    clear hSv29
    obtain ⟨a7, c7, rfl⟩ := h28.out
    go_wp2_with fail
    refine (code_many kZ nZ none a7 0 0 4097 c7 (by decide) _).mono ?_
    rintro e w' ⟨rfl, hx⟩
    have HXL := kp hx
    clear hx
    go_wp2_with fail
    exact ⟨rfl, _, rfl, fun d hd => by cases hd; exact rfl, HXL.out⟩
  simp only [Act.put, List.setIfInBounds_toArray, List.set_cons_zero, List.set_cons_succ]
  refine ⟨fun wv25 hwv25 hSv25 => ?_, fun v25 => ?_⟩
  · obtain ⟨xv25, rfl⟩ := hwv25
    obtain rfl : v29 = .tuple #[.agg z8, .int .i64 4] := hSv25 29 (by decide) (by decide)
    clear hSv25
    go_wp2_with fail
    exact ⟨rfl, _, rfl, fun d hd => by cases hd; exact rfl, Ext.refl _⟩
  simp only [Act.put, List.setIfInBounds_toArray, List.set_cons_zero, List.set_cons_succ]
  refine ⟨fun wv30 hwv30 hSv30 => ?_, fun v30 => ?_⟩
  · obtain ⟨xv30, rfl⟩ := hwv30
    obtain rfl : v25 = .tuple #[.agg z8, .int .i64 4] := hSv30 25 (by decide) (by decide)
    clear hSv30
    go_wp2_with fail
    exact ⟨rfl, _, rfl, fun d hd => by cases hd; exact rfl, Ext.refl _⟩
  simp only [Act.put, List.setIfInBounds_toArray, List.set_cons_zero, List.set_cons_succ]
  refine ⟨fun wv31 hwv31 hSv31 => ?_, fun v31 => ?_⟩
  · obtain ⟨xv31, rfl⟩ := hwv31
    obtain rfl : v25 = .tuple #[.agg z8, .int .i64 4] := hSv31 25 (by decide) (by decide)
    clear hSv31
    go_wp2_with fail
    exact ⟨rfl, _, rfl, fun d hd => by cases hd; exact rfl, Ext.refl _⟩
  simp only [Act.put, List.setIfInBounds_toArray, List.set_cons_zero, List.set_cons_succ]
  refine ⟨fun wv6 hwv6 hSv6 => ?_, fun v6 => ?_⟩
  · obtain ⟨xv6, rfl⟩ := hwv6
    obtain rfl : v31 = .int .i64 4 := hSv6 31 (by decide) (by decide)
    clear hSv6
    go_wp2_with fail
    exact ⟨rfl, _, rfl, fun d hd => by cases hd; exact rfl, Ext.refl _⟩
  simp only [Act.put, List.setIfInBounds_toArray, List.set_cons_zero, List.set_cons_succ]
  intro xm xq hfin
  obtain rfl : v6 = .int .i64 4 := hfin 6 (by decide)
  clear hfin
  have HK3 := kp (hp_more (x := xq) (hp_alloc (o' := .cells z8 28) (hp_more (x := xm) HK2.out)))
  have HN3 := kp (hp_more (x := xq) (hp_alloc (o' := .cells z8 28) (hp_more (x := xm) HN2.out)))
  have HX3 := kp (((HX2.out.trans (Ext.more _ xm)).trans (Ext.alloc _ (.cells z8 28))).trans (Ext.more _ xq))
  generalize more ((more w2 xm).alloc (.cells z8 28)) xq = w3 at *
  clear HK2 HN2 HX2
  simp only [Act.put, List.setIfInBounds_toArray, List.set_cons_zero, List.set_cons_succ]
  go_wp2_with fail
  refine region_spine0 (tabS [(33, fun v _ => v = .agg (kZ.map V8).toArray), (34, fun v _ => v = .agg (nZ.map V8).toArray), (35, fun v _ => ∃ ad cap, v = .slice ad 7 cap), (36, fun v _ => ∃ u, v = .tuple #[u, .int .i64 10]), (32, fun v _ => ∃ u, v = .tuple #[u, .int .i64 10]), (37, fun _ _ => True), (38, fun v _ => v = .int .i64 10), (7, fun _ _ => True), (8, fun v _ => v = .int .i64 10)]) (tabS_mono _ (by simp only [List.forall_mem_cons]; exact ⟨mono_eq _, mono_eq _, fun _ _ _ h _ => h, fun _ _ _ h _ => h, fun _ _ _ h _ => h, fun _ _ _ h _ => h, mono_eq _, fun _ _ _ h _ => h, mono_eq _, by simp⟩)) 9 (by kernel_rfl) (by kernel_rfl) (by kernel_rfl) (by kernel_rfl) (by decide) (Nat.le_of_ble_eq_true (by kernel_rfl)) (by kernel_rfl) (w3) (.inl rfl) ?_
  simp only [List.take_succ_cons, List.take_zero]
  refine ⟨fun wv33 hwv33 hSv33 => ?_, fun v33 => ?_⟩
  · obtain ⟨xv33, rfl⟩ := hwv33
    clear hSv33
    go_wp2_with ((with_reducible show wpList _ _ _ (Oper.mk _ (Op.load 23 _) _ _ _ _ :: _) _ _); (with_reducible refine wpList_load_row rfl 23 _ rfl (w.heap.size) rfl 23 ((kZ.map V8).toArray) (0, 0) _ (hp_more HK3.out) Try.underlying23 rfl (HK.out) ?_); simp only [Act.put, List.setIfInBounds_toArray, List.set_cons_zero, List.set_cons_succ])
    exact ⟨rfl, _, rfl, fun d hd => by cases hd; exact rfl, Ext.refl _⟩
  simp only [Act.put, List.setIfInBounds_toArray, List.set_cons_zero, List.set_cons_succ]
  refine ⟨fun wv34 hwv34 hSv34 => ?_, fun v34 => ?_⟩
  · obtain ⟨xv34, rfl⟩ := hwv34
    clear hSv34
    go_wp2_with ((with_reducible show wpList _ _ _ (Oper.mk _ (Op.load 24 _) _ _ _ _ :: _) _ _); (with_reducible refine wpList_load_row rfl 24 _ rfl (w.heap.size + 1) rfl 24 ((nZ.map V8).toArray) (0, 0) _ (hp_more HN3.out) Try.underlying24 rfl (HN.out) ?_); simp only [Act.put, List.setIfInBounds_toArray, List.set_cons_zero, List.set_cons_succ])
    exact ⟨rfl, _, rfl, fun d hd => by cases hd; exact rfl, Ext.refl _⟩
  simp only [Act.put, List.setIfInBounds_toArray, List.set_cons_zero, List.set_cons_succ]
  refine ⟨fun wv35 hwv35 hSv35 => ?_, fun v35 => ?_⟩
  · obtain ⟨xv35, rfl⟩ := hwv35
    clear hSv35
    obtain ⟨Z, hmk, hsl⟩ := make_at 7 (by decide)
    clear hsl
    have hmk2 : (Instr.makeSlice 25 (.int .i64 7) (.int .i64 7)).run Try.prog (more w3 xv35) = .ok (.slice (some ⟨(more w3 xv35).heap.size, 0, none⟩) 7 7) ((more w3 xv35).alloc (.cells Z 5)) := hmk _
    clear hmk
    go_wp2_with fail
    exact ⟨rfl, _, rfl, fun d hd => by cases hd; exact ⟨_, _, rfl⟩, Ext.alloc _ _⟩
  simp only [Act.put, List.setIfInBounds_toArray, List.set_cons_zero, List.set_cons_succ]
  refine ⟨fun wv36 hwv36 hSv36 => ?_, fun v36 => ?_⟩
  · obtain ⟨xv36, rfl⟩ := hwv36
    obtain rfl : v33 = .agg (kZ.map V8).toArray := hSv36 33 (by decide) (by decide)
    obtain rfl : v34 = .agg (nZ.map V8).toArray := hSv36 34 (by decide) (by decide)
    have h35 := kp (show ∃ ad cap, v35 = .slice ad 7 cap from hSv36 35 (by decide) (by decide))
    clear hSv36
    obtain ⟨a7, c7, rfl⟩ := h35.out
    go_wp2_with fail
    refine (open_short kZ nZ none a7 0 0 7 c7 (by decide) (by decide) _).mono ?_
    rintro e w' ⟨u, rfl, ho, hx⟩
    have HXL := kp hx
    obtain ⟨a6, c6, rfl⟩ := (SlB.of_owns ho).form
    clear ho hx
    go_wp2_with fail
    exact ⟨rfl, _, rfl, fun d hd => by cases hd; exact ⟨_, rfl⟩, HXL.out⟩
  simp only [Act.put, List.setIfInBounds_toArray, List.set_cons_zero, List.set_cons_succ]
  refine ⟨fun wv32 hwv32 hSv32 => ?_, fun v32 => ?_⟩
  · obtain ⟨xv32, rfl⟩ := hwv32
    have h36 := kp (show ∃ u, v36 = .tuple #[u, .int .i64 10] from hSv32 36 (by decide) (by decide))
    clear hSv32
    go_wp2_with fail
    exact ⟨rfl, _, rfl, fun d hd => by cases hd; exact h36.out, Ext.refl _⟩
  simp only [Act.put, List.setIfInBounds_toArray, List.set_cons_zero, List.set_cons_succ]
  refine ⟨fun wv37 hwv37 hSv37 => ?_, fun v37 => ?_⟩
  · obtain ⟨xv37, rfl⟩ := hwv37
    have h32 := kp (show ∃ u, v32 = .tuple #[u, .int .i64 10] from hSv37 32 (by decide) (by decide))
    clear hSv37
    obtain ⟨u, rfl⟩ := h32.out
    go_wp2_with fail
    exact ⟨rfl, _, rfl, fun d hd => by cases hd; exact trivial, Ext.refl _⟩
  simp only [Act.put, List.setIfInBounds_toArray, List.set_cons_zero, List.set_cons_succ]
  refine ⟨fun wv38 hwv38 hSv38 => ?_, fun v38 => ?_⟩
  · obtain ⟨xv38, rfl⟩ := hwv38
    have h32 := kp (show ∃ u, v32 = .tuple #[u, .int .i64 10] from hSv38 32 (by decide) (by decide))
    clear hSv38
    obtain ⟨u, rfl⟩ := h32.out
    go_wp2_with fail
    exact ⟨rfl, _, rfl, fun d hd => by cases hd; exact rfl, Ext.refl _⟩
  simp only [Act.put, List.setIfInBounds_toArray, List.set_cons_zero, List.set_cons_succ]
  refine ⟨fun wv7 hwv7 hSv7 => ?_, fun v7 => ?_⟩
  · obtain ⟨xv7, rfl⟩ := hwv7
    clear hSv7
    go_wp2_with fail
    exact ⟨rfl, _, rfl, fun d hd => by cases hd; exact trivial, Ext.refl _⟩
  simp only [Act.put, List.setIfInBounds_toArray, List.set_cons_zero, List.set_cons_succ]
  refine ⟨fun wv8 hwv8 hSv8 => ?_, fun v8 => ?_⟩
  · obtain ⟨xv8, rfl⟩ := hwv8
    obtain rfl : v38 = .int .i64 10 := hSv8 38 (by decide) (by decide)
    clear hSv8
    go_wp2_with fail
    exact ⟨rfl, _, rfl, fun d hd => by cases hd; exact rfl, Ext.refl _⟩
  simp only [Act.put, List.setIfInBounds_toArray, List.set_cons_zero, List.set_cons_succ]
  intro x3 hfin
  obtain rfl : v8 = .int .i64 10 := hfin 8 (by decide)
  clear hfin
  have HK4 := kp (hp_more (x := x3) HK3.out)
  have HN4 := kp (hp_more (x := x3) HN3.out)
  have HX4 := kp (HX3.out.trans (Ext.more _ x3))
  generalize more w3 x3 = w4 at *
  clear HK3 HN3 HX3
  simp only [List.drop_succ_cons, List.drop_zero]
  go_wp2_with fail
  refine region_spine0 (tabS [(40, fun v _ => v = .agg (kZ.map V8).toArray), (41, fun v _ => v = .agg (nZ.map V8).toArray), (42, fun v _ => ∃ ad cap, v = .slice ad 4105 cap), (43, fun v _ => ∃ u, v = .tuple #[u, .int .i64 4]), (39, fun v _ => ∃ u, v = .tuple #[u, .int .i64 4]), (44, fun _ _ => True), (45, fun v _ => v = .int .i64 4), (9, fun _ _ => True), (10, fun v _ => v = .int .i64 4)]) (tabS_mono _ (by simp only [List.forall_mem_cons]; exact ⟨mono_eq _, mono_eq _, fun _ _ _ h _ => h, fun _ _ _ h _ => h, fun _ _ _ h _ => h, fun _ _ _ h _ => h, mono_eq _, fun _ _ _ h _ => h, mono_eq _, by simp⟩)) 9 (by kernel_rfl) (by kernel_rfl) (by kernel_rfl) (by kernel_rfl) (by decide) (Nat.le_of_ble_eq_true (by kernel_rfl)) (by kernel_rfl) (w4) (.inl rfl) ?_
  simp only [List.take_succ_cons, List.take_zero]
  refine ⟨fun wv40 hwv40 hSv40 => ?_, fun v40 => ?_⟩
  · obtain ⟨xv40, rfl⟩ := hwv40
    clear hSv40
    go_wp2_with ((with_reducible show wpList _ _ _ (Oper.mk _ (Op.load 23 _) _ _ _ _ :: _) _ _); (with_reducible refine wpList_load_row rfl 23 _ rfl (w.heap.size) rfl 23 ((kZ.map V8).toArray) (0, 0) _ (hp_more HK4.out) Try.underlying23 rfl (HK.out) ?_); simp only [Act.put, List.setIfInBounds_toArray, List.set_cons_zero, List.set_cons_succ])
    exact ⟨rfl, _, rfl, fun d hd => by cases hd; exact rfl, Ext.refl _⟩
  simp only [Act.put, List.setIfInBounds_toArray, List.set_cons_zero, List.set_cons_succ]
  refine ⟨fun wv41 hwv41 hSv41 => ?_, fun v41 => ?_⟩
  · obtain ⟨xv41, rfl⟩ := hwv41
    clear hSv41
    go_wp2_with ((with_reducible show wpList _ _ _ (Oper.mk _ (Op.load 24 _) _ _ _ _ :: _) _ _); (with_reducible refine wpList_load_row rfl 24 _ rfl (w.heap.size + 1) rfl 24 ((nZ.map V8).toArray) (0, 0) _ (hp_more HN4.out) Try.underlying24 rfl (HN.out) ?_); simp only [Act.put, List.setIfInBounds_toArray, List.set_cons_zero, List.set_cons_succ])
    exact ⟨rfl, _, rfl, fun d hd => by cases hd; exact rfl, Ext.refl _⟩
  simp only [Act.put, List.setIfInBounds_toArray, List.set_cons_zero, List.set_cons_succ]
  refine ⟨fun wv42 hwv42 hSv42 => ?_, fun v42 => ?_⟩
  · obtain ⟨xv42, rfl⟩ := hwv42
    clear hSv42
    obtain ⟨Z, hmk, hsl⟩ := make_at 4105 (by decide)
    clear hsl
    have hmk2 : (Instr.makeSlice 25 (.int .i64 4105) (.int .i64 4105)).run Try.prog (more w4 xv42) = .ok (.slice (some ⟨(more w4 xv42).heap.size, 0, none⟩) 4105 4105) ((more w4 xv42).alloc (.cells Z 5)) := hmk _
    clear hmk
    go_wp2_with fail
    exact ⟨rfl, _, rfl, fun d hd => by cases hd; exact ⟨_, _, rfl⟩, Ext.alloc _ _⟩
  simp only [Act.put, List.setIfInBounds_toArray, List.set_cons_zero, List.set_cons_succ]
  refine ⟨fun wv43 hwv43 hSv43 => ?_, fun v43 => ?_⟩
  · obtain ⟨xv43, rfl⟩ := hwv43
    obtain rfl : v40 = .agg (kZ.map V8).toArray := hSv43 40 (by decide) (by decide)
    obtain rfl : v41 = .agg (nZ.map V8).toArray := hSv43 41 (by decide) (by decide)
    have h42 := kp (show ∃ ad cap, v42 = .slice ad 4105 cap from hSv43 42 (by decide) (by decide))
    clear hSv43
    obtain ⟨a7, c7, rfl⟩ := h42.out
    go_wp2_with fail
    refine (open_many kZ nZ none a7 0 0 4105 c7 (by decide) (by decide) _).mono ?_
    rintro e w' ⟨u, rfl, ho, hx⟩
    have HXL := kp hx
    obtain ⟨a6, c6, rfl⟩ := (SlB.of_owns ho).form
    clear ho hx
    go_wp2_with fail
    exact ⟨rfl, _, rfl, fun d hd => by cases hd; exact ⟨_, rfl⟩, HXL.out⟩
  simp only [Act.put, List.setIfInBounds_toArray, List.set_cons_zero, List.set_cons_succ]
  refine ⟨fun wv39 hwv39 hSv39 => ?_, fun v39 => ?_⟩
  · obtain ⟨xv39, rfl⟩ := hwv39
    have h43 := kp (show ∃ u, v43 = .tuple #[u, .int .i64 4] from hSv39 43 (by decide) (by decide))
    clear hSv39
    go_wp2_with fail
    exact ⟨rfl, _, rfl, fun d hd => by cases hd; exact h43.out, Ext.refl _⟩
  simp only [Act.put, List.setIfInBounds_toArray, List.set_cons_zero, List.set_cons_succ]
  refine ⟨fun wv44 hwv44 hSv44 => ?_, fun v44 => ?_⟩
  · obtain ⟨xv44, rfl⟩ := hwv44
    have h39 := kp (show ∃ u, v39 = .tuple #[u, .int .i64 4] from hSv44 39 (by decide) (by decide))
    clear hSv44
    obtain ⟨u, rfl⟩ := h39.out
    go_wp2_with fail
    exact ⟨rfl, _, rfl, fun d hd => by cases hd; exact trivial, Ext.refl _⟩
  simp only [Act.put, List.setIfInBounds_toArray, List.set_cons_zero, List.set_cons_succ]
  refine ⟨fun wv45 hwv45 hSv45 => ?_, fun v45 => ?_⟩
  · obtain ⟨xv45, rfl⟩ := hwv45
    have h39 := kp (show ∃ u, v39 = .tuple #[u, .int .i64 4] from hSv45 39 (by decide) (by decide))
    clear hSv45
    obtain ⟨u, rfl⟩ := h39.out
    go_wp2_with fail
    exact ⟨rfl, _, rfl, fun d hd => by cases hd; exact rfl, Ext.refl _⟩
  simp only [Act.put, List.setIfInBounds_toArray, List.set_cons_zero, List.set_cons_succ]
  refine ⟨fun wv9 hwv9 hSv9 => ?_, fun v9 => ?_⟩
  · obtain ⟨xv9, rfl⟩ := hwv9
    clear hSv9
    go_wp2_with fail
    exact ⟨rfl, _, rfl, fun d hd => by cases hd; exact trivial, Ext.refl _⟩
  simp only [Act.put, List.setIfInBounds_toArray, List.set_cons_zero, List.set_cons_succ]
  refine ⟨fun wv10 hwv10 hSv10 => ?_, fun v10 => ?_⟩
  · obtain ⟨xv10, rfl⟩ := hwv10
    obtain rfl : v45 = .int .i64 4 := hSv10 45 (by decide) (by decide)
    clear hSv10
    go_wp2_with fail
    exact ⟨rfl, _, rfl, fun d hd => by cases hd; exact rfl, Ext.refl _⟩
  simp only [Act.put, List.setIfInBounds_toArray, List.set_cons_zero, List.set_cons_succ]
  intro x4 hfin
  obtain rfl : v10 = .int .i64 4 := hfin 10 (by decide)
  clear hfin
  have HK5 := kp (hp_more (x := x4) HK4.out)
  have HN5 := kp (hp_more (x := x4) HN4.out)
  have HX5 := kp (HX4.out.trans (Ext.more _ x4))
  generalize more w4 x4 = w5 at *
  clear HK4 HN4 HX4
  simp only [List.drop_succ_cons, List.drop_zero]
  go_wp2_with fail
  subst h6
  go_wp2_with (first | ((with_reducible show wpList _ _ _ (Oper.mk _ (Op.load 23 _) _ _ _ _ :: _) _ _); (with_reducible refine wpList_load_row rfl 23 _ rfl (w.heap.size) rfl 23 ((kZ.map V8).toArray) (0, 0) _ (HK5.out) Try.underlying23 rfl (HK.out) ?_); simp only [Act.put, List.setIfInBounds_toArray, List.set_cons_zero, List.set_cons_succ]) | ((with_reducible show wpList _ _ _ (Oper.mk _ (Op.load 24 _) _ _ _ _ :: _) _ _); (with_reducible refine wpList_load_row rfl 24 _ rfl (w.heap.size + 1) rfl 24 ((nZ.map V8).toArray) (0, 0) _ (HN5.out) Try.underlying24 rfl (HN.out) ?_); simp only [Act.put, List.setIfInBounds_toArray, List.set_cons_zero, List.set_cons_succ]))
  have HB6 := kp (SlB.of_block (l := [1]) (cap := 1) (hp_new w5 (.cells #[.int .u8 1] 5)))
  have hx5 : Ext w (w5.alloc (.cells #[.int .u8 1] 5)) := HX5.out.trans (Ext.alloc _ _)
  have HK5b := kp (hp_alloc (o' := .cells #[.int .u8 1] 5) HK5.out)
  have HN5b := kp (hp_alloc (o' := .cells #[.int .u8 1] 5) HN5.out)
  refine (S1.out _ _ HB6.out (CapOk.mk (by decide))).mono ?_
  rintro e w6 ⟨v6, rfl, ho1, hx1⟩
  rw [L1.out] at ho1
  have hs5 : w.heap.size + 2 ≤ (w5.alloc (.cells #[.int .u8 1] 5)).heap.size := by
    have h1 := (Array.getElem?_eq_some_iff.1 HN5.out).1
    simp; omega
  have HX6 := kp (hx5.trans hx1)
  have HK6 := kp (ext_heap hx1 HK5b.out)
  have HN6 := kp (ext_heap hx1 HN5b.out)
  have HO1 := kp (owns_base ho1 hs5)
  have hw6 : w.heap.size + 2 ≤ w6.heap.size := by have := hx1.size; omega
  have HS6 := kp hw6
  clear ho1 hx1 hx5 hs5 HX5 HK5 HN5 HK5b HN5b HB6 hw6
  obtain ⟨_, h2'⟩ := HO1.out
  rcases h2' with ⟨_, h4'⟩ | ⟨g, cap4, cur, h3', hbg, _⟩
  · omega
  subst h3'
  have HBG := kp hbg
  clear hbg
  go_wp2_with (first | (go_at_call 22; refine (alive22_any _).mono ?_; rintro e w' ⟨rfl, x8, rfl⟩))
  have HO7 := kp (owns_ext HO1.out (Ext.more w6 x8))
  have HK7 := kp (hp_more (x := x8) HK6.out)
  have HN7 := kp (hp_more (x := x8) HN6.out)
  have HX7 := kp (HX6.out.trans (Ext.more w6 x8))
  have HS7 := kp (show w.heap.size + 2 ≤ (more w6 x8).heap.size by have := HS6.out; have := (Ext.more w6 x8).size; omega)
  generalize more w6 x8 = w7 at *
  clear HO1 HK6 HN6 HX6 HS6
  have hcell : w7.cell? ⟨g, 8, none⟩ = some (V8 y) := (HO7.out.cellAt 8 (by omega)).trans (by simp [HY.out])
  have hfr : w7.frozen? ⟨g, 8, none⟩ = false := HO7.out.frozenAt 8
  have HVV := kp (show V8 (BitVec.ofInt 8 (wI y + 1)) = .int .u8 ((wI y + 1) % 256) from V8_ofInt (wI y + 1))
  have HXS := kp (HX7.out.grown (HO7.out.stored 8 (.int .u8 ((wI y + 1) % 256))).2 (fun q hq => by cases hq; have := HBG.out; omega))
  have HOS := kp (show (w7.setCell ⟨g, 8, none⟩ (.int .u8 ((wI y + 1) % 256))).ownsRow (w.heap.size + 2) 5 1 (.slice (some ⟨g, 0, none⟩) 9 cap4) 9 ((sf.set 8 (BitVec.ofInt 8 (wI y + 1))).map V8) by rw [List.map_set, HVV.out]; exact (HO7.out.stored 8 _).1)
  have HKS := kp ((((HO7.out.stored 8 (.int .u8 ((wI y + 1) % 256))).2.block w.heap.size (by have := HS7.out; omega) (fun e => by cases e; have := HBG.out; omega)).trans HK7.out))
  have HNS := kp ((((HO7.out.stored 8 (.int .u8 ((wI y + 1) % 256))).2.block (w.heap.size + 1) (by have := HS7.out; omega) (fun e => by cases e; have := HBG.out; omega)).trans HN7.out))
  clear HX7 HK7 HN7
  subst h10
  go_wp2_with fail
  generalize w7.setCell ⟨g, 8, none⟩ (.int .u8 ((wI y + 1) % 256)) = w8 at *
  subst h11
  go_wp2_with (first | ((with_reducible show wpList _ _ _ (Oper.mk _ (Op.load 23 _) _ _ _ _ :: _) _ _); (with_reducible refine wpList_load_row rfl 23 _ rfl (w.heap.size) rfl 23 ((kZ.map V8).toArray) (0, 0) _ (HKS.out) Try.underlying23 rfl (HK.out) ?_); simp only [Act.put, List.setIfInBounds_toArray, List.set_cons_zero, List.set_cons_succ]) | ((with_reducible show wpList _ _ _ (Oper.mk _ (Op.load 24 _) _ _ _ _ :: _) _ _); (with_reducible refine wpList_load_row rfl 24 _ rfl (w.heap.size + 1) rfl 24 ((nZ.map V8).toArray) (0, 0) _ (HNS.out) Try.underlying24 rfl (HN.out) ?_); simp only [Act.put, List.setIfInBounds_toArray, List.set_cons_zero, List.set_cons_succ]))
  have HSO := kp (SlB.of_owns HOS.out)
  refine (S2.out _ _ HSO.out (CapOk.of_owns HOS.out)).mono ?_
  rintro e w9 ⟨v3, rfl, ho3, hx3⟩
  have HX9 := kp (HXS.out.trans hx3)
  have HK9 := kp (ext_heap hx3 HKS.out)
  have HN9 := kp (ext_heap hx3 HNS.out)
  obtain ⟨a3, c3, rfl⟩ := (SlB.of_owns ho3).form
  clear ho3 hx3 HXS HKS HNS HOS HSO HO7 HVV HS7 hcell hfr
  go_wp2_with fail
  subst h12
  refine region_spine0 (tabS [(95, fun v _ => v = .int .i64 31), (96, fun v _ => v = .bool true), (97, fun v _ => v = .bool true), (98, fun v _ => v = .agg (kZ.map V8).toArray), (99, fun v _ => v = .agg (nZ.map V8).toArray), (100, fun v _ => v = .agg (S0.map V8).toArray), (101, fun v _ => v = .agg (kZ.map V8).toArray), (102, fun v _ => v = .agg (nZ.map V8).toArray), (103, fun v _ => v = .agg (S0.map V8).toArray), (104, fun v _ => v = .bool true), (105, fun v _ => v = .bool true), (106, fun v _ => v = .bool true), (107, fun v _ => v = .agg (kZ.map V8).toArray), (108, fun v _ => v = .agg (nZ.map V8).toArray), (109, fun v _ => v = .agg (Sm.map V8).toArray), (110, fun v _ => v = .agg (kZ.map V8).toArray), (111, fun v _ => v = .agg (nZ.map V8).toArray), (112, fun v _ => v = .agg (Sm.map V8).toArray), (113, fun v _ => v = .bool true), (114, fun v _ => v = .bool true), (0, fun v _ => v = .bool true)]) (tabS_mono _ (by simp only [List.forall_mem_cons]; exact ⟨mono_eq _, mono_eq _, mono_eq _, mono_eq _, mono_eq _, mono_eq _, mono_eq _, mono_eq _, mono_eq _, mono_eq _, mono_eq _, mono_eq _, mono_eq _, mono_eq _, mono_eq _, mono_eq _, mono_eq _, mono_eq _, mono_eq _, mono_eq _, mono_eq _, by simp⟩)) 21 (by kernel_rfl) (by kernel_rfl) (by kernel_rfl) (by kernel_rfl) (by decide) (Nat.le_of_ble_eq_true (by kernel_rfl)) (by kernel_rfl) (w9) (.inl rfl) ?_
  simp only [List.take_succ_cons, List.take_zero]
  refine ⟨fun wv95 hwv95 hSv95 => ?_, fun v95 => ?_⟩
  · obtain ⟨xv95, rfl⟩ := hwv95
    clear hSv95
    go_wp2_with fail
    exact ⟨rfl, _, rfl, fun d hd => by cases hd; exact rfl, Ext.refl _⟩
  simp only [Act.put, List.setIfInBounds_toArray, List.set_cons_zero, List.set_cons_succ]
  refine ⟨fun wv96 hwv96 hSv96 => ?_, fun v96 => ?_⟩
  · obtain ⟨xv96, rfl⟩ := hwv96
    obtain rfl : v95 = .int .i64 31 := hSv96 95 (by decide) (by decide)
    clear hSv96
    go_wp2_with fail
    exact ⟨rfl, _, rfl, fun d hd => by cases hd; exact rfl, Ext.refl _⟩
  simp only [Act.put, List.setIfInBounds_toArray, List.set_cons_zero, List.set_cons_succ]
  refine ⟨fun wv97 hwv97 hSv97 => ?_, fun v97 => ?_⟩
  · obtain ⟨xv97, rfl⟩ := hwv97
    obtain rfl : v96 = .bool true := hSv97 96 (by decide) (by decide)
    clear hSv97
    go_wp2_with fail
    exact ⟨rfl, _, rfl, fun d hd => by cases hd; exact rfl, Ext.refl _⟩
  simp only [Act.put, List.setIfInBounds_toArray, List.set_cons_zero, List.set_cons_succ]
  refine ⟨fun wv98 hwv98 hSv98 => ?_, fun v98 => ?_⟩
  · obtain ⟨xv98, rfl⟩ := hwv98
    obtain rfl : v97 = .bool true := hSv98 97 (by decide) (by decide)
    clear hSv98
    go_wp2_with ((with_reducible show wpList _ _ _ (Oper.mk _ (Op.load 23 _) _ _ _ _ :: _) _ _); (with_reducible refine wpList_load_rowG (by kernel_rfl) 23 _ rfl (w.heap.size) rfl 23 ((kZ.map V8).toArray) (0, 0) _ (hp_more HK9.out) Try.underlying23 rfl (HK.out) ?_); simp only [Act.put, List.setIfInBounds_toArray, List.set_cons_zero, List.set_cons_succ])
    exact ⟨rfl, _, rfl, fun d hd => by cases hd; exact rfl, Ext.refl _⟩
  simp only [Act.put, List.setIfInBounds_toArray, List.set_cons_zero, List.set_cons_succ]
  refine ⟨fun wv99 hwv99 hSv99 => ?_, fun v99 => ?_⟩
  · obtain ⟨xv99, rfl⟩ := hwv99
    obtain rfl : v97 = .bool true := hSv99 97 (by decide) (by decide)
    clear hSv99
    go_wp2_with ((with_reducible show wpList _ _ _ (Oper.mk _ (Op.load 24 _) _ _ _ _ :: _) _ _); (with_reducible refine wpList_load_rowG (by kernel_rfl) 24 _ rfl (w.heap.size + 1) rfl 24 ((nZ.map V8).toArray) (0, 0) _ (hp_more HN9.out) Try.underlying24 rfl (HN.out) ?_); simp only [Act.put, List.setIfInBounds_toArray, List.set_cons_zero, List.set_cons_succ])
    exact ⟨rfl, _, rfl, fun d hd => by cases hd; exact rfl, Ext.refl _⟩
  simp only [Act.put, List.setIfInBounds_toArray, List.set_cons_zero, List.set_cons_succ]
  refine ⟨fun wv100 hwv100 hSv100 => ?_, fun v100 => ?_⟩
  · obtain ⟨xv100, rfl⟩ := hwv100
    obtain rfl : v97 = .bool true := hSv100 97 (by decide) (by decide)
    obtain rfl : v98 = .agg (kZ.map V8).toArray := hSv100 98 (by decide) (by decide)
    obtain rfl : v99 = .agg (nZ.map V8).toArray := hSv100 99 (by decide) (by decide)
    clear hSv100
    go_wp2_with fail
    refine (HSa.out _).mono ?_
    rintro e w' ⟨rfl, hx⟩
    have HXL := kp hx
    clear hx
    go_wp2_with fail
    exact ⟨rfl, _, rfl, fun d hd => by cases hd; exact rfl, HXL.out⟩
  simp only [Act.put, List.setIfInBounds_toArray, List.set_cons_zero, List.set_cons_succ]
  refine ⟨fun wv101 hwv101 hSv101 => ?_, fun v101 => ?_⟩
  · obtain ⟨xv101, rfl⟩ := hwv101
    obtain rfl : v97 = .bool true := hSv101 97 (by decide) (by decide)
    clear hSv101
    go_wp2_with ((with_reducible show wpList _ _ _ (Oper.mk _ (Op.load 23 _) _ _ _ _ :: _) _ _); (with_reducible refine wpList_load_rowG (by kernel_rfl) 23 _ rfl (w.heap.size) rfl 23 ((kZ.map V8).toArray) (0, 0) _ (hp_more HK9.out) Try.underlying23 rfl (HK.out) ?_); simp only [Act.put, List.setIfInBounds_toArray, List.set_cons_zero, List.set_cons_succ])
    exact ⟨rfl, _, rfl, fun d hd => by cases hd; exact rfl, Ext.refl _⟩
  simp only [Act.put, List.setIfInBounds_toArray, List.set_cons_zero, List.set_cons_succ]
  refine ⟨fun wv102 hwv102 hSv102 => ?_, fun v102 => ?_⟩
  · obtain ⟨xv102, rfl⟩ := hwv102
    obtain rfl : v97 = .bool true := hSv102 97 (by decide) (by decide)
    clear hSv102
    go_wp2_with ((with_reducible show wpList _ _ _ (Oper.mk _ (Op.load 24 _) _ _ _ _ :: _) _ _); (with_reducible refine wpList_load_rowG (by kernel_rfl) 24 _ rfl (w.heap.size + 1) rfl 24 ((nZ.map V8).toArray) (0, 0) _ (hp_more HN9.out) Try.underlying24 rfl (HN.out) ?_); simp only [Act.put, List.setIfInBounds_toArray, List.set_cons_zero, List.set_cons_succ])
    exact ⟨rfl, _, rfl, fun d hd => by cases hd; exact rfl, Ext.refl _⟩
  simp only [Act.put, List.setIfInBounds_toArray, List.set_cons_zero, List.set_cons_succ]
  refine ⟨fun wv103 hwv103 hSv103 => ?_, fun v103 => ?_⟩
  · obtain ⟨xv103, rfl⟩ := hwv103
    obtain rfl : v97 = .bool true := hSv103 97 (by decide) (by decide)
    obtain rfl : v101 = .agg (kZ.map V8).toArray := hSv103 101 (by decide) (by decide)
    obtain rfl : v102 = .agg (nZ.map V8).toArray := hSv103 102 (by decide) (by decide)
    clear hSv103
    go_wp2_with fail
    refine (HSb.out _).mono ?_
    rintro e w' ⟨rfl, hx⟩
    have HXL := kp hx
    clear hx
    go_wp2_with fail
    exact ⟨rfl, _, rfl, fun d hd => by cases hd; exact rfl, HXL.out⟩
  simp only [Act.put, List.setIfInBounds_toArray, List.set_cons_zero, List.set_cons_succ]
  refine ⟨fun wv104 hwv104 hSv104 => ?_, fun v104 => ?_⟩
  · obtain ⟨xv104, rfl⟩ := hwv104
    obtain rfl : v97 = .bool true := hSv104 97 (by decide) (by decide)
    obtain rfl : v100 = .agg (S0.map V8).toArray := hSv104 100 (by decide) (by decide)
    obtain rfl : v103 = .agg (S0.map V8).toArray := hSv104 103 (by decide) (by decide)
    clear hSv104
    go_wp2_with fail
    exact ⟨rfl, _, rfl, fun d hd => by cases hd; exact rfl, Ext.refl _⟩
  simp only [Act.put, List.setIfInBounds_toArray, List.set_cons_zero, List.set_cons_succ]
  refine ⟨fun wv105 hwv105 hSv105 => ?_, fun v105 => ?_⟩
  · obtain ⟨xv105, rfl⟩ := hwv105
    obtain rfl : v97 = .bool true := hSv105 97 (by decide) (by decide)
    obtain rfl : v104 = .bool true := hSv105 104 (by decide) (by decide)
    clear hSv105
    go_wp2_with fail
    exact ⟨rfl, _, rfl, fun d hd => by cases hd; exact rfl, Ext.refl _⟩
  simp only [Act.put, List.setIfInBounds_toArray, List.set_cons_zero, List.set_cons_succ]
  refine ⟨fun wv106 hwv106 hSv106 => ?_, fun v106 => ?_⟩
  · obtain ⟨xv106, rfl⟩ := hwv106
    obtain rfl : v105 = .bool true := hSv106 105 (by decide) (by decide)
    clear hSv106
    go_wp2_with fail
    exact ⟨rfl, _, rfl, fun d hd => by cases hd; exact rfl, Ext.refl _⟩
  simp only [Act.put, List.setIfInBounds_toArray, List.set_cons_zero, List.set_cons_succ]
  refine ⟨fun wv107 hwv107 hSv107 => ?_, fun v107 => ?_⟩
  · obtain ⟨xv107, rfl⟩ := hwv107
    obtain rfl : v106 = .bool true := hSv107 106 (by decide) (by decide)
    clear hSv107
    go_wp2_with ((with_reducible show wpList _ _ _ (Oper.mk _ (Op.load 23 _) _ _ _ _ :: _) _ _); (with_reducible refine wpList_load_rowG (by kernel_rfl) 23 _ rfl (w.heap.size) rfl 23 ((kZ.map V8).toArray) (0, 0) _ (hp_more HK9.out) Try.underlying23 rfl (HK.out) ?_); simp only [Act.put, List.setIfInBounds_toArray, List.set_cons_zero, List.set_cons_succ])
    exact ⟨rfl, _, rfl, fun d hd => by cases hd; exact rfl, Ext.refl _⟩
  simp only [Act.put, List.setIfInBounds_toArray, List.set_cons_zero, List.set_cons_succ]
  refine ⟨fun wv108 hwv108 hSv108 => ?_, fun v108 => ?_⟩
  · obtain ⟨xv108, rfl⟩ := hwv108
    obtain rfl : v106 = .bool true := hSv108 106 (by decide) (by decide)
    clear hSv108
    go_wp2_with ((with_reducible show wpList _ _ _ (Oper.mk _ (Op.load 24 _) _ _ _ _ :: _) _ _); (with_reducible refine wpList_load_rowG (by kernel_rfl) 24 _ rfl (w.heap.size + 1) rfl 24 ((nZ.map V8).toArray) (0, 0) _ (hp_more HN9.out) Try.underlying24 rfl (HN.out) ?_); simp only [Act.put, List.setIfInBounds_toArray, List.set_cons_zero, List.set_cons_succ])
    exact ⟨rfl, _, rfl, fun d hd => by cases hd; exact rfl, Ext.refl _⟩
  simp only [Act.put, List.setIfInBounds_toArray, List.set_cons_zero, List.set_cons_succ]
  refine ⟨fun wv109 hwv109 hSv109 => ?_, fun v109 => ?_⟩
  · obtain ⟨xv109, rfl⟩ := hwv109
    obtain rfl : v106 = .bool true := hSv109 106 (by decide) (by decide)
    obtain rfl : v107 = .agg (kZ.map V8).toArray := hSv109 107 (by decide) (by decide)
    obtain rfl : v108 = .agg (nZ.map V8).toArray := hSv109 108 (by decide) (by decide)
    clear hSv109
    go_wp2_with fail
    refine (HSc.out _).mono ?_
    rintro e w' ⟨rfl, hx⟩
    have HXL := kp hx
    clear hx
    go_wp2_with fail
    exact ⟨rfl, _, rfl, fun d hd => by cases hd; exact rfl, HXL.out⟩
  simp only [Act.put, List.setIfInBounds_toArray, List.set_cons_zero, List.set_cons_succ]
  refine ⟨fun wv110 hwv110 hSv110 => ?_, fun v110 => ?_⟩
  · obtain ⟨xv110, rfl⟩ := hwv110
    obtain rfl : v106 = .bool true := hSv110 106 (by decide) (by decide)
    clear hSv110
    go_wp2_with ((with_reducible show wpList _ _ _ (Oper.mk _ (Op.load 23 _) _ _ _ _ :: _) _ _); (with_reducible refine wpList_load_rowG (by kernel_rfl) 23 _ rfl (w.heap.size) rfl 23 ((kZ.map V8).toArray) (0, 0) _ (hp_more HK9.out) Try.underlying23 rfl (HK.out) ?_); simp only [Act.put, List.setIfInBounds_toArray, List.set_cons_zero, List.set_cons_succ])
    exact ⟨rfl, _, rfl, fun d hd => by cases hd; exact rfl, Ext.refl _⟩
  simp only [Act.put, List.setIfInBounds_toArray, List.set_cons_zero, List.set_cons_succ]
  refine ⟨fun wv111 hwv111 hSv111 => ?_, fun v111 => ?_⟩
  · obtain ⟨xv111, rfl⟩ := hwv111
    obtain rfl : v106 = .bool true := hSv111 106 (by decide) (by decide)
    clear hSv111
    go_wp2_with ((with_reducible show wpList _ _ _ (Oper.mk _ (Op.load 24 _) _ _ _ _ :: _) _ _); (with_reducible refine wpList_load_rowG (by kernel_rfl) 24 _ rfl (w.heap.size + 1) rfl 24 ((nZ.map V8).toArray) (0, 0) _ (hp_more HN9.out) Try.underlying24 rfl (HN.out) ?_); simp only [Act.put, List.setIfInBounds_toArray, List.set_cons_zero, List.set_cons_succ])
    exact ⟨rfl, _, rfl, fun d hd => by cases hd; exact rfl, Ext.refl _⟩
  simp only [Act.put, List.setIfInBounds_toArray, List.set_cons_zero, List.set_cons_succ]
  refine ⟨fun wv112 hwv112 hSv112 => ?_, fun v112 => ?_⟩
  · obtain ⟨xv112, rfl⟩ := hwv112
    obtain rfl : v106 = .bool true := hSv112 106 (by decide) (by decide)
    obtain rfl : v110 = .agg (kZ.map V8).toArray := hSv112 110 (by decide) (by decide)
    obtain rfl : v111 = .agg (nZ.map V8).toArray := hSv112 111 (by decide) (by decide)
    clear hSv112
    go_wp2_with fail
    refine (HSd.out _).mono ?_
    rintro e w' ⟨rfl, hx⟩
    have HXL := kp hx
    clear hx
    go_wp2_with fail
    exact ⟨rfl, _, rfl, fun d hd => by cases hd; exact rfl, HXL.out⟩
  simp only [Act.put, List.setIfInBounds_toArray, List.set_cons_zero, List.set_cons_succ]
  refine ⟨fun wv113 hwv113 hSv113 => ?_, fun v113 => ?_⟩
  · obtain ⟨xv113, rfl⟩ := hwv113
    obtain rfl : v106 = .bool true := hSv113 106 (by decide) (by decide)
    obtain rfl : v109 = .agg (Sm.map V8).toArray := hSv113 109 (by decide) (by decide)
    obtain rfl : v112 = .agg (Sm.map V8).toArray := hSv113 112 (by decide) (by decide)
    clear hSv113
    go_wp2_with fail
    exact ⟨rfl, _, rfl, fun d hd => by cases hd; exact rfl, Ext.refl _⟩
  simp only [Act.put, List.setIfInBounds_toArray, List.set_cons_zero, List.set_cons_succ]
  refine ⟨fun wv114 hwv114 hSv114 => ?_, fun v114 => ?_⟩
  · obtain ⟨xv114, rfl⟩ := hwv114
    obtain rfl : v106 = .bool true := hSv114 106 (by decide) (by decide)
    obtain rfl : v113 = .bool true := hSv114 113 (by decide) (by decide)
    clear hSv114
    go_wp2_with fail
    exact ⟨rfl, _, rfl, fun d hd => by cases hd; exact rfl, Ext.refl _⟩
  simp only [Act.put, List.setIfInBounds_toArray, List.set_cons_zero, List.set_cons_succ]
  refine ⟨fun wv0 hwv0 hSv0 => ?_, fun v0 => ?_⟩
  · obtain ⟨xv0, rfl⟩ := hwv0
    obtain rfl : v114 = .bool true := hSv0 114 (by decide) (by decide)
    clear hSv0
    go_wp2_with fail
    exact ⟨rfl, _, rfl, fun d hd => by cases hd; exact rfl, Ext.refl _⟩
  simp only [Act.put, List.setIfInBounds_toArray, List.set_cons_zero]
  intro xz hfin
  obtain rfl : v0 = .bool true := hfin 0 (by decide)
  clear hfin
  simp only [List.drop_succ_cons, List.drop_zero]
  go_wp2_with fail
  go_ret
  exact ⟨rfl, HX9.out.trans (Ext.more _ _)⟩
end Go.Proofs.Ytnofmppimihjpaa
