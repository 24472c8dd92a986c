/- The walk of DeriveNames. -/
import Derived.Test.YtianjmmmegelkaaNames
import Derived.Laws.MakeOwn
import Derived.Test.YtianjmmmegelkaaLate
namespace Go.Proofs.Ytianjmmmegelkaa
open Go.RowKit

def k1 : List (BitVec 8) := [1, 0, 0, 0, 0, 0, 0, 0, 0, 0, 0, 0, 0, 0, 0, 0]
theorem k1_len : k1.length = 16 := rfl
theorem made_u8 (n : Nat) : madeCells (Value.int .u8 0).cells n = ((List.replicate n (0 : BitVec 8)).map V8).toArray := by
  refine Array.ext_getElem? fun i => ?_
  by_cases h : i < n
  · simp [madeCells, Value.cells, h, V8]
    rw [Nat.mod_one]; rfl
  · simp [madeCells, h]
theorem make_zero (n : Nat) (hn : n ≤ 100000) (w : World) : (Instr.makeSlice 22 (.int .i64 (n : Int)) (.int .i64 (n : Int))).run Try.prog w = .ok (.slice (some ⟨w.heap.size, 0, none⟩) n n) (w.alloc (.cells ((List.replicate n (0 : BitVec 8)).map V8).toArray 5)) := by
  obtain ⟨iu, hiu, h1, h2, h3⟩ := info_iu
  have := run_makeSlice w 22 5 iu (.int .u8 0) Try.underlying22 hiu h1 .i64 .i64 (n : Int) (n : Int) (by omega) (by omega) (by rw [h2]; simp; omega) (by rw [h3]; simp; omega) (by omega)
  rw [this, h2]
  simp only [Int.toNat_natCast, Nat.mul_one, made_u8]
/-- A new slice of zero bytes, of n bytes, in the block Z. -/
theorem make_at (n : Nat) (hn : n ≤ 100000) : ∃ Z : Array Value, (∀ w : World, (Instr.makeSlice 22 (.int .i64 (n : Int)) (.int .i64 (n : Int))).run Try.prog w = .ok (.slice (some ⟨w.heap.size, 0, none⟩) n n) (w.alloc (.cells Z 5))) ∧ ∀ w : World, SlB (w.alloc (.cells Z 5)) (.slice (some ⟨w.heap.size, 0, none⟩) n n) (List.replicate n 0) := by
  refine ⟨_, make_zero n hn, fun w => ?_⟩
  have h := SlB.of_block (cap := n) (hp_new w (.cells ((List.replicate n (0 : BitVec 8)).map V8).toArray 5))
  rwa [List.length_replicate] at h
def hd0 : List (BitVec 8) := [3, 0, 0, 0, 0, 0, 0, 0, 0, 0, 0, 0, 0, 0, 0, 0]
def hd16 : List (BitVec 8) := [3, 16, 0, 0, 0, 0, 0, 0, 0, 0, 0, 0, 0, 0, 0, 0]
theorem mac_none (ks : List (BitVec 8)) : macF ks [] = encF ks hd0 := by
  show encF ks (macHdTo 0 8) = _
  rw [show macHdTo 0 8 = hd0 by decide +kernel]
theorem xor_none (x : BitVec 8) : x ^^^ 0 = x := by simp
theorem list_set_self (l : List (BitVec 8)) (i : Nat) : l.set i (l.getD i 0) = l := by
  refine List.ext_getElem? fun j => ?_
  rw [List.getElem?_set]
  split
  · rename_i h; subst h
    split
    · rename_i h; simp [List.getD, List.getElem?_eq_getElem h]
    · rename_i h; rw [List.getElem?_eq_none (by omega)]
  · rfl
theorem mac_zeros (ks : List (BitVec 8)) : macF ks (List.replicate 16 0) = encF ks (encF ks hd16) := by
  have hl : (List.replicate 16 (0 : BitVec 8)).length = 16 := by simp
  have h0 : macTo ks (List.replicate 16 0) 0 = encF ks hd16 := by
    show encF ks (macHdTo (List.replicate 16 (0 : BitVec 8)).length 8) = _
    rw [hl, show macHdTo 16 8 = hd16 by decide +kernel]
  have hz : ∀ k, (List.replicate 16 (0 : BitVec 8)).getD k 0 = 0 := fun k => by
    simp only [List.getD, List.getElem?_replicate]; split <;> rfl
  have step : ∀ k, k ≤ 15 → macTo ks (List.replicate 16 0) k = encF ks hd16 := by
    intro k
    induction k with
    | zero => intro _; exact h0
    | succ k ih =>
      intro hk
      rw [macTo, if_neg (by rw [hl]; omega), hz, xor_none, list_set_self, ih (by omega)]
  show macTo ks (List.replicate 16 0) (List.replicate 16 (0 : BitVec 8)).length = _
  rw [hl, macTo, if_pos (.inl rfl), hz, xor_none, list_set_self, step 15 (by omega)]
theorem eql_same (w : World) (l m : List (BitVec 8)) (hl : l.length = 16) (h : l = m) : (binOp .eql 31 (.agg (l.map V8).toArray) (.agg (m.map V8).toArray)).run Try.prog w = .ok (.bool true) w := by
  subst h
  rw [run_eql_V8 (P := Try.prog) w Try.underlying31 Try.underlying5 size5 l l hl hl]
  simp
set_option maxHeartbeats 6400000 in
set_option maxRecDepth 10000 in
theorem names_any (w : World) : Calls Try.prog 8 #[] w fun e w' => e = .returned (.bool true) ∧ Ext w w' := by
  have HK := kp (sizeK k1 k1_len)
  have hK : (#[.int .u8 1, .int .u8 0, .int .u8 0, .int .u8 0, .int .u8 0, .int .u8 0, .int .u8 0, .int .u8 0, .int .u8 0, .int .u8 0, .int .u8 0, .int .u8 0, .int .u8 0, .int .u8 0, .int .u8 0, .int .u8 0] : Array Value) = (k1.map V8).toArray := rfl
  have HKL := kp hK
  clear hK
  have HSL := kp (show (Try.prog.info? 29).map (·.size) = some (#[.int .u8 1, .int .u8 0, .int .u8 0, .int .u8 0, .int .u8 0, .int .u8 0, .int .u8 0, .int .u8 0, .int .u8 0, .int .u8 0, .int .u8 0, .int .u8 0, .int .u8 0, .int .u8 0, .int .u8 0, .int .u8 0] : Array Value).size by rw [size29]; rfl)
  have HOL := kp (show ((#[.int .u8 1, .int .u8 0, .int .u8 0, .int .u8 0, .int .u8 0, .int .u8 0, .int .u8 0, .int .u8 0, .int .u8 0, .int .u8 0, .int .u8 0, .int .u8 0, .int .u8 0, .int .u8 0, .int .u8 0, .int .u8 0] : Array Value).all (·.oneCell')) = true by simp [Value.oneCell'])
  go_enter Try.func8, Try.ntmps8
  go_wp2_with (first | ((with_reducible show wpList _ _ _ (Oper.mk none (Op.store 29 _ _) _ _ _ _ :: _) _ _); with_reducible refine wpList_st_row rfl rfl 29 _ _ rfl (w.heap.size) (#[.int .u8 1, .int .u8 0, .int .u8 0, .int .u8 0, .int .u8 0, .int .u8 0, .int .u8 0, .int .u8 0, .int .u8 0, .int .u8 0, .int .u8 0, .int .u8 0, .int .u8 0, .int .u8 0, .int .u8 0, .int .u8 0]) rfl rfl 29 (_) (hp_new _ _) (HSL.out) (rfl) (HOL.out) (by rewrite [setRow_at _ _ _ _ _ _ (by simp <;> omega)]; rfl) ?_) | ((with_reducible show wpList _ _ _ (Oper.mk _ (Op.load 29 _) _ _ _ _ :: _) _ _); (with_reducible refine wpList_load_row rfl 29 _ rfl (w.heap.size) rfl 29 (#[.int .u8 1, .int .u8 0, .int .u8 0, .int .u8 0, .int .u8 0, .int .u8 0, .int .u8 0, .int .u8 0, .int .u8 0, .int .u8 0, .int .u8 0, .int .u8 0, .int .u8 0, .int .u8 0, .int .u8 0, .int .u8 0]) (0, 0) _ (hp_new _ _) Try.underlying29 rfl (HSL.out) ?_); simp only [Act.put, List.setIfInBounds_toArray, List.set_cons_zero, List.set_cons_succ]))
  rw [HKL.out]
  refine (expand_neg k1 ⟨#[120]⟩ none 0 0 (-1) (by decide) _).mono ?_
  rintro e w1 ⟨rfl, hx1⟩
  have HR1 := kp (ext_heap hx1 (hp_new _ _))
  have HX1 := kp ((Ext.alloc _ _).trans hx1)
  clear hx1
  go_wp2_with ((with_reducible show wpList _ _ _ (Oper.mk _ (Op.load 29 _) _ _ _ _ :: _) _ _); (with_reducible refine wpList_load_row rfl 29 _ rfl (w.heap.size) rfl 29 ((k1.map V8).toArray) (0, 0) _ (HR1.out) Try.underlying29 rfl (HK.out) ?_); simp only [Act.put, List.setIfInBounds_toArray, List.set_cons_zero, List.set_cons_succ])
  refine (expand_many k1 ⟨#[120]⟩ (by decide) none 0 0 1025 (by decide) (.inr (.inr (by decide))) _).mono ?_
  rintro e w2 ⟨rfl, hx2⟩
  have HR2 := kp (ext_heap hx2 HR1.out)
  have HX2 := kp (HX1.out.trans hx2)
  clear hx2 HR1 HX1
  go_wp2_with fail
  (first | with_reducible refine region_f2 9 (by kernel_rfl) (by kernel_rfl) (by kernel_rfl) (by kernel_rfl) (by decide) (Nat.le_of_ble_eq_true (by kernel_rfl)) ?_ | refine region_f 9 (by kernel_rfl) (by kernel_rfl) (by kernel_rfl) (by kernel_rfl) (by decide) (Nat.le_of_ble_eq_true (by kernel_rfl)) ?_)
  apply Exists.intro
  refine ⟨fun xz2 => ?_, fun xq2 => ?_⟩
  · simp only [List.take_succ_cons, List.take_zero]
    unfold Cx
    repeat (first | ((with_reducible show wpQuiet _ _ _ _ (Oper.mk _ (Op.load 29 _) _ _ _ _ :: _) _); go_big_quiet_want; with_reducible refine quiet_load_row 29 _ rfl (w.heap.size) rfl 29 ((k1.map V8).toArray) (0, 0) _ (fun _ hw => by obtain ⟨xx, rfl⟩ := hw; exact hp_more HR2.out) Try.underlying29 rfl (HK.out) ?_; simp only [Act.put, List.setIfInBounds_toArray, List.set_cons_zero, List.set_cons_succ]; go_big_quiet_on) | go_big_quiet_step (exact Calls.cx_of (expand_many k1 _ (of_decide_eq_true (by kernel_rfl)) none 0 0 1 (by decide) (.inl (of_decide_eq_true (by kernel_rfl))) _)))
    exact wpQuiet_nil rfl
  simp only [List.drop_succ_cons, List.drop_zero]
  have HR3 := kp (hp_more (x := xq2) HR2.out)
  have HX3 := kp (HX2.out.trans (Ext.more _ xq2))
  generalize more w2 xq2 = w3 at *
  clear HR2 HX2
  go_wp2_with fail
  refine region_spine0 (tabS [(38, fun v _ => v = .agg (k1.map V8).toArray), (39, fun v _ => v = .string ⟨#[48, 49, 50, 51, 52, 53, 54, 55, 56, 57, 48, 49, 50, 51, 52, 53, 54, 55, 56, 57, 48, 49, 50, 51, 52, 53, 54, 55, 56, 57, 48, 49, 50, 51]⟩), (40, fun v _ => v = .string (ByteArray.extract ⟨#[48, 49, 50, 51, 52, 53, 54, 55, 56, 57, 48, 49, 50, 51, 52, 53, 54, 55, 56, 57, 48, 49, 50, 51, 52, 53, 54, 55, 56, 57, 48, 49, 50, 51]⟩ 0 32)), (41, fun v w => SlB w v (List.replicate 256 0)), (42, fun v _ => ∃ ad, v = .tuple #[.slice ad 1024 1024, .int .i64 0]), (37, fun v _ => ∃ ad, v = .tuple #[.slice ad 1024 1024, .int .i64 0]), (43, fun _ _ => True), (44, fun v _ => v = .int .i64 0), (9, fun _ _ => True), (10, fun v _ => v = .int .i64 0)]) (tabS_mono _ (by simp only [List.forall_mem_cons]; exact ⟨mono_eq _, mono_eq _, mono_eq _, mono_SlB _, fun _ _ _ h _ => h, fun _ _ _ h _ => h, fun _ _ _ h _ => h, mono_eq _, fun _ _ _ h _ => h, mono_eq _, by simp⟩)) 10 (by kernel_rfl) (by kernel_rfl) (by kernel_rfl) (by kernel_rfl) (by decide) (Nat.le_of_ble_eq_true (by kernel_rfl)) (by kernel_rfl) (w3) (.inl rfl) ?_
  simp only [List.take_succ_cons, List.take_zero]
  refine ⟨fun wv38 hwv38 hSv38 => ?_, fun v38 => ?_⟩
  · obtain ⟨xv38, rfl⟩ := hwv38
    clear hSv38
    go_wp2_with ((with_reducible show wpList _ _ _ (Oper.mk _ (Op.load 29 _) _ _ _ _ :: _) _ _); (with_reducible refine wpList_load_row rfl 29 _ rfl (w.heap.size) rfl 29 ((k1.map V8).toArray) (0, 0) _ (hp_more HR3.out) Try.underlying29 rfl (HK.out) ?_); simp only [Act.put, List.setIfInBounds_toArray, List.set_cons_zero, List.set_cons_succ])
    exact ⟨rfl, _, rfl, fun d hd => by cases hd; exact rfl, Ext.refl _⟩
  simp only [Act.put, List.setIfInBounds_toArray, List.set_cons_zero, List.set_cons_succ]
  refine ⟨fun wv39 hwv39 hSv39 => ?_, fun v39 => ?_⟩
  · obtain ⟨xv39, rfl⟩ := hwv39
    clear hSv39
    go_wp2_with fail
    exact ⟨rfl, _, rfl, fun d hd => by cases hd; exact rfl, Ext.refl _⟩
  simp only [Act.put, List.setIfInBounds_toArray, List.set_cons_zero, List.set_cons_succ]
  refine ⟨fun wv40 hwv40 hSv40 => ?_, fun v40 => ?_⟩
  · obtain ⟨xv40, rfl⟩ := hwv40
    obtain rfl : v39 = .string ⟨#[48, 49, 50, 51, 52, 53, 54, 55, 56, 57, 48, 49, 50, 51, 52, 53, 54, 55, 56, 57, 48, 49, 50, 51, 52, 53, 54, 55, 56, 57, 48, 49, 50, 51]⟩ := hSv40 39 (by decide) (by decide)
    clear hSv40
    go_wp2_with fail
    exact ⟨rfl, _, rfl, fun d hd => by cases hd; exact rfl, Ext.refl _⟩
  simp only [Act.put, List.setIfInBounds_toArray, List.set_cons_zero, List.set_cons_succ]
  refine ⟨fun wv41 hwv41 hSv41 => ?_, fun v41 => ?_⟩
  · obtain ⟨xv41, rfl⟩ := hwv41
    clear hSv41
    obtain ⟨Z, hmk, hsl⟩ := make_at 256 (by decide)
    have HSZ := kp (hsl (more w3 xv41))
    clear hsl
    have hmk2 : (Instr.makeSlice 22 (.int .i64 256) (.int .i64 256)).run Try.prog (more w3 xv41) = .ok (.slice (some ⟨(more w3 xv41).heap.size, 0, none⟩) 256 256) ((more w3 xv41).alloc (.cells Z 5)) := hmk _
    clear hmk
    go_wp2_with fail
    exact ⟨rfl, _, rfl, fun d hd => by cases hd; exact (by have h := HSZ.out; rw [more_size] at h; exact h), Ext.alloc _ _⟩
  simp only [Act.put, List.setIfInBounds_toArray, List.set_cons_zero, List.set_cons_succ]
  refine ⟨fun wv42 hwv42 hSv42 => ?_, fun v42 => ?_⟩
  · obtain ⟨xv42, rfl⟩ := hwv42
    obtain rfl : v38 = .agg (k1.map V8).toArray := hSv42 38 (by decide) (by decide)
    obtain rfl : v40 = .string (ByteArray.extract ⟨#[48, 49, 50, 51, 52, 53, 54, 55, 56, 57, 48, 49, 50, 51, 52, 53, 54, 55, 56, 57, 48, 49, 50, 51, 52, 53, 54, 55, 56, 57, 48, 49, 50, 51]⟩ 0 32) := hSv42 40 (by decide) (by decide)
    have h41 := kp (show SlB _ v41 (List.replicate 256 0) from hSv42 41 (by decide) (by decide))
    clear hSv42
    obtain ⟨a7, c7, rfl⟩ := h41.out.form
    go_wp2_with fail
    refine (expand_ok k1 k1_len _ (of_decide_eq_true (by kernel_rfl)) _ (List.replicate 256 0) (by simp) 1024 (by decide) _ h41.out).mono ?_
    rintro e w' ⟨ad, rfl, _, hx⟩
    have HXL := kp hx
    clear hx
    go_wp2_with fail
    exact ⟨rfl, _, rfl, fun d hd => by cases hd; exact ⟨ad, rfl⟩, HXL.out⟩
  simp only [Act.put, List.setIfInBounds_toArray, List.set_cons_zero, List.set_cons_succ]
  refine ⟨fun wv37 hwv37 hSv37 => ?_, fun v37 => ?_⟩
  · obtain ⟨xv37, rfl⟩ := hwv37
    have h42 := kp (show ∃ ad, v42 = .tuple #[.slice ad 1024 1024, .int .i64 0] from hSv37 42 (by decide) (by decide))
    clear hSv37
    go_wp2_with fail
    exact ⟨rfl, _, rfl, fun d hd => by cases hd; exact h42.out, Ext.refl _⟩
  simp only [Act.put, List.setIfInBounds_toArray, List.set_cons_zero, List.set_cons_succ]
  refine ⟨fun wv43 hwv43 hSv43 => ?_, fun v43 => ?_⟩
  · obtain ⟨xv43, rfl⟩ := hwv43
    have h37 := kp (show ∃ ad, v37 = .tuple #[.slice ad 1024 1024, .int .i64 0] from hSv43 37 (by decide) (by decide))
    clear hSv43
    obtain ⟨ad, rfl⟩ := h37.out
    go_wp2_with fail
    exact ⟨rfl, _, rfl, fun d hd => by cases hd; exact trivial, Ext.refl _⟩
  simp only [Act.put, List.setIfInBounds_toArray, List.set_cons_zero, List.set_cons_succ]
  refine ⟨fun wv44 hwv44 hSv44 => ?_, fun v44 => ?_⟩
  · obtain ⟨xv44, rfl⟩ := hwv44
    have h37 := kp (show ∃ ad, v37 = .tuple #[.slice ad 1024 1024, .int .i64 0] from hSv44 37 (by decide) (by decide))
    clear hSv44
    obtain ⟨ad, rfl⟩ := h37.out
    go_wp2_with fail
    exact ⟨rfl, _, rfl, fun d hd => by cases hd; exact rfl, Ext.refl _⟩
  simp only [Act.put, List.setIfInBounds_toArray, List.set_cons_zero, List.set_cons_succ]
  refine ⟨fun wv9 hwv9 hSv9 => ?_, fun v9 => ?_⟩
  · obtain ⟨xv9, rfl⟩ := hwv9
    clear hSv9
    go_wp2_with fail
    exact ⟨rfl, _, rfl, fun d hd => by cases hd; exact trivial, Ext.refl _⟩
  simp only [Act.put, List.setIfInBounds_toArray, List.set_cons_zero, List.set_cons_succ]
  refine ⟨fun wv10 hwv10 hSv10 => ?_, fun v10 => ?_⟩
  · obtain ⟨xv10, rfl⟩ := hwv10
    obtain rfl : v44 = .int .i64 0 := hSv10 44 (by decide) (by decide)
    clear hSv10
    go_wp2_with fail
    exact ⟨rfl, _, rfl, fun d hd => by cases hd; exact rfl, Ext.refl _⟩
  simp only [Act.put, List.setIfInBounds_toArray, List.set_cons_zero, List.set_cons_succ]
  intro x4 hfin
  obtain rfl : v10 = .int .i64 0 := hfin 10 (by decide)
  clear hfin
  have HR4 := kp (hp_more (x := x4) HR3.out)
  have HX4 := kp (HX3.out.trans (Ext.more _ x4))
  generalize more w3 x4 = w4 at *
  clear HR3 HX3
  simp only [List.drop_succ_cons, List.drop_zero]
  go_wp2_with fail
  refine region_spine0 (tabS [(46, fun v _ => v = .agg (k1.map V8).toArray), (47, fun v _ => ∃ ad cap, v = .slice ad 257 cap), (48, fun v _ => v = .tuple #[.slice none 0 0, .int .i64 4]), (45, fun v _ => v = .tuple #[.slice none 0 0, .int .i64 4]), (49, fun _ _ => True), (50, fun v _ => v = .int .i64 4), (11, fun _ _ => True), (12, fun v _ => v = .int .i64 4)]) (tabS_mono _ (by simp only [List.forall_mem_cons]; exact ⟨mono_eq _, fun _ _ _ h _ => h, mono_eq _, mono_eq _, fun _ _ _ h _ => h, mono_eq _, fun _ _ _ h _ => h, mono_eq _, by simp⟩)) 8 (by kernel_rfl) (by kernel_rfl) (by kernel_rfl) (by kernel_rfl) (by decide) (Nat.le_of_ble_eq_true (by kernel_rfl)) (by kernel_rfl) (w4) (.inl rfl) ?_
  simp only [List.take_succ_cons, List.take_zero]
  refine ⟨fun wv46 hwv46 hSv46 => ?_, fun v46 => ?_⟩
  · obtain ⟨xv46, rfl⟩ := hwv46
    clear hSv46
    go_wp2_with ((with_reducible show wpList _ _ _ (Oper.mk _ (Op.load 29 _) _ _ _ _ :: _) _ _); (with_reducible refine wpList_load_row rfl 29 _ rfl (w.heap.size) rfl 29 ((k1.map V8).toArray) (0, 0) _ (hp_more HR4.out) Try.underlying29 rfl (HK.out) ?_); simp only [Act.put, List.setIfInBounds_toArray, List.set_cons_zero, List.set_cons_succ])
    exact ⟨rfl, _, rfl, fun d hd => by cases hd; exact rfl, Ext.refl _⟩
  simp only [Act.put, List.setIfInBounds_toArray, List.set_cons_zero, List.set_cons_succ]
  refine ⟨fun wv47 hwv47 hSv47 => ?_, fun v47 => ?_⟩
  · obtain ⟨xv47, rfl⟩ := hwv47
    clear hSv47
    obtain ⟨Z, hmk, hsl⟩ := make_at 257 (by decide)
    have HSZ := kp (hsl (more w4 xv47))
    clear hsl
    have hmk2 : (Instr.makeSlice 22 (.int .i64 257) (.int .i64 257)).run Try.prog (more w4 xv47) = .ok (.slice (some ⟨(more w4 xv47).heap.size, 0, none⟩) 257 257) ((more w4 xv47).alloc (.cells Z 5)) := hmk _
    clear hmk
    go_wp2_with fail
    exact ⟨rfl, _, rfl, fun d hd => by cases hd; exact ⟨_, _, rfl⟩, Ext.alloc _ _⟩
  simp only [Act.put, List.setIfInBounds_toArray, List.set_cons_zero, List.set_cons_succ]
  refine ⟨fun wv48 hwv48 hSv48 => ?_, fun v48 => ?_⟩
  · obtain ⟨xv48, rfl⟩ := hwv48
    obtain rfl : v46 = .agg (k1.map V8).toArray := hSv48 46 (by decide) (by decide)
    have h47 := kp (show ∃ ad cap, v47 = .slice ad 257 cap from hSv48 47 (by decide) (by decide))
    clear hSv48
    obtain ⟨a7, c7, rfl⟩ := h47.out
    go_wp2_with fail
    refine (expand_many k1 ⟨#[120]⟩ (by decide) a7 257 c7 1 (by decide) (.inr (.inl (by decide))) _).mono ?_
    rintro e w' ⟨rfl, hx⟩
    have HXL := kp hx
    clear hx
    go_wp2_with fail
    exact ⟨rfl, _, rfl, fun d hd => by cases hd; exact rfl, HXL.out⟩
  simp only [Act.put, List.setIfInBounds_toArray, List.set_cons_zero, List.set_cons_succ]
  refine ⟨fun wv45 hwv45 hSv45 => ?_, fun v45 => ?_⟩
  · obtain ⟨xv45, rfl⟩ := hwv45
    obtain rfl : v48 = .tuple #[.slice none 0 0, .int .i64 4] := hSv45 48 (by decide) (by decide)
    clear hSv45
    go_wp2_with fail
    exact ⟨rfl, _, rfl, fun d hd => by cases hd; exact rfl, Ext.refl _⟩
  simp only [Act.put, List.setIfInBounds_toArray, List.set_cons_zero, List.set_cons_succ]
  refine ⟨fun wv49 hwv49 hSv49 => ?_, fun v49 => ?_⟩
  · obtain ⟨xv49, rfl⟩ := hwv49
    obtain rfl : v45 = .tuple #[.slice none 0 0, .int .i64 4] := hSv49 45 (by decide) (by decide)
    clear hSv49
    go_wp2_with fail
    exact ⟨rfl, _, rfl, fun d hd => by cases hd; exact trivial, Ext.refl _⟩
  simp only [Act.put, List.setIfInBounds_toArray, List.set_cons_zero, List.set_cons_succ]
  refine ⟨fun wv50 hwv50 hSv50 => ?_, fun v50 => ?_⟩
  · obtain ⟨xv50, rfl⟩ := hwv50
    obtain rfl : v45 = .tuple #[.slice none 0 0, .int .i64 4] := hSv50 45 (by decide) (by decide)
    clear hSv50
    go_wp2_with fail
    exact ⟨rfl, _, rfl, fun d hd => by cases hd; exact rfl, Ext.refl _⟩
  simp only [Act.put, List.setIfInBounds_toArray, List.set_cons_zero, List.set_cons_succ]
  refine ⟨fun wv11 hwv11 hSv11 => ?_, fun v11 => ?_⟩
  · obtain ⟨xv11, rfl⟩ := hwv11
    clear hSv11
    go_wp2_with fail
    exact ⟨rfl, _, rfl, fun d hd => by cases hd; exact trivial, Ext.refl _⟩
  simp only [Act.put, List.setIfInBounds_toArray, List.set_cons_zero, List.set_cons_succ]
  refine ⟨fun wv12 hwv12 hSv12 => ?_, fun v12 => ?_⟩
  · obtain ⟨xv12, rfl⟩ := hwv12
    obtain rfl : v50 = .int .i64 4 := hSv12 50 (by decide) (by decide)
    clear hSv12
    go_wp2_with fail
    exact ⟨rfl, _, rfl, fun d hd => by cases hd; exact rfl, Ext.refl _⟩
  simp only [Act.put, List.setIfInBounds_toArray, List.set_cons_zero, List.set_cons_succ]
  intro x5 hfin
  obtain rfl : v12 = .int .i64 4 := hfin 12 (by decide)
  clear hfin
  have HR5 := kp (hp_more (x := x5) HR4.out)
  have HX5 := kp (HX4.out.trans (Ext.more _ x5))
  generalize more w4 x5 = w5 at *
  clear HR4 HX4
  simp only [List.drop_succ_cons, List.drop_zero]
  have HZP := kp (show (Try.prog.info? 45).map (·.size) = some z48.size by rw [size45]; rfl)
  have HOP := kp (show (z48.all (·.oneCell')) = true from all_V8 _)
  go_wp2_with ((with_reducible show wpList _ _ _ (Oper.mk _ (Op.load 29 _) _ _ _ _ :: _) _ _); (with_reducible refine wpList_load_row rfl 29 _ rfl (w.heap.size) rfl 29 ((k1.map V8).toArray) (0, 0) _ (HR5.out) Try.underlying29 rfl (HK.out) ?_); simp only [Act.put, List.setIfInBounds_toArray, List.set_cons_zero, List.set_cons_succ])
  refine (pair_same k1 [1, 0, 0, 0, 0, 0] rfl _ _ _).mono ?_
  rintro e w6 ⟨rfl, hx6⟩
  have HR6 := kp (ext_heap hx6 HR5.out)
  have HX6 := kp (HX5.out.trans hx6)
  clear hx6 HR5 HX5
  go_wp2_with ((with_reducible show wpList _ _ _ (Oper.mk none (Op.store 45 _ _) _ _ _ _ :: _) _ _); with_reducible refine wpList_st_row rfl rfl 45 _ _ rfl (w6.heap.size) (z48) rfl rfl 45 (z48) (hp_new _ _) (HZP.out) (rfl) (HOP.out) (by rewrite [setRow_at _ _ _ _ _ _ (by simp <;> omega)]; rfl) ?_)
  have HR7 := kp (hp_alloc (o' := .cells z48 45) HR6.out)
  have HX7 := kp (HX6.out.trans (Ext.alloc _ (.cells z48 45)))
  generalize w6.alloc (.cells z48 45) = w7 at *
  clear HR6 HX6 HZP HOP
  have HZK := kp (sizeK (List.replicate 16 0) (by simp))
  have HOK := kp (all_V8 (List.replicate 16 0))
  refine region_late 7 15 8 65 29 29 (z16) (z16) (by kernel_rfl) (by kernel_rfl) (by kernel_rfl) (by kernel_rfl) (by intro o ho; cases ho; exact ⟨rfl, rfl, by simp, fun _ _ => by kernel_rfl⟩) (by intro o ho; cases ho; exact ⟨rfl, rfl, rfl, by decide⟩) (by kernel_rfl) (by decide) (by decide) (by decide) (HZK.out) (rfl) (HOK.out) (w7) (.inl rfl) ?_
  apply Exists.intro
  refine ⟨fun xz23 => ?_, ?_, fun xm23 xq23 => ?_⟩
  · simp only [List.eraseIdx_cons_succ, List.eraseIdx_cons_zero]
    unfold Cx
    repeat (first | ((with_reducible show wpQuiet _ _ _ _ (Oper.mk _ (Op.load 29 _) _ _ _ _ :: _) _); go_big_quiet_want; with_reducible refine quiet_load_row 29 _ rfl (w.heap.size) rfl 29 ((k1.map V8).toArray) (0, 0) _ (fun _ hw => by obtain ⟨xx, rfl⟩ := hw; exact hp_more HR7.out) Try.underlying29 rfl (HK.out) ?_; simp only [Act.put, List.setIfInBounds_toArray, List.set_cons_zero, List.set_cons_succ]; go_big_quiet_on) | go_big_quiet_step (exact Calls.cx_of (step_many k1 k1_len _ (of_decide_eq_true (by kernel_rfl)) (of_decide_eq_true (by kernel_rfl)) _)))
    exact wpQuiet_nil rfl
  · rfl
  simp only [Act.put, List.setIfInBounds_toArray, List.set_cons_zero, List.set_cons_succ]
  try simp only [World.size_alloc]
  try simp only [more_size]
  have HR8 := kp (hp_more (x := xq23) (hp_alloc (o' := .cells z16 29) (hp_more (x := xm23) HR7.out)))
  have HX8 := kp (((HX7.out.trans (Ext.more _ xm23)).trans (Ext.alloc _ (.cells z16 29))).trans (Ext.more _ xq23))
  generalize more ((more w7 xm23).alloc (.cells z16 29)) xq23 = w8 at *
  clear HR7 HX7 HZK HOK
  have HM0 := kp (fun w => mac_any k1 [] k1_len (by simp) (.slice none 0 0) w (SlB.nil w))
  have HE0 := kp (fun w => encrypt_any k1 hd0 k1_len rfl w)
  have heq0 : ∀ w, (binOp .eql 31 (.agg ((macF k1 []).map V8).toArray) (.agg ((encF k1 hd0).map V8).toArray)).run Try.prog w = .ok (.bool true) w := fun w => eql_same w _ _ (macF_len _ _) (mac_none k1)
  go_wp2_with fail
  (first | with_reducible refine region_f2 7 (by kernel_rfl) (by kernel_rfl) (by kernel_rfl) (by kernel_rfl) (by decide) (Nat.le_of_ble_eq_true (by kernel_rfl)) ?_ | refine region_f 7 (by kernel_rfl) (by kernel_rfl) (by kernel_rfl) (by kernel_rfl) (by decide) (Nat.le_of_ble_eq_true (by kernel_rfl)) ?_)
  apply Exists.intro
  refine ⟨fun xz24 => ?_, fun xq24 => ?_⟩
  · simp only [List.take_succ_cons, List.take_zero]
    unfold Cx
    repeat (first | ((with_reducible show wpQuiet _ _ _ _ (Oper.mk _ (Op.load 29 _) _ _ _ _ :: _) _); go_big_quiet_want; with_reducible refine quiet_load_row 29 _ rfl (w.heap.size) rfl 29 ((k1.map V8).toArray) (0, 0) _ (fun _ hw => by obtain ⟨xx, rfl⟩ := hw; exact hp_more HR8.out) Try.underlying29 rfl (HK.out) ?_; simp only [Act.put, List.setIfInBounds_toArray, List.set_cons_zero, List.set_cons_succ]; go_big_quiet_on) | go_big_quiet_step (first | (go_at_call 14; exact Calls.cx_of (HM0.out _)) | exact Calls.cx_of (HE0.out _)))
    exact wpQuiet_nil rfl
  simp only [List.drop_succ_cons, List.drop_zero]
  have HR9 := kp (hp_more (x := xq24) HR8.out)
  have HX9 := kp (HX8.out.trans (Ext.more _ xq24))
  generalize more w8 xq24 = w9 at *
  clear HR8 HX8 heq0 HM0 HE0
  have HM1 := kp (fun (v : Value) (w : World) (h : SlB w v (List.replicate 16 0)) => mac_any k1 (List.replicate 16 0) k1_len (by simp) v w h)
  have HE1 := kp (fun w => encrypt_any k1 hd16 k1_len rfl w)
  have HE2 := kp (fun w => encrypt_any k1 (encF k1 hd16) k1_len (encF_len _ _) w)
  have heq1 : ∀ w, (binOp .eql 31 (.agg ((macF k1 (List.replicate 16 0)).map V8).toArray) (.agg ((encF k1 (encF k1 hd16)).map V8).toArray)).run Try.prog w = .ok (.bool true) w := fun w => eql_same w _ _ (macF_len _ _) (mac_zeros k1)
  obtain ⟨mz, hmz⟩ : ∃ mz, macF k1 (List.replicate 16 0) = mz := ⟨_, rfl⟩
  rw [hmz] at HM1 heq1
  clear hmz
  go_wp2_with fail
  refine region_spine0 (tabS [(73, fun v _ => v = .agg (k1.map V8).toArray), (74, fun v w => SlB w v (List.replicate 16 0)), (75, fun v _ => v = .agg (mz.map V8).toArray), (76, fun v _ => v = .agg (k1.map V8).toArray), (77, fun v _ => v = .agg (k1.map V8).toArray), (78, fun v _ => v = .agg #[.int .u8 3, .int .u8 16, .int .u8 0, .int .u8 0, .int .u8 0, .int .u8 0, .int .u8 0, .int .u8 0, .int .u8 0, .int .u8 0, .int .u8 0, .int .u8 0, .int .u8 0, .int .u8 0, .int .u8 0, .int .u8 0]), (79, fun v _ => v = .agg ((encF k1 hd16).map V8).toArray), (80, fun v _ => v = .agg ((encF k1 (encF k1 hd16)).map V8).toArray), (81, fun v _ => v = .bool true), (18, fun v _ => v = .bool true)]) (tabS_mono _ (by simp only [List.forall_mem_cons]; exact ⟨mono_eq _, mono_SlB _, mono_eq _, mono_eq _, mono_eq _, mono_eq _, mono_eq _, mono_eq _, mono_eq _, mono_eq _, by simp⟩)) 10 (by kernel_rfl) (by kernel_rfl) (by kernel_rfl) (by kernel_rfl) (by decide) (Nat.le_of_ble_eq_true (by kernel_rfl)) (by kernel_rfl) (w9) (.inl rfl) ?_
  simp only [List.take_succ_cons, List.take_zero]
  refine ⟨fun wv73 hwv73 hSv73 => ?_, fun v73 => ?_⟩
  · obtain ⟨xv73, rfl⟩ := hwv73
    clear hSv73
    go_wp2_with ((with_reducible show wpList _ _ _ (Oper.mk _ (Op.load 29 _) _ _ _ _ :: _) _ _); (with_reducible refine wpList_load_row rfl 29 _ rfl (w.heap.size) rfl 29 ((k1.map V8).toArray) (0, 0) _ (hp_more HR9.out) Try.underlying29 rfl (HK.out) ?_); simp only [Act.put, List.setIfInBounds_toArray, List.set_cons_zero, List.set_cons_succ])
    exact ⟨rfl, _, rfl, fun d hd => by cases hd; exact rfl, Ext.refl _⟩
  simp only [Act.put, List.setIfInBounds_toArray, List.set_cons_zero, List.set_cons_succ]
  refine ⟨fun wv74 hwv74 hSv74 => ?_, fun v74 => ?_⟩
  · obtain ⟨xv74, rfl⟩ := hwv74
    clear hSv74
    obtain ⟨Z, hmk, hsl⟩ := make_at 16 (by decide)
    have HSZ := kp (hsl (more w9 xv74))
    clear hsl
    have hmk2 : (Instr.makeSlice 22 (.int .i64 16) (.int .i64 16)).run Try.prog (more w9 xv74) = .ok (.slice (some ⟨(more w9 xv74).heap.size, 0, none⟩) 16 16) ((more w9 xv74).alloc (.cells Z 5)) := hmk _
    clear hmk
    go_wp2_with fail
    exact ⟨rfl, _, rfl, fun d hd => by cases hd; exact (by have h := HSZ.out; rw [more_size] at h; exact h), Ext.alloc _ _⟩
  simp only [Act.put, List.setIfInBounds_toArray, List.set_cons_zero, List.set_cons_succ]
  refine ⟨fun wv75 hwv75 hSv75 => ?_, fun v75 => ?_⟩
  · obtain ⟨xv75, rfl⟩ := hwv75
    obtain rfl : v73 = .agg (k1.map V8).toArray := hSv75 73 (by decide) (by decide)
    have h74 := kp (show SlB _ v74 (List.replicate 16 0) from hSv75 74 (by decide) (by decide))
    clear hSv75
    obtain ⟨a7, c7, rfl⟩ := h74.out.form
    go_wp2_with fail
    refine (HM1.out _ _ h74.out).mono ?_
    rintro e w' ⟨rfl, hx⟩
    have HXL := kp hx
    clear hx
    go_wp2_with fail
    exact ⟨rfl, _, rfl, fun d hd => by cases hd; exact rfl, HXL.out⟩
  simp only [Act.put, List.setIfInBounds_toArray, List.set_cons_zero, List.set_cons_succ]
  refine ⟨fun wv76 hwv76 hSv76 => ?_, fun v76 => ?_⟩
  · obtain ⟨xv76, rfl⟩ := hwv76
    clear hSv76
    go_wp2_with ((with_reducible show wpList _ _ _ (Oper.mk _ (Op.load 29 _) _ _ _ _ :: _) _ _); (with_reducible refine wpList_load_row rfl 29 _ rfl (w.heap.size) rfl 29 ((k1.map V8).toArray) (0, 0) _ (hp_more HR9.out) Try.underlying29 rfl (HK.out) ?_); simp only [Act.put, List.setIfInBounds_toArray, List.set_cons_zero, List.set_cons_succ])
    exact ⟨rfl, _, rfl, fun d hd => by cases hd; exact rfl, Ext.refl _⟩
  simp only [Act.put, List.setIfInBounds_toArray, List.set_cons_zero, List.set_cons_succ]
  refine ⟨fun wv77 hwv77 hSv77 => ?_, fun v77 => ?_⟩
  · obtain ⟨xv77, rfl⟩ := hwv77
    clear hSv77
    go_wp2_with ((with_reducible show wpList _ _ _ (Oper.mk _ (Op.load 29 _) _ _ _ _ :: _) _ _); (with_reducible refine wpList_load_row rfl 29 _ rfl (w.heap.size) rfl 29 ((k1.map V8).toArray) (0, 0) _ (hp_more HR9.out) Try.underlying29 rfl (HK.out) ?_); simp only [Act.put, List.setIfInBounds_toArray, List.set_cons_zero, List.set_cons_succ])
    exact ⟨rfl, _, rfl, fun d hd => by cases hd; exact rfl, Ext.refl _⟩
  simp only [Act.put, List.setIfInBounds_toArray, List.set_cons_zero, List.set_cons_succ]
  refine ⟨fun wv78 hwv78 hSv78 => ?_, fun v78 => ?_⟩
  · obtain ⟨xv78, rfl⟩ := hwv78
    clear hSv78
    go_wp2_with fail
    exact ⟨rfl, _, rfl, fun d hd => by cases hd; exact rfl, Ext.refl _⟩
  simp only [Act.put, List.setIfInBounds_toArray, List.set_cons_zero, List.set_cons_succ]
  refine ⟨fun wv79 hwv79 hSv79 => ?_, fun v79 => ?_⟩
  · obtain ⟨xv79, rfl⟩ := hwv79
    obtain rfl : v77 = .agg (k1.map V8).toArray := hSv79 77 (by decide) (by decide)
    obtain rfl : v78 = .agg #[.int .u8 3, .int .u8 16, .int .u8 0, .int .u8 0, .int .u8 0, .int .u8 0, .int .u8 0, .int .u8 0, .int .u8 0, .int .u8 0, .int .u8 0, .int .u8 0, .int .u8 0, .int .u8 0, .int .u8 0, .int .u8 0] := hSv79 78 (by decide) (by decide)
    clear hSv79
    go_wp2_with fail
    refine (HE1.out _).mono ?_
    rintro e w' ⟨rfl, hx⟩
    have HXL := kp hx
    clear hx
    go_wp2_with fail
    exact ⟨rfl, _, rfl, fun d hd => by cases hd; exact rfl, HXL.out⟩
  simp only [Act.put, List.setIfInBounds_toArray, List.set_cons_zero, List.set_cons_succ]
  refine ⟨fun wv80 hwv80 hSv80 => ?_, fun v80 => ?_⟩
  · obtain ⟨xv80, rfl⟩ := hwv80
    obtain rfl : v76 = .agg (k1.map V8).toArray := hSv80 76 (by decide) (by decide)
    obtain rfl : v79 = .agg ((encF k1 hd16).map V8).toArray := hSv80 79 (by decide) (by decide)
    clear hSv80
    go_wp2_with fail
    refine (HE2.out _).mono ?_
    rintro e w' ⟨rfl, hx⟩
    have HXL := kp hx
    clear hx
    go_wp2_with fail
    exact ⟨rfl, _, rfl, fun d hd => by cases hd; exact rfl, HXL.out⟩
  simp only [Act.put, List.setIfInBounds_toArray, List.set_cons_zero, List.set_cons_succ]
  refine ⟨fun wv81 hwv81 hSv81 => ?_, fun v81 => ?_⟩
  · obtain ⟨xv81, rfl⟩ := hwv81
    obtain rfl : v75 = .agg (mz.map V8).toArray := hSv81 75 (by decide) (by decide)
    obtain rfl : v80 = .agg ((encF k1 (encF k1 hd16)).map V8).toArray := hSv81 80 (by decide) (by decide)
    clear hSv81
    go_wp2_with fail
    exact ⟨rfl, _, rfl, fun d hd => by cases hd; exact rfl, Ext.refl _⟩
  simp only [Act.put, List.setIfInBounds_toArray, List.set_cons_zero, List.set_cons_succ]
  refine ⟨fun wv18 hwv18 hSv18 => ?_, fun v18 => ?_⟩
  · obtain ⟨xv18, rfl⟩ := hwv18
    obtain rfl : v81 = .bool true := hSv18 81 (by decide) (by decide)
    clear hSv18
    go_wp2_with fail
    exact ⟨rfl, _, rfl, fun d hd => by cases hd; exact rfl, Ext.refl _⟩
  simp only [Act.put, List.setIfInBounds_toArray, List.set_cons_zero, List.set_cons_succ]
  intro x10 hfin
  obtain rfl : v18 = .bool true := hfin 18 (by decide)
  clear hfin
  have HX10 := kp (HX9.out.trans (Ext.more _ x10))
  generalize more w9 x10 = w10 at *
  clear HR9 HX9 heq1 HM1 HE1 HE2
  simp only [List.drop_succ_cons, List.drop_zero]
  go_wp2_with (go_at_call 9; refine (alive_any _).mono ?_; rintro e w' ⟨rfl, hx11⟩)
  go_ret
  exact ⟨rfl, HX10.out.trans hx11⟩
theorem deriveNames.walk (w : World) : Calls Try.prog 8 #[] w fun e w' => e = .returned (.bool true) ∧ Ext w w' := names_any w
end Go.Proofs.Ytianjmmmegelkaa
