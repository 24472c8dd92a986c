/- The walks of DerivePrefix and DeriveBlocks. -/
import Derived.Test.YtianjmmmegelkaaExpand
import Derived.Test.YtianjmmmegelkaaLaw23a
namespace Go.Proofs.Ytianjmmmegelkaa
open Go.RowKit

/-! ### Plain laws -/
theorem outTo_take (ks : List (BitVec 8)) (s : ByteArray) (c : List (BitVec 8)) (j : Nat) : ∀ k, j ≤ k → (outTo ks s c k).take (16 * j) = outTo ks s c j
  | 0, h => by
    obtain rfl : j = 0 := by omega
    rfl
  | k + 1, h => by
    by_cases hj : j = k + 1
    · subst hj; rw [List.take_of_length_le (by rw [outTo_len]; omega)]
    · rw [outTo, List.take_append_of_le_length (by rw [outTo_len]; omega)]
      exact outTo_take ks s c j k (by omega)
theorem expandF_take (ks : List (BitVec 8)) (s : ByteArray) (c : List (BitVec 8)) (m n : Nat) (h : m ≤ n) : (expandF ks s c n).take m = expandF ks s c m := by
  unfold expandF
  rw [List.take_take, Nat.min_eq_left h, ← outTo_take ks s c ((m + 15) / 16) ((n + 15) / 16) (by omega), List.take_take, Nat.min_eq_left (by omega)]
theorem outTo_at (ks : List (BitVec 8)) (s : ByteArray) (c : List (BitVec 8)) (i : Nat) : ∀ k, i < 16 * k → (outTo ks s c k)[i]? = (macF ks (inputF s c ((i / 16 : Nat) : Int)))[i % 16]?
  | 0, h => by omega
  | k + 1, h => by
    rw [outTo]
    by_cases hi : i < 16 * k
    · rw [List.getElem?_append_left (by rw [outTo_len]; exact hi)]
      exact outTo_at ks s c i k hi
    · rw [List.getElem?_append_right (by rw [outTo_len]; omega), outTo_len, show i / 16 = k by omega, show i - 16 * k = i % 16 by omega]
theorem expandF_at (ks : List (BitVec 8)) (s : ByteArray) (c : List (BitVec 8)) (n i : Nat) (h : i < n) : (expandF ks s c n)[i]? = (macF ks (inputF s c ((i / 16 : Nat) : Int)))[i % 16]? := by
  unfold expandF
  rw [List.getElem?_take, if_pos h]
  exact outTo_at ks s c i _ (by omega)
theorem SlB.nil_cap {w : World} {n cap : Nat} {l : List (BitVec 8)} (h : SlB w (.slice none n cap) l) : cap = 0 := by
  rcases h with ⟨_, h | ⟨a, c, h⟩⟩ | ⟨b, off, c, h, _⟩
  · cases h; rfl
  · cases h
  · cases h

/-! ### DerivePrefix -/
set_option maxHeartbeats 3200000 in
theorem prefixOut (ks : List (BitVec 8)) (s : ByteArray) (hs : s.size ≤ 9223372036854775807) (ac : Option Addr) (q cc : Nat) (m n : Int) (w : World) (ho : 32 < s.size ∨ 256 < q ∨ m < 0 ∨ n < m ∨ 1024 < n) :
    Calls Try.prog 5 #[.agg (ks.map V8).toArray, .string s, .slice ac q cc, .int .i64 m, .int .i64 n] w fun e w' => e = .returned (.bool true) ∧ Ext w w' := by
  by_cases h1 : 32 < (s.size : Int)
  case pos =>
    go_enter Try.func5, Try.ntmps5
    go_wp2_with (go_at_call 9; refine (alive_any _).mono ?_; rintro e w' ⟨rfl, xa, rfl⟩)
    go_ret
    exact ⟨rfl, (Ext.alloc _ _).trans (Ext.more _ _)⟩
  by_cases h2 : 256 < (q : Int)
  case pos =>
    go_enter Try.func5, Try.ntmps5
    go_wp2_with (go_at_call 9; refine (alive_any _).mono ?_; rintro e w' ⟨rfl, xa, rfl⟩)
    go_ret
    exact ⟨rfl, (Ext.alloc _ _).trans (Ext.more _ _)⟩
  by_cases h3 : m < 0
  case pos =>
    go_enter Try.func5, Try.ntmps5
    go_wp2_with (go_at_call 9; refine (alive_any _).mono ?_; rintro e w' ⟨rfl, xa, rfl⟩)
    go_ret
    exact ⟨rfl, (Ext.alloc _ _).trans (Ext.more _ _)⟩
  by_cases h4 : n < m
  case pos =>
    go_enter Try.func5, Try.ntmps5
    go_wp2_with (go_at_call 9; refine (alive_any _).mono ?_; rintro e w' ⟨rfl, xa, rfl⟩)
    go_ret
    exact ⟨rfl, (Ext.alloc _ _).trans (Ext.more _ _)⟩
  by_cases h5 : 1024 < n
  case pos =>
    go_enter Try.func5, Try.ntmps5
    go_wp2_with (go_at_call 9; refine (alive_any _).mono ?_; rintro e w' ⟨rfl, xa, rfl⟩)
    go_ret
    exact ⟨rfl, (Ext.alloc _ _).trans (Ext.more _ _)⟩
  exact absurd ho (by omega)
set_option maxHeartbeats 3200000 in
theorem prefixIn (ks : List (BitVec 8)) (hk : ks.length = 16) (s : ByteArray) (hs : s.size ≤ 32) (vc : Value) (c : List (BitVec 8)) (hc : c.length ≤ 256) (m n : Nat) (hmn : m ≤ n) (hn : n ≤ 1024) (w : World) (hv : SlB w vc c) :
    Calls Try.prog 5 #[.agg (ks.map V8).toArray, .string s, vc, .int .i64 m, .int .i64 n] w fun e w' => e = .returned (.bool true) ∧ Ext w w' := by
  obtain ⟨ac, cc, rfl⟩ := hv.form
  have HV := kp hv
  have HK := kp (sizeK ks hk)
  have HEM := kp (fun w (h : SlB w (.slice ac c.length cc) c) => expand_ok ks hk s hs _ c hc m (by omega) w h)
  have HEN := kp (fun w (h : SlB w (.slice ac c.length cc) c) => expand_ok ks hk s hs _ c hc n hn w h)
  have HT := kp (expandF_take ks s c m n hmn)
  have HL := kp (show (expandF ks s c m).length ≤ 1000000000 by rw [expandF_len]; omega)
  have HNL := kp (expandF_len ks s c n)
  have hs1 : ¬ 32 < (s.size : Int) := by omega
  have hc1 : ¬ 256 < (c.length : Int) := by omega
  have h3 : ¬ (m : Int) < 0 := by omega
  have h4 : ¬ (n : Int) < (m : Int) := by omega
  have h5 : ¬ 1024 < (n : Int) := by omega
  clear hk hv
  go_enter Try.func5, Try.ntmps5
  go_wp2_with (first | (go_at_call 9; refine (alive_any _).mono ?_; rintro e w' ⟨rfl, xa, rfl⟩) | ((with_reducible show wpList _ _ _ (Oper.mk _ (Op.load 29 _) _ _ _ _ :: _) _ _); (with_reducible refine wpList_load_row rfl 29 _ rfl (w.heap.size) rfl 29 ((ks.map V8).toArray) (0, 0) _ (hp_more (hp_new _ _)) Try.underlying29 rfl (HK.out) ?_); simp only [Act.put, List.setIfInBounds_toArray, List.set_cons_zero, List.set_cons_succ]))
  have HX0 := kp ((Ext.alloc w (.cells (ks.map V8).toArray 29)).trans (Ext.more _ xa))
  refine (HEM.out _ (HV.out.ext HX0.out)).mono ?_
  rintro e w1 ⟨a1, rfl, hs1', hx1⟩
  have HS1 := kp hs1'
  have HX1 := kp hx1
  have HKR := kp (ext_heap hx1 (hp_more (hp_new _ _)))
  clear hs1' hx1
  go_wp2_with ((with_reducible show wpList _ _ _ (Oper.mk _ (Op.load 29 _) _ _ _ _ :: _) _ _); (with_reducible refine wpList_load_row rfl 29 _ rfl (w.heap.size) rfl 29 ((ks.map V8).toArray) (0, 0) _ (HKR.out) Try.underlying29 rfl (HK.out) ?_); simp only [Act.put, List.setIfInBounds_toArray, List.set_cons_zero, List.set_cons_succ])
  refine (HEN.out _ (HV.out.ext (HX0.out.trans HX1.out))).mono ?_
  rintro e w2 ⟨a2, rfl, hs2, hx2⟩
  have HS2 := kp hs2
  have HX2 := kp hx2
  clear hs2 hx2
  go_wp2_with fail
  refine (same_any (HS1.out.ext HX2.out) (HS2.out.take (n := m) (cap' := n) (by rw [HNL.out]; omega) (fun h => by subst h; exact HS2.out.nil_cap)) HL.out).mono ?_
  rw [show (expandF ks s c m == (expandF ks s c n).take m) = true by rw [HT.out]; simp]
  rintro e w3 ⟨rfl, hx3⟩
  have HX3 := kp hx3
  clear hx3
  go_wp2_with fail
  go_ret
  exact ⟨rfl, ((HX0.out.trans HX1.out).trans HX2.out).trans HX3.out⟩
theorem derivePrefix.walk (ks : List (BitVec 8)) (hk : ks.length = 16) (s : ByteArray) (hs : s.size ≤ 9223372036854775807) (vc : Value) (c : List (BitVec 8)) (_ : c.length ≤ 9223372036854775807) (m : Int) (_ : (Lit.int .i64 m).wf = true) (n : Int) (_ : (Lit.int .i64 n).wf = true) (w : World) (hv : SlB w vc c) :
    Calls Try.prog 5 #[.agg (ks.map V8).toArray, .string s, vc, .int .i64 m, .int .i64 n] w fun e w' => e = .returned (.bool true) ∧ Ext w w' := by
  by_cases ho : 32 < s.size ∨ 256 < c.length ∨ m < 0 ∨ n < m ∨ 1024 < n
  · obtain ⟨ac, cc, rfl⟩ := hv.form
    exact prefixOut ks s hs ac c.length cc m n w ho
  · obtain ⟨m', rfl⟩ : ∃ k : Nat, m = k := ⟨m.toNat, by omega⟩
    obtain ⟨n', rfl⟩ : ∃ k : Nat, n = k := ⟨n.toNat, by omega⟩
    exact prefixIn ks hk s (by omega) vc c (by omega) m' n' (by omega) (by omega) w hv

/-! ### DeriveBlocks -/
set_option maxHeartbeats 3200000 in
theorem blocksOut (ks : List (BitVec 8)) (s : ByteArray) (hs : s.size ≤ 9223372036854775807) (ac : Option Addr) (q cc : Nat) (n : Int) (w : World) (ho : 32 < s.size ∨ 256 < q ∨ n < 0 ∨ 1024 < n) :
    Calls Try.prog 6 #[.agg (ks.map V8).toArray, .string s, .slice ac q cc, .int .i64 n] w fun e w' => e = .returned (.bool true) ∧ Ext w w' := by
  by_cases h1 : 32 < (s.size : Int)
  case pos =>
    go_enter Try.func6, Try.ntmps6
    go_wp2_with (go_at_call 9; refine (alive_any _).mono ?_; rintro e w' ⟨rfl, xa, rfl⟩)
    go_ret
    exact ⟨rfl, (Ext.alloc _ _).trans (Ext.more _ _)⟩
  by_cases h2 : 256 < (q : Int)
  case pos =>
    go_enter Try.func6, Try.ntmps6
    go_wp2_with (go_at_call 9; refine (alive_any _).mono ?_; rintro e w' ⟨rfl, xa, rfl⟩)
    go_ret
    exact ⟨rfl, (Ext.alloc _ _).trans (Ext.more _ _)⟩
  by_cases h3 : n < 0
  case pos =>
    go_enter Try.func6, Try.ntmps6
    go_wp2_with (go_at_call 9; refine (alive_any _).mono ?_; rintro e w' ⟨rfl, xa, rfl⟩)
    go_ret
    exact ⟨rfl, (Ext.alloc _ _).trans (Ext.more _ _)⟩
  by_cases h5 : 1024 < n
  case pos =>
    go_enter Try.func6, Try.ntmps6
    go_wp2_with (go_at_call 9; refine (alive_any _).mono ?_; rintro e w' ⟨rfl, xa, rfl⟩)
    go_ret
    exact ⟨rfl, (Ext.alloc _ _).trans (Ext.more _ _)⟩
  exact absurd ho (by omega)
set_option maxHeartbeats 3200000 in
set_option maxRecDepth 10000 in
theorem blocksIn (ks : List (BitVec 8)) (hk : ks.length = 16) (s : ByteArray) (hs : s.size ≤ 32) (vc : Value) (c : List (BitVec 8)) (hc : c.length ≤ 256) (n : Nat) (hn : n ≤ 1024) (w : World) (hv : SlB w vc c) :
    Calls Try.prog 6 #[.agg (ks.map V8).toArray, .string s, vc, .int .i64 n] w fun e w' => e = .returned (.bool true) ∧ Ext w w' := by
  obtain ⟨ac, cc, rfl⟩ := hv.form
  have HV := kp hv
  have HK := kp (sizeK ks hk)
  have HEN := kp (fun w (h : SlB w (.slice ac c.length cc) c) => expand_ok ks hk s hs _ c hc n hn w h)
  have HIN := kp (fun (i : Int) (w1 : World) (hx : SlB w1 (.slice ac c.length cc) c) => input_any s (by omega) _ c (by omega) i w1 hx)
  have HMAC := kp (fun (i : Int) (v : Value) (w1 : World) (hx : SlB w1 v (inputF s c i)) => mac_any ks (inputF s c i) hk (inputF_short s c i hs hc) v w1 hx)
  have hs1 : ¬ 32 < (s.size : Int) := by omega
  have hc1 : ¬ 256 < (c.length : Int) := by omega
  have h3 : ¬ (n : Int) < 0 := by omega
  have h5 : ¬ 1024 < (n : Int) := by omega
  clear hk hv
  go_enter Try.func6, Try.ntmps6
  go_wp2_with (first | (go_at_call 9; refine (alive_any _).mono ?_; rintro e w' ⟨rfl, xa, rfl⟩) | ((with_reducible show wpList _ _ _ (Oper.mk _ (Op.load 29 _) _ _ _ _ :: _) _ _); (with_reducible refine wpList_load_row rfl 29 _ rfl (w.heap.size) rfl 29 ((ks.map V8).toArray) (0, 0) _ (hp_more (hp_new _ _)) Try.underlying29 rfl (HK.out) ?_); simp only [Act.put, List.setIfInBounds_toArray, List.set_cons_zero, List.set_cons_succ]))
  have HX0 := kp ((Ext.alloc w (.cells (ks.map V8).toArray 29)).trans (Ext.more _ xa))
  refine (HEN.out _ (HV.out.ext HX0.out)).mono ?_
  rintro e w1 ⟨a1, rfl, hs1', hx1⟩
  have HS1 := kp hs1'
  have HKR0 := kp (ext_heap hx1 (hp_more (hp_new _ _)))
  have HX1 := kp (HX0.out.trans hx1)
  clear hs1' hx1 HX0
  go_wp2_with fail
  go_loopw [12] (fun i wr => ∃ k : Nat, k ≤ n ∧ i = .int .i64 k ∧ Kp (Ext w1 wr)) (fun i _ => n - (intOf i).toNat)
  case atStart => exact ⟨0, by omega, rfl, kp (Ext.refl _)⟩
  case round =>
    obtain ⟨k, hkn, rfl, HX⟩ := hrel
    by_cases hlt : k < n
    · have HKR := kp (ext_heap HX.out HKR0.out)
      have HVX := kp (HV.out.ext (HX1.out.trans HX.out))
      have HB := kp (sizeB (macF ks (inputF s c ((k / 16 : Nat) : Int))) (macF_len _ _))
      have HZ := kp (z16_size (macF ks (inputF s c ((k / 16 : Nat) : Int))) (macF_len _ _))
      obtain ⟨y, hy⟩ : ∃ y, (expandF ks s c n)[k]? = some y := ⟨(expandF ks s c n)[k]'(by rw [expandF_len]; exact hlt), by simp⟩
      have hz0 := expandF_at ks s c n k hlt
      rw [hy] at hz0
      have hz := hz0.symm
      clear hz0
      obtain ⟨b, off, rfl, hb, hcell⟩ := (HS1.out.ext HX.out).at k y hy
      have hm16 : k % 16 < 16 := by omega
      have hyy : (y != y) = false := by simp
      clear hy
      go_wp2_with fail
      refine region_spine (tabS [(50, fun v _ => v = .agg (ks.map V8).toArray), (51, fun v _ => v = .string s), (52, fun v _ => v = .slice ac c.length cc), (53, fun v _ => v = .int .i64 k), (54, fun v _ => v = .int .i64 ((k / 16 : Nat) : Int)), (55, fun v w => SlB w v (inputF s c ((k / 16 : Nat) : Int))), (56, fun v _ => v = .agg ((macF ks (inputF s c ((k / 16 : Nat) : Int))).map V8).toArray)]) (tabS_mono _ (by simp only [List.forall_mem_cons]; exact ⟨mono_eq _, mono_eq _, mono_eq _, mono_eq _, mono_eq _, mono_SlB _, mono_eq _, by simp⟩)) 8 7 13 (.cells z16 31) (by kernel_rfl) (by kernel_rfl) (by kernel_rfl) (by kernel_rfl) (by kernel_rfl) (by intro o ho; cases ho; exact ⟨rfl, rfl, by simp, fun _ _ => by kernel_rfl⟩) (by decide) (wr) (.inl rfl) ?_
      simp only [List.take_succ_cons, List.take_zero, List.eraseIdx_cons_succ, List.eraseIdx_cons_zero]
      refine ⟨fun wv50 hwv50 hSv50 => ?_, fun v50 => ?_⟩
      · obtain ⟨xv50, rfl⟩ := hwv50
        clear hSv50
        go_wp2_with ((with_reducible show wpList _ _ _ (Oper.mk _ (Op.load 29 _) _ _ _ _ :: _) _ _); (with_reducible refine wpList_load_row rfl 29 _ rfl (w.heap.size) rfl 29 ((ks.map V8).toArray) (0, 0) _ (hp_more HKR.out) Try.underlying29 rfl (HK.out) ?_); simp only [Act.put, List.setIfInBounds_toArray, List.set_cons_zero, List.set_cons_succ])
        exact ⟨rfl, _, rfl, fun d hd => by cases hd; exact rfl, Ext.refl _⟩
      simp only [Act.put, List.setIfInBounds_toArray, List.set_cons_zero, List.set_cons_succ]
      refine ⟨fun wv51 hwv51 hSv51 => ?_, fun v51 => ?_⟩
      · obtain ⟨xv51, rfl⟩ := hwv51
        clear hSv51
        go_wp2_with fail
        exact ⟨rfl, _, rfl, fun d hd => by cases hd; exact rfl, Ext.refl _⟩
      simp only [Act.put, List.setIfInBounds_toArray, List.set_cons_zero, List.set_cons_succ]
      refine ⟨fun wv52 hwv52 hSv52 => ?_, fun v52 => ?_⟩
      · obtain ⟨xv52, rfl⟩ := hwv52
        clear hSv52
        go_wp2_with fail
        exact ⟨rfl, _, rfl, fun d hd => by cases hd; exact rfl, Ext.refl _⟩
      simp only [Act.put, List.setIfInBounds_toArray, List.set_cons_zero, List.set_cons_succ]
      refine ⟨fun wv53 hwv53 hSv53 => ?_, fun v53 => ?_⟩
      · obtain ⟨xv53, rfl⟩ := hwv53
        clear hSv53
        go_wp2_with fail
        exact ⟨rfl, _, rfl, fun d hd => by cases hd; exact rfl, Ext.refl _⟩
      simp only [Act.put, List.setIfInBounds_toArray, List.set_cons_zero, List.set_cons_succ]
      refine ⟨fun wv54 hwv54 hSv54 => ?_, fun v54 => ?_⟩
      · obtain ⟨xv54, rfl⟩ := hwv54
        obtain rfl : v53 = .int .i64 k := hSv54 53 (by decide) (by decide)
        clear hSv54
        go_wp2_with fail
        exact ⟨rfl, _, rfl, fun d hd => by cases hd; exact (by simp [tabS]), Ext.refl _⟩
      simp only [Act.put, List.setIfInBounds_toArray, List.set_cons_zero, List.set_cons_succ]
      refine ⟨fun wv55 hwv55 hSv55 => ?_, fun v55 => ?_⟩
      · obtain ⟨xv55, rfl⟩ := hwv55
        obtain rfl : v51 = .string s := hSv55 51 (by decide) (by decide)
        obtain rfl : v52 = .slice ac c.length cc := hSv55 52 (by decide) (by decide)
        obtain rfl : v54 = .int .i64 ((k / 16 : Nat) : Int) := hSv55 54 (by decide) (by decide)
        clear hSv55
        go_wp2_with fail
        refine (HIN.out _ _ (HVX.out.ext (Ext.more _ _))).mono ?_
        rintro e w' ⟨v, rfl, hsl, hx⟩
        have HSL := kp hsl
        have HXL := kp hx
        clear hsl hx
        go_wp2_with fail
        exact ⟨rfl, v, rfl, fun d hd => by cases hd; exact HSL.out, HXL.out⟩
      simp only [Act.put, List.setIfInBounds_toArray, List.set_cons_zero, List.set_cons_succ]
      refine ⟨fun wv56 hwv56 hSv56 => ?_, fun v56 => ?_⟩
      · obtain ⟨xv56, rfl⟩ := hwv56
        obtain rfl : v50 = .agg (ks.map V8).toArray := hSv56 50 (by decide) (by decide)
        have h55 := kp (show SlB _ v55 (inputF s c ((k / 16 : Nat) : Int)) from hSv56 55 (by decide) (by decide))
        clear hSv56
        obtain ⟨a7, c7, rfl⟩ := h55.out.form
        go_wp2_with fail
        refine (HMAC.out _ _ _ h55.out).mono ?_
        rintro e w' ⟨rfl, hx⟩
        have HXL := kp hx
        clear hx
        go_wp2_with fail
        exact ⟨rfl, _, rfl, fun d hd => by cases hd; exact rfl, HXL.out⟩
      simp only [Act.put, List.setIfInBounds_toArray, List.set_cons_zero, List.set_cons_succ]
      intro xm xq hfin
      obtain rfl : v56 = .agg ((macF ks (inputF s c ((k / 16 : Nat) : Int))).map V8).toArray := hfin 56 (by decide)
      clear hfin
      simp only [List.setIfInBounds_toArray, List.set_cons_zero, List.set_cons_succ, List.drop_succ_cons, List.drop_zero]
      generalize macF ks (inputF s c ((k / 16 : Nat) : Int)) = mf at *
      have hb2 : b < wr.heap.size + xm.blocks.size := by omega
      have hb3 : b < wr.heap.size + xm.blocks.size + 1 := by omega
      go_wp2_with ((with_reducible show wpList _ _ _ (Oper.mk none (Op.store 31 _ _) _ _ _ _ :: _) _ _); with_reducible refine wpList_st_row rfl rfl 31 _ _ rfl (wr.heap.size + xm.blocks.size) ((mf.map V8).toArray) rfl rfl 31 (_) (hp_more (hp_at _ _ _ (by simp))) (HB.out) (HZ.out) (all_V8 _) (by rewrite [setRow_more _ _ _ _ (by simp <;> omega), setRow_at _ _ _ _ _ _ (by simp <;> omega)]; rfl) ?_)
      (first | with_reducible refine region_f2 9 (by kernel_rfl) (by kernel_rfl) (by kernel_rfl) (by kernel_rfl) (by decide) (Nat.le_of_ble_eq_true (by kernel_rfl)) ?_ | refine region_f 9 (by kernel_rfl) (by kernel_rfl) (by kernel_rfl) (by kernel_rfl) (by decide) (Nat.le_of_ble_eq_true (by kernel_rfl)) ?_)
      apply Exists.intro
      refine ⟨fun xz10 => ?_, fun xq10 => ?_⟩
      · simp only [List.take_succ_cons, List.take_zero]
        unfold Cx
        repeat (go_big_quiet_step (fail))
        exact wpQuiet_nil rfl
      simp only [List.drop_succ_cons, List.drop_zero]
      go_wp2_with fail
      go_roundw
      case rel => exact ⟨k + 1, by omega, by go_num, kp ((((HX.out.trans (Ext.more wr xm)).trans (Ext.alloc _ _)).trans (Ext.more _ _)))⟩
      case measure => simp [intOf]; omega
    · obtain rfl : k = n := by omega
      go_wp2_with fail
      go_ret
      exact ⟨rfl, HX1.out.trans HX.out⟩
theorem deriveBlocks.walk (ks : List (BitVec 8)) (hk : ks.length = 16) (s : ByteArray) (hs : s.size ≤ 9223372036854775807) (vc : Value) (c : List (BitVec 8)) (_ : c.length ≤ 9223372036854775807) (n : Int) (_ : (Lit.int .i64 n).wf = true) (w : World) (hv : SlB w vc c) :
    Calls Try.prog 6 #[.agg (ks.map V8).toArray, .string s, vc, .int .i64 n] w fun e w' => e = .returned (.bool true) ∧ Ext w w' := by
  by_cases ho : 32 < s.size ∨ 256 < c.length ∨ n < 0 ∨ 1024 < n
  · obtain ⟨ac, cc, rfl⟩ := hv.form
    exact blocksOut ks s hs ac c.length cc n w ho
  · obtain ⟨n', rfl⟩ : ∃ k : Nat, n = k := ⟨n.toNat, by omega⟩
    exact blocksIn ks hk s (by omega) vc c (by omega) n' (by omega) w hv
end Go.Proofs.Ytianjmmmegelkaa
