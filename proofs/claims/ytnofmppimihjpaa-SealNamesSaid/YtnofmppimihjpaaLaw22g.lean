/- SealStream. -/
import Derived.Test.YtnofmppimihjpaaLaw22a
import Derived.Test.YtnofmppimihjpaaPlain21b
import Derived.Laws.MakeOwn
namespace Go.Proofs.Ytnofmppimihjpaa
open Go.RowKit

theorem made_u8 (n : Nat) : madeCells (Value.int .u8 0).cells n = ((List.replicate n (0 : BitVec 8)).map V8).toArray := by
  refine Array.ext_getElem? fun i => ?_
  by_cases h : i < n
  · simp [madeCells, Value.cells, h, V8]
    rw [Nat.mod_one]; rfl
  · simp [madeCells, h]
theorem make_zero (n : Nat) (hn : n ≤ 100000) (w : World) : (Instr.makeSlice 25 (.int .i64 (n : Int)) (.int .i64 (n : Int))).run Try.prog w = .ok (.slice (some ⟨w.heap.size, 0, none⟩) n n) (w.alloc (.cells ((List.replicate n (0 : BitVec 8)).map V8).toArray 5)) := by
  obtain ⟨iu, hiu, h1, h2, h3⟩ := info_iu
  have := run_makeSlice w 25 5 iu (.int .u8 0) Try.underlying25 hiu h1 .i64 .i64 (n : Int) (n : Int) (by omega) (by omega) (by rw [h2]; simp; omega) (by rw [h3]; simp; omega) (by omega)
  rw [this, h2]
  simp only [Int.toNat_natCast, Nat.mul_one, made_u8]
/-- A new slice of zero bytes, of n bytes, in the block Z. -/
theorem make_at (n : Nat) (hn : n ≤ 100000) : ∃ Z : Array Value, (∀ w : World, (Instr.makeSlice 25 (.int .i64 (n : Int)) (.int .i64 (n : Int))).run Try.prog w = .ok (.slice (some ⟨w.heap.size, 0, none⟩) n n) (w.alloc (.cells Z 5))) ∧ ∀ w : World, SlB (w.alloc (.cells Z 5)) (.slice (some ⟨w.heap.size, 0, none⟩) n n) (List.replicate n 0) := by
  refine ⟨_, make_zero n hn, fun w => ?_⟩
  have h := SlB.of_block (cap := n) (hp_new w (.cells ((List.replicate n (0 : BitVec 8)).map V8).toArray 5))
  rwa [List.length_replicate] at h
theorem getD_zero (n k : Nat) : (List.replicate n (0 : BitVec 8)).getD k 0 = 0 := by
  simp only [List.getD]; rw [List.getElem?_replicate]; split <;> rfl
theorem zero_x (x : BitVec 8) : 0 ^^^ x = x := by simp
/-- Blocks of the stream are the same just where their numbers are, modulo 65,536. -/
theorem stream_same (ks nc : List (BitVec 8)) (hc : nc.length = 13) (i j : Int) : (streamF ks nc i == streamF ks nc j) = (i % 65536 == j % 65536) := by
  rw [Bool.eq_iff_iff, beq_iff_eq, beq_iff_eq, streamF, streamF, enc_inj ks _ _ (markF_len 1 nc hc i) (markF_len 1 nc hc j), markF, markF]
  simp only [List.cons.injEq, true_and, List.append_cancel_left_eq, and_true]
  have h8 : ∀ a b : Int, BitVec.ofInt 8 a = BitVec.ofInt 8 b ↔ a % 256 = b % 256 := fun a b => by
    rw [← wI_inj, wI_ofInt8, wI_ofInt8]
  rw [h8, h8]
  constructor
  · intro h; omega
  · intro h; omega
theorem getElem_getD22 {l : List (BitVec 8)} {i : Nat} {y : BitVec 8} (h : l[i]? = some y) : l.getD i 0 = y := by simp [List.getD, h]
set_option maxHeartbeats 6400000 in
theorem sealStream.walk (ks : List (BitVec 8)) (hk : ks.length = 16) (nc : List (BitVec 8)) (hc : nc.length = 13) (i : Int) (_ : (Lit.int .i64 i).wf = true) (j : Int) (_ : (Lit.int .i64 j).wf = true) (w : World) :
    Calls Try.prog 10 #[.agg (ks.map V8).toArray, .agg (nc.map V8).toArray, .int .i64 i, .int .i64 j] w fun e w' => e = .returned (.bool true) ∧ Ext w w' := by
  have HK := kp (sizeK ks hk)
  have HN := kp (sizeN nc hc)
  have HS := kp (fun vb w h2 h3 => seal_ok ks nc hk hc (.slice none 0 0) vb [] (List.replicate 40 0) (by simp) (by simp) w (SlB.nil w) h2 h3)
  have HL := kp (show (sealF ks nc [] (List.replicate 40 0)).length = 48 by rw [sealF_len]; simp)
  have HSA := kp (fun k (hk : k < 40) => show (sealF ks nc [] (List.replicate 40 0)).getD k 0 = (streamF ks nc (1 + ((k / 16 : Nat) : Int))).getD (k % 16) 0 by
    rw [sealF_at _ _ _ _ _ (by rw [List.length_replicate]; exact hk), getD_zero, zero_x])
  have HST := kp (fun i w => stream_any ks nc hk hc i w)
  have HSL := kp (fun i => streamF_len ks nc i)
  have HSB := kp (fun i => sizeB _ (streamF_len ks nc i))
  have HSZ := kp (fun i => z16_size _ (streamF_len ks nc i))
  have HSi := kp (fun w => stream_any ks nc hk hc i w)
  have HSj := kp (fun w => stream_any ks nc hk hc j w)
  have heq : ∀ w, (binOp .eql 38 (.agg ((streamF ks nc i).map V8).toArray) (.agg ((streamF ks nc j).map V8).toArray)).run Try.prog w = .ok (.bool (streamF ks nc i == streamF ks nc j)) w := fun w =>
    run_eql_V8 (P := Try.prog) w Try.underlying38 Try.underlying5 size5 _ _ (streamF_len ks nc i) (streamF_len ks nc j)
  obtain ⟨b, hb⟩ : ∃ b, (i % 65536 == j % 65536) = b := ⟨_, rfl⟩
  rw [stream_same ks nc hc i j, hb] at heq
  obtain ⟨Si, hSi⟩ : ∃ S, streamF ks nc i = S := ⟨_, rfl⟩
  obtain ⟨Sj, hSj⟩ : ∃ S, streamF ks nc j = S := ⟨_, rfl⟩
  rw [hSi] at heq HSi
  rw [hSj] at heq HSj
  generalize sealF ks nc [] (List.replicate 40 0) = sf at *
  clear hk hc hSi hSj
  go_enter Try.func10, Try.ntmps10
  generalize h2 : (Code.region 2 _ _ : Code) = R2
  generalize h11 : (Code.region 11 _ _ : Code) = R11
  go_wp2_with (go_at_call 22; refine (alive22_any _).mono ?_; rintro e w' ⟨rfl, x1, rfl⟩)
  have hx1 : Ext w (more ((w.alloc (.cells (ks.map V8).toArray 23)).alloc (.cells (nc.map V8).toArray 24)) x1) := ((Ext.alloc _ _).trans (Ext.alloc _ _)).trans (Ext.more _ _)
  have hk1 : (more ((w.alloc (.cells (ks.map V8).toArray 23)).alloc (.cells (nc.map V8).toArray 24)) x1).heap[w.heap.size]? = some (.cells (ks.map V8).toArray 23 (0, 0)) := hp_more (hp_alloc (hp_new _ _))
  have hn1 : (more ((w.alloc (.cells (ks.map V8).toArray 23)).alloc (.cells (nc.map V8).toArray 24)) x1).heap[w.heap.size + 1]? = some (.cells (nc.map V8).toArray 24 (0, 0)) := hp_more (hp_at _ _ _ (by simp))
  generalize more ((w.alloc (.cells (ks.map V8).toArray 23)).alloc (.cells (nc.map V8).toArray 24)) x1 = w1 at *
  have HX1 := kp hx1
  have HK1 := kp hk1
  have HN1 := kp hn1
  clear hx1 hk1 hn1
  subst h2
  refine region_spine0 (tabS [(16, fun v _ => v = .agg (ks.map V8).toArray), (17, fun v _ => v = .agg (nc.map V8).toArray), (18, fun v w => SlB w v (List.replicate 40 0) ∧ CapOk v), (19, fun v w => ∃ ad cap, v = .tuple #[.slice ad 48 cap, .int .i64 0] ∧ SlB w (.slice ad 48 cap) sf), (15, fun v w => ∃ ad cap, v = .tuple #[.slice ad 48 cap, .int .i64 0] ∧ SlB w (.slice ad 48 cap) sf), (20, fun v w => ∃ ad cap, v = .slice ad 48 cap ∧ SlB w (.slice ad 48 cap) sf), (21, fun v _ => v = .int .i64 0), (10, fun v w => ∃ ad cap, v = .slice ad 48 cap ∧ SlB w (.slice ad 48 cap) sf), (11, fun v _ => v = .int .i64 0)]) (tabS_mono _ (by simp only [List.forall_mem_cons]; exact ⟨mono_eq _, mono_eq _, fun _ _ _ h hx => ⟨h.1.ext hx, h.2⟩, fun _ _ _ ⟨ad, c, h1, h2⟩ hx => ⟨ad, c, h1, h2.ext hx⟩, fun _ _ _ ⟨ad, c, h1, h2⟩ hx => ⟨ad, c, h1, h2.ext hx⟩, fun _ _ _ ⟨ad, c, h1, h2⟩ hx => ⟨ad, c, h1, h2.ext hx⟩, mono_eq _, fun _ _ _ ⟨ad, c, h1, h2⟩ hx => ⟨ad, c, h1, h2.ext hx⟩, mono_eq _, by simp⟩)) 9 (by kernel_rfl) (by kernel_rfl) (by kernel_rfl) (by kernel_rfl) (by decide) (Nat.le_of_ble_eq_true (by kernel_rfl)) (by kernel_rfl) (w1) (.inl rfl) ?_
  simp only [List.take_succ_cons, List.take_zero]
  refine ⟨fun wv16 hwv16 hSv16 => ?_, fun v16 => ?_⟩
  · obtain ⟨xv16, rfl⟩ := hwv16
    clear hSv16
    go_wp2_with ((with_reducible show wpList _ _ _ (Oper.mk _ (Op.load 23 _) _ _ _ _ :: _) _ _); (with_reducible refine wpList_load_row rfl 23 _ rfl (w.heap.size) rfl 23 ((ks.map V8).toArray) (0, 0) _ (hp_more HK1.out) Try.underlying23 rfl (HK.out) ?_); simp only [Act.put, List.setIfInBounds_toArray, List.set_cons_zero, List.set_cons_succ])
    exact ⟨rfl, _, rfl, fun d hd => by cases hd; exact rfl, Ext.refl _⟩
  simp only [Act.put, List.setIfInBounds_toArray, List.set_cons_zero, List.set_cons_succ]
  refine ⟨fun wv17 hwv17 hSv17 => ?_, fun v17 => ?_⟩
  · obtain ⟨xv17, rfl⟩ := hwv17
    clear hSv17
    go_wp2_with ((with_reducible show wpList _ _ _ (Oper.mk _ (Op.load 24 _) _ _ _ _ :: _) _ _); (with_reducible refine wpList_load_row rfl 24 _ rfl (w.heap.size + 1) rfl 24 ((nc.map V8).toArray) (0, 0) _ (hp_more HN1.out) Try.underlying24 rfl (HN.out) ?_); simp only [Act.put, List.setIfInBounds_toArray, List.set_cons_zero, List.set_cons_succ])
    exact ⟨rfl, _, rfl, fun d hd => by cases hd; exact rfl, Ext.refl _⟩
  simp only [Act.put, List.setIfInBounds_toArray, List.set_cons_zero, List.set_cons_succ]
  refine ⟨fun wv18 hwv18 hSv18 => ?_, fun v18 => ?_⟩
  · obtain ⟨xv18, rfl⟩ := hwv18
    clear hSv18
    obtain ⟨Z, hmk, hsl⟩ := make_at 40 (by decide)
    have HSZ := kp (hsl (more w1 xv18))
    clear hsl
    have hmk2 : (Instr.makeSlice 25 (.int .i64 40) (.int .i64 40)).run Try.prog (more w1 xv18) = .ok (.slice (some ⟨(more w1 xv18).heap.size, 0, none⟩) 40 40) ((more w1 xv18).alloc (.cells Z 5)) := hmk _
    clear hmk
    go_wp2_with fail
    exact ⟨rfl, _, rfl, fun d hd => by cases hd; exact (by have h := HSZ.out; rw [more_size] at h; exact ⟨h, CapOk.mk (Nat.le_refl _)⟩), Ext.alloc _ _⟩
  simp only [Act.put, List.setIfInBounds_toArray, List.set_cons_zero, List.set_cons_succ]
  refine ⟨fun wv19 hwv19 hSv19 => ?_, fun v19 => ?_⟩
  · obtain ⟨xv19, rfl⟩ := hwv19
    obtain rfl : v16 = .agg (ks.map V8).toArray := hSv19 16 (by decide) (by decide)
    obtain rfl : v17 = .agg (nc.map V8).toArray := hSv19 17 (by decide) (by decide)
    have h18 := kp (show SlB _ v18 (List.replicate 40 0) ∧ CapOk v18 from hSv19 18 (by decide) (by decide))
    clear hSv19
    have H18 := kp h18.out
    obtain ⟨a7, c7, rfl⟩ := h18.out.1.form
    go_wp2_with fail
    refine (HS.out _ _ H18.out.1 H18.out.2).mono ?_
    rintro e w' ⟨v, rfl, ho, hx⟩
    have HSL := kp (SlB.of_owns ho)
    have HXL := kp hx
    obtain ⟨a8, c8, h8⟩ := (SlB.of_owns ho).form
    rw [HL.out] at h8
    subst h8
    clear ho hx
    go_wp2_with fail
    exact ⟨rfl, _, rfl, fun d hd => by cases hd; exact ⟨a8, c8, rfl, HSL.out⟩, HXL.out⟩
  simp only [Act.put, List.setIfInBounds_toArray, List.set_cons_zero, List.set_cons_succ]
  refine ⟨fun wv15 hwv15 hSv15 => ?_, fun v15 => ?_⟩
  · obtain ⟨xv15, rfl⟩ := hwv15
    have h19 := kp (show ∃ ad cap, v19 = .tuple #[.slice ad 48 cap, .int .i64 0] ∧ SlB _ (.slice ad 48 cap) sf from hSv15 19 (by decide) (by decide))
    clear hSv15
    obtain ⟨a8, c8, rfl, h8⟩ := h19.out
    have H8 := kp h8
    clear h8
    go_wp2_with fail
    exact ⟨rfl, _, rfl, fun d hd => by cases hd; exact ⟨a8, c8, rfl, H8.out⟩, Ext.refl _⟩
  simp only [Act.put, List.setIfInBounds_toArray, List.set_cons_zero, List.set_cons_succ]
  refine ⟨fun wv20 hwv20 hSv20 => ?_, fun v20 => ?_⟩
  · obtain ⟨xv20, rfl⟩ := hwv20
    have h15 := kp (show ∃ ad cap, v15 = .tuple #[.slice ad 48 cap, .int .i64 0] ∧ SlB _ (.slice ad 48 cap) sf from hSv20 15 (by decide) (by decide))
    clear hSv20
    obtain ⟨a8, c8, rfl, h8⟩ := h15.out
    have H8 := kp h8
    clear h8
    go_wp2_with fail
    exact ⟨rfl, _, rfl, fun d hd => by cases hd; exact ⟨a8, c8, rfl, H8.out⟩, Ext.refl _⟩
  simp only [Act.put, List.setIfInBounds_toArray, List.set_cons_zero, List.set_cons_succ]
  refine ⟨fun wv21 hwv21 hSv21 => ?_, fun v21 => ?_⟩
  · obtain ⟨xv21, rfl⟩ := hwv21
    have h15 := kp (show ∃ ad cap, v15 = .tuple #[.slice ad 48 cap, .int .i64 0] ∧ SlB _ (.slice ad 48 cap) sf from hSv21 15 (by decide) (by decide))
    clear hSv21
    obtain ⟨a8, c8, rfl, h8⟩ := h15.out
    clear h8
    go_wp2_with fail
    exact ⟨rfl, _, rfl, fun d hd => by cases hd; exact rfl, Ext.refl _⟩
  simp only [Act.put, List.setIfInBounds_toArray, List.set_cons_zero, List.set_cons_succ]
  refine ⟨fun wv10 hwv10 hSv10 => ?_, fun v10 => ?_⟩
  · obtain ⟨xv10, rfl⟩ := hwv10
    have h20 := kp (show ∃ ad cap, v20 = .slice ad 48 cap ∧ SlB _ (.slice ad 48 cap) sf from hSv10 20 (by decide) (by decide))
    clear hSv10
    obtain ⟨a8, c8, rfl, h8⟩ := h20.out
    have H8 := kp h8
    clear h8
    go_wp2_with fail
    exact ⟨rfl, _, rfl, fun d hd => by cases hd; exact ⟨a8, c8, rfl, H8.out⟩, Ext.refl _⟩
  simp only [Act.put, List.setIfInBounds_toArray, List.set_cons_zero, List.set_cons_succ]
  refine ⟨fun wv11 hwv11 hSv11 => ?_, fun v11 => ?_⟩
  · obtain ⟨xv11, rfl⟩ := hwv11
    obtain rfl : v21 = .int .i64 0 := hSv11 21 (by decide) (by decide)
    clear hSv11
    go_wp2_with fail
    exact ⟨rfl, _, rfl, fun d hd => by cases hd; exact rfl, Ext.refl _⟩
  simp only [Act.put, List.setIfInBounds_toArray, List.set_cons_zero, List.set_cons_succ]
  intro x2 hfin
  obtain rfl : v11 = .int .i64 0 := hfin 11 (by decide)
  obtain ⟨a10, c10, h10, hs10⟩ : ∃ ad cap, v10 = .slice ad 48 cap ∧ SlB (more w1 x2) (.slice ad 48 cap) sf := hfin 10 (by decide)
  subst h10
  have HS2 := kp hs10
  have HX2 := kp (HX1.out.trans (Ext.more _ x2))
  have HK2 := kp (hp_more (x := x2) HK1.out)
  have HN2 := kp (hp_more (x := x2) HN1.out)
  generalize more w1 x2 = w2 at *
  clear hfin hs10 HK1 HN1 HX1
  simp only [List.drop_succ_cons, List.drop_zero]
  go_wp2_with fail
  go_loopw [12] (fun i wr => ∃ k : Nat, k ≤ 40 ∧ i = .int .i64 k ∧ Kp (Ext w2 wr)) (fun i _ => 40 - (intOf i).toNat)
  case atStart => exact ⟨0, by omega, rfl, kp (Ext.refl _)⟩
  case round =>
    obtain ⟨k, hk, rfl, HXk⟩ := hrel
    have HKr := kp (ext_heap HXk.out HK2.out)
    have HNr := kp (ext_heap HXk.out HN2.out)
    by_cases hlt : k < 40
    · have hp := HSA.out k hlt
      rw [show (1 + ((k / 16 : Nat) : Int)) = 1 + (k : Int) / 16 by omega] at hp
      have HJ := kp (HST.out (1 + (k : Int) / 16))
      have HJL := kp (HSL.out (1 + (k : Int) / 16))
      have HJB := kp (HSB.out (1 + (k : Int) / 16))
      have HJZ := kp (HSZ.out (1 + (k : Int) / 16))
      generalize streamF ks nc (1 + (k : Int) / 16) = S at *
      have HP := kp hp
      clear hp
      go_wp2_with (first | ((with_reducible show wpList _ _ _ (Oper.mk _ (Op.load 23 _) _ _ _ _ :: _) _ _); (with_reducible refine wpList_load_row rfl 23 _ rfl (w.heap.size) rfl 23 ((ks.map V8).toArray) (0, 0) _ (HKr.out) Try.underlying23 rfl (HK.out) ?_); simp only [Act.put, List.setIfInBounds_toArray, List.set_cons_zero, List.set_cons_succ]) | ((with_reducible show wpList _ _ _ (Oper.mk _ (Op.load 24 _) _ _ _ _ :: _) _ _); (with_reducible refine wpList_load_row rfl 24 _ rfl (w.heap.size + 1) rfl 24 ((nc.map V8).toArray) (0, 0) _ (HNr.out) Try.underlying24 rfl (HN.out) ?_); simp only [Act.put, List.setIfInBounds_toArray, List.set_cons_zero, List.set_cons_succ]))
      refine (HJ.out _).mono ?_
      rintro e w3 ⟨rfl, hx3⟩
      have HX3 := kp (HXk.out.trans (hx3.trans (Ext.alloc _ (.cells (S.map V8).toArray 38))))
      obtain ⟨y, hy⟩ : ∃ y, sf[k]? = some y := ⟨sf[k]'(by rw [HL.out]; omega), by simp⟩
      have hm16 : k % 16 < 16 := by omega
      have hz : S[k % 16]? = some y := by
        have h := HP.out
        rw [getElem_getD22 hy] at h
        rw [h, List.getD, List.getElem?_eq_getElem (by rw [HJL.out]; exact hm16)]; rfl
      obtain ⟨g, og, eg, hg, cg⟩ := (HS2.out.ext HX3.out).at k y hy
      subst eg
      have cz : (w3.alloc (.cells (S.map V8).toArray 38)).cell? ⟨w3.heap.size, k % 16, none⟩ = some (V8 y) := by
        rw [cell_of_row _ _ (k % 16) _ _ _ (hp_new _ _)]; simp [hz]
      clear hx3 hy hz
      go_wp2_with ((with_reducible show wpList _ _ _ (Oper.mk none (Op.store 38 _ _) _ _ _ _ :: _) _ _); with_reducible refine wpList_st_row rfl rfl 38 _ _ rfl (w3.heap.size) ((S.map V8).toArray) rfl rfl 38 (z16) (hp_new _ _) (HJB.out) (HJZ.out) (all_V8 _) (by rewrite [setRow_at _ _ _ _ _ _ (by simp <;> omega)]; rfl) ?_)
      have hgz : w3.heap.size < (w3.alloc (.cells (S.map V8).toArray 38)).heap.size := by simp
      obtain ⟨D, hD⟩ : ∃ D, D = w3.heap.size := ⟨_, rfl⟩
      rw [← hD] at cz hgz ⊢
      generalize w3.alloc (.cells (S.map V8).toArray 38) = W3 at *
      clear hD
      have hyy : (y != y) = false := by simp
      go_wp2_with fail
      (first | with_reducible refine region_f2 9 (by kernel_rfl) (by kernel_rfl) (by kernel_rfl) (by kernel_rfl) (by decide) (Nat.le_of_ble_eq_true (by kernel_rfl)) ?_ | refine region_f 9 (by kernel_rfl) (by kernel_rfl) (by kernel_rfl) (by kernel_rfl) (by decide) (Nat.le_of_ble_eq_true (by kernel_rfl)) ?_)
      apply Exists.intro
      refine ⟨fun xz12 => ?_, fun xq12 => ?_⟩
      · simp only [List.take_succ_cons, List.take_zero]
        unfold Cx
        repeat (go_big_quiet_step (fail))
        exact wpQuiet_nil rfl
      simp only [List.drop_succ_cons, List.drop_zero]
      go_wp2_with fail
      go_roundw
      case rel => exact ⟨k + 1, by omega, by go_num, kp (HX3.out.trans (Ext.more _ _))⟩
      case measure => simp [intOf]; omega
    · obtain rfl : k = 40 := by omega
      go_wp2_with fail
      subst h11
      refine region_spine0 (tabS [(48, fun v _ => v = .bool true), (49, fun v _ => v = .bool true), (50, fun v _ => v = .agg (ks.map V8).toArray), (51, fun v _ => v = .agg (nc.map V8).toArray), (52, fun v _ => v = .int .i64 i), (53, fun v _ => v = .agg (Si.map V8).toArray), (54, fun v _ => v = .agg (ks.map V8).toArray), (55, fun v _ => v = .agg (nc.map V8).toArray), (56, fun v _ => v = .int .i64 j), (57, fun v _ => v = .agg (Sj.map V8).toArray), (58, fun v _ => v = .bool b), (59, fun v _ => v = .int .i64 i), (60, fun v _ => v = .int .u16 (i % 65536)), (61, fun v _ => v = .int .i64 j), (62, fun v _ => v = .int .u16 (j % 65536)), (63, fun v _ => v = .bool b), (64, fun v _ => v = .bool true), (65, fun v _ => v = .bool true), (8, fun v _ => v = .bool true)]) (tabS_mono _ (by simp only [List.forall_mem_cons]; exact ⟨mono_eq _, mono_eq _, mono_eq _, mono_eq _, mono_eq _, mono_eq _, mono_eq _, mono_eq _, mono_eq _, mono_eq _, mono_eq _, mono_eq _, mono_eq _, mono_eq _, mono_eq _, mono_eq _, mono_eq _, mono_eq _, mono_eq _, by simp⟩)) 19 (by kernel_rfl) (by kernel_rfl) (by kernel_rfl) (by kernel_rfl) (by decide) (Nat.le_of_ble_eq_true (by kernel_rfl)) (by kernel_rfl) (wr) (.inl rfl) ?_
      simp only [List.take_succ_cons, List.take_zero]
      refine ⟨fun wv48 hwv48 hSv48 => ?_, fun v48 => ?_⟩
      · obtain ⟨xv48, rfl⟩ := hwv48
        clear hSv48
        go_wp2_with fail
        exact ⟨rfl, _, rfl, fun d hd => by cases hd; exact rfl, Ext.refl _⟩
      simp only [Act.put, List.setIfInBounds_toArray, List.set_cons_zero, List.set_cons_succ]
      refine ⟨fun wv49 hwv49 hSv49 => ?_, fun v49 => ?_⟩
      · obtain ⟨xv49, rfl⟩ := hwv49
        obtain rfl : v48 = .bool true := hSv49 48 (by decide) (by decide)
        clear hSv49
        go_wp2_with fail
        exact ⟨rfl, _, rfl, fun d hd => by cases hd; exact rfl, Ext.refl _⟩
      simp only [Act.put, List.setIfInBounds_toArray, List.set_cons_zero, List.set_cons_succ]
      refine ⟨fun wv50 hwv50 hSv50 => ?_, fun v50 => ?_⟩
      · obtain ⟨xv50, rfl⟩ := hwv50
        obtain rfl : v49 = .bool true := hSv50 49 (by decide) (by decide)
        clear hSv50
        go_wp2_with ((with_reducible show wpList _ _ _ (Oper.mk _ (Op.load 23 _) _ _ _ _ :: _) _ _); (with_reducible refine wpList_load_rowG (by kernel_rfl) 23 _ rfl (w.heap.size) rfl 23 ((ks.map V8).toArray) (0, 0) _ (hp_more HKr.out) Try.underlying23 rfl (HK.out) ?_); simp only [Act.put, List.setIfInBounds_toArray, List.set_cons_zero, List.set_cons_succ])
        exact ⟨rfl, _, rfl, fun d hd => by cases hd; exact rfl, Ext.refl _⟩
      simp only [Act.put, List.setIfInBounds_toArray, List.set_cons_zero, List.set_cons_succ]
      refine ⟨fun wv51 hwv51 hSv51 => ?_, fun v51 => ?_⟩
      · obtain ⟨xv51, rfl⟩ := hwv51
        obtain rfl : v49 = .bool true := hSv51 49 (by decide) (by decide)
        clear hSv51
        go_wp2_with ((with_reducible show wpList _ _ _ (Oper.mk _ (Op.load 24 _) _ _ _ _ :: _) _ _); (with_reducible refine wpList_load_rowG (by kernel_rfl) 24 _ rfl (w.heap.size + 1) rfl 24 ((nc.map V8).toArray) (0, 0) _ (hp_more HNr.out) Try.underlying24 rfl (HN.out) ?_); simp only [Act.put, List.setIfInBounds_toArray, List.set_cons_zero, List.set_cons_succ])
        exact ⟨rfl, _, rfl, fun d hd => by cases hd; exact rfl, Ext.refl _⟩
      simp only [Act.put, List.setIfInBounds_toArray, List.set_cons_zero, List.set_cons_succ]
      refine ⟨fun wv52 hwv52 hSv52 => ?_, fun v52 => ?_⟩
      · obtain ⟨xv52, rfl⟩ := hwv52
        obtain rfl : v49 = .bool true := hSv52 49 (by decide) (by decide)
        clear hSv52
        go_wp2_with fail
        exact ⟨rfl, _, rfl, fun d hd => by cases hd; exact rfl, Ext.refl _⟩
      simp only [Act.put, List.setIfInBounds_toArray, List.set_cons_zero, List.set_cons_succ]
      refine ⟨fun wv53 hwv53 hSv53 => ?_, fun v53 => ?_⟩
      · obtain ⟨xv53, rfl⟩ := hwv53
        obtain rfl : v49 = .bool true := hSv53 49 (by decide) (by decide)
        obtain rfl : v50 = .agg (ks.map V8).toArray := hSv53 50 (by decide) (by decide)
        obtain rfl : v51 = .agg (nc.map V8).toArray := hSv53 51 (by decide) (by decide)
        obtain rfl : v52 = .int .i64 i := hSv53 52 (by decide) (by decide)
        clear hSv53
        go_wp2_with fail
        refine (HSi.out _).mono ?_
        rintro e w' ⟨rfl, hx⟩
        have HXL := kp hx
        clear hx
        go_wp2_with fail
        exact ⟨rfl, _, rfl, fun d hd => by cases hd; exact rfl, HXL.out⟩
      simp only [Act.put, List.setIfInBounds_toArray, List.set_cons_zero, List.set_cons_succ]
      refine ⟨fun wv54 hwv54 hSv54 => ?_, fun v54 => ?_⟩
      · obtain ⟨xv54, rfl⟩ := hwv54
        obtain rfl : v49 = .bool true := hSv54 49 (by decide) (by decide)
        clear hSv54
        go_wp2_with ((with_reducible show wpList _ _ _ (Oper.mk _ (Op.load 23 _) _ _ _ _ :: _) _ _); (with_reducible refine wpList_load_rowG (by kernel_rfl) 23 _ rfl (w.heap.size) rfl 23 ((ks.map V8).toArray) (0, 0) _ (hp_more HKr.out) Try.underlying23 rfl (HK.out) ?_); simp only [Act.put, List.setIfInBounds_toArray, List.set_cons_zero, List.set_cons_succ])
        exact ⟨rfl, _, rfl, fun d hd => by cases hd; exact rfl, Ext.refl _⟩
      simp only [Act.put, List.setIfInBounds_toArray, List.set_cons_zero, List.set_cons_succ]
      refine ⟨fun wv55 hwv55 hSv55 => ?_, fun v55 => ?_⟩
      · obtain ⟨xv55, rfl⟩ := hwv55
        obtain rfl : v49 = .bool true := hSv55 49 (by decide) (by decide)
        clear hSv55
        go_wp2_with ((with_reducible show wpList _ _ _ (Oper.mk _ (Op.load 24 _) _ _ _ _ :: _) _ _); (with_reducible refine wpList_load_rowG (by kernel_rfl) 24 _ rfl (w.heap.size + 1) rfl 24 ((nc.map V8).toArray) (0, 0) _ (hp_more HNr.out) Try.underlying24 rfl (HN.out) ?_); simp only [Act.put, List.setIfInBounds_toArray, List.set_cons_zero, List.set_cons_succ])
        exact ⟨rfl, _, rfl, fun d hd => by cases hd; exact rfl, Ext.refl _⟩
      simp only [Act.put, List.setIfInBounds_toArray, List.set_cons_zero, List.set_cons_succ]
      refine ⟨fun wv56 hwv56 hSv56 => ?_, fun v56 => ?_⟩
      · obtain ⟨xv56, rfl⟩ := hwv56
        obtain rfl : v49 = .bool true := hSv56 49 (by decide) (by decide)
        clear hSv56
        go_wp2_with fail
        exact ⟨rfl, _, rfl, fun d hd => by cases hd; exact rfl, Ext.refl _⟩
      simp only [Act.put, List.setIfInBounds_toArray, List.set_cons_zero, List.set_cons_succ]
      refine ⟨fun wv57 hwv57 hSv57 => ?_, fun v57 => ?_⟩
      · obtain ⟨xv57, rfl⟩ := hwv57
        obtain rfl : v49 = .bool true := hSv57 49 (by decide) (by decide)
        obtain rfl : v54 = .agg (ks.map V8).toArray := hSv57 54 (by decide) (by decide)
        obtain rfl : v55 = .agg (nc.map V8).toArray := hSv57 55 (by decide) (by decide)
        obtain rfl : v56 = .int .i64 j := hSv57 56 (by decide) (by decide)
        clear hSv57
        go_wp2_with fail
        refine (HSj.out _).mono ?_
        rintro e w' ⟨rfl, hx⟩
        have HXL := kp hx
        clear hx
        go_wp2_with fail
        exact ⟨rfl, _, rfl, fun d hd => by cases hd; exact rfl, HXL.out⟩
      simp only [Act.put, List.setIfInBounds_toArray, List.set_cons_zero, List.set_cons_succ]
      refine ⟨fun wv58 hwv58 hSv58 => ?_, fun v58 => ?_⟩
      · obtain ⟨xv58, rfl⟩ := hwv58
        obtain rfl : v49 = .bool true := hSv58 49 (by decide) (by decide)
        obtain rfl : v53 = .agg (Si.map V8).toArray := hSv58 53 (by decide) (by decide)
        obtain rfl : v57 = .agg (Sj.map V8).toArray := hSv58 57 (by decide) (by decide)
        clear hSv58
        go_wp2_with fail
        exact ⟨rfl, _, rfl, fun d hd => by cases hd; exact rfl, Ext.refl _⟩
      simp only [Act.put, List.setIfInBounds_toArray, List.set_cons_zero, List.set_cons_succ]
      refine ⟨fun wv59 hwv59 hSv59 => ?_, fun v59 => ?_⟩
      · obtain ⟨xv59, rfl⟩ := hwv59
        obtain rfl : v49 = .bool true := hSv59 49 (by decide) (by decide)
        clear hSv59
        go_wp2_with fail
        exact ⟨rfl, _, rfl, fun d hd => by cases hd; exact rfl, Ext.refl _⟩
      simp only [Act.put, List.setIfInBounds_toArray, List.set_cons_zero, List.set_cons_succ]
      refine ⟨fun wv60 hwv60 hSv60 => ?_, fun v60 => ?_⟩
      · obtain ⟨xv60, rfl⟩ := hwv60
        obtain rfl : v49 = .bool true := hSv60 49 (by decide) (by decide)
        obtain rfl : v59 = .int .i64 i := hSv60 59 (by decide) (by decide)
        clear hSv60
        go_wp2_with fail
        exact ⟨rfl, _, rfl, fun d hd => by cases hd; exact rfl, Ext.refl _⟩
      simp only [Act.put, List.setIfInBounds_toArray, List.set_cons_zero, List.set_cons_succ]
      refine ⟨fun wv61 hwv61 hSv61 => ?_, fun v61 => ?_⟩
      · obtain ⟨xv61, rfl⟩ := hwv61
        obtain rfl : v49 = .bool true := hSv61 49 (by decide) (by decide)
        clear hSv61
        go_wp2_with fail
        exact ⟨rfl, _, rfl, fun d hd => by cases hd; exact rfl, Ext.refl _⟩
      simp only [Act.put, List.setIfInBounds_toArray, List.set_cons_zero, List.set_cons_succ]
      refine ⟨fun wv62 hwv62 hSv62 => ?_, fun v62 => ?_⟩
      · obtain ⟨xv62, rfl⟩ := hwv62
        obtain rfl : v49 = .bool true := hSv62 49 (by decide) (by decide)
        obtain rfl : v61 = .int .i64 j := hSv62 61 (by decide) (by decide)
        clear hSv62
        go_wp2_with fail
        exact ⟨rfl, _, rfl, fun d hd => by cases hd; exact rfl, Ext.refl _⟩
      simp only [Act.put, List.setIfInBounds_toArray, List.set_cons_zero, List.set_cons_succ]
      refine ⟨fun wv63 hwv63 hSv63 => ?_, fun v63 => ?_⟩
      · obtain ⟨xv63, rfl⟩ := hwv63
        obtain rfl : v49 = .bool true := hSv63 49 (by decide) (by decide)
        obtain rfl : v60 = .int .u16 (i % 65536) := hSv63 60 (by decide) (by decide)
        obtain rfl : v62 = .int .u16 (j % 65536) := hSv63 62 (by decide) (by decide)
        clear hSv63
        go_wp2_with fail
        exact ⟨rfl, _, rfl, fun d hd => by cases hd; exact rfl, Ext.refl _⟩
      simp only [Act.put, List.setIfInBounds_toArray, List.set_cons_zero, List.set_cons_succ]
      refine ⟨fun wv64 hwv64 hSv64 => ?_, fun v64 => ?_⟩
      · obtain ⟨xv64, rfl⟩ := hwv64
        obtain rfl : v49 = .bool true := hSv64 49 (by decide) (by decide)
        obtain rfl : v58 = .bool b := hSv64 58 (by decide) (by decide)
        obtain rfl : v63 = .bool b := hSv64 63 (by decide) (by decide)
        clear hSv64
        go_wp2_with fail
        exact ⟨rfl, _, rfl, fun d hd => by cases hd; exact rfl, Ext.refl _⟩
      simp only [Act.put, List.setIfInBounds_toArray, List.set_cons_zero, List.set_cons_succ]
      refine ⟨fun wv65 hwv65 hSv65 => ?_, fun v65 => ?_⟩
      · obtain ⟨xv65, rfl⟩ := hwv65
        obtain rfl : v49 = .bool true := hSv65 49 (by decide) (by decide)
        obtain rfl : v64 = .bool true := hSv65 64 (by decide) (by decide)
        clear hSv65
        go_wp2_with fail
        exact ⟨rfl, _, rfl, fun d hd => by cases hd; exact rfl, Ext.refl _⟩
      simp only [Act.put, List.setIfInBounds_toArray, List.set_cons_zero, List.set_cons_succ]
      refine ⟨fun wv8 hwv8 hSv8 => ?_, fun v8 => ?_⟩
      · obtain ⟨xv8, rfl⟩ := hwv8
        obtain rfl : v65 = .bool true := hSv8 65 (by decide) (by decide)
        clear hSv8
        go_wp2_with fail
        exact ⟨rfl, _, rfl, fun d hd => by cases hd; exact rfl, Ext.refl _⟩
      simp only [Act.put, List.setIfInBounds_toArray, List.set_cons_zero, List.set_cons_succ]
      intro x9 hfin
      obtain rfl : v8 = .bool true := hfin 8 (by decide)
      clear hfin
      simp only [List.drop_succ_cons, List.drop_zero]
      go_wp2_with fail
      go_ret
      exact ⟨rfl, (HX2.out.trans HXk.out).trans (Ext.more _ _)⟩
end Go.Proofs.Ytnofmppimihjpaa
