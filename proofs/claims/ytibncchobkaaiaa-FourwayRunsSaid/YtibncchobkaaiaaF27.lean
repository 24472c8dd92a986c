/- Texts of this proof, put together: RfP, RfC. -/
import Derived.Test.YtibncchobkaaiaaF26
import Derived.Test.YtibncchobkaaiaaF14
import Derived.Test.YtibncchobkaaiaaF12
import Derived.Test.YtibncchobkaaiaaF22
import Derived.Test.YtibncchobkaaiaaF24
import Derived.Test.YtibncchobkaaiaaF19
import Derived.Test.YtibncchobkaaiaaF16
import Derived.Test.YtibncchobkaaiaaF1
namespace Go.Proofs.Ytibncchobkaaiaa
open Go.RowKit
theorem wI_ne0 (x : BitVec 8) : (wI x != 0) = (x != 0#8) := by
 by_cases h : x = 0#8
 ·subst h; rfl
 ·have h1 : wI x ≠ 0 := fun e => h (BitVec.eq_of_toNat_eq (by simpa [wI] using e))
  rw [show (wI x != 0) = true from by simpa using h1, show (x != 0#8) = true from by simpa using h]
def RfL (b : By) (w99 : World) (i : Value) (wr : World) : Prop := ∃ k : Nat, 27 ≤ k ∧ k ≤ 43 ∧ i = .int .i64 k ∧ Kp (∀ j, 27 ≤ j → j < k → b[j]? = some 0#8) ∧ w99 = wr
def RfC (w w9 : World) (bs : List Bk) (_ : Tmp → Value) (W : World) : Prop := Kp (Loc w W bs) ∧ W = w9
def PrR (b : By) (w : World) (e : Ending) (w' : World) : Prop := ∃ (k c : Int) (n : Vc 16) (ad : Option Addr) (m cp : Nat), e = .returned (.tuple #[.agg (cat (partsM k c n ad m cp)).toArray, .int .i64 (parseE b)]) ∧ Ext w w' ∧ (parseE b = 0 → k = kindP b ∧ c = countP b ∧ n = nonceP b ∧ SlB w' (.slice ad m cp) (dataP b) ∧ CapOk (.slice ad m cp))
theorem prR_err {b : By} {w w' : World} {E : Int} (h : parseE b = E) (h0 : E ≠ 0) (hx : Ext w w') : PrR b w (.returned (.tuple #[.agg (cat (partsM 0 0 (zv 16) none 0 0)).toArray, .int .i64 E])) w' :=
 ⟨_, _, _, _, _, _, by rw [h], hx, fun q => absurd (h.symm.trans q) h0⟩
theorem build_P1 (k : Int) (w : World) : (Instr.build 89 #[(0, .int .u8 k)]).run Try.prog w = .ok (.agg (cat (partsM k 0 (zv 16) none 0 0)).toArray) w := by
 refine run_build _ _ w (partsM 0 0 (zv 16) none 0 0) (by kernel_rfl) _ Try.underlying89 #[(0, 1), (1, 1), (2, 16), (18, 1)] (by kernel_rfl) _ ?_
 show Instr.fill _ _ [_] = _
 rw [fill_cat _ _ 0 _ _ 0 0 1 [Lf.i .u8 k] rfl rfl rfl rfl _ rfl]
 rfl
theorem fit16_step {l : By} {k : Nat} (hk : k < 16) {x : BitVec 8} (hx : l[k]? = some x) (kd ct : Int) : (cat (partsM kd ct (fit 16 (l.take k)) none 0 0)).set (2 + k) (V8 x) = cat (partsM kd ct (fit 16 (l.take (k + 1))) none 0 0) := by
 obtain ⟨hl, hx2⟩ := List.getElem?_eq_some_iff.1 hx
 have key : ((fit 16 (l.take k)).1.map V8).set k (V8 x) = (fit 16 (l.take (k + 1))).1.map V8 := by
  rw [← List.map_set]
  congr 1
  unfold fit
  rw [over_val, over_val]
  have e1 : min (l.take k).length 16 = k := by simp; omega
  have e2 : min (l.take (k + 1)).length 16 = k + 1 := by simp; omega
  rw [e1, e2, List.take_take, List.take_take, Nat.min_self, Nat.min_self, List.take_add_one, hx]
  show (l.take k ++ (List.replicate 16 0#8).drop k).set k x = l.take k ++ [x] ++ (List.replicate 16 0#8).drop (k + 1)
  rw [List.set_append_right _ _ (by simp; omega), List.drop_replicate, List.drop_replicate]
  have e3 : k - (l.take k).length = 0 := by simp; omega
  rw [e3, show 16 - k = (16 - (k + 1)) + 1 by omega, List.replicate_succ]
  simp
 have hlen : k < ((fit 16 (l.take k)).1.map V8).length := by rw [List.length_map, (fit 16 (l.take k)).2]; exact hk
 show (Value.int .u8 kd :: Value.int .i64 ct :: ((fit 16 (l.take k)).1.map V8 ++ [Value.slice none 0 0])).set (2 + k) (V8 x) = _
 rw [show 2 + k = k + 1 + 1 by omega, List.set_cons_succ, List.set_cons_succ, List.set_append_left _ _ hlen, key]
 rfl
theorem fit16_take {l : By} (h : 16 ≤ l.length) : fit 16 (l.take 16) = fit 16 l := Subtype.ext (by
 rw [fit_val (by simp; omega), fit_val h, List.take_take, Nat.min_self])
set_option maxRecDepth 4000 in
set_option maxHeartbeats 1600000 in
theorem rparse_short (ad : Option Addr) (n c : Nat) (b : By) (hn : n = b.length) (h43 : b.length < 43) (w : World) : Calls Try.prog 35 #[.slice ad n c] w (PrR b w) := by
 have H := kp (Loc.start w)
 have HK := kp (show parseE b = 10 by unfold parseE; rw [if_pos h43])
 have hn43 : n < 43 := by omega
 clear hn h43
 go_enter Try.func35, Try.ntmps35
 go_wp2_with (first | ((with_reducible refine isAl 2 89 ?_); (refine L_alloc H rfl 89 rfl (cat (partsM 0 0 (zv 16) none 0 0)) (fun _ _ => by kernel_rfl) ?_); clear H; intro g2 w2 HGg2 HEg2 H; simp only [pA]) | ((with_reducible show wpList _ _ _ (Oper.mk _ (Op.build 89 _) _ _ _ _ :: _) _ _); (refine L_bd rfl 89 _ rfl #[] (by kernel_rfl) (cat (partsM 0 0 (zv 16) none 0 0)) (fun _ => by kernel_rfl) ?_); simp only [pA]) | ((with_reducible refine isSt 89 ?_); (refine L_sa H rfl rfl 89 _ _ rfl 0 rfl rfl (partsM 0 0 (zv 16) none 0 0) rfl rfl (by kernel_rfl) ?_; clear H; intro wz HWwz H; simp only [szA] at H)))
 all_goals try (exfalso; omega)
 (exact ret_f2 H Try.results35 0 rfl rfl _ rfl Try.underlying89 rfl (by kernel_rfl) rfl (prR_err HK.out (by decide) H.out.1))
set_option maxRecDepth 10000 in
set_option maxHeartbeats 6400000 in
theorem rparse_long (gb ob n c : Nat) (b : By) (h43 : 43 ≤ b.length) (hb : b.length ≤ 100000) (w : World) (hs : SlB w (.slice (some ⟨gb, ob, none⟩) n c) b) (hcap : CapOk (.slice (some ⟨gb, ob, none⟩) n c)) : Calls Try.prog 35 #[.slice (some ⟨gb, ob, none⟩) n c] w (PrR b w) := by
 have hnl := hs.len
 have hnc : n ≤ c := hcap _ _ _ rfl
 have hn43 : 43 ≤ n := by omega
 have hn5 : n ≤ 100000 := by omega
 have HBY := kp (show ∀ W, Ext w W → ∀ (j : Nat) x, b[j]? = some x → W.cell? ⟨gb, ob + j, none⟩ = some (V8 x) from fun W hx j x hj => by
  obtain ⟨b2, o2, e2, _, h3⟩ := (hs.ext hx).at j x hj
  cases e2; exact h3)
 have HS := kp hs
 have HNL := kp hnl
 have H := kp (Loc.start w)
 have H43 := kp h43
 clear h43 hb hs hcap hnl
 obtain ⟨x0, hx0⟩ : ∃ x, b[0]? = some x := ⟨b[0]'(by rw [← HNL.out]; omega), by simp⟩
 obtain ⟨x8, hx8⟩ : ∃ x, b[8]? = some x := ⟨b[8]'(by rw [← HNL.out]; omega), by simp⟩
 have HX0 := kp hx0
 have HX8 := kp hx8
 have HK := kp (show kindP b = wI x0 by unfold kindP; rw [List.getD_eq_getElem?_getD, hx0]; rfl)
 have HK8 := kp (show wI (b.getD 8 0) = wI x8 by rw [List.getD_eq_getElem?_getD, hx8]; rfl)
 have HB1 := kp (fun W => build_P1 (wI x0) W)
 clear hx0 hx8
 go_enter Try.func35, Try.ntmps35
 generalize h3 : (Code.region 3 _ _ : Code) = R3
 generalize h4 : (Code.region 4 _ _ : Code) = R4
 generalize h15 : ((Code.region 15 _ _ : Code).seq _) = C15
 generalize h17 : (Code.region 17 _ _ : Code) = R17
 generalize h18 : ((Code.region 18 _ _ : Code).seq _) = C18
 generalize h20 : (Code.region 20 _ _ : Code) = R20
 go_wp2_with ((with_reducible refine isAl 2 89 ?_); (refine L_alloc H rfl 89 rfl (cat (partsM 0 0 (zv 16) none 0 0)) (fun _ _ => by kernel_rfl) ?_); clear H; intro g2 w2 HGg2 HEg2 H; simp only [pA])
 all_goals try (exfalso; omega)
 subst h3
 have hc0 : w2.cell? ⟨gb, ob, none⟩ = some (.int .u8 (wI x0)) := HBY.out _ H.out.1 0 x0 HX0.out
 go_wp2_with (first | ((with_reducible show wpList _ _ _ (Oper.mk (some 16) (Op.build _ _) _ _ _ _ :: _) _ _); (refine L_bd rfl 89 _ rfl #[(0, .int .u8 (wI x0))] (by kernel_rfl) (cat (partsM (wI x0) 0 (zv 16) none 0 0)) HB1.out ?_); simp only [pA]) | ((with_reducible refine isAl 4 89 ?_); (refine L_alloc H rfl 89 rfl (cat (partsM 0 0 (zv 16) none 0 0)) (fun _ _ => by kernel_rfl) ?_); clear H; intro g4 w4 HGg4 HEg4 H; simp only [pA]) | ((with_reducible refine isSt 89 ?_); refine L_sa H rfl rfl 89 _ _ rfl 0 rfl rfl (partsM (wI x0) 0 (zv 16) none 0 0) rfl rfl (by kernel_rfl) ?_; clear H; intro w5 HWw5 H; simp only [szA] at H))
 clear hc0
 have hc8 : w5.cell? ⟨gb, ob + 8, none⟩ = some (.int .u8 (wI x8)) := HBY.out _ H.out.1 8 x8 HX8.out
 subst h4
 by_cases hb1 : 64 ≤ wI x8 ∨ wI x0 < 1 ∨ 4 < wI x0
 ·have HK := kp (parseE_12 H43.out (.inl (show bad1P b from by unfold bad1P; rw [HK.out, HK8.out]; exact hb1)))
  go_wp2_with (first | ((with_reducible refine isLd 5 ?_); (refine L_f1 H rfl 5 _ rfl 0 rfl _ rfl _ rfl _ rfl Try.underlying5 rfl ?_); simp only [pA]) | ((with_reducible show wpList _ _ _ (Oper.mk _ (Op.build 89 _) _ _ _ _ :: _) _ _); (refine L_bd rfl 89 _ rfl #[] (by kernel_rfl) (cat (partsM 0 0 (zv 16) none 0 0)) (fun _ => by kernel_rfl) ?_); simp only [pA]) | ((with_reducible refine isSt 89 ?_); refine L_sa H rfl rfl 89 _ _ rfl 1 rfl rfl (partsM 0 0 (zv 16) none 0 0) rfl rfl (by kernel_rfl) ?_; clear H; intro wz HWwz H; simp only [ssA, szA] at H))
  all_goals try (exfalso; omega)
  all_goals (exact ret_f2 H Try.results35 1 rfl rfl _ rfl Try.underlying89 rfl (by kernel_rfl) rfl (prR_err HK.out (by decide) H.out.1))
 ·go_wp2_with (first | ((with_reducible refine isLd 5 ?_); (refine L_f1 H rfl 5 _ rfl 0 rfl _ rfl _ rfl _ rfl Try.underlying5 rfl ?_); simp only [pA]) | ((with_reducible show wpList _ _ _ (Oper.mk _ (Op.build 89 _) _ _ _ _ :: _) _ _); (refine L_bd rfl 89 _ rfl #[] (by kernel_rfl) (cat (partsM 0 0 (zv 16) none 0 0)) (fun _ => by kernel_rfl) ?_); simp only [pA]) | ((with_reducible refine isSt 89 ?_); refine L_sa H rfl rfl 89 _ _ rfl 1 rfl rfl (partsM 0 0 (zv 16) none 0 0) rfl rfl (by kernel_rfl) ?_; clear H; intro wz HWwz H; simp only [ssA, szA] at H))
  all_goals try (exfalso; omega)
  have HNB1 := kp (show ¬ bad1P b from by unfold bad1P; rw [HK.out, HK8.out]; exact hb1)
  have HCT := kp (fun i h8 => cntTo_lt (b := b) (by have := H43.out; omega) (show wI (b.getD 8 0) < 64 from by rw [HK8.out]; omega) (i := i) h8)
  clear hb1 hc8
  go_loopw [5] (fun i wr => ∃ k : Nat, k ≤ 8 ∧ i = .int .i64 k ∧ Kp (Loc w wr [(g4, 89, cat (partsM (wI x0) (cntTo b k) (zv 16) none 0 0)), (g2, 89, cat (partsM 0 0 (zv 16) none 0 0))])) (fun i _ => (intOf i).toNat)
  case atStart => exact ⟨8, by omega, rfl, kp (by rw [cntTo_8]; exact H.out)⟩
  case round =>
   clear H
   obtain ⟨k, hk, rfl, H⟩ := hrel
   by_cases hlt : 1 ≤ k
   ·obtain ⟨j, rfl⟩ : ∃ j, k = j + 1 := ⟨k - 1, by omega⟩
    obtain ⟨x, hx⟩ : ∃ x, b[j + 1]? = some x := ⟨_, List.getElem?_eq_getElem (by rw [← HNL.out]; omega)⟩
    have HCX := kp (show ∀ W, Ext wr W → W.cell? ⟨gb, ob + (j + 1), none⟩ = some (.int .u8 (wI x)) from fun W hxx => HBY.out W (H.out.1.trans hxx) _ _ hx)
    have HST := kp (show cntTo b j = 256 * cntTo b (j + 1) + wI x from cntTo_step (i := j + 1) (by omega) hk hx)
    have q0 := (HCT.out (j + 1) hk).1
    have q1 := (HCT.out j (by omega)).2 (by omega)
    have q2 : (64 : Int) * 256 ^ (7 - j) ≤ 4611686018427387904 := by
     have e : (256 : Nat) ^ (7 - j) ≤ 256 ^ 7 := Nat.pow_le_pow_right (by decide) (by omega)
     have e2 : ((256 ^ (7 - j) : Nat) : Int) = (256 : Int) ^ (7 - j) := Int.natCast_pow 256 _
     rw [← e2]; omega
    rw [HST.out] at q1
    have q3 : 0 ≤ wI x ∧ wI x < 256 := by have := x.isLt; unfold wI; omega
    generalize cntTo b (j + 1) = cn at *
    have q4 : 256 * cn + wI x < 4611686018427387904 := Int.lt_of_lt_of_le q1 q2
    clear hx q1 q2
    go_wp2_with fail
    all_goals try (exfalso; omega)
    refine region_z H 10 (by kernel_rfl) (by kernel_rfl) (by kernel_rfl) (by kernel_rfl) (by decide) (Nat.le_of_ble_eq_true (by kernel_rfl)) ?_
    apply Exists.intro
    refine ⟨fun xz2 => ?_, fun wz2 HXZ H => ?_⟩
    ·simp only [List.take_succ_cons, List.take_zero]
     unfold Cx
     repeat (first | ((with_reducible show wpQuiet _ _ _ _ (Oper.mk _ (Op.load 3 _) _ _ _ _ :: _) _); go_big_quiet_want; (refine qz_1 H 3 _ rfl 0 rfl _ rfl _ rfl _ rfl Try.underlying3 rfl ?_); simp only [pA]; go_big_quiet_on) | ((with_reducible show wpQuiet _ _ _ _ (Oper.mk _ (Op.load 5 _) _ _ _ _ :: _) _); go_big_quiet_want; refine qz_c 5 _ rfl _ _ rfl (.int .u8 (wI x)) (HCX.out) Try.underlying5 rfl ?_; simp only [pA]; go_big_quiet_on) | go_big_quiet_step (fail))
     exact wpQuiet_nil rfl
    simp only [List.drop_succ_cons, List.drop_zero]
    go_wp2_with ((with_reducible refine isSt 3 ?_); (refine L_s1 H rfl rfl 3 _ _ rfl 0 rfl _ rfl _ rfl _ rfl rfl rfl rfl (by kernel_rfl) (partsM (wI x0) (256 * cn + wI x) (zv 16) none 0 0) rfl ?_; clear H; intro wz HWwz H; simp only [szA] at H))
    go_roundw
    case rel => exact ⟨j, by omega, by go_num, kp (by rw [HST.out]; exact H.out)⟩
    case measure => simp [intOf]
   ·obtain rfl : k = 0 := by omega
    rw [cntTo_0] at H
    go_wp2_with fail
    all_goals try (exfalso; omega)
    go_loopw [6] (fun i wr => ∃ k : Nat, k ≤ 16 ∧ i = .int .i64 k ∧ Kp (Loc w wr [(g4, 89, cat (partsM (wI x0) (countP b) (fit 16 ((b.drop 9).take k)) none 0 0)), (g2, 89, cat (partsM 0 0 (zv 16) none 0 0))])) (fun i _ => 16 - (intOf i).toNat)
    case atStart => exact ⟨0, by omega, rfl, H⟩
    case round =>
     clear H
     obtain ⟨k, hk, rfl, H⟩ := hrel
     by_cases hlt : k < 16
     ·obtain ⟨x, hx⟩ : ∃ x, b[9 + k]? = some x := ⟨_, List.getElem?_eq_getElem (by rw [← HNL.out]; omega)⟩
      have hc : wr.cell? ⟨gb, ob + (9 + k), none⟩ = some (.int .u8 (wI x)) := HBY.out wr H.out.1 _ _ hx
      have HST := kp (fit16_step (l := b.drop 9) hlt (by rw [List.getElem?_drop]; exact hx) (wI x0) (countP b))
      have HLK := kp (show 2 + k < (cat (partsM (wI x0) (countP b) (fit 16 ((b.drop 9).take k)) none 0 0)).length from by rw [cat_len]; show 2 + k < 19; omega)
      clear hx
      go_wp2_with ((with_reducible refine isSt 5 ?_); (refine L_cell H rfl rfl 5 _ _ rfl 0 rfl (2 + k) rfl (V8 x) rfl (rfl) (size5) (HLK.out) (cat (partsM (wI x0) (countP b) (fit 16 ((b.drop 9).take (k + 1))) none 0 0)) (HST.out) ?_; clear H; intro wz HWwz H; simp only [szA] at H))
      all_goals try (exfalso; omega)
      go_roundw
      case rel => exact ⟨k + 1, by omega, by go_num, H⟩
      case measure => simp [intOf]; omega
     ·obtain rfl : k = 16 := by omega
      rw [fit16_take (by have := H43.out; simp; omega)] at H
      have H2 := kp (show Loc w wr [(g4, 89, cat (partsM (wI x0) (countP b) (nonceP b) none 0 0)), (g2, 89, cat (partsM 0 0 (zv 16) none 0 0))] from H.out)
      clear H
      have H := H2
      clear H2
      go_wp2_with fail
      all_goals try (exfalso; omega)
      obtain ⟨x25, hx25⟩ : ∃ x, b[25]? = some x := ⟨_, List.getElem?_eq_getElem (by rw [← HNL.out]; omega)⟩
      obtain ⟨x26, hx26⟩ : ∃ x, b[26]? = some x := ⟨_, List.getElem?_eq_getElem (by rw [← HNL.out]; omega)⟩
      have HC25 := kp (show ∀ W, Ext wr W → W.cell? ⟨gb, ob + 25, none⟩ = some (.int .u8 (wI x25)) from fun W hxx => HBY.out W (H.out.1.trans hxx) _ _ hx25)
      have HC26 := kp (show ∀ W, Ext wr W → W.cell? ⟨gb, ob + 26, none⟩ = some (.int .u8 (wI x26)) from fun W hxx => HBY.out W (H.out.1.trans hxx) _ _ hx26)
      have HSD := kp (show saidP b = wI x25 + 256 * wI x26 by unfold saidP; rw [List.getD_eq_getElem?_getD, List.getD_eq_getElem?_getD, hx25, hx26]; rfl)
      have q5 : 0 ≤ wI x25 ∧ wI x25 < 256 := by have := x25.isLt; unfold wI; omega
      have q6 : 0 ≤ wI x26 ∧ wI x26 < 256 := by have := x26.isLt; unfold wI; omega
      clear hx25 hx26
      refine region_z H 11 (by kernel_rfl) (by kernel_rfl) (by kernel_rfl) (by kernel_rfl) (by decide) (Nat.le_of_ble_eq_true (by kernel_rfl)) ?_
      apply Exists.intro
      refine ⟨fun xz3 => ?_, fun wz3 HXZ H => ?_⟩
      ·simp only [List.take_succ_cons, List.take_zero]
       unfold Cx
       repeat (first | ((with_reducible show wpQuiet _ _ _ _ (Oper.mk _ (Op.load 5 _) _ _ _ _ :: _) _); go_big_quiet_want; refine qz_c 5 _ rfl _ _ rfl (.int .u8 (wI x25)) (HC25.out) Try.underlying5 rfl ?_; simp only [pA]; go_big_quiet_on) | ((with_reducible show wpQuiet _ _ _ _ (Oper.mk _ (Op.load 5 _) _ _ _ _ :: _) _); go_big_quiet_want; refine qz_c 5 _ rfl _ _ rfl (.int .u8 (wI x26)) (HC26.out) Try.underlying5 rfl ?_; simp only [pA]; go_big_quiet_on) | go_big_quiet_step (fail))
       exact wpQuiet_nil rfl
      simp only [List.drop_succ_cons, List.drop_zero]
      go_wp2_with fail
      have hsd0 : 0 ≤ wI x25 + 256 * wI x26 := by omega
      have hsd1 : wI x25 + 256 * wI x26 < 65536 := by omega
      generalize wI x25 + 256 * wI x26 = sd at *
      clear q5 q6 HC25 HC26
      subst h15
      by_cases hb2 : sd ≠ (n : Int) - 43 ∨ (wI x0 = 3 ∧ sd ≠ 25) ∨ (wI x0 ≠ 3 ∧ sd ≠ 0)
      ·have HK := kp (parseE_12 H43.out (.inr (.inl (show bad2P b from by unfold bad2P; rw [HK.out, HSD.out, ← HNL.out]; exact hb2))))
       go_wp2_with (first | ((with_reducible refine isLd 5 ?_); (refine L_f1 H rfl 5 _ rfl 0 rfl _ rfl _ rfl _ rfl Try.underlying5 rfl ?_); simp only [pA]) | ((with_reducible show wpList _ _ _ (Oper.mk _ (Op.build 89 _) _ _ _ _ :: _) _ _); (refine L_bd rfl 89 _ rfl #[] (by kernel_rfl) (cat (partsM 0 0 (zv 16) none 0 0)) (fun _ => by kernel_rfl) ?_); simp only [pA]) | ((with_reducible refine isSt 89 ?_); refine L_sa H rfl rfl 89 _ _ rfl 1 rfl rfl (partsM 0 0 (zv 16) none 0 0) rfl rfl (by kernel_rfl) ?_; clear H; intro wz HWwz H; simp only [ssA, szA] at H))
       all_goals try (exfalso; first | omega | (simp_all; done) | (simp_all; omega))
       all_goals (exact ret_f2 H Try.results35 1 rfl rfl _ rfl Try.underlying89 rfl (by kernel_rfl) rfl (prR_err HK.out (by decide) H.out.1))
      ·have HNB2 := kp (show ¬ bad2P b from by unfold bad2P; rw [HK.out, HSD.out, ← HNL.out]; exact hb2)
       obtain ⟨m, rfl⟩ : ∃ m, n = m + 43 := ⟨n - 43, by omega⟩
       obtain rfl : sd = (m : Int) := by omega
       have HM := kp (show (wI x0 = 3 → m = 25) ∧ (wI x0 ≠ 3 → m = 0) from ⟨fun e => by omega, fun e => by omega⟩)
       refine wp_cut (68 :: 69 :: 70 :: 71 :: 72 :: 73 :: 74 :: 75 :: 76 :: 77 :: 78 :: 79 :: 80 :: 81 :: 82 :: 83 :: 84 :: 85 :: 86 :: 87 :: 88 :: 89 :: 90 :: []) (fun _ W => Kp (Loc w W [(g4, 89, cat (partsM (wI x0) (countP b) (nonceP b) none 0 0)), (g2, 89, cat (partsM 0 0 (zv 16) none 0 0))])) ?_ ?_
       ·clear hb2 hsd0 hsd1
        go_wp2_with (first | ((with_reducible refine isLd 5 ?_); (refine L_f1 H rfl 5 _ rfl 0 rfl _ rfl _ rfl _ rfl Try.underlying5 rfl ?_); simp only [pA]) | ((with_reducible show wpList _ _ _ (Oper.mk _ (Op.build 89 _) _ _ _ _ :: _) _ _); (refine L_bd rfl 89 _ rfl #[] (by kernel_rfl) (cat (partsM 0 0 (zv 16) none 0 0)) (fun _ => by kernel_rfl) ?_); simp only [pA]) | ((with_reducible refine isSt 89 ?_); refine L_sa H rfl rfl 89 _ _ rfl 1 rfl rfl (partsM 0 0 (zv 16) none 0 0) rfl rfl (by kernel_rfl) ?_; clear H; intro wz HWwz H; simp only [ssA, szA] at H))
        all_goals first | exact CutP.of rfl (by kernel_rfl) H | (exfalso; clear h17 h18 h20; obtain ⟨m1, m2⟩ := HM.out; by_cases k3 : wI x0 = 3; (have h5 := m1 k3; simp only [bne_iff_ne, ne_eq] at *; omega); (have h5 := m2 k3; simp only [bne_iff_ne, ne_eq] at *; omega))
       clear H
       rintro vs90 w90 H
       simp only [putMany, List.setIfInBounds_toArray, List.set_cons_zero, List.set_cons_succ]
       go_wp2_with fail
       subst h17
       have hcc := hnc
       have HDT := kp (show SlB w90 (.slice (some ⟨gb, ob + 27, none⟩) (27 + m - 27) (c - 27)) (dataP b) from by
        rw [show 27 + m - 27 = m by omega]
        by_cases m0 : m = 0
        ·have : dataP b = [] := List.eq_nil_of_length_eq_zero (by rw [data_len, ← HNL.out]; omega)
         rw [this, m0]; exact .inl ⟨rfl, .inr ⟨_, _, rfl⟩⟩
        ·have h1 := (((HS.out.ext H.out.1).from 27 (m + 16) (c - 27) (by rw [← HNL.out]; omega) (by omega)).take (n := m) (cap' := c - 27) (by have := HNL.out; simp; omega) (fun q => by cases q))
         have e : (b.drop 27).take m = dataP b := by unfold dataP; rw [← HNL.out, Nat.add_sub_cancel]
         rwa [e] at h1)
       have HML := kp (show (dataP b).length = m from by rw [data_len, ← HNL.out]; omega)
       have HLT4 := kp (show g4 < w90.heap.size from H.out.lt 0 rfl)
       have HLT2 := kp (show g2 < w90.heap.size from H.out.lt 1 rfl)
       have HSZ := kp H.out.1.size
       have HZZ := kp (show ∀ zz, zz = g4 ∨ zz = g2 → zz < w90.heap.size from fun zz hz => hz.elim (fun e => e ▸ HLT4.out) (fun e => e ▸ HLT2.out))
       refine region_free H (tabS [(92, fun vQ _ => vQ = .pointer (some ⟨g4, 18, none⟩)), (93, fun vQ _ => vQ = .slice none 0 0), (94, fun vQ _ => vQ = .slice (some ⟨gb, ob, none⟩) (m + 43) c), (95, fun vQ _ => vQ = .int .i64 m), (96, fun vQ _ => vQ = .int .i64 (27 + m)), (97, fun vQ _ => vQ = .slice (some ⟨gb, ob + 27, none⟩) (27 + m - 27) (c - 27)), (98, fun vQ wQ => OwnB w90.heap.size (dataP b) vQ wQ)]) [] (tabS_out _ _ (by simp only [List.forall_mem_cons, mono_eqO, true_and]; exact ⟨(mono_nil (mono_OwnB _ HLT4)), by simp⟩)) 7 (by kernel_rfl) (by kernel_rfl) (by kernel_rfl) (by kernel_rfl) [] [] rfl rfl (by decide) (by decide) (by decide) trivial ?_
       simp only [List.take_succ_cons, List.take_zero]
       refine ⟨fun w_ o_ S_ => ?_, fun v92 => ?_⟩
       ·clear S_
        clear o_
        go_wp2_with fail
        exact kso
       simp only [pA]
       refine ⟨fun w_ o_ S_ => ?_, fun v93 => ?_⟩
       ·obtain rfl : v92 = .pointer (some ⟨g4, 18, none⟩) := hsR S_ 92 rfl
        clear S_
        have H := kp (kK [0, 1] H o_)
        have HOX := kp o_
        clear o_
        go_wp2_with ((with_reducible refine isLd 33 ?_); (refine L_f1 H rfl 33 _ rfl 0 rfl _ rfl _ rfl _ rfl Try.underlying33 rfl ?_); simp only [pA])
        exact kso
       simp only [pA]
       refine ⟨fun w_ o_ S_ => ?_, fun v94 => ?_⟩
       ·clear S_
        clear o_
        go_wp2_with fail
        exact kso
       simp only [pA]
       refine ⟨fun w_ o_ S_ => ?_, fun v95 => ?_⟩
       ·clear S_
        clear o_
        go_wp2_with fail
        exact kso
       simp only [pA]
       refine ⟨fun w_ o_ S_ => ?_, fun v96 => ?_⟩
       ·obtain rfl : v95 = .int .i64 m := hsR S_ 95 rfl
        clear S_ o_
        go_wp2_with fail
        exact kso
       simp only [pA]
       refine ⟨fun w_ o_ S_ => ?_, fun v97 => ?_⟩
       ·obtain rfl : v94 = .slice (some ⟨gb, ob, none⟩) (m + 43) c := hsR S_ 94 rfl
        obtain rfl : v96 = .int .i64 (27 + m) := hsR S_ 96 rfl
        clear S_ o_
        go_wp2_with fail
        exact kso
       simp only [pA]
       refine ⟨fun w_ o_ S_ => ?_, fun v98 => ?_⟩
       ·obtain rfl : v93 = .slice none 0 0 := hsR S_ 93 rfl
        obtain rfl : v97 = .slice (some ⟨gb, ob + 27, none⟩) (27 + m - 27) (c - 27) := hsR S_ 97 rfl
        clear S_
        have H := kp (kK [0, 1] H o_)
        have HOX := kp o_
        clear o_
        go_wp2_with (at_builtin; go_loud (refine L_appB H rfl _ _ rfl w90.heap.size HSZ.out HOX.out.size (fun zz hz => HZZ.out zz (by simpa using (show zz ∈ [g4, g2] from hz))) _ [] rfl (show _ from ⟨by simp, .inl ⟨rfl, rfl⟩⟩) _ _ rfl (HDT.out.ext (out_ext HOX.out)) (by rw [HML.out]; simp; omega) ?_); clear H; intro v2 w2 HO2 HG2 H; simp only [pA])
        exact ⟨rfl, _, rfl, fun d hd => by cases hd; exact (show OwnB _ _ _ _ from (by have := HO2.out; simpa [OwnB] using this)), ((Ext.refl _).grown HG2.out (fun k e => by cases e))⟩
       simp only [pA]
       clear H
       intro w98 HOX H hfin
       obtain rfl : v92 = .pointer (some ⟨g4, 18, none⟩) := hfin 92 (by decide)
       obtain rfl : v93 = .slice none 0 0 := hfin 93 (by decide)
       obtain rfl : v94 = .slice (some ⟨gb, ob, none⟩) (m + 43) c := hfin 94 (by decide)
       obtain rfl : v95 = .int .i64 m := hfin 95 (by decide)
       obtain rfl : v96 = .int .i64 (27 + m) := hfin 96 (by decide)
       obtain rfl : v97 = .slice (some ⟨gb, ob + 27, none⟩) (27 + m - 27) (c - 27) := hfin 97 (by decide)
       have F98 := kp (show OwnB w90.heap.size (dataP b) v98 w98 from hfin 98 (by decide))
       clear hfin
       simp only [List.drop_succ_cons, List.drop_zero]
       simp only [applyS] at H
       have HXN := kp (HOX.out.ext (Ext.refl w90) (fun g hg => by cases hg))
       have HO8 := kp (show OwnB w90.heap.size (dataP b) v98 w98 from F98.out)
       obtain ⟨av, nv, cv, rfl⟩ := owns_form2 HO8.out
       have HC8 := kp (CapOk.of_owns HO8.out)
       have HLT8 := kp (show g4 < w90.heap.size from HLT4.out)
       clear F98
       go_wp2_with ((with_reducible refine isSt 33 ?_); (refine L_s1 H rfl rfl 33 _ _ rfl 0 rfl _ rfl _ rfl _ rfl rfl rfl rfl (by kernel_rfl) (partsM (wI x0) (countP b) (nonceP b) av nv cv) rfl ?_; clear H; intro w99 HWw99 H; simp only [szA] at H))
       have HO9 := kp (owns_wrote HO8.out HWw99.out HLT8.out)
       clear HO8
       by_cases hb3 : wI x0 = 4 ∧ nonceP b ≠ zv 16
       ·have HK := kp (parseE_12 H43.out (.inr (.inr (.inl ⟨HK.out.trans hb3.1, hb3.2⟩))))
        have k4 : (wI x0 == 4) = true := by simp [hb3.1]
        have HZF := kp (decide_eq_false hb3.2)
        clear hb3
        subst h18
        go_wp2_with (first | ((with_reducible refine isLd 5 ?_); (refine L_f1 H rfl 5 _ rfl 0 rfl _ rfl _ rfl _ rfl Try.underlying5 rfl ?_); simp only [pA]) | ((with_reducible refine isLd 26 ?_); (refine L_fv H rfl 26 _ rfl 0 rfl _ rfl _ rfl rfl Try.underlying26 rfl (by kernel_rfl) ?_); simp only [pA]) | ((with_reducible show wpList _ _ _ (Oper.mk _ (Op.build 26 _) _ _ _ _ :: _) _ _); (refine L_bd rfl 26 _ rfl #[] (by kernel_rfl) ((zv 16).1.map V8) (fun _ => by kernel_rfl) ?_); simp only [pA]) | (((with_reducible show wpList _ _ _ (Oper.mk _ (Op.binOp _ 26 _ _ _) _ _ _ _ :: _) _ _); (refine wpList_ne2 rfl 26 _ _ _ rfl _ _ _ rfl rfl Try.eqGuardType26 (eqV_in _ Try.underlying26 _ _ 9998) ?_); simp only [pA]); rw [HZF.out]) | ((with_reducible show wpList _ _ _ (Oper.mk _ (Op.build 89 _) _ _ _ _ :: _) _ _); (refine L_bd rfl 89 _ rfl #[] (by kernel_rfl) (cat (partsM 0 0 (zv 16) none 0 0)) (fun _ => by kernel_rfl) ?_); simp only [pA]) | ((with_reducible refine isSt 89 ?_); refine L_sa H rfl rfl 89 _ _ rfl 1 rfl rfl (partsM 0 0 (zv 16) none 0 0) rfl rfl (by kernel_rfl) ?_; clear H; intro wz HWwz H; simp only [ssA, szA] at H))
        all_goals (exact ret_f2 H Try.results35 1 rfl rfl _ rfl Try.underlying89 rfl (by kernel_rfl) rfl (prR_err HK.out (by decide) H.out.1))
       ·have HNB3 := kp (show ¬ (kindP b = 4 ∧ nonceP b ≠ zv 16) from by rw [HK.out]; exact hb3)
        have HB3 := kp hb3
        clear hb3
        refine wp_cut (100 :: 101 :: 102 :: 103 :: 104 :: 105 :: 106 :: 107 :: 108 :: []) (RfC w w99 [(g4, 89, cat (partsM (wI x0) (countP b) (nonceP b) av nv cv)), (g2, 89, cat (partsM 0 0 (zv 16) none 0 0))]) ?_ ?_
        ·subst h18
         cases hz : decide (nonceP b = zv 16)
         ·have HZF := kp hz
          have k4 : (wI x0 == 4) = false := beq_eq_false_iff_ne.2 fun e => HB3.out ⟨e, of_decide_eq_false hz⟩
          clear hz
          go_wp2_with ((with_reducible refine isLd 5 ?_); (refine L_f1 H rfl 5 _ rfl 0 rfl _ rfl _ rfl _ rfl Try.underlying5 rfl ?_); simp only [pA])
          exact CutP.of rfl (by kernel_rfl) ⟨H, rfl⟩
         ·have HZF := kp hz
          clear hz
          cases k4 : (wI x0 == 4)
          ·go_wp2_with ((with_reducible refine isLd 5 ?_); (refine L_f1 H rfl 5 _ rfl 0 rfl _ rfl _ rfl _ rfl Try.underlying5 rfl ?_); simp only [pA])
           exact CutP.of rfl (by kernel_rfl) ⟨H, rfl⟩
          ·go_wp2_with (first | ((with_reducible refine isLd 5 ?_); (refine L_f1 H rfl 5 _ rfl 0 rfl _ rfl _ rfl _ rfl Try.underlying5 rfl ?_); simp only [pA]) | ((with_reducible refine isLd 26 ?_); (refine L_fv H rfl 26 _ rfl 0 rfl _ rfl _ rfl rfl Try.underlying26 rfl (by kernel_rfl) ?_); simp only [pA]) | ((with_reducible show wpList _ _ _ (Oper.mk _ (Op.build 26 _) _ _ _ _ :: _) _ _); (refine L_bd rfl 26 _ rfl #[] (by kernel_rfl) ((zv 16).1.map V8) (fun _ => by kernel_rfl) ?_); simp only [pA]) | (((with_reducible show wpList _ _ _ (Oper.mk _ (Op.binOp _ 26 _ _ _) _ _ _ _ :: _) _ _); (refine wpList_ne2 rfl 26 _ _ _ rfl _ _ _ rfl rfl Try.eqGuardType26 (eqV_in _ Try.underlying26 _ _ 9998) ?_); simp only [pA]); rw [HZF.out]))
           exact CutP.of rfl (by kernel_rfl) ⟨H, rfl⟩
        clear H HB3
        rintro vs18 w18 ⟨H, rfl⟩
        simp only [putMany, List.setIfInBounds_toArray, List.set_cons_zero, List.set_cons_succ]
        go_wp2_with fail
        cases k1 : (wI x0 == 1)
        ·have HNB4 := kp (show ¬ (kindP b = 1 ∧ b.drop (b.length - 16) ≠ (zv 16).1) from fun q => by rw [HK.out] at q; exact absurd q.1 (by simpa using k1))
         subst h20
         go_wp2_with fail
         refine wp_loop_once ?_
         have HK0 := kp (parseE_0 H43.out HNB1.out HNB2.out HNB3.out HNB4.out)
         go_wp2_with (first | ((with_reducible refine isLd 5 ?_); (refine L_f1 H rfl 5 _ rfl 0 rfl _ rfl _ rfl _ rfl Try.underlying5 rfl ?_); simp only [pA]) | ((with_reducible refine isLd 89 ?_); refine L_fa H rfl 89 _ rfl 0 rfl rfl Try.underlying89 rfl (by kernel_rfl) ?_; simp only [pA]) | ((with_reducible refine isSt 89 ?_); refine L_sa H rfl rfl 89 _ _ rfl 1 rfl rfl (partsM (wI x0) (countP b) (nonceP b) av nv cv) rfl rfl (by kernel_rfl) ?_; clear H; intro wz HWwz H; simp only [ssA, szA] at H))
         all_goals try (exfalso; omega)
         have HOZ := kp (owns_wrote HO9.out HWwz.out HLT2.out)
         (exact ret_f2 H Try.results35 1 rfl rfl _ rfl Try.underlying89 rfl (by kernel_rfl) rfl (⟨_, _, _, _, _, _, by rw [HK0.out]; rfl, H.out.1, fun _ => ⟨HK.out.symm, rfl, rfl, SlB.of_owns HOZ.out, HC8.out⟩⟩))
        ·have hk1 : wI x0 = 1 := by simpa using k1
         obtain rfl : m = 0 := HM.out.2 (by omega)
         have HK1 := kp hk1
         have HBL := kp (show b.length = 43 from by have := HNL.out; omega)
         clear hk1 HM
         subst h20
         go_wp2_with fail
         have HL := kp H.out.1
         go_loopw [8] (RfL b w18) (fun i _ => 43 - (intOf i).toNat)
         case atStart => exact ⟨27, by omega, by omega, rfl, kp (fun j h1 h2 => by omega), rfl⟩
         case round =>
          obtain ⟨k, hk0, hk, rfl, HZ, rfl⟩ := hrel
          by_cases hlt : k < 43
          ·obtain ⟨x, hx⟩ : ∃ x, b[k]? = some x := ⟨_, List.getElem?_eq_getElem (by rw [HBL.out]; omega)⟩
           have hc : w18.cell? ⟨gb, ob + k, none⟩ = some (.int .u8 (wI x)) := HBY.out _ HL.out _ _ hx
           have HXK := kp hx
           clear hx
           by_cases hx0 : x = 0#8
           ·have hxb : (wI x != 0) = false := by rw [hx0]; rfl
            have HZ2 := kp (show ∀ j, 27 ≤ j → j < k + 1 → b[j]? = some 0#8 from fun j h1 h2 => by
             by_cases e : j = k
             ·rw [e, HXK.out, hx0]
             ·exact HZ.out j h1 (by omega))
            clear hx0
            go_wp2_with ((with_reducible refine isLd 5 ?_); (refine L_f1 H rfl 5 _ rfl 0 rfl _ rfl _ rfl _ rfl Try.underlying5 rfl ?_); simp only [pA])
            all_goals try (exfalso; omega)
            go_roundw
            case rel => exact ⟨k + 1, by omega, by omega, by go_num, HZ2, rfl⟩
            case measure => simp [intOf]; omega
           ·have hxb : (wI x != 0) = true := by rw [wI_ne0 x]; simpa using hx0
            have HK := kp (parseE_12 H43.out (.inr (.inr (.inr ⟨HK.out.trans HK1.out, fun e => by
             have h1 := congrArg (fun l : By => l[k - 27]?) e
             rw [List.getElem?_drop, HBL.out, show 43 - 16 + (k - 27) = k by omega, HXK.out] at h1
             have h2 : (zv 16).1[k - 27]? = some 0#8 := by show (List.replicate 16 0#8)[k - 27]? = _; rw [List.getElem?_replicate, if_pos (by omega)]
             rw [h2] at h1
             exact hx0 (Option.some.inj h1)⟩))))
            clear hx0
            go_wp2_with (first | ((with_reducible refine isLd 5 ?_); (refine L_f1 H rfl 5 _ rfl 0 rfl _ rfl _ rfl _ rfl Try.underlying5 rfl ?_); simp only [pA]) | ((with_reducible show wpList _ _ _ (Oper.mk _ (Op.build 89 _) _ _ _ _ :: _) _ _); (refine L_bd rfl 89 _ rfl #[] (by kernel_rfl) (cat (partsM 0 0 (zv 16) none 0 0)) (fun _ => by kernel_rfl) ?_); simp only [pA]) | ((with_reducible refine isSt 89 ?_); refine L_sa H rfl rfl 89 _ _ rfl 1 rfl rfl (partsM 0 0 (zv 16) none 0 0) rfl rfl (by kernel_rfl) ?_; clear H; intro wz HWwz H; simp only [ssA, szA] at H))
            all_goals try (exfalso; omega)
            all_goals (exact ret_f2 H Try.results35 1 rfl rfl _ rfl Try.underlying89 rfl (by kernel_rfl) rfl (prR_err HK.out (by decide) H.out.1))
          ·obtain rfl : k = 43 := by omega
           have HNB4 := kp (show ¬ (kindP b = 1 ∧ b.drop (b.length - 16) ≠ (zv 16).1) from fun q => q.2 (by
            rw [HBL.out]
            refine List.ext_getElem? fun i => ?_
            rw [List.getElem?_drop]
            show b[43 - 16 + i]? = (List.replicate 16 0#8)[i]?
            rw [List.getElem?_replicate]
            by_cases h : i < 16
            ·rw [if_pos h, HZ.out _ (by omega) (by omega)]
            ·rw [if_neg h, List.getElem?_eq_none (by rw [HBL.out]; omega)]))
           have HK0 := kp (parseE_0 H43.out HNB1.out HNB2.out HNB3.out HNB4.out)
           go_wp2_with (first | ((with_reducible refine isLd 5 ?_); (refine L_f1 H rfl 5 _ rfl 0 rfl _ rfl _ rfl _ rfl Try.underlying5 rfl ?_); simp only [pA]) | ((with_reducible refine isLd 89 ?_); refine L_fa H rfl 89 _ rfl 0 rfl rfl Try.underlying89 rfl (by kernel_rfl) ?_; simp only [pA]) | ((with_reducible refine isSt 89 ?_); refine L_sa H rfl rfl 89 _ _ rfl 1 rfl rfl (partsM (wI x0) (countP b) (nonceP b) av nv cv) rfl rfl (by kernel_rfl) ?_; clear H; intro wz HWwz H; simp only [ssA, szA] at H))
           all_goals try (exfalso; omega)
           have HOZ := kp (owns_wrote HO9.out HWwz.out HLT2.out)
           (exact ret_f2 H Try.results35 1 rfl rfl _ rfl Try.underlying89 rfl (by kernel_rfl) rfl (⟨_, _, _, _, _, _, by rw [HK0.out]; rfl, H.out.1, fun _ => ⟨HK.out.symm, rfl, rfl, SlB.of_owns HOZ.out, HC8.out⟩⟩))
set_option maxRecDepth 4000 in
set_option maxHeartbeats 1600000 in
theorem rcoded_any (gb ob n c : Nat) (b : By) (h43 : 43 ≤ b.length) (hb : b.length ≤ 100000) (k : Vc 16) (w : World) (hs : SlB w (.slice (some ⟨gb, ob, none⟩) n c) b) (hcap : CapOk (.slice (some ⟨gb, ob, none⟩) n c)) :
  Calls Try.prog 56 #[.slice (some ⟨gb, ob, none⟩) n c, .agg (k.1.map V8).toArray] w fun e w' => e = .returned (.bool (codedF b k.1)) ∧ Ext w w' := by
 have H := kp (Loc.start w)
 have hnl := hs.len
 have hnc : n ≤ c := hcap _ _ _ rfl
 obtain ⟨m, rfl⟩ : ∃ m, n = m + 16 := ⟨n - 16, by omega⟩
 have HNL := kp hnl
 have HS := kp hs
 have HM := kp (fun v w hs => rmac_any k.1 (b.take m) k.2 (by rw [List.length_take]; omega) v w hs)
 have HML := kp (macF_len k.1 (b.take m))
 have HCD := kp (show codedF b k.1 = (b.drop m == macF k.1 (b.take m)) from by unfold codedF; rw [show b.length - 16 = m by omega])
 have HA := kp (show ∀ W, Ext w W → ∀ q, SlB W (.slice (some ⟨gb, ob, none⟩) m q) (b.take m) from fun W hx q => (hs.ext hx).take (by omega) (fun e => by cases e))
 have HB := kp (show ∀ W, Ext w W → ∀ q, SlB W (.slice (some ⟨gb, ob + m, none⟩) 16 q) (b.drop m) from fun W hx q => (hs.ext hx).from m 16 q (by omega) (by decide))
 have HLD := kp (show (b.drop m).length = 16 from by rw [List.length_drop]; omega)
 have hw : wrap64 (m : Int) = m := by unfold wrap64; omega
 clear hnl hs hcap h43 hb
 go_enter Try.func56, Try.ntmps56
 generalize h1 : (Code.region 1 _ _ : Code) = R1
 generalize h2 : (Code.region 2 _ _ : Code) = R2
 go_wp2_with ((with_reducible refine isBx 3 25 ?_); (refine L_box H rfl 25 _ rfl (cat ([Lf.v k])) rfl ?_); clear H; intro g3 w3 HGg3 HEg3 H; simp only [pA])
 have HX3 := kp H.out.1
 have he : ((m + 16 : Nat) : Int) - 16 = (m : Int) := by omega
 subst h1
 refine region_za H 8 7 5 115 (cat [Lf.v (zv 16)]) (by kernel_rfl) (by kernel_rfl) (by kernel_rfl) (by kernel_rfl) (by intro o ho; cases ho; exact ⟨rfl, rfl, by simp, fun _ _ => by kernel_rfl⟩) (by decide) ?_
 apply Exists.intro
 refine ⟨fun xz2 => ?_, fun g5 wz2 HG5 HXZ H => ?_⟩
 ·simp only [List.take_succ_cons, List.take_zero, List.eraseIdx_cons_succ, List.eraseIdx_cons_zero]
  unfold Cx
  repeat (first | ((with_reducible show wpQuiet _ _ _ _ (Oper.mk _ (Op.load 25 _) _ _ _ _ :: _) _); go_big_quiet_want; (refine qz_v H 25 _ rfl 0 rfl _ rfl _ rfl rfl Try.underlying25 rfl (by kernel_rfl) ?_); simp only [pA]; go_big_quiet_on) | go_big_quiet_step ((go_at_call 62; exact Calls.cx_of (HM.out _ _ (HA.out _ (HX3.out.trans (Ext.more _ _)) _)))))
  exact wpQuiet_nil rfl
 simp only [List.drop_succ_cons, List.drop_zero, Act.put, List.setIfInBounds_toArray, List.set_cons_zero, List.set_cons_succ]
 go_wp2_with ((with_reducible refine isSt 115 ?_); (refine L_sv H rfl rfl 115 _ _ rfl 0 rfl _ rfl _ rfl (Lf.v ⟨_, HML.out⟩) rfl rfl rfl (by kernel_rfl) (_) rfl ?_; clear H; intro w7 HWw7 H; simp only [szA] at H))
 have HX7 := kp H.out.1
 have HBK := kp (SlB_part H.out 0 rfl 0 0 rfl rfl 16)
 subst h2
 refine region_z H 8 (by kernel_rfl) (by kernel_rfl) (by kernel_rfl) (by kernel_rfl) (by decide) (Nat.le_of_ble_eq_true (by kernel_rfl)) ?_
 apply Exists.intro
 refine ⟨fun xz3 => ?_, fun wz3 HXZ H => ?_⟩
 ·simp only [List.take_succ_cons, List.take_zero]
  unfold Cx
  repeat (go_big_quiet_step ((go_at_call 19; exact Calls.cx_of (same22_any (HB.out _ (HX7.out.trans (Ext.more _ _)) _) (HBK.out.ext (Ext.more _ _)) (by rw [HLD.out]; decide)))))
  exact wpQuiet_nil rfl
 simp only [List.drop_succ_cons, List.drop_zero]
 go_wp2_with fail
 go_ret
 exact ⟨by rw [HCD.out]; rfl, H.out.1⟩
end Go.Proofs.Ytibncchobkaaiaa
