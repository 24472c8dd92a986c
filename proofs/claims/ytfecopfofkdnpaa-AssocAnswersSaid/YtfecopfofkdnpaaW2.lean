/- Texts of this proof, put together: Crc, Do, OpS, Gr30, FreeE, Aid1, Val5, Used5, Val5b, Alw, All1. -/
import Derived.Test.YtfecopfofkdnpaaW1
import Derived.Test.YtfecopfofkdnpaaS1
import Derived.Test.YtfecopfofkdnpaaS2
import Derived.Test.YtfecopfofkdnpaaS3
import Derived.Test.YtfecopfofkdnpaaS4
import Derived.Test.YtfecopfofkdnpaaS5
import Derived.Test.YtfecopfofkdnpaaS6
import Derived.Test.YtfecopfofkdnpaaS7
import Derived.Test.YtfecopfofkdnpaaS8
import Derived.Test.YtfecopfofkdnpaaS9
import Derived.Test.YtfecopfofkdnpaaS10
import Derived.Test.YtfecopfofkdnpaaS11
import Derived.Test.YtfecopfofkdnpaaS12
import Derived.Test.YtfecopfofkdnpaaS13
import Derived.Test.YtfecopfofkdnpaaS14
import Derived.Test.YtfecopfofkdnpaaS15
import Derived.Test.YtfecopfofkdnpaaS16
import Derived.Test.YtfecopfofkdnpaaS17
import Derived.Test.YtfecopfofkdnpaaS18
import Derived.Test.YtfecopfofkdnpaaS19
import Derived.Test.YtfecopfofkdnpaaS20
import Derived.Test.YtfecopfofkdnpaaS21
import Derived.Test.YtfecopfofkdnpaaS22
import Derived.Test.YtfecopfofkdnpaaS23
import Derived.Test.YtfecopfofkdnpaaS24
import Derived.Test.YtfecopfofkdnpaaS25
import Derived.Test.YtfecopfofkdnpaaS26
import Derived.Test.YtfecopfofkdnpaaS27
import Derived.Test.YtfecopfofkdnpaaS28
import Derived.Test.YtfecopfofkdnpaaS29
import Derived.Test.YtfecopfofkdnpaaS30
namespace Go.Proofs.Ytfecopfofkdnpaa
open Go.RowKit
def powS (i : Nat) : Int := 2147483648 / 2 ^ i
theorem pow_gt : ∀ i, i < 24 → decide ((128 : Int) < powS i) = true := by decide
theorem pow_half : ∀ i, i < 24 → powS i / 2 = powS (i + 1) := by decide
def ShR (w : World) (vs : Tmp → Value) (wr : World) : Prop := ∃ i : Nat, i ≤ 24 ∧ vs 3 = .int .i64 i ∧ vs 4 = .int .u32 (powS i) ∧ Kp (Loc w wr [])
set_option maxHeartbeats 1600000 in
theorem shiftOf_any (w : World) : Calls Try.prog 129 #[.int .u32 2147483648] w fun e w' => e = .returned (.int .i64 24) ∧ Ext w w' := by
 have H := kp (Loc.start w)
 go_enter Try.func129, Try.ntmps129
 go_wp2_with fail
 refine wp_loopM [(false, 3), (true, 2), (false, 1), (true, 6), (false, 1)] (ShR w) (fun vs _ => 24 - (intOf (vs 3)).toNat) (by kernel_rfl) ⟨0, by decide, rfl, rfl, H⟩ ?_
 clear H
 rintro vs wr ⟨i, hi, q3, q4, H⟩
 simp only [mixF_t, mixF_f, mixF_t0, mixF_f0, mixF_e, Nat.reduceAdd]
 rw [q3, q4]
 clear q3 q4
 by_cases hlt : i < 24
 ·have h1 : decide ((128 : Int) < powS i) = true := pow_gt i hlt
  have HP := kp (pow_half i hlt)
  go_wp2_with fail
  exact LoopQ.of rfl (by kernel_rfl) rfl ⟨i + 1, by omega, by simp, congrArg (Value.int .u32) HP.out, H⟩ (by simp [intOf]; omega)
 ·obtain rfl : i = 24 := by omega
  have h1 : decide ((128 : Int) < powS 24) = false := by decide
  go_wp2_with fail
  go_ret
  exact ⟨rfl, H.out.1⟩
theorem final_any (n : Int) (w : World) : Calls Try.prog 114 #[.int .u32 n] w fun e w' => (∃ m, e = .returned (.int .u32 m)) ∧ Ext w w' := by
 have H := kp (Loc.start w)
 go_enter Try.func114, Try.ntmps114
 go_wp2_with fail
 go_ret
 exact ⟨⟨_, rfl⟩, H.out.1⟩
def TaI (w0 : World) (vs : Tmp → Value) (wr : World) : Prop := ∃ (j : Nat) (n : Int), j ≤ 8 ∧ vs 16 = .int .i64 j ∧ vs 6 = .int .u32 n ∧ wr = w0
def TaO (w : World) (g4 : Nat) (vs : Tmp → Value) (wr : World) : Prop := ∃ (i : Nat) (l : List Int), i ≤ 256 ∧ vs 8 = .int .i64 i ∧ Kp (l.length = 256) ∧ Kp (Loc w wr [(g4, 202, l.map (Value.int .u32))])
def TabR (w : World) (e : Ending) (w' : World) : Prop := ∃ l : List Int, l.length = 256 ∧ e = .returned (.agg (l.map (Value.int .u32)).toArray) ∧ Ext w w'
theorem size_tab (l : List Int) (h : l.length = 256) : (Try.prog.info? 202).map (·.size) = some (l.map (Value.int .u32)).toArray.size := by rw [List.size_toArray, List.length_map, h]; kernel_rfl
theorem one_tab (l : List Int) : (l.map (Value.int .u32)).toArray.all (·.oneCell') = true := by simp [Value.oneCell', List.all_map, Function.comp_def]
set_option maxRecDepth 4000 in
set_option maxHeartbeats 1600000 in
theorem table_any (w : World) : Calls Try.prog 124 #[.int .u32 136331795, .int .u32 2147483648] w (TabR w) := by
 have H := kp (Loc.start w)
 go_enter Try.func124, Try.ntmps124
 generalize hr1 : (Code.region 1 _ _ : Code) = R1
 go_wp2_with (first | ((with_reducible refine isAl 4 202 ?_); (with_reducible refine L_alloc H rfl 202 rfl (List.replicate 256 (.int .u32 0)) (fun _ _ => by kernel_rfl) ?_); clear H; intro g4 w4 HGg4 HEg4 H; refine unput (d := some _) ?_))
 subst hr1
 go_wp2_with fail
 refine wp_loopM [(false, 5), (true, 28), (false, 1)] (TaO w g4) (fun vs _ => 256 - (intOf (vs 8)).toNat) (by kernel_rfl) ⟨0, List.replicate 256 0, by decide, rfl, kp (List.length_replicate ..), kp (by rw [List.map_replicate]; exact H.out)⟩ ?_
 clear H
 rintro vs wr ⟨i, l, hi, q8, HL, H⟩
 simp only [mixF_t, mixF_f, mixF_t0, mixF_f0, mixF_e, Nat.reduceAdd]
 rw [q8]
 clear q8
 generalize hr5 : (Code.region 5 _ _ : Code) = R5
 by_cases hlt : i < 256
 ·go_wp2_with (first | (go_at_call 129; refine (shiftOf_any _).mono ?_; rintro e ws ⟨rfl, hx⟩; replace H := kp (H.out.ext hx); have HXC := kp hx; clear hx))
  subst hr5
  go_wp2_with fail
  refine wp_loopM [(false, 6), (true, 2), (false, 8), (true, 13), (false, 5)] (TaI ws) (fun vs _ => 8 - (intOf (vs 16)).toNat) (by kernel_rfl) ⟨0, _, by decide, rfl, rfl, rfl⟩ ?_
  rintro vs2 wq ⟨j, n, hj, q16, q6, rfl⟩
  simp only [mixF_t, mixF_f, mixF_t0, mixF_f0, mixF_e, Nat.reduceAdd]
  rw [q16, q6]
  clear q16 q6
  by_cases hlt2 : j < 8
  ·go_wp2_with fail
   all_goals exact LoopQ.of rfl (by kernel_rfl) rfl ⟨j + 1, _, by omega, by simp, rfl, rfl⟩ (by simp [intOf]; omega)
  ·have hd1 : decide (256 ≤ i) = false := decide_eq_false (by omega)
   have hd2 : decide ((256 : Int) ≤ (i : Int)) = false := decide_eq_false (by omega)
   have HIL := kp (show i < (l.map (Value.int .u32)).length by rw [List.length_map, HL.out]; exact hlt)
   have HNW := kp (show (l.map (Value.int .u32)).set i (.int .u32 n) = (l.set i n).map (Value.int .u32) by rw [List.map_set])
   have HLS := kp (show (l.set i n).length = 256 by rw [List.length_set]; exact HL.out)
   go_wp2_with (first | ((with_reducible refine isSt 166 ?_); refine L_cell H rfl rfl 166 _ _ rfl 0 rfl i rfl (.int .u32 n) rfl rfl (by kernel_rfl) HIL.out _ HNW.out ?_; clear H; intro wh HWwh H; simp only [szA] at H))
   exact LoopQ.of rfl (by kernel_rfl) rfl ⟨i + 1, _, by omega, by simp, HLS, H⟩ (by simp [intOf]; omega)
 ·have HZ := kp (size_tab l HL.out)
  have HO := kp (one_tab l)
  go_wp2_with (first | ((with_reducible refine isLd 202 ?_); (first | (refine L_load H rfl 202 _ rfl 0 rfl rfl Try.underlying202 rfl (HZ.out) ?_) | (refine L_load H rfl 202 _ rfl 1 rfl rfl Try.underlying202 rfl (HZ.out) ?_) | (refine L_load H rfl 202 _ rfl 2 rfl rfl Try.underlying202 rfl (HZ.out) ?_) | (refine L_load H rfl 202 _ rfl 3 rfl rfl Try.underlying202 rfl (HZ.out) ?_) | (refine L_load H rfl 202 _ rfl 4 rfl rfl Try.underlying202 rfl (HZ.out) ?_) | (refine L_load H rfl 202 _ rfl 5 rfl rfl Try.underlying202 rfl (HZ.out) ?_)); refine unput (d := some _) ?_) | ((with_reducible refine isSt 202 ?_); (first | (refine L_store H rfl rfl 202 _ _ rfl 0 rfl rfl (l.map (Value.int .u32)) rfl (HZ.out) (rfl) (HO.out) ?_; clear H; intro w5 HWw5 H; simp only [szA] at H) | (refine L_store H rfl rfl 202 _ _ rfl 1 rfl rfl (l.map (Value.int .u32)) rfl (HZ.out) (rfl) (HO.out) ?_; clear H; intro w5 HWw5 H; simp only [ssA, szA] at H) | (refine L_store H rfl rfl 202 _ _ rfl 2 rfl rfl (l.map (Value.int .u32)) rfl (HZ.out) (rfl) (HO.out) ?_; clear H; intro w5 HWw5 H; simp only [ssA, szA] at H) | (refine L_store H rfl rfl 202 _ _ rfl 3 rfl rfl (l.map (Value.int .u32)) rfl (HZ.out) (rfl) (HO.out) ?_; clear H; intro w5 HWw5 H; simp only [ssA, szA] at H) | (refine L_store H rfl rfl 202 _ _ rfl 4 rfl rfl (l.map (Value.int .u32)) rfl (HZ.out) (rfl) (HO.out) ?_; clear H; intro w5 HWw5 H; simp only [ssA, szA] at H) | (refine L_store H rfl rfl 202 _ _ rfl 5 rfl rfl (l.map (Value.int .u32)) rfl (HZ.out) (rfl) (HO.out) ?_; clear H; intro w5 HWw5 H; simp only [ssA, szA] at H))))
  exact ret_row Try.results124 g4 202 (l.map (Value.int .u32)).toArray (0, 0) _ rfl (H.out.at 0 rfl) Try.underlying202 rfl HZ.out rfl ⟨l, HL.out, rfl, H.out.1⟩
theorem slb_at {w : World} {ad : Option Addr} {n c : Nat} {l : By} (h : SlB w (.slice ad n c) l) : n = l.length ∧ ∀ (j : Nat) x, l[j]? = some x → ∃ b off, ad = some ⟨b, off, none⟩ ∧ b < w.heap.size ∧ w.cell? ⟨b, off + j, none⟩ = some (V8 x) := by
 rcases h with ⟨rfl, h | ⟨a, cap, h⟩⟩ | ⟨b, off, cap, h, hb, hc⟩
 ·cases h; exact ⟨rfl, fun j x hx => by simp at hx⟩
 ·cases h; exact ⟨rfl, fun j x hx => by simp at hx⟩
 ·cases h; exact ⟨rfl, fun j x hx => ⟨b, off, rfl, hb, hc j x hx⟩⟩
theorem L_x8 {ops : Array Oper} {rest : List Oper} {o : Oper} {a : Act} {w : World} {Q : Exit → Act → World → Prop} (hgd : Region.wanted o (yielded ops a.tmps) = true) (x y : Operand) (ho : o.op = .binOp .xor 5 x y 5) (n m : Int)
  (hx : a.eval x = .int .u8 n) (hy : a.eval y = .int .u8 m) (hn : 0 ≤ n ∧ n < 256) (hm : 0 ≤ m ∧ m < 256) (h : ∀ i : Nat, i < 256 → wpList Try.prog ops Q rest (a.put o.dst (.int .u8 (i : Int))) w) : wpList Try.prog ops Q (o :: rest) a w := by
 have e1 : n = wI (BitVec.ofInt 8 n) := by unfold wI; rw [BitVec.toNat_ofInt]; omega
 have e2 : m = wI (BitVec.ofInt 8 m) := by unfold wI; rw [BitVec.toNat_ofInt]; omega
 have e3 : bits .xor .u8 n m = ((BitVec.ofInt 8 n ^^^ BitVec.ofInt 8 m).toNat : Int) := by
  conv => lhs; rw [e1, e2]
  rw [wI_xor8]; rfl
 have hr : (binOp .xor 5 (.int .u8 n) (.int .u8 m)).run Try.prog w = .ok (.int .u8 (bits .xor .u8 n m)) w := by simp [go_sem]
 rw [e3] at hr
 exact wpList_bin hgd .xor 5 5 x y ho _ _ _ hx hy rfl hr (h _ (BitVec.isLt _))
theorem slb_ints {w : World} {g T : Nat} (xs : List Int) (h : Lc w g T (xs.map fun x => .int .u8 (x % 256))) : SlB w (.slice (some ⟨g, 0, none⟩) xs.length xs.length) (xs.map (BitVec.ofInt 8)) := by
 refine .inr ⟨g, 0, xs.length, by rw [List.length_map], h.lt, fun j x hx => ?_⟩
 rw [List.getElem?_map, Option.map_eq_some_iff] at hx
 obtain ⟨y, hy, rfl⟩ := hx
 rw [Nat.zero_add]
 refine h.cell ?_
 rw [List.getElem?_map, hy]
 show some (Value.int .u8 (y % 256)) = some (Value.int .u8 (wI (BitVec.ofInt 8 y)))
 unfold wI
 rw [BitVec.toNat_ofInt]
 congr 2
 omega
theorem wI8 (x : BitVec 8) : 0 ≤ wI x ∧ wI x < 256 := by unfold wI; have := x.isLt; omega
def ExR (l : By) (w0 : World) (vs : Tmp → Value) (wr : World) : Prop := ∃ (i : Nat) (s : Int), i ≤ l.length ∧ vs 11 = .int .i64 i ∧ vs 0 = .int .u32 s ∧ wr = w0
theorem tab_at {tb : List Int} (h : tb.length = 256) {q : Nat} (hq : q < 256) : (tb.map (Value.int .u32))[q]? = some (.int .u32 (tb[q]'(by omega))) := by
 rw [List.getElem?_map, List.getElem?_eq_getElem (by omega)]; rfl
set_option maxRecDepth 4000 in
set_option maxHeartbeats 1600000 in
theorem extend_any (s0 : Int) (v : Value) (l : By) (hl : l.length ≤ 100000) (w : World) (hs : SlB w v l) : Calls Try.prog 115 #[.int .u32 s0, v] w fun e w' => (∃ m, e = .returned (.int .u32 m)) ∧ Ext w w' := by
 obtain ⟨ad, c, rfl⟩ := hs.form
 obtain ⟨hnl, hat⟩ := slb_at hs
 have HAT := kp hat
 obtain ⟨n, hn⟩ : ∃ n, n = l.length := ⟨_, rfl⟩
 rw [← hn] at hl ⊢
 have HNL := kp hn
 have H := kp (Loc.start w)
 clear hat hnl hn hs
 go_enter Try.func115, Try.ntmps115
 generalize hr2 : (Code.region 2 _ _ : Code) = R2
 go_wp2_with (first | (go_at_call 124; refine (table_any _).mono ?_; rintro e wt ⟨tb, htl, rfl, hx⟩; have HTL := kp htl; have HZT := kp (size_tab tb htl); clear htl; replace H := kp (H.out.ext hx); have HXC := kp hx; clear hx) | ((with_reducible refine isAl 5 202 ?_); (with_reducible refine L_alloc H rfl 202 rfl (List.replicate 256 (.int .u32 0)) (fun _ _ => by kernel_rfl) ?_); clear H; intro g5 w5 HGg5 HEg5 H; refine unput (d := some _) ?_) | ((with_reducible refine isSt 202 ?_); (first | (refine L_store H rfl rfl 202 _ _ rfl 0 rfl rfl (tb.map (Value.int .u32)) rfl (HZT.out) ((by rw [List.length_map, HTL.out, List.length_replicate])) (one_tab tb) ?_; clear H; intro w5b HWw5b H; simp only [szA] at H) | (refine L_store H rfl rfl 202 _ _ rfl 1 rfl rfl (tb.map (Value.int .u32)) rfl (HZT.out) ((by rw [List.length_map, HTL.out, List.length_replicate])) (one_tab tb) ?_; clear H; intro w5b HWw5b H; simp only [ssA, szA] at H) | (refine L_store H rfl rfl 202 _ _ rfl 2 rfl rfl (tb.map (Value.int .u32)) rfl (HZT.out) ((by rw [List.length_map, HTL.out, List.length_replicate])) (one_tab tb) ?_; clear H; intro w5b HWw5b H; simp only [ssA, szA] at H) | (refine L_store H rfl rfl 202 _ _ rfl 3 rfl rfl (tb.map (Value.int .u32)) rfl (HZT.out) ((by rw [List.length_map, HTL.out, List.length_replicate])) (one_tab tb) ?_; clear H; intro w5b HWw5b H; simp only [ssA, szA] at H) | (refine L_store H rfl rfl 202 _ _ rfl 4 rfl rfl (tb.map (Value.int .u32)) rfl (HZT.out) ((by rw [List.length_map, HTL.out, List.length_replicate])) (one_tab tb) ?_; clear H; intro w5b HWw5b H; simp only [ssA, szA] at H) | (refine L_store H rfl rfl 202 _ _ rfl 5 rfl rfl (tb.map (Value.int .u32)) rfl (HZT.out) ((by rw [List.length_map, HTL.out, List.length_replicate])) (one_tab tb) ?_; clear H; intro w5b HWw5b H; simp only [ssA, szA] at H))))
 subst hr2
 go_wp2_with fail
 refine wp_loopM [(true, 1), (false, 6), (true, 1), (false, 3), (true, 15), (false, 1)] (ExR l w5b) (fun vs _ => n - (intOf (vs 11)).toNat) (by kernel_rfl) ⟨0, s0, Nat.zero_le _, rfl, rfl, rfl⟩ ?_
 rintro vs wr ⟨i, s, hi, q11, q0, rfl⟩
 simp only [mixF_t, mixF_f, mixF_t0, mixF_f0, mixF_e, Nat.reduceAdd]
 rw [q11, q0]
 clear q11 q0
 by_cases hlt : i < n
 ·obtain ⟨x, hx⟩ : ∃ x, l[i]? = some x := ⟨l[i]'(by rw [← HNL.out]; exact hlt), by simp⟩
  obtain ⟨b, off, rfl, hb, hc⟩ := HAT.out i x hx
  have HCX := kp (show wr.cell? ⟨b, off + i, none⟩ = some (V8 x) from (H.out.1.cell hb).trans hc)
  have hkd : decide (n ≤ i) = false := decide_eq_false (by omega)
  have hkd2 : decide ((n : Int) ≤ (i : Int)) = false := decide_eq_false (by omega)
  clear hx hb hc
  go_wp2_with (first | ((with_reducible show wpList _ _ _ (Oper.mk (some 14) _ _ _ _ _ :: _) _ _); refine L_x1 (by kernel_rfl) 5 _ rfl b _ rfl _ HCX.out Try.underlying5 rfl ?_; refine unput (d := some _) ?_) | ((with_reducible show wpList _ _ _ (Oper.mk (some 21) _ _ _ _ _ :: _) _ _); refine L_x8 rfl _ _ rfl _ _ rfl rfl (by omega) (wI8 x) ?_; intro q hq; have HCQ := kp (tab_at HTL.out hq); refine unput (d := some _) ?_) | ((with_reducible show wpList _ _ _ (Oper.mk (some 23) _ _ _ _ _ :: _) _ _); refine L_c1 H (by kernel_rfl) 166 _ rfl 0 rfl q rfl _ HCQ.out Try.underlying166 rfl ?_; refine unput (d := some _) ?_))
  exact LoopQ.of rfl (by kernel_rfl) rfl ⟨i + 1, _, by have := HNL.out; omega, by simp, rfl, rfl⟩ (by simp [intOf]; omega)
 ·go_wp2_with fail
  go_ret
  exact ⟨⟨_, rfl⟩, H.out.1⟩
theorem crc_any (v : Value) (l : By) (hl : l.length ≤ 100000) (w : World) (hs : SlB w v l) : Calls Try.prog 98 #[v] w fun e w' => (∃ m, e = .returned (.int .u32 m)) ∧ Ext w w' := by
 have H := kp (Loc.start w)
 have HS := kp hs
 clear hs
 go_enter Try.func98, Try.ntmps98
 go_wp2_with (first | (go_at_call 115; refine (extend_any _ _ l hl _ (HS.out.ext H.out.1)).mono ?_; rintro e wa ⟨⟨m, rfl⟩, hx⟩; replace H := kp (H.out.ext hx); have HXC := kp hx; clear hx) | (go_at_call 114; refine (final_any _ _).mono ?_; rintro e wb ⟨⟨m2, rfl⟩, hx⟩; replace H := kp (H.out.ext hx); have HXC := kp hx; clear hx))
 go_ret
 exact ⟨⟨_, rfl⟩, H.out.1⟩
set_option maxHeartbeats 1600000 in
theorem joinB_any (va vb : Value) (la lb : By) (hla : la.length ≤ 100000) (hlb : lb.length ≤ 100000) (w : World) (ha : SlB w va la) (hb : SlB w vb lb) : Calls Try.prog 99 #[va, vb] w (RetO (la ++ lb) w) := by
 obtain ⟨aa, ca, rfl⟩ := ha.form
 obtain ⟨ab, cb, rfl⟩ := hb.form
 have HA := kp ha; have HB := kp hb
 have H := kp (Loc.start w)
 have HMK := kp (fun w => run_mkB w 0 (la.length + lb.length) (by omega) (by omega))
 have hw1 : wrap64 ((la.length : Int) + (lb.length : Int)) = (la.length : Int) + (lb.length : Int) := by unfold wrap64; omega
 clear ha hb
 go_enter Try.func99, Try.ntmps99
 generalize hr2 : (Code.region 2 _ _ : Code) = R2
 go_wp2_with (first | ((with_reducible show wpList _ _ _ (Oper.mk (some 11) (Op.makeSlice 29 _ _) _ _ _ _ :: _) _ _); (refine L_mk H (by kernel_rfl) 29 _ _ rfl (.int .i64 0) (.int .i64 ((la.length : Int) + (lb.length : Int))) rfl rfl 0 (la.length + lb.length) 5 (List.replicate (la.length + lb.length) (Value.int .u8 0)) (fun w => HMK.out w) ?_); clear H; intro g11 w11 HGg11 HEg11 H; refine unput (d := some _) ?_))
 have HO := kp (show OwB w.heap.size w11 (.slice (some ⟨g11, 0, none⟩) 0 (la.length + lb.length)) [] from owns_room (zs := List.replicate (la.length + lb.length) (Value.int .u8 0)) (H.out.at 0 rfl) (H.out.le 0 rfl) rfl (by simp) (by omega))
 have H2 := kp H.out.tl
 clear H
 have H := H2
 clear H2
 subst hr2
 go_wp2_with (first | (at_builtin; (with_reducible show wpList _ _ _ (Oper.mk (some 14) _ _ _ _ _ :: _) _ _); refine L_appB2 H rfl _ _ rfl w.heap.size (Nat.le_refl _) H.out.1.size _ [] rfl HO.out (fun g hg => by cases hg) _ _ rfl (HA.out.ext H.out.1) (by simp; omega) ?_; clear H; intro v1 wb HO2 HGB H; refine unput (d := some _) ?_) | (at_builtin; (with_reducible show wpList _ _ _ (Oper.mk (some 16) _ _ _ _ _ :: _) _ _); refine L_appB2 H rfl _ _ rfl w.heap.size (Nat.le_refl _) H.out.1.size _ _ rfl HO2.out (fun g hg => by cases hg) _ _ rfl (HB.out.ext H.out.1) (by simp; omega) ?_; clear H; intro v2 wc HO3 HGC H; refine unput (d := some _) ?_))
 go_ret
 exact ⟨_, rfl, HO3.out, H.out.1⟩
set_option maxHeartbeats 1600000 in
theorem append_any (v : Value) (l : By) (hl : l.length ≤ 100000) (w : World) (hs : SlB w v l) : Calls Try.prog 78 #[v] w fun e w' => ∃ l', RetO l' w e w' := by
 have HS := kp hs
 have HCR := kp (fun w hs => crc_any v l hl w hs)
 have H := kp (Loc.start w)
 clear hs
 go_enter Try.func78, Try.ntmps78
 go_wp2_with (first | (go_at_call 98; refine (HCR.out _ (HS.out.ext H.out.1)).mono ?_; rintro e wa ⟨⟨m, rfl⟩, hx⟩; replace H := kp (H.out.ext hx); have HXC := kp hx; clear hx) | ((with_reducible show wpList _ _ _ (Oper.mk (some 18) (Op.buildSlice 29 _ _) _ _ _ _ :: _) _ _); (refine L_bs H (by kernel_rfl) 29 4 _ rfl (#[(0, .int .u8 (m / 16777216 % 256)), (1, .int .u8 (m / 65536 % 256)), (2, .int .u8 (m / 256 % 256)), (3, .int .u8 (m % 256))]) (by kernel_rfl) 5 (([m / 16777216, m / 65536, m / 256, m].map fun x => Value.int .u8 (x % 256))) (fun _ => by kernel_rfl) ?_); clear H; intro g18 w18 HGg18 HEg18 H; refine unput (d := some _) ?_) | (go_at_call 99; refine (joinB_any _ _ l ([m / 16777216, m / 65536, m / 256, m].map (BitVec.ofInt 8)) hl (by simp) _ (HS.out.ext H.out.1) (slb_ints [m / 16777216, m / 65536, m / 256, m] (H.out.at 0 rfl))).mono ?_; rintro e wj ⟨vj, rfl, ho, hx⟩; have HSZ := kp H.out.1.size; have HO := kp ho; clear ho; replace H := kp (H.out.ext hx); have HXC := kp hx; clear hx))
 go_ret
 exact ⟨_, _, rfl, owns_weak HO.out HSZ.out, H.out.1⟩
structure Stp where
 kind : Int
 now : Int
 h : Hd
 b : By
 sta : By
structure Stp.Ok (s : Stp) : Prop where
 h : s.h.Ok
 sta : s.sta.length = 6
end Go.Proofs.Ytfecopfofkdnpaa
namespace Go.Proofs.Ytfecopfofkdnpaa
open Go.RowKit Go.WideShapes
abbrev SI := Stp × Option Addr × Nat
def cellsSI (x : SI) : List Value := .int .i64 x.1.kind :: .int .i64 x.1.now :: (cellsF x.1.h (.slice x.2.1 x.1.b.length x.2.2) ++ x.1.sta.map V8)
structure SIOk (w : World) (x : SI) : Prop where
 ok : x.1.Ok
 le : x.1.b.length ≤ x.2.2
 b : SlB w (.slice x.2.1 x.1.b.length x.2.2) x.1.b
section
variable {H : Type} {enc : TypeId × Value → H} {w : World} {base : Nat} {cs : List Value}
theorem Tr.step (h : Tr enc Try.prog w base 65 cs) : ∃ x : SI, SIOk w x ∧ cs = cellsSI x := by
 have hl := h.len Try.underlying65 49 (by kernel_rfl)
 obtain ⟨k, h0, _⟩ := (h.field Try.underlying65 0 3 0 1 rfl (by kernel_rfl)).int Try.underlying3
 obtain ⟨n, h1, _⟩ := (h.field Try.underlying65 1 3 1 1 rfl (by kernel_rfl)).int Try.underlying3
 obtain ⟨x, ad, cap, l, hx, q1, q2, q3, q4, h2⟩ := Tr.frame (h.field Try.underlying65 2 31 2 41 rfl (by kernel_rfl))
 obtain ⟨a, la, h3⟩ := Tr.addr (h.field Try.underlying65 3 23 43 6 rfl (by kernel_rfl))
 refine ⟨(⟨k, n, x, l, a⟩, ad, cap), ⟨⟨hx, la⟩, q1, q4⟩, ?_⟩
 have hend : cs.drop 49 = [] := List.drop_eq_nil_of_le (by omega)
 rw [show cs = cs.drop 0 from rfl, peel h0, peel h1, peel h2, peel h3]
 simp only [Nat.reduceAdd, hend, List.append_nil, cellsSI, List.cons_append, List.nil_append]
end
def TrE (T B : Nat) (w w' : World) : Prop := Ext w w' ∨ ∃ g cs ds, B ≤ g ∧ Lc w g T cs ∧ w' = w.setRow g (ds : List Value).toArray
section
variable {P : Program} {ops : Array Oper}
structure InvE (ops : Array Oper) (S : Tmp → Value → World → Prop) (iA iS dA dV T : Nat) (c0 : List Value) (n : Nat) (W : World) (a0 : Act) (rem : List Nat) (listed : Array Bool) (a : Act) (w : World) : Prop where
 head : HeadInv .any ops n listed
 nodup : rem.Nodup
 lt : ∀ j ∈ rem, j < n
 mem : ∀ j, j < n → (listed.getD j false = true ↔ j ∉ rem)
 size : a.tmps.size = a0.tmps.size
 defers : a.defers = a0.defers
 done : ∀ d, (∃ j o, j < n ∧ j ∉ rem ∧ ops[j]? = some o ∧ o.dst = some d) → ∃ v, a.tmps[d]? = some v ∧ S d v w
 open_ : ∀ d, (∀ j o, j < n → j ∉ rem → ops[j]? = some o → o.dst ≠ some d) → a.tmps[d]? = a0.tmps[d]?
 ext : Ext W w
 var : iA ∉ rem → ∃ g, a.tmps[dA]? = some (.pointer (some ⟨g, 0, none⟩)) ∧ W.heap.size ≤ g ∧ (if iS ∈ rem then Lc w g T c0 else ∃ cs : List Value, a.tmps[dV]? = some (.agg cs.toArray) ∧ Lc w g T cs)
 pre : iS ∉ rem → iA ∉ rem ∧ ∀ j o, j < n → ops[j]? = some o → o.dst = some dV → j ∉ rem
theorem InvE.step {S : Tmp → Value → World → Prop} {iA iS dA dV T : Nat} {c0 : List Value} {n : Nat} {W : World} (hS : ∀ d v w w', S d v w → TrE T W.heap.size w w' → S d v w') {a0 : Act} {rem : List Nat} {listed : Array Bool} {a : Act} {w w' : World} (inv : InvE ops S iA iS dA dV T c0 n W a0 rem listed a w)
  {i : Nat} {o : Oper} (hi : i ∈ Region.ready .any ops listed) (hin : i < n) (ho : ops[i]? = some o) (v : Value) (htr : TrE T W.heap.size w w') (hext : Ext W w')
  (hsz : ∀ (j : Nat) o d, j < n → ops[j]? = some o → o.dst = some d → d < a0.tmps.size)
  (hv : ∀ d, o.dst = some d → S d v w')
  (hvar : iA ∉ rem.erase i → ∃ g, (a.put o.dst v).tmps[dA]? = some (.pointer (some ⟨g, 0, none⟩)) ∧ W.heap.size ≤ g ∧ (if iS ∈ rem.erase i then Lc w' g T c0 else ∃ cs : List Value, (a.put o.dst v).tmps[dV]? = some (.agg cs.toArray) ∧ Lc w' g T cs)) (hpre : iS ∉ rem.erase i → iA ∉ rem.erase i ∧ ∀ j o, j < n → ops[j]? = some o → o.dst = some dV → j ∉ rem.erase i) :
  InvE ops S iA iS dA dV T c0 n W a0 (rem.erase i) (listed.setIfInBounds i true) (a.put o.dst v) w' := by
 have hun := (mem_ready.1 hi).1
 have hirem : i ∈ rem := by
  rcases Classical.em (i ∈ rem) with h | h
  ·exact h
  ·have := (inv.mem i hin).2 h
   rw [getD_both hun] at this; cases this
 have hmem : ∀ j, j < n → (j ∉ rem.erase i ↔ j ∉ rem ∨ j = i) := fun j _ => by
  rw [inv.nodup.mem_erase_iff]
  constructor
  ·intro h; by_cases hj : j = i
   ·exact .inr hj
   ·exact .inl fun hm => h ⟨hj, hm⟩
  ·rintro (h | h) ⟨h1, h2⟩
   ·exact h h2
   ·exact h1 h
 have hlen : i < listed.size := by
  rcases Nat.lt_or_ge i listed.size with h | h
  ·exact h
  ·simp [Array.getElem?_eq_none h] at hun
 refine ⟨inv.head.set hi hin, inv.nodup.erase i, fun j hj => inv.lt j (List.mem_of_mem_erase hj), fun j hj => ?_, by rw [put_size, inv.size], by rw [put_defers, inv.defers], fun d h => ?_, fun d h => ?_, hext, hvar, hpre⟩
 ·rw [hmem j hj]
  by_cases hji : i = j
  ·subst hji; simp [hlen]
  ·rw [getD_set_ne false hji, inv.mem j hj]
   exact ⟨fun h => .inl h, fun h => h.resolve_right fun e => hji e.symm⟩
 ·obtain ⟨j, oj, hj, hjr, hoj, hdj⟩ := h
  by_cases hod : o.dst = some d
  ·rw [hod, put_get, if_pos rfl]
   have hlt : d < a.tmps.size := by rw [inv.size]; exact hsz i o d hin ho hod
   exact ⟨v, by rw [if_pos hlt], hv d hod⟩
  ·rw [put_other _ _ _ _ hod]
   obtain ⟨u, hu1, hu2⟩ := inv.done d ⟨j, oj, hj, (by
    rcases (hmem j hj).1 hjr with h | h
    ·exact h
    ·subst h; rw [ho] at hoj; cases hoj; exact absurd hdj hod), hoj, hdj⟩
   exact ⟨u, hu1, hS d u w w' hu2 htr⟩
 ·have hod : o.dst ≠ some d := h i o hin ((hmem i hin).2 (.inr rfl)) ho
  rw [put_other _ _ _ _ hod]
  exact inv.open_ d fun j oj hj hjr hoj => h j oj hj ((hmem j hj).2 (.inl hjr)) hoj
end
theorem StepOk.mono {a : As} {l : List En} {r : Rs} {p q : En → Prop} (h : StepOk a l r p) (hpq : ∀ e, p e → q e) : StepOk a l r q := ⟨h.ok, h.l6, fun e he h2 => (h.kept e he h2).imp id fun x => ⟨x.1, hpq e x.2⟩⟩
theorem checkF_good {h : Hd} (e : validH h = true) : checkF h = 0 := by simp [checkF, e]
theorem L_eqA {ops : Array Oper} {rest : List Oper} {o : Oper} {a : Act} {w : World} {Q : Exit → Act → World → Prop} (hgd : Region.wanted o (yielded ops a.tmps) = true) (x y : Operand) (ho : o.op = .binOp .eql 23 x y 23) (l m : By) (hl : l.length = 6) (hm : m.length = 6) (b : Bool) (hb : (l == m) = b)
  (hx : a.eval x = .agg (l.map V8).toArray) (hy : a.eval y = .agg (m.map V8).toArray) (h : wpList Try.prog ops Q rest (a.put o.dst (.bool b)) w) : wpList Try.prog ops Q (o :: rest) a w :=
 wpList_bin hgd .eql 23 23 x y ho _ _ _ hx hy (run_eqGuard_agg _ _ _ _ _ _ _ Try.eqGuardType23) (by rw [eqAddr l m hl hm w, hb]) h
def partsM (a : As) (ha : a.own.length = 6) (t : By) (ht : t.length = 6) (sub : Int) : List Lf := [Lf.i .u8 0, Lf.i .u8 sub, Lf.b false, Lf.b false, Lf.b false, Lf.b false, Lf.b false, Lf.b false, Lf.b false, Lf.i .i64 0, Lf.v ⟨t, ht⟩, Lf.v ⟨a.own, ha⟩, Lf.v ⟨a.own, ha⟩, Lf.v ⟨zero6, rfl⟩, Lf.i .i64 0, Lf.i .i64 0, Lf.i .i64 0, Lf.i .u8 0, Lf.b false, Lf.b false]
theorem range_left {w : World} {b o : Nat} {xs ys : List Value} (h : w.rangeAt b o (xs ++ ys)) : w.rangeAt b o xs := fun j v hv => h j v (by
 rw [List.getElem?_append_left (List.getElem?_eq_some_iff.1 hv).1]; exact hv)
theorem range_M {w : World} {b o : Nat} {a : As} (ha : a.own.length = 6) {t : By} (ht : t.length = 6) {sub : Int} {u : Value} (h : w.rangeAt b o (cellsF (msgH a t sub) u)) : w.rangeAt b o (cat (partsM a ha t ht sub)) := by
 have e : cellsH (msgH a t sub) = cat (partsM a ha t ht sub) := by simp [cellsH, msgH, partsM, cat]
 rw [← e]
 exact range_left h
end Go.Proofs.Ytfecopfofkdnpaa
