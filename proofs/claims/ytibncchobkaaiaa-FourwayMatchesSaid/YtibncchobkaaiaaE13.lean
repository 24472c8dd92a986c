/- Texts of this proof, put together: Msg. -/
import Derived.Test.YtibncchobkaaiaaE6
import Derived.Test.YtibncchobkaaiaaE12
import Derived.BigGuardPart
import Derived.Test.YtibncchobkaaiaaE1
namespace Go.Proofs.Ytibncchobkaaiaa
open Go.RowKit
theorem owns_lit {w : World} {g base : Nat} {l : By} (h : Lc w g 5 (l.map V8)) (hb : base ≤ g) (n : Nat) (hn : n = l.length) (hm : n ≤ 1000000) : w.ownsRow base 5 1 (.slice (some ⟨g, 0, none⟩) n n) l.length (l.map V8) := by
 subst hn
 exact ⟨by simp, .inr ⟨g, l.length, (l.map V8).toArray, rfl, hb, h, Nat.le_refl _, by unfold maxLen; omega, by simp, by simp [List.take_of_length_le]⟩⟩
theorem owns_weak {w : World} {b b' E n : Nat} {v : Value} {xs : List Value} (h : w.ownsRow b E 1 v n xs) (hb : b' ≤ b) : w.ownsRow b' E 1 v n xs := by
 obtain ⟨h1, h2 | ⟨g, cap, cur, h3, h4, h5⟩⟩ := h
 ·exact ⟨h1, .inl h2⟩
 ·exact ⟨h1, .inr ⟨g, cap, cur, h3, Nat.le_trans hb h4, h5⟩⟩
theorem V8_kind {k : Int} (h0 : 0 ≤ k) (h1 : k < 256) : V8 (BitVec.ofInt 8 k) = .int .u8 k := by unfold V8; rw [wI_ofInt8, Int.emod_eq_of_lt h0 h1]
theorem slb1 {w : World} {g T : Nat} {x : Int} (h : Lc w g T [.int .u8 (x % 256)]) : SlB w (.slice (some ⟨g, 0, none⟩) 1 1) [BitVec.ofInt 8 x] :=
 SlB.of_block (l := [BitVec.ofInt 8 x]) (by show _ = some (Obj.cells #[V8 (BitVec.ofInt 8 x)] T (0, 0)); rw [V8_ofInt]; exact h)
theorem slb2 {w : World} {g T : Nat} {x y : Int} (h : Lc w g T [.int .u8 (x % 256), .int .u8 (y % 256)]) : SlB w (.slice (some ⟨g, 0, none⟩) 2 2) [BitVec.ofInt 8 x, BitVec.ofInt 8 y] :=
 SlB.of_block (l := [BitVec.ofInt 8 x, BitVec.ofInt 8 y]) (by show _ = some (Obj.cells #[V8 (BitVec.ofInt 8 x), V8 (BitVec.ofInt 8 y)] T (0, 0)); rw [V8_ofInt, V8_ofInt]; exact h)
def hdTo (kind count : Int) (j : Nat) : By := BitVec.ofInt 8 kind :: (le8 count).take j
theorem hdTo_len (kind count : Int) (j : Nat) (h : j ≤ 8) : (hdTo kind count j).length = j + 1 := by simp [hdTo, le8_len]; omega
theorem hdTo_succ (kind count : Int) (j : Nat) (h : j < 8) : hdTo kind count (j + 1) = hdTo kind count j ++ [BitVec.ofInt 8 (count / 2 ^ (8 * j))] := by
 unfold hdTo
 have : (le8 count)[j]? = some (BitVec.ofInt 8 (count / 2 ^ (8 * j))) := by simp [le8, h]
 rw [List.take_add_one, this]; rfl
theorem hdTo_8 (kind count : Int) : hdTo kind count 8 = BitVec.ofInt 8 kind :: le8 count := by
 unfold hdTo; rw [List.take_of_length_le (by rw [le8_len]; exact Nat.le_refl _)]
set_option maxRecDepth 4000 in
set_option maxHeartbeats 1600000 in
theorem mbytes_any (kind count : Int) (hk : 0 ≤ kind) (hk1 : kind < 256) (nonce : Vc 16) (ad : Option Addr) (n c : Nat) (data : By) (hd : data.length ≤ 100000) (w : World) (hs : SlB w (.slice ad n c) data) :
  Calls Try.prog 65 #[.agg (cat (partsM kind count nonce ad n c)).toArray] w (RetO (frontF kind count nonce.1 data) w) := by
 have HL := kp hs.len
 have H := kp (Loc.start w)
 have HS := kp hs
 have HVK := kp (V8_kind hk hk1)
 have HD := kp hd
 clear hs hk hk1 hd
 go_enter Try.func65, Try.ntmps65
 go_wp2_with (first | ((with_reducible show wpList _ _ _ (Oper.mk (some 1) (Op.box 78 _) _ _ _ _ :: _) _ _); (refine L_box H rfl 78 _ rfl (cat (partsM kind count nonce ad n c)) rfl ?_); clear H; intro g1 w1 HGg1 HEg1 H; simp only [pA]) | ((with_reducible refine isLd 5 ?_); (refine L_f1 H rfl 5 _ rfl 0 rfl _ rfl _ rfl _ rfl Try.underlying5 rfl ?_); simp only [pA]) | ((with_reducible show wpList _ _ _ (Oper.mk (some 7) (Op.buildSlice 33 _ _) _ _ _ _ :: _) _ _); (refine L_bs H (by kernel_rfl) 33 1 _ rfl (#[(0, .int .u8 kind)]) (by kernel_rfl) 5 ([.int .u8 kind]) (fun _ => by kernel_rfl) ?_); clear H; intro g7 w7 HGg7 HEg7 H; simp only [pA]))
 have h1 := HGg1.out
 have h2 := HEg1.out.size
 have h3 : g7 ≠ g1 := by have := H.out.2.1; simpa using this
 have h4 := HGg7.out
 have h5 := HEg7.out.size
 have HO := kp (show w7.ownsRow (g1 + 1) 5 1 (.slice (some ⟨g7, 0, none⟩) 1 1) (hdTo kind count 0).length ((hdTo kind count 0).map V8) from owns_lit (by
  show Lc w7 g7 5 [V8 (BitVec.ofInt 8 kind)]
  rw [HVK.out]; exact H.out.at 0 rfl) (by omega) 1 rfl (by omega))
 have HB1 := kp (show w.heap.size ≤ g1 + 1 by omega)
 have H2 := kp H.out.tl
 clear H h1 h2 h3 h4 h5
 have H := H2
 clear H2
 go_loopw [3, 8] (fun b i wr => ∃ j : Nat, j ≤ 8 ∧ i = .int .i64 j ∧ Kp (wr.ownsRow (g1 + 1) 5 1 b (hdTo kind count j).length ((hdTo kind count j).map V8)) ∧ Kp (Loc w wr [(g1, 78, cat (partsM kind count nonce ad n c))])) (fun _ i _ => 8 - (intOf i).toNat)
 case atStart => exact ⟨0, by omega, rfl, HO, H⟩
 case round =>
  obtain ⟨j, hj, rfl, HO, H⟩ := hrel
  have hgl := kp (H.out.lt 0 rfl)
  have HLN := kp (hdTo_len kind count j hj)
  by_cases hlt : j < 8
  ·have HLS := kp (hdTo_succ kind count j hlt)
   have HVJ := kp (V8_ofInt (count / 2 ^ (8 * j)))
   go_wp2_with (first | ((with_reducible refine isLd 3 ?_); (refine L_f1 H rfl 3 _ rfl 0 rfl _ rfl _ rfl _ rfl Try.underlying3 rfl ?_); simp only [pA]) | ((with_reducible show wpList _ _ _ (Oper.mk (some 18) (Op.buildSlice 33 _ _) _ _ _ _ :: _) _ _); (refine L_bs H (by kernel_rfl) 33 1 _ rfl (#[(0, .int .u8 (count / 2 ^ (8 * j) % 256))]) (by kernel_rfl) 5 ([.int .u8 (count / 2 ^ (8 * j) % 256)]) (fun _ => by kernel_rfl) ?_); clear H; intro g18 w18 HGg18 HEg18 H; simp only [pA]) | (at_builtin; (have HSX := kp (slb1 (H.out.at 0 rfl)); have HOX2 := kp (owns_ext HO.out HEg18.out); have H2 := kp H.out.tl; clear H; have H := H2; clear H2; refine L_appB H rfl _ _ rfl (g1 + 1) (by have q1 := HB1.out; have q2 := hgl.out; have q3 := HEg18.out.size; omega) (by have q1 := HB1.out; have q2 := hgl.out; have q3 := HEg18.out.size; omega) (by intro zz hz; simp at hz; have q1 := HB1.out; have q2 := hgl.out; have q3 := HEg18.out.size; omega) _ _ rfl HOX2.out _ _ rfl HSX.out ((by rw [HLN.out]; simp; omega)) ?_; clear H HSX HOX2; intro vb wb HO2 HGwb H; simp only [pA])))
   go_roundw
   case rel => exact ⟨j + 1, by omega, by go_num, kp (by rw [HLS.out]; exact HO2.out), H⟩
   case measure => simp [intOf]; omega
  ·obtain rfl : j = 8 := by omega
   have HLN2 := kp (hdTo_8 kind count)
   rw [HLN2.out] at HO
   have HLB := kp (show (BitVec.ofInt 8 kind :: le8 count).length = 9 by simp [le8_len])
   have HNL := kp nonce.2
   have HFR := kp (show frontF kind count nonce.1 data = BitVec.ofInt 8 kind :: le8 count ++ nonce.1 ++ [BitVec.ofInt 8 data.length, BitVec.ofInt 8 ((data.length : Int) / 256)] ++ data by simp [frontF])
   go_wp2_with (first | ((with_reducible refine isLd 33 ?_); (refine L_f1 H rfl 33 _ rfl 0 rfl _ rfl _ rfl _ rfl Try.underlying33 rfl ?_); simp only [pA]) | (at_builtin; (have HSX := kp (SlB_part H.out 0 rfl 2 2 rfl rfl 16); have HOX2 := HO; refine L_appB H rfl _ _ rfl (g1 + 1) (by have q1 := HB1.out; have q2 : g1 < _ := H.out.lt 0 rfl; omega) (by have q1 := HB1.out; have q2 : g1 < _ := H.out.lt 0 rfl; omega) (by intro zz hz; simp at hz; have q1 := HB1.out; have q2 : g1 < _ := H.out.lt 0 rfl; omega) _ _ rfl HOX2.out _ _ rfl HSX.out ((by rw [HLB.out, HNL.out]; decide)) ?_; clear H HSX HOX2; intro vb wb HO2 HGwb H; simp only [pA])) | ((with_reducible show wpList _ _ _ (Oper.mk (some 35) (Op.buildSlice 33 _ _) _ _ _ _ :: _) _ _); (refine L_bs H (by kernel_rfl) 33 2 _ rfl (#[(0, .int .u8 ((n : Int) % 256)), (1, .int .u8 ((n : Int) / 256 % 256))]) (by kernel_rfl) 5 ([.int .u8 ((n : Int) % 256), .int .u8 ((n : Int) / 256 % 256)]) (fun _ => by kernel_rfl) ?_); clear H; intro g35 w35 HGg35 HEg35 H; simp only [pA]) | (at_builtin; (have HSX := kp (slb2 (H.out.at 0 rfl)); have HOX2 := kp (owns_ext HO2.out HEg35.out); have H2 := kp H.out.tl; clear H; have H := H2; clear H2; refine L_appB H rfl _ _ rfl (g1 + 1) (by have q1 := HB1.out; have q2 : g1 < _ := H.out.lt 0 rfl; omega) (by have q1 := HB1.out; have q2 : g1 < _ := H.out.lt 0 rfl; omega) (by intro zz hz; simp at hz; have q1 := HB1.out; have q2 : g1 < _ := H.out.lt 0 rfl; omega) _ _ rfl HOX2.out _ _ rfl HSX.out ((by rw [List.length_append, HLB.out, HNL.out]; simp)) ?_; clear H HSX HOX2; intro vc wc HO3 HGwc H; simp only [pA])) | (at_builtin; (have HSX := kp (HS.out.ext H.out.1); have HOX2 := HO3; refine L_appB H rfl _ _ rfl (g1 + 1) (by have q1 := HB1.out; have q2 : g1 < _ := H.out.lt 0 rfl; omega) (by have q1 := HB1.out; have q2 : g1 < _ := H.out.lt 0 rfl; omega) (by intro zz hz; simp at hz; have q1 := HB1.out; have q2 : g1 < _ := H.out.lt 0 rfl; omega) _ _ rfl HOX2.out _ _ rfl HSX.out ((by rw [List.length_append, List.length_append, HLB.out, HNL.out]; have := HD.out; simp; omega)) ?_; clear H HSX HOX2; intro vd wd HO4 HGwd H; simp only [pA])))
   go_ret
   rw [HL.out, ← HFR.out] at HO4
   exact ⟨_, rfl, owns_weak HO4.out HB1.out, H.out.1⟩
theorem front_short (kind count : Int) (nonce : Vc 16) {data : By} (hd : data.length ≤ 100000) : (frontF kind count nonce.1 data).length ≤ 200000 ∧ 0 < (frontF kind count nonce.1 data).length := by
 rw [frontF_len _ _ _ _ nonce.2]; omega
theorem signed_1 (k : By) (count : Int) (nonce data : By) : signedF k 1 count nonce data = frontF 1 count nonce data ++ List.replicate 16 0#8 := by simp [signedF, zv]
theorem signed_n (k : By) {kind : Int} (h : kind ≠ 1) (count : Int) (nonce data : By) : signedF k kind count nonce data = frontF kind count nonce data ++ macF k (frontF kind count nonce data) := by simp [signedF, h]
set_option maxRecDepth 4000 in
set_option maxHeartbeats 1600000 in
theorem signed_any (k : Vc 16) (kind count : Int) (hk : 0 ≤ kind) (hk1 : kind < 256) (nonce : Vc 16) (ad : Option Addr) (n c : Nat) (data : By) (hd : data.length ≤ 100000) (w : World) (hs : SlB w (.slice ad n c) data) :
  Calls Try.prog 47 #[.agg (cat (partsM kind count nonce ad n c)).toArray, .agg (k.1.map V8).toArray] w (RetO (signedF k.1 kind count nonce.1 data) w) := by
 have HL := kp hs.len
 have H := kp (Loc.start w)
 have HS := kp hs
 have HFL := kp (front_short kind count nonce hd)
 have HB := kp (fun w hs => mbytes_any kind count hk hk1 nonce ad n c data hd w hs)
 have HM := kp (fun v w hs => mac_any k.1 (frontF kind count nonce.1 data) k.2 (by have := HFL.out.1; omega) v w hs)
 have HML := kp (macF_len k.1 (frontF kind count nonce.1 data))
 have HSN := kp (fun h : kind ≠ 1 => signed_n k.1 h count nonce.1 data)
 have HS1 := kp (signed_1 k.1 count nonce.1 data)
 clear hs hk hk1 hd
 go_enter Try.func47, Try.ntmps47
 generalize h3 : ((Code.region 3 _ _ : Code).seq _) = R3
 generalize h4 : (Code.region 4 _ _ : Code) = R4
 go_wp2_with (first | ((with_reducible show wpList _ _ _ (Oper.mk (some 2) (Op.box 78 _) _ _ _ _ :: _) _ _); (refine L_box H rfl 78 _ rfl (cat (partsM kind count nonce ad n c)) rfl ?_); clear H; intro g2 w2 HGg2 HEg2 H; simp only [pA]) | ((with_reducible show wpList _ _ _ (Oper.mk (some 3) (Op.box 25 _) _ _ _ _ :: _) _ _); (refine L_box H rfl 25 _ rfl (cat ([Lf.v k])) rfl ?_); clear H; intro g3 w3 HGg3 HEg3 H; simp only [pA]) | ((with_reducible refine isLd 78 ?_); (refine L_fa H rfl 78 _ rfl 1 rfl rfl Try.underlying78 rfl (by kernel_rfl) ?_); simp only [pA]) | (go_at_call 65; refine (HB.out _ (HS.out.ext H.out.1)).mono ?_; rintro e wa ⟨v, rfl, ho, hx⟩; have HO := kp ho; have HLT := kp (H.out.lt 0 rfl); have HLU := kp (H.out.lt 1 rfl); clear ho; have H2 := kp (H.out.ext hx); have HXC := kp hx; clear H hx; have H := H2; clear H2) | ((with_reducible refine isLd 5 ?_); (refine L_f1 H rfl 5 _ rfl 1 rfl _ rfl _ rfl _ rfl Try.underlying5 rfl ?_); simp only [pA]))
 ·rename (kind == 1) = true => hk1
  have hk2 : kind = 1 := by simpa using hk1
  clear hk1
  subst hk2
  subst h3
  have HX0 := HXC
  go_wp2_with (at_builtin; refine L_appZ H rfl _ rfl (w3.heap.size) (by have q1 : g3 < _ := HLT.out; have q2 : g2 < _ := HLU.out; have q3 := H.out.1.size; have q4 := HEg2.out.size; have q5 := HEg3.out.size; have q6 := HX0.out.size; omega) (by have q1 : g3 < _ := HLT.out; have q2 : g2 < _ := HLU.out; have q3 := H.out.1.size; have q4 := HEg2.out.size; have q5 := HEg3.out.size; have q6 := HX0.out.size; omega) (by intro zz hz; simp at hz; have q1 : g3 < _ := HLT.out; have q2 : g2 < _ := HLU.out; have q3 := H.out.1.size; have q4 := HEg2.out.size; have q5 := HEg3.out.size; have q6 := HX0.out.size; omega) _ _ rfl (HO).out (HFL.out.2) ((by have := HFL.out.1; omega)) ?_; clear H; intro vb wb HO2 HGwb H; simp only [pA])
  go_ret
  rw [← HS1.out] at HO2
  exact ⟨_, rfl, owns_weak HO2.out (by have q1 : g3 < _ := HLT.out; have q2 : g2 < _ := HLU.out; have q3 := H.out.1.size; have q4 := HEg2.out.size; have q5 := HEg3.out.size; have q6 := HX0.out.size; omega), H.out.1⟩
 ·rename (kind == 1) = false => hk1
  have HSK := kp (HSN.out (by simpa using hk1))
  clear hk1
  subst h4
  have HX0 := HXC
  go_wp2_with (first | ((with_reducible refine isLd 25 ?_); (refine L_fv H rfl 25 _ rfl 0 rfl _ rfl _ rfl rfl Try.underlying25 rfl (by kernel_rfl) ?_); simp only [pA]) | (go_at_call 66; refine (HM.out _ _ (SlB.of_owns HO.out)).mono ?_; rintro e wm ⟨rfl, hx⟩; have HOM := kp (owns_ext HO.out hx); have H2 := kp (H.out.ext hx); have HXC := kp hx; clear H hx; have H := H2; clear H2) | (((with_reducible show wpList _ _ _ (Oper.mk (some 6) (Op.alloc 115) _ _ _ _ :: _) _ _); (refine L_alloc H rfl 115 rfl (cat ([Lf.v (zv 16)])) (fun _ _ => by kernel_rfl) ?_); clear H; intro g6 w6 HGg6 HEg6 H; simp only [pA]); have HL6 := kp (show Lc w6 g6 115 _ from H.out.at 0 rfl)) | ((with_reducible refine isSt 115 ?_); (refine L_sv H rfl rfl 115 _ _ rfl 0 rfl _ rfl _ rfl (Lf.v ⟨_, HML.out⟩) rfl rfl rfl (by kernel_rfl) (_) rfl ?_; clear H; intro w7 HWw7 H; simp only [szA] at H)) | (at_builtin; (have HSX := kp (SlB_part H.out 0 rfl 0 0 rfl rfl 16); have HOX2 := kp (owns_wroteT (owns_ext HOM.out HEg6.out) HWw7.out HL6.out (show 5 ≠ 115 from by decide)); have H2 := kp H.out.tl; clear H; have H := H2; clear H2; refine L_appB H rfl _ _ rfl (w3.heap.size) (by have q1 : g3 < _ := HLT.out; have q2 : g2 < _ := HLU.out; have q3 := H.out.1.size; have q4 := HEg2.out.size; have q5 := HEg3.out.size; have q6 := HX0.out.size; have q7 := HXC.out.size; have q8 := HEg6.out.size; have q9 := HWw7.out.size; omega) (by have q1 : g3 < _ := HLT.out; have q2 : g2 < _ := HLU.out; have q3 := H.out.1.size; have q4 := HEg2.out.size; have q5 := HEg3.out.size; have q6 := HX0.out.size; have q7 := HXC.out.size; have q8 := HEg6.out.size; have q9 := HWw7.out.size; omega) (by intro zz hz; simp at hz; have q1 : g3 < _ := HLT.out; have q2 : g2 < _ := HLU.out; have q3 := H.out.1.size; have q4 := HEg2.out.size; have q5 := HEg3.out.size; have q6 := HX0.out.size; have q7 := HXC.out.size; have q8 := HEg6.out.size; have q9 := HWw7.out.size; omega) _ _ rfl HOX2.out _ _ rfl HSX.out ((by rw [HML.out]; have := HFL.out.1; omega)) ?_; clear H HSX HOX2; intro vb wb HO2 HGwb H; simp only [pA])))
  go_ret
  rw [← HSK.out] at HO2
  exact ⟨_, rfl, owns_weak HO2.out (by have q1 : g3 < _ := HLT.out; have q2 : g2 < _ := HLU.out; have q3 := H.out.1.size; have q4 := HEg2.out.size; have q5 := HEg3.out.size; have q6 := HX0.out.size; omega), H.out.1⟩
end Go.Proofs.Ytibncchobkaaiaa
