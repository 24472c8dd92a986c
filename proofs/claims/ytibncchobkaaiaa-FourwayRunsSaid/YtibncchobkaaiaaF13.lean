/- Texts of this proof, put together: Msg, FreeV. -/
import Derived.Test.YtibncchobkaaiaaF6
import Derived.Test.YtibncchobkaaiaaF12
import Derived.BigGuardPart
import Derived.Test.YtibncchobkaaiaaF5
import Derived.Test.YtibncchobkaaiaaF1
namespace Go.Proofs.Ytibncchobkaaiaa
open Go.RowKit
theorem owns_lit {w : World} {g base : Nat} {l : By} (h : Lc w g 5 (l.map V8)) (hb : base ≤ g) (n : Nat) (hn : n = l.length) (hm : n ≤ 1000000) : w.ownsRow base 5 1 (.slice (some ⟨g, 0, none⟩) n n) l.length (l.map V8) := by
 subst hn
 exact ⟨by simp, .inr ⟨g, l.length, (l.map V8).toArray, rfl, hb, h, Nat.le_refl _, by unfold maxLen; omega, by simp, by simp [List.take_of_length_le]⟩⟩
theorem owns_weak {w : World} {b b' E n : Nat} {v : Value} {xs : List Value} (h : w.ownsRow b E 1 v n xs) (hb : b' ≤ b) : w.ownsRow b' E 1 v n xs := by
 obtain ⟨h1, h2 | ⟨g, cap, cur, h3, h4, h5⟩⟩ := h
 ·exact ⟨h1, .inl h2⟩
 ·exact ⟨h1, .inr ⟨g, cap, cur, h3, Nat.le_trans hb h4, h5⟩⟩
theorem V8_kind {k : Int} (h0 : 0 ≤ k) (h1 : k < 256) : V8 (BitVec.ofInt 8 k) = .int .u8 k := by unfold V8; rw [wI_ofInt8, Int.emod_eq_of_lt h0 h1]
theorem slb1 {w : World} {g T : Nat} {x : Int} (h : Lc w g T [.int .u8 (x % 256)]) : SlB w (.slice (some ⟨g, 0, none⟩) 1 1) [BitVec.ofInt 8 x] :=
 SlB.of_block (l := [BitVec.ofInt 8 x]) (by show _ = some (Obj.cells #[V8 (BitVec.ofInt 8 x)] T (0, 0)); rw [V8_ofInt]; exact h)
theorem slb2 {w : World} {g T : Nat} {x y : Int} (h : Lc w g T [.int .u8 (x % 256), .int .u8 (y % 256)]) : SlB w (.slice (some ⟨g, 0, none⟩) 2 2) [BitVec.ofInt 8 x, BitVec.ofInt 8 y] :=
 SlB.of_block (l := [BitVec.ofInt 8 x, BitVec.ofInt 8 y]) (by show _ = some (Obj.cells #[V8 (BitVec.ofInt 8 x), V8 (BitVec.ofInt 8 y)] T (0, 0)); rw [V8_ofInt, V8_ofInt]; exact h)
def hdTo (kind count : Int) (j : Nat) : By := BitVec.ofInt 8 kind :: (le8 count).take j
theorem hdTo_len (kind count : Int) (j : Nat) (h : j ≤ 8) : (hdTo kind count j).length = j + 1 := by simp [hdTo, le8_len]; omega
theorem hdTo_succ (kind count : Int) (j : Nat) (h : j < 8) : hdTo kind count (j + 1) = hdTo kind count j ++ [BitVec.ofInt 8 (count / 2 ^ (8 * j))] := by
 unfold hdTo
 have : (le8 count)[j]? = some (BitVec.ofInt 8 (count / 2 ^ (8 * j))) := by simp [le8, h]
 rw [List.take_add_one, this]; rfl
theorem hdTo_8 (kind count : Int) : hdTo kind count 8 = BitVec.ofInt 8 kind :: le8 count := by
 unfold hdTo; rw [List.take_of_length_le (by rw [le8_len]; exact Nat.le_refl _)]
set_option maxRecDepth 4000 in
set_option maxHeartbeats 1600000 in
theorem mbytes_any (kind count : Int) (hk : 0 ≤ kind) (hk1 : kind < 256) (nonce : Vc 16) (ad : Option Addr) (n c : Nat) (data : By) (hd : data.length ≤ 100000) (w : World) (hs : SlB w (.slice ad n c) data) :
  Calls Try.prog 65 #[.agg (cat (partsM kind count nonce ad n c)).toArray] w (RetO (frontF kind count nonce.1 data) w) := by
 have HL := kp hs.len
 have H := kp (Loc.start w)
 have HS := kp hs
 have HVK := kp (V8_kind hk hk1)
 have HD := kp hd
 clear hs hk hk1 hd
 go_enter Try.func65, Try.ntmps65
 go_wp2_with (first | ((with_reducible refine isBx 1 78 ?_); (refine L_box H rfl 78 _ rfl (cat (partsM kind count nonce ad n c)) rfl ?_); clear H; intro g1 w1 HGg1 HEg1 H; simp only [pA]) | ((with_reducible refine isLd 5 ?_); (refine L_f1 H rfl 5 _ rfl 0 rfl _ rfl _ rfl _ rfl Try.underlying5 rfl ?_); simp only [pA]) | ((with_reducible show wpList _ _ _ (Oper.mk (some 7) (Op.buildSlice 33 _ _) _ _ _ _ :: _) _ _); (refine L_bs H (by kernel_rfl) 33 1 _ rfl (#[(0, .int .u8 kind)]) (by kernel_rfl) 5 ([.int .u8 kind]) (fun _ => by kernel_rfl) ?_); clear H; intro g7 w7 HGg7 HEg7 H; simp only [pA]))
 have h1 := HGg1.out
 have h2 := HEg1.out.size
 have h3 : g7 ≠ g1 := by have := H.out.2.1; simpa using this
 have h4 := HGg7.out
 have h5 := HEg7.out.size
 have HO := kp (show w7.ownsRow (g1 + 1) 5 1 (.slice (some ⟨g7, 0, none⟩) 1 1) (hdTo kind count 0).length ((hdTo kind count 0).map V8) from owns_lit (by
  show Lc w7 g7 5 [V8 (BitVec.ofInt 8 kind)]
  rw [HVK.out]; exact H.out.at 0 rfl) (by omega) 1 rfl (by omega))
 have HB1 := kp (show w.heap.size ≤ g1 + 1 by omega)
 have H2 := kp H.out.tl
 clear H h1 h2 h3 h4 h5
 have H := H2
 clear H2
 go_loopw [3, 8] (fun b i wr => ∃ j : Nat, j ≤ 8 ∧ i = .int .i64 j ∧ Kp (wr.ownsRow (g1 + 1) 5 1 b (hdTo kind count j).length ((hdTo kind count j).map V8)) ∧ Kp (Loc w wr [(g1, 78, cat (partsM kind count nonce ad n c))])) (fun _ i _ => 8 - (intOf i).toNat)
 case atStart => exact ⟨0, by omega, rfl, HO, H⟩
 case round =>
  obtain ⟨j, hj, rfl, HO, H⟩ := hrel
  have hgl := kp (H.out.lt 0 rfl)
  have HLN := kp (hdTo_len kind count j hj)
  by_cases hlt : j < 8
  ·have HLS := kp (hdTo_succ kind count j hlt)
   have HVJ := kp (V8_ofInt (count / 2 ^ (8 * j)))
   go_wp2_with (first | ((with_reducible refine isLd 3 ?_); (refine L_f1 H rfl 3 _ rfl 0 rfl _ rfl _ rfl _ rfl Try.underlying3 rfl ?_); simp only [pA]) | ((with_reducible show wpList _ _ _ (Oper.mk (some 18) (Op.buildSlice 33 _ _) _ _ _ _ :: _) _ _); (refine L_bs H (by kernel_rfl) 33 1 _ rfl (#[(0, .int .u8 (count / 2 ^ (8 * j) % 256))]) (by kernel_rfl) 5 ([.int .u8 (count / 2 ^ (8 * j) % 256)]) (fun _ => by kernel_rfl) ?_); clear H; intro g18 w18 HGg18 HEg18 H; simp only [pA]) | (at_builtin; (have HSX := kp (slb1 (H.out.at 0 rfl)); have HOX2 := kp (owns_ext HO.out HEg18.out); have H2 := kp H.out.tl; clear H; have H := H2; clear H2; refine L_appB H rfl _ _ rfl (g1 + 1) (by have q1 := HB1.out; have q2 := hgl.out; have q3 := HEg18.out.size; omega) (by have q1 := HB1.out; have q2 := hgl.out; have q3 := HEg18.out.size; omega) (by intro zz hz; simp at hz; have q1 := HB1.out; have q2 := hgl.out; have q3 := HEg18.out.size; omega) _ _ rfl HOX2.out _ _ rfl HSX.out ((by rw [HLN.out]; simp; omega)) ?_; clear H HSX HOX2; intro vb wb HO2 HGwb H; simp only [pA])))
   go_roundw
   case rel => exact ⟨j + 1, by omega, by go_num, kp (by rw [HLS.out]; exact HO2.out), H⟩
   case measure => simp [intOf]; omega
  ·obtain rfl : j = 8 := by omega
   have HLN2 := kp (hdTo_8 kind count)
   rw [HLN2.out] at HO
   have HLB := kp (show (BitVec.ofInt 8 kind :: le8 count).length = 9 by simp [le8_len])
   have HNL := kp nonce.2
   have HFR := kp (show frontF kind count nonce.1 data = BitVec.ofInt 8 kind :: le8 count ++ nonce.1 ++ [BitVec.ofInt 8 data.length, BitVec.ofInt 8 ((data.length : Int) / 256)] ++ data by simp [frontF])
   go_wp2_with (first | ((with_reducible refine isLd 33 ?_); (refine L_f1 H rfl 33 _ rfl 0 rfl _ rfl _ rfl _ rfl Try.underlying33 rfl ?_); simp only [pA]) | (at_builtin; (have HSX := kp (SlB_part H.out 0 rfl 2 2 rfl rfl 16); have HOX2 := HO; refine L_appB H rfl _ _ rfl (g1 + 1) (by have q1 := HB1.out; have q2 : g1 < _ := H.out.lt 0 rfl; omega) (by have q1 := HB1.out; have q2 : g1 < _ := H.out.lt 0 rfl; omega) (by intro zz hz; simp at hz; have q1 := HB1.out; have q2 : g1 < _ := H.out.lt 0 rfl; omega) _ _ rfl HOX2.out _ _ rfl HSX.out ((by rw [HLB.out, HNL.out]; decide)) ?_; clear H HSX HOX2; intro vb wb HO2 HGwb H; simp only [pA])) | ((with_reducible show wpList _ _ _ (Oper.mk (some 35) (Op.buildSlice 33 _ _) _ _ _ _ :: _) _ _); (refine L_bs H (by kernel_rfl) 33 2 _ rfl (#[(0, .int .u8 ((n : Int) % 256)), (1, .int .u8 ((n : Int) / 256 % 256))]) (by kernel_rfl) 5 ([.int .u8 ((n : Int) % 256), .int .u8 ((n : Int) / 256 % 256)]) (fun _ => by kernel_rfl) ?_); clear H; intro g35 w35 HGg35 HEg35 H; simp only [pA]) | (at_builtin; (have HSX := kp (slb2 (H.out.at 0 rfl)); have HOX2 := kp (owns_ext HO2.out HEg35.out); have H2 := kp H.out.tl; clear H; have H := H2; clear H2; refine L_appB H rfl _ _ rfl (g1 + 1) (by have q1 := HB1.out; have q2 : g1 < _ := H.out.lt 0 rfl; omega) (by have q1 := HB1.out; have q2 : g1 < _ := H.out.lt 0 rfl; omega) (by intro zz hz; simp at hz; have q1 := HB1.out; have q2 : g1 < _ := H.out.lt 0 rfl; omega) _ _ rfl HOX2.out _ _ rfl HSX.out ((by rw [List.length_append, HLB.out, HNL.out]; simp)) ?_; clear H HSX HOX2; intro vc wc HO3 HGwc H; simp only [pA])) | (at_builtin; (have HSX := kp (HS.out.ext H.out.1); have HOX2 := HO3; refine L_appB H rfl _ _ rfl (g1 + 1) (by have q1 := HB1.out; have q2 : g1 < _ := H.out.lt 0 rfl; omega) (by have q1 := HB1.out; have q2 : g1 < _ := H.out.lt 0 rfl; omega) (by intro zz hz; simp at hz; have q1 := HB1.out; have q2 : g1 < _ := H.out.lt 0 rfl; omega) _ _ rfl HOX2.out _ _ rfl HSX.out ((by rw [List.length_append, List.length_append, HLB.out, HNL.out]; have := HD.out; simp; omega)) ?_; clear H HSX HOX2; intro vd wd HO4 HGwd H; simp only [pA])))
   go_ret
   rw [HL.out, ← HFR.out] at HO4
   exact ⟨_, rfl, owns_weak HO4.out HB1.out, H.out.1⟩
theorem front_short (kind count : Int) (nonce : Vc 16) {data : By} (hd : data.length ≤ 100000) : (frontF kind count nonce.1 data).length ≤ 200000 ∧ 0 < (frontF kind count nonce.1 data).length := by
 rw [frontF_len _ _ _ _ nonce.2]; omega
theorem signed_1 (k : By) (count : Int) (nonce data : By) : signedF k 1 count nonce data = frontF 1 count nonce data ++ List.replicate 16 0#8 := by simp [signedF, zv]
theorem signed_n (k : By) {kind : Int} (h : kind ≠ 1) (count : Int) (nonce data : By) : signedF k kind count nonce data = frontF kind count nonce data ++ macF k (frontF kind count nonce data) := by simp [signedF, h]
set_option maxRecDepth 4000 in
set_option maxHeartbeats 1600000 in
theorem signed_any (k : Vc 16) (kind count : Int) (hk : 0 ≤ kind) (hk1 : kind < 256) (nonce : Vc 16) (ad : Option Addr) (n c : Nat) (data : By) (hd : data.length ≤ 100000) (w : World) (hs : SlB w (.slice ad n c) data) :
  Calls Try.prog 47 #[.agg (cat (partsM kind count nonce ad n c)).toArray, .agg (k.1.map V8).toArray] w (RetO (signedF k.1 kind count nonce.1 data) w) := by
 have HL := kp hs.len
 have H := kp (Loc.start w)
 have HS := kp hs
 have HFL := kp (front_short kind count nonce hd)
 have HB := kp (fun w hs => mbytes_any kind count hk hk1 nonce ad n c data hd w hs)
 have HM := kp (fun v w hs => mac_any k.1 (frontF kind count nonce.1 data) k.2 (by have := HFL.out.1; omega) v w hs)
 have HML := kp (macF_len k.1 (frontF kind count nonce.1 data))
 have HSN := kp (fun h : kind ≠ 1 => signed_n k.1 h count nonce.1 data)
 have HS1 := kp (signed_1 k.1 count nonce.1 data)
 clear hs hk hk1 hd
 go_enter Try.func47, Try.ntmps47
 generalize h3 : ((Code.region 3 _ _ : Code).seq _) = R3
 generalize h4 : (Code.region 4 _ _ : Code) = R4
 go_wp2_with (first | ((with_reducible refine isBx 2 78 ?_); (refine L_box H rfl 78 _ rfl (cat (partsM kind count nonce ad n c)) rfl ?_); clear H; intro g2 w2 HGg2 HEg2 H; simp only [pA]) | ((with_reducible refine isBx 3 25 ?_); (refine L_box H rfl 25 _ rfl (cat ([Lf.v k])) rfl ?_); clear H; intro g3 w3 HGg3 HEg3 H; simp only [pA]) | ((with_reducible refine isLd 78 ?_); (refine L_fa H rfl 78 _ rfl 1 rfl rfl Try.underlying78 rfl (by kernel_rfl) ?_); simp only [pA]) | (go_at_call 65; refine (HB.out _ (HS.out.ext H.out.1)).mono ?_; rintro e wa ⟨v, rfl, ho, hx⟩; have HO := kp ho; have HLT := kp (H.out.lt 0 rfl); have HLU := kp (H.out.lt 1 rfl); clear ho; replace H := kp (H.out.ext hx); have HXC := kp hx; clear hx) | ((with_reducible refine isLd 5 ?_); (refine L_f1 H rfl 5 _ rfl 1 rfl _ rfl _ rfl _ rfl Try.underlying5 rfl ?_); simp only [pA]))
 ·rename (kind == 1) = true => hk1
  have hk2 : kind = 1 := by simpa using hk1
  clear hk1
  subst hk2
  subst h3
  have HX0 := HXC
  go_wp2_with (at_builtin; refine L_appZ H rfl _ rfl (w3.heap.size) (by have q1 : g3 < _ := HLT.out; have q2 : g2 < _ := HLU.out; have q3 := H.out.1.size; have q4 := HEg2.out.size; have q5 := HEg3.out.size; have q6 := HX0.out.size; omega) (by have q1 : g3 < _ := HLT.out; have q2 : g2 < _ := HLU.out; have q3 := H.out.1.size; have q4 := HEg2.out.size; have q5 := HEg3.out.size; have q6 := HX0.out.size; omega) (by intro zz hz; simp at hz; have q1 : g3 < _ := HLT.out; have q2 : g2 < _ := HLU.out; have q3 := H.out.1.size; have q4 := HEg2.out.size; have q5 := HEg3.out.size; have q6 := HX0.out.size; omega) _ _ rfl (HO).out (HFL.out.2) ((by have := HFL.out.1; omega)) ?_; clear H; intro vb wb HO2 HGwb H; simp only [pA])
  go_ret
  rw [← HS1.out] at HO2
  exact ⟨_, rfl, owns_weak HO2.out (by have q1 : g3 < _ := HLT.out; have q2 : g2 < _ := HLU.out; have q3 := H.out.1.size; have q4 := HEg2.out.size; have q5 := HEg3.out.size; have q6 := HX0.out.size; omega), H.out.1⟩
 ·rename (kind == 1) = false => hk1
  have HSK := kp (HSN.out (by simpa using hk1))
  clear hk1
  subst h4
  have HX0 := HXC
  go_wp2_with (first | ((with_reducible refine isLd 25 ?_); (refine L_fv H rfl 25 _ rfl 0 rfl _ rfl _ rfl rfl Try.underlying25 rfl (by kernel_rfl) ?_); simp only [pA]) | (go_at_call 66; refine (HM.out _ _ (SlB.of_owns HO.out)).mono ?_; rintro e wm ⟨rfl, hx⟩; have HOM := kp (owns_ext HO.out hx); replace H := kp (H.out.ext hx); have HXC := kp hx; clear hx) | (((with_reducible refine isAl 6 115 ?_); (refine L_alloc H rfl 115 rfl (cat ([Lf.v (zv 16)])) (fun _ _ => by kernel_rfl) ?_); clear H; intro g6 w6 HGg6 HEg6 H; simp only [pA]); have HL6 := kp (show Lc w6 g6 115 _ from H.out.at 0 rfl)) | ((with_reducible refine isSt 115 ?_); (refine L_sv H rfl rfl 115 _ _ rfl 0 rfl _ rfl _ rfl (Lf.v ⟨_, HML.out⟩) rfl rfl rfl (by kernel_rfl) (_) rfl ?_; clear H; intro w7 HWw7 H; simp only [szA] at H)) | (at_builtin; (have HSX := kp (SlB_part H.out 0 rfl 0 0 rfl rfl 16); have HOX2 := kp (owns_wroteT (owns_ext HOM.out HEg6.out) HWw7.out HL6.out (show 5 ≠ 115 from by decide)); have H2 := kp H.out.tl; clear H; have H := H2; clear H2; refine L_appB H rfl _ _ rfl (w3.heap.size) (by have q1 : g3 < _ := HLT.out; have q2 : g2 < _ := HLU.out; have q3 := H.out.1.size; have q4 := HEg2.out.size; have q5 := HEg3.out.size; have q6 := HX0.out.size; have q7 := HXC.out.size; have q8 := HEg6.out.size; have q9 := HWw7.out.size; omega) (by have q1 : g3 < _ := HLT.out; have q2 : g2 < _ := HLU.out; have q3 := H.out.1.size; have q4 := HEg2.out.size; have q5 := HEg3.out.size; have q6 := HX0.out.size; have q7 := HXC.out.size; have q8 := HEg6.out.size; have q9 := HWw7.out.size; omega) (by intro zz hz; simp at hz; have q1 : g3 < _ := HLT.out; have q2 : g2 < _ := HLU.out; have q3 := H.out.1.size; have q4 := HEg2.out.size; have q5 := HEg3.out.size; have q6 := HX0.out.size; have q7 := HXC.out.size; have q8 := HEg6.out.size; have q9 := HWw7.out.size; omega) _ _ rfl HOX2.out _ _ rfl HSX.out ((by rw [HML.out]; have := HFL.out.1; omega)) ?_; clear H HSX HOX2; intro vb wb HO2 HGwb H; simp only [pA])))
  go_ret
  rw [← HSK.out] at HO2
  exact ⟨_, rfl, owns_weak HO2.out (by have q1 : g3 < _ := HLT.out; have q2 : g2 < _ := HLU.out; have q3 := H.out.1.size; have q4 := HEg2.out.size; have q5 := HEg3.out.size; have q6 := HX0.out.size; omega), H.out.1⟩
section
variable {P : Program} {ops : Array Oper}
structure InvV (ops : Array Oper) (S : Tmp → Value → World → Prop) (R : Sto → List Value → World → Prop) (St : List Sto) (n : Nat) (W : World) (a0 : Act) (rem : List Nat) (listed : Array Bool) (a : Act) (w : World) : Prop where
 head : HeadInv .any ops n listed
 nodup : rem.Nodup
 lt : ∀ j ∈ rem, j < n
 mem : ∀ j, j < n → (listed.getD j false = true ↔ j ∉ rem)
 size : a.tmps.size = a0.tmps.size
 defers : a.defers = a0.defers
 done : ∀ d, (∃ j o, j < n ∧ j ∉ rem ∧ ops[j]? = some o ∧ o.dst = some d) → ∃ v, a.tmps[d]? = some v ∧ S d v w
 open_ : ∀ d, (∀ j o, j < n → j ∉ rem → ops[j]? = some o → o.dst ≠ some d) → a.tmps[d]? = a0.tmps[d]?
 out : Out (St.map (·.g)) W w
 old : ∀ s ∈ St, s.i ∈ rem → Lc w s.g s.T s.old
 new : ∀ s ∈ St, s.i ∉ rem → ∃ cs, R s cs w ∧ Lc w s.g s.T cs
theorem InvV.step {S : Tmp → Value → World → Prop} {R : Sto → List Value → World → Prop} {St : List Sto} (hS : ∀ d v w w', S d v w → Out (St.map (·.g)) w w' → S d v w') {n : Nat} {W : World} {a0 : Act} {rem : List Nat} {listed : Array Bool} {a : Act} {w w' : World} (inv : InvV ops S R St n W a0 rem listed a w)
  {i : Nat} {o : Oper} (hi : i ∈ Region.ready .any ops listed) (hin : i < n) (ho : ops[i]? = some o) (v : Value) (hext : Out (St.map (·.g)) w w')
  (hsz : ∀ (j : Nat) o d, j < n → ops[j]? = some o → o.dst = some d → d < a0.tmps.size)
  (hv : ∀ d, o.dst = some d → S d v w')
  (hold : ∀ s ∈ St, s.i ∈ rem.erase i → Lc w' s.g s.T s.old) (hnew : ∀ s ∈ St, s.i ∉ rem.erase i → ∃ cs, R s cs w' ∧ Lc w' s.g s.T cs) :
  InvV ops S R St n W a0 (rem.erase i) (listed.setIfInBounds i true) (a.put o.dst v) w' := by
 have hun := (mem_ready.1 hi).1
 have hirem : i ∈ rem := by
  rcases Classical.em (i ∈ rem) with h | h
  ·exact h
  ·have := (inv.mem i hin).2 h
   rw [getD_both hun] at this; cases this
 have hmem : ∀ j, j < n → (j ∉ rem.erase i ↔ j ∉ rem ∨ j = i) := fun j _ => by
  rw [inv.nodup.mem_erase_iff]
  constructor
  ·intro h; by_cases hj : j = i
   ·exact .inr hj
   ·exact .inl fun hm => h ⟨hj, hm⟩
  ·rintro (h | h) ⟨h1, h2⟩
   ·exact h h2
   ·exact h1 h
 have hlen : i < listed.size := by
  rcases Nat.lt_or_ge i listed.size with h | h
  ·exact h
  ·simp [Array.getElem?_eq_none h] at hun
 refine ⟨inv.head.set hi hin, inv.nodup.erase i, fun j hj => inv.lt j (List.mem_of_mem_erase hj), fun j hj => ?_, by rw [put_size, inv.size], by rw [put_defers, inv.defers], fun d h => ?_, fun d h => ?_, inv.out.trans hext, hold, hnew⟩
 ·rw [hmem j hj]
  by_cases hji : i = j
  ·subst hji; simp [hlen]
  ·rw [getD_set_ne false hji, inv.mem j hj]
   exact ⟨fun h => .inl h, fun h => h.resolve_right fun e => hji e.symm⟩
 ·obtain ⟨j, oj, hj, hjr, hoj, hdj⟩ := h
  by_cases hod : o.dst = some d
  ·rw [hod, put_get, if_pos rfl]
   have hlt : d < a.tmps.size := by rw [inv.size]; exact hsz i o d hin ho hod
   exact ⟨v, by rw [if_pos hlt], hv d hod⟩
  ·rw [put_other _ _ _ _ hod]
   obtain ⟨u, hu1, hu2⟩ := inv.done d ⟨j, oj, hj, (by
    rcases (hmem j hj).1 hjr with h | h
    ·exact h
    ·subst h; rw [ho] at hoj; cases hoj; exact absurd hdj hod), hoj, hdj⟩
   exact ⟨u, hu1, hS d u w w' hu2 hext⟩
 ·have hod : o.dst ≠ some d := h i o hin ((hmem i hin).2 (.inr rfl)) ho
  rw [put_other _ _ _ _ hod]
  exact inv.open_ d fun j oj hj hjr hoj => h j oj hj ((hmem j hj).2 (.inl hjr)) hoj
def FinV (ops : Array Oper) (S : Tmp → Value → World → Prop) (R : Sto → List Value → World → Prop) (St : List Sto) (n : Nat) (W : World) (a0 a' : Act) (w' : World) : Prop :=
 Out (St.map (·.g)) W w' ∧ a'.tmps.size = a0.tmps.size ∧ a'.defers = a0.defers ∧ (∀ d, (∃ j o, j < n ∧ ops[j]? = some o ∧ o.dst = some d) → ∃ v, a'.tmps[d]? = some v ∧ S d v w') ∧ (∀ d, (∀ j o, j < n → ops[j]? = some o → o.dst ≠ some d) → a'.tmps[d]? = a0.tmps[d]?) ∧
 ∀ s ∈ St, ∃ cs, R s cs w' ∧ Lc w' s.g s.T cs
theorem flat_freeV {S : Tmp → Value → World → Prop} {R : Sto → List Value → World → Prop} {St : List Sto} (hS : ∀ d v w w', S d v w → Out (St.map (·.g)) w w' → S d v w') (hR : ∀ s ∈ St, ∀ cs w w', R s cs w → Out (St.map (·.g)) w w' → R s cs w') {n : Nat} {W : World} {a0 : Act} {Q : Exit → Act → World → Prop} (hB : flatB ops n = true) (hSi : ∀ s ∈ St, ∀ s' ∈ St, s.i = s'.i → s = s') (hSg : ∀ s ∈ St, ∀ s' ∈ St, s.g = s'.g → s = s')
  (hsz : ∀ (j : Nat) o d, j < n → ops[j]? = some o → o.dst = some d → d < a0.tmps.size)
  (hq : ∀ i o, i < n → (∀ s ∈ St, s.i ≠ i) → ops[i]? = some o → ∀ (b : Act) (w : World), b.tmps.size = a0.tmps.size → (∀ d ∈ o.looksAt ops, (∀ j o, j < n → ops[j]? = some o → o.dst ≠ some d) → b.tmps[d]? = a0.tmps[d]?) → Out (St.map (·.g)) W w → (∀ d ∈ o.looksAt ops, (∃ j o, j < n ∧ ops[j]? = some o ∧ o.dst = some d) → ∃ v, b.tmps[d]? = some v ∧ S d v w) →
   ∀ K : Act → World → Prop, (∀ v w', (∀ d, o.dst = some d → S d v w') → Ext w w' → K (b.put o.dst v) w') → if Region.wanted o (yielded ops b.tmps) then o.wp P b w K Q else K (b.put o.dst undef) w)
  (hst : ∀ s ∈ St, ∀ o, ops[s.i]? = some o → o.dst = none ∧ o.guard = none ∧ ∀ (b : Act) (w : World), b.tmps.size = a0.tmps.size → (∀ d ∈ o.looksAt ops, (∀ j o, j < n → ops[j]? = some o → o.dst ≠ some d) → b.tmps[d]? = a0.tmps[d]?) → Out (St.map (·.g)) W w → (∀ d ∈ o.looksAt ops, (∃ j o, j < n ∧ ops[j]? = some o ∧ o.dst = some d) → ∃ v, b.tmps[d]? = some v ∧ S d v w) → Lc w s.g s.T s.old → ∃ cs, R s cs (w.setRow s.g cs.toArray) ∧ (execOp b.eval o).run P w = .ok .skip (w.setRow s.g cs.toArray))
  (ht : ∀ a' w', FinV ops S R St n W a0 a' w' → wpList P ops Q (ops.toList.drop n) a' w') :
  ∀ (f : Nat) (rem : List Nat) (listed : Array Bool) (a : Act) (w : World), rem.length = f → InvV ops S R St n W a0 rem listed a w → wpAny P .any ops Q (f + (ops.size - n)) listed a w := by
 simp only [flatB, Bool.and_eq_true, Bool.or_eq_true, decide_eq_true_eq] at hB
 obtain ⟨⟨⟨⟨hsel, hn⟩, hsc⟩, hseq⟩, hhd⟩ := hB
 intro f
 induction f with
 | zero =>
  intro rem listed a w hf inv
  have hnil : rem = [] := List.eq_nil_of_length_eq_zero hf
  subst hnil
  have hlisted : listed = (List.replicate n true ++ List.replicate (ops.size - n) false).toArray := by
   have hs := inv.head.size
   refine Array.ext (by simp [hs]; omega) fun j h1 h2 => ?_
   rcases Nat.lt_or_ge j n with hj | hj
   ·have := (inv.mem j hj).2 (by simp)
    simp [h1] at this
    simp [this, hj, List.getElem_append_left]
   ·have := inv.head.tail j hj (by rw [← hs]; exact h1)
    simp [h1] at this
    rw [this]
    simp only [List.getElem_toArray]
    rw [List.getElem_append_right (by simpa using hj)]
    simp
  have hfin : FinV ops S R St n W a0 a w :=
   ⟨inv.out, inv.size, inv.defers, fun d ⟨j, o, hj, hoj, hdj⟩ => inv.done d ⟨j, o, hj, by simp, hoj, hdj⟩, fun d h => inv.open_ d fun j o hj _ hoj => h j o hj hoj, fun s hs => inv.new s hs (by simp)⟩
  have hl : (ops.toList.drop n).length = ops.size - n := by simp
  have := wpAny_of_seq (P := P) (md := .any) (Q' := Q) (ops := ops) (ops.toList.drop n) n listed a w (fun j => by simp [List.getElem?_drop]) (by rw [hl, hlisted]; exact hseq) (ht a w hfin)
  rw [hl] at this
  rw [Nat.zero_add]; exact this
 | succ f ih =>
  intro rem listed a w hf inv
  have hne : ∃ i, i ∈ rem := by
   cases rem with
   | nil => simp at hf
   | cons x l => exact ⟨x, by simp⟩
  have hpos : 0 < n := by obtain ⟨i, hi⟩ := hne; have := inv.lt i hi; omega
  have hleast : ∀ k, (∃ i, i ≤ k ∧ i ∈ rem) → ∃ i ∈ rem, ∀ j ∈ rem, i ≤ j := by
   intro k
   induction k with
   | zero => rintro ⟨i, hi, him⟩; exact ⟨i, him, fun j _ => by omega⟩
   | succ k ihk =>
    rintro ⟨i, hi, him⟩
    rcases Classical.em (∃ i, i ≤ k ∧ i ∈ rem) with h | h
    ·exact ihk h
    ·refine ⟨i, him, fun j hj => ?_⟩
     rcases Nat.lt_or_ge j i with h' | h'
     ·exact absurd ⟨j, by omega, hj⟩ h
     ·exact h'
  obtain ⟨i9, hi9⟩ := hne
  obtain ⟨i0, hi0, hmin⟩ := hleast i9 ⟨i9, Nat.le_refl _, hi9⟩
  have hi0n := inv.lt i0 hi0
  have hi0u : listed.getD i0 false = false := by
   cases h : listed.getD i0 false with
   | false => rfl
   | true => exact absurd hi0 ((inv.mem i0 hi0n).1 h)
  have hi0s : i0 < listed.size := by rw [inv.head.size]; omega
  have hrow := fun i (hi : i < n) => List.all_eq_true.1 hhd i (List.mem_range.2 hi)
  have hready : i0 ∈ Region.ready .any ops listed := by
   have hr := hrow i0 hi0n
   cases ho : ops[i0]? with
   | none => simp [ho] at hr
   | some o =>
    simp only [ho, Bool.and_eq_true] at hr
    refine mem_ready.2 ⟨getD_in hi0s hi0u, o, ho, fun e he hb => ?_⟩
    have := Array.all_eq_true'.1 hr.1 e he
    simp [hb] at this
    refine (inv.mem e.on (by omega)).2 fun hm => ?_
    have := hmin _ hm; omega
  rw [show f + 1 + (ops.size - n) = (f + (ops.size - n)) + 1 by omega]
  refine ⟨fun h => (by rw [h] at hready; cases hready), fun i hi => ?_⟩
  have hin : i < n := by
   rcases Nat.lt_or_ge i n with h | h
   ·exact h
   ·rcases hsc with ⟨⟨hlt, hs⟩, hc⟩ | heq
    ·exact absurd hi (tail_waits hs hc hlt inv.head _ i0 rfl hi0n (getD_in hi0s hi0u) i h)
    ·obtain ⟨_, o, ho, _⟩ := mem_ready.1 hi
     have := (Array.getElem?_eq_some_iff.1 ho).1
     omega
  obtain ⟨hun, o, ho, hall⟩ := mem_ready.1 hi
  have hirem : i ∈ rem := by
   rcases Classical.em (i ∈ rem) with h | h
   ·exact h
   ·have := (inv.mem i hin).2 h
    rw [getD_both hun] at this; cases this
  have hlen : (rem.erase i).length = f := by rw [List.length_erase_of_mem hirem]; omega
  have hlg : ∀ d ∈ o.looksAt ops, (∃ j oj, j < n ∧ ops[j]? = some oj ∧ oj.dst = some d) → ∃ v, a.tmps[d]? = some v ∧ S d v w := fun d hd ⟨j, oj, hj, hoj, hdj⟩ => by
   have hr := hrow i hin
   simp only [ho, Bool.and_eq_true] at hr
   have h2 := List.all_eq_true.1 hr.2 d hd
   have h3 := List.all_eq_true.1 h2 j (List.mem_range.2 hj)
   simp only [hoj, hdj, Bool.or_eq_true] at h3
   have h4 : Region.waitsFor .any ops i j = true := by
    rcases h3 with h | h
    ·simp at h
    ·exact h
   obtain ⟨oi, hoi, e, he, hb, hon⟩ := Region.waitsFor_spec h4
   have : oi = o := Option.some.inj (hoi.symm.trans ho)
   subst this
   have := hall e he hb
   rw [hon] at this
   exact inv.done d ⟨j, oj, hj, (inv.mem j hj).1 this, hoj, hdj⟩
  have hopn : ∀ d ∈ o.looksAt ops, (∀ j o, j < n → ops[j]? = some o → o.dst ≠ some d) → a.tmps[d]? = a0.tmps[d]? := fun d _ h => inv.open_ d fun j o hj _ hoj => h j o hj hoj
  unfold wpOp
  simp only [ho]
  by_cases hs : ∃ s ∈ St, s.i = i
  ·obtain ⟨s, hsm, hsi⟩ := hs
   obtain ⟨hd, hg, hrun⟩ := hst s hsm o (by rw [hsi]; exact ho)
   rw [if_pos (by simp [Region.wanted, hg])]
   refine .inl ?_
   obtain ⟨ncs, hRn, hrun⟩ := hrun a w inv.size hopn inv.out hlg (inv.old s hsm (by rw [hsi]; exact hirem))
   unfold Oper.wp
   rw [hrun]
   simp only [Oper.upon]
   have hgm : s.g ∈ St.map (·.g) := List.mem_map.2 ⟨s, hsm, rfl⟩
   have hother : ∀ s' ∈ St, s' ≠ s → ∀ cs, Lc w s'.g s'.T cs → Lc (w.setRow s.g ncs.toArray) s'.g s'.T cs := fun s' hs' hne cs h => h.other (fun e => hne (hSg s' hs' s hsm e)) _
   refine ih (rem.erase i) _ _ _ hlen (inv.step hS hi hin ho undef (Out.set hgm w _) hsz (fun d hd' => by rw [hd] at hd'; cases hd') (fun s' hs' hr => ?_) (fun s' hs' hr => ?_))
   ·have hne : s' ≠ s := fun e => by subst e; rw [hsi] at hr; exact inv.nodup.not_mem_erase hr
    exact hother s' hs' hne _ (inv.old s' hs' (List.mem_of_mem_erase hr))
   ·by_cases he : s' = s
    ·subst he
     exact ⟨ncs, hRn, (inv.old s' hs' (by rw [hsi]; exact hirem)).set _⟩
    ·obtain ⟨c2, r2, l2⟩ := inv.new s' hs' (fun hm => hr ((inv.nodup.mem_erase_iff).2 ⟨fun e => he (hSi s' hs' s hsm (e.trans hsi.symm)), hm⟩))
     exact ⟨c2, hR s' hs' c2 w _ r2 (Out.set hgm w _), hother s' hs' he _ l2⟩
  ·have hnS : ∀ s ∈ St, s.i ≠ i := fun s h1 h2 => hs ⟨s, h1, h2⟩
   have H := hq i o hin hnS ho a w inv.size hopn inv.out hlg
    (wpAny P .any ops Q (f + (ops.size - n)) (listed.setIfInBounds i true))
    (fun v w' hv hext => ih (rem.erase i) _ _ _ hlen (inv.step hS hi hin ho v (Out.of_ext _ hext) hsz hv (fun s' hs' hr => (inv.old s' hs' (List.mem_of_mem_erase hr)).ext hext) (fun s' hs' hr => by
     obtain ⟨c2, r2, l2⟩ := inv.new s' hs' (fun hm => hr ((inv.nodup.mem_erase_iff).2 ⟨hnS s' hs', hm⟩))
     exact ⟨c2, hR s' hs' c2 w _ r2 (Out.of_ext _ hext), l2.ext hext⟩)))
   split
   ·rename_i hw; rw [if_pos hw] at H; exact .inl H
   ·rename_i hw; rw [if_neg hw] at H; exact H
def wpV (P : Program) (ops : Array Oper) (W : World) (S : Tmp → Value → World → Prop) (R : Sto → List Value → World → Prop) (St : List Sto) (D : List Tmp) (fin : Act → Prop) : Nat → List Oper → Act → Prop
 | _, [], a => fin a
 | k, o :: l, a => match St.find? (fun s => s.i == k) with
  | some s => (o.dst = none ∧ o.guard = none ∧ ∀ w, Out (St.map (·.g)) W w → (∀ d ∈ o.looksAt ops, d ∈ D → S d (a.tmps.getD d undef) w) → Lc w s.g s.T s.old → ∃ cs, R s cs (w.setRow s.g cs.toArray) ∧ (execOp a.eval o).run P w = .ok .skip (w.setRow s.g cs.toArray)) ∧ wpV P ops W S R St D fin (k + 1) l a
  | none => (∀ w, Out (St.map (·.g)) W w → (∀ d ∈ o.looksAt ops, d ∈ D → S d (a.tmps.getD d undef) w) → wpList P ops (KS S o a w) [o] a w) ∧ ∀ v, wpV P ops W S R St D fin (k + 1) l (a.put o.dst v)
theorem free_of_walkV {W : World} {S : Tmp → Value → World → Prop} {R : Sto → List Value → World → Prop} {St : List Sto} {D : List Tmp} {fin : Act → Prop} {Q : Exit → Act → World → Prop} (hsel : ∀ (j : Nat) (o : Oper) cs b, ops[j]? = some o → o.op ≠ .select cs b) : ∀ (l : List Oper) (k : Nat) (a : Act), (∀ o ∈ l, ∃ j : Nat, ops[j]? = some o) → (∀ o ∈ l, ∀ d, o.dst = some d → d < a.tmps.size) → topoB ops l = true →
  wpV P ops W S R St D fin k l a → ∀ (j : Nat) o, l[j]? = some o → ∀ (b : Act) (w : World), b.tmps.size = a.tmps.size → (∀ d ∈ o.looksAt ops, d ∉ dsts l → b.tmps[d]? = a.tmps[d]?) → Out (St.map (·.g)) W w → (∀ d ∈ o.looksAt ops, d ∈ D → S d (b.tmps.getD d undef) w) →
   match St.find? (fun s => s.i == k + j) with
   | some s => o.dst = none ∧ o.guard = none ∧ (Lc w s.g s.T s.old → ∃ cs, R s cs (w.setRow s.g cs.toArray) ∧ (execOp b.eval o).run P w = .ok .skip (w.setRow s.g cs.toArray))
   | none => ∀ K : Act → World → Prop, (∀ v w', (∀ d, o.dst = some d → S d v w') → Ext w w' → K (b.put o.dst v) w') → if Region.wanted o (yielded ops b.tmps) then o.wp P b w K Q else K (b.put o.dst undef) w
 | [], _, _, _, _, _, _, j, o, ho => by simp at ho
 | o :: l, k, a, hin, hlt, ht, h, 0, o', ho' => by
  have hoo : o = o' := by simpa using ho'
  subst hoo
  simp only [topoB, Bool.and_eq_true] at ht
  obtain ⟨⟨t1, t2⟩, t3⟩ := ht
  intro b w hb hag hext hSd
  have hl : ∀ d ∈ o.looksAt ops, a.tmps[d]? = b.tmps[d]? := fun d hd => by
   have := List.all_eq_true.1 t1 d hd
   exact (hag d hd (by simpa using this)).symm
  obtain ⟨j, hj⟩ := hin o (by simp)
  obtain ⟨e1, e2⟩ := eval_same (ops := ops) hl (fun cs b => hsel j o cs b hj)
  have hSa : ∀ d ∈ o.looksAt ops, d ∈ D → S d (a.tmps.getD d undef) w := fun d hd hD => by
   have := hSd d hd hD
   rw [Array.getD_eq_getD_getElem?] at this ⊢
   rw [hl d hd]; exact this
  unfold wpV at h
  rw [Nat.add_zero]
  cases hf : St.find? (fun s => s.i == k) with
  | some s =>
   rw [hf] at h
   obtain ⟨⟨h1, h2, h3⟩, _⟩ := h
   refine ⟨h1, h2, fun hL => ?_⟩
   rw [← e1]; exact h3 w hext hSa hL
  | none =>
   rw [hf] at h
   intro K hK
   have H := h.1 w hext hSa
   unfold wpList at H
   rw [e2] at H
   split at H
   ·rename_i hw
    rw [if_pos hw]
    rcases H with H | ⟨_, _, _, hc, _⟩
    ·exact wp_transfer e1 (hlt o (by simp)) (Oper.wp_mono (fun _ _ h => h) H) hK
    ·cases hc
   ·rename_i hw
    rw [if_neg hw]
    obtain ⟨_, u, he, hs, hx⟩ := H
    refine hK undef w (fun d hd => ?_) (Ext.refl w)
    rw [hd] at he
    rw [put_inj (hlt o (by simp) d hd) he]
    exact hs d hd
 | o :: l, k, a, hin, hlt, ht, h, j + 1, o', ho' => by
  simp only [topoB, Bool.and_eq_true] at ht
  obtain ⟨⟨t1, t2⟩, t3⟩ := ht
  intro b w hb hag hext hSd
  rw [show k + (j + 1) = (k + 1) + j by omega]
  unfold wpV at h
  have hoj : l[j]? = some o' := by simpa using ho'
  have hsame : ∀ c : Act, (c = a ∧ o.dst = none ∨ c = a.put o.dst (b.tmps.getD (o.dst.getD 0) undef)) → ∀ d ∈ o'.looksAt ops, d ∉ dsts l → b.tmps[d]? = c.tmps[d]? := fun c hc d hd hn => by
   rcases hc with ⟨rfl, hod⟩ | rfl
   ·exact hag d hd (by simp only [dsts, List.filterMap_cons, hod]; exact hn)
   ·cases hod : o.dst with
    | none => exact hag d hd (by simp only [dsts, List.filterMap_cons, hod]; exact hn)
    | some e =>
     have he := hlt o (by simp) e hod
     rw [put_get]
     by_cases hde : e = d
     ·subst hde
      rw [if_pos rfl, if_pos he]
      have heb : e < b.tmps.size := by rw [hb]; exact he
      simp [heb]
     ·rw [if_neg hde]
      refine hag d hd ?_
      simp only [dsts, List.filterMap_cons, hod, List.mem_cons, not_or]
      exact ⟨fun e' => hde e'.symm, hn⟩
  cases hf : St.find? (fun s => s.i == k) with
  | some s =>
   rw [hf] at h
   exact free_of_walkV hsel l (k + 1) a (fun x hx => hin x (by simp [hx])) (fun x hx d hd => hlt x (by simp [hx]) d hd) t3 h.2 j o' hoj b w hb (hsame a (.inl ⟨rfl, h.1.1⟩)) hext hSd
  | none =>
   rw [hf] at h
   exact free_of_walkV hsel l (k + 1) _ (fun x hx => hin x (by simp [hx])) (fun x hx d hd => by rw [put_size]; exact hlt x (by simp [hx]) d hd) t3 (h.2 (b.tmps.getD (o.dst.getD 0) undef)) j o' hoj b w (by rw [put_size]; exact hb) (hsame _ (.inr rfl)) hext hSd
theorem region_freeV {id : Nat} {Q : Exit → Act → World → Prop} {a : Act} {w0 W : World} {bs : List Bk} {l : List Oper} (H : Kp (Loc w0 W bs)) (S : Tmp → Value → World → Prop) (R : Sto → List Value → World → Prop) (s0 : Sto) (hR0 : ∀ cs w w', R s0 cs w → Out [s0.g] w w' → R s0 cs w') (hS : ∀ d v w w', S d v w → Out [s0.g] w w' → S d v w') (n : Nat) (hm : P.follows .mixedOrders = true)
  (hB : flatB l.toArray n = true) (hT : topoB l.toArray (l.take n) = true) (hD : ((l.take n).all fun o => match o.dst with | some d => decide (d < a.tmps.size) | none => true) = true)
  (hil0 : s0.i < n) (hin0 : bs[s0.p]? = some (s0.g, s0.T, s0.old))
  (h : wpV P l.toArray W S R [s0] (dsts (l.take n)) (fun a' => ∀ w' cs, Kp (Out [s0.g] W w') → Kp (R s0 cs w') → Kp (Loc w0 w' (bs.set s0.p (s0.g, s0.T, cs))) → (∀ d ∈ dsts (l.take n), S d (a'.tmps.getD d undef) w') → wpList P l.toArray Q (l.drop n) a' w') 0 (l.take n) a) :
  (Code.region id l.toArray true).wp P Q a W := by
 obtain ⟨St, hSt⟩ : ∃ St, St = [s0] := ⟨_, rfl⟩
 have hSe : [s0.g] = St.map (·.g) := by rw [hSt]; rfl
 have hR : ∀ s ∈ St, ∀ cs w w', R s cs w → Out (St.map (·.g)) w w' → R s cs w' := by
  intro s hs
  rw [← hSe]
  rw [hSt] at hs
  obtain rfl : s = s0 := by simpa using hs
  exact hR0
 obtain ⟨is, his⟩ : ∃ is, St.map (·.i) = is := ⟨_, rfl⟩
 obtain ⟨ps, hps⟩ : ∃ ps, St.map (·.p) = ps := ⟨_, rfl⟩
 have hni : is.Nodup := by rw [← his, hSt]; simp
 have hnp : ps.Nodup := by rw [← hps, hSt]; simp
 have hil : is.all (fun i => decide (i < n)) = true := by rw [← his, hSt]; simpa using hil0
 have hin : stoIn bs St := by rw [hSt]; exact ⟨hin0, trivial⟩
 rw [← hSt] at h
 rw [hSe] at hS
 have hn := flatB_le hB
 have hidx : ∀ (i : Nat) (o : Oper), i < n → l.toArray[i]? = some o → (l.take n)[i]? = some o := fun i o hi ho => by
  rw [List.getElem?_take, if_pos hi]; simpa using ho
 have hinl : ∀ (i : Nat) (o : Oper), i < n → l.toArray[i]? = some o → o ∈ l.take n := fun i o hi ho => List.mem_of_getElem? (hidx i o hi ho)
 have hout : ∀ o, o ∈ l.take n → ∃ j : Nat, j < n ∧ l.toArray[j]? = some o := fun o ho => by
  obtain ⟨j, hj⟩ := List.getElem?_of_mem ho
  rw [List.getElem?_take] at hj
  split at hj
  ·rename_i hlt; exact ⟨j, hlt, by simpa using hj⟩
  ·cases hj
 have hlt : ∀ o ∈ l.take n, ∀ d, o.dst = some d → d < a.tmps.size := fun o ho d hd => by
  have := List.all_eq_true.1 hD o ho
  rw [hd] at this; simpa using this
 have hSi : ∀ s ∈ St, ∀ s' ∈ St, s.i = s'.i → s = s' := by
  subst his
  intro s hs s' hs' he
  obtain ⟨j, hj⟩ := List.getElem?_of_mem hs
  obtain ⟨j', hj'⟩ := List.getElem?_of_mem hs'
  have h1 : (St.map (·.i))[j]? = some s.i := by rw [List.getElem?_map, hj]; rfl
  have h2 : (St.map (·.i))[j']? = some s.i := by rw [List.getElem?_map, hj', he]; rfl
  obtain rfl := nodup_get hni h1 h2
  rw [hj] at hj'; exact Option.some.inj hj'
 have hSg : ∀ s ∈ St, ∀ s' ∈ St, s.g = s'.g → s = s' := by
  subst hps
  intro s hs s' hs' he
  obtain ⟨j, hj⟩ := List.getElem?_of_mem hs
  obtain ⟨j', hj'⟩ := List.getElem?_of_mem hs'
  have b1 := stoIn_mem hin s hs
  have b2 := stoIn_mem hin s' hs'
  have hp : s.p = s'.p := by
   have h1 : (bs.map (·.1))[s.p]? = some s.g := by rw [List.getElem?_map, b1]; rfl
   have h2 : (bs.map (·.1))[s'.p]? = some s.g := by rw [List.getElem?_map, b2, he]; rfl
   exact nodup_get H.out.2.1 h1 h2
  have h1 : (St.map (·.p))[j]? = some s.p := by rw [List.getElem?_map, hj]; rfl
  have h2 : (St.map (·.p))[j']? = some s.p := by rw [List.getElem?_map, hj', hp]; rfl
  obtain rfl := nodup_get hnp h1 h2
  rw [hj] at hj'; exact Option.some.inj hj'
 have hfind : ∀ s ∈ St, St.find? (fun s' => s'.i == s.i) = some s := fun s hs => by
  cases hf : St.find? (fun s' => s'.i == s.i) with
  | none => exact absurd (List.find?_eq_none.1 hf s hs) (by simp)
  | some s' =>
   have h1 := List.find?_some hf
   rw [hSi s' (List.mem_of_find?_eq_some hf) s hs (by simpa using h1)]
 have hwalk := free_of_walkV (P := P) (ops := l.toArray) (Q := Q) (Region.noSelect_spec (flatB_sel hB)) (l.take n) 0 a (fun o' ho' => by
   obtain ⟨j, _, hj⟩ := hout o' ho'; exact ⟨j, hj⟩) hlt hT h
 have hSd : ∀ (b : Act) (w : World) (o : Oper), (∀ d ∈ o.looksAt l.toArray, (∃ j o, j < n ∧ l.toArray[j]? = some o ∧ o.dst = some d) → ∃ v, b.tmps[d]? = some v ∧ S d v w) → ∀ d ∈ o.looksAt l.toArray, d ∈ dsts (l.take n) → S d (b.tmps.getD d undef) w := fun b w o hdn d hd hdD => by
  obtain ⟨oj, hoj, hdj⟩ := mem_dsts.1 hdD
  obtain ⟨j, hj, hj2⟩ := hout oj hoj
  obtain ⟨v, hv1, hv2⟩ := hdn d hd ⟨j, oj, hj, hj2, hdj⟩
  rw [Array.getD_eq_getD_getElem?, hv1]; exact hv2
 refine wp_region_any hm ?_
 have HF := flat_freeV (P := P) (ops := l.toArray) (S := S) (R := R) (St := St) hS hR (n := n) (W := W) (a0 := a) (Q := Q) hB hSi hSg
  (fun j o d hj hoj hd => hlt o (hinl j o hj hoj) d hd)
  (fun i o hi2 hne ho b w hb hop hext hdn K hK => by
   have h1 := hwalk i o (hidx i o hi2 ho) b w hb (fun d hd hnd => hop d hd fun j oj hj hoj hdj => hnd (mem_dsts.2 ⟨oj, hinl j oj hj hoj, hdj⟩)) hext (hSd b w o hdn)
   have hno : St.find? (fun s => s.i == 0 + i) = none := List.find?_eq_none.2 fun s hs => by simpa using hne s hs
   rw [hno] at h1
   exact h1 K hK)
  (fun s hs o ho => by
   have hsn : s.i < n := by subst his; simpa using List.all_eq_true.1 hil s.i (List.mem_map.2 ⟨s, hs, rfl⟩)
   have hgen := fun (b : Act) (w : World) (hb : b.tmps.size = a.tmps.size) (hop : ∀ d ∈ o.looksAt l.toArray, (∀ j o, j < n → l.toArray[j]? = some o → o.dst ≠ some d) → b.tmps[d]? = a.tmps[d]?) (hext : Out (St.map (·.g)) W w) (hdn : ∀ d ∈ o.looksAt l.toArray, (∃ j o, j < n ∧ l.toArray[j]? = some o ∧ o.dst = some d) → ∃ v, b.tmps[d]? = some v ∧ S d v w) =>
    hwalk s.i o (hidx s.i o hsn ho) b w hb (fun d hd hnd => hop d hd fun j oj hj hoj hdj => hnd (mem_dsts.2 ⟨oj, hinl j oj hj hoj, hdj⟩)) hext (hSd b w o hdn)
   rw [Nat.zero_add, hfind s hs] at hgen
   have hdg : ∀ (k : Nat) (L : List Oper) (c : Act) (fin : Act → Prop) (D : List Tmp), wpV P l.toArray W S R St D fin k L c → ∀ (j : Nat), L[j]? = some o → k + j = s.i → o.dst = none ∧ o.guard = none := by
    intro k L
    induction L generalizing k with
    | nil => intro c fin D _ j hj; simp at hj
    | cons x L ih =>
     intro c fin D hw j hj hk
     unfold wpV at hw
     match j with
     | 0 =>
      have : x = o := by simpa using hj
      subst this
      rw [show k = s.i by omega, hfind s hs] at hw
      exact ⟨hw.1.1, hw.1.2.1⟩
     | j + 1 =>
      cases hf : St.find? (fun s => s.i == k) with
      | some s' => rw [hf] at hw; exact ih (k + 1) c fin D hw.2 j (by simpa using hj) (by omega)
      | none => rw [hf] at hw; exact ih (k + 1) _ fin D (hw.2 undef) j (by simpa using hj) (by omega)
   obtain ⟨hd, hg⟩ := hdg 0 _ _ _ _ h s.i (hidx s.i o hsn ho) (by omega)
   exact ⟨hd, hg, fun b w hb hop hext hdn hL => (hgen b w hb hop hext hdn).2.2 hL⟩)
  (by
   intro a' w' hf
   obtain ⟨ho, h2, h3, h4, h5, h6⟩ := hf
   have hend : ∀ (L : List Oper) (k : Nat) (c : Act), c.tmps.size = a'.tmps.size → c.defers = a'.defers → (∀ o ∈ L, ∀ d, o.dst = some d → d < c.tmps.size) → (∀ d, d < a'.tmps.size → d ∉ dsts L → c.tmps[d]? = a'.tmps[d]?) → ∀ {D : List Tmp} {fin : Act → Prop}, wpV P l.toArray W S R St D fin k L c → ∃ c', fin c' ∧ c'.tmps.size = a'.tmps.size ∧ c'.defers = a'.defers ∧ ∀ d, d < a'.tmps.size → c'.tmps[d]? = a'.tmps[d]? := by
    intro L
    induction L with
    | nil => intro k c hs hdf _ hag D fin hw; exact ⟨c, hw, hs, hdf, fun d hd => hag d hd (by simp [dsts])⟩
    | cons o L ih =>
     intro k c hs hdf hlt2 hag D fin hw
     unfold wpV at hw
     cases hf : St.find? (fun s => s.i == k) with
     | some s =>
      rw [hf] at hw
      refine ih (k + 1) c hs hdf (fun x hx d hd => hlt2 x (by simp [hx]) d hd) (fun d hd hnd => hag d hd ?_) hw.2
      simp only [dsts, List.filterMap_cons, hw.1.1]; exact hnd
     | none =>
      rw [hf] at hw
      refine ih (k + 1) (c.put o.dst (a'.tmps.getD (o.dst.getD 0) undef)) (by rw [put_size]; exact hs) (by rw [put_defers]; exact hdf) (fun x hx d hd => by rw [put_size]; exact hlt2 x (by simp [hx]) d hd) (fun d hd hnd => ?_) (hw.2 _)
      cases hod : o.dst with
      | none => exact hag d hd (by simp only [dsts, List.filterMap_cons, hod]; exact hnd)
      | some e =>
       have he := hlt2 o (by simp) e hod
       rw [put_get]
       by_cases hde : e = d
       ·subst hde
        rw [if_pos rfl, if_pos he]
        have heb : e < a'.tmps.size := by rw [← hs]; exact he
        simp [heb]
       ·rw [if_neg hde]
        refine hag d hd ?_
        simp only [dsts, List.filterMap_cons, hod, List.mem_cons, not_or]
        exact ⟨fun e' => hde e'.symm, hnd⟩
   obtain ⟨c', hfin, hcs, hcd, hca⟩ := hend (l.take n) 0 a h2.symm h3.symm hlt (fun d hd hnd => (h5 d fun j oj hj hoj hdj => hnd (mem_dsts.2 ⟨oj, hinl j oj hj hoj, hdj⟩)).symm) h
   have : a' = c' := act_ext hcd.symm fun d => by
    by_cases hd : d < a'.tmps.size
    ·exact (hca d hd).symm
    ·rw [Array.getElem?_eq_none (by omega), Array.getElem?_eq_none (by omega)]
   rw [this]
   have hlist : l.toArray.toList.drop n = l.drop n := by simp
   rw [hlist]
   obtain ⟨cs, hcR, hcL⟩ := h6 s0 (by rw [hSt]; simp)
   refine hfin w' cs (kp (by rw [hSe]; exact ho)) (kp hcR) (kp (H.out.applyS (St := [⟨s0.i, s0.p, s0.g, s0.T, s0.old, cs⟩]) ⟨hin0, trivial⟩ (by rw [← hSe] at ho; exact ho) (fun s hs => by
    obtain rfl := List.mem_singleton.1 hs
    exact hcL))) fun d hd => ?_
   obtain ⟨oj, hoj, hdj⟩ := mem_dsts.1 hd
   obtain ⟨j, hj, hj2⟩ := hout oj hoj
   obtain ⟨v, hv1, hv2⟩ := h4 d ⟨j, oj, hj, hj2, hdj⟩
   rw [Array.getD_eq_getD_getElem?, ← this, hv1]; exact hv2)
  n (List.range n) (Array.replicate l.toArray.size false) a W.drew (by simp)
  (by
   refine ⟨⟨by simp, fun j oj _ hl => (by rw [getD_replicate_false] at hl; cases hl), fun t _ ht => getD_in (by simpa using ht) (getD_replicate_false _ _)⟩, List.nodup_range, fun j hj => List.mem_range.1 hj, fun j hj => ?_, rfl, rfl, fun d h => ?_, fun _ _ => rfl, Out.of_ext _ (Ext.drew W), fun s hs _ => ?_, fun s hs hr => ?_⟩
   ·rw [getD_replicate_false]; simp [hj]
   ·obtain ⟨j, o, hj, hjr, _⟩ := h; exact absurd (List.mem_range.2 hj) hjr
   ·exact ((H.out.2.2 _ (List.mem_of_getElem? (stoIn_mem hin s hs))).2).ext (Ext.drew W)
   ·have hsn : s.i < n := by subst his; simpa using List.all_eq_true.1 hil s.i (List.mem_map.2 ⟨s, hs, rfl⟩)
    exact absurd (List.mem_range.2 hsn) hr)
 rw [show n + (l.toArray.size - n) = l.toArray.size by omega] at HF
 exact HF
theorem run_stoC {o : Oper} {a : Act} {w : World} {g i T : Nat} {old new : List Value} {v : Value} (ty : TypeId) (x y : Operand) (ho : o.op = .store ty x y) (hx : a.eval x = .pointer (some ⟨g, i, none⟩)) (hy : a.eval y = v) (hL : Lc w g T old)
  (hz : (P.info? ty).map (·.size) = some 1) (hf : i < old.length) (hn : old.set i v = new) (h1 : v.oneCell' = true) : (execOp a.eval o).run P w = .ok .skip (w.setRow g new.toArray) := by
 have hs := run_storeCells_at (P := P) g i T [v] 0 old.toArray w hL (by simp; omega) (fun u hu => by simp at hu; subst hu; exact h1)
 have hnew : (old.toArray.toList.take (i + 0) ++ [v] ++ old.toArray.toList.drop (i + 0 + [v].length)).toArray = new.toArray := by
  rw [← hn]; simp [List.set_eq_take_append_cons_drop, hf]
 rw [hnew] at hs
 have hv : (storeVar ty ⟨g, i, none⟩ v).run P w = .ok () (w.setRow g new.toArray) := by
  cases hq : P.info? ty with
  | none => simp [hq] at hz
  | some k =>
   have hz : k.size = 1 := by simpa [hq] using hz
   have hcl : v.cells = #[v] := by cases v <;> first | rfl | simp [Value.oneCell'] at h1
   simp [storeVar, sizeOf, typeInfo, hq, hz, hcl] at hs ⊢
   simpa using hs
 unfold execOp
 simp only [ho, hx, hy, Instr.storeAt, Instr.sureAddr, Sem.run_bind, Sem.run_pure, Result.andThen_ok, hv]
end
end Go.Proofs.Ytibncchobkaaiaa
