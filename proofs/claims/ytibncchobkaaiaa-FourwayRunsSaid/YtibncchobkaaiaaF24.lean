/- Texts of this proof, put together: RefDer, RefKey, RefP, RefB. -/
import Derived.Test.YtibncchobkaaiaaF23
import Derived.Test.YtibncchobkaaiaaF12
import Derived.Test.YtibncchobkaaiaaF16
import Derived.Test.YtibncchobkaaiaaF14
import Derived.Test.YtibncchobkaaiaaF11
import Derived.Test.YtibncchobkaaiaaF1
namespace Go.Proofs.Ytibncchobkaaiaa
open Go.RowKit
set_option maxHeartbeats 3200000 in
theorem rderived_any (ks : List (BitVec 8)) (hk : ks.length = 16) (s : ByteArray) (hs : s.size ≤ 32) (vc : Value) (c : List (BitVec 8)) (hc : c.length ≤ 256) (n : Nat) (hn : n ≤ 1024) (w : World) (hv : SlB w vc c) :
  Calls Try.prog 85 #[.agg (ks.map V8).toArray, .string s, vc, .int .i64 n] w (RetO (expandF ks s c n) w) := by
 obtain ⟨iu, hiu, hu⟩ := info_iu
 have HIU := kp hiu
 have HU := kp hu
 obtain ⟨ac, cc, rfl⟩ := hv.form
 have HV := kp hv
 have HK := kp (sizeK ks hk)
 have HIN := kp (fun (i : Int) (w1 : World) (hx : SlB w1 (.slice ac c.length cc) c) => rinput_any s (by omega) _ c (by omega) i w1 hx)
 have HMAC := kp (fun (i : Int) (v : Value) (w1 : World) (hx : SlB w1 v (inputF s c i)) => rmac_any ks (inputF s c i) hk (by simp [inputF, twoF, strB_len]; omega) v w1 hx)
 have HEL := kp (expandF_len ks s c n)
 have HEA := kp (fun i (h : i < n) => expandF_at ks s c n i h)
 have HOE := kp (owns_empty (w.alloc (.cells (ks.map V8).toArray 25)) (w.heap.size + 1) (by simp))
 simp only [World.size_alloc] at HOE
 generalize expandF ks s c n = E at *
 clear hiu hu hv hk
 go_enter Try.func85, Try.ntmps85
 go_wp2_with fail
 go_loopw [9, 10] (fun v i wr => ∃ k : Nat, k ≤ n ∧ i = .int .i64 k ∧ Kp (wr.ownsRow (w.heap.size + 1) 5 1 v (E.take k).length ((E.take k).map V8)) ∧ Kp (Ext (w.alloc (.cells (ks.map V8).toArray 25)) wr)) (fun _ i _ => n - (intOf i).toNat)
 case atStart => exact ⟨0, by omega, rfl, kp (by simpa using HOE.out), kp (Ext.alloc _ _)⟩
 case round =>
  obtain ⟨k, hkn, rfl, HO, HX⟩ := hrel
  by_cases hlt : k < n
  ·have hlt2 : (k : Int) < n := by omega
   have HKR := kp (ext_heap HX.out (hp_new _ _))
   have HVX := kp (HV.out.ext ((Ext.alloc _ _).trans HX.out))
   have hsz : w.heap.size + 1 ≤ wr.heap.size := by have := HX.out.size; simpa using this
   have HB := kp (sizeB (macF ks (inputF s c ((k / 16 : Nat) : Int))) (macF_len _ _))
   have HZ := kp (z16_size (macF ks (inputF s c ((k / 16 : Nat) : Int))) (macF_len _ _))
   obtain ⟨y, hy⟩ : ∃ y, E[k]? = some y := ⟨E[k]'(by rw [HEL.out]; exact hlt), by simp⟩
   have hz0 := HEA.out k hlt
   rw [hy] at hz0
   have hz := hz0.symm
   have HTK := kp (take_snoc E k y hy)
   have hm16 : k % 16 < 16 := by omega
   have HLE := kp (show (E.take k).length + [y].length ≤ 1000000 by rw [List.length_take, HEL.out]; simp; omega)
   clear hy hz0
   go_wp2_with fail
   refine region_spine (tabS [(18, fun v _ => v = .agg (ks.map V8).toArray), (19, fun v _ => v = .string s), (20, fun v _ => v = .slice ac c.length cc), (21, fun v _ => v = .int .i64 k), (22, fun v _ => v = .int .i64 ((k / 16 : Nat) : Int)), (23, fun v w => SlB w v (inputF s c ((k / 16 : Nat) : Int))), (24, fun v _ => v = .agg ((macF ks (inputF s c ((k / 16 : Nat) : Int))).map V8).toArray)]) (tabS_mono _ (by simp only [List.forall_mem_cons]; exact ⟨mono_eq _, mono_eq _, mono_eq _, mono_eq _, mono_eq _, mono_SlB _, mono_eq _, by simp⟩)) 8 7 11 (.cells z16 115) (by kernel_rfl) (by kernel_rfl) (by kernel_rfl) (by kernel_rfl) (by kernel_rfl) (by intro o ho; cases ho; exact ⟨rfl, rfl, by simp, fun _ _ => by kernel_rfl⟩) (by decide) (wr) (.inl rfl) ?_
   simp only [List.take_succ_cons, List.take_zero, List.eraseIdx_cons_succ, List.eraseIdx_cons_zero]
   refine ⟨fun w_ hwv18 S_ => ?_, fun v18 => ?_⟩
   ·obtain ⟨xv18, rfl⟩ := hwv18
    clear S_
    go_wp2_with ((with_reducible refine isLd 25 ?_); (with_reducible refine wpList_load_row rfl 25 _ rfl (w.heap.size) rfl 25 ((ks.map V8).toArray) (0, 0) _ (hp_more HKR.out) Try.underlying25 rfl (HK.out) ?_); simp only [pA])
    exact kso
   simp only [pA]
   refine ⟨fun w_ hwv19 S_ => ?_, fun v19 => ?_⟩
   ·obtain ⟨xv19, rfl⟩ := hwv19
    clear S_
    go_wp2_with fail
    exact kso
   simp only [pA]
   refine ⟨fun w_ hwv20 S_ => ?_, fun v20 => ?_⟩
   ·obtain ⟨xv20, rfl⟩ := hwv20
    clear S_
    go_wp2_with fail
    exact kso
   simp only [pA]
   refine ⟨fun w_ hwv21 S_ => ?_, fun v21 => ?_⟩
   ·obtain ⟨xv21, rfl⟩ := hwv21
    clear S_
    go_wp2_with fail
    exact kso
   simp only [pA]
   refine ⟨fun w_ hwv22 S_ => ?_, fun v22 => ?_⟩
   ·obtain ⟨xv22, rfl⟩ := hwv22
    obtain rfl : v21 = .int .i64 k := hsR S_ 21 rfl
    clear S_
    go_wp2_with fail
    exact ⟨rfl, _, rfl, fun d hd => by cases hd; exact (by simp [tabS]), Ext.refl _⟩
   simp only [pA]
   refine ⟨fun w_ hwv23 S_ => ?_, fun v23 => ?_⟩
   ·obtain ⟨xv23, rfl⟩ := hwv23
    obtain rfl : v19 = .string s := hsR S_ 19 rfl
    obtain rfl : v20 = .slice ac c.length cc := hsR S_ 20 rfl
    obtain rfl : v22 = .int .i64 ((k / 16 : Nat) : Int) := hsR S_ 22 rfl
    clear S_
    go_wp2_with fail
    refine (HIN.out _ _ (HVX.out.ext (Ext.more _ _))).mono ?_
    rintro e w' ⟨v, rfl, ho, hx⟩
    have HSL := kp (SlB.of_owns ho)
    have HXL := kp hx
    clear ho hx
    go_wp2_with fail
    exact ⟨rfl, v, rfl, fun d hd => by cases hd; exact HSL.out, HXL.out⟩
   simp only [pA]
   refine ⟨fun w_ hwv24 S_ => ?_, fun v24 => ?_⟩
   ·obtain ⟨xv24, rfl⟩ := hwv24
    obtain rfl : v18 = .agg (ks.map V8).toArray := hsR S_ 18 rfl
    have h23 := kp (show SlB _ v23 (inputF s c ((k / 16 : Nat) : Int)) from hsR S_ 23 rfl)
    clear S_
    obtain ⟨a7, c7, rfl⟩ := h23.out.form
    go_wp2_with fail
    refine (HMAC.out _ _ _ h23.out).mono ?_
    rintro e w' ⟨rfl, hx⟩
    have HXL := kp hx
    clear hx
    go_wp2_with fail
    exact ⟨rfl, _, rfl, fun d hd => by cases hd; exact rfl, HXL.out⟩
   simp only [pA]
   intro xm xq hfin
   obtain rfl : v24 = .agg ((macF ks (inputF s c ((k / 16 : Nat) : Int))).map V8).toArray := hfin 24 (by decide)
   clear hfin
   simp only [List.setIfInBounds_toArray, List.set_cons_zero, List.set_cons_succ, List.drop_succ_cons, List.drop_zero]
   generalize macF ks (inputF s c ((k / 16 : Nat) : Int)) = mf at *
   have HO9 := kp (owns_ext HO.out ((((Ext.more wr xm).trans (Ext.alloc _ (.cells (mf.map V8).toArray 115))).trans (Ext.more _ xq)).trans (Ext.alloc _ (.cells #[V8 y] 5))))
   have HS9 := kp (SlB.of_block (cap := 1) (l := [y]) (hp_new (more ((more wr xm).alloc (.cells (mf.map V8).toArray 115)) xq) (.cells #[V8 y] 5)))
   simp only [more_size, World.size_alloc] at HS9
   go_wp2_with (first | ((with_reducible refine isSt 115 ?_); with_reducible refine wpList_st_row rfl rfl 115 _ _ rfl (wr.heap.size + xm.blocks.size) ((mf.map V8).toArray) rfl rfl 115 (_) (hp_more (hp_at _ _ _ (by simp))) (HB.out) (HZ.out) (all_V8 _) (by rewrite [setRow_more _ _ _ _ (by first | assumption | (simp <;> omega)), setRow_at _ _ _ _ _ _ (by simp <;> omega)]; rfl) ?_) | (at_builtin; refine wpList_append_SlB rfl _ _ 33 rfl (w.heap.size + 1) 5 iu Try.underlying33 HIU.out HU.out.1 HU.out.2.1 HU.out.2.2 _ _ rfl HO9.out _ [y] rfl HS9.out HLE.out (by simp <;> omega) ?_; intro v' w9 ho9 hg9))
   have HX9 := kp (((((HX.out.trans (Ext.more wr xm)).trans (Ext.alloc _ _)).trans (Ext.more _ xq)).trans (Ext.alloc _ _)).grown hg9 (fun q hq => by have := owns_block HO9.out q hq; simpa using this))
   go_roundw
   case rel => exact ⟨k + 1, by omega, by go_num, kp (by rw [HTK.out]; exact ho9), HX9⟩
   case measure => simp [intOf]; omega
  ·obtain rfl : k = n := by omega
   have hlt2 : ¬ (k : Int) < k := by omega
   have HT := kp (show E.take k = E from List.take_of_length_le (by rw [HEL.out]; exact Nat.le_refl _))
   go_wp2_with fail
   go_ret
   exact ⟨_, rfl, owns_base (by have h := HO.out; rw [HT.out] at h; exact h) (by omega), (Ext.alloc _ _).trans HX.out⟩
def keyTo (l : List (BitVec 8)) (k : Nat) : List (BitVec 8) := l.take k ++ List.replicate (16 - k) 0
theorem keyTo_len (l : List (BitVec 8)) (hl : 16 ≤ l.length) (k : Nat) (hk : k ≤ 16) : (keyTo l k).length = 16 := by
 unfold keyTo; rw [List.length_append, List.length_take, List.length_replicate]; omega
theorem keyTo_step (l : List (BitVec 8)) (hl : 16 ≤ l.length) (k : Nat) (hk : k < 16) (y : BitVec 8) (hy : l[k]? = some y) : (keyTo l k).set k y = keyTo l (k + 1) := by
 unfold keyTo
 rw [List.set_append_right _ _ (by rw [List.length_take]; omega), List.length_take, Nat.min_eq_left (by omega), Nat.sub_self, show 16 - k = (16 - (k + 1)) + 1 by omega, List.replicate_succ, List.set_cons_zero, List.take_add_one, hy]
 simp
set_option maxHeartbeats 1600000 in
theorem rkey_any (l : List (BitVec 8)) (hl : 16 ≤ l.length) (hb : l.length ≤ 1000000000) (v : Value) (w : World) (hs : SlB w v l) :
  Calls Try.prog 86 #[v] w fun e w' => e = .returned (.agg ((l.take 16).map V8).toArray) ∧ Ext w w' := by
 obtain ⟨ad, cap, rfl⟩ := hs.form
 have HS0 := kp hs
 obtain ⟨n, hn⟩ : ∃ n, n = l.length := ⟨_, rfl⟩
 rw [← hn] at hl hb ⊢
 have HN := kp hn
 clear hs hn
 go_enter Try.func86, Try.ntmps86
 go_wp2_with fail
 go_loopw [4] (fun i wr => ∃ (k : Nat) (x : Xtra), k ≤ 16 ∧ i = .int .i64 k ∧ wr = more ((w.alloc (.cells z16 25)).alloc (.cells ((keyTo l k).map V8).toArray 25)) x) (fun i _ => 16 - (intOf i).toNat)
 case atStart => exact ⟨0, _, by omega, rfl, by rw [← more_self]; rfl⟩
 case round =>
  obtain ⟨k, x, hk, rfl, rfl⟩ := hrel
  by_cases hlt : k < 16
  ·obtain ⟨y, hy⟩ : ∃ y, l[k]? = some y := ⟨l[k]'(by rw [← HN.out]; omega), by simp⟩
   obtain ⟨b, off, rfl, hbb, hcell⟩ := HS0.out.at k y hy
   have hb1 : b < w.heap.size + 1 := by omega
   have hb2 : b < w.heap.size + 1 + 1 := by omega
   have hkn : k < n := by omega
   obtain ⟨z, hz⟩ : ∃ z, (keyTo l k)[k]? = some z := ⟨(keyTo l k)[k]'(by rw [keyTo_len l (by rw [← HN.out]; exact hl) k hk]; omega), by simp⟩
   have HK1 := kp (keyTo_step l (by rw [← HN.out]; exact hl) k hlt y hy)
   clear hy
   go_wp2_with fail
   go_roundw
   case rel => exact ⟨k + 1, _, by omega, by go_num, by rw [← HK1.out, List.map_set]⟩
   case measure => simp [intOf]; omega
  ·obtain rfl : k = 16 := by omega
   have HE := kp (show keyTo l 16 = l.take 16 by simp [keyTo])
   have HL := kp (show (l.take 16).length = 16 by rw [List.length_take, ← HN.out]; omega)
   rw [HE.out]
   have HB := kp (sizeK (l.take 16) HL.out)
   have HZ := kp (z16_size (l.take 16) HL.out)
   obtain ⟨m, hm⟩ : ∃ m, l.take 16 = m := ⟨_, rfl⟩
   have HMM := kp hm
   rw [hm] at HB HZ ⊢
   clear hm
   go_wp2_with (first | ((with_reducible refine isLd 25 ?_); (with_reducible refine wpList_load_row rfl 25 _ rfl (w.heap.size + 1) rfl 25 ((m.map V8).toArray) (0, 0) _ (hp_more (hp_at _ _ _ (by simp))) Try.underlying25 rfl (HB.out) ?_); simp only [pA]) | ((with_reducible refine isSt 25 ?_); with_reducible refine wpList_st_row rfl rfl 25 _ _ rfl (w.heap.size) ((m.map V8).toArray) rfl rfl 25 (_) (hp_more (hp_alloc (hp_new _ _))) (HB.out) (HZ.out) (all_V8 _) (by rewrite [setRow_more _ _ _ _ (by first | assumption | (simp <;> omega)), setRow_past _ _ _ _ (by simp <;> omega), setRow_at _ _ _ _ _ _ (by simp <;> omega)]; rfl) ?_))
   exact ret_row Try.results86 (w.heap.size) 25 ((m.map V8).toArray) (0, 0) _ rfl (hp_more (hp_alloc (hp_new _ _))) Try.underlying25 rfl (HB.out) rfl ⟨by rw [HMM.out], ((Ext.alloc _ _).trans (Ext.alloc _ _)).trans (Ext.more _ _)⟩
theorem build_K (a b c : Vc 16) (w : World) : (Instr.build 28 #[(0, .agg (a.1.map V8).toArray), (1, .agg (b.1.map V8).toArray), (2, .agg (c.1.map V8).toArray)]).run Try.prog w = .ok (.agg (cat (partsK ⟨a, b, c⟩)).toArray) w := by
 refine run_build _ _ w (partsK ks0) (by kernel_rfl) _ Try.underlying28 #[(0, 16), (16, 16), (32, 16)] (by kernel_rfl) _ ?_
 show Instr.fill _ _ [_, _, _] = _
 rw [fill_cat _ _ 0 _ _ 0 0 1 [Lf.v a] rfl rfl rfl rfl _ rfl, fill_cat _ _ 1 _ _ 16 1 1 [Lf.v b] rfl rfl rfl rfl _ rfl, fill_cat _ _ 2 _ _ 32 2 1 [Lf.v c] rfl rfl rfl rfl _ rfl]
 rfl
def PairR (k : Vc 16) (a b : Vc 6) (m n : Vc 16) (w : World) (e : Ending) (w' : World) : Prop := e = .returned (.tuple #[.agg (cat (partsK (pairF k a b m n))).toArray, .int .i64 (pairE a b)]) ∧ Ext w w'
set_option maxRecDepth 4000 in
set_option maxHeartbeats 3200000 in
theorem rpair_step (k : Vc 16) (a b : Vc 6) (m n : Vc 16) (hrec : numF b.1 < numF a.1 → ∀ w, Calls Try.prog 70 #[.agg (k.1.map V8).toArray, .agg (b.1.map V8).toArray, .agg (a.1.map V8).toArray, .agg (n.1.map V8).toArray, .agg (m.1.map V8).toArray] w (PairR k b a n m w)) (w : World) :
  Calls Try.prog 70 #[.agg (k.1.map V8).toArray, .agg (a.1.map V8).toArray, .agg (b.1.map V8).toArray, .agg (m.1.map V8).toArray, .agg (n.1.map V8).toArray] w (PairR k a b m n w) := by
 have H := kp (Loc.start w)
 have HREC := kp hrec
 clear hrec
 have HSM := kp (rsmaller_any b a)
 go_enter Try.func70, Try.ntmps70
 generalize h3 : (Code.region 3 _ _ : Code) = R3
 generalize h7 : (Code.region 7 _ _ : Code) = R7
 generalize h12 : (Code.region 12 _ _ : Code) = R12
 cases hab : decide (a = b) with
 | true =>
  have HK := kp (show pairF k a b m n = ks0 ∧ pairE a b = 2 from by
   have e : a = b := of_decide_eq_true hab
   exact ⟨by unfold pairF; rw [if_pos e], by unfold pairE; rw [if_pos e]⟩)
  go_wp2_with (first | ((with_reducible refine isBx 5 25 ?_); (refine L_box H rfl 25 _ rfl (cat ([Lf.v k])) rfl ?_); clear H; intro g5 w5 HGg5 HEg5 H; simp only [pA]) | ((with_reducible refine isBx 6 23 ?_); (refine L_box H rfl 23 _ rfl (cat ([Lf.v a])) rfl ?_); clear H; intro g6 w6 HGg6 HEg6 H; simp only [pA]) | ((with_reducible refine isBx 7 23 ?_); (refine L_box H rfl 23 _ rfl (cat ([Lf.v b])) rfl ?_); clear H; intro g7 w7 HGg7 HEg7 H; simp only [pA]) | ((with_reducible refine isBx 8 26 ?_); (refine L_box H rfl 26 _ rfl (cat ([Lf.v m])) rfl ?_); clear H; intro g8 w8 HGg8 HEg8 H; simp only [pA]) | ((with_reducible refine isBx 9 26 ?_); (refine L_box H rfl 26 _ rfl (cat ([Lf.v n])) rfl ?_); clear H; intro g9 w9 HGg9 HEg9 H; simp only [pA]) | ((with_reducible refine isAl 10 28 ?_); (refine L_alloc H rfl 28 rfl (cat (partsK ks0)) (fun _ _ => by kernel_rfl) ?_); clear H; intro g10 w10 HGg10 HEg10 H; simp only [pA]) | ((with_reducible refine isLd 23 ?_); (first | (refine L_fv H rfl 23 _ rfl 3 rfl _ rfl _ rfl rfl Try.underlying23 rfl (by kernel_rfl) ?_) | (refine L_fv H rfl 23 _ rfl 4 rfl _ rfl _ rfl rfl Try.underlying23 rfl (by kernel_rfl) ?_)); simp only [pA]) | (((with_reducible show wpList _ _ _ (Oper.mk _ (Op.binOp _ 23 _ _ _) _ _ _ _ :: _) _ _); (refine wpList_eq2 rfl 23 _ _ _ rfl _ _ _ rfl rfl Try.eqGuardType23 (eqV_in _ Try.underlying23 _ _ 9998) ?_); simp only [pA]); rw [hab]) | ((with_reducible show wpList _ _ _ (Oper.mk _ (Op.build 28 _) _ _ _ _ :: _) _ _); (refine L_bd rfl 28 _ rfl #[] (by kernel_rfl) (cat (partsK ks0)) (fun _ => by kernel_rfl) ?_); simp only [pA]) | ((with_reducible refine isSt 28 ?_); refine L_sa H rfl rfl 28 _ _ rfl 0 rfl rfl (partsK ks0) rfl rfl (by kernel_rfl) ?_; clear H; intro wz HWwz H; simp only [szA] at H))
  (exact ret_f2 H Try.results70 0 rfl rfl _ rfl Try.underlying28 rfl (by kernel_rfl) rfl (⟨by rw [HK.out.1, HK.out.2]; rfl, H.out.1⟩))
 | false =>
  have HNE := kp (show ¬ a = b from of_decide_eq_false hab)
  go_wp2_with (first | ((with_reducible refine isBx 5 25 ?_); (refine L_box H rfl 25 _ rfl (cat ([Lf.v k])) rfl ?_); clear H; intro g5 w5 HGg5 HEg5 H; simp only [pA]) | ((with_reducible refine isBx 6 23 ?_); (refine L_box H rfl 23 _ rfl (cat ([Lf.v a])) rfl ?_); clear H; intro g6 w6 HGg6 HEg6 H; simp only [pA]) | ((with_reducible refine isBx 7 23 ?_); (refine L_box H rfl 23 _ rfl (cat ([Lf.v b])) rfl ?_); clear H; intro g7 w7 HGg7 HEg7 H; simp only [pA]) | ((with_reducible refine isBx 8 26 ?_); (refine L_box H rfl 26 _ rfl (cat ([Lf.v m])) rfl ?_); clear H; intro g8 w8 HGg8 HEg8 H; simp only [pA]) | ((with_reducible refine isBx 9 26 ?_); (refine L_box H rfl 26 _ rfl (cat ([Lf.v n])) rfl ?_); clear H; intro g9 w9 HGg9 HEg9 H; simp only [pA]) | ((with_reducible refine isAl 10 28 ?_); (refine L_alloc H rfl 28 rfl (cat (partsK ks0)) (fun _ _ => by kernel_rfl) ?_); clear H; intro g10 w10 HGg10 HEg10 H; simp only [pA]) | ((with_reducible refine isLd 23 ?_); (first | (refine L_fv H rfl 23 _ rfl 3 rfl _ rfl _ rfl rfl Try.underlying23 rfl (by kernel_rfl) ?_) | (refine L_fv H rfl 23 _ rfl 4 rfl _ rfl _ rfl rfl Try.underlying23 rfl (by kernel_rfl) ?_)); simp only [pA]) | (((with_reducible show wpList _ _ _ (Oper.mk _ (Op.binOp _ 23 _ _ _) _ _ _ _ :: _) _ _); (refine wpList_eq2 rfl 23 _ _ _ rfl _ _ _ rfl rfl Try.eqGuardType23 (eqV_in _ Try.underlying23 _ _ 9998) ?_); simp only [pA]); rw [hab]))
  clear hab
  subst h3
  by_cases hlt : numF b.1 < numF a.1
  ·have HD := kp (decide_eq_true hlt)
   have HRC := kp (HREC.out hlt)
   have HK := kp (show pairF k a b m n = pairF k b a n m ∧ pairE a b = 0 ∧ pairE b a = 0 from ⟨pairF_swap k a b m n, by unfold pairE; rw [if_neg HNE.out], by unfold pairE; rw [if_neg (fun e => HNE.out e.symm)]⟩)
   clear hlt
   go_wp2_with (first | ((with_reducible refine isLd 23 ?_); (first | (refine L_fv H rfl 23 _ rfl 3 rfl _ rfl _ rfl rfl Try.underlying23 rfl (by kernel_rfl) ?_) | (refine L_fv H rfl 23 _ rfl 4 rfl _ rfl _ rfl rfl Try.underlying23 rfl (by kernel_rfl) ?_)); simp only [pA]) | ((with_reducible refine isLd 25 ?_); (refine L_fv H rfl 25 _ rfl 5 rfl _ rfl _ rfl rfl Try.underlying25 rfl (by kernel_rfl) ?_); simp only [pA]) | ((with_reducible refine isLd 26 ?_); (first | (refine L_fv H rfl 26 _ rfl 1 rfl _ rfl _ rfl rfl Try.underlying26 rfl (by kernel_rfl) ?_) | (refine L_fv H rfl 26 _ rfl 2 rfl _ rfl _ rfl rfl Try.underlying26 rfl (by kernel_rfl) ?_)); simp only [pA]) | (go_at_call 84; refine (HSM.out _).mono ?_; rintro e wa ⟨rfl, hx⟩; rw [HD.out]; replace H := kp (H.out.ext hx); have HXC := kp hx; clear hx) | (go_at_call 70; refine (HRC.out _).mono ?_; rintro e wa ⟨rfl, hx⟩; replace H := kp (H.out.ext hx); have HXC := kp hx; clear hx) | ((with_reducible refine isAl 12 28 ?_); (refine L_alloc H rfl 28 rfl (cat (partsK ks0)) (fun _ _ => by kernel_rfl) ?_); clear H; intro g12 w12 HGg12 HEg12 H; simp only [pA]) | ((with_reducible show wpList _ _ _ (Oper.mk none (Op.store 28 (.tmp 12) _) _ _ _ _ :: _) _ _); ((with_reducible refine isSt 28 ?_); refine L_sa H rfl rfl 28 _ _ rfl 0 rfl rfl (partsK (pairF k b a n m)) rfl rfl (by kernel_rfl) ?_; clear H; intro wp HWwp H; simp only [szA] at H)) | ((with_reducible refine isLd 28 ?_); refine L_fa H rfl 28 _ rfl 0 rfl rfl Try.underlying28 rfl (by kernel_rfl) ?_; simp only [pA]) | ((with_reducible refine isSt 28 ?_); refine L_sa H rfl rfl 28 _ _ rfl 1 rfl rfl (partsK (pairF k b a n m)) rfl rfl (by kernel_rfl) ?_; clear H; intro wq HWwq H; simp only [ssA, szA] at H))
   (exact ret_f2 H Try.results70 1 rfl rfl _ rfl Try.underlying28 rfl (by kernel_rfl) rfl (⟨by rw [HK.out.1, HK.out.2.1]; rfl, H.out.1⟩))
  ·have HD := kp (decide_eq_false hlt)
   go_wp2_with (first | ((with_reducible refine isLd 23 ?_); (first | (refine L_fv H rfl 23 _ rfl 3 rfl _ rfl _ rfl rfl Try.underlying23 rfl (by kernel_rfl) ?_) | (refine L_fv H rfl 23 _ rfl 4 rfl _ rfl _ rfl rfl Try.underlying23 rfl (by kernel_rfl) ?_)); simp only [pA]) | (go_at_call 84; refine (HSM.out _).mono ?_; rintro e wa ⟨rfl, hx⟩; rw [HD.out]; replace H := kp (H.out.ext hx); have HXC := kp hx; clear hx))
   have HOD := kp (show ordF a.1 b.1 m.1 n.1 = a.1 ++ b.1 ++ m.1 ++ n.1 from by
    unfold ordF
    rw [if_neg (by unfold cmpF; split <;> (try split) <;> omega)]
    simp)
   have HK := kp (show pairF k a b m n = threeF (expandF k.1 pwS (ordF a.1 b.1 m.1 n.1) 48) ∧ pairE a b = 0 from ⟨by unfold pairF; rw [if_neg HNE.out], by unfold pairE; rw [if_neg HNE.out]⟩)
   have HEL := kp (expandF_len k.1 pwS (ordF a.1 b.1 m.1 n.1) 48)
   have HOL := kp (ord_len a b m n)
   have HE := kp (fun vc w h => rderived_any k.1 k.2 pwS (by decide) vc (ordF a.1 b.1 m.1 n.1) (by rw [HOL.out]; omega) 48 (by omega) w h)
   have HLA := kp a.2
   have HLB := kp b.2
   have HLM := kp m.2
   have HLN := kp n.2
   have HL0 := kp (H.out.lt 0 rfl)
   have HL1 := kp (H.out.lt 1 rfl)
   have HL2 := kp (H.out.lt 2 rfl)
   have HL3 := kp (H.out.lt 3 rfl)
   have HL4 := kp (H.out.lt 4 rfl)
   have HL5 := kp (H.out.lt 5 rfl)
   have HWZ := kp H.out.1.size
   generalize expandF k.1 pwS (ordF a.1 b.1 m.1 n.1) 48 = E at *
   generalize hB : wa.heap.size = B at *
   have HBB := kp (Nat.le_of_eq hB.symm)
   clear hB
   have HO0 := kp (show wa.ownsRow B 5 1 (.slice none 0 0) ([] : By).length (([] : By).map V8) from ⟨by simp, .inl ⟨rfl, rfl⟩⟩)
   subst h7
   go_wp2_with (first | ((with_reducible show wpList _ _ _ (Oper.mk (some 35) _ _ _ _ _ :: _) _ _); (at_builtin; (have HSX := kp (SlB_part H.out 4 rfl 0 0 rfl rfl 6); have HOX2 := HO0; refine L_appB H rfl _ _ rfl (B) (by have q0 := HL0.out; have q1 := HL1.out; have q2 := HL2.out; have q3 := HL3.out; have q4 := HL4.out; have q5 := HL5.out; have q6 := HWZ.out; have q7 := HBB.out; omega) (by have q0 := HL0.out; have q1 := HL1.out; have q2 := HL2.out; have q3 := HL3.out; have q4 := HL4.out; have q5 := HL5.out; have q6 := HWZ.out; have q7 := HBB.out; omega) (by intro zz hz; simp at hz; have q0 := HL0.out; have q1 := HL1.out; have q2 := HL2.out; have q3 := HL3.out; have q4 := HL4.out; have q5 := HL5.out; have q6 := HWZ.out; have q7 := HBB.out; omega) _ _ rfl HOX2.out _ _ rfl HSX.out ((by rw [HLA.out]; decide)) ?_; clear H HSX HOX2; intro va wb HO1 HGwb H; simp only [pA]))) | ((with_reducible show wpList _ _ _ (Oper.mk (some 38) _ _ _ _ _ :: _) _ _); (at_builtin; (have HSX := kp (SlB_part H.out 3 rfl 0 0 rfl rfl 6); have HOX2 := HO1; refine L_appB H rfl _ _ rfl (B) (by have q0 := HL0.out; have q1 := HL1.out; have q2 := HL2.out; have q3 := HL3.out; have q4 := HL4.out; have q5 := HL5.out; have q6 := HWZ.out; have q7 := HBB.out; have q8 := HGwb.out.size; omega) (by have q0 := HL0.out; have q1 := HL1.out; have q2 := HL2.out; have q3 := HL3.out; have q4 := HL4.out; have q5 := HL5.out; have q6 := HWZ.out; have q7 := HBB.out; have q8 := HGwb.out.size; omega) (by intro zz hz; simp at hz; have q0 := HL0.out; have q1 := HL1.out; have q2 := HL2.out; have q3 := HL3.out; have q4 := HL4.out; have q5 := HL5.out; have q6 := HWZ.out; have q7 := HBB.out; have q8 := HGwb.out.size; omega) _ _ rfl HOX2.out _ _ rfl HSX.out ((by simp [HLA.out, HLB.out])) ?_; clear H HSX HOX2; intro vb wc HO2 HGwc H; simp only [pA]))) | ((with_reducible show wpList _ _ _ (Oper.mk (some 41) _ _ _ _ _ :: _) _ _); (at_builtin; (have HSX := kp (SlB_part H.out 2 rfl 0 0 rfl rfl 16); have HOX2 := HO2; refine L_appB H rfl _ _ rfl (B) (by have q0 := HL0.out; have q1 := HL1.out; have q2 := HL2.out; have q3 := HL3.out; have q4 := HL4.out; have q5 := HL5.out; have q6 := HWZ.out; have q7 := HBB.out; have q8 := HGwb.out.size; have q9 := HGwc.out.size; omega) (by have q0 := HL0.out; have q1 := HL1.out; have q2 := HL2.out; have q3 := HL3.out; have q4 := HL4.out; have q5 := HL5.out; have q6 := HWZ.out; have q7 := HBB.out; have q8 := HGwb.out.size; have q9 := HGwc.out.size; omega) (by intro zz hz; simp at hz; have q0 := HL0.out; have q1 := HL1.out; have q2 := HL2.out; have q3 := HL3.out; have q4 := HL4.out; have q5 := HL5.out; have q6 := HWZ.out; have q7 := HBB.out; have q8 := HGwb.out.size; have q9 := HGwc.out.size; omega) _ _ rfl HOX2.out _ _ rfl HSX.out ((by simp [HLA.out, HLB.out, HLM.out])) ?_; clear H HSX HOX2; intro vc wd HO3 HGwd H; simp only [pA]))) | ((with_reducible show wpList _ _ _ (Oper.mk (some 44) _ _ _ _ _ :: _) _ _); (at_builtin; (have HSX := kp (SlB_part H.out 1 rfl 0 0 rfl rfl 16); have HOX2 := HO3; refine L_appB H rfl _ _ rfl (B) (by have q0 := HL0.out; have q1 := HL1.out; have q2 := HL2.out; have q3 := HL3.out; have q4 := HL4.out; have q5 := HL5.out; have q6 := HWZ.out; have q7 := HBB.out; have q8 := HGwb.out.size; have q9 := HGwc.out.size; have qa := HGwd.out.size; omega) (by have q0 := HL0.out; have q1 := HL1.out; have q2 := HL2.out; have q3 := HL3.out; have q4 := HL4.out; have q5 := HL5.out; have q6 := HWZ.out; have q7 := HBB.out; have q8 := HGwb.out.size; have q9 := HGwc.out.size; have qa := HGwd.out.size; omega) (by intro zz hz; simp at hz; have q0 := HL0.out; have q1 := HL1.out; have q2 := HL2.out; have q3 := HL3.out; have q4 := HL4.out; have q5 := HL5.out; have q6 := HWZ.out; have q7 := HBB.out; have q8 := HGwb.out.size; have q9 := HGwc.out.size; have qa := HGwd.out.size; omega) _ _ rfl HOX2.out _ _ rfl HSX.out ((by simp [HLA.out, HLB.out, HLM.out, HLN.out])) ?_; clear H HSX HOX2; intro vd we HO4 HGwe H; simp only [pA]))) | ((with_reducible refine isLd 25 ?_); (refine L_fv H rfl 25 _ rfl 5 rfl _ rfl _ rfl rfl Try.underlying25 rfl (by kernel_rfl) ?_); simp only [pA]) | (go_at_call 85; refine (HE.out _ _ (show SlB we vd (ordF a.1 b.1 m.1 n.1) from (by rw [HOD.out]; exact SlB.of_owns HO4.out))).mono ?_; rintro e wf ⟨vE, rfl, ho, hx⟩; have HOE := kp ho; clear ho; replace H := kp (H.out.ext hx); have HXC := kp hx; clear hx))
   have HSE := kp (SlB.of_owns HOE.out)
   have HCE := kp (CapOk.of_owns HOE.out)
   clear HOE
   obtain ⟨ae, ce, rfl⟩ := HSE.out.form
   obtain ⟨ge, oe, rfl⟩ := HSE.out.ne (by intro e; rw [e] at HEL; exact absurd HEL.out (by decide))
   rw [HEL.out] at HSE HCE ⊢
   have hce : 48 ≤ ce := HCE.out _ _ _ rfl
   have HKA := kp (show ∀ c W, Ext wf W → Calls Try.prog 86 #[.slice (some ⟨ge, oe, none⟩) 16 c] W (fun e w' => e = .returned (.agg ((fit 16 E).1.map V8).toArray) ∧ Ext W w') from fun c W hx => by
    have h := rkey_any (E.take 16) (by have := HEL.out; simp; omega) (by have := HEL.out; simp; omega) _ W ((HSE.out.take (n := 16) (cap' := c) (by rw [HEL.out]; decide) (fun q => by cases q)).ext hx)
    rwa [List.take_take, show min 16 16 = 16 from rfl, ← fit_val (n := 16) (l := E) (by rw [HEL.out]; decide)] at h)
   have HKB := kp (show ∀ c W, Ext wf W → Calls Try.prog 86 #[.slice (some ⟨ge, oe + 16, none⟩) 16 c] W (fun e w' => e = .returned (.agg ((fit 16 (E.drop 16)).1.map V8).toArray) ∧ Ext W w') from fun c W hx => by
    have h := rkey_any ((E.drop 16).take 16) (by have := HEL.out; simp; omega) (by have := HEL.out; simp; omega) _ W (((HSE.out.from 16 32 c (by rw [HEL.out]) (by decide)).take (n := 16) (cap' := c) (by have := HEL.out; simp; omega) (fun q => by cases q)).ext hx)
    rwa [List.take_take, show min 16 16 = 16 from rfl, ← fit_val (n := 16) (l := E.drop 16) (by have := HEL.out; simp; omega)] at h)
   have HKC := kp (show ∀ c W, Ext wf W → Calls Try.prog 86 #[.slice (some ⟨ge, oe + 32, none⟩) 16 c] W (fun e w' => e = .returned (.agg ((fit 16 (E.drop 32)).1.map V8).toArray) ∧ Ext W w') from fun c W hx => by
    have h := rkey_any (E.drop 32) (by have := HEL.out; simp; omega) (by have := HEL.out; simp; omega) _ W ((HSE.out.from 32 16 c (by rw [HEL.out]) (by decide)).ext hx)
    rwa [← fit_val (n := 16) (l := E.drop 32) (by have := HEL.out; simp; omega)] at h)
   have HBK := kp (fun W => build_K (fit 16 E) (fit 16 (E.drop 16)) (fit 16 (E.drop 32)) W)
   subst h12
   refine region_z H 10 (by kernel_rfl) (by kernel_rfl) (by kernel_rfl) (by kernel_rfl) (by decide) (Nat.le_of_ble_eq_true (by kernel_rfl)) ?_
   apply Exists.intro
   refine ⟨fun xz2 => ?_, fun wz2 HXZ H => ?_⟩
   ·simp only [List.take_succ_cons, List.take_zero]
    unfold Cx
    repeat (first | ((with_reducible show wpQuiet _ _ _ _ (Oper.mk _ (Op.build 28 _) _ _ _ _ :: _) _); go_big_quiet_want; refine qz_bd 28 _ rfl (#[(0, .agg ((fit 16 E).1.map V8).toArray), (1, .agg ((fit 16 (E.drop 16)).1.map V8).toArray), (2, .agg ((fit 16 (E.drop 32)).1.map V8).toArray)]) (by kernel_rfl) (cat (partsK (threeF E))) (HBK.out) ?_; simp only [pA]; go_big_quiet_on) | go_big_quiet_step ((go_at_call 86; first | (with_reducible exact Calls.cx_of (HKA.out _ _ (Ext.more _ _))) | (with_reducible exact Calls.cx_of (HKB.out _ _ (Ext.more _ _))) | (with_reducible exact Calls.cx_of (HKC.out _ _ (Ext.more _ _))))))
    exact wpQuiet_nil rfl
   simp only [List.drop_succ_cons, List.drop_zero]
   go_wp2_with ((with_reducible refine isSt 28 ?_); refine L_sa H rfl rfl 28 _ _ rfl 0 rfl rfl (partsK (threeF E)) rfl rfl (by kernel_rfl) ?_; clear H; intro wp HWwp H; simp only [szA] at H)
   (exact ret_f2 H Try.results70 0 rfl rfl _ rfl Try.underlying28 rfl (by kernel_rfl) rfl (⟨by rw [HK.out.1, HK.out.2]; rfl, H.out.1⟩))
theorem rpair_any (k : Vc 16) (a b : Vc 6) (m n : Vc 16) (w : World) : Calls Try.prog 70 #[.agg (k.1.map V8).toArray, .agg (a.1.map V8).toArray, .agg (b.1.map V8).toArray, .agg (m.1.map V8).toArray, .agg (n.1.map V8).toArray] w (PairR k a b m n w) :=
 rpair_step k a b m n (fun h => rpair_step k b a n m (fun h2 => absurd h2 (by omega))) w
def stillB (s : Fw) : Bool := s.tries == 0 && s.due == 0
def movingB (s : Fw) : Bool := decide (1 ≤ s.tries) && decide (s.tries ≤ 4) && decide (1 ≤ s.due) && decide (s.due ≤ 1099511727776)
def countB (s : Fw) : Bool := decide (1 ≤ s.replay) && decide (s.replay ≤ 8)
def pairB (s : Fw) : Bool := decide (s.pair = keysF s s.other)
def rauthF (s : Fw) : Bool :=
 if s.gid < 2 ∨ 3 < s.gid then false
 else if s.stage = 0 then s.replay == 0 && stillB s && freshS s
 else if s.stage = 1 then countB s && movingB s && freshS s
 else if s.stage = 3 then countB s && movingB s && pairB s
 else if s.stage = 4 then countB s && stillB s && pairB s
 else if s.stage = 5 then countB s && stillB s && freshS s
 else false
def emptyB (s : Fw) : Bool := (s.gid == 0 && decide (s.gkey = zv 16)) && s.replay == 0
def rsupF (s : Fw) : Bool :=
 if s.tries ≠ 0 ∨ s.due ≠ 0 ∨ s.replay < 0 ∨ 4611686018427387904 ≤ s.replay then false
 else if s.stage = 0 then emptyB s && freshS s
 else if s.stage = 2 then emptyB s && pairB s
 else if s.stage = 4 then decide (2 ≤ s.gid) && decide (s.gid ≤ 3) && pairB s
 else false
theorem fresh_pair {s : Fw} (h : freshS s = true) : decide (s.pair = ks0) = true := by
 unfold freshS at h
 rw [Bool.and_eq_true] at h
 exact h.2
theorem auth_eq (s : Fw) (h0 : 0 ≤ s.stage) : (validAuthF s && (!needsB s || pairB s)) = rauthF s := by
 unfold rauthF validAuthF badA1 badA2 gidB needsB
 by_cases hg : s.gid < 2 ∨ 3 < s.gid
 ·rw [if_pos hg]
  have : (s.gid == 2 || s.gid == 3) = false := by simp; omega
  simp [this]
 rw [if_neg hg]
 have hg2 : (s.gid == 2 || s.gid == 3) = true := by simp; omega
 rw [hg2, Bool.eq_iff_iff]
 generalize hp : decide (s.pair = ks0) = pz
 cases hf : freshS s
 ·by_cases s0 : s.stage = 0
  ·rw [if_pos s0]; simp [s0, idleB, oneI, waitsB, keyedB, stillB]
  rw [if_neg s0]
  by_cases s1 : s.stage = 1
  ·rw [if_pos s1]; simp [s1, idleB, oneI, waitsB, keyedB, movingB, countB]
  rw [if_neg s1]
  by_cases s3 : s.stage = 3
  ·rw [if_pos s3]; cases pairB s <;> simp [s3, idleB, oneI, waitsB, keyedB, movingB, countB] <;> omega
  rw [if_neg s3]
  by_cases s4 : s.stage = 4
  ·rw [if_pos s4]; cases pairB s <;> simp [s4, idleB, oneI, waitsB, keyedB, stillB, countB] <;> omega
  rw [if_neg s4]
  by_cases s5 : s.stage = 5
  ·rw [if_pos s5]; simp [s5, idleB, oneI, waitsB, keyedB, stillB, countB]
  rw [if_neg s5]
  have : decide (5 < s.stage) = true ∨ (s.stage == 2) = true := by simp; omega
  rcases this with h | h <;> simp [h]
 ·have hq : pz = true := by rw [← hp]; exact fresh_pair hf
  subst hq
  by_cases s0 : s.stage = 0
  ·rw [if_pos s0]; simp [s0, idleB, oneI, waitsB, keyedB, stillB] <;> omega
  rw [if_neg s0]
  by_cases s1 : s.stage = 1
  ·rw [if_pos s1]; simp [s1, idleB, oneI, waitsB, keyedB, movingB, countB] <;> omega
  rw [if_neg s1]
  by_cases s3 : s.stage = 3
  ·rw [if_pos s3]; cases pairB s <;> simp [s3, idleB, oneI, waitsB, keyedB, movingB, countB] <;> omega
  rw [if_neg s3]
  by_cases s4 : s.stage = 4
  ·rw [if_pos s4]; cases pairB s <;> simp [s4, idleB, oneI, waitsB, keyedB, stillB, countB] <;> omega
  rw [if_neg s4]
  by_cases s5 : s.stage = 5
  ·rw [if_pos s5]; simp [s5, idleB, oneI, waitsB, keyedB, stillB, countB] <;> omega
  rw [if_neg s5]
  have : decide (5 < s.stage) = true ∨ (s.stage == 2) = true := by simp; omega
  rcases this with h | h <;> simp [h]
theorem sup_eq (s : Fw) : (validSupF s && (!needsB s || pairB s)) = rsupF s := by
 unfold rsupF validSupF badS1 badS2 gidB needsB
 by_cases hb : s.tries ≠ 0 ∨ s.due ≠ 0 ∨ s.replay < 0 ∨ 4611686018427387904 ≤ s.replay
 ·rw [if_pos hb]
  have h2 : ∀ a b : Bool, (a || decide (s.replay < 0) || decide (4611686018427387904 ≤ s.replay) || b || s.tries != 0 || s.due != 0) = true := by
   intro a b
   rcases hb with h | h | h | h <;> simp [h]
  rw [h2]; simp
 rw [if_neg hb]
 have t0 : s.tries = 0 := by omega
 have d0 : s.due = 0 := by omega
 have r0 : ¬ s.replay < 0 := by omega
 have r1 : ¬ 4611686018427387904 ≤ s.replay := by omega
 rw [Bool.eq_iff_iff]
 generalize hp : decide (s.pair = ks0) = pz
 generalize hk : decide (s.gkey = zv 16) = gz
 by_cases s0 : s.stage = 0
 ·rw [if_pos s0]
  unfold emptyB
  rw [hk]
  cases hf : freshS s
  ·simp [s0, doneB, idleB]
  ·have hq : pz = true := by rw [← hp]; exact fresh_pair hf
   subst hq
   cases gz <;> simp [s0, doneB, idleB, t0, d0, r0, r1] <;> omega
 rw [if_neg s0]
 by_cases s2 : s.stage = 2
 ·rw [if_pos s2]
  unfold emptyB
  rw [hk]
  cases pairB s <;> cases gz <;> simp [s2, doneB, idleB, t0, d0, r0, r1] <;> omega
 rw [if_neg s2]
 by_cases s4 : s.stage = 4
 ·rw [if_pos s4]
  cases pairB s <;> simp [s4, doneB, idleB, t0, d0, r0, r1] <;> omega
 rw [if_neg s4]
 simp [doneB, idleB, s0, s2, s4]
def rcheckB (s : Fw) : Bool := decide (s.own = s.peer) || s.inst != oneI (s.stage == 4) || (s.role == 1 && !rauthF s) || (s.role == 2 && !rsupF s) || (s.role != 1 && s.role != 2)
theorem rcheck_eq (s : Fw) (h0 : 0 ≤ s.stage) : checkE s = if rcheckB s then 8 else 0 := by
 have e : checkB s = !rcheckB s := by
  unfold checkB rcheckB validF
  have ha := auth_eq s h0
  have hs := sup_eq s
  unfold pairB at ha hs
  by_cases r1 : s.role = 1
  ·rw [if_pos r1, Bool.and_assoc, ha, r1]
   generalize hi : oneI (s.stage == 4) = oi
   by_cases hio : s.inst = oi <;> cases decide (s.own = s.peer) <;> cases rauthF s <;> simp [hio, bne]
  rw [if_neg r1]
  by_cases r2 : s.role = 2
  ·rw [if_pos r2, Bool.and_assoc, hs, r2]
   generalize hi : oneI (s.stage == 4) = oi
   by_cases hio : s.inst = oi <;> cases decide (s.own = s.peer) <;> cases rsupF s <;> simp [hio, bne]
  rw [if_neg r2]
  simp [r1, r2]
 unfold checkE
 rw [e]
 cases rcheckB s <;> rfl
theorem wI_inj8 {x y : BitVec 8} (h : wI x = wI y) : x = y := BitVec.eq_of_toNat_eq (by unfold wI at h; omega)
theorem ofInt_wI (x : BitVec 8) : BitVec.ofInt 8 (wI x) = x := wI_inj8 (by rw [wI_ofInt8]; have := x.isLt; unfold wI; omega)
theorem le8_num (l : By) (h : l.length = 8) : le8 (numLE l) = l := by
 match l, h with
 | [a, b, c, d, e, f, g, i], _ =>
  have ha := a.isLt; have hb := b.isLt; have hc := c.isLt; have hd := d.isLt; have he := e.isLt; have hf := f.isLt; have hg := g.isLt; have hi := i.isLt
  show (List.range 8).map _ = _
  simp only [List.range, List.range.loop, List.map_cons, List.map_nil, numLE, List.cons.injEq]
  refine ⟨?_, ?_, ?_, ?_, ?_, ?_, ?_, ?_, trivial⟩ <;> (refine wI_inj8 ?_; rw [wI_ofInt8]; simp only [Nat.reduceMul, Nat.mul_zero, Int.reducePow]; unfold wI; omega)
theorem parse_yes {b : By} (h : parseE b = 0) : 43 ≤ b.length ∧ oddP b = false := by
 unfold parseE at h
 split at h
 ·cases h
 ·split at h
  ·cases h
  ·rename_i h1 h2; exact ⟨by omega, by simpa using h2⟩
theorem odd_no {b : By} (h : oddP b = false) : 1 ≤ kindP b ∧ kindP b ≤ 4 ∧ countP b < 4611686018427387904 ∧ saidP b = wantP b ∧ ((dataP b).length : Int) = wantP b ∧ (kindP b = 4 → nonceP b = zv 16) := by
 unfold oddP at h
 simp only [Bool.or_eq_false_iff, decide_eq_false_iff_not, Bool.and_eq_false_iff, Classical.not_not] at h
 obtain ⟨⟨⟨⟨⟨⟨h1, h2⟩, h3⟩, h4⟩, h5⟩, h6⟩, h7⟩ := h
 refine ⟨by omega, by omega, by omega, h4, h5, fun e => ?_⟩
 rcases h6 with h6 | h6
 ·simp [e] at h6
 ·exact h6
theorem take_1 {b : By} (h : 0 < b.length) : b.take 1 = [b.getD 0 0] := by cases b with | nil => cases h | cons x l => rfl
theorem front_parse {b : By} (h : parseE b = 0) : frontF (kindP b) (countP b) (nonceP b).1 (dataP b) = b.take (b.length - 16) := by
 obtain ⟨h43, ho⟩ := parse_yes h
 obtain ⟨_, _, _, hs, hd, _⟩ := odd_no ho
 have hdl : (dataP b).length = b.length - 43 := by unfold dataP; simp; omega
 have e1 : b.take (b.length - 16) = b.take 1 ++ ((b.drop 1).take 8 ++ ((b.drop 9).take 16 ++ ((b.drop 25).take 2 ++ (b.drop 27).take (b.length - 43)))) := by
  conv => lhs; rw [show b.length - 16 = 1 + (8 + (16 + (2 + (b.length - 43)))) by omega, List.take_add, List.take_add, List.take_add, List.take_add]
  simp only [List.drop_drop, Nat.reduceAdd]
 have e2 : (b.drop 25).take 2 = [b.getD 25 0, b.getD 26 0] := by
  have : ∀ (l : By), 2 ≤ l.length → l.take 2 = [l.getD 0 0, l.getD 1 0] := by
   intro l hl
   match l, hl with
   | x :: y :: l, _ => rfl
  rw [this _ (by rw [List.length_drop]; omega)]
  simp [List.getD_eq_getElem?_getD, List.getElem?_drop]
 have e3 : le8 (countP b) = (b.drop 1).take 8 := le8_num _ (by simp; omega)
 have e4 : (nonceP b).1 = (b.drop 9).take 16 := fit_val (by simp; omega)
 have hx := (b.getD 25 0).isLt
 have hy := (b.getD 26 0).isLt
 rw [e1, take_1 (by omega), e2, ← e3, ← e4]
 unfold frontF kindP
 rw [ofInt_wI, show ((dataP b).length : Int) = saidP b by rw [hd, hs]]
 have f1 : BitVec.ofInt 8 (saidP b) = b.getD 25 0 := wI_inj8 (by rw [wI_ofInt8]; unfold saidP wI; omega)
 have f2 : BitVec.ofInt 8 (saidP b / 256) = b.getD 26 0 := wI_inj8 (by rw [wI_ofInt8]; unfold saidP wI; omega)
 rw [f1, f2]
 unfold dataP
 simp
def codedF (b k : By) : Bool := b.drop (b.length - 16) == macF k (b.take (b.length - 16))
theorem coded_eq {b : By} (h : parseE b = 0) (hk : kindP b ≠ 1) (k : By) : rightF b k = codedF b k := by
 unfold rightF codedF signedF
 rw [front_parse h, if_neg hk, Bool.eq_iff_iff]
 simp only [beq_iff_eq]
 constructor
 ·intro e
  have := congrArg (List.drop (b.length - 16)) e
  rw [List.drop_append_of_le_length (by simp), List.drop_of_length_le (by simp), List.nil_append] at this
  exact this.symm
 ·intro e
  rw [← e, List.take_append_drop]
end Go.Proofs.Ytibncchobkaaiaa
