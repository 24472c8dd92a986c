/- Texts of this proof, put together: SealC, Derive, Mac. -/
import Derived.Test.YtibncchobkaaiaaF8
import Derived.Test.YtibncchobkaaiaaProg
import Derived.Test.YtibncchobkaaiaaF3
import Derived.Test.YtibncchobkaaiaaF4
import Derived.Outline
import Derived.LoopTactic
import Derived.Test.YtibncchobkaaiaaF6
import Derived.Test.YtibncchobkaaiaaF1
namespace Go.Proofs.Ytibncchobkaaiaa
open Go.RowKit
def tagF (ks nc ad body : List (BitVec 8)) : List (BitVec 8) := mixF (codeF ks nc ad body) (streamF ks nc 0)
theorem tagF_len (ks nc ad body : List (BitVec 8)) : (tagF ks nc ad body).length = 8 := by rw [tagF, mixF_len, codeF_len]
def sealF (ks nc ad body : List (BitVec 8)) : List (BitVec 8) := cryptF ks nc body ++ tagF ks nc ad body
theorem sealF_len (ks nc ad body : List (BitVec 8)) : (sealF ks nc ad body).length = body.length + 8 := by rw [sealF, List.length_append, cryptF_len, tagF_len]
def RetO2 (l : List (BitVec 8)) (n : Int) (w : World) (e : Ending) (w' : World) : Prop := ∃ v, e = .returned (.tuple #[v, .int .i64 n]) ∧ w'.ownsRow w.heap.size 5 1 v l.length (l.map V8) ∧ Ext w w'
set_option maxHeartbeats 3200000 in
theorem seal_ok (ks nc : List (BitVec 8)) (hk : ks.length = 16) (hc : nc.length = 13) (va vb : Value) (ad body : List (BitVec 8)) (ha : ad.length ≤ 256) (hb : body.length ≤ 4096) (w : World) (hva : SlB w va ad) (hvb : SlB w vb body) (hcb : CapOk vb) :
  Calls Try.prog 64 #[.agg (ks.map V8).toArray, .agg (nc.map V8).toArray, va, vb] w (RetO2 (sealF ks nc ad body) 0 w) := by
 obtain ⟨iu, hiu, hu⟩ := info_iu
 have HIU := kp hiu
 have HU := kp hu
 obtain ⟨aa, ca, rfl⟩ := hva.form
 obtain ⟨ab, cb, rfl⟩ := hvb.form
 have HVB := kp hvb
 have HK := kp (sizeK ks hk)
 have HN := kp (sizeN nc hc)
 have HC := kp (fun w (h1 : SlB w (.slice aa ad.length ca) ad) (h2 : SlB w (.slice ab body.length cb) body) => code_ok ks nc hk hc _ _ ad body ha hb w h1 h2 hcb)
 have HVA := kp hva
 have HZ := kp (size8 _ (codeF_len ks nc ad body))
 have HZ8 := kp (z8_size _ (codeF_len ks nc ad body))
 have HCL := kp (codeF_len ks nc ad body)
 have HST := kp (fun w => stream_any ks nc hk hc 0 w)
 have HSL := kp (streamF_len ks nc 0)
 have HCN := kp (fun v w h => clone_any v body (by omega) w h)
 have HCR := kp (fun base v w h => crypt_any ks nc body hk hc (by omega) base v w h)
 have HF := kp (show sealF ks nc ad body = cryptF ks nc body ++ mixF (codeF ks nc ad body) (streamF ks nc 0) from rfl)
 have HFL := kp (cryptF_len ks nc body)
 have HML := kp (mixF_len (codeF ks nc ad body) (streamF ks nc 0))
 generalize codeF ks nc ad body = cf at *
 generalize streamF ks nc 0 = S at *
 generalize sealF ks nc ad body = sf at *
 generalize cryptF ks nc body = bf at *
 clear hiu hu hva hvb hcb hk hc
 go_enter Try.func64, Try.ntmps64
 generalize h4 : (Code.region 4 _ _ : Code) = R4
 go_wp2_with (first | ((with_reducible refine isLd 25 ?_); (with_reducible refine wpList_load_row rfl 25 _ rfl (w.heap.size) rfl 25 ((ks.map V8).toArray) (0, 0) _ (hp_alloc (hp_new _ _)) Try.underlying25 rfl (HK.out) ?_); simp only [pA]) | ((with_reducible refine isLd 107 ?_); (with_reducible refine wpList_load_row rfl 107 _ rfl (w.heap.size + 1) rfl 107 ((nc.map V8).toArray) (0, 0) _ (hp_at _ _ _ (by simp)) Try.underlying107 rfl (HN.out) ?_); simp only [pA]) | (go_at_call 76; refine (HC.out _ (HVA.out.ext ((Ext.alloc _ _).trans (Ext.alloc _ _))) (HVB.out.ext ((Ext.alloc _ _).trans (Ext.alloc _ _)))).mono ?_; rintro e w' ⟨rfl, x1, rfl⟩) | ((with_reducible refine isSt 131 ?_); with_reducible refine wpList_st_row rfl rfl 131 _ _ rfl (w.heap.size + 1 + 1 + x1.blocks.size) ((cf.map V8).toArray) rfl rfl 131 (z8) (hp_at _ _ _ (by simp)) (HZ.out) (HZ8.out) (all_V8 _) (by rewrite [setRow_at _ _ _ _ _ _ (by simp [more_size] <;> omega)]; rfl) ?_))
 have hx2 : Ext w ((more ((w.alloc (.cells (ks.map V8).toArray 25)).alloc (.cells (nc.map V8).toArray 107)) x1).alloc (.cells (cf.map V8).toArray 131)) := (((Ext.alloc _ _).trans (Ext.alloc _ _)).trans (Ext.more _ _)).trans (Ext.alloc _ _)
 have hk2 : ((more ((w.alloc (.cells (ks.map V8).toArray 25)).alloc (.cells (nc.map V8).toArray 107)) x1).alloc (.cells (cf.map V8).toArray 131)).heap[w.heap.size]? = some (.cells (ks.map V8).toArray 25 (0, 0)) := hp_alloc (hp_more (hp_alloc (hp_new _ _)))
 have hn2 : ((more ((w.alloc (.cells (ks.map V8).toArray 25)).alloc (.cells (nc.map V8).toArray 107)) x1).alloc (.cells (cf.map V8).toArray 131)).heap[w.heap.size + 1]? = some (.cells (nc.map V8).toArray 107 (0, 0)) := hp_alloc (hp_more (hp_at _ _ _ (by simp)))
 have hc2 : ((more ((w.alloc (.cells (ks.map V8).toArray 25)).alloc (.cells (nc.map V8).toArray 107)) x1).alloc (.cells (cf.map V8).toArray 131)).heap[w.heap.size + 1 + 1 + x1.blocks.size]? = some (.cells (cf.map V8).toArray 131 (0, 0)) := hp_at _ _ _ (by simp)
 generalize (more ((w.alloc (.cells (ks.map V8).toArray 25)).alloc (.cells (nc.map V8).toArray 107)) x1).alloc (.cells (cf.map V8).toArray 131) = W2 at *
 obtain ⟨C, hC⟩ : ∃ C, C = w.heap.size + 1 + 1 + x1.blocks.size := ⟨_, rfl⟩
 rw [← hC] at hc2 ⊢
 have hCw : w.heap.size + 2 ≤ C := by omega
 have hCW : C < W2.heap.size := by rw [Array.getElem?_eq_some_iff] at hc2; exact hc2.1
 have HX2 := kp hx2
 have HK2 := kp hk2
 have HN2 := kp hn2
 have HC2 := kp hc2
 clear hx2 hk2 hn2 hc2 hC
 subst h4
 (refine region_f 4 (by kernel_rfl) (by kernel_rfl) (by kernel_rfl) (by kernel_rfl) (by decide) (Nat.le_of_ble_eq_true (by kernel_rfl)) ?_)
 apply Exists.intro
 refine ⟨fun xz2 => ?_, fun xq2 => ?_⟩
 ·simp only [List.take_succ_cons, List.take_zero]
  unfold Cx
  (go_big_quiet_step (fail); ((with_reducible show wpQuiet _ _ _ _ (Oper.mk _ (Op.load 25 _) _ _ _ _ :: _) _); go_big_quiet_want; with_reducible refine quiet_load_row 25 _ rfl (w.heap.size) rfl 25 ((ks.map V8).toArray) (0, 0) _ (fun _ hw => by obtain ⟨xx, rfl⟩ := hw; exact hp_more HK2.out) Try.underlying25 rfl (HK.out) ?_; simp only [pA]; go_big_quiet_on); ((with_reducible show wpQuiet _ _ _ _ (Oper.mk _ (Op.load 107 _) _ _ _ _ :: _) _); go_big_quiet_want; with_reducible refine quiet_load_row 107 _ rfl (w.heap.size + 1) rfl 107 ((nc.map V8).toArray) (0, 0) _ (fun _ hw => by obtain ⟨xx, rfl⟩ := hw; exact hp_more HN2.out) Try.underlying107 rfl (HN.out) ?_; simp only [pA]; go_big_quiet_on); go_big_quiet_step (exact Calls.cx_of (HST.out _)))
  exact wpQuiet_nil rfl
 simp only [List.drop_succ_cons, List.drop_zero]
 go_wp2_with fail
 refine (mix_any S HSL.out C 0 8 8 131 [] [] cf rfl HCL.out (by omega) _ (by simpa using hp_more HC2.out)).mono ?_
 rintro e w3 ⟨rfl, hx3⟩
 simp only [List.nil_append, List.append_nil] at hx3
 rw [setRow_more _ _ _ _ hCW] at hx3
 have HX3 := kp ((Ext.more _ _).trans hx3)
 clear hx3
 have HB3 := kp (below_next (HX2.out.below) (Nat.le_refl _) (show w.heap.size ≤ C by omega) HX3.out)
 have HE3 := kp (Ext.of_below HB3.out)
 have HK3 := kp (other_next (by omega) HK2.out HX3.out)
 have HN3 := kp (other_next (by omega) HN2.out HX3.out)
 have HC3 := kp (ext_heap HX3.out (setRow_heap W2 C _ _ _ _ HC2.out))
 have hC3 : C < w3.heap.size := by have := HC3.out; rw [Array.getElem?_eq_some_iff] at this; exact this.1
 have hw3 : w.heap.size ≤ w3.heap.size := HE3.out.size
 clear HX3 HB3 HX2 HK2 HN2 HC2
 generalize h6 : (Code.region 6 _ _ : Code) = R6
 go_wp2_with fail
 refine (HCN.out _ _ (HVB.out.ext HE3.out)).mono ?_
 rintro e w4 ⟨v4, rfl, ho4, hx4⟩
 have HO4 := kp ho4
 have HX4 := kp hx4
 have HK4 := kp (ext_heap hx4 HK3.out)
 have HN4 := kp (ext_heap hx4 HN3.out)
 have HC4 := kp (ext_heap hx4 HC3.out)
 obtain ⟨a4, c4, rfl⟩ := (SlB.of_owns ho4).form
 clear ho4 hx4
 go_wp2_with (first | ((with_reducible refine isLd 25 ?_); (with_reducible refine wpList_load_row rfl 25 _ rfl (w.heap.size) rfl 25 ((ks.map V8).toArray) (0, 0) _ (HK4.out) Try.underlying25 rfl (HK.out) ?_); simp only [pA]) | ((with_reducible refine isLd 107 ?_); (with_reducible refine wpList_load_row rfl 107 _ rfl (w.heap.size + 1) rfl 107 ((nc.map V8).toArray) (0, 0) _ (HN4.out) Try.underlying107 rfl (HN.out) ?_); simp only [pA]))
 refine (HCR.out _ _ _ HO4.out).mono ?_
 rintro e w5 ⟨rfl, ho5, hg5⟩
 have HO5 := kp (show w5.ownsRow w3.heap.size 5 1 (.slice a4 body.length c4) bf.length (bf.map V8) by rw [HFL.out]; exact ho5)
 have HOB := kp (owns_block ho5)
 have HC5 := kp ((hg5.block C (by have := HX4.out.size; omega) (fun e => by have := HOB.out C e.symm; omega)).trans HC4.out)
 have HX5 := kp ((HE3.out.trans HX4.out).grown hg5 (fun k hk => by have := HOB.out k hk; omega))
 have HSC := kp (show SlB w5 (.slice (some ⟨C, 0, none⟩) 8 8) (mixF cf S) by
  have h := SlB.of_block (l := mixF cf S) (cap := 8) HC5.out
  rwa [HML.out, HCL.out] at h)
 have HLE := kp (show bf.length + (mixF cf S).length ≤ 1000000 by rw [HFL.out, HML.out, HCL.out]; omega)
 have hs5 : w3.heap.size ≤ w5.heap.size := by have h1 := HX4.out.size; have h2 := hg5.size; omega
 clear ho5 hg5
 go_wp2_with (at_builtin; refine wpList_append_SlB rfl _ _ 33 rfl w3.heap.size 5 iu Try.underlying33 HIU.out HU.out.1 HU.out.2.1 HU.out.2.2 (.slice a4 body.length c4) bf rfl HO5.out _ (mixF cf S) rfl HSC.out HLE.out hs5 ?_; intro v6 w6 ho6 hg6)
 rw [← HF.out] at ho6
 refine bodyPost_ret (v := .tuple #[v6, .int .i64 0]) (by simp [results, Try.results64, go_sem]) rfl ⟨_, rfl, owns_base ho6 hw3, HX5.out.grown hg6 (fun k hk => by have := HOB.out k hk; omega)⟩
def openB (ks nc text : List (BitVec 8)) : List (BitVec 8) := cryptF ks nc (text.take (text.length - 8))
def openOk (ks nc ad text : List (BitVec 8)) : Bool := tagF ks nc ad (openB ks nc text) == text.drop (text.length - 8)
theorem openB_len (ks nc text : List (BitVec 8)) : (openB ks nc text).length = text.length - 8 := by
 unfold openB; rw [cryptF_len, List.length_take]; omega
theorem CapOk.of_owns {w : World} {base E n : Nat} {v : Value} {xs : List Value} (h : w.ownsRow base E 1 v n xs) : CapOk v := fun a len cap e => by
 subst e; exact owns_cap h
set_option maxHeartbeats 3200000 in
theorem open_any (ks nc : List (BitVec 8)) (hk : ks.length = 16) (hc : nc.length = 13) (va vb : Value) (ad text : List (BitVec 8)) (ha : ad.length ≤ 256) (hb : text.length ≤ 4104) (h8 : 8 ≤ text.length) (w : World) (hva : SlB w va ad) (hvb : SlB w vb text) (hcb : CapOk vb) :
  Calls Try.prog 83 #[.agg (ks.map V8).toArray, .agg (nc.map V8).toArray, va, vb] w (RetO2 (if openOk ks nc ad text then openB ks nc text else []) (if openOk ks nc ad text then 0 else 31) w) := by
 obtain ⟨aa, ca, rfl⟩ := hva.form
 obtain ⟨bb, ob, cb, hvf, hbw, hcell⟩ : ∃ bb ob cb, vb = .slice (some ⟨bb, ob, none⟩) text.length cb ∧ bb < w.heap.size ∧ ∀ (j : Nat) x, text[j]? = some x → w.cell? ⟨bb, ob + j, none⟩ = some (V8 x) := by
  rcases hvb with ⟨h, _⟩ | h
  ·subst h; simp at h8
  ·exact h
 subst hvf
 have hcap : text.length ≤ cb := hcb _ _ _ rfl
 have HVB := kp hvb
 have HVA := kp hva
 obtain ⟨n, hn⟩ : ∃ n, n = text.length - 8 := ⟨_, rfl⟩
 have HTK := kp (show SlB w (.slice (some ⟨bb, ob, none⟩) n cb) (text.take n) from hvb.take (by omega) (fun h => by cases h))
 have HDR := kp (show SlB w (.slice (some ⟨bb, ob + n, none⟩) 8 (cb - n)) (text.drop n) by
  have h := (SlK.cut (C := bb + 1) (n := bb + 1) (nn := n) (show SlK (bb + 1) (bb + 1) w (.slice (some ⟨bb, ob, none⟩) text.length cb) text from ⟨hvb, fun b off len cap e _ => by cases e; omega, hcb⟩) (by omega)).1
  rwa [show text.length - n = 8 by omega] at h)
 have HK := kp (sizeK ks hk)
 have HN := kp (sizeN nc hc)
 have HB := kp (show openB ks nc text = cryptF ks nc (text.take n) by rw [openB, hn])
 have HBL := kp (show (openB ks nc text).length = n by rw [openB_len, hn])
 have HCN := kp (fun v w h => clone_any v (text.take n) (by rw [List.length_take]; omega) w h)
 have HCR := kp (fun base v w h => crypt_any ks nc (text.take n) hk hc (by rw [List.length_take]; omega) base v w h)
 rw [← HB.out] at HCR
 have HTL := kp (show (text.take n).length = n by rw [List.length_take]; omega)
 rw [HTL.out] at HCR
 have HC := kp (fun v w (h1 : SlB w (.slice aa ad.length ca) ad) (h2 : SlB w v (openB ks nc text)) (h3 : CapOk v) => code_ok ks nc hk hc _ _ ad (openB ks nc text) ha (by rw [openB_len]; omega) w h1 h2 h3)
 have HZ := kp (size8 _ (codeF_len ks nc ad (openB ks nc text)))
 have HZ8 := kp (z8_size _ (codeF_len ks nc ad (openB ks nc text)))
 have HCL := kp (codeF_len ks nc ad (openB ks nc text))
 have HST := kp (fun w => stream_any ks nc hk hc 0 w)
 have HSL := kp (streamF_len ks nc 0)
 have HOK := kp (show openOk ks nc ad text = (mixF (codeF ks nc ad (openB ks nc text)) (streamF ks nc 0) == text.drop n) by rw [hn]; rfl)
 have HML := kp (mixF_len (codeF ks nc ad (openB ks nc text)) (streamF ks nc 0))
 have h1 : ¬ 256 < (ad.length : Int) := by omega
 have h2 : ¬ 4096 < (n : Int) := by omega
 have h3 : ¬ (n : Int) < 0 := by omega
 have hsub : (text.length : Int) - 8 = n := by omega
 have hnl : n + 8 = text.length := by omega
 generalize codeF ks nc ad (openB ks nc text) = cf at *
 generalize streamF ks nc 0 = S at *
 generalize openOk ks nc ad text = ok at *
 generalize openB ks nc text = bf at *
 clear hva hvb hcb hk hc hcell hn
 obtain ⟨m, hm⟩ : ∃ m, m = text.length := ⟨_, rfl⟩
 rw [← hm] at hb h8 hcap hsub hnl HVB ⊢
 have HM := kp hm
 clear hm
 obtain ⟨RB, hRB⟩ : ∃ RB, RB = (if ok = true then bf else []) := ⟨_, rfl⟩
 obtain ⟨RE, hRE⟩ : ∃ RE : Int, RE = (if ok = true then 0 else 31) := ⟨_, rfl⟩
 rw [← hRB, ← hRE]
 have HRB := kp hRB
 have HRE := kp hRE
 clear hRB hRE
 go_enter Try.func83, Try.ntmps83
 generalize h7 : (Code.region 7 _ _ : Code) = R7
 generalize h9 : (Code.region 9 _ _ : Code) = R9
 go_wp2_with fail
 refine (HCN.out _ _ (HTK.out.ext ((Ext.alloc _ _).trans (Ext.alloc _ _)))).mono ?_
 rintro e w1 ⟨v1, rfl, ho1, hx1⟩
 have HO1 := kp (show w1.ownsRow (w.heap.size + 2) 5 1 v1 n ((text.take n).map V8) by rw [HTL.out] at ho1; simpa using ho1)
 have HX1 := kp (((Ext.alloc _ _).trans (Ext.alloc _ _)).trans hx1)
 have HK1 := kp (ext_heap hx1 (hp_alloc (hp_new _ _)))
 have HN1 := kp (ext_heap hx1 (hp_at _ _ (w.heap.size + 1) (by simp)))
 obtain ⟨a1, c1, hv1⟩ := (SlB.of_owns HO1.out).form
 rw [HTL.out] at hv1
 subst hv1
 have hw1 : w.heap.size + 2 ≤ w1.heap.size := by have := hx1.size; simpa using this
 clear ho1 hx1
 go_wp2_with fail
 subst h7
 go_wp2_with (first | ((with_reducible refine isLd 25 ?_); (with_reducible refine wpList_load_row rfl 25 _ rfl (w.heap.size) rfl 25 ((ks.map V8).toArray) (0, 0) _ (HK1.out) Try.underlying25 rfl (HK.out) ?_); simp only [pA]) | ((with_reducible refine isLd 107 ?_); (with_reducible refine wpList_load_row rfl 107 _ rfl (w.heap.size + 1) rfl 107 ((nc.map V8).toArray) (0, 0) _ (HN1.out) Try.underlying107 rfl (HN.out) ?_); simp only [pA]))
 refine (HCR.out _ _ _ HO1.out).mono ?_
 rintro e w2 ⟨rfl, ho2, hg2⟩
 have HO2 := kp ho2
 have HOB := kp (owns_block ho2)
 have HK2 := kp ((hg2.block w.heap.size (by omega) (fun e => by have := HOB.out _ e.symm; omega)).trans HK1.out)
 have HN2 := kp ((hg2.block (w.heap.size + 1) (by omega) (fun e => by have := HOB.out _ e.symm; omega)).trans HN1.out)
 have HX2 := kp (HX1.out.grown hg2 (fun k hk => by have := HOB.out k hk; omega))
 have HS2 := kp (show SlB w2 (.slice a1 n c1) bf from SlB.of_owns ho2)
 have HCP := kp (CapOk.of_owns ho2)
 have hw2 : w.heap.size + 2 ≤ w2.heap.size := by have := hg2.size; omega
 clear ho2 hg2 HO1 HK1 HN1 HX1
 go_wp2_with (first | ((with_reducible refine isLd 25 ?_); (with_reducible refine wpList_load_row rfl 25 _ rfl (w.heap.size) rfl 25 ((ks.map V8).toArray) (0, 0) _ (HK2.out) Try.underlying25 rfl (HK.out) ?_); simp only [pA]) | ((with_reducible refine isLd 107 ?_); (with_reducible refine wpList_load_row rfl 107 _ rfl (w.heap.size + 1) rfl 107 ((nc.map V8).toArray) (0, 0) _ (HN2.out) Try.underlying107 rfl (HN.out) ?_); simp only [pA]))
 refine (HC.out _ _ (HVA.out.ext HX2.out) HS2.out HCP.out).mono ?_
 rintro e w3 ⟨rfl, hx3⟩
 have HX3 := kp hx3
 have HK3 := kp (hp_alloc (o' := .cells (cf.map V8).toArray 131) (ext_heap hx3 HK2.out))
 have HN3 := kp (hp_alloc (o' := .cells (cf.map V8).toArray 131) (ext_heap hx3 HN2.out))
 clear hx3
 go_wp2_with ((with_reducible refine isSt 131 ?_); with_reducible refine wpList_st_row rfl rfl 131 _ _ rfl (w3.heap.size) ((cf.map V8).toArray) rfl rfl 131 (z8) (hp_new _ _) (HZ.out) (HZ8.out) (all_V8 _) (by rewrite [setRow_at _ _ _ _ _ _ (by simp <;> omega)]; rfl) ?_)
 subst h9
 (refine region_f 4 (by kernel_rfl) (by kernel_rfl) (by kernel_rfl) (by kernel_rfl) (by decide) (Nat.le_of_ble_eq_true (by kernel_rfl)) ?_)
 apply Exists.intro
 refine ⟨fun xz2 => ?_, fun xq2 => ?_⟩
 ·simp only [List.take_succ_cons, List.take_zero]
  unfold Cx
  (go_big_quiet_step (fail); ((with_reducible show wpQuiet _ _ _ _ (Oper.mk _ (Op.load 25 _) _ _ _ _ :: _) _); go_big_quiet_want; with_reducible refine quiet_load_row 25 _ rfl (w.heap.size) rfl 25 ((ks.map V8).toArray) (0, 0) _ (fun _ hw => by obtain ⟨xx, rfl⟩ := hw; exact hp_more HK3.out) Try.underlying25 rfl (HK.out) ?_; simp only [pA]; go_big_quiet_on); ((with_reducible show wpQuiet _ _ _ _ (Oper.mk _ (Op.load 107 _) _ _ _ _ :: _) _); go_big_quiet_want; with_reducible refine quiet_load_row 107 _ rfl (w.heap.size + 1) rfl 107 ((nc.map V8).toArray) (0, 0) _ (fun _ hw => by obtain ⟨xx, rfl⟩ := hw; exact hp_more HN3.out) Try.underlying107 rfl (HN.out) ?_; simp only [pA]; go_big_quiet_on); go_big_quiet_step (exact Calls.cx_of (HST.out _)))
  exact wpQuiet_nil rfl
 simp only [List.drop_succ_cons, List.drop_zero]
 go_wp2_with fail
 refine (mix_any S HSL.out w3.heap.size 0 8 8 131 [] [] cf rfl HCL.out (by omega) _ (by simpa using hp_more (hp_new _ _))).mono ?_
 rintro e w4 ⟨rfl, hx4⟩
 simp only [List.nil_append, List.append_nil] at hx4
 rw [setRow_more _ _ _ _ (by simp), setRow_at _ _ _ _ _ _ rfl] at hx4
 have HX4 := kp ((Ext.more _ _).trans hx4)
 clear hx4
 have HE4 := kp (((HX2.out.trans HX3.out).trans (Ext.alloc _ _)).trans HX4.out)
 have HC4 := kp (ext_heap HX4.out (hp_new _ _))
 have HO4 := kp (owns_ext HO2.out ((HX3.out.trans (Ext.alloc _ _)).trans HX4.out))
 have HSC := kp (show SlB w4 (.slice (some ⟨w3.heap.size, 0, none⟩) 8 8) (mixF cf S) by
  have h := SlB.of_block (l := mixF cf S) (cap := 8) HC4.out
  rwa [HML.out, HCL.out] at h)
 have HDR4 := kp (HDR.out.ext HE4.out)
 have hbw4 : bb < w4.heap.size := by have := HE4.out.size; omega
 have hncb : n < cb := by omega
 have HEQ := kp (fun x => equal_any w3.heap.size 0 8 8 bb (ob + n) 8 (cb - n) (mixF cf S) (text.drop n) (more w4 x) (HSC.out.ext (Ext.more _ _)) (HDR4.out.ext (Ext.more _ _)))
 rw [← HOK.out] at HEQ
 have hm8 : m - n = 8 := by omega
 cases ok with
 | true =>
  obtain rfl : RB = bf := HRB.out
  obtain rfl : RE = 0 := HRE.out
  go_wp2_with fail
  (refine region_f 6 (by kernel_rfl) (by kernel_rfl) (by kernel_rfl) (by kernel_rfl) (by decide) (Nat.le_of_ble_eq_true (by kernel_rfl)) ?_)
  apply Exists.intro
  refine ⟨fun xz3 => ?_, fun xq3 => ?_⟩
  ·simp only [List.take_succ_cons, List.take_zero]
   unfold Cx
   (go_big_quiet_step (fail); go_big_quiet_step (fail); go_big_quiet_step (fail); go_big_quiet_step (fail); go_big_quiet_step (exact Calls.cx_of_same (HEQ.out _)); go_big_quiet_step (fail))
   exact wpQuiet_nil rfl
  simp only [List.drop_succ_cons, List.drop_zero]
  go_wp2_with fail
  refine bodyPost_ret (v := .tuple #[.slice a1 n c1, .int .i64 0]) (by simp [results, Try.results83, go_sem]) rfl ⟨_, rfl, owns_base (by rw [HBL.out]; exact owns_ext HO4.out (Ext.more _ _)) (by omega), HE4.out.trans (Ext.more _ _)⟩
 | false =>
  obtain rfl : RB = [] := HRB.out
  obtain rfl : RE = 31 := HRE.out
  go_wp2_with fail
  (refine region_f 6 (by kernel_rfl) (by kernel_rfl) (by kernel_rfl) (by kernel_rfl) (by decide) (Nat.le_of_ble_eq_true (by kernel_rfl)) ?_)
  apply Exists.intro
  refine ⟨fun xz4 => ?_, fun xq4 => ?_⟩
  ·simp only [List.take_succ_cons, List.take_zero]
   unfold Cx
   (go_big_quiet_step (fail); go_big_quiet_step (fail); go_big_quiet_step (fail); go_big_quiet_step (fail); go_big_quiet_step (exact Calls.cx_of_same (HEQ.out _)); go_big_quiet_step (fail))
   exact wpQuiet_nil rfl
  simp only [List.drop_succ_cons, List.drop_zero]
  go_wp2_with fail
  refine bodyPost_ret (v := .tuple #[.slice none 0 0, .int .i64 31]) (by simp [results, Try.results83, go_sem]) rfl ⟨_, rfl, owns_nil _ _ _, HE4.out.trans (Ext.more _ _)⟩
def twoF (n : Int) : List (BitVec 8) := [BitVec.ofInt 8 n, BitVec.ofInt 8 (n / 256)]
set_option maxHeartbeats 800000 in
theorem two_any (n : Int) (w : World) :
  Calls Try.prog 106 #[.int .i64 n] w fun e w' => e = .returned (.slice (some ⟨w.heap.size, 0, none⟩) 2 2) ∧ w' = w.alloc (.cells ((twoF n).map V8).toArray 5) := by
 go_enter Try.func106, Try.ntmps106
 go_wp2_with fail
 go_ret
 refine ⟨rfl, ?_⟩
 show _ = w.alloc (.cells #[.int .u8 (wI (BitVec.ofInt 8 n)), .int .u8 (wI (BitVec.ofInt 8 (n / 256)))] 5)
 rw [wI_ofInt8, wI_ofInt8]
set_option maxHeartbeats 1600000 in
theorem djoin_any (b c : Nat) (vs : List Value) (ls : List (List (BitVec 8))) (w : World) (hb : w.heap[b]? = some (.cells vs.toArray 33 (0, 0))) (hp : Parts w vs ls) (hn : vs.length ≤ 1000) (hlen : ls.flatten.length ≤ 1000000) :
  Calls Try.prog 88 #[.slice (some ⟨b, 0, none⟩) vs.length c] w (RetB ls.flatten w) := by
 obtain ⟨iu, hiu, hu⟩ : ∃ iu, Try.prog.info? 5 = some iu ∧ iu.zero = some (.int .u8 0) ∧ iu.size = 1 ∧ iu.bytes = 1 := by
  have h := info_u8
  cases hq : Try.prog.info? 5 with
  | none => simp [hq] at h
  | some iu => simp [hq] at h; exact ⟨iu, rfl, h⟩
 have HIU := kp hiu
 have HU := kp hu
 have HB := kp hb
 have HP := kp hp
 have HLEN := kp hlen
 obtain ⟨n, hnn⟩ : ∃ n, n = vs.length := ⟨_, rfl⟩
 rw [← hnn] at hn ⊢
 have HN := kp hnn
 have hbs : b < w.heap.size := by rw [Array.getElem?_eq_some_iff] at hb; exact hb.1
 clear hiu hu hb hp hlen hnn
 go_enter Try.func88, Try.ntmps88
 go_wp2_with fail
 go_loopw [2, 7] (fun v i wr => ∃ (k : Nat) (x : Xtra), k ≤ n ∧ i = .int .i64 k ∧ Kp (wr.ownsRow w.heap.size 5 1 v (ls.take k).flatten.length ((ls.take k).flatten.map V8)) ∧ wr = more w x) (fun _ i _ => n - (intOf i).toNat)
 case atStart => exact ⟨0, _, by omega, rfl, kp (owns_nil _ _ _), by rw [← more_self]⟩
 case round =>
  obtain ⟨k, x, hk, rfl, HO, rfl⟩ := hrel
  by_cases hlt : k < n
  ·obtain ⟨y, hy⟩ : ∃ y, vs[k]? = some y := ⟨vs[k]'(by rw [← HN.out]; omega), by simp⟩
   obtain ⟨l, hl⟩ : ∃ l, ls[k]? = some l := ⟨ls[k]'(by rw [← HP.out.1, ← HN.out]; omega), by simp⟩
   have HS := kp ((HP.out.2 k y l hy hl).ext (Ext.more w x))
   have hc : w.cell? ⟨b, k, none⟩ = some y := by rw [cell_of_row w b k vs.toArray _ _ HB.out]; simpa using hy
   obtain ⟨ay, cy, hyf⟩ := HS.out.form
   have HT := kp (show (ls.take (k + 1)).flatten = (ls.take k).flatten ++ l by rw [List.take_add_one, hl]; simp)
   have HLE := kp (show (ls.take k).flatten.length + l.length ≤ 1000000 by
    have h1 := flat_take_le ls (k + 1)
    rw [HT.out, List.length_append] at h1
    have h2 := HLEN.out
    omega)
   clear hy hl
   subst hyf
   go_wp2_with (at_builtin; refine wpList_append_SlB rfl _ _ 33 rfl w.heap.size 5 iu Try.underlying33 HIU.out HU.out.1 HU.out.2.1 HU.out.2.2 _ _ rfl HO.out _ l rfl HS.out HLE.out (by simp) ?_; intro v' w1 ho1 hg1)
   obtain ⟨x1, hx1⟩ := (Ext.more w x).grown hg1 (fun q hq => owns_block HO.out q hq)
   go_roundw
   case rel => exact ⟨k + 1, x1, by omega, by go_num, kp (by rw [HT.out]; exact ho1), hx1⟩
   case measure => simp [intOf]; omega
  ·obtain rfl : k = n := by omega
   have HE := kp (show (ls.take k).flatten = ls.flatten by rw [List.take_of_length_le (by rw [← HP.out.1, ← HN.out]; exact Nat.le_refl _)])
   go_wp2_with fail
   go_ret
   exact ⟨_, rfl, SlB.of_owns (by rw [← HE.out]; exact HO.out), Ext.more _ _⟩
def inputF (s : ByteArray) (c : List (BitVec 8)) (i : Int) : List (BitVec 8) := [[BitVec.ofInt 8 s.size], strB s, twoF c.length, c, twoF i].flatten
set_option maxHeartbeats 1600000 in
theorem input_any (s : ByteArray) (hs : s.size ≤ 100000) (vc : Value) (c : List (BitVec 8)) (hc : c.length ≤ 100000) (i : Int) (w : World) (hv : SlB w vc c) :
  Calls Try.prog 87 #[.string s, vc, .int .i64 i] w (RetB (inputF s c i) w) := by
 obtain ⟨ac, cc, rfl⟩ := hv.form
 have HV := kp hv
 have HI := kp (show inputF s c i = [[BitVec.ofInt 8 s.size], strB s, twoF c.length, c, twoF i].flatten from rfl)
 have HW1 := kp (wI_ofInt8 (s.size : Int))
 clear hv
 go_enter Try.func87, Try.ntmps87
 go_wp2_with (first | (refine wpList_strB rfl 9 33 5 _ rfl s rfl Try.underlying9 Try.underlying33 Try.underlying5 ?_; intro b1 cap1 y1 HS1; simp only [pA]) | (go_at_call 106; refine (two_any _ _).mono ?_; rintro e w' ⟨rfl, rfl⟩))
 have hA : (#[Value.int .u8 ((s.size : Int) % 256)] : Array Value) = ([BitVec.ofInt 8 s.size].map V8).toArray := by
  show _ = #[Value.int .u8 (wI (BitVec.ofInt 8 s.size))]
  rw [HW1.out]
 rw [hA]
 rw [hA] at HS1
 refine Calls.mono (djoin_any _ 5 [_, _, _, _, _] [[BitVec.ofInt 8 s.size], strB s, twoF c.length, c, twoF i] _ (hp_at _ _ _ (by simp)) (parts5 ?p1 ?p2 ?p3 ?p4 ?p5) (by simp) (by simp [twoF, strB_len]; omega)) ?post
 case p1 => exact SlB.of_block (l := [BitVec.ofInt 8 s.size]) (hp_alloc (hp_alloc (hp_alloc (hp_more (hp_new _ _)))))
 case p2 => exact HS1.out.ext (((Ext.alloc _ _).trans (Ext.alloc _ _)).trans (Ext.alloc _ _))
 case p3 => exact SlB.of_block (l := twoF c.length) (hp_alloc (hp_alloc (hp_at _ _ _ (by simp))))
 case p4 => exact HV.out.ext (((((Ext.alloc _ _).trans (Ext.more _ _)).trans (Ext.alloc _ _)).trans (Ext.alloc _ _)).trans (Ext.alloc _ _))
 case p5 => exact SlB.of_block (l := twoF i) (hp_alloc (hp_at _ _ _ (by simp)))
 case post =>
  rintro e w' ⟨v, rfl, hsl, hx⟩
  have HSL := kp hsl
  have HX := kp hx
  clear hsl hx
  go_wp2_with fail
  go_ret
  exact ⟨v, rfl, HSL.out, (((((Ext.alloc _ _).trans (Ext.more _ _)).trans (Ext.alloc _ _)).trans (Ext.alloc _ _)).trans (Ext.alloc _ _)).trans HX.out⟩
def lenB (n k : Nat) : BitVec 8 := BitVec.ofInt 8 ((n : Int) / 2 ^ (8 * k))
theorem lenB_int (n k : Nat) : V8 (lenB n k) = .int .u8 ((n : Int) / 2 ^ (8 * k) % 256) := by unfold V8 lenB; rw [wI_ofInt8]
def macHdTo (n : Nat) : Nat → List (BitVec 8)
 | 0 => [3, 0, 0, 0, 0, 0, 0, 0, 0, 0, 0, 0, 0, 0, 0, 0]
 | k + 1 => (macHdTo n k).set (1 + k) (lenB n k)
theorem macHdTo_len (n : Nat) : ∀ k, (macHdTo n k).length = 16
 | 0 => rfl
 | k + 1 => by rw [macHdTo, List.length_set]; exact macHdTo_len n k
def macTo (ks bs : List (BitVec 8)) : Nat → List (BitVec 8)
 | 0 => encF ks (macHdTo bs.length 8)
 | k + 1 => if k % 16 = 15 ∨ k + 1 = bs.length then encF ks ((macTo ks bs k).set (k % 16) ((macTo ks bs k).getD (k % 16) 0 ^^^ bs.getD k 0)) else (macTo ks bs k).set (k % 16) ((macTo ks bs k).getD (k % 16) 0 ^^^ bs.getD k 0)
theorem macTo_len (ks bs : List (BitVec 8)) : ∀ k, (macTo ks bs k).length = 16
 | 0 => encF_len _ _
 | k + 1 => by
  rw [macTo]
  split
  ·exact encF_len _ _
  ·rw [List.length_set]; exact macTo_len ks bs k
def macF (ks bs : List (BitVec 8)) : List (BitVec 8) := macTo ks bs bs.length
theorem macF_len (ks bs : List (BitVec 8)) : (macF ks bs).length = 16 := macTo_len ks bs _
set_option maxHeartbeats 3200000 in
theorem mac_any (ks bs : List (BitVec 8)) (hk : ks.length = 16) (hn : bs.length ≤ 1000000000) (v : Value) (w : World) (hs : SlB w v bs) :
  Calls Try.prog 66 #[.agg (ks.map V8).toArray, v] w fun e w' => e = .returned (.agg ((macF ks bs).map V8).toArray) ∧ Ext w w' := by
 obtain ⟨ad, cap, rfl⟩ := hs.form
 have HS0 := kp hs
 obtain ⟨n, hnn⟩ : ∃ n, n = bs.length := ⟨_, rfl⟩
 rw [← hnn] at hn ⊢
 have HN := kp hnn
 have HK := kp (sizeK ks hk)
 have HEN := kp (fun (xs : List (BitVec 8)) (hx : xs.length = 16) (w : World) => encrypt_any ks xs hk hx w)
 clear hs hnn hk
 go_enter Try.func66, Try.ntmps66
 go_wp2_with fail
 go_loopw [10] (fun i wr => ∃ (k : Nat) (x : Xtra), k ≤ 8 ∧ i = .int .i64 k ∧ wr = more (((w.alloc (.cells (ks.map V8).toArray 25)).alloc (.cells z16 115)).alloc (.cells ((macHdTo n k).map V8).toArray 115)) x) (fun i _ => 8 - (intOf i).toNat)
 case atStart => exact ⟨0, _, by omega, rfl, by rw [← more_self]; rfl⟩
 case round =>
  obtain ⟨k, x, hk, rfl, rfl⟩ := hrel
  by_cases hlt : k < 8
  ·obtain ⟨y, hy⟩ : ∃ y, (macHdTo n k)[1 + k]? = some y := ⟨(macHdTo n k)[1 + k]'(by rw [macHdTo_len]; omega), by simp⟩
   have HL := kp (lenB_int n k)
   go_wp2_with fail
   go_roundw
   case rel => exact ⟨k + 1, _, by omega, by go_num, by rw [macHdTo, List.map_set, HL.out]⟩
   case measure => simp [intOf]; omega
  ·obtain rfl : k = 8 := by omega
   have HC := kp (sizeB (macHdTo n 8) (macHdTo_len n 8))
   have HC0 := kp (sizeB (macTo ks bs 0) (macTo_len ks bs 0))
   have HCC := kp (show ((macHdTo n 8).map V8).toArray.size = ((macTo ks bs 0).map V8).toArray.size by simp [macHdTo_len, macTo_len])
   have HE0 := kp (HEN.out (macHdTo n 8) (macHdTo_len n 8))
   rw [show encF ks (macHdTo n 8) = macTo ks bs 0 by rw [macTo, HN.out]] at HE0
   generalize macHdTo n 8 = hd at *
   have HZ := kp (z16_size (macTo ks bs n) (macTo_len ks bs n))
   go_wp2_with (first | ((with_reducible refine isLd 25 ?_); (with_reducible refine wpList_load_row rfl 25 _ rfl (w.heap.size) rfl 25 ((ks.map V8).toArray) (0, 0) _ (hp_more (hp_alloc (hp_alloc (hp_new _ _)))) Try.underlying25 rfl (HK.out) ?_); simp only [pA]) | ((with_reducible refine isLd 115 ?_); (with_reducible refine wpList_load_row rfl 115 _ rfl (w.heap.size + 1 + 1) rfl 115 ((hd.map V8).toArray) (0, 0) _ (hp_more (hp_at _ _ _ (by simp))) Try.underlying115 rfl (HC.out) ?_); simp only [pA]) | ((with_reducible refine isSt 115 ?_); with_reducible refine wpList_st_row rfl rfl 115 _ _ rfl (w.heap.size + 1 + 1) (((macTo ks bs 0).map V8).toArray) rfl rfl 115 (_) (hp_more (hp_at _ _ _ (by simp))) (HC0.out) (HCC.out) (all_V8 _) (by rewrite [setRow_more _ _ _ _ (by first | assumption | (simp <;> omega)), setRow_at _ _ _ _ _ _ (by simp <;> omega)]; rfl) ?_) | (go_at_call 80; refine (HE0.out _).mono ?_; rintro e w' ⟨rfl, xe, rfl⟩; rw [more_more]))
   go_loopw [28] (fun i wr => ∃ (k : Nat) (x : Xtra), k ≤ n ∧ i = .int .i64 k ∧ wr = more (((w.alloc (.cells (ks.map V8).toArray 25)).alloc (.cells z16 115)).alloc (.cells ((macTo ks bs k).map V8).toArray 115)) x) (fun i _ => n - (intOf i).toNat)
   case atStart => exact ⟨0, _, by omega, rfl, rfl⟩
   case round =>
    obtain ⟨k, x, hk, rfl, rfl⟩ := hrel
    by_cases hlt : k < n
    ·obtain ⟨y, hy⟩ : ∃ y, bs[k]? = some y := ⟨bs[k]'(by rw [← HN.out]; omega), by simp⟩
     obtain ⟨b, off, rfl, hb, hcell⟩ := HS0.out.at k y hy
     have hb1 : b < w.heap.size + 1 := by omega
     have hb2 : b < w.heap.size + 1 + 1 := by omega
     have hb3 : b < w.heap.size + 1 + 1 + 1 := by omega
     have hm16 : k % 16 < 16 := by omega
     obtain ⟨z, hz⟩ : ∃ z, (macTo ks bs k)[k % 16]? = some z := ⟨(macTo ks bs k)[k % 16]'(by rw [macTo_len]; omega), by simp⟩
     have HX := kp (show (macTo ks bs k).set (k % 16) ((macTo ks bs k).getD (k % 16) 0 ^^^ bs.getD k 0) = (macTo ks bs k).set (k % 16) (z ^^^ y) by simp [List.getD, hz, hy])
     have HXL := kp (show ((macTo ks bs k).set (k % 16) (z ^^^ y)).length = 16 by rw [List.length_set]; exact macTo_len ks bs k)
     clear hy
     have HM := kp (show ((macTo ks bs k).map V8).set (k % 16) (V8 (z ^^^ y)) = ((macTo ks bs k).set (k % 16) (z ^^^ y)).map V8 by rw [List.map_set])
     have HB1 := kp (show (Try.prog.info? 115).map (·.size) = some (((macTo ks bs k).map V8).set (k % 16) (V8 (z ^^^ y))).toArray.size by rw [HM.out]; exact sizeB _ HXL.out)
     have HB2 := kp (sizeB (encF ks ((macTo ks bs k).set (k % 16) (z ^^^ y))) (encF_len _ _))
     have HBB := kp (show (((macTo ks bs k).map V8).set (k % 16) (V8 (z ^^^ y))).toArray.size = ((encF ks ((macTo ks bs k).set (k % 16) (z ^^^ y))).map V8).toArray.size by rw [HM.out]; simp [encF_len, macTo_len])
     have HE1 := kp (HEN.out ((macTo ks bs k).set (k % 16) (z ^^^ y)) HXL.out)
     rw [← HM.out] at HE1
     by_cases h15 : k % 16 = 15
     ·have HN1 := kp (show macTo ks bs (k + 1) = encF ks ((macTo ks bs k).set (k % 16) (z ^^^ y)) by rw [macTo, if_pos (.inl h15), HX.out])
      have hq : ((k : Int) % 16 == 15) = true := by simp; omega
      clear h15
      go_wp2_with (first | ((with_reducible refine isLd 25 ?_); (with_reducible refine wpList_load_row rfl 25 _ rfl (w.heap.size) rfl 25 ((ks.map V8).toArray) (0, 0) _ (hp_more (hp_alloc (hp_alloc (hp_new _ _)))) Try.underlying25 rfl (HK.out) ?_); simp only [pA]) | ((with_reducible refine isLd 115 ?_); (with_reducible refine wpList_load_row rfl 115 _ rfl (w.heap.size + 1 + 1) rfl 115 ((((macTo ks bs k).map V8).set (k % 16) (V8 (z ^^^ y))).toArray) (0, 0) _ (hp_more (hp_at _ _ _ (by simp))) Try.underlying115 rfl (HB1.out) ?_); simp only [pA]) | ((with_reducible refine isSt 115 ?_); with_reducible refine wpList_st_row rfl rfl 115 _ _ rfl (w.heap.size + 1 + 1) (((encF ks ((macTo ks bs k).set (k % 16) (z ^^^ y))).map V8).toArray) rfl rfl 115 (_) (hp_more (hp_at _ _ _ (by simp))) (HB2.out) (HBB.out) (all_V8 _) (by rewrite [setRow_more _ _ _ _ (by first | assumption | (simp <;> omega)), setRow_at _ _ _ _ _ _ (by simp <;> omega)]; rfl) ?_) | (go_at_call 80; refine (HE1.out _).mono ?_; rintro e w' ⟨rfl, xe2, rfl⟩; rw [more_more]))
      go_roundw
      case rel => exact ⟨k + 1, _, by omega, by go_num, by rw [HN1.out]⟩
      case measure => simp [intOf]; omega
     ·by_cases hl1 : k + 1 = n
      ·have HN1 := kp (show macTo ks bs (k + 1) = encF ks ((macTo ks bs k).set (k % 16) (z ^^^ y)) by rw [macTo, if_pos (.inr (by rw [← HN.out]; exact hl1)), HX.out])
       have hq : ((k : Int) % 16 == 15) = false := by simp; omega
       have hq2 : ((k : Int) == (n : Int) - 1) = true := by simp; omega
       clear h15 hl1
       go_wp2_with (first | ((with_reducible refine isLd 25 ?_); (with_reducible refine wpList_load_row rfl 25 _ rfl (w.heap.size) rfl 25 ((ks.map V8).toArray) (0, 0) _ (hp_more (hp_alloc (hp_alloc (hp_new _ _)))) Try.underlying25 rfl (HK.out) ?_); simp only [pA]) | ((with_reducible refine isLd 115 ?_); (with_reducible refine wpList_load_row rfl 115 _ rfl (w.heap.size + 1 + 1) rfl 115 ((((macTo ks bs k).map V8).set (k % 16) (V8 (z ^^^ y))).toArray) (0, 0) _ (hp_more (hp_at _ _ _ (by simp))) Try.underlying115 rfl (HB1.out) ?_); simp only [pA]) | ((with_reducible refine isSt 115 ?_); with_reducible refine wpList_st_row rfl rfl 115 _ _ rfl (w.heap.size + 1 + 1) (((encF ks ((macTo ks bs k).set (k % 16) (z ^^^ y))).map V8).toArray) rfl rfl 115 (_) (hp_more (hp_at _ _ _ (by simp))) (HB2.out) (HBB.out) (all_V8 _) (by rewrite [setRow_more _ _ _ _ (by first | assumption | (simp <;> omega)), setRow_at _ _ _ _ _ _ (by simp <;> omega)]; rfl) ?_) | (go_at_call 80; refine (HE1.out _).mono ?_; rintro e w' ⟨rfl, xe2, rfl⟩; rw [more_more]))
       go_roundw
       case rel => exact ⟨k + 1, _, by omega, by go_num, by rw [HN1.out]⟩
       case measure => simp [intOf]; omega
      ·have HN1 := kp (show macTo ks bs (k + 1) = ((macTo ks bs k).set (k % 16) (z ^^^ y)) by rw [macTo, if_neg (by rw [← HN.out]; omega), HX.out])
       have hq : ((k : Int) % 16 == 15) = false := by simp; omega
       have hq2 : ((k : Int) == (n : Int) - 1) = false := by simp; omega
       clear h15 hl1
       go_wp2_with fail
       go_roundw
       case rel => exact ⟨k + 1, _, by omega, by go_num, by rw [HN1.out, HM.out]⟩
       case measure => simp [intOf]; omega
    ·obtain rfl : k = n := by omega
     have HB := kp (sizeB (macTo ks bs k) (macTo_len ks bs k))
     have HF := kp (show macF ks bs = macTo ks bs k by rw [HN.out]; rfl)
     go_wp2_with (first | ((with_reducible refine isLd 115 ?_); (with_reducible refine wpList_load_row rfl 115 _ rfl (w.heap.size + 1 + 1) rfl 115 (((macTo ks bs k).map V8).toArray) (0, 0) _ (hp_more (hp_at _ _ _ (by simp))) Try.underlying115 rfl (HB.out) ?_); simp only [pA]) | ((with_reducible refine isSt 115 ?_); with_reducible refine wpList_st_row rfl rfl 115 _ _ rfl (w.heap.size + 1) (((macTo ks bs k).map V8).toArray) rfl rfl 115 (_) (hp_more (hp_alloc (hp_at _ _ _ (by simp)))) (HB.out) (HZ.out) (all_V8 _) (by rewrite [setRow_more _ _ _ _ (by first | assumption | (simp <;> omega)), setRow_past _ _ _ _ (by simp <;> omega), setRow_at _ _ _ _ _ _ (by simp <;> omega)]; rfl) ?_))
     exact ret_row Try.results66 (w.heap.size + 1) 115 (((macTo ks bs k).map V8).toArray) (0, 0) _ rfl (hp_more (hp_alloc (hp_at _ _ _ (by simp)))) Try.underlying115 rfl (HB.out) rfl ⟨by rw [HF.out], (((Ext.alloc _ _).trans (Ext.alloc _ _)).trans (Ext.alloc _ _)).trans (Ext.more _ _)⟩
end Go.Proofs.Ytibncchobkaaiaa
