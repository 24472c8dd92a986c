/- Contracts of seal.Seal and seal.Open. -/
import Derived.Test.YtnofmppimihjpaaSealB
namespace Go.Proofs.Ytnofmppimihjpaa
open Go.RowKit

def tagF (ks nc ad body : List (BitVec 8)) : List (BitVec 8) := mixF (codeF ks nc ad body) (streamF ks nc 0)
theorem tagF_len (ks nc ad body : List (BitVec 8)) : (tagF ks nc ad body).length = 8 := by rw [tagF, mixF_len, codeF_len]
def sealF (ks nc ad body : List (BitVec 8)) : List (BitVec 8) := cryptF ks nc body ++ tagF ks nc ad body
theorem sealF_len (ks nc ad body : List (BitVec 8)) : (sealF ks nc ad body).length = body.length + 8 := by rw [sealF, List.length_append, cryptF_len, tagF_len]
/-- The post of a function that returns a new slice of bytes, its own, and a number. -/
def RetO2 (l : List (BitVec 8)) (n : Int) (w : World) (e : Ending) (w' : World) : Prop := ∃ v, e = .returned (.tuple #[v, .int .i64 n]) ∧ w'.ownsRow w.heap.size 5 1 v l.length (l.map V8) ∧ Ext w w'
theorem mixZ (c x : List (BitVec 8)) (h : c.length = 8) : z8.size = ((mixF c x).map V8).toArray.size := by simp [z8, mixF_len, h]

set_option maxHeartbeats 1600000 in
theorem seal_many (ks nc : List (BitVec 8)) (hk : ks.length = 16) (hc : nc.length = 13) (aa ab : Option Addr) (na ca nb cb : Nat) (ho : 256 < na ∨ 4096 < nb) (w : World) :
    Calls Try.prog 15 #[.agg (ks.map V8).toArray, .agg (nc.map V8).toArray, .slice aa na ca, .slice ab nb cb] w (RetO2 [] 4 w) := by
  have HK := kp (sizeK ks hk)
  have HN := kp (sizeN nc hc)
  have HC := kp (fun w => code_many ks nc aa ab na ca nb cb ho w)
  have HZ := kp (show (Try.prog.info? 28).map (·.size) = some z8.size from size8 (List.replicate 8 0) (by simp))
  have HAL := kp (show (z8.all (·.oneCell')) = true from all_V8 _)
  clear hk hc ho
  go_enter Try.func15, Try.ntmps15
  go_wp2_with (first | ((with_reducible show wpList _ _ _ (Oper.mk _ (Op.load 23 _) _ _ _ _ :: _) _ _); (with_reducible refine wpList_load_row rfl 23 _ rfl (w.heap.size) rfl 23 ((ks.map V8).toArray) (0, 0) _ (hp_alloc (hp_new _ _)) Try.underlying23 rfl (HK.out) ?_); simp only [Act.put, List.setIfInBounds_toArray, List.set_cons_zero, List.set_cons_succ]) | ((with_reducible show wpList _ _ _ (Oper.mk _ (Op.load 24 _) _ _ _ _ :: _) _ _); (with_reducible refine wpList_load_row rfl 24 _ rfl (w.heap.size + 1) rfl 24 ((nc.map V8).toArray) (0, 0) _ (hp_at _ _ _ (by simp)) Try.underlying24 rfl (HN.out) ?_); simp only [Act.put, List.setIfInBounds_toArray, List.set_cons_zero, List.set_cons_succ]) | (go_at_call 13; refine (HC.out _).mono ?_; rintro e w' ⟨rfl, x1, rfl⟩) | ((with_reducible show wpList _ _ _ (Oper.mk none (Op.store 28 _ _) _ _ _ _ :: _) _ _); with_reducible refine wpList_st_row rfl rfl 28 _ _ rfl (w.heap.size + 1 + 1 + x1.blocks.size) (z8) rfl rfl 28 (z8) (hp_at _ _ _ (by simp)) (HZ.out) (rfl) (HAL.out) (by rewrite [setRow_at _ _ _ _ _ _ (by simp [more_size] <;> omega)]; rfl) ?_))
  refine bodyPost_ret (v := .tuple #[.slice none 0 0, .int .i64 4]) (by simp [results, Try.results15, go_sem]) rfl ⟨_, rfl, owns_nil _ _ _, (((Ext.alloc _ _).trans (Ext.alloc _ _)).trans (Ext.more _ _)).trans (Ext.alloc _ _)⟩

set_option maxHeartbeats 3200000 in
theorem seal_ok (ks nc : List (BitVec 8)) (hk : ks.length = 16) (hc : nc.length = 13) (va vb : Value) (ad body : List (BitVec 8)) (ha : ad.length ≤ 256) (hb : body.length ≤ 4096) (w : World) (hva : SlB w va ad) (hvb : SlB w vb body) (hcb : CapOk vb) :
    Calls Try.prog 15 #[.agg (ks.map V8).toArray, .agg (nc.map V8).toArray, va, vb] w (RetO2 (sealF ks nc ad body) 0 w) := by
  obtain ⟨iu, hiu, hu⟩ := info_iu
  have HIU := kp hiu
  have HU := kp hu
  obtain ⟨aa, ca, rfl⟩ := hva.form
  obtain ⟨ab, cb, rfl⟩ := hvb.form
  have HVB := kp hvb
  have HK := kp (sizeK ks hk)
  have HN := kp (sizeN nc hc)
  have HC := kp (fun w (h1 : SlB w (.slice aa ad.length ca) ad) (h2 : SlB w (.slice ab body.length cb) body) => code_ok ks nc hk hc _ _ ad body ha hb w h1 h2 hcb)
  have HVA := kp hva
  have HZ := kp (size8 _ (codeF_len ks nc ad body))
  have HZ8 := kp (z8_size _ (codeF_len ks nc ad body))
  have HCL := kp (codeF_len ks nc ad body)
  have HST := kp (fun w => stream_any ks nc hk hc 0 w)
  have HSL := kp (streamF_len ks nc 0)
  have HCN := kp (fun v w h => clone_any v body (by omega) w h)
  have HCR := kp (fun base v w h => crypt_any ks nc body hk hc (by omega) base v w h)
  have HF := kp (show sealF ks nc ad body = cryptF ks nc body ++ mixF (codeF ks nc ad body) (streamF ks nc 0) from rfl)
  have HFL := kp (cryptF_len ks nc body)
  have HML := kp (mixF_len (codeF ks nc ad body) (streamF ks nc 0))
  generalize codeF ks nc ad body = cf at *
  generalize streamF ks nc 0 = S at *
  generalize sealF ks nc ad body = sf at *
  generalize cryptF ks nc body = bf at *
  clear hiu hu hva hvb hcb hk hc
  go_enter Try.func15, Try.ntmps15
  generalize h4 : (Code.region 4 _ _ : Code) = R4
  go_wp2_with (first | ((with_reducible show wpList _ _ _ (Oper.mk _ (Op.load 23 _) _ _ _ _ :: _) _ _); (with_reducible refine wpList_load_row rfl 23 _ rfl (w.heap.size) rfl 23 ((ks.map V8).toArray) (0, 0) _ (hp_alloc (hp_new _ _)) Try.underlying23 rfl (HK.out) ?_); simp only [Act.put, List.setIfInBounds_toArray, List.set_cons_zero, List.set_cons_succ]) | ((with_reducible show wpList _ _ _ (Oper.mk _ (Op.load 24 _) _ _ _ _ :: _) _ _); (with_reducible refine wpList_load_row rfl 24 _ rfl (w.heap.size + 1) rfl 24 ((nc.map V8).toArray) (0, 0) _ (hp_at _ _ _ (by simp)) Try.underlying24 rfl (HN.out) ?_); simp only [Act.put, List.setIfInBounds_toArray, List.set_cons_zero, List.set_cons_succ]) | (go_at_call 13; refine (HC.out _ (HVA.out.ext ((Ext.alloc _ _).trans (Ext.alloc _ _))) (HVB.out.ext ((Ext.alloc _ _).trans (Ext.alloc _ _)))).mono ?_; rintro e w' ⟨rfl, x1, rfl⟩) | ((with_reducible show wpList _ _ _ (Oper.mk none (Op.store 28 _ _) _ _ _ _ :: _) _ _); with_reducible refine wpList_st_row rfl rfl 28 _ _ rfl (w.heap.size + 1 + 1 + x1.blocks.size) ((cf.map V8).toArray) rfl rfl 28 (z8) (hp_at _ _ _ (by simp)) (HZ.out) (HZ8.out) (all_V8 _) (by rewrite [setRow_at _ _ _ _ _ _ (by simp [more_size] <;> omega)]; rfl) ?_))
  have hx2 : Ext w ((more ((w.alloc (.cells (ks.map V8).toArray 23)).alloc (.cells (nc.map V8).toArray 24)) x1).alloc (.cells (cf.map V8).toArray 28)) := (((Ext.alloc _ _).trans (Ext.alloc _ _)).trans (Ext.more _ _)).trans (Ext.alloc _ _)
  have hk2 : ((more ((w.alloc (.cells (ks.map V8).toArray 23)).alloc (.cells (nc.map V8).toArray 24)) x1).alloc (.cells (cf.map V8).toArray 28)).heap[w.heap.size]? = some (.cells (ks.map V8).toArray 23 (0, 0)) := hp_alloc (hp_more (hp_alloc (hp_new _ _)))
  have hn2 : ((more ((w.alloc (.cells (ks.map V8).toArray 23)).alloc (.cells (nc.map V8).toArray 24)) x1).alloc (.cells (cf.map V8).toArray 28)).heap[w.heap.size + 1]? = some (.cells (nc.map V8).toArray 24 (0, 0)) := hp_alloc (hp_more (hp_at _ _ _ (by simp)))
  have hc2 : ((more ((w.alloc (.cells (ks.map V8).toArray 23)).alloc (.cells (nc.map V8).toArray 24)) x1).alloc (.cells (cf.map V8).toArray 28)).heap[w.heap.size + 1 + 1 + x1.blocks.size]? = some (.cells (cf.map V8).toArray 28 (0, 0)) := hp_at _ _ _ (by simp)
  generalize (more ((w.alloc (.cells (ks.map V8).toArray 23)).alloc (.cells (nc.map V8).toArray 24)) x1).alloc (.cells (cf.map V8).toArray 28) = W2 at *
  obtain ⟨C, hC⟩ : ∃ C, C = w.heap.size + 1 + 1 + x1.blocks.size := ⟨_, rfl⟩
  rw [← hC] at hc2 ⊢
  have hCw : w.heap.size + 2 ≤ C := by omega
  have hCW : C < W2.heap.size := by rw [Array.getElem?_eq_some_iff] at hc2; exact hc2.1
  have HX2 := kp hx2
  have HK2 := kp hk2
  have HN2 := kp hn2
  have HC2 := kp hc2
  clear hx2 hk2 hn2 hc2 hC
  subst h4
  (first | with_reducible refine region_f2 4 (by kernel_rfl) (by kernel_rfl) (by kernel_rfl) (by kernel_rfl) (by decide) (Nat.le_of_ble_eq_true (by kernel_rfl)) ?_ | refine region_f 4 (by kernel_rfl) (by kernel_rfl) (by kernel_rfl) (by kernel_rfl) (by decide) (Nat.le_of_ble_eq_true (by kernel_rfl)) ?_)
  apply Exists.intro
  refine ⟨fun xz2 => ?_, fun xq2 => ?_⟩
  · simp only [List.take_succ_cons, List.take_zero]
    unfold Cx
    (go_big_quiet_step (fail); ((with_reducible show wpQuiet _ _ _ _ (Oper.mk _ (Op.load 23 _) _ _ _ _ :: _) _); go_big_quiet_want; with_reducible refine quiet_load_row 23 _ rfl (w.heap.size) rfl 23 ((ks.map V8).toArray) (0, 0) _ (fun _ hw => by obtain ⟨xx, rfl⟩ := hw; exact hp_more HK2.out) Try.underlying23 rfl (HK.out) ?_; simp only [Act.put, List.setIfInBounds_toArray, List.set_cons_zero, List.set_cons_succ]; go_big_quiet_on); ((with_reducible show wpQuiet _ _ _ _ (Oper.mk _ (Op.load 24 _) _ _ _ _ :: _) _); go_big_quiet_want; with_reducible refine quiet_load_row 24 _ rfl (w.heap.size + 1) rfl 24 ((nc.map V8).toArray) (0, 0) _ (fun _ hw => by obtain ⟨xx, rfl⟩ := hw; exact hp_more HN2.out) Try.underlying24 rfl (HN.out) ?_; simp only [Act.put, List.setIfInBounds_toArray, List.set_cons_zero, List.set_cons_succ]; go_big_quiet_on); go_big_quiet_step (exact Calls.cx_of (HST.out _)))
    exact wpQuiet_nil rfl
  simp only [List.drop_succ_cons, List.drop_zero]
  go_wp2_with fail
  refine (mix_any S HSL.out C 0 8 8 28 [] [] cf rfl HCL.out (by omega) _ (by simpa using hp_more HC2.out)).mono ?_
  rintro e w3 ⟨rfl, hx3⟩
  simp only [List.nil_append, List.append_nil] at hx3
  rw [setRow_more _ _ _ _ hCW] at hx3
  have HX3 := kp ((Ext.more _ _).trans hx3)
  clear hx3
  have HB3 := kp (below_next (HX2.out.below) (Nat.le_refl _) (show w.heap.size ≤ C by omega) HX3.out)
  have HE3 := kp (Ext.of_below HB3.out)
  have HK3 := kp (other_next (by omega) HK2.out HX3.out)
  have HN3 := kp (other_next (by omega) HN2.out HX3.out)
  have HC3 := kp (ext_heap HX3.out (setRow_heap W2 C _ _ _ _ HC2.out))
  have hC3 : C < w3.heap.size := by have := HC3.out; rw [Array.getElem?_eq_some_iff] at this; exact this.1
  have hw3 : w.heap.size ≤ w3.heap.size := HE3.out.size
  clear HX3 HB3 HX2 HK2 HN2 HC2
  generalize h6 : (Code.region 6 _ _ : Code) = R6
  go_wp2_with fail
  refine (HCN.out _ _ (HVB.out.ext HE3.out)).mono ?_
  rintro e w4 ⟨v4, rfl, ho4, hx4⟩
  have HO4 := kp ho4
  have HX4 := kp hx4
  have HK4 := kp (ext_heap hx4 HK3.out)
  have HN4 := kp (ext_heap hx4 HN3.out)
  have HC4 := kp (ext_heap hx4 HC3.out)
  obtain ⟨a4, c4, rfl⟩ := (SlB.of_owns ho4).form
  clear ho4 hx4
  go_wp2_with (first | ((with_reducible show wpList _ _ _ (Oper.mk _ (Op.load 23 _) _ _ _ _ :: _) _ _); (with_reducible refine wpList_load_row rfl 23 _ rfl (w.heap.size) rfl 23 ((ks.map V8).toArray) (0, 0) _ (HK4.out) Try.underlying23 rfl (HK.out) ?_); simp only [Act.put, List.setIfInBounds_toArray, List.set_cons_zero, List.set_cons_succ]) | ((with_reducible show wpList _ _ _ (Oper.mk _ (Op.load 24 _) _ _ _ _ :: _) _ _); (with_reducible refine wpList_load_row rfl 24 _ rfl (w.heap.size + 1) rfl 24 ((nc.map V8).toArray) (0, 0) _ (HN4.out) Try.underlying24 rfl (HN.out) ?_); simp only [Act.put, List.setIfInBounds_toArray, List.set_cons_zero, List.set_cons_succ]))
  refine (HCR.out _ _ _ HO4.out).mono ?_
  rintro e w5 ⟨rfl, ho5, hg5⟩
  have HO5 := kp (show w5.ownsRow w3.heap.size 5 1 (.slice a4 body.length c4) bf.length (bf.map V8) by rw [HFL.out]; exact ho5)
  have HOB := kp (owns_block ho5)
  have HC5 := kp ((hg5.block C (by have := HX4.out.size; omega) (fun e => by have := HOB.out C e.symm; omega)).trans HC4.out)
  have HX5 := kp ((HE3.out.trans HX4.out).grown hg5 (fun k hk => by have := HOB.out k hk; omega))
  have HSC := kp (show SlB w5 (.slice (some ⟨C, 0, none⟩) 8 8) (mixF cf S) by
    have h := SlB.of_block (l := mixF cf S) (cap := 8) HC5.out
    rwa [HML.out, HCL.out] at h)
  have HLE := kp (show bf.length + (mixF cf S).length ≤ 1000000 by rw [HFL.out, HML.out, HCL.out]; omega)
  have hs5 : w3.heap.size ≤ w5.heap.size := by have h1 := HX4.out.size; have h2 := hg5.size; omega
  clear ho5 hg5
  go_wp2_with (at_builtin; refine wpList_append_SlB rfl _ _ 25 rfl w3.heap.size 5 iu Try.underlying25 HIU.out HU.out.1 HU.out.2.1 HU.out.2.2 (.slice a4 body.length c4) bf rfl HO5.out _ (mixF cf S) rfl HSC.out HLE.out hs5 ?_; intro v6 w6 ho6 hg6)
  rw [← HF.out] at ho6
  refine bodyPost_ret (v := .tuple #[v6, .int .i64 0]) (by simp [results, Try.results15, go_sem]) rfl ⟨_, rfl, owns_base ho6 hw3, HX5.out.grown hg6 (fun k hk => by have := HOB.out k hk; omega)⟩
/-- What Open returns, and its error. -/
def openB (ks nc text : List (BitVec 8)) : List (BitVec 8) := cryptF ks nc (text.take (text.length - 8))
def openOk (ks nc ad text : List (BitVec 8)) : Bool := tagF ks nc ad (openB ks nc text) == text.drop (text.length - 8)
theorem openB_len (ks nc text : List (BitVec 8)) : (openB ks nc text).length = text.length - 8 := by
  unfold openB; rw [cryptF_len, List.length_take]; omega
theorem CapOk.of_owns {w : World} {base E n : Nat} {v : Value} {xs : List Value} (h : w.ownsRow base E 1 v n xs) : CapOk v := fun a len cap e => by
  subst e; exact owns_cap h

set_option maxHeartbeats 1600000 in
theorem open_many (ks nc : List (BitVec 8)) (aa ab : Option Addr) (na ca nb cb : Nat) (hb : nb ≤ 1000000000) (ho : 256 < na ∨ 4104 < nb) (w : World) :
    Calls Try.prog 20 #[.agg (ks.map V8).toArray, .agg (nc.map V8).toArray, .slice aa na ca, .slice ab nb cb] w (RetO2 [] 4 w) := by
  by_cases h1 : 256 < (na : Int)
  case pos =>
    go_enter Try.func20, Try.ntmps20
    go_wp2_with fail
    refine bodyPost_ret (v := .tuple #[.slice none 0 0, .int .i64 4]) (by simp [results, Try.results20, go_sem]) rfl ⟨_, rfl, owns_nil _ _ _, (Ext.alloc _ _).trans (Ext.alloc _ _)⟩
  case neg =>
    have h2 : 4096 < (nb : Int) - 8 := by omega
    go_enter Try.func20, Try.ntmps20
    go_wp2_with fail
    refine bodyPost_ret (v := .tuple #[.slice none 0 0, .int .i64 4]) (by simp [results, Try.results20, go_sem]) rfl ⟨_, rfl, owns_nil _ _ _, (Ext.alloc _ _).trans (Ext.alloc _ _)⟩
set_option maxHeartbeats 1600000 in
theorem open_short (ks nc : List (BitVec 8)) (aa ab : Option Addr) (na ca nb cb : Nat) (ha : na ≤ 256) (ho : nb < 8) (w : World) :
    Calls Try.prog 20 #[.agg (ks.map V8).toArray, .agg (nc.map V8).toArray, .slice aa na ca, .slice ab nb cb] w (RetO2 [] 10 w) := by
  have h1 : ¬ 256 < (na : Int) := by omega
  have h2 : ¬ 4096 < (nb : Int) - 8 := by omega
  have h3 : (nb : Int) - 8 < 0 := by omega
  go_enter Try.func20, Try.ntmps20
  go_wp2_with fail
  refine bodyPost_ret (v := .tuple #[.slice none 0 0, .int .i64 10]) (by simp [results, Try.results20, go_sem]) rfl ⟨_, rfl, owns_nil _ _ _, (Ext.alloc _ _).trans (Ext.alloc _ _)⟩

set_option maxHeartbeats 3200000 in
theorem open_any (ks nc : List (BitVec 8)) (hk : ks.length = 16) (hc : nc.length = 13) (va vb : Value) (ad text : List (BitVec 8)) (ha : ad.length ≤ 256) (hb : text.length ≤ 4104) (h8 : 8 ≤ text.length) (w : World) (hva : SlB w va ad) (hvb : SlB w vb text) (hcb : CapOk vb) :
    Calls Try.prog 20 #[.agg (ks.map V8).toArray, .agg (nc.map V8).toArray, va, vb] w (RetO2 (if openOk ks nc ad text then openB ks nc text else []) (if openOk ks nc ad text then 0 else 31) w) := by
  obtain ⟨aa, ca, rfl⟩ := hva.form
  obtain ⟨bb, ob, cb, hvf, hbw, hcell⟩ : ∃ bb ob cb, vb = .slice (some ⟨bb, ob, none⟩) text.length cb ∧ bb < w.heap.size ∧ ∀ (j : Nat) x, text[j]? = some x → w.cell? ⟨bb, ob + j, none⟩ = some (V8 x) := by
    rcases hvb with ⟨h, _⟩ | h
    · subst h; simp at h8
    · exact h
  subst hvf
  have hcap : text.length ≤ cb := hcb _ _ _ rfl
  have HVB := kp hvb
  have HVA := kp hva
  obtain ⟨n, hn⟩ : ∃ n, n = text.length - 8 := ⟨_, rfl⟩
  have HTK := kp (show SlB w (.slice (some ⟨bb, ob, none⟩) n cb) (text.take n) from hvb.take (by omega) (fun h => by cases h))
  have HDR := kp (show SlB w (.slice (some ⟨bb, ob + n, none⟩) 8 (cb - n)) (text.drop n) by
    have h := (SlK.cut (C := bb + 1) (n := bb + 1) (nn := n) (show SlK (bb + 1) (bb + 1) w (.slice (some ⟨bb, ob, none⟩) text.length cb) text from ⟨hvb, fun b off len cap e _ => by cases e; omega, hcb⟩) (by omega)).1
    rwa [show text.length - n = 8 by omega] at h)
  have HK := kp (sizeK ks hk)
  have HN := kp (sizeN nc hc)
  have HB := kp (show openB ks nc text = cryptF ks nc (text.take n) by rw [openB, hn])
  have HBL := kp (show (openB ks nc text).length = n by rw [openB_len, hn])
  have HCN := kp (fun v w h => clone_any v (text.take n) (by rw [List.length_take]; omega) w h)
  have HCR := kp (fun base v w h => crypt_any ks nc (text.take n) hk hc (by rw [List.length_take]; omega) base v w h)
  rw [← HB.out] at HCR
  have HTL := kp (show (text.take n).length = n by rw [List.length_take]; omega)
  rw [HTL.out] at HCR
  have HC := kp (fun v w (h1 : SlB w (.slice aa ad.length ca) ad) (h2 : SlB w v (openB ks nc text)) (h3 : CapOk v) => code_ok ks nc hk hc _ _ ad (openB ks nc text) ha (by rw [openB_len]; omega) w h1 h2 h3)
  have HZ := kp (size8 _ (codeF_len ks nc ad (openB ks nc text)))
  have HZ8 := kp (z8_size _ (codeF_len ks nc ad (openB ks nc text)))
  have HCL := kp (codeF_len ks nc ad (openB ks nc text))
  have HST := kp (fun w => stream_any ks nc hk hc 0 w)
  have HSL := kp (streamF_len ks nc 0)
  have HOK := kp (show openOk ks nc ad text = (mixF (codeF ks nc ad (openB ks nc text)) (streamF ks nc 0) == text.drop n) by rw [hn]; rfl)
  have HML := kp (mixF_len (codeF ks nc ad (openB ks nc text)) (streamF ks nc 0))
  have h1 : ¬ 256 < (ad.length : Int) := by omega
  have h2 : ¬ 4096 < (n : Int) := by omega
  have h3 : ¬ (n : Int) < 0 := by omega
  have hsub : (text.length : Int) - 8 = n := by omega
  have hnl : n + 8 = text.length := by omega
  generalize codeF ks nc ad (openB ks nc text) = cf at *
  generalize streamF ks nc 0 = S at *
  generalize openOk ks nc ad text = ok at *
  generalize openB ks nc text = bf at *
  clear hva hvb hcb hk hc hcell hn
  obtain ⟨m, hm⟩ : ∃ m, m = text.length := ⟨_, rfl⟩
  rw [← hm] at hb h8 hcap hsub hnl HVB ⊢
  have HM := kp hm
  clear hm
  obtain ⟨RB, hRB⟩ : ∃ RB, RB = (if ok = true then bf else []) := ⟨_, rfl⟩
  obtain ⟨RE, hRE⟩ : ∃ RE : Int, RE = (if ok = true then 0 else 31) := ⟨_, rfl⟩
  rw [← hRB, ← hRE]
  have HRB := kp hRB
  have HRE := kp hRE
  clear hRB hRE
  go_enter Try.func20, Try.ntmps20
  generalize h7 : (Code.region 7 _ _ : Code) = R7
  generalize h9 : (Code.region 9 _ _ : Code) = R9
  go_wp2_with fail
  refine (HCN.out _ _ (HTK.out.ext ((Ext.alloc _ _).trans (Ext.alloc _ _)))).mono ?_
  rintro e w1 ⟨v1, rfl, ho1, hx1⟩
  have HO1 := kp (show w1.ownsRow (w.heap.size + 2) 5 1 v1 n ((text.take n).map V8) by rw [HTL.out] at ho1; simpa using ho1)
  have HX1 := kp (((Ext.alloc _ _).trans (Ext.alloc _ _)).trans hx1)
  have HK1 := kp (ext_heap hx1 (hp_alloc (hp_new _ _)))
  have HN1 := kp (ext_heap hx1 (hp_at _ _ (w.heap.size + 1) (by simp)))
  obtain ⟨a1, c1, hv1⟩ := (SlB.of_owns HO1.out).form
  rw [HTL.out] at hv1
  subst hv1
  have hw1 : w.heap.size + 2 ≤ w1.heap.size := by have := hx1.size; simpa using this
  clear ho1 hx1
  go_wp2_with fail
  subst h7
  go_wp2_with (first | ((with_reducible show wpList _ _ _ (Oper.mk _ (Op.load 23 _) _ _ _ _ :: _) _ _); (with_reducible refine wpList_load_row rfl 23 _ rfl (w.heap.size) rfl 23 ((ks.map V8).toArray) (0, 0) _ (HK1.out) Try.underlying23 rfl (HK.out) ?_); simp only [Act.put, List.setIfInBounds_toArray, List.set_cons_zero, List.set_cons_succ]) | ((with_reducible show wpList _ _ _ (Oper.mk _ (Op.load 24 _) _ _ _ _ :: _) _ _); (with_reducible refine wpList_load_row rfl 24 _ rfl (w.heap.size + 1) rfl 24 ((nc.map V8).toArray) (0, 0) _ (HN1.out) Try.underlying24 rfl (HN.out) ?_); simp only [Act.put, List.setIfInBounds_toArray, List.set_cons_zero, List.set_cons_succ]))
  refine (HCR.out _ _ _ HO1.out).mono ?_
  rintro e w2 ⟨rfl, ho2, hg2⟩
  have HO2 := kp ho2
  have HOB := kp (owns_block ho2)
  have HK2 := kp ((hg2.block w.heap.size (by omega) (fun e => by have := HOB.out _ e.symm; omega)).trans HK1.out)
  have HN2 := kp ((hg2.block (w.heap.size + 1) (by omega) (fun e => by have := HOB.out _ e.symm; omega)).trans HN1.out)
  have HX2 := kp (HX1.out.grown hg2 (fun k hk => by have := HOB.out k hk; omega))
  have HS2 := kp (show SlB w2 (.slice a1 n c1) bf from SlB.of_owns ho2)
  have HCP := kp (CapOk.of_owns ho2)
  have hw2 : w.heap.size + 2 ≤ w2.heap.size := by have := hg2.size; omega
  clear ho2 hg2 HO1 HK1 HN1 HX1
  go_wp2_with (first | ((with_reducible show wpList _ _ _ (Oper.mk _ (Op.load 23 _) _ _ _ _ :: _) _ _); (with_reducible refine wpList_load_row rfl 23 _ rfl (w.heap.size) rfl 23 ((ks.map V8).toArray) (0, 0) _ (HK2.out) Try.underlying23 rfl (HK.out) ?_); simp only [Act.put, List.setIfInBounds_toArray, List.set_cons_zero, List.set_cons_succ]) | ((with_reducible show wpList _ _ _ (Oper.mk _ (Op.load 24 _) _ _ _ _ :: _) _ _); (with_reducible refine wpList_load_row rfl 24 _ rfl (w.heap.size + 1) rfl 24 ((nc.map V8).toArray) (0, 0) _ (HN2.out) Try.underlying24 rfl (HN.out) ?_); simp only [Act.put, List.setIfInBounds_toArray, List.set_cons_zero, List.set_cons_succ]))
  refine (HC.out _ _ (HVA.out.ext HX2.out) HS2.out HCP.out).mono ?_
  rintro e w3 ⟨rfl, hx3⟩
  have HX3 := kp hx3
  have HK3 := kp (hp_alloc (o' := .cells (cf.map V8).toArray 28) (ext_heap hx3 HK2.out))
  have HN3 := kp (hp_alloc (o' := .cells (cf.map V8).toArray 28) (ext_heap hx3 HN2.out))
  clear hx3
  go_wp2_with (first | ((with_reducible show wpList _ _ _ (Oper.mk none (Op.store 28 _ _) _ _ _ _ :: _) _ _); with_reducible refine wpList_st_row rfl rfl 28 _ _ rfl (w3.heap.size) ((cf.map V8).toArray) rfl rfl 28 (z8) (hp_new _ _) (HZ.out) (HZ8.out) (all_V8 _) (by rewrite [setRow_at _ _ _ _ _ _ (by simp <;> omega)]; rfl) ?_))
  subst h9
  (first | with_reducible refine region_f2 4 (by kernel_rfl) (by kernel_rfl) (by kernel_rfl) (by kernel_rfl) (by decide) (Nat.le_of_ble_eq_true (by kernel_rfl)) ?_ | refine region_f 4 (by kernel_rfl) (by kernel_rfl) (by kernel_rfl) (by kernel_rfl) (by decide) (Nat.le_of_ble_eq_true (by kernel_rfl)) ?_)
  apply Exists.intro
  refine ⟨fun xz2 => ?_, fun xq2 => ?_⟩
  · simp only [List.take_succ_cons, List.take_zero]
    unfold Cx
    (go_big_quiet_step (fail); ((with_reducible show wpQuiet _ _ _ _ (Oper.mk _ (Op.load 23 _) _ _ _ _ :: _) _); go_big_quiet_want; with_reducible refine quiet_load_row 23 _ rfl (w.heap.size) rfl 23 ((ks.map V8).toArray) (0, 0) _ (fun _ hw => by obtain ⟨xx, rfl⟩ := hw; exact hp_more HK3.out) Try.underlying23 rfl (HK.out) ?_; simp only [Act.put, List.setIfInBounds_toArray, List.set_cons_zero, List.set_cons_succ]; go_big_quiet_on); ((with_reducible show wpQuiet _ _ _ _ (Oper.mk _ (Op.load 24 _) _ _ _ _ :: _) _); go_big_quiet_want; with_reducible refine quiet_load_row 24 _ rfl (w.heap.size + 1) rfl 24 ((nc.map V8).toArray) (0, 0) _ (fun _ hw => by obtain ⟨xx, rfl⟩ := hw; exact hp_more HN3.out) Try.underlying24 rfl (HN.out) ?_; simp only [Act.put, List.setIfInBounds_toArray, List.set_cons_zero, List.set_cons_succ]; go_big_quiet_on); go_big_quiet_step (exact Calls.cx_of (HST.out _)))
    exact wpQuiet_nil rfl
  simp only [List.drop_succ_cons, List.drop_zero]
  go_wp2_with fail
  refine (mix_any S HSL.out w3.heap.size 0 8 8 28 [] [] cf rfl HCL.out (by omega) _ (by simpa using hp_more (hp_new _ _))).mono ?_
  rintro e w4 ⟨rfl, hx4⟩
  simp only [List.nil_append, List.append_nil] at hx4
  rw [setRow_more _ _ _ _ (by simp), setRow_at _ _ _ _ _ _ rfl] at hx4
  have HX4 := kp ((Ext.more _ _).trans hx4)
  clear hx4
  have HE4 := kp (((HX2.out.trans HX3.out).trans (Ext.alloc _ _)).trans HX4.out)
  have HC4 := kp (ext_heap HX4.out (hp_new _ _))
  have HO4 := kp (owns_ext HO2.out ((HX3.out.trans (Ext.alloc _ _)).trans HX4.out))
  have HSC := kp (show SlB w4 (.slice (some ⟨w3.heap.size, 0, none⟩) 8 8) (mixF cf S) by
    have h := SlB.of_block (l := mixF cf S) (cap := 8) HC4.out
    rwa [HML.out, HCL.out] at h)
  have HDR4 := kp (HDR.out.ext HE4.out)
  have hbw4 : bb < w4.heap.size := by have := HE4.out.size; omega
  have hncb : n < cb := by omega
  have HEQ := kp (fun x => equal_any w3.heap.size 0 8 8 bb (ob + n) 8 (cb - n) (mixF cf S) (text.drop n) (more w4 x) (HSC.out.ext (Ext.more _ _)) (HDR4.out.ext (Ext.more _ _)))
  rw [← HOK.out] at HEQ
  have hm8 : m - n = 8 := by omega
  cases ok with
  | true =>
    obtain rfl : RB = bf := HRB.out
    obtain rfl : RE = 0 := HRE.out
    go_wp2_with fail
    (first | with_reducible refine region_f2 6 (by kernel_rfl) (by kernel_rfl) (by kernel_rfl) (by kernel_rfl) (by decide) (Nat.le_of_ble_eq_true (by kernel_rfl)) ?_ | refine region_f 6 (by kernel_rfl) (by kernel_rfl) (by kernel_rfl) (by kernel_rfl) (by decide) (Nat.le_of_ble_eq_true (by kernel_rfl)) ?_)
    apply Exists.intro
    refine ⟨fun xz3 => ?_, fun xq3 => ?_⟩
    · simp only [List.take_succ_cons, List.take_zero]
      unfold Cx
      (go_big_quiet_step (fail); go_big_quiet_step (fail); go_big_quiet_step (fail); go_big_quiet_step (fail); go_big_quiet_step (exact Calls.cx_of_same (HEQ.out _)); go_big_quiet_step (fail))
      exact wpQuiet_nil rfl
    simp only [List.drop_succ_cons, List.drop_zero]
    go_wp2_with fail
    refine bodyPost_ret (v := .tuple #[.slice a1 n c1, .int .i64 0]) (by simp [results, Try.results20, go_sem]) rfl ⟨_, rfl, owns_base (by rw [HBL.out]; exact owns_ext HO4.out (Ext.more _ _)) (by omega), HE4.out.trans (Ext.more _ _)⟩
  | false =>
    obtain rfl : RB = [] := HRB.out
    obtain rfl : RE = 31 := HRE.out
    go_wp2_with fail
    (first | with_reducible refine region_f2 6 (by kernel_rfl) (by kernel_rfl) (by kernel_rfl) (by kernel_rfl) (by decide) (Nat.le_of_ble_eq_true (by kernel_rfl)) ?_ | refine region_f 6 (by kernel_rfl) (by kernel_rfl) (by kernel_rfl) (by kernel_rfl) (by decide) (Nat.le_of_ble_eq_true (by kernel_rfl)) ?_)
    apply Exists.intro
    refine ⟨fun xz4 => ?_, fun xq4 => ?_⟩
    · simp only [List.take_succ_cons, List.take_zero]
      unfold Cx
      (go_big_quiet_step (fail); go_big_quiet_step (fail); go_big_quiet_step (fail); go_big_quiet_step (fail); go_big_quiet_step (exact Calls.cx_of_same (HEQ.out _)); go_big_quiet_step (fail))
      exact wpQuiet_nil rfl
    simp only [List.drop_succ_cons, List.drop_zero]
    go_wp2_with fail
    refine bodyPost_ret (v := .tuple #[.slice none 0 0, .int .i64 31]) (by simp [results, Try.results20, go_sem]) rfl ⟨_, rfl, owns_nil _ _ _, HE4.out.trans (Ext.more _ _)⟩
end Go.Proofs.Ytnofmppimihjpaa
