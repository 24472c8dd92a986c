/- Texts of this proof, put together: Ref22d, RfT. -/
import Derived.Test.YtibncchobkaaiaaF21
import Derived.Test.YtibncchobkaaiaaF17
import Derived.Test.YtibncchobkaaiaaF19
import Derived.Test.YtibncchobkaaiaaF1
namespace Go.Proofs.Ytibncchobkaaiaa
open Go.RowKit
set_option maxHeartbeats 3200000 in
theorem rseal_ok (ks nc : List (BitVec 8)) (hk : ks.length = 16) (hc : nc.length = 13) (va vb : Value) (ad body : List (BitVec 8)) (ha : ad.length ≤ 256) (hb : body.length ≤ 4096) (w : World) (hva : SlB w va ad) (hvb : SlB w vb body) :
  Calls Try.prog 67 #[.agg (ks.map V8).toArray, .agg (nc.map V8).toArray, va, vb] w (RetO2 (sealF ks nc ad body) 0 w) := by
 obtain ⟨iu, hiu, hu⟩ := info_iu
 have HIU := kp hiu
 have HU := kp hu
 obtain ⟨aa, ca, rfl⟩ := hva.form
 obtain ⟨ab, cb, rfl⟩ := hvb.form
 have HVB := kp hvb
 have HK := kp (sizeK ks hk)
 have HN := kp (sizeN nc hc)
 have HC := kp (fun w (h1 : SlB w (.slice aa ad.length ca) ad) (h2 : SlB w (.slice ab body.length cb) body) => rcode_ok ks nc hk hc _ _ ad body ha hb w h1 h2)
 have HVA := kp hva
 have HZ := kp (size8 _ (codeF_len ks nc ad body))
 have HZ8 := kp (z8_size _ (codeF_len ks nc ad body))
 have HCL := kp (codeF_len ks nc ad body)
 have HST := kp (fun w => rstream_any ks nc hk hc 0 w)
 have HSL := kp (streamF_len ks nc 0)
 have HSB := kp (sizeB _ (streamF_len ks nc 0))
 have HSZ := kp (z16_size _ (streamF_len ks nc 0))
 have HCR := kp (fun v w h => rcrypt_any ks nc body hk hc (by omega) v w h)
 have HF := kp (show sealF ks nc ad body = cryptF ks nc body ++ mixF (codeF ks nc ad body) (streamF ks nc 0) from rfl)
 have HFL := kp (cryptF_len ks nc body)
 have HML := kp (show (mixF (codeF ks nc ad body) (streamF ks nc 0)).length = 8 by rw [mixF_len, codeF_len])
 have HMA := kp (fun i (h : i < 8) => mixF_at (codeF ks nc ad body) (streamF ks nc 0) i (by rw [codeF_len]; exact h) (by omega))
 generalize mixF (codeF ks nc ad body) (streamF ks nc 0) = T at *
 generalize codeF ks nc ad body = cf at *
 generalize streamF ks nc 0 = S at *
 generalize sealF ks nc ad body = sf at *
 generalize cryptF ks nc body = bf at *
 obtain ⟨nb, hnb⟩ : ∃ nb, nb = body.length := ⟨_, rfl⟩
 rw [← hnb] at HFL
 have hnb2 : nb ≤ 4096 := by omega
 clear hiu hu hva hvb hk hc hnb
 go_enter Try.func67, Try.ntmps67
 generalize h4 : (Code.region 4 _ _ : Code) = R4
 go_wp2_with (first | ((with_reducible refine isLd 25 ?_); (with_reducible refine wpList_load_row rfl 25 _ rfl (w.heap.size) rfl 25 ((ks.map V8).toArray) (0, 0) _ (hp_alloc (hp_new _ _)) Try.underlying25 rfl (HK.out) ?_); simp only [pA]) | ((with_reducible refine isLd 107 ?_); (with_reducible refine wpList_load_row rfl 107 _ rfl (w.heap.size + 1) rfl 107 ((nc.map V8).toArray) (0, 0) _ (hp_at _ _ _ (by simp)) Try.underlying107 rfl (HN.out) ?_); simp only [pA]) | (go_at_call 81; refine (HC.out _ (HVA.out.ext ((Ext.alloc _ _).trans (Ext.alloc _ _))) (HVB.out.ext ((Ext.alloc _ _).trans (Ext.alloc _ _)))).mono ?_; rintro e w' ⟨rfl, x1, rfl⟩) | ((with_reducible refine isSt 131 ?_); with_reducible refine wpList_st_row rfl rfl 131 _ _ rfl (w.heap.size + 1 + 1 + x1.blocks.size) ((cf.map V8).toArray) rfl rfl 131 (z8) (hp_at _ _ _ (by simp)) (HZ.out) (HZ8.out) (all_V8 _) (by rewrite [setRow_at _ _ _ _ _ _ (by simp [more_size] <;> omega)]; rfl) ?_))
 have hx2 : Ext w ((more ((w.alloc (.cells (ks.map V8).toArray 25)).alloc (.cells (nc.map V8).toArray 107)) x1).alloc (.cells (cf.map V8).toArray 131)) := (((Ext.alloc _ _).trans (Ext.alloc _ _)).trans (Ext.more _ _)).trans (Ext.alloc _ _)
 have hk2 : ((more ((w.alloc (.cells (ks.map V8).toArray 25)).alloc (.cells (nc.map V8).toArray 107)) x1).alloc (.cells (cf.map V8).toArray 131)).heap[w.heap.size]? = some (.cells (ks.map V8).toArray 25 (0, 0)) := hp_alloc (hp_more (hp_alloc (hp_new _ _)))
 have hn2 : ((more ((w.alloc (.cells (ks.map V8).toArray 25)).alloc (.cells (nc.map V8).toArray 107)) x1).alloc (.cells (cf.map V8).toArray 131)).heap[w.heap.size + 1]? = some (.cells (nc.map V8).toArray 107 (0, 0)) := hp_alloc (hp_more (hp_at _ _ _ (by simp)))
 have hc2 : ((more ((w.alloc (.cells (ks.map V8).toArray 25)).alloc (.cells (nc.map V8).toArray 107)) x1).alloc (.cells (cf.map V8).toArray 131)).heap[w.heap.size + 1 + 1 + x1.blocks.size]? = some (.cells (cf.map V8).toArray 131 (0, 0)) := hp_at _ _ _ (by simp)
 generalize (more ((w.alloc (.cells (ks.map V8).toArray 25)).alloc (.cells (nc.map V8).toArray 107)) x1).alloc (.cells (cf.map V8).toArray 131) = W2 at *
 obtain ⟨C, hC⟩ : ∃ C, C = w.heap.size + 1 + 1 + x1.blocks.size := ⟨_, rfl⟩
 rw [← hC] at hc2 ⊢
 have HX2 := kp hx2
 have HK2 := kp hk2
 have HN2 := kp hn2
 have HC2 := kp hc2
 have hww : w.heap.size ≤ W2.heap.size := hx2.size
 clear hx2 hk2 hn2 hc2 hC
 subst h4
 go_wp2_with (first | ((with_reducible refine isLd 25 ?_); (with_reducible refine wpList_load_row rfl 25 _ rfl (w.heap.size) rfl 25 ((ks.map V8).toArray) (0, 0) _ (HK2.out) Try.underlying25 rfl (HK.out) ?_); simp only [pA]) | ((with_reducible refine isLd 107 ?_); (with_reducible refine wpList_load_row rfl 107 _ rfl (w.heap.size + 1) rfl 107 ((nc.map V8).toArray) (0, 0) _ (HN2.out) Try.underlying107 rfl (HN.out) ?_); simp only [pA]))
 refine (HCR.out _ _ (HVB.out.ext HX2.out)).mono ?_
 rintro e w3 ⟨v3, rfl, ho3, hx3⟩
 have HO3 := kp ho3
 have HX3 := kp hx3
 have HK3 := kp (ext_heap hx3 HK2.out)
 have HN3 := kp (ext_heap hx3 HN2.out)
 have HC3 := kp (ext_heap hx3 HC2.out)
 obtain ⟨a3, c3, hv3⟩ := (SlB.of_owns ho3).form
 rw [HFL.out] at hv3
 subst hv3
 clear ho3 hx3
 go_wp2_with (first | ((with_reducible refine isLd 25 ?_); (with_reducible refine wpList_load_row rfl 25 _ rfl (w.heap.size) rfl 25 ((ks.map V8).toArray) (0, 0) _ (HK3.out) Try.underlying25 rfl (HK.out) ?_); simp only [pA]) | ((with_reducible refine isLd 107 ?_); (with_reducible refine wpList_load_row rfl 107 _ rfl (w.heap.size + 1) rfl 107 ((nc.map V8).toArray) (0, 0) _ (HN3.out) Try.underlying107 rfl (HN.out) ?_); simp only [pA]))
 refine (HST.out _).mono ?_
 rintro e w4 ⟨rfl, hx4⟩
 have HX4 := kp ((HX3.out.trans hx4).trans (Ext.alloc _ (.cells (S.map V8).toArray 115)))
 have HO4 := kp (owns_ext HO3.out (hx4.trans (Ext.alloc _ (.cells (S.map V8).toArray 115))))
 have HC4 := kp (hp_alloc (o' := .cells (S.map V8).toArray 115) (ext_heap hx4 HC3.out))
 have HD4 := kp (hp_new w4 (.cells (S.map V8).toArray 115))
 clear hx4 HK2 HN2 HC2 HK3 HN3 HC3 HO3 HX3
 go_wp2_with ((with_reducible refine isSt 115 ?_); with_reducible refine wpList_st_row rfl rfl 115 _ _ rfl (w4.heap.size) ((S.map V8).toArray) rfl rfl 115 (z16) (hp_new _ _) (HSB.out) (HSZ.out) (all_V8 _) (by rewrite [setRow_at _ _ _ _ _ _ (by simp <;> omega)]; rfl) ?_)
 obtain ⟨D, hD⟩ : ∃ D, D = w4.heap.size := ⟨_, rfl⟩
 rw [← hD] at HD4 ⊢
 generalize w4.alloc (.cells (S.map V8).toArray 115) = W5 at *
 clear hD
 go_loopw [12, 14] (fun o i wr => ∃ (k : Nat) (av : Option Addr) (cv : Nat), k ≤ 8 ∧ i = .int .i64 k ∧ o = .slice av (nb + k) cv ∧ Kp (wr.ownsRow W2.heap.size 5 1 o (bf ++ T.take k).length ((bf ++ T.take k).map V8)) ∧ Kp (Ext W2 wr) ∧ Kp (wr.heap[C]? = some (.cells (cf.map V8).toArray 131 (0, 0))) ∧ Kp (wr.heap[D]? = some (.cells (S.map V8).toArray 115 (0, 0)))) (fun _ i _ => 8 - (intOf i).toNat)
 case atStart => exact ⟨0, _, _, by omega, rfl, rfl, kp (by simpa using HO4.out), HX4, HC4, HD4⟩
 case round =>
  obtain ⟨k, av, cv, hk, rfl, rfl, HOk, HXk, HCk, HDk⟩ := hrel
  by_cases hlt : k < 8
  ·obtain ⟨y, hy⟩ : ∃ y, cf[k]? = some y := ⟨cf[k]'(by rw [HCL.out]; exact hlt), by simp⟩
   obtain ⟨z, hz⟩ : ∃ z, S[k]? = some z := ⟨S[k]'(by rw [HSL.out]; omega), by simp⟩
   obtain ⟨u, hu⟩ : ∃ u, T[k]? = some u := ⟨T[k]'(by rw [HML.out]; exact hlt), by simp⟩
   have huv : u = y ^^^ z := by
    have h := HMA.out k hlt
    rw [getElem_getD hu, getElem_getD hy, getElem_getD hz] at h
    exact h
   have HTK := kp (show bf ++ T.take (k + 1) = (bf ++ T.take k) ++ [y ^^^ z] by rw [take_snoc T k u hu, huv, List.append_assoc])
   have cy : wr.cell? ⟨C, k, none⟩ = some (V8 y) := by
    rw [cell_of_row wr C k _ _ _ HCk.out]; simp [hy]
   have cz : wr.cell? ⟨D, k, none⟩ = some (V8 z) := by
    rw [cell_of_row wr D k _ _ _ HDk.out]; simp [hz]
   have hCr : C < wr.heap.size := by have := HCk.out; rw [Array.getElem?_eq_some_iff] at this; exact this.1
   have hDr : D < wr.heap.size := by have := HDk.out; rw [Array.getElem?_eq_some_iff] at this; exact this.1
   have hWr : W2.heap.size ≤ wr.heap.size := HXk.out.size
   have HLT := kp (show (bf ++ T.take k).length = nb + k by rw [List.length_append, HFL.out, List.length_take, HML.out]; omega)
   have HLE := kp (show (bf ++ T.take k).length + [y ^^^ z].length ≤ 1000000 by rw [HLT.out]; simp; omega)
   have HOS := kp (fun x => owns_ext HOk.out (Ext.more wr x))
   clear hy hz hu huv
   go_wp2_with fail
   refine region_spine0 (tabS [(37, fun v _ => v = .slice av (nb + k) cv), (38, fun v _ => v = .int .i64 k), (39, fun v _ => v = .pointer (some ⟨C, k, none⟩)), (40, fun v _ => v = V8 y), (41, fun v _ => v = .int .i64 k), (42, fun v _ => v = .pointer (some ⟨D, k, none⟩)), (43, fun v _ => v = V8 z), (44, fun v _ => v = V8 (y ^^^ z)), (45, fun v w => SlB w v [y ^^^ z])]) (tabS_mono _ (by simp only [List.forall_mem_cons]; exact ⟨mono_eq _, mono_eq _, mono_eq _, mono_eq _, mono_eq _, mono_eq _, mono_eq _, mono_eq _, mono_SlB _, by simp⟩)) 9 (by kernel_rfl) (by kernel_rfl) (by kernel_rfl) (by kernel_rfl) (by decide) (Nat.le_of_ble_eq_true (by kernel_rfl)) (by kernel_rfl) (wr) (.inl rfl) ?_
   simp only [List.take_succ_cons, List.take_zero]
   refine ⟨fun w_ hwv37 S_ => ?_, fun v37 => ?_⟩
   ·obtain ⟨xv37, rfl⟩ := hwv37
    clear S_
    go_wp2_with fail
    exact kso
   simp only [pA]
   refine ⟨fun w_ hwv38 S_ => ?_, fun v38 => ?_⟩
   ·obtain ⟨xv38, rfl⟩ := hwv38
    clear S_
    go_wp2_with fail
    exact kso
   simp only [pA]
   refine ⟨fun w_ hwv39 S_ => ?_, fun v39 => ?_⟩
   ·obtain ⟨xv39, rfl⟩ := hwv39
    obtain rfl : v38 = .int .i64 k := hsR S_ 38 rfl
    clear S_
    go_wp2_with fail
    exact kso
   simp only [pA]
   refine ⟨fun w_ hwv40 S_ => ?_, fun v40 => ?_⟩
   ·obtain ⟨xv40, rfl⟩ := hwv40
    obtain rfl : v39 = .pointer (some ⟨C, k, none⟩) := hsR S_ 39 rfl
    clear S_
    go_wp2_with fail
    exact kso
   simp only [pA]
   refine ⟨fun w_ hwv41 S_ => ?_, fun v41 => ?_⟩
   ·obtain ⟨xv41, rfl⟩ := hwv41
    clear S_
    go_wp2_with fail
    exact kso
   simp only [pA]
   refine ⟨fun w_ hwv42 S_ => ?_, fun v42 => ?_⟩
   ·obtain ⟨xv42, rfl⟩ := hwv42
    obtain rfl : v41 = .int .i64 k := hsR S_ 41 rfl
    clear S_
    go_wp2_with fail
    exact kso
   simp only [pA]
   refine ⟨fun w_ hwv43 S_ => ?_, fun v43 => ?_⟩
   ·obtain ⟨xv43, rfl⟩ := hwv43
    obtain rfl : v42 = .pointer (some ⟨D, k, none⟩) := hsR S_ 42 rfl
    clear S_
    go_wp2_with fail
    exact kso
   simp only [pA]
   refine ⟨fun w_ hwv44 S_ => ?_, fun v44 => ?_⟩
   ·obtain ⟨xv44, rfl⟩ := hwv44
    obtain rfl : v40 = V8 y := hsR S_ 40 rfl
    obtain rfl : v43 = V8 z := hsR S_ 43 rfl
    clear S_
    go_wp2_with fail
    exact kso
   simp only [pA]
   refine ⟨fun w_ hwv45 S_ => ?_, fun v45 => ?_⟩
   ·obtain ⟨xv45, rfl⟩ := hwv45
    obtain rfl : v44 = V8 (y ^^^ z) := hsR S_ 44 rfl
    clear S_
    go_wp2_with fail
    exact ⟨rfl, _, rfl, fun d hd => by cases hd; exact SlB.of_block (l := [y ^^^ z]) (hp_at _ _ _ (by simp)), Ext.alloc _ _⟩
   simp only [pA]
   intro x9 hfin
   have h45 : SlB (more wr x9) v45 [y ^^^ z] := hfin 45 (by decide)
   obtain rfl : v37 = .slice av (nb + k) cv := hfin 37 (by decide)
   have H45 := kp h45
   obtain ⟨a7, c7, rfl⟩ := h45.form
   clear hfin h45
   simp only [List.drop_succ_cons, List.drop_zero]
   go_wp2_with (at_builtin; refine wpList_append_SlB rfl _ _ 33 rfl W2.heap.size 5 iu Try.underlying33 HIU.out HU.out.1 HU.out.2.1 HU.out.2.2 (.slice av (nb + k) cv) (bf ++ T.take k) rfl (HOS.out x9) _ [y ^^^ z] rfl H45.out HLE.out (by simp <;> omega) ?_; intro v3 w3 ho3 hg3; rw [← HTK.out] at ho3; obtain ⟨a8, c8, h8⟩ := (SlB.of_owns ho3).form; rw [show (bf ++ T.take (k + 1)).length = nb + (k + 1) by rw [List.length_append, HFL.out, List.length_take, HML.out]; omega] at h8; have HO3 := kp ho3; have HG3 := kp hg3; clear ho3 hg3; subst h8)
   have HX9 := kp ((HXk.out.trans (Ext.more wr x9)).grown HG3.out (fun q hq => owns_block HOk.out q hq))
   have HC9 := kp ((HG3.out.block _ (by simp; omega) (owns_other (HOS.out x9) (hp_more HCk.out) (by decide))).trans (hp_more HCk.out))
   have HD9 := kp ((HG3.out.block _ (by simp; omega) (owns_other (HOS.out x9) (hp_more HDk.out) (by decide))).trans (hp_more HDk.out))
   go_roundw
   case rel => exact ⟨k + 1, _, _, by omega, by go_num, rfl, HO3, HX9, HC9, HD9⟩
   case measure => simp [intOf]; omega
  ·obtain rfl : k = 8 := by omega
   have HTE := kp (show bf ++ T.take 8 = sf by rw [HF.out, List.take_of_length_le (by rw [HML.out]; exact Nat.le_refl _)])
   have h9 := HOk.out
   rw [HTE.out] at h9
   have HO9 := kp (owns_base (base' := w.heap.size) h9 hww)
   clear h9
   go_wp2_with fail
   refine bodyPost_ret (v := .tuple #[.slice av (nb + 8) cv, .int .i64 0]) (by simp [results, Try.results67, go_sem]) rfl ⟨_, rfl, HO9.out, HX2.out.trans HXk.out⟩
theorem seal_open (ks nc ad text : List (BitVec 8)) : (sealF ks nc ad (openB ks nc text) == text) = openOk ks nc ad text := by
 unfold openOk
 rw [Bool.eq_iff_iff, beq_iff_eq, beq_iff_eq, sealF]
 constructor
 ·intro h
  have h2 := congrArg (List.drop (text.length - 8)) h
  rw [List.drop_left' (by rw [cryptF_len, openB_len])] at h2
  exact h2
 ·intro h
  rw [h, openB, cryptF_cryptF, List.take_append_drop]
def RetB2 (l : List (BitVec 8)) (n : Int) (w : World) (e : Ending) (w' : World) : Prop := ∃ v, e = .returned (.tuple #[v, .int .i64 n]) ∧ SlB w' v l ∧ Ext w w'
theorem RetO2.b {l : List (BitVec 8)} {n : Int} {w : World} {e : Ending} {w' : World} (h : RetO2 l n w e w') : RetB2 l n w e w' := by
 obtain ⟨v, h1, h2, h3⟩ := h; exact ⟨v, h1, SlB.of_owns h2, h3⟩
theorem mono_ownB (B : Nat) (l : List (BitVec 8)) : Mono (fun v w => w.ownsRow B 5 1 v l.length (l.map V8)) := fun _ _ _ h hx => owns_ext h hx
theorem owns_lower {w : World} {b b' E n : Nat} {v : Value} {xs : List Value} (h : w.ownsRow b E 1 v n xs) (hb : b' ≤ b) : w.ownsRow b' E 1 v n xs := by
 obtain ⟨h1, h2 | ⟨g, c, cs, h3, h4, h5⟩⟩ := h
 ·exact ⟨h1, .inl h2⟩
 ·exact ⟨h1, .inr ⟨g, c, cs, h3, Nat.le_trans hb h4, h5⟩⟩
set_option maxHeartbeats 3200000 in
theorem ropen_own (ks nc : List (BitVec 8)) (hk : ks.length = 16) (hc : nc.length = 13) (va vb : Value) (ad text : List (BitVec 8)) (ha : ad.length ≤ 256) (hb : text.length ≤ 4104) (h8 : 8 ≤ text.length) (w : World) (hva : SlB w va ad) (hvb : SlB w vb text) (hcb : CapOk vb) :
  Calls Try.prog 58 #[.agg (ks.map V8).toArray, .agg (nc.map V8).toArray, va, vb] w (RetO2 (if openOk ks nc ad text then openB ks nc text else []) (if openOk ks nc ad text then 0 else 31) w) := by
 obtain ⟨aa, ca, rfl⟩ := hva.form
 obtain ⟨bb, ob, cb, hvf, hbw, _⟩ : ∃ bb ob cb, vb = .slice (some ⟨bb, ob, none⟩) text.length cb ∧ bb < w.heap.size ∧ ∀ (j : Nat) x, text[j]? = some x → w.cell? ⟨bb, ob + j, none⟩ = some (V8 x) := by
  rcases hvb with ⟨h, _⟩ | h
  ·subst h; simp at h8
  ·exact h
 subst hvf
 have hcap : text.length ≤ cb := hcb _ _ _ rfl
 have HVB := kp hvb
 have HVA := kp hva
 obtain ⟨n, hn⟩ : ∃ n, n = text.length - 8 := ⟨_, rfl⟩
 have HTK := kp (show SlB w (.slice (some ⟨bb, ob, none⟩) n cb) (text.take n) from hvb.take (by omega) (fun h => by cases h))
 have HK := kp (sizeK ks hk)
 have HN := kp (sizeN nc hc)
 have HB := kp (show openB ks nc text = cryptF ks nc (text.take n) by rw [openB, hn])
 have HCR := kp (fun v w h => rcrypt_any ks nc (text.take n) hk hc (by rw [List.length_take]; omega) v w h)
 rw [← HB.out] at HCR
 have HS := kp (fun v w (h1 : SlB w (.slice aa ad.length ca) ad) (h2 : SlB w v (openB ks nc text)) => rseal_ok ks nc hk hc _ _ ad (openB ks nc text) ha (by rw [openB_len]; omega) w h1 h2)
 have HSO := kp (seal_open ks nc ad text)
 have HSL := kp (show (sealF ks nc ad (openB ks nc text)).length ≤ 1000000000 by rw [sealF_len, openB_len]; omega)
 have h1 : ¬ 256 < (ad.length : Int) := by omega
 have h2 : ¬ 4104 < (text.length : Int) := by omega
 have h3 : ¬ (text.length : Int) < 8 := by omega
 have hsub : (text.length : Int) - 8 = n := by omega
 have hnm : n ≤ text.length := by omega
 generalize openOk ks nc ad text = ok at *
 clear hva hvb hcb hk hc hn
 obtain ⟨m, hm⟩ : ∃ m, m = text.length := ⟨_, rfl⟩
 rw [← hm] at hb h8 hcap hsub hnm h2 h3 HVB ⊢
 clear hm
 obtain ⟨RB, hRB⟩ : ∃ RB, RB = (if ok = true then openB ks nc text else []) := ⟨_, rfl⟩
 obtain ⟨RE, hRE⟩ : ∃ RE : Int, RE = (if ok = true then 0 else 31) := ⟨_, rfl⟩
 rw [← hRB, ← hRE]
 have HRB := kp hRB
 have HRE := kp hRE
 clear hRB hRE
 go_enter Try.func58, Try.ntmps58
 go_wp2_with fail
 refine region_spine0 (tabS [(24, fun v _ => v = .agg (ks.map V8).toArray), (25, fun v _ => v = .agg (nc.map V8).toArray), (26, fun v _ => v = .slice (some ⟨bb, ob, none⟩) m cb), (27, fun v _ => v = .slice (some ⟨bb, ob, none⟩) m cb), (28, fun v _ => v = .int .i64 m), (29, fun v _ => v = .int .i64 n), (30, fun v _ => v = .slice (some ⟨bb, ob, none⟩) n cb), (31, fun v w2 => w2.ownsRow w.heap.size 5 1 v (openB ks nc text).length ((openB ks nc text).map V8)), (10, fun v w2 => w2.ownsRow w.heap.size 5 1 v (openB ks nc text).length ((openB ks nc text).map V8))]) (tabS_mono _ (by simp only [List.forall_mem_cons]; exact ⟨mono_eq _, mono_eq _, mono_eq _, mono_eq _, mono_eq _, mono_eq _, mono_eq _, mono_ownB _ _, mono_ownB _ _, by simp⟩)) 9 (by kernel_rfl) (by kernel_rfl) (by kernel_rfl) (by kernel_rfl) (by decide) (Nat.le_of_ble_eq_true (by kernel_rfl)) (by kernel_rfl) (((w.alloc (.cells (ks.map V8).toArray 25)).alloc (.cells (nc.map V8).toArray 107))) (.inl rfl) ?_
 simp only [List.take_succ_cons, List.take_zero]
 refine ⟨fun w_ hwv24 S_ => ?_, fun v24 => ?_⟩
 ·obtain ⟨xv24, rfl⟩ := hwv24
  clear S_
  go_wp2_with ((with_reducible refine isLd 25 ?_); (with_reducible refine wpList_load_row rfl 25 _ rfl (w.heap.size) rfl 25 ((ks.map V8).toArray) (0, 0) _ (hp_more (hp_alloc (hp_new _ _))) Try.underlying25 rfl (HK.out) ?_); simp only [pA])
  exact kso
 simp only [pA]
 refine ⟨fun w_ hwv25 S_ => ?_, fun v25 => ?_⟩
 ·obtain ⟨xv25, rfl⟩ := hwv25
  clear S_
  go_wp2_with ((with_reducible refine isLd 107 ?_); (with_reducible refine wpList_load_row rfl 107 _ rfl (w.heap.size + 1) rfl 107 ((nc.map V8).toArray) (0, 0) _ (hp_more (hp_at _ _ _ (by simp))) Try.underlying107 rfl (HN.out) ?_); simp only [pA])
  exact kso
 simp only [pA]
 refine ⟨fun w_ hwv26 S_ => ?_, fun v26 => ?_⟩
 ·obtain ⟨xv26, rfl⟩ := hwv26
  clear S_
  go_wp2_with fail
  exact kso
 simp only [pA]
 refine ⟨fun w_ hwv27 S_ => ?_, fun v27 => ?_⟩
 ·obtain ⟨xv27, rfl⟩ := hwv27
  clear S_
  go_wp2_with fail
  exact kso
 simp only [pA]
 refine ⟨fun w_ hwv28 S_ => ?_, fun v28 => ?_⟩
 ·obtain ⟨xv28, rfl⟩ := hwv28
  obtain rfl : v27 = .slice (some ⟨bb, ob, none⟩) m cb := hsR S_ 27 rfl
  clear S_
  go_wp2_with fail
  exact kso
 simp only [pA]
 refine ⟨fun w_ hwv29 S_ => ?_, fun v29 => ?_⟩
 ·obtain ⟨xv29, rfl⟩ := hwv29
  obtain rfl : v28 = .int .i64 m := hsR S_ 28 rfl
  clear S_
  go_wp2_with fail
  exact kso
 simp only [pA]
 refine ⟨fun w_ hwv30 S_ => ?_, fun v30 => ?_⟩
 ·obtain ⟨xv30, rfl⟩ := hwv30
  obtain rfl : v26 = .slice (some ⟨bb, ob, none⟩) m cb := hsR S_ 26 rfl
  obtain rfl : v29 = .int .i64 n := hsR S_ 29 rfl
  clear S_
  go_wp2_with fail
  exact kso
 simp only [pA]
 refine ⟨fun w_ hwv31 S_ => ?_, fun v31 => ?_⟩
 ·obtain ⟨xv31, rfl⟩ := hwv31
  obtain rfl : v24 = .agg (ks.map V8).toArray := hsR S_ 24 rfl
  obtain rfl : v25 = .agg (nc.map V8).toArray := hsR S_ 25 rfl
  obtain rfl : v30 = .slice (some ⟨bb, ob, none⟩) n cb := hsR S_ 30 rfl
  clear S_
  go_wp2_with fail
  refine (HCR.out _ _ (HTK.out.ext (((Ext.alloc _ _).trans (Ext.alloc _ _)).trans (Ext.more _ _)))).mono ?_
  rintro e w' ⟨v, rfl, ho, hx⟩
  have h9 := owns_lower (b' := w.heap.size) ho
  have HSL := kp (h9 (by simp only [more_size, World.size_alloc]; omega))
  clear h9
  have HXL := kp hx
  clear ho hx
  go_wp2_with fail
  exact ⟨rfl, v, rfl, fun d hd => by cases hd; exact HSL.out, HXL.out⟩
 simp only [pA]
 refine ⟨fun w_ hwv10 S_ => ?_, fun v10 => ?_⟩
 ·obtain ⟨xv10, rfl⟩ := hwv10
  have h31 := kp (show World.ownsRow _ w.heap.size 5 1 v31 (openB ks nc text).length ((openB ks nc text).map V8) from hsR S_ 31 rfl)
  clear S_
  obtain ⟨a7, c7, rfl⟩ := (SlB.of_owns h31.out).form
  go_wp2_with fail
  exact ⟨rfl, _, rfl, fun d hd => by cases hd; exact h31.out, Ext.refl _⟩
 simp only [pA]
 intro x9 hfin
 have h10 : (more ((w.alloc (.cells (ks.map V8).toArray 25)).alloc (.cells (nc.map V8).toArray 107)) x9).ownsRow w.heap.size 5 1 v10 (openB ks nc text).length ((openB ks nc text).map V8) := hfin 10 (by decide)
 have HO10 := kp h10
 have H10 := kp (SlB.of_owns h10)
 obtain ⟨a7, c7, rfl⟩ := H10.out.form
 clear hfin h10
 simp only [List.drop_succ_cons, List.drop_zero]
 go_wp2_with (first | ((with_reducible refine isLd 25 ?_); (with_reducible refine wpList_load_row rfl 25 _ rfl (w.heap.size) rfl 25 ((ks.map V8).toArray) (0, 0) _ (hp_more (hp_alloc (hp_new _ _))) Try.underlying25 rfl (HK.out) ?_); simp only [pA]) | ((with_reducible refine isLd 107 ?_); (with_reducible refine wpList_load_row rfl 107 _ rfl (w.heap.size + 1) rfl 107 ((nc.map V8).toArray) (0, 0) _ (hp_more (hp_at _ _ _ (by simp))) Try.underlying107 rfl (HN.out) ?_); simp only [pA]))
 refine (HS.out _ _ (HVA.out.ext (((Ext.alloc _ _).trans (Ext.alloc _ _)).trans (Ext.more _ _))) H10.out).mono ?_
 rintro e w2 ⟨v2, rfl, ho2, hx2⟩
 have HX2 := kp ((((Ext.alloc _ _).trans (Ext.alloc _ _)).trans (Ext.more _ _)).trans hx2)
 have HS2 := kp (SlB.of_owns ho2)
 have H12 := kp (owns_ext HO10.out hx2)
 obtain ⟨a2, c2, rfl⟩ := (SlB.of_owns ho2).form
 clear ho2 hx2
 go_wp2_with fail
 refine (same22_any HS2.out (HVB.out.ext HX2.out) HSL.out).mono ?_
 rw [HSO.out]
 rintro e w3 ⟨rfl, hx3⟩
 have HX3 := kp (HX2.out.trans hx3)
 have H13 := kp (owns_ext H12.out hx3)
 clear hx3
 cases ok with
 | true =>
  obtain rfl : RB = openB ks nc text := HRB.out
  obtain rfl : RE = 0 := HRE.out
  go_wp2_with fail
  refine bodyPost_ret (v := .tuple #[.slice a7 (openB ks nc text).length c7, .int .i64 0]) (by simp [results, Try.results58, go_sem]) rfl ⟨_, rfl, H13.out, HX3.out⟩
 | false =>
  obtain rfl : RB = [] := HRB.out
  obtain rfl : RE = 31 := HRE.out
  go_wp2_with fail
  refine bodyPost_ret (v := .tuple #[.slice none 0 0, .int .i64 31]) (by simp [results, Try.results58, go_sem]) rfl ⟨_, rfl, ⟨by simp, .inl ⟨rfl, rfl⟩⟩, HX3.out⟩
theorem Out.nil {G : List Nat} {w w' : World} (h : Out [] w w') : Out G w w' := Out.of_ext G (out_ext h)
theorem mono_nil {g : Nat} {φ : Value → World → Prop} (h : MonoO [g] φ) : MonoO [] φ := fun v w w' h1 h2 => h v w w' h1 h2.nil
theorem three_eq (p : Ks) (count : Int) (nonce : Vc 16) (gid : Int) (gkey : Vc 16) (data : By) : sealF p.w.1 (fit 13 ((frontF 3 count nonce.1 data).take 9)).1 ((frontF 3 count nonce.1 data).take 25) (groupB gid gkey.1) = wrapF p.w.1 3 count nonce.1 gid gkey.1 := by
 unfold wrapF coverN coverA
 rw [front_take 3 count nonce data 9 (by decide), front_take 3 count nonce data 25 (by decide)]
set_option maxRecDepth 4000 in
set_option maxHeartbeats 3200000 in
theorem rthree_any (p : Ks) (count : Int) (hcp : 0 ≤ count) (hc1 : count < 9223372036854775808) (nonce : Vc 16) (gid : Int) (gkey : Vc 16) (w : World) :
  Calls Try.prog 48 #[.agg (cat (partsK p)).toArray, .int .i64 count, .agg (nonce.1.map V8).toArray, .agg (cat (partsG gid gkey)).toArray] w (RetO (signedF p.c.1 3 count nonce.1 (wrapF p.w.1 3 count nonce.1 gid gkey.1)) w) := by
 have H := kp (Loc.start w)
 have HFR := kp (fun v w hs => by
  obtain ⟨ad, n, c, rfl, hs2⟩ := SlB.form2 hs
  exact rfront_any 3 count (by decide) (by decide) hcp hc1 nonce ad n c (List.replicate 25 0#8) (by decide) w hs2 : ∀ v w, SlB w v (List.replicate 25 0#8) → Calls Try.prog 61 #[.int .u8 3, .int .i64 count, .agg (nonce.1.map V8).toArray, v] w (RetO (frontF 3 count nonce.1 (List.replicate 25 0#8)) w))
 have HFL := kp (frontF_len 3 count nonce.1 (List.replicate 25 0#8) nonce.2)
 have HWL := kp (wrapF_len p.w.1 3 count nonce.1 gid gkey)
 have HMS := kp (fun ad n c w hs => rmessage_any p.c 3 count (by decide) (by decide) (by decide) hcp hc1 nonce ad n c (wrapF p.w.1 3 count nonce.1 gid gkey.1) (by rw [HWL.out]; decide) w hs)
 have HGL := kp (show (groupB gid gkey.1).length = 17 by simp [groupB, gkey.2])
 have HEE := kp (three_eq p count nonce gid gkey (List.replicate 25 0#8))
 generalize wrapF p.w.1 3 count nonce.1 gid gkey.1 = E at *
 generalize frontF 3 count nonce.1 (List.replicate 25 0#8) = F at *
 have HF25 := kp (show (F.take 25).length ≤ 256 by rw [List.length_take]; omega)
 have HSE := kp (fun va vb w h1 h2 => rseal_ok p.w.1 (fit 13 (F.take 9)).1 p.w.2 (fit 13 (F.take 9)).2 va vb (F.take 25) (groupB gid gkey.1) HF25.out (by rw [HGL.out]; decide) w h1 h2)
 have HPT := kp (V8_ofInt gid)
 clear hcp hc1
 go_enter Try.func48, Try.ntmps48
 generalize h1 : (Code.region 1 _ _ : Code) = R1
 generalize h3 : (Code.region 3 _ _ : Code) = R3
 generalize h4 : (Code.region 4 _ _ : Code) = R4
 go_wp2_with (first | ((with_reducible refine isBx 4 28 ?_); (refine L_box H rfl 28 _ rfl (cat (partsK p)) rfl ?_); clear H; intro g4 w4 HGg4 HEg4 H; simp only [pA]) | ((with_reducible refine isBx 6 26 ?_); (refine L_box H rfl 26 _ rfl (cat ([Lf.v nonce])) rfl ?_); clear H; intro g6 w6 HGg6 HEg6 H; simp only [pA]) | ((with_reducible refine isBx 7 30 ?_); (refine L_box H rfl 30 _ rfl (cat (partsG gid gkey)) rfl ?_); clear H; intro g7 w7 HGg7 HEg7 H; simp only [pA]))
 have HSZ := kp H.out.1.size
 have HLT7 := kp (show g7 < w7.heap.size from H.out.lt 0 rfl)
 subst h1
 refine region_free H (tabS [(14, fun vQ _ => vQ = .int .i64 count), (15, fun vQ _ => vQ = .agg (nonce.1.map V8).toArray), (16, fun vQ wQ => SlB wQ vQ (List.replicate 25 0#8)), (17, fun vQ wQ => OwnB w7.heap.size F vQ wQ), (9, fun vQ wQ => OwnB w7.heap.size F vQ wQ)]) [] (tabS_out _ _ (by simp only [List.forall_mem_cons, mono_eqO, true_and]; exact ⟨(mono_SlBO _), (mono_nil (mono_OwnB F HLT7)), (mono_nil (mono_OwnB F HLT7)), by simp⟩)) 5 (by kernel_rfl) (by kernel_rfl) (by kernel_rfl) (by kernel_rfl) [] [] rfl rfl (by decide) (by decide) (by decide) trivial ?_
 simp only [List.take_succ_cons, List.take_zero]
 refine ⟨fun w_ o_ S_ => ?_, fun v14 => ?_⟩
 ·clear S_
  clear o_
  go_wp2_with fail
  exact kso
 simp only [pA]
 refine ⟨fun w_ o_ S_ => ?_, fun v15 => ?_⟩
 ·clear S_
  have H := kp (kK [0, 1, 2] H o_)
  have HOX := kp o_
  clear o_
  go_wp2_with ((with_reducible refine isLd 26 ?_); (refine L_fv H rfl 26 _ rfl 1 rfl _ rfl _ rfl rfl Try.underlying26 rfl (by kernel_rfl) ?_); simp only [pA])
  exact kso
 simp only [pA]
 refine ⟨fun w_ o_ S_ => ?_, fun v16 => ?_⟩
 ·clear S_
  have H := kp (kK [0, 1, 2] H o_)
  have HOX := kp o_
  clear o_
  go_wp2_with ((with_reducible show wpList _ _ _ (Oper.mk (some 16) (Op.makeSlice 33 _ _) _ _ _ _ :: _) _ _); (refine L_mk H (by kernel_rfl) 33 _ _ rfl (.int .i64 25) (.int .i64 25) rfl rfl 25 25 5 ((List.replicate 25 0#8).map V8) (fun _ => by kernel_rfl) ?_); clear H; intro gm wm HGgm HEgm H; simp only [pA])
  exact ⟨rfl, _, rfl, fun d hd => by cases hd; exact SlB.of_owns (owns_lit (H.out.at 0 rfl) (Nat.zero_le _) 25 rfl (by decide)), HEgm.out⟩
 simp only [pA]
 refine ⟨fun w_ o_ S_ => ?_, fun v17 => ?_⟩
 ·obtain rfl : v14 = .int .i64 count := hsR S_ 14 rfl
  obtain rfl : v15 = .agg (nonce.1.map V8).toArray := hsR S_ 15 rfl
  have h16 := kp (show SlB w_ v16 (List.replicate 25 0#8) from hsR S_ 16 rfl)
  clear S_
  have H := kp (kK [0, 1, 2] H o_)
  have HOX := kp o_
  clear o_
  go_wp2_with fail
  refine (HFR.out _ _ h16.out).mono ?_
  rintro e w2 ⟨v, rfl, ho, hx⟩
  have HO2 := kp (owns_weak ho HOX.out.size)
  have HXC := kp hx
  clear ho hx
  go_wp2_with fail
  exact ⟨rfl, _, rfl, fun d hd => by cases hd; exact HO2.out, HXC.out⟩
 simp only [pA]
 refine ⟨fun w_ o_ S_ => ?_, fun v9 => ?_⟩
 ·have h17 := kp (show OwnB w7.heap.size F v17 w_ from hsR S_ 17 rfl)
  clear S_ o_
  go_wp2_with fail
  exact ⟨rfl, _, rfl, fun d hd => by cases hd; exact h17.out, Ext.refl _⟩
 simp only [pA]
 clear H
 intro wa HOX H hfin
 obtain rfl : v14 = .int .i64 count := hfin 14 (by decide)
 obtain rfl : v15 = .agg (nonce.1.map V8).toArray := hfin 15 (by decide)
 have F16 := kp (show SlB wa v16 (List.replicate 25 0#8) from hfin 16 (by decide))
 have F17 := kp (show OwnB w7.heap.size F v17 wa from hfin 17 (by decide))
 have F9 := kp (show OwnB w7.heap.size F v9 wa from hfin 9 (by decide))
 clear hfin
 simp only [List.drop_succ_cons, List.drop_zero]
 simp only [applyS] at H
 have HXN := kp (HOX.out.ext (Ext.refl w7) (fun g hg => by cases hg))
 have HO9 := kp (show OwnB w7.heap.size F v9 wa from F9.out)
 have HC9 := kp (CapOk.of_owns HO9.out)
 have HS9 := kp (SlB.of_owns HO9.out)
 have HRS := kp (rsealing_any F (by rw [HFL.out]; simp) v9)
 clear F9 F16 F17
 go_wp2_with (first | (go_at_call 57; refine (HRS.out _ HS9.out HC9.out).mono ?_; rintro e wb ⟨u, rfl, hs, hx, cu, au, rfl⟩; have HSU := kp hs; clear hs; replace H := kp (H.out.ext hx); have HXC := kp hx; clear hx) | ((with_reducible refine isAl 10 107 ?_); (refine L_alloc H rfl 107 rfl (cat ([Lf.v (zv 13)])) (fun _ _ => by kernel_rfl) ?_); clear H; intro g10 w10 HGg10 HEg10 H; simp only [pA]) | ((with_reducible refine isSt 107 ?_); (refine L_sv H rfl rfl 107 _ _ rfl 0 rfl _ rfl _ rfl (Lf.v (fit 13 (F.take 9))) rfl rfl rfl (by kernel_rfl) ([Lf.v (fit 13 (F.take 9))]) rfl ?_; clear H; intro w11 HWw11 H; simp only [szA] at H)))
 have HSW := kp (HSU.out.past HEg10.out HWw11.out (by have := HGg10.out; omega))
 have HSZ2 := kp H.out.1.size
 have HLT2 := kp (show g10 < w11.heap.size from H.out.lt 0 rfl)
 subst h3
 refine region_free H (tabS [(24, fun vQ _ => vQ = .pointer (some ⟨g4, 16, none⟩)), (25, fun vQ _ => vQ = .agg (p.w.1.map V8).toArray), (26, fun vQ _ => vQ = .agg ((fit 13 (F.take 9)).1.map V8).toArray), (27, fun vQ _ => vQ = .slice au 25 cu), (28, fun vQ _ => vQ = .pointer (some ⟨g7, 0, none⟩)), (29, fun vQ _ => vQ = .int .i64 gid), (30, fun vQ _ => vQ = .int .u8 (gid % 256)), (31, fun vQ wQ => NewB w11.heap.size 5 1 ([BitVec.ofInt 8 gid].map V8) vQ wQ), (32, fun vQ _ => vQ = .pointer (some ⟨g7, 1, none⟩)), (33, fun vQ _ => vQ = .slice (some ⟨g7, 1, none⟩) 16 16), (34, fun vQ wQ => OwnB w11.heap.size (groupB gid gkey.1) vQ wQ), (35, fun vQ wQ => Tup25 w11.heap.size E vQ wQ), (23, fun vQ wQ => Tup25 w11.heap.size E vQ wQ), (36, fun vQ wQ => Own25 w11.heap.size E vQ wQ), (37, fun vQ _ => vQ = .int .i64 0), (12, fun vQ wQ => Own25 w11.heap.size E vQ wQ), (13, fun vQ _ => vQ = .int .i64 0)]) [] (tabS_out _ _ (by simp only [List.forall_mem_cons, mono_eqO, true_and]; exact ⟨(mono_nil (mono_NewB _ _ _ HLT2)), (mono_nil (mono_OwnB _ HLT2)), (mono_nil (mono_Tup25 _ HLT2)), (mono_nil (mono_Tup25 _ HLT2)), (mono_nil (mono_Own25 _ HLT2)), (mono_nil (mono_Own25 _ HLT2)), by simp⟩)) 17 (by kernel_rfl) (by kernel_rfl) (by kernel_rfl) (by kernel_rfl) [] [] rfl rfl (by decide) (by decide) (by decide) trivial ?_
 simp only [List.take_succ_cons, List.take_zero]
 refine ⟨fun w_ o_ S_ => ?_, fun v24 => ?_⟩
 ·clear S_
  clear o_
  go_wp2_with fail
  exact kso
 simp only [pA]
 refine ⟨fun w_ o_ S_ => ?_, fun v25 => ?_⟩
 ·obtain rfl : v24 = .pointer (some ⟨g4, 16, none⟩) := hsR S_ 24 rfl
  clear S_
  have H := kp (kK [0, 1, 2, 3] H o_)
  have HOX := kp o_
  clear o_
  go_wp2_with ((with_reducible refine isLd 25 ?_); (refine L_fv H rfl 25 _ rfl 3 rfl _ rfl _ rfl rfl Try.underlying25 rfl (by kernel_rfl) ?_); simp only [pA])
  exact kso
 simp only [pA]
 refine ⟨fun w_ o_ S_ => ?_, fun v26 => ?_⟩
 ·clear S_
  have H := kp (kK [0, 1, 2, 3] H o_)
  have HOX := kp o_
  clear o_
  go_wp2_with ((with_reducible refine isLd 107 ?_); (refine L_fv H rfl 107 _ rfl 0 rfl _ rfl _ rfl rfl Try.underlying107 rfl (by kernel_rfl) ?_); simp only [pA])
  exact kso
 simp only [pA]
 refine ⟨fun w_ o_ S_ => ?_, fun v27 => ?_⟩
 ·clear S_
  clear o_
  go_wp2_with fail
  exact kso
 simp only [pA]
 refine ⟨fun w_ o_ S_ => ?_, fun v28 => ?_⟩
 ·clear S_
  clear o_
  go_wp2_with fail
  exact kso
 simp only [pA]
 refine ⟨fun w_ o_ S_ => ?_, fun v29 => ?_⟩
 ·obtain rfl : v28 = .pointer (some ⟨g7, 0, none⟩) := hsR S_ 28 rfl
  clear S_
  have H := kp (kK [0, 1, 2, 3] H o_)
  have HOX := kp o_
  clear o_
  go_wp2_with ((with_reducible refine isLd 3 ?_); (refine L_f1 H rfl 3 _ rfl 1 rfl _ rfl _ rfl _ rfl Try.underlying3 rfl ?_); simp only [pA])
  exact kso
 simp only [pA]
 refine ⟨fun w_ o_ S_ => ?_, fun v30 => ?_⟩
 ·obtain rfl : v29 = .int .i64 gid := hsR S_ 29 rfl
  clear S_ o_
  go_wp2_with fail
  exact kso
 simp only [pA]
 refine ⟨fun w_ o_ S_ => ?_, fun v31 => ?_⟩
 ·obtain rfl : v30 = .int .u8 (gid % 256) := hsR S_ 30 rfl
  clear S_
  have H := kp (kK [0, 1, 2, 3] H o_)
  have HOX := kp o_
  clear o_
  go_wp2_with ((with_reducible show wpList _ _ _ (Oper.mk (some 31) (Op.buildSlice 33 _ _) _ _ _ _ :: _) _ _); (refine L_bs H (by kernel_rfl) 33 1 _ rfl (#[(0, .int .u8 (gid % 256))]) (by kernel_rfl) 5 ([.int .u8 (gid % 256)]) (fun _ => by kernel_rfl) ?_); clear H; intro g31 w31 HGg31 HEg31 H; simp only [pA])
  exact ⟨rfl, _, rfl, fun d hd => by cases hd; exact ⟨g31, rfl, (by show Lc w31 g31 _ [V8 (BitVec.ofInt 8 gid)]; rw [HPT.out]; exact H.out.at 0 rfl), (by have q1 := HGg31.out; have q2 := HOX.out.size; omega)⟩, HEg31.out⟩
 simp only [pA]
 refine ⟨fun w_ o_ S_ => ?_, fun v32 => ?_⟩
 ·clear S_
  clear o_
  go_wp2_with fail
  exact kso
 simp only [pA]
 refine ⟨fun w_ o_ S_ => ?_, fun v33 => ?_⟩
 ·obtain rfl : v32 = .pointer (some ⟨g7, 1, none⟩) := hsR S_ 32 rfl
  clear S_ o_
  go_wp2_with fail
  exact kso
 simp only [pA]
 refine ⟨fun w_ o_ S_ => ?_, fun v34 => ?_⟩
 ·have h31 := kp (show NewB w11.heap.size 5 1 ([BitVec.ofInt 8 gid].map V8) v31 w_ from hsR S_ 31 rfl)
  obtain rfl : v33 = .slice (some ⟨g7, 1, none⟩) 16 16 := hsR S_ 33 rfl
  clear S_
  have H := kp (kK [0, 1, 2, 3] H o_)
  have HOX := kp o_
  clear o_
  obtain ⟨g31, rfl, hL, hb⟩ := h31.out
  have HLB := kp hL
  have HKN := kp gkey.2
  clear hL hb
  go_wp2_with (at_builtin; refine wpList_append_full rfl _ _ rfl HLB.out rfl rfl rfl (SlB_part H.out 1 rfl 1 1 rfl rfl 16) (by rw [HKN.out]; decide) (by rw [HKN.out]; simp) ?_; intro v2 w2 ho2 hx2; have HO2 := kp ho2; have HX2 := kp hx2; clear ho2 hx2; simp only [pA])
  exact ⟨rfl, _, rfl, fun d hd => by cases hd; exact owns_weak HO2.out HOX.out.size, HX2.out⟩
 simp only [pA]
 refine ⟨fun w_ o_ S_ => ?_, fun v35 => ?_⟩
 ·obtain rfl : v25 = .agg (p.w.1.map V8).toArray := hsR S_ 25 rfl
  obtain rfl : v26 = .agg ((fit 13 (F.take 9)).1.map V8).toArray := hsR S_ 26 rfl
  obtain rfl : v27 = .slice au 25 cu := hsR S_ 27 rfl
  have h34 := kp (show OwnB w11.heap.size (groupB gid gkey.1) v34 w_ from hsR S_ 34 rfl)
  clear S_
  have H := kp (kK [0, 1, 2, 3] H o_)
  have HOX := kp o_
  clear o_
  obtain ⟨a4, c4, hv4⟩ := (SlB.of_owns h34.out).form
  have HS4 := kp (SlB.of_owns h34.out)
  have HA4 := kp (HSW.out.ext (out_ext HOX.out))
  subst hv4
  clear h34
  go_wp2_with fail
  refine (HSE.out _ _ _ HA4.out HS4.out).mono ?_
  rintro e w2 ⟨v, rfl, ho, hx⟩
  rw [HEE.out] at ho
  have HO2 := kp ho
  have HX2 := kp hx
  clear ho hx
  obtain ⟨a5, c5, hv5⟩ := (SlB.of_owns HO2.out).form
  rw [HWL.out] at hv5
  subst hv5
  go_wp2_with fail
  exact ⟨rfl, _, rfl, fun d hd => by cases hd; exact ⟨a5, c5, rfl, owns_weak HO2.out HOX.out.size⟩, HX2.out⟩
 simp only [pA]
 refine ⟨fun w_ o_ S_ => ?_, fun v23 => ?_⟩
 ·have h35 := kp (show Tup25 w11.heap.size E v35 w_ from hsR S_ 35 rfl)
  clear S_ o_
  go_wp2_with fail
  exact ⟨rfl, _, rfl, fun d hd => by cases hd; exact h35.out, Ext.refl _⟩
 simp only [pA]
 refine ⟨fun w_ o_ S_ => ?_, fun v36 => ?_⟩
 ·have h23 := kp (show Tup25 w11.heap.size E v23 w_ from hsR S_ 23 rfl)
  clear S_
  have H := kp (kK [0, 1, 2, 3] H o_)
  have HOX := kp o_
  clear o_
  obtain ⟨a5, c5, rfl, ho⟩ := h23.out
  have HO2 := kp ho
  clear ho h23
  go_wp2_with fail
  exact ⟨rfl, _, rfl, fun d hd => by cases hd; exact ⟨a5, c5, rfl, HO2.out⟩, Ext.refl _⟩
 simp only [pA]
 refine ⟨fun w_ o_ S_ => ?_, fun v37 => ?_⟩
 ·have h23 := kp (show Tup25 w11.heap.size E v23 w_ from hsR S_ 23 rfl)
  clear S_
  have H := kp (kK [0, 1, 2, 3] H o_)
  have HOX := kp o_
  clear o_
  obtain ⟨a5, c5, rfl, ho⟩ := h23.out
  clear ho h23
  go_wp2_with fail
  exact kso
 simp only [pA]
 refine ⟨fun w_ o_ S_ => ?_, fun v12 => ?_⟩
 ·have h36 := kp (show Own25 w11.heap.size E v36 w_ from hsR S_ 36 rfl)
  clear S_ o_
  go_wp2_with fail
  exact ⟨rfl, _, rfl, fun d hd => by cases hd; exact h36.out, Ext.refl _⟩
 simp only [pA]
 refine ⟨fun w_ o_ S_ => ?_, fun v13 => ?_⟩
 ·obtain rfl : v37 = .int .i64 0 := hsR S_ 37 rfl
  clear S_ o_
  go_wp2_with fail
  exact kso
 simp only [pA]
 clear H
 intro w12 HOX H hfin
 obtain rfl : v24 = .pointer (some ⟨g4, 16, none⟩) := hfin 24 (by decide)
 obtain rfl : v25 = .agg (p.w.1.map V8).toArray := hfin 25 (by decide)
 obtain rfl : v26 = .agg ((fit 13 (F.take 9)).1.map V8).toArray := hfin 26 (by decide)
 obtain rfl : v27 = .slice au 25 cu := hfin 27 (by decide)
 obtain rfl : v28 = .pointer (some ⟨g7, 0, none⟩) := hfin 28 (by decide)
 obtain rfl : v29 = .int .i64 gid := hfin 29 (by decide)
 obtain rfl : v30 = .int .u8 (gid % 256) := hfin 30 (by decide)
 have F31 := kp (show NewB w11.heap.size 5 1 ([BitVec.ofInt 8 gid].map V8) v31 w12 from hfin 31 (by decide))
 obtain rfl : v32 = .pointer (some ⟨g7, 1, none⟩) := hfin 32 (by decide)
 obtain rfl : v33 = .slice (some ⟨g7, 1, none⟩) 16 16 := hfin 33 (by decide)
 have F34 := kp (show OwnB w11.heap.size (groupB gid gkey.1) v34 w12 from hfin 34 (by decide))
 have F35 := kp (show Tup25 w11.heap.size E v35 w12 from hfin 35 (by decide))
 have F23 := kp (show Tup25 w11.heap.size E v23 w12 from hfin 23 (by decide))
 have F36 := kp (show Own25 w11.heap.size E v36 w12 from hfin 36 (by decide))
 obtain rfl : v37 = .int .i64 0 := hfin 37 (by decide)
 have F12 := kp (show Own25 w11.heap.size E v12 w12 from hfin 12 (by decide))
 obtain rfl : v13 = .int .i64 0 := hfin 13 (by decide)
 clear hfin
 simp only [List.drop_succ_cons, List.drop_zero]
 simp only [applyS] at H
 have HXN := kp (HOX.out.ext (Ext.refl w11) (fun g hg => by cases hg))
 obtain ⟨a5, c5, hv5, ho⟩ := F12.out
 have HO5 := kp (SlB.of_owns ho)
 clear ho F12 F23 F31 F34 F35 F36
 subst hv5
 subst h4
 go_wp2_with (first | ((with_reducible refine isLd 25 ?_); (refine L_fv H rfl 25 _ rfl 3 rfl _ rfl _ rfl rfl Try.underlying25 rfl (by kernel_rfl) ?_); simp only [pA]) | ((with_reducible refine isLd 26 ?_); (refine L_fv H rfl 26 _ rfl 2 rfl _ rfl _ rfl rfl Try.underlying26 rfl (by kernel_rfl) ?_); simp only [pA]) | (go_at_call 44; refine (HMS.out _ _ _ _ HO5.out).mono ?_; rintro e wz ⟨v, rfl, ho, hx⟩; have HO6 := kp (owns_weak ho H.out.1.size); clear ho; replace H := kp (H.out.ext hx); have HXC := kp hx; clear hx))
 go_ret
 exact ⟨_, rfl, HO6.out, H.out.1⟩
theorem sent_1 {s : Fw} (h : s.stage = 1) : sendF s = signedF (zv 16).1 1 s.replay s.mine.1 [] := by rw [send_n (by omega), signed_1, signed_1]
set_option maxRecDepth 4000 in
set_option maxHeartbeats 1600000 in
theorem rsent_any (s : Fw) (h0 : 0 ≤ s.replay) (h1 : s.replay < 9223372036854775808) (hst : s.stage = 1 ∨ s.stage = 3) (w : World) : Calls Try.prog 32 #[.agg (cat (partsF s)).toArray] w fun e w' => ∃ v, e = .returned v ∧ SlBB w.heap.size w' v [sendF s] ∧ Ext w w' := by
 have H := kp (Loc.start w)
 have HM1 := kp (fun w => rmessage1_any (zv 16) s.replay h0 h1 s.mine w)
 have HM3 := kp (fun w => rthree_any s.pair s.replay h0 h1 s.mine s.gid s.gkey w)
 have HS1 := kp (fun h : s.stage = 1 => sent_1 h)
 have HS3 := kp (fun h : s.stage = 3 => send_3 h)
 clear h0 h1
 go_enter Try.func32, Try.ntmps32
 rcases hst with hst | hst
 ·have HK := kp (HS1.out hst)
  have hb : (s.stage == 1) = true := by simp [hst]
  clear hst
  go_wp2_with (first | ((with_reducible refine isBx 1 32 ?_); (refine L_box H rfl 32 _ rfl (cat (partsF s)) rfl ?_); clear H; intro g1 w1 HGg1 HEg1 H; simp only [pA]) | ((with_reducible refine isLd 3 ?_); (refine L_f1 H rfl 3 _ rfl 0 rfl _ rfl _ rfl _ rfl Try.underlying3 rfl ?_); simp only [pA]) | ((with_reducible refine isLd 5 ?_); (refine L_f1 H rfl 5 _ rfl 0 rfl _ rfl _ rfl _ rfl Try.underlying5 rfl ?_); simp only [pA]) | ((with_reducible refine isLd 26 ?_); (refine L_fv H rfl 26 _ rfl 0 rfl _ rfl _ rfl rfl Try.underlying26 rfl (by kernel_rfl) ?_); simp only [pA]) | ((with_reducible show wpList _ _ _ (Oper.mk _ (Op.build 25 _) _ _ _ _ :: _) _ _); (refine L_bd rfl 25 _ rfl #[] (by kernel_rfl) ((zv 16).1.map V8) (fun _ => by kernel_rfl) ?_); simp only [pA]) | (go_at_call 44; refine (HM1.out _).mono ?_; rintro e wa ⟨v, rfl, ho, hx⟩; have HSO := kp (owns_weak ho H.out.1.size); obtain ⟨av, nv, cv, rfl⟩ := owns_form2 HSO.out; clear ho; replace H := kp (H.out.ext hx); have HXC := kp hx; clear hx) | ((with_reducible show wpList _ _ _ (Oper.mk (some 12) (Op.buildSlice 34 _ _) _ _ _ _ :: _) _ _); (refine L_bs H (by kernel_rfl) 34 1 _ rfl (#[(0, .slice av nv cv)]) (by kernel_rfl) 33 ([.slice av nv cv]) (fun _ => by kernel_rfl) ?_); clear H; intro g25 w25 HGg25 HEg25 H; simp only [pA]))
  go_ret
  exact ⟨_, rfl, by rw [HK.out]; exact SlBB.one (H.out.at 0 rfl) (H.out.le 0 rfl) (owns_ext HSO.out HEg25.out), H.out.1⟩
 ·have HK := kp (HS3.out hst)
  have hb : (s.stage == 1) = false := by simp [hst]
  clear hst
  go_wp2_with (first | ((with_reducible refine isBx 1 32 ?_); (refine L_box H rfl 32 _ rfl (cat (partsF s)) rfl ?_); clear H; intro g1 w1 HGg1 HEg1 H; simp only [pA]) | ((with_reducible refine isLd 3 ?_); (refine L_f1 H rfl 3 _ rfl 0 rfl _ rfl _ rfl _ rfl Try.underlying3 rfl ?_); simp only [pA]) | ((with_reducible refine isLd 5 ?_); (refine L_f1 H rfl 5 _ rfl 0 rfl _ rfl _ rfl _ rfl Try.underlying5 rfl ?_); simp only [pA]) | ((with_reducible refine isLd 26 ?_); (refine L_fv H rfl 26 _ rfl 0 rfl _ rfl _ rfl rfl Try.underlying26 rfl (by kernel_rfl) ?_); simp only [pA]) | ((with_reducible refine isLd 28 ?_); (refine L_fg H rfl 28 _ rfl 0 rfl _ rfl _ rfl (partsK s.pair) rfl Try.underlying28 rfl (by kernel_rfl) ?_); simp only [pA]) | ((with_reducible refine isLd 30 ?_); (refine L_fg H rfl 30 _ rfl 0 rfl _ rfl _ rfl (partsG s.gid s.gkey) rfl Try.underlying30 rfl (by kernel_rfl) ?_); simp only [pA]) | (go_at_call 48; refine (HM3.out _).mono ?_; rintro e wa ⟨v, rfl, ho, hx⟩; have HSO := kp (owns_weak ho H.out.1.size); obtain ⟨av, nv, cv, rfl⟩ := owns_form2 HSO.out; clear ho; replace H := kp (H.out.ext hx); have HXC := kp hx; clear hx) | ((with_reducible show wpList _ _ _ (Oper.mk (some 22) (Op.buildSlice 34 _ _) _ _ _ _ :: _) _ _); (refine L_bs H (by kernel_rfl) 34 1 _ rfl (#[(0, .slice av nv cv)]) (by kernel_rfl) 33 ([.slice av nv cv]) (fun _ => by kernel_rfl) ?_); clear H; intro g25 w25 HGg25 HEg25 H; simp only [pA]))
  go_ret
  exact ⟨_, rfl, by rw [HK.out]; exact SlBB.one (H.out.at 0 rfl) (H.out.le 0 rfl) (owns_ext HSO.out HEg25.out), H.out.1⟩
end Go.Proofs.Ytibncchobkaaiaa
