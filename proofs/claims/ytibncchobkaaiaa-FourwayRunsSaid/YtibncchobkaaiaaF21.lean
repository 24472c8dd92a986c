/- Texts of this proof, put together: Ref22c. -/
import Derived.Test.YtibncchobkaaiaaF20
import Derived.Test.YtibncchobkaaiaaF1
namespace Go.Proofs.Ytibncchobkaaiaa
open Go.RowKit
def rchTo (ks ch p : List (BitVec 8)) : Nat → List (BitVec 8)
 | 0 => ch
 | j + 1 => encF ks (xorTo (rchTo ks ch p j) p (16 * j) 16)
theorem rchTo_len (ks ch p : List (BitVec 8)) (h : ch.length = 16) : ∀ j, (rchTo ks ch p j).length = 16
 | 0 => h
 | _ + 1 => encF_len _ _
theorem xorTo_mixTo (c p x : List (BitVec 8)) (o : Nat) : ∀ k, (∀ t, t < k → p.getD (o + t) 0 = x.getD t 0) → xorTo c p o k = mixTo c x k
 | 0, _ => rfl
 | k + 1, h => by rw [xorTo, mixTo, xorTo_mixTo c p x o k (fun t ht => h t (by omega)), h k (by omega)]
theorem chunk_at (l : List (BitVec 8)) (k t : Nat) (ht : t < 16) : (chunk l k).getD t 0 = l.getD (16 * k + t) 0 := by
 unfold chunk
 by_cases h : t < ((l.drop (16 * k)).take 16).length
 ·rw [getD_left _ _ _ h, getD_take _ _ _ ht, getD_drop]
 ·rw [getD_right _ _ _ (by omega)]
  rw [List.length_take, List.length_drop] at h
  rw [getD_past l _ (by omega)]
  simp only [List.getD]
  rw [List.getElem?_replicate]
  split <;> rfl
theorem rch_head (ks ch hd bd : List (BitVec 8)) (hc : ch.length = 16) : ∀ j, j ≤ (hd.length + 15) / 16 → rchTo ks ch (padF hd ++ padF bd) j = chainTo ks ch (blocksTo hd j)
 | 0, _ => rfl
 | j + 1, h => by
  rw [rchTo, rch_head ks ch hd bd hc j (by omega), blocksTo_succ, chainTo_snoc]
  refine congrArg (encF ks) ?_
  rw [mixF, chainTo_len ks ch hc]
  refine xorTo_mixTo _ _ _ _ _ fun t ht => ?_
  show _ = (chunk hd j).getD t 0
  rw [chunk_at _ _ _ (by omega), getD_left _ _ _ (by rw [padF_len]; omega), padF_at]
theorem rch_body (ks ch hd bd : List (BitVec 8)) (hc : ch.length = 16) : ∀ j, j ≤ (bd.length + 15) / 16 → rchTo ks ch (padF hd ++ padF bd) ((hd.length + 15) / 16 + j) = chainTo ks ch (blocksTo hd ((hd.length + 15) / 16) ++ blocksTo bd j)
 | 0, _ => by
  rw [Nat.add_zero, rch_head ks ch hd bd hc _ (Nat.le_refl _)]
  simp [blocksTo]
 | j + 1, h => by
  rw [← Nat.add_assoc, rchTo, rch_body ks ch hd bd hc j (by omega), blocksTo_succ, ← List.append_assoc, chainTo_snoc]
  refine congrArg (encF ks) ?_
  rw [mixF, chainTo_len ks ch hc]
  refine xorTo_mixTo _ _ _ _ _ fun t ht => ?_
  show _ = (chunk bd j).getD t 0
  rw [chunk_at _ _ _ (by omega), getD_right _ _ _ (by rw [padF_len]; omega), padF_len, padF_at, show 16 * ((hd.length + 15) / 16 + j) + t - 16 * ((hd.length + 15) / 16) = 16 * j + t by omega]
theorem rch_code (ks ch hd bd : List (BitVec 8)) (hc : ch.length = 16) : rchTo ks ch (padF hd ++ padF bd) ((hd.length + 15) / 16 + (bd.length + 15) / 16) = chainTo ks ch (blocksAll [hd, bd]) := by
 rw [rch_body ks ch hd bd hc _ (Nat.le_refl _)]
 simp [blocksAll, blocksF]
def eightTo (l : List (BitVec 8)) (k : Nat) : List (BitVec 8) := l.take k ++ List.replicate (8 - k) 0
theorem eightTo_len (l : List (BitVec 8)) (hl : 8 ≤ l.length) (k : Nat) (hk : k ≤ 8) : (eightTo l k).length = 8 := by
 unfold eightTo; rw [List.length_append, List.length_take, List.length_replicate]; omega
theorem eightTo_step (l : List (BitVec 8)) (hl : 8 ≤ l.length) (k : Nat) (hk : k < 8) (y : BitVec 8) (hy : l[k]? = some y) : (eightTo l k).set k y = eightTo l (k + 1) := by
 unfold eightTo
 rw [List.set_append_right _ _ (by rw [List.length_take]; omega), List.length_take, Nat.min_eq_left (by omega), Nat.sub_self, show 8 - k = (8 - (k + 1)) + 1 by omega, List.replicate_succ, List.set_cons_zero, List.take_add_one, hy]
 simp
theorem ext_setCell {W wr : World} {C i : Nat} {c c' : List Value} {T : TypeId} {v : Value} (hC : C < W.heap.size) (h : Ext (W.setRow C c.toArray) wr) (hr : wr.heap[C]? = some (.cells c.toArray T (0, 0))) (hs : c.set i v = c') : Ext (W.setRow C c'.toArray) (wr.setCell ⟨C, i, none⟩ v) := by
 rw [setRow_setCell v hr, List.setIfInBounds_toArray, hs]
 have h2 := ext_setRow2 h (g := C) (by rw [setRow_size]; exact hC) c'.toArray
 rwa [setRow_setRow] at h2
theorem ext_setRow3 {W wr : World} {C : Nat} {c c' : Array Value} (hC : C < W.heap.size) (h : Ext (W.setRow C c) wr) : Ext (W.setRow C c') (wr.setRow C c') := by
 have h2 := ext_setRow2 h (g := C) (by rw [setRow_size]; exact hC) c'
 rwa [setRow_setRow] at h2
set_option maxHeartbeats 6400000 in
theorem rcode_ok (ks nc : List (BitVec 8)) (hk : ks.length = 16) (hl : nc.length = 13) (va vb : Value) (ad body : List (BitVec 8)) (ha : ad.length ≤ 256) (hb : body.length ≤ 4096) (w : World) (hva : SlB w va ad) (hvb : SlB w vb body) :
  Calls Try.prog 81 #[.agg (ks.map V8).toArray, .agg (nc.map V8).toArray, va, vb] w fun e w' => e = .returned (.tuple #[.agg ((codeF ks nc ad body).map V8).toArray, .int .i64 0]) ∧ Ext w w' := by
 obtain ⟨iu, hiu, hu⟩ := info_iu
 have HIU := kp hiu
 have HU := kp hu
 obtain ⟨aa, ca, rfl⟩ := hva.form
 obtain ⟨ab, cb, rfl⟩ := hvb.form
 have HVA := kp hva
 have HVB := kp hvb
 have HK := kp (sizeK ks hk)
 have HN := kp (sizeN nc hl)
 have HM := kp (fun w => rfirst_any 2 nc hl (body.length : Int) w)
 have HE := kp (fun w => rencrypt_any ks (markF 2 nc (body.length : Int)) hk (markF_len 2 nc hl _) w)
 have HES := kp (sizeB _ (encF_len ks (markF 2 nc (body.length : Int))))
 have HEZ := kp (z16_size _ (encF_len ks (markF 2 nc (body.length : Int))))
 have HEL := kp (encF_len ks (markF 2 nc (body.length : Int)))
 have HC := kp (show codeF ks nc ad body = (chainTo ks (encF ks (markF 2 nc (body.length : Int))) (blocksAll [headF ad, body])).take 8 from rfl)
 have HCL := kp (codeF_len ks nc ad body)
 have HEN := kp (fun (xs : List (BitVec 8)) (hx : xs.length = 16) (w : World) => rencrypt_any ks xs hk hx w)
 generalize codeF ks nc ad body = cf at *
 generalize markF 2 nc (body.length : Int) = M at *
 generalize encF ks M = ch0 at *
 have h1 : ¬ 256 < (ad.length : Int) := by omega
 have h2 : ¬ 4096 < (body.length : Int) := by omega
 have HT := kp (fun w => rtwo_any (ad.length : Int) w)
 have HHF := kp (show [BitVec.ofInt 8 ad.length, BitVec.ofInt 8 ((ad.length : Int) / 256)] ++ ad = headF ad from rfl)
 have HHL := kp (show (headF ad).length = ad.length + 2 by simp [headF])
 have HF1 := kp (fun v w h => rfilled_any v (headF ad) (by rw [HHL.out]; omega) w h)
 have HF2 := kp (fun v w h => rfilled_any v body (by omega) w h)
 have HLE1 := kp (show ([BitVec.ofInt 8 ad.length, BitVec.ofInt 8 ((ad.length : Int) / 256)] : List (BitVec 8)).length + ad.length ≤ 1000000 by simp; omega)
 have HLE2 := kp (show (padF (headF ad)).length + (padF body).length ≤ 1000000 by rw [padF_len, padF_len, HHL.out]; omega)
 have HRC := kp (rch_code ks ch0 (headF ad) body HEL.out)
 have HPL := kp (show (padF (headF ad) ++ padF body).length = 16 * (((headF ad).length + 15) / 16 + (body.length + 15) / 16) by rw [List.length_append, padF_len, padF_len]; omega)
 obtain ⟨m, hm⟩ : ∃ m, m = ((headF ad).length + 15) / 16 + (body.length + 15) / 16 := ⟨_, rfl⟩
 rw [← hm] at HRC HPL
 have hmb : m ≤ 1000 := by rw [hm, HHL.out]; omega
 generalize hHd : headF ad = H at *
 generalize BitVec.ofInt 8 ((ad.length : Int) / 256) = b1 at *
 generalize BitVec.ofInt 8 (ad.length : Int) = b0 at *
 clear hHd hm hiu hu hva hvb hk hl
 go_enter Try.func81, Try.ntmps81
 generalize h4 : (Code.region 4 _ _ : Code) = R4
 generalize h6 : (Code.region 6 _ _ : Code) = R6
 go_wp2_with fail
 have hx4 : Ext w ((((w.alloc (.cells (ks.map V8).toArray 25)).alloc (.cells (nc.map V8).toArray 107)).alloc (.cells z8 131)).alloc (.cells z8 131)) := (((Ext.alloc _ _).trans (Ext.alloc _ _)).trans (Ext.alloc _ _)).trans (Ext.alloc _ _)
 have hk4 : ((((w.alloc (.cells (ks.map V8).toArray 25)).alloc (.cells (nc.map V8).toArray 107)).alloc (.cells z8 131)).alloc (.cells z8 131)).heap[w.heap.size]? = some (.cells (ks.map V8).toArray 25 (0, 0)) := hp_alloc (hp_alloc (hp_alloc (hp_new _ _)))
 have hn4 : ((((w.alloc (.cells (ks.map V8).toArray 25)).alloc (.cells (nc.map V8).toArray 107)).alloc (.cells z8 131)).alloc (.cells z8 131)).heap[w.heap.size + 1]? = some (.cells (nc.map V8).toArray 107 (0, 0)) := hp_alloc (hp_alloc (hp_at _ _ _ (by simp)))
 have ho4 : ((((w.alloc (.cells (ks.map V8).toArray 25)).alloc (.cells (nc.map V8).toArray 107)).alloc (.cells z8 131)).alloc (.cells z8 131)).heap[w.heap.size + 1 + 1]? = some (.cells z8 131 (0, 0)) := hp_alloc (hp_at _ _ _ (by simp))
 have hd4 : ((((w.alloc (.cells (ks.map V8).toArray 25)).alloc (.cells (nc.map V8).toArray 107)).alloc (.cells z8 131)).alloc (.cells z8 131)).heap[w.heap.size + 1 + 1 + 1]? = some (.cells z8 131 (0, 0)) := hp_at _ _ _ (by simp)
 have hs4 : ((((w.alloc (.cells (ks.map V8).toArray 25)).alloc (.cells (nc.map V8).toArray 107)).alloc (.cells z8 131)).alloc (.cells z8 131)).heap.size = w.heap.size + 4 := by simp
 rw [show (#[Value.int .u8 0, .int .u8 0, .int .u8 0, .int .u8 0, .int .u8 0, .int .u8 0, .int .u8 0, .int .u8 0] : Array Value) = z8 from rfl]
 generalize (((w.alloc (.cells (ks.map V8).toArray 25)).alloc (.cells (nc.map V8).toArray 107)).alloc (.cells z8 131)).alloc (.cells z8 131) = W4 at *
 have HS4 := kp hs4
 have HX4 := kp hx4
 have HK4 := kp hk4
 have HN4 := kp hn4
 have HO4 := kp ho4
 have HD4 := kp hd4
 clear hx4 hk4 hn4 ho4 hd4 hs4
 subst h4
 have HOT := kp (owns_two W4 W4.heap.size (Nat.le_refl _) b0 b1)
 have HVA4 := kp (HVA.out.ext (HX4.out.trans (Ext.alloc _ (.cells #[V8 b0, V8 b1] 5))))
 go_wp2_with (first | (go_at_call 103; refine (HT.out _).mono ?_; rintro e w' ⟨rfl, rfl⟩) | (at_builtin; refine wpList_append_SlB rfl _ _ 33 rfl W4.heap.size 5 iu Try.underlying33 HIU.out HU.out.1 HU.out.2.1 HU.out.2.2 (.slice (some ⟨W4.heap.size, 0, none⟩) 2 2) [b0, b1] rfl HOT.out _ ad rfl HVA4.out HLE1.out (by simp) ?_; intro v1 w1 ho1 hg1; rw [HHF.out] at ho1; obtain ⟨a1, c1, hv1⟩ := (SlB.of_owns ho1).form; have HO1 := kp ho1; have HX1 := kp ((Ext.alloc W4 _).grown hg1 (fun k hk => by cases hk; exact Nat.le_refl _)); clear ho1 hg1; subst hv1))
 refine (HF1.out _ _ (SlB.of_owns HO1.out)).mono ?_
 rintro e w2 ⟨v2, rfl, ho2, hx2⟩
 have HO2 := kp ho2
 have HX2 := kp hx2
 obtain ⟨a2, c2, rfl⟩ := (SlB.of_owns ho2).form
 clear ho2 hx2
 go_wp2_with fail
 refine (HF2.out _ _ (HVB.out.ext ((HX4.out.trans HX1.out).trans HX2.out))).mono ?_
 rintro e w3 ⟨v3, rfl, ho3, hx3⟩
 have HS3 := kp (SlB.of_owns ho3)
 have HX3 := kp hx3
 have HO23 := kp (owns_ext HO2.out hx3)
 have hw13 : w1.heap.size ≤ w3.heap.size := by have h1 := HX2.out.size; have h2 := hx3.size; omega
 obtain ⟨a3, c3, rfl⟩ := (SlB.of_owns ho3).form
 clear ho3 hx3
 obtain ⟨PP, hPP⟩ : ∃ PP, padF H ++ padF body = PP := ⟨_, rfl⟩
 rw [hPP] at HRC HPL
 have HPP := kp hPP
 clear hPP
 go_wp2_with (at_builtin; refine wpList_append_SlB rfl _ _ 33 rfl w1.heap.size 5 iu Try.underlying33 HIU.out HU.out.1 HU.out.2.1 HU.out.2.2 _ (padF H) rfl HO23.out _ (padF body) rfl HS3.out HLE2.out hw13 ?_; intro v5 w5 ho5 hg5; rw [HPP.out] at ho5; obtain ⟨a5, c5, hv5⟩ := (SlB.of_owns ho5).form; rw [HPL.out] at hv5; have HO5 := kp ho5; have HX5 := kp ((HX2.out.trans HX3.out).grown hg5 (fun k hk => owns_block HO23.out k hk)); clear ho5 hg5; subst hv5)
 have HX05 := kp (HX1.out.trans HX5.out)
 have HK5 := kp (ext_heap HX05.out HK4.out)
 have HN5 := kp (ext_heap HX05.out HN4.out)
 have HO5' := kp (ext_heap HX05.out HO4.out)
 have HD5 := kp (ext_heap HX05.out HD4.out)
 have HS5 := kp (show SlB w5 (.slice a5 (16 * m) c5) PP from SlB.of_owns HO5.out)
 have HX5w := kp (HX4.out.trans HX05.out)
 have hw5 : w.heap.size + 4 ≤ w5.heap.size := by have h1 := HX05.out.size; have h2 := HS4.out; omega
 clear HX05 HX5 HO5 HX1 HX2 HX3 HO1 HO2 HO23 HS3 HK4 HN4 HO4 HD4 HX4 HOT HVA4 HS4 hw13
 subst h6
 (refine region_a 7 6 12 (.cells z16 115) (by kernel_rfl) (by kernel_rfl) (by kernel_rfl) (by kernel_rfl) (by intro o ho; cases ho; exact ⟨rfl, rfl, by simp, fun _ _ => by kernel_rfl⟩) (by decide) ?_)
 apply Exists.intro
 refine ⟨fun xz2 => ?_, fun xm2 xq2 => ?_⟩
 ·simp only [List.take_succ_cons, List.take_zero, List.eraseIdx_cons_succ, List.eraseIdx_cons_zero]
  unfold Cx
  (((with_reducible show wpQuiet _ _ _ _ (Oper.mk _ (Op.load 25 _) _ _ _ _ :: _) _); go_big_quiet_want; with_reducible refine quiet_load_row 25 _ rfl (w.heap.size) rfl 25 ((ks.map V8).toArray) (0, 0) _ (fun _ hw => by obtain ⟨xx, rfl⟩ := hw; exact hp_more HK5.out) Try.underlying25 rfl (HK.out) ?_; simp only [pA]; go_big_quiet_on); ((with_reducible show wpQuiet _ _ _ _ (Oper.mk _ (Op.load 107 _) _ _ _ _ :: _) _); go_big_quiet_want; with_reducible refine quiet_load_row 107 _ rfl (w.heap.size + 1) rfl 107 ((nc.map V8).toArray) (0, 0) _ (fun _ hw => by obtain ⟨xx, rfl⟩ := hw; exact hp_more HN5.out) Try.underlying107 rfl (HN.out) ?_; simp only [pA]; go_big_quiet_on); go_big_quiet_step (fail); go_big_quiet_step (fail); go_big_quiet_step (exact Calls.cx_of (HM.out _)); go_big_quiet_step (exact Calls.cx_of (HE.out _)))
  exact wpQuiet_nil rfl
 simp only [List.drop_succ_cons, List.drop_zero, Act.put, List.setIfInBounds_toArray, List.set_cons_zero, List.set_cons_succ]
 try simp only [World.size_alloc]
 try simp only [more_size]
 go_wp2_with ((with_reducible refine isSt 115 ?_); with_reducible refine wpList_st_row rfl rfl 115 _ _ rfl (w5.heap.size + xm2.blocks.size) ((ch0.map V8).toArray) rfl rfl 115 (z16) (hp_more (hp_at _ _ _ (by simp))) (HES.out) (HEZ.out) (all_V8 _) (by rewrite [setRow_more _ _ _ _ (by first | assumption | (simp <;> omega)), setRow_at _ _ _ _ _ _ (by simp <;> omega)]; rfl) ?_)
 obtain ⟨C, hC⟩ : ∃ C, C = w5.heap.size + xm2.blocks.size := ⟨_, rfl⟩
 have hX6 : Ext w5 (more ((more w5 xm2).alloc (.cells (ch0.map V8).toArray 115)) xq2) := ((Ext.more _ _).trans (Ext.alloc _ _)).trans (Ext.more _ _)
 have hC6 : (more ((more w5 xm2).alloc (.cells (ch0.map V8).toArray 115)) xq2).heap[C]? = some (.cells (ch0.map V8).toArray 115 (0, 0)) := hp_more (hp_at _ _ _ (by rw [more_size]; exact hC))
 rw [← hC]
 generalize more ((more w5 xm2).alloc (.cells (ch0.map V8).toArray 115)) xq2 = W6 at *
 have HX6 := kp (HX5w.out.trans hX6)
 have HK6 := kp (ext_heap hX6 HK5.out)
 have HO6 := kp (ext_heap hX6 HO5'.out)
 have HD6 := kp (ext_heap hX6 HD5.out)
 have HS6 := kp (HS5.out)
 have H56 := kp hX6
 have HC6 := kp hC6
 have hCw : w5.heap.size ≤ C := by omega
 have hCW : C < W6.heap.size := by rw [Array.getElem?_eq_some_iff] at hC6; exact hC6.1
 clear hX6 hC6 hC HK5 HN5 HO5' HD5 HX5w HS5 HE HM HN
 go_loopw [13] (fun i wr => ∃ j : Nat, j ≤ m ∧ i = .int .i64 ((16 * j : Nat) : Int) ∧ Kp (Ext (W6.setRow C ((rchTo ks ch0 PP j).map V8).toArray) wr)) (fun i _ => 16 * m + 16 - (intOf i).toNat)
 case atStart => exact ⟨0, by omega, rfl, kp (by rw [rchTo, setRow_same HC6.out]; exact Ext.refl _)⟩
 case round =>
  obtain ⟨j, hj, rfl, HXj⟩ := hrel
  by_cases hjlt : j < m
  ·have hltI : ((16 * j : Nat) : Int) < ((16 * m : Nat) : Int) := by omega
   have HRL := kp (rchTo_len ks ch0 PP HEL.out j)
   have HR1 := kp (show rchTo ks ch0 PP (j + 1) = encF ks (xorTo (rchTo ks ch0 PP j) PP (16 * j) 16) from rfl)
   generalize rchTo ks ch0 PP j = r0 at *
   go_wp2_with fail
   go_loopw [14] (fun i wr => ∃ t : Nat, t ≤ 16 ∧ i = .int .i64 t ∧ Kp (Ext (W6.setRow C ((xorTo r0 PP (16 * j) t).map V8).toArray) wr)) (fun i _ => 16 - (intOf i).toNat)
   case atStart => exact ⟨0, by omega, rfl, HXj⟩
   case round =>
    obtain ⟨t, ht, rfl, HXt⟩ := hrel
    have HCt := kp (ext_heap HXt.out (setRow_heap W6 C _ ((xorTo r0 PP (16 * j) t).map V8).toArray _ _ HC6.out))
    have hCr : C < wr.heap.size := by have := HCt.out; rw [Array.getElem?_eq_some_iff] at this; exact this.1
    by_cases htlt : t < 16
    ·obtain ⟨y, hy⟩ : ∃ y, PP[16 * j + t]? = some y := ⟨PP[16 * j + t]'(by rw [HPL.out]; omega), by simp⟩
     obtain ⟨z, hz⟩ : ∃ z, (xorTo r0 PP (16 * j) t)[t]? = some z := ⟨(xorTo r0 PP (16 * j) t)[t]'(by rw [xorTo_len, HRL.out]; omega), by simp⟩
     obtain ⟨g, og, eg, hg, cg⟩ := HS6.out.at (16 * j + t) y hy
     subst eg
     have hgr : g < wr.heap.size := by omega
     have cy : wr.cell? ⟨g, og + (16 * j + t), none⟩ = some (V8 y) := by
      rw [← cg]
      refine World.cell?_of_block ?_
      obtain ⟨o, ho⟩ : ∃ o, w5.heap[g]? = some o := ⟨w5.heap[g], by simp [hg]⟩
      show wr.heap[g]? = w5.heap[g]?
      rw [ho]
      exact ext_heap HXt.out ((setRow_other W6 C g _ (by omega)).trans (ext_heap H56.out ho))
     have cz : wr.cell? ⟨C, t, none⟩ = some (V8 z) := by
      rw [cell_of_row wr C t _ _ _ HCt.out]; simp [hz]
     have hf : wr.frozen? ⟨C, t, none⟩ = false := by simp [World.frozen?, HCt.out]
     have HX1 := kp (show ((xorTo r0 PP (16 * j) t).map V8).set t (V8 (z ^^^ y)) = (xorTo r0 PP (16 * j) (t + 1)).map V8 by
      rw [xorTo, ← List.map_set]; simp [List.getD, hz, hy])
     clear hy hz cg
     go_wp2_with fail
     (refine region_f 12 (by kernel_rfl) (by kernel_rfl) (by kernel_rfl) (by kernel_rfl) (by decide) (Nat.le_of_ble_eq_true (by kernel_rfl)) ?_)
     apply Exists.intro
     refine ⟨fun xz3 => ?_, fun xq3 => ?_⟩
     ·simp only [List.take_succ_cons, List.take_zero]
      unfold Cx
      repeat (go_big_quiet_step (fail))
      exact wpQuiet_nil rfl
     simp only [List.drop_succ_cons, List.drop_zero]
     go_wp2_with fail
     go_roundw
     case rel => exact ⟨t + 1, by omega, by go_num, kp ((ext_setCell hCW HXt.out HCt.out HX1.out).trans (Ext.more _ _))⟩
     case measure => simp [intOf]; omega
    ·obtain rfl : t = 16 := by omega
     have HXL := kp (show (xorTo r0 PP (16 * j) 16).length = 16 by rw [xorTo_len, HRL.out])
     have HE1 := kp (HEN.out (xorTo r0 PP (16 * j) 16) HXL.out)
     rw [← HR1.out] at HE1
     have HB2 := kp (sizeB _ HXL.out)
     have HB3 := kp (sizeB _ (rchTo_len ks ch0 PP HEL.out (j + 1)))
     have HB4 := kp (show ((xorTo r0 PP (16 * j) 16).map V8).toArray.size = ((rchTo ks ch0 PP (j + 1)).map V8).toArray.size by simp [HXL.out, rchTo_len ks ch0 PP HEL.out])
     have HKt := kp (ext_heap HXt.out ((setRow_other W6 C w.heap.size _ (by omega)).trans HK6.out))
     obtain ⟨r1, hr1⟩ : ∃ r1, rchTo ks ch0 PP (j + 1) = r1 := ⟨_, rfl⟩
     rw [hr1] at HE1 HB3 HB4
     have HR := kp hr1
     clear hr1 HR1
     generalize xorTo r0 PP (16 * j) 16 = xo at *
     go_wp2_with (first | ((with_reducible refine isLd 25 ?_); (with_reducible refine wpList_load_row rfl 25 _ rfl (w.heap.size) rfl 25 ((ks.map V8).toArray) (0, 0) _ (HKt.out) Try.underlying25 rfl (HK.out) ?_); simp only [pA]) | ((with_reducible refine isLd 115 ?_); (with_reducible refine wpList_load_row rfl 115 _ rfl (C) rfl 115 ((xo.map V8).toArray) (0, 0) _ (HCt.out) Try.underlying115 rfl (HB2.out) ?_); simp only [pA]) | ((with_reducible refine isSt 115 ?_); with_reducible refine wpList_st_row rfl rfl 115 _ _ rfl (C) ((r1.map V8).toArray) rfl rfl 115 ((xo.map V8).toArray) (hp_more HCt.out) (HB3.out) (HB4.out) (all_V8 _) (by rewrite [setRow_more _ _ _ _ (by first | assumption | (simp <;> omega))]; rfl) ?_) | (go_at_call 75; refine (HE1.out _).mono ?_; rintro e w' ⟨rfl, xe, rfl⟩))
     go_roundw
     case rel => exact ⟨j + 1, by omega, by go_num, kp (by rw [HR.out]; exact (ext_setRow3 hCW HXt.out).trans (Ext.more _ _))⟩
     case measure => simp [intOf]; omega
  ·obtain rfl : j = m := by omega
   have hge : ¬ ((16 * j : Nat) : Int) < ((16 * j : Nat) : Int) := by omega
   have HZL := kp (rchTo_len ks ch0 PP HEL.out j)
   have HZ8 := kp (show (rchTo ks ch0 PP j).take 8 = cf by rw [HRC.out, HC.out])
   have HCz := kp (ext_heap HXj.out (setRow_heap W6 C _ ((rchTo ks ch0 PP j).map V8).toArray _ _ HC6.out))
   have HOz := kp (ext_heap HXj.out ((setRow_other W6 C (w.heap.size + 1 + 1) _ (by omega)).trans HO6.out))
   have HDz := kp (ext_heap HXj.out ((setRow_other W6 C (w.heap.size + 1 + 1 + 1) _ (by omega)).trans HD6.out))
   have HBz := kp (below_next HX6.out.below (Nat.le_refl _) (show w.heap.size ≤ C by omega) HXj.out)
   generalize rchTo ks ch0 PP j = Z at *
   clear HXj HRC HS6 HPL
   obtain ⟨W7, hW7⟩ : ∃ W7, W7 = wr := ⟨_, rfl⟩
   have hD7 : w.heap.size + 1 + 1 + 1 < W7.heap.size := by have := HDz.out; rw [Array.getElem?_eq_some_iff] at this; rw [hW7]; exact this.1
   rw [← hW7] at HCz HOz HDz HBz ⊢
   clear hW7
   go_wp2_with fail
   go_loopw [15] (fun i wr => ∃ k : Nat, k ≤ 8 ∧ i = .int .i64 k ∧ Kp (Ext (W7.setRow (w.heap.size + 1 + 1 + 1) ((eightTo Z k).map V8).toArray) wr)) (fun i _ => 8 - (intOf i).toNat)
   case atStart => exact ⟨0, by omega, rfl, kp (by rw [show ((eightTo Z 0).map V8).toArray = z8 by simp [eightTo, z8], setRow_same HDz.out]; exact Ext.refl _)⟩
   case round =>
    obtain ⟨k, hk, rfl, HXk⟩ := hrel
    have HDk := kp (ext_heap HXk.out (setRow_heap W7 _ _ ((eightTo Z k).map V8).toArray _ _ HDz.out))
    have hDr : w.heap.size + 1 + 1 + 1 < wr.heap.size := by have := HDk.out; rw [Array.getElem?_eq_some_iff] at this; exact this.1
    by_cases hklt : k < 8
    ·obtain ⟨y, hy⟩ : ∃ y, Z[k]? = some y := ⟨Z[k]'(by rw [HZL.out]; omega), by simp⟩
     obtain ⟨z, hz⟩ : ∃ z, (eightTo Z k)[k]? = some z := ⟨(eightTo Z k)[k]'(by rw [eightTo_len Z (by rw [HZL.out]; omega) k hk]; omega), by simp⟩
     have HCk := kp (ext_heap HXk.out ((setRow_other W7 _ C _ (by omega)).trans HCz.out))
     have hCk : C < wr.heap.size := by have := HCk.out; rw [Array.getElem?_eq_some_iff] at this; exact this.1
     have cy : wr.cell? ⟨C, k, none⟩ = some (V8 y) := by
      rw [cell_of_row wr C k _ _ _ HCk.out]; simp [hy]
     have cz : wr.cell? ⟨w.heap.size + 1 + 1 + 1, k, none⟩ = some (V8 z) := by
      rw [cell_of_row wr _ k _ _ _ HDk.out]; simp [hz]
     have hf : wr.frozen? ⟨w.heap.size + 1 + 1 + 1, k, none⟩ = false := by simp [World.frozen?, HDk.out]
     have HX1 := kp (show ((eightTo Z k).map V8).set k (V8 y) = (eightTo Z (k + 1)).map V8 by
      rw [← List.map_set, eightTo_step Z (by rw [HZL.out]; omega) k hklt y hy])
     clear hy hz
     go_wp2_with fail
     go_roundw
     case rel => exact ⟨k + 1, by omega, by go_num, kp (ext_setCell hD7 HXk.out HDk.out HX1.out)⟩
     case measure => simp [intOf]; omega
    ·obtain rfl : k = 8 := by omega
     have HEE := kp (show eightTo Z 8 = cf by rw [← HZ8.out]; simp [eightTo])
     rw [HEE.out] at HDk HXk
     have HOk := kp (ext_heap HXk.out ((setRow_other W7 _ (w.heap.size + 1 + 1) _ (by omega)).trans HOz.out))
     have HB8 := kp (size8 cf HCL.out)
     have HZ9 := kp (z8_size cf HCL.out)
     have hOr : w.heap.size + 1 + 1 < wr.heap.size := by omega
     have HBk := kp (below_next HBz.out (Nat.le_refl _) (show w.heap.size ≤ w.heap.size + 1 + 1 + 1 by omega) HXk.out)
     clear HXk
     go_wp2_with (first | ((with_reducible refine isLd 131 ?_); (with_reducible refine wpList_load_row rfl 131 _ rfl (w.heap.size + 1 + 1 + 1) rfl 131 ((cf.map V8).toArray) (0, 0) _ (HDk.out) Try.underlying131 rfl (HB8.out) ?_); simp only [pA]) | ((with_reducible refine isSt 131 ?_); with_reducible refine wpList_st_row rfl rfl 131 _ _ rfl (w.heap.size + 1 + 1) ((cf.map V8).toArray) rfl rfl 131 (z8) (HOk.out) (HB8.out) (HZ9.out) (all_V8 _) rfl ?_))
     exact ret_row2 Try.results81 (w.heap.size + 1 + 1) 131 (cf.map V8).toArray (0, 0) _ rfl (.int .i64 0) rfl (setRow_heap wr _ _ _ _ _ HOk.out) Try.underlying131 rfl HB8.out rfl ⟨rfl, Ext.of_below (below_next HBk.out (Nat.le_refl _) (by omega) (Ext.refl _))⟩
end Go.Proofs.Ytibncchobkaaiaa
