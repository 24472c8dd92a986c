/- Texts of this proof, put together: Code, SealB. -/
import Derived.Test.YtibncchobkaaiaaF7
import Derived.Laws.EntriesVeiled
import Derived.Laws.BytesArg
import Derived.Test.YtibncchobkaaiaaF1
namespace Go.Proofs.Ytibncchobkaaiaa
open Go.RowKit Go.Shelf
attribute [local go_sem] Oper.semAt_some
def chainTo (ks : List (BitVec 8)) (ch : List (BitVec 8)) (bs : List Blk) : List (BitVec 8) := bs.foldl (fun c x => encF ks (mixF c x.1)) ch
theorem chainTo_snoc (ks ch : List (BitVec 8)) (bs : List Blk) (x : Blk) : chainTo ks ch (bs ++ [x]) = encF ks (mixF (chainTo ks ch bs) x.1) := by simp [chainTo]
theorem chainTo_len (ks ch : List (BitVec 8)) (h : ch.length = 16) (bs : List Blk) : (chainTo ks ch bs).length = 16 := by
 unfold chainTo
 induction bs generalizing ch with
 | nil => exact h
 | cons x bs ih => exact ih _ (encF_len _ _)
def headF (ad : List (BitVec 8)) : List (BitVec 8) := [BitVec.ofInt 8 ad.length, BitVec.ofInt 8 ((ad.length : Int) / 256)] ++ ad
def codeF (ks nc ad body : List (BitVec 8)) : List (BitVec 8) := (chainTo ks (encF ks (markF 2 nc body.length)) (blocksAll [headF ad, body])).take 8
theorem codeF_len (ks nc ad body : List (BitVec 8)) : (codeF ks nc ad body).length = 8 := by
 unfold codeF; rw [List.length_take, chainTo_len _ _ (encF_len _ _)]; rfl
theorem size131 : (Try.prog.info? 131).map (·.size) = some 8 := by kernel_rfl
theorem size8 (l : List (BitVec 8)) (h : l.length = 8) : (Try.prog.info? 131).map (·.size) = some (l.map V8).toArray.size := by rw [size131]; simp [h]
def z8 : Array Value := ((List.replicate 8 (0 : BitVec 8)).map V8).toArray
theorem z8_size (l : List (BitVec 8)) (h : l.length = 8) : z8.size = (l.map V8).toArray.size := by simp [z8, h]
theorem owns_two (w : World) (base : Nat) (hb : base ≤ w.heap.size) (a b : BitVec 8) : (w.alloc (.cells #[V8 a, V8 b] 5)).ownsRow base 5 1 (.slice (some ⟨w.heap.size, 0, none⟩) 2 2) ([a, b] : List (BitVec 8)).length (([a, b] : List (BitVec 8)).map V8) :=
 ⟨rfl, .inr ⟨w.heap.size, 2, _, rfl, hb, hp_new _ _, Nat.le_refl _, by decide, rfl, rfl⟩⟩
theorem row_own {β : Type} (B g : Nat) (t : TypeId) (f : β → Array Value) : OwnFrom B (fun s W => W.heap[g]? = some (.cells (f s) t (0, 0))) := fun s X Y row hs hg hr => by
 refine (hg.block g (Array.getElem?_eq_some_iff.1 hs).1 fun e => ?_).trans hs
 obtain ⟨_, o, ho, hc⟩ := hr g e.symm
 rw [hs] at ho; cases ho; cases hc
theorem keeps_next {W W' : World} {C : Nat} {cs old : Array Value} {t : TypeId} (hC : W.heap[C]? = some (.cells old t (0, 0))) (h : Ext (W.setRow C cs) W') : KeepsOthers W W' := by
 refine ⟨by have := h.size; rw [setRow_size] at this; exact this, fun k o hk ho => ?_⟩
 have hne : k ≠ C := fun e => by subst e; rw [hC] at hk; cases hk; cases ho
 exact ext_heap h ((setRow_other W C k cs hne).trans hk)
theorem other_next {W W' : World} {C k : Nat} {cs : Array Value} {o : Obj} (hne : k ≠ C) (hk : W.heap[k]? = some o) (h : Ext (W.setRow C cs) W') : W'.heap[k]? = some o :=
 ext_heap h ((setRow_other W C k cs hne).trans hk)
theorem below_next {w W W' : World} {B C : Nat} {cs : Array Value} (hB : Below B w W) (hn : B ≤ w.heap.size) (hC : B ≤ C) (h : Ext (W.setRow C cs) W') : Below B w W' := by
 have h1 : Below B w (W.setRow C cs) := hB.trans ⟨rfl, rfl, rfl, by simp [World.setRow], fun k hk => setRow_other W C k cs (by omega)⟩
 exact h1.trans (h.below.mono (by rw [setRow_size]; have := hB.size; omega))
set_option maxHeartbeats 800000 in
theorem blocks_any (b n c : Nat) (w : World) : Calls Try.prog 96 #[.slice (some ⟨b, 0, none⟩) n c] w fun e w' => e = .returned (.func (.func 110) #[] #[.pointer (some ⟨w.heap.size, 0, none⟩)]) ∧ w' = w.alloc (.cells #[.slice (some ⟨b, 0, none⟩) n c] 34) := by
 go_enter Try.func96, Try.ntmps96
 go_wp2_with fail
 go_ret
 exact ⟨rfl, rfl⟩
theorem SlB.blk {w : World} {b off len cap : Nat} {l : List (BitVec 8)} (h : SlB w (.slice (some ⟨b, off, none⟩) len cap) l) (h0 : 0 < len) : b < w.heap.size := by
 rcases h with ⟨rfl, h2 | ⟨a, c, h2⟩⟩ | ⟨b', off', cap', h2, hb, hc⟩
 ·cases h2
 ·cases h2; omega
 ·cases h2; exact hb
set_option maxHeartbeats 6400000 in
set_option maxRecDepth 10000 in
theorem code_ok (ks nc : List (BitVec 8)) (hk : ks.length = 16) (hl : nc.length = 13) (va vb : Value) (ad body : List (BitVec 8)) (ha : ad.length ≤ 256) (hb : body.length ≤ 4096) (w : World) (hva : SlB w va ad) (hvb : SlB w vb body) (hcb : CapOk vb) :
  Calls Try.prog 76 #[.agg (ks.map V8).toArray, .agg (nc.map V8).toArray, va, vb] w fun e w' => e = .returned (.tuple #[.agg ((codeF ks nc ad body).map V8).toArray, .int .i64 0]) ∧ Ext w w' := by
 obtain ⟨iu, hiu, hu⟩ := info_iu
 have HIU := kp hiu
 have HU := kp hu
 obtain ⟨aa, ca, rfl⟩ := hva.form
 obtain ⟨ab, cb, rfl⟩ := hvb.form
 have HVA := kp hva
 have HVB := kp hvb
 have HCB := kp hcb
 have HK := kp (sizeK ks hk)
 have HKL := kp hk
 have HN := kp (sizeN nc hl)
 have HM := kp (fun w => marked_any 2 nc hl (body.length : Int) w)
 have HE := kp (fun w => encrypt_any ks (markF 2 nc (body.length : Int)) hk (markF_len 2 nc hl _) w)
 have HES := kp (sizeB _ (encF_len ks (markF 2 nc (body.length : Int))))
 have HEZ := kp (z16_size _ (encF_len ks (markF 2 nc (body.length : Int))))
 have HEL := kp (encF_len ks (markF 2 nc (body.length : Int)))
 have HC := kp (show codeF ks nc ad body = (chainTo ks (encF ks (markF 2 nc (body.length : Int))) (blocksAll [headF ad, body])).take 8 from rfl)
 generalize markF 2 nc (body.length : Int) = M at *
 generalize encF ks M = ch0 at *
 have h1 : ¬ 256 < (ad.length : Int) := by omega
 have h2 : ¬ 4096 < (body.length : Int) := by omega
 have HLE := kp (show ([BitVec.ofInt 8 ad.length, BitVec.ofInt 8 ((ad.length : Int) / 256)] : List (BitVec 8)).length + ad.length ≤ 1000000 by simp; omega)
 clear hiu hu hva hvb hcb hk hl
 refine (callsIn_wide (n := 3)).1 (callsIn_of_wp_marks (F := Fence.wide) (n := 3) Try.func76 rfl trivial ((wpIn_wide (n := 3)).2 ?_) rfl)
 simp only [Try.ntmps76, List.size_toArray, List.length_cons, List.length_nil, Nat.reduceAdd, Nat.reduceSub, Array.replicate_succ, Array.replicate_zero, List.push_toArray, List.append_toArray, List.nil_append, List.cons_append]
 generalize h4 : (Code.region 4 _ _ : Code) = R4
 generalize h5 : (Code.region 5 _ _ : Code) = R5
 generalize h6 : (Code.region 6 _ _ : Code) = R6
 generalize hrf : (Code.rangeFunc _ _ _ _ : Code) = RF
 go_wp2_with fail
 (refine region_a 7 6 10 (.cells z16 115) (by kernel_rfl) (by kernel_rfl) (by kernel_rfl) (by kernel_rfl) (by intro o ho; cases ho; exact ⟨rfl, rfl, by simp, fun _ _ => by kernel_rfl⟩) (by decide) ?_)
 apply Exists.intro
 refine ⟨fun xz1 => ?_, fun xm1 xq1 => ?_⟩
 ·simp only [List.take_succ_cons, List.take_zero, List.eraseIdx_cons_succ, List.eraseIdx_cons_zero]
  unfold Cx
  (((with_reducible show wpQuiet _ _ _ _ (Oper.mk _ (Op.load 25 _) _ _ _ _ :: _) _); go_big_quiet_want; with_reducible refine quiet_load_row 25 _ rfl (w.heap.size) rfl 25 ((ks.map V8).toArray) (0, 0) _ (fun _ hw => by obtain ⟨xx, rfl⟩ := hw; exact hp_more (hp_alloc (hp_alloc (hp_new _ _)))) Try.underlying25 rfl (HK.out) ?_; simp only [pA]; go_big_quiet_on); ((with_reducible show wpQuiet _ _ _ _ (Oper.mk _ (Op.load 107 _) _ _ _ _ :: _) _); go_big_quiet_want; with_reducible refine quiet_load_row 107 _ rfl (w.heap.size + 1) rfl 107 ((nc.map V8).toArray) (0, 0) _ (fun _ hw => by obtain ⟨xx, rfl⟩ := hw; exact hp_more (hp_alloc (hp_at _ _ _ (by simp)))) Try.underlying107 rfl (HN.out) ?_; simp only [pA]; go_big_quiet_on); go_big_quiet_step (fail); go_big_quiet_step (fail); go_big_quiet_step (exact Calls.cx_of (HM.out _)); go_big_quiet_step (exact Calls.cx_of (HE.out _)))
  exact wpQuiet_nil rfl
 simp only [List.drop_succ_cons, List.drop_zero, Act.put, List.setIfInBounds_toArray, List.set_cons_zero, List.set_cons_succ]
 try simp only [World.size_alloc]
 try simp only [more_size]
 go_wp2_with ((with_reducible refine isSt 115 ?_); with_reducible refine wpList_st_row rfl rfl 115 _ _ rfl (w.heap.size + 1 + 1 + 1 + xm1.blocks.size) ((ch0.map V8).toArray) rfl rfl 115 (z16) (hp_more (hp_at _ _ _ (by simp))) (HES.out) (HEZ.out) (all_V8 _) (by rewrite [setRow_more _ _ _ _ (by first | assumption | (simp <;> omega)), setRow_at _ _ _ _ _ _ (by simp <;> omega)]; rfl) ?_)
 have hx4 : Ext w (more ((more (((w.alloc (.cells (ks.map V8).toArray 25)).alloc (.cells (nc.map V8).toArray 107)).alloc (.cells z8 131)) xm1).alloc (.cells (ch0.map V8).toArray 115)) xq1) := ((((Ext.alloc _ _).trans (Ext.alloc _ _)).trans (Ext.alloc _ _)).trans (Ext.more _ _)).trans ((Ext.alloc _ _).trans (Ext.more _ _))
 have hk4 : (more ((more (((w.alloc (.cells (ks.map V8).toArray 25)).alloc (.cells (nc.map V8).toArray 107)).alloc (.cells z8 131)) xm1).alloc (.cells (ch0.map V8).toArray 115)) xq1).heap[w.heap.size]? = some (.cells (ks.map V8).toArray 25 (0, 0)) := hp_more (hp_alloc (hp_more (hp_alloc (hp_alloc (hp_new _ _)))))
 have ho4 : (more ((more (((w.alloc (.cells (ks.map V8).toArray 25)).alloc (.cells (nc.map V8).toArray 107)).alloc (.cells z8 131)) xm1).alloc (.cells (ch0.map V8).toArray 115)) xq1).heap[w.heap.size + 1 + 1]? = some (.cells z8 131 (0, 0)) := hp_more (hp_alloc (hp_more (hp_at _ _ _ (by simp))))
 have hc4 : (more ((more (((w.alloc (.cells (ks.map V8).toArray 25)).alloc (.cells (nc.map V8).toArray 107)).alloc (.cells z8 131)) xm1).alloc (.cells (ch0.map V8).toArray 115)) xq1).heap[w.heap.size + 1 + 1 + 1 + xm1.blocks.size]? = some (.cells (ch0.map V8).toArray 115 (0, 0)) := hp_more (hp_at _ _ _ (by simp))
 rw [show (#[Value.int .u8 0, .int .u8 0, .int .u8 0, .int .u8 0, .int .u8 0, .int .u8 0, .int .u8 0, .int .u8 0] : Array Value) = z8 from rfl]
 generalize more ((more (((w.alloc (.cells (ks.map V8).toArray 25)).alloc (.cells (nc.map V8).toArray 107)).alloc (.cells z8 131)) xm1).alloc (.cells (ch0.map V8).toArray 115)) xq1 = W4 at *
 obtain ⟨C, hC⟩ : ∃ C, C = w.heap.size + 1 + 1 + 1 + xm1.blocks.size := ⟨_, rfl⟩
 rw [← hC] at hc4 ⊢
 have hCw : w.heap.size + 3 ≤ C := by omega
 have hCW : C < W4.heap.size := by rw [Array.getElem?_eq_some_iff] at hc4; exact hc4.1
 have HX4 := kp hx4
 have HK4 := kp hk4
 have HO4 := kp ho4
 have HC4 := kp hc4
 clear hx4 hk4 ho4 hc4 hC
 subst h4
 go_wp2_with fail
 obtain ⟨fv, hfv⟩ : ∃ fv, fv = Value.func (Fn.func 95) #[] #[.pointer (some ⟨C, 0, none⟩), .pointer (some ⟨w.heap.size, 0, none⟩)] := ⟨_, rfl⟩
 rw [← hfv]
 have HFV := kp hfv
 clear hfv
 subst h5
 have HWA := kp (V8_ofInt (ad.length : Int))
 have HWB := kp (show V8 (BitVec.ofInt 8 ((ad.length : Int) / 256)) = .int .u8 ((ad.length : Int) / 256) by rw [V8_ofInt]; congr 1; omega)
 have HO5 := kp (owns_two (W4.alloc (.cells #[fv] 153)) W4.heap.size (by simp) (BitVec.ofInt 8 ad.length) (BitVec.ofInt 8 ((ad.length : Int) / 256)))
 rw [HWA.out, HWB.out] at HO5
 simp only [World.size_alloc] at HO5
 have HVA5 := kp (HVA.out.ext ((HX4.out.trans (Ext.alloc _ (.cells #[fv] 153))).trans (Ext.alloc _ (.cells #[.int .u8 ((ad.length : Int) % 256), .int .u8 ((ad.length : Int) / 256)] 5))))
 obtain ⟨H, hH⟩ : ∃ H, H = headF ad := ⟨_, rfl⟩
 have HH := kp hH
 have HHL := kp (show H.length ≤ 258 by rw [hH]; simp [headF]; omega)
 clear hH
 go_wp2_with (at_builtin; refine wpList_append_SlB rfl _ _ 33 rfl W4.heap.size 5 iu Try.underlying33 HIU.out HU.out.1 HU.out.2.1 HU.out.2.2 (.slice (some ⟨W4.heap.size + 1, 0, none⟩) 2 2) [BitVec.ofInt 8 ad.length, BitVec.ofInt 8 ((ad.length : Int) / 256)] rfl HO5.out _ ad rfl HVA5.out HLE.out (by simp <;> omega) ?_; intro v5 w5 ho5 hg5; rw [show [BitVec.ofInt 8 ad.length, BitVec.ofInt 8 ((ad.length : Int) / 256)] ++ ad = H from HH.out.symm] at ho5; obtain ⟨a5, c5, hv5⟩ := (SlB.of_owns ho5).form; have HO6 := kp ho5; have HG6 := kp hg5; clear ho5 hg5; subst hv5)
 have HX5 := kp ((Ext.alloc (W4.alloc (.cells #[fv] 153)) _).grown HG6.out (fun k hk => by cases hk; simp))
 have HX6 := kp ((Ext.alloc W4 (.cells #[fv] 153)).trans HX5.out)
 have HF6 := kp (ext_heap HX5.out (hp_new W4 (.cells #[fv] 153)))
 have HS6 := kp (show SlB w5 (.slice a5 H.length c5) H from SlB.of_owns HO6.out)
 have HB6 := kp (owns_block HO6.out)
 have HC6 := kp (owns_cap HO6.out)
 obtain ⟨n5, hn5⟩ : ∃ n5, n5 = H.length := ⟨_, rfl⟩
 rw [← hn5] at HHL HS6 HB6 HC6 ⊢
 have HN5 := kp hn5
 clear hn5 HO5 HO6 HG6 HWA HWB HLE
 subst h6
 go_wp2_with (go_at_call 96; refine (blocks_any _ _ _ _).mono ?_; rintro e w' ⟨rfl, rfl⟩)
 have HXE := kp ((Ext.alloc w5 (.cells #[.slice a5 n5 c5, .slice ab body.length cb] 33)).trans (Ext.alloc _ (.cells #[.slice (some ⟨w5.heap.size, 0, none⟩) 2 2] 34)))
 have HBS := kp (show ((w5.alloc (.cells #[.slice a5 n5 c5, .slice ab body.length cb] 33)).alloc (.cells #[.slice (some ⟨w5.heap.size, 0, none⟩) 2 2] 34)).heap[w5.heap.size]? = some (.cells [.slice a5 n5 c5, .slice ab body.length cb].toArray 33 (0, 0)) from hp_alloc (hp_new _ _))
 have HBL := kp (show ((w5.alloc (.cells #[.slice a5 n5 c5, .slice ab body.length cb] 33)).alloc (.cells #[.slice (some ⟨w5.heap.size, 0, none⟩) 2 2] 34)).heap[w5.heap.size + 1]? = some (.cells #[.slice (some ⟨w5.heap.size, 0, none⟩) 2 2] 34 (0, 0)) from hp_at _ _ _ (by simp))
 have hsz : ((w5.alloc (.cells #[.slice a5 n5 c5, .slice ab body.length cb] 33)).alloc (.cells #[.slice (some ⟨w5.heap.size, 0, none⟩) 2 2] 34)).heap.size = w5.heap.size + 2 := by simp
 generalize (w5.alloc (.cells #[.slice a5 n5 c5, .slice ab body.length cb] 33)).alloc (.cells #[.slice (some ⟨w5.heap.size, 0, none⟩) 2 2] 34) = W6 at *
 have hw45 : W4.heap.size < w5.heap.size := by have := HX5.out.size; simp at this; omega
 have HK6 := kp (ext_heap (HX6.out.trans HXE.out) HK4.out)
 have HO7 := kp (ext_heap (HX6.out.trans HXE.out) HO4.out)
 have HC7 := kp (ext_heap (HX6.out.trans HXE.out) HC4.out)
 have HF7 := kp (ext_heap HXE.out HF6.out)
 have HX7 := kp ((HX4.out.trans HX6.out).trans HXE.out)
 have HB7 := kp HX7.out.below
 have HSH := kp (show SlK C W6.heap.size W6 (.slice a5 n5 c5) H from ⟨HS6.out.ext HXE.out, fun b off len cap e h0 => by cases e; have h1 := HB6.out b rfl; have h2 := HS6.out.blk h0; omega, fun a len cap e => by cases e; exact HC6.out⟩)
 have HSB := kp (show SlK C W6.heap.size W6 (.slice ab body.length cb) body from ⟨HVB.out.ext HX7.out, fun b off len cap e h0 => by cases e; have h2 := HVB.out.blk h0; have := HX7.out.size; omega, HCB.out⟩)
 have hws : w.heap.size ≤ W6.heap.size := HX7.out.size
 clear HX5 HX6 HF6 HS6 HB6 HC6 HXE HX4 HK4 HO4 HC4 HVA5
 subst hrf
 refine (wpIn_wide (n := 3)).1 ?_
 refine wpIn_rangeFunc_ownH (F := Fence.wide) rfl (by decide) (gf := 110) (lb := #[.pointer (some ⟨w5.heap.size + 1, 0, none⟩)]) rfl trivial (enters_of Try.func110 (by kernel_rfl) rfl)
  (blocks_stops C W6.heap.size (w5.heap.size + 1) w5.heap.size 2 [.slice a5 n5 c5, .slice ab body.length cb] [H, body] (by simp) (by intro l hl; simp at hl; rcases hl with rfl | rfl; exact (by have := HHL.out; have := HN5.out; omega); omega) W6 (Nat.le_refl _) HBL.out (by omega) (by omega) HBS.out (by omega) (by omega) ⟨rfl, fun j v l hv hl => by
   match j with
   | 0 => cases hv; cases hl; exact HSH.out
   | 1 => cases hv; cases hl; exact HSB.out
   | n + 2 => simp at hv⟩)
  KpB.trans (KpB.put (Nat.le_refl _)) (Below.refl _ _) (fun _ => rfl)
  (fun pre W => ((W.heap[C]? = some (.cells ((chainTo ks ch0 pre).map V8).toArray 115 (0, 0)) ∧ W.heap[w.heap.size]? = some (.cells (ks.map V8).toArray 25 (0, 0))) ∧ (W.heap[w.heap.size + 1 + 1]? = some (.cells z8 131 (0, 0)) ∧ W.heap[W4.heap.size]? = some (.cells #[fv] 153 (0, 0)))) ∧ (Below w.heap.size w W ∧ W6.heap.size ≤ W.heap.size))
  (fun _ _ _ => False)
  (OwnFrom.and (OwnFrom.and (OwnFrom.and (row_own _ _ _ _) (row_own _ _ _ _)) (OwnFrom.and (row_own _ _ _ _) (row_own _ _ _ _))) (OwnFrom.and (ownFrom_below (Nat.le_refl _) hws) (fun _ _ _ _ hs hg _ => Nat.le_trans hs hg.size)))
  (fun _ _ _ _ _ hs _ _ => hs)
  ⟨⟨⟨HC7.out, HK6.out⟩, HO7.out, HF7.out⟩, HB7.out, Nat.le_refl _⟩
  (fun x a' W => ∃ Bx, W6.heap.size ≤ Bx ∧ W.heap[Bx]? = some (.cells (x.1.map V8).toArray 115 (0, 0)) ∧ a' = { tmps := #[.agg (ks.map V8).toArray, .agg (nc.map V8).toArray, .slice aa ad.length ca, .slice ab body.length cb, .pointer (some ⟨w.heap.size, 0, none⟩), .pointer (some ⟨w.heap.size + 1, 0, none⟩), undef, undef, .pointer (some ⟨w.heap.size + 1 + 1, 0, none⟩), .int .i64 0, .pointer (some ⟨C, 0, none⟩), .pointer (some ⟨W4.heap.size, 0, none⟩), .slice a5 n5 c5, .pointer (some ⟨Bx, 0, none⟩), .slice aa ad.length ca, .int .i64 ad.length, .bool false, .bool false, .slice ab body.length cb, .int .i64 body.length, .bool false, .bool false, undef, .agg (ks.map V8).toArray, .agg (nc.map V8).toArray, .slice ab body.length cb, .int .i64 body.length, .agg (M.map V8).toArray, .agg (ch0.map V8).toArray, fv, .slice aa ad.length ca, .int .i64 ad.length, .int .u8 ((ad.length : Int) % 256), .slice aa ad.length ca, .int .i64 ad.length, .int .i64 ((ad.length : Int) / 256), .int .u8 ((ad.length : Int) / 256), .slice (some ⟨W4.heap.size + 1, 0, none⟩) 2 2, .slice aa ad.length ca, .slice a5 n5 c5, .slice a5 n5 c5, .slice ab body.length cb, .slice (some ⟨w5.heap.size, 0, none⟩) 2 2, .func (.func 110) #[] #[.pointer (some ⟨w5.heap.size + 1, 0, none⟩)], .agg (x.1.map V8).toArray, undef, undef, undef, undef, undef, undef, undef], defers := [] })
  (fun x a' _ X Y row hs hg hr => by obtain ⟨Bx, h1, h2, h3⟩ := hs; exact ⟨Bx, h1, row_own W6.heap.size Bx 115 (fun (_ : Unit) => (x.1.map V8).toArray) () X Y row h2 hg hr, h3⟩)
  ?assign ?body ?done ?stop
 case assign =>
  rintro l pre x W K ⟨⟨⟨i1, i2⟩, i3, i4⟩, i5, i6⟩ hK
  have J1 := kp i1
  have J2 := kp i2
  have J3 := kp i3
  have J4 := kp i4
  have J5 := kp i5
  have HXS := kp (sizeB x.1 x.2)
  have HXZ := kp (z16_size x.1 x.2)
  have HKK := kp hK
  clear i1 i2 i3 i4 i5 hK
  simp only [encB]
  gi_wp2_with ((with_reducible show wpListIn _ _ _ _ _ (Oper.mk none (Op.store 115 _ _) _ _ _ _ :: _) _ _); refine wpListIn_st_row rfl rfl 115 _ _ rfl W.heap.size (x.1.map V8).toArray rfl rfl 115 z16 (hp_new _ _) HXS.out HXZ.out (all_V8 _) (setRow_at _ _ _ _ _ _ rfl) ?_)
  exact HKK.out _ _ ((KeepsOthers.alloc _ _).from _) (KpB.ext (Ext.alloc _ _) i6) ⟨⟨⟨hp_alloc J1.out, hp_alloc J2.out⟩, hp_alloc J3.out, hp_alloc J4.out⟩, J5.out.alloc J5.out.size _, by simp; omega⟩ ⟨W.heap.size, i6, hp_new _ _, rfl⟩
 case body =>
  rintro l pre x a' W hl ⟨r, hr⟩ ⟨⟨⟨i1, i2⟩, i3, i4⟩, i5, i6⟩ ⟨Bx, hBx, hbx, rfl⟩ hlt
  have J1 := kp i1
  have J2 := kp i2
  have J3 := kp i3
  have J4 := kp i4
  have J5 := kp i5
  have J7 := kp hbx
  have HXS := kp (sizeB x.1 x.2)
  have HCL := kp (chainTo_len ks ch0 HEL.out pre)
  have hcf : W.cell? ⟨W4.heap.size, 0, none⟩ = some (.func (.func 95) #[] #[.pointer (some ⟨C, 0, none⟩), .pointer (some ⟨w.heap.size, 0, none⟩)]) := by
   rw [cell_of_row W _ 0 _ _ _ i4, HFV.out]; rfl
  have HNX := kp (next_any ks (chainTo ks ch0 pre) x.1 HKL.out HCL.out x.2 C w.heap.size (by omega) W i1 i2)
  clear i1 i2 i3 i4 i5 hbx hr
  dsimp only
  gi_wp2_with ((with_reducible show wpListIn _ _ _ _ _ (Oper.mk _ (Op.load 115 _) _ _ _ _ :: _) _ _); go_loud (refine wpListIn_load_row rfl 115 _ rfl Bx rfl 115 (x.1.map V8).toArray (0, 0) _ J7.out Try.underlying115 rfl HXS.out ?_))
  refine ⟨trivial, ?_⟩
  refine (CallsIn.inRound l (callsIn_wide.2 HNX.out)).mono ?_
  rintro e w9 ⟨rfl, hx9⟩
  have HX9 := kp hx9
  clear hx9
  gi_wp2_with fail
  exact ⟨(keeps_next J1.out HX9.out).from _, (KpB.setRow W _).trans (KpB.ext HX9.out (by rw [setRow_size]; exact i6)), ⟨⟨by rw [chainTo_snoc]; exact ext_heap HX9.out (setRow_heap W C _ _ _ _ J1.out), other_next (by omega) J2.out HX9.out⟩, other_next (by omega) J3.out HX9.out, other_next (by omega) J4.out HX9.out⟩, below_next J5.out (Nat.le_refl _) (by omega) HX9.out, by have := HX9.out.size; rw [setRow_size] at this; omega⟩
 case done =>
  rintro D zs W hD rfl ⟨⟨⟨i1, i2⟩, i3, i4⟩, i5, i6⟩ hK
  have J1 := kp i1
  have J3 := kp i3
  have J5 := kp i5
  have HKD := kp hK
  have HCF := kp (show (chainTo ks ch0 (blocksAll [H, body])).take 8 = codeF ks nc ad body by rw [HC.out, HH.out])
  have HCL := kp (chainTo_len ks ch0 HEL.out (blocksAll [H, body]))
  clear i1 i2 i3 i4 i5 hK
  generalize chainTo ks ch0 (blocksAll [H, body]) = Z at *
  dsimp only
  go_wp2_with fail
  have hDw : w.heap.size + 1 + 1 < W6.heap.size := by omega
  have HNW := kp (show ((List.replicate 8 (0 : BitVec 8)).map V8).take 0 ++ ((Z.map V8).take 8 ++ ((List.replicate 8 (0 : BitVec 8)).map V8).drop (0 + 8)) = (codeF ks nc ad body).map V8 by
   rw [← HCF.out, List.map_take]; simp)
  have HSZ := kp (size8 _ (codeF_len ks nc ad body))
  have HZZ := kp (z8_size _ (codeF_len ks nc ad body))
  obtain ⟨cf, hce⟩ : ∃ cf, codeF ks nc ad body = cf := ⟨_, rfl⟩
  rw [hce] at HNW HSZ HZZ HCF
  have HCE := kp hce
  clear hce
  have h2w : w.heap.size + 1 + 1 < W.heap.size := by omega
  (refine region_f 2 (by kernel_rfl) (by kernel_rfl) (by kernel_rfl) (by kernel_rfl) (by decide) (Nat.le_of_ble_eq_true (by kernel_rfl)) ?_)
  apply Exists.intro
  refine ⟨fun xz2 => ?_, fun xq2 => ?_⟩
  ·simp only [List.take_succ_cons, List.take_zero]
   unfold Cx
   repeat (go_big_quiet_step (fail))
   exact wpQuiet_nil rfl
  simp only [List.drop_succ_cons, List.drop_zero]
  have HSX := kp (show SlB (more W xq2) (.slice (some ⟨C, 0, none⟩) 16 16) Z by
   have h := SlB.of_block (l := Z) (cap := 16) (hp_more (x := xq2) J1.out)
   rwa [HCL.out] at h)
  go_wp2_with (first | ((with_reducible show wpList _ _ _ (Oper.mk _ (Op.call { callee := .builtin .copy, args := _, argTypes := _ }) _ _ _ _ :: _) _ _); (refine wpList_cpS rfl _ _ 33 33 rfl 5 Try.underlying33 size5 (w.heap.size + 1 + 1) (0) (8) (8) rfl _ rfl (Z) (HSX.out) ((List.replicate 8 (0 : BitVec 8)).map V8) 131 (hp_more J3.out) (8) (by rw [HCL.out]; rfl) (by simp) (cf.map V8) (HNW.out) (by rewrite [setRow_more _ _ _ _ (by first | assumption | (simp <;> omega))]; rfl) ?_); simp only [pA]) | ((with_reducible refine isLd 131 ?_); (with_reducible refine wpList_load_row rfl 131 _ rfl (w.heap.size + 1 + 1) rfl 131 ((cf.map V8).toArray) (0, 0) _ (hp_more (setRow_heap W _ _ _ _ _ J3.out)) Try.underlying131 rfl (HSZ.out) ?_); simp only [pA]) | ((with_reducible refine isSt 131 ?_); with_reducible refine wpList_st_row rfl rfl 131 _ _ rfl (w.heap.size + 1 + 1) ((cf.map V8).toArray) rfl rfl 131 ((cf.map V8).toArray) (hp_more (setRow_heap W _ _ _ _ _ J3.out)) (HSZ.out) (rfl) (all_V8 _) (by rewrite [setRow_more _ _ _ _ (by first | assumption | (simp <;> omega)), setRow_setRow]; rfl) ?_))
  have hKD : (more (W.setRow (w.heap.size + 1 + 1) (cf.map V8).toArray) xq2).heap[D]? = some (.deferred (some [])) := hp_more ((setRow_other W _ D _ (by omega)).trans HKD.out)
  refine ⟨by simp, .inl ⟨_, _, rfl, run_takeDeferred hKD, ?_⟩⟩
  refine ⟨_, results_cell_tmp_row Try.results76 _ _ (w.heap.size + 1 + 1) 131 (cf.map V8).toArray (0, 0) _ rfl (.int .i64 0) rfl ((World.putObj_heap_other (by omega)).trans (hp_more (setRow_heap W _ _ _ _ _ J3.out))) Try.underlying131 rfl HSZ.out, by rw [HCE.out], ?_⟩
  exact Ext.of_below ((below_next J5.out (Nat.le_refl _) (by omega) (Ext.more _ _)).trans (belowK_b (w := w) (Nat.le_refl _) _ D _ _ (by omega) hKD rfl rfl))
 case stop =>
  rintro D c pre W _ _ h _
  exact h.elim
set_option maxHeartbeats 800000 in
theorem clone_any (v : Value) (l : List (BitVec 8)) (hn : l.length ≤ 100000) (w : World) (hs : SlB w v l) : Calls Try.prog 49 #[v] w (RetO l w) := by
 obtain ⟨iu, hiu, hu⟩ := info_iu
 have HIU := kp hiu
 have HU := kp hu
 obtain ⟨ad, cap, rfl⟩ := hs.form
 have HS := kp (hs.ext (Ext.alloc w (.cells #[] 5)))
 have HOE := kp (owns_empty w w.heap.size (Nat.le_refl _))
 have HLE := kp (show ([] : List (BitVec 8)).length + l.length ≤ 1000000 by simp; omega)
 have hq : ∀ (w : World) (a : Option Addr) (n c : Nat), (binOp .eql 33 (.slice a n c) (.slice none 0 0)).run Try.prog w = .ok (.bool a.isNone) w := fun w a n c => Lib.run_eql_slice_nil w 33 5 a n c 0 0 Try.underlying33
 cases ad with
 | none =>
  have hl : l = [] := by
   rcases hs with ⟨h, _⟩ | ⟨b, off, c, h, _⟩
   ·exact h
   ·cases h
  obtain rfl := hs.nil_cap
  subst hl
  clear hiu hu hs
  go_enter Try.func49, Try.ntmps49
  go_wp2_with fail
  go_ret
  exact ⟨_, rfl, owns_nil _ _ _, Ext.refl _⟩
 | some a =>
  clear hiu hu hs
  go_enter Try.func49, Try.ntmps49
  go_wp2_with (at_builtin; refine wpList_append_SlB rfl _ _ 33 rfl w.heap.size 5 iu Try.underlying33 HIU.out HU.out.1 HU.out.2.1 HU.out.2.2 _ _ rfl HOE.out _ l rfl HS.out HLE.out (by simp) ?_; intro v2 w2 ho2 hg2)
  go_ret
  exact ⟨v2, rfl, by simpa using ho2, (Ext.alloc _ _).grown hg2 (fun q hq => owns_block HOE.out q hq)⟩
theorem strOf_eq (la lb : List (BitVec 8)) : ((strOfNums (la.map wI)).toList == (strOfNums (lb.map wI)).toList) = (la == lb) := by
 have key : ∀ (l : List (BitVec 8)), (l.map wI).map (fun n => UInt8.ofNat n.toNat) = l.map (fun x => UInt8.ofBitVec x) := fun l => by
  rw [List.map_map]
  refine List.map_congr_left fun x _ => ?_
  show UInt8.ofNat (wI x).toNat = _
  unfold wI
  rw [Int.toNat_natCast]
  apply UInt8.eq_of_toBitVec_eq
  simp
 rw [Bool.eq_iff_iff, beq_iff_eq, beq_iff_eq, ByteArray.toList_eq, ByteArray.toList_eq, strOfNums_data, strOfNums_data, key, key]
 constructor
 ·intro h
  exact List.map_inj_right (fun a b e => congrArg UInt8.toBitVec e) |>.1 h
 ·rintro rfl; rfl
set_option maxHeartbeats 800000 in
theorem equal_any (ba oa na ca bb ob nb cb : Nat) (la lb : List (BitVec 8)) (w : World) (ha : SlB w (.slice (some ⟨ba, oa, none⟩) na ca) la) (hb : SlB w (.slice (some ⟨bb, ob, none⟩) nb cb) lb) :
  Calls Try.prog 50 #[.slice (some ⟨ba, oa, none⟩) na ca, .slice (some ⟨bb, ob, none⟩) nb cb] w fun e w' => e = .returned (.bool (la == lb)) ∧ w' = w := by
 have conv : ∀ (b o n c : Nat) (l : List (BitVec 8)), SlB w (.slice (some ⟨b, o, none⟩) n c) l → (convert 33 9 (.slice (some ⟨b, o, none⟩) n c)).run Try.prog w = .ok (.string (strOfNums (l.map wI))) w := fun b o n c l h => by
  obtain ⟨_, _, e⟩ := h.form
  cases e
  refine run_convert_bytes_arg w 33 5 Try.underlying33 Try.underlying5 b o l.length c (l.map wI) (by simp) (fun i hi => ?_) 9 Try.underlying9
  obtain ⟨b', o', e2, _, hc⟩ := h.at i l[i] (by simp)
  cases e2
  rw [hc]; simp [hi]
 have c1 := conv _ _ _ _ _ ha
 have c2 := conv _ _ _ _ _ hb
 have HE := kp (strOf_eq la lb)
 clear conv ha hb
 go_enter Try.func50, Try.ntmps50
 go_wp2_with fail
 go_ret
 exact ⟨ret_bool HE.out, rfl⟩
def cryptTo (ks nc l : List (BitVec 8)) : Nat → List (BitVec 8)
 | 0 => l
 | j + 1 => (cryptTo ks nc l j).take (16 * j) ++ mixF ((cryptTo ks nc l j).drop (16 * j)) (streamF ks nc (1 + (j : Int)))
theorem cryptTo_len (ks nc l : List (BitVec 8)) : ∀ j, (cryptTo ks nc l j).length = l.length
 | 0 => rfl
 | j + 1 => by
  have ih := cryptTo_len ks nc l j
  rw [cryptTo, List.length_append, mixF_len, List.length_take, List.length_drop, ih]; omega
def cryptF (ks nc l : List (BitVec 8)) : List (BitVec 8) := cryptTo ks nc l ((l.length + 15) / 16)
theorem cryptF_len (ks nc l : List (BitVec 8)) : (cryptF ks nc l).length = l.length := cryptTo_len ks nc l _
theorem owns_len {w : World} {base E n : Nat} {v : Value} {xs : List Value} (h : w.ownsRow base E 1 v n xs) : xs.length = n := by have := h.1; omega
theorem owns_setRow {w : World} {base E g n cap : Nat} {cur : Array Value} {xs ys : List Value} (hb : base ≤ g) (hg : w.heap[g]? = some (.cells cur E (0, 0))) (h1 : n ≤ cap) (h2 : cap ≤ maxLen) (h3 : cur.size = cap * 1) (hl : xs.length = n) (he : ys = cur.toList.drop n) :
  (w.setRow g (xs ++ ys).toArray).ownsRow base E 1 (.slice (some ⟨g, 0, none⟩) n cap) n xs := by
 refine ⟨by omega, .inr ⟨g, cap, (xs ++ ys).toArray, rfl, hb, setRow_heap w g _ _ E (0, 0) hg, h1, h2, ?_, ?_⟩⟩
 ·subst he; simp at h3 ⊢; omega
 ·rw [Nat.mul_one]; show (xs ++ ys).take n = xs; rw [← hl, List.take_left]
theorem grown_setRow {w w0 : World} {g : Nat} {cs : Array Value} (h : w0.grownBy w (some g)) : w0.grownBy (w.setRow g cs) (some g) :=
 ⟨h.os, h.tape, h.output, by rw [setRow_size]; exact h.size, fun k hk hne => (setRow_other w g k cs (fun e => hne (by rw [e]))).trans (h.block k hk hne)⟩
theorem grown_ext {w w0 w' : World} {row : Option Nat} (h : w0.grownBy w row) (hx : Ext w w') : w0.grownBy w' row := by
 obtain ⟨x, rfl⟩ := hx
 exact ⟨h.os, h.tape, h.output, by rw [more_size]; have := h.size; omega, fun k hk hne => (more_heap w x k (by have := h.size; omega)).trans (h.block k hk hne)⟩
theorem grown_refl (w : World) (row : Option Nat) : w.grownBy w row := ⟨rfl, rfl, rfl, Nat.le_refl _, fun _ _ _ => rfl⟩
theorem ext_grown {w w' : World} (hx : Ext w w') (row : Option Nat) : w.grownBy w' row := grown_ext (grown_refl w row) hx
theorem grown_trans {a b c : World} {row : Option Nat} (h : a.grownBy b row) (k : b.grownBy c row) : a.grownBy c row :=
 ⟨k.os.trans h.os, k.tape.trans h.tape, k.output.trans h.output, Nat.le_trans h.size k.size, fun j hj hne => (k.block j (by have := h.size; omega) hne).trans (h.block j hj hne)⟩
set_option maxHeartbeats 1600000 in
theorem crypt_any (ks nc l : List (BitVec 8)) (hk : ks.length = 16) (hc : nc.length = 13) (hl : l.length ≤ 100000) (base : Nat) (v : Value) (w : World) (ho : w.ownsRow base 5 1 v l.length (l.map V8)) :
  Calls Try.prog 79 #[.agg (ks.map V8).toArray, .agg (nc.map V8).toArray, v] w fun e w' => e = .returned (.tuple #[]) ∧ w'.ownsRow base 5 1 v l.length ((cryptF ks nc l).map V8) ∧ w.grownBy w' v.ownBlock := by
 have HK := kp (sizeK ks hk)
 have HN := kp (sizeN nc hc)
 have HST := kp (fun i w => stream_any ks nc hk hc i w)
 have HO := kp ho
 obtain ⟨ad, cap, hv⟩ := (SlB.of_owns ho).form
 subst hv
 obtain ⟨n, hn⟩ : ∃ n, n = l.length := ⟨_, rfl⟩
 rw [← hn] at HO hl ⊢
 have HNN := kp hn
 have HCF := kp (show cryptF ks nc l = cryptTo ks nc l ((n + 15) / 16) by rw [hn]; rfl)
 clear hk hc ho hn
 go_enter Try.func79, Try.ntmps79
 go_wp2_with fail
 go_loopw [6] (fun i wr => ∃ j : Nat, 16 * j ≤ n + 15 ∧ i = .int .i64 ((16 * j : Nat) : Int) ∧ Kp (wr.ownsRow base 5 1 (.slice ad n cap) n ((cryptTo ks nc l j).map V8)) ∧ Kp (((w.alloc (.cells (ks.map V8).toArray 25)).alloc (.cells (nc.map V8).toArray 107)).grownBy wr (Value.slice ad n cap).ownBlock)) (fun i _ => n + 16 - (intOf i).toNat)
 case atStart => exact ⟨0, by omega, rfl, kp (by rw [cryptTo]; exact owns_ext HO.out ((Ext.alloc _ _).trans (Ext.alloc _ _))), kp (grown_refl _ _)⟩
 case round =>
  obtain ⟨j, hj, rfl, HOj, HGj⟩ := hrel
  by_cases hlt : 16 * j < n
  ·have hltI : ((16 * j : Nat) : Int) < n := by omega
   have h2 := HOj.out.2
   rcases h2 with ⟨h3, h4⟩ | ⟨g, cap', cur, h3, hbg, hg, hncap, hcm, hcs, htk⟩
   ·omega
   ·simp only [Value.slice.injEq, true_and] at h3
    obtain ⟨rfl, rfl⟩ := h3
    have hgw : g < w.heap.size := by
     rcases HO.out.2 with ⟨h5, _⟩ | ⟨g', _, _, h5, _, h6, _⟩
     ·cases h5
     ·cases h5; rw [Array.getElem?_eq_some_iff] at h6; exact h6.1
    have HKR := kp (show wr.heap[w.heap.size]? = some (.cells (ks.map V8).toArray 25 (0, 0)) from (HGj.out.block _ (by simp) (by simp [Value.ownBlock]; omega)).trans (hp_alloc (hp_new _ _)))
    have HNR := kp (show wr.heap[w.heap.size + 1]? = some (.cells (nc.map V8).toArray 107 (0, 0)) from (HGj.out.block _ (by simp) (by simp [Value.ownBlock]; omega)).trans (hp_at _ _ _ (by simp)))
    have HG := kp hg
    have hcapj : 16 * j < cap := by omega
    have HJ := kp (HST.out (1 + (j : Int)))
    have hdiv : ((16 * j : Nat) : Int) / 16 = j := by omega
    have hgs : g < wr.heap.size := by have := HGj.out.size; simp at this; omega
    have HRW := kp (show cur = (((cryptTo ks nc l j).take (16 * j)).map V8 ++ (((cryptTo ks nc l j).drop (16 * j)).map V8 ++ cur.toList.drop n)).toArray by
     rw [← List.append_assoc, ← List.map_append, List.take_append_drop]
     have h9 := List.take_append_drop n cur.toList
     rw [Nat.mul_one] at htk
     rw [htk] at h9
     rw [h9])
    have HL1 := kp (show (((cryptTo ks nc l j).take (16 * j)).map V8).length = 16 * j by rw [List.length_map, List.length_take, cryptTo_len, ← HNN.out]; omega)
    have HL2 := kp (show ((cryptTo ks nc l j).drop (16 * j)).length = n - 16 * j by rw [List.length_drop, cryptTo_len, ← HNN.out])
    have HSL := kp (streamF_len ks nc (1 + (j : Int)))
    have HNX := kp (show cryptTo ks nc l (j + 1) = (cryptTo ks nc l j).take (16 * j) ++ mixF ((cryptTo ks nc l j).drop (16 * j)) (streamF ks nc (1 + (j : Int))) from rfl)
    have HHD := kp (And.intro hbg (And.intro hncap (And.intro hcm hcs)))
    generalize streamF ks nc (1 + (j : Int)) = S at *
    clear hg htk hbg hcs hcm
    go_wp2_with fail
    (refine region_f 9 (by kernel_rfl) (by kernel_rfl) (by kernel_rfl) (by kernel_rfl) (by decide) (Nat.le_of_ble_eq_true (by kernel_rfl)) ?_)
    apply Exists.intro
    refine ⟨fun xz2 => ?_, fun xq2 => ?_⟩
    ·simp only [List.take_succ_cons, List.take_zero]
     unfold Cx
     (go_big_quiet_step (fail); go_big_quiet_step (fail); go_big_quiet_step (fail); ((with_reducible show wpQuiet _ _ _ _ (Oper.mk _ (Op.load 25 _) _ _ _ _ :: _) _); go_big_quiet_want; with_reducible refine quiet_load_row 25 _ rfl (w.heap.size) rfl 25 ((ks.map V8).toArray) (0, 0) _ (fun _ hw => by obtain ⟨xx, rfl⟩ := hw; exact hp_more HKR.out) Try.underlying25 rfl (HK.out) ?_; simp only [pA]; go_big_quiet_on); ((with_reducible show wpQuiet _ _ _ _ (Oper.mk _ (Op.load 107 _) _ _ _ _ :: _) _); go_big_quiet_want; with_reducible refine quiet_load_row 107 _ rfl (w.heap.size + 1) rfl 107 ((nc.map V8).toArray) (0, 0) _ (fun _ hw => by obtain ⟨xx, rfl⟩ := hw; exact hp_more HNR.out) Try.underlying107 rfl (HN.out) ?_; simp only [pA]; go_big_quiet_on); go_big_quiet_step (fail); go_big_quiet_step (fail); go_big_quiet_step (fail); go_big_quiet_step (exact Calls.cx_of (HJ.out _)))
     exact wpQuiet_nil rfl
    simp only [List.drop_succ_cons, List.drop_zero]
    go_wp2_with fail
    refine (mix_any S HSL.out g (16 * j) (n - 16 * j) (cap - 16 * j) 5 _ _ _ HL1.out HL2.out (by omega) _ (by rw [← HRW.out]; exact hp_more HG.out)).mono ?_
    rintro e w3 ⟨rfl, hx3⟩
    rw [setRow_more _ _ _ _ hgs] at hx3
    have HX3 := kp ((Ext.more _ _).trans hx3)
    clear hx3
    have hb9 : (((cryptTo ks nc l j).take (16 * j)).map V8 ++ ((mixF ((cryptTo ks nc l j).drop (16 * j)) S).map V8 ++ cur.toList.drop n)) = ((cryptTo ks nc l (j + 1)).map V8 ++ cur.toList.drop n) := by
     rw [HNX.out, List.map_append, List.append_assoc]
    rw [hb9] at HX3
    clear hb9
    have HO9 := kp (owns_ext (owns_setRow (xs := (cryptTo ks nc l (j + 1)).map V8) HHD.out.1 HG.out HHD.out.2.1 HHD.out.2.2.1 HHD.out.2.2.2 (by rw [List.length_map, cryptTo_len, ← HNN.out]) rfl) HX3.out)
    have HG9 := kp (grown_ext (grown_setRow HGj.out) HX3.out)
    clear HX3 HNX HRW HL1 HL2 HG
    go_wp2_with fail
    go_roundw
    case rel => exact ⟨j + 1, by omega, by go_num, HO9, HG9⟩
    case measure => simp [intOf]; omega
  ·have hjn : j = (n + 15) / 16 := by omega
   have hge : ¬ ((16 * j : Nat) : Int) < n := by omega
   have HCF2 := kp (show cryptTo ks nc l j = cryptF ks nc l by rw [HCF.out, hjn])
   clear hjn
   go_wp2_with fail
   go_end0
   exact ⟨rfl, by rw [← HCF2.out]; exact HOj.out, grown_trans (ext_grown ((Ext.alloc _ _).trans (Ext.alloc _ _)) _) HGj.out⟩
end Go.Proofs.Ytibncchobkaaiaa
