/- Contracts of bytes.Clone, bytes.Equal and seal.crypt. -/
import Derived.Test.YtnofmppimihjpaaCode
import Derived.Laws.BytesArg
namespace Go.Proofs.Ytnofmppimihjpaa
open Go.RowKit

set_option maxHeartbeats 800000 in
theorem clone_any (v : Value) (l : List (BitVec 8)) (hn : l.length ≤ 100000) (w : World) (hs : SlB w v l) : Calls Try.prog 32 #[v] w (RetO l w) := by
  obtain ⟨iu, hiu, hu⟩ := info_iu
  have HIU := kp hiu
  have HU := kp hu
  obtain ⟨ad, cap, rfl⟩ := hs.form
  have HS := kp (hs.ext (Ext.alloc w (.cells #[] 5)))
  have HOE := kp (owns_empty w w.heap.size (Nat.le_refl _))
  have HLE := kp (show ([] : List (BitVec 8)).length + l.length ≤ 1000000 by simp; omega)
  have hq : ∀ (w : World) (a : Option Addr) (n c : Nat), (binOp .eql 25 (.slice a n c) (.slice none 0 0)).run Try.prog w = .ok (.bool a.isNone) w := fun w a n c => Lib.run_eql_slice_nil w 25 5 a n c 0 0 Try.underlying25
  cases ad with
  | none =>
    have hl : l = [] := by
      rcases hs with ⟨h, _⟩ | ⟨b, off, c, h, _⟩
      · exact h
      · cases h
    obtain rfl := hs.nil_cap
    subst hl
    clear hiu hu hs
    go_enter Try.func32, Try.ntmps32
    go_wp2_with fail
    go_ret
    exact ⟨_, rfl, owns_nil _ _ _, Ext.refl _⟩
  | some a =>
    clear hiu hu hs
    go_enter Try.func32, Try.ntmps32
    go_wp2_with (at_builtin; refine wpList_append_SlB rfl _ _ 25 rfl w.heap.size 5 iu Try.underlying25 HIU.out HU.out.1 HU.out.2.1 HU.out.2.2 _ _ rfl HOE.out _ l rfl HS.out HLE.out (by simp) ?_; intro v2 w2 ho2 hg2)
    go_ret
    exact ⟨v2, rfl, by simpa using ho2, (Ext.alloc _ _).grown hg2 (fun q hq => owns_block HOE.out q hq)⟩

theorem strOf_eq (la lb : List (BitVec 8)) : ((strOfNums (la.map wI)).toList == (strOfNums (lb.map wI)).toList) = (la == lb) := by
  have key : ∀ (l : List (BitVec 8)), (l.map wI).map (fun n => UInt8.ofNat n.toNat) = l.map (fun x => UInt8.ofBitVec x) := fun l => by
    rw [List.map_map]
    refine List.map_congr_left fun x _ => ?_
    show UInt8.ofNat (wI x).toNat = _
    unfold wI
    rw [Int.toNat_natCast]
    apply UInt8.eq_of_toBitVec_eq
    simp
  rw [Bool.eq_iff_iff, beq_iff_eq, beq_iff_eq, ByteArray.toList_eq, ByteArray.toList_eq, strOfNums_data, strOfNums_data, key, key]
  constructor
  · intro h
    exact List.map_inj_right (fun a b e => congrArg UInt8.toBitVec e) |>.1 h
  · rintro rfl; rfl

set_option maxHeartbeats 800000 in
theorem equal_any (ba oa na ca bb ob nb cb : Nat) (la lb : List (BitVec 8)) (w : World) (ha : SlB w (.slice (some ⟨ba, oa, none⟩) na ca) la) (hb : SlB w (.slice (some ⟨bb, ob, none⟩) nb cb) lb) :
    Calls Try.prog 35 #[.slice (some ⟨ba, oa, none⟩) na ca, .slice (some ⟨bb, ob, none⟩) nb cb] w fun e w' => e = .returned (.bool (la == lb)) ∧ w' = w := by
  have conv : ∀ (b o n c : Nat) (l : List (BitVec 8)), SlB w (.slice (some ⟨b, o, none⟩) n c) l → (convert 25 9 (.slice (some ⟨b, o, none⟩) n c)).run Try.prog w = .ok (.string (strOfNums (l.map wI))) w := fun b o n c l h => by
    obtain ⟨_, _, e⟩ := h.form
    cases e
    refine run_convert_bytes_arg w 25 5 Try.underlying25 Try.underlying5 b o l.length c (l.map wI) (by simp) (fun i hi => ?_) 9 Try.underlying9
    obtain ⟨b', o', e2, _, hc⟩ := h.at i l[i] (by simp)
    cases e2
    rw [hc]; simp [hi]
  have c1 := conv _ _ _ _ _ ha
  have c2 := conv _ _ _ _ _ hb
  have HE := kp (strOf_eq la lb)
  clear conv ha hb
  go_enter Try.func35, Try.ntmps35
  go_wp2_with fail
  go_ret
  exact ⟨ret_bool HE.out, rfl⟩
/-- Bytes put together with the stream, behind j blocks. -/
def cryptTo (ks nc l : List (BitVec 8)) : Nat → List (BitVec 8)
  | 0 => l
  | j + 1 => (cryptTo ks nc l j).take (16 * j) ++ mixF ((cryptTo ks nc l j).drop (16 * j)) (streamF ks nc (1 + (j : Int)))
theorem cryptTo_len (ks nc l : List (BitVec 8)) : ∀ j, (cryptTo ks nc l j).length = l.length
  | 0 => rfl
  | j + 1 => by
    have ih := cryptTo_len ks nc l j
    rw [cryptTo, List.length_append, mixF_len, List.length_take, List.length_drop, ih]; omega
def cryptF (ks nc l : List (BitVec 8)) : List (BitVec 8) := cryptTo ks nc l ((l.length + 15) / 16)
theorem cryptF_len (ks nc l : List (BitVec 8)) : (cryptF ks nc l).length = l.length := cryptTo_len ks nc l _
theorem owns_len {w : World} {base E n : Nat} {v : Value} {xs : List Value} (h : w.ownsRow base E 1 v n xs) : xs.length = n := by have := h.1; omega
theorem owns_setRow {w : World} {base E g n cap : Nat} {cur : Array Value} {xs ys : List Value} (hb : base ≤ g) (hg : w.heap[g]? = some (.cells cur E (0, 0))) (h1 : n ≤ cap) (h2 : cap ≤ maxLen) (h3 : cur.size = cap * 1) (hl : xs.length = n) (he : ys = cur.toList.drop n) :
    (w.setRow g (xs ++ ys).toArray).ownsRow base E 1 (.slice (some ⟨g, 0, none⟩) n cap) n xs := by
  refine ⟨by omega, .inr ⟨g, cap, (xs ++ ys).toArray, rfl, hb, setRow_heap w g _ _ E (0, 0) hg, h1, h2, ?_, ?_⟩⟩
  · subst he; simp at h3 ⊢; omega
  · rw [Nat.mul_one]; show (xs ++ ys).take n = xs; rw [← hl, List.take_left]
theorem grown_setRow {w w0 : World} {g : Nat} {cs : Array Value} (h : w0.grownBy w (some g)) : w0.grownBy (w.setRow g cs) (some g) :=
  ⟨h.os, h.tape, h.output, by rw [setRow_size]; exact h.size, fun k hk hne => (setRow_other w g k cs (fun e => hne (by rw [e]))).trans (h.block k hk hne)⟩
theorem grown_ext {w w0 w' : World} {row : Option Nat} (h : w0.grownBy w row) (hx : Ext w w') : w0.grownBy w' row := by
  obtain ⟨x, rfl⟩ := hx
  exact ⟨h.os, h.tape, h.output, by rw [more_size]; have := h.size; omega, fun k hk hne => (more_heap w x k (by have := h.size; omega)).trans (h.block k hk hne)⟩
theorem grown_refl (w : World) (row : Option Nat) : w.grownBy w row := ⟨rfl, rfl, rfl, Nat.le_refl _, fun _ _ _ => rfl⟩
theorem ext_grown {w w' : World} (hx : Ext w w') (row : Option Nat) : w.grownBy w' row := grown_ext (grown_refl w row) hx
theorem grown_trans {a b c : World} {row : Option Nat} (h : a.grownBy b row) (k : b.grownBy c row) : a.grownBy c row :=
  ⟨k.os.trans h.os, k.tape.trans h.tape, k.output.trans h.output, Nat.le_trans h.size k.size, fun j hj hne => (k.block j (by have := h.size; omega) hne).trans (h.block j hj hne)⟩

set_option maxHeartbeats 1600000 in
theorem crypt_any (ks nc l : List (BitVec 8)) (hk : ks.length = 16) (hc : nc.length = 13) (hl : l.length ≤ 100000) (base : Nat) (v : Value) (w : World) (ho : w.ownsRow base 5 1 v l.length (l.map V8)) :
    Calls Try.prog 33 #[.agg (ks.map V8).toArray, .agg (nc.map V8).toArray, v] w fun e w' => e = .returned (.tuple #[]) ∧ w'.ownsRow base 5 1 v l.length ((cryptF ks nc l).map V8) ∧ w.grownBy w' v.ownBlock := by
  have HK := kp (sizeK ks hk)
  have HN := kp (sizeN nc hc)
  have HST := kp (fun i w => stream_any ks nc hk hc i w)
  have HO := kp ho
  obtain ⟨ad, cap, hv⟩ := (SlB.of_owns ho).form
  subst hv
  obtain ⟨n, hn⟩ : ∃ n, n = l.length := ⟨_, rfl⟩
  rw [← hn] at HO hl ⊢
  have HNN := kp hn
  have HCF := kp (show cryptF ks nc l = cryptTo ks nc l ((n + 15) / 16) by rw [hn]; rfl)
  clear hk hc ho hn
  go_enter Try.func33, Try.ntmps33
  go_wp2_with fail
  go_loopw [6] (fun i wr => ∃ j : Nat, 16 * j ≤ n + 15 ∧ i = .int .i64 ((16 * j : Nat) : Int) ∧ Kp (wr.ownsRow base 5 1 (.slice ad n cap) n ((cryptTo ks nc l j).map V8)) ∧ Kp (((w.alloc (.cells (ks.map V8).toArray 23)).alloc (.cells (nc.map V8).toArray 24)).grownBy wr (Value.slice ad n cap).ownBlock)) (fun i _ => n + 16 - (intOf i).toNat)
  case atStart => exact ⟨0, by omega, rfl, kp (by rw [cryptTo]; exact owns_ext HO.out ((Ext.alloc _ _).trans (Ext.alloc _ _))), kp (grown_refl _ _)⟩
  case round =>
    obtain ⟨j, hj, rfl, HOj, HGj⟩ := hrel
    by_cases hlt : 16 * j < n
    · have hltI : ((16 * j : Nat) : Int) < n := by omega
      have h2 := HOj.out.2
      rcases h2 with ⟨h3, h4⟩ | ⟨g, cap', cur, h3, hbg, hg, hncap, hcm, hcs, htk⟩
      · omega
      · simp only [Value.slice.injEq, true_and] at h3
        obtain ⟨rfl, rfl⟩ := h3
        have hgw : g < w.heap.size := by
          rcases HO.out.2 with ⟨h5, _⟩ | ⟨g', _, _, h5, _, h6, _⟩
          · cases h5
          · cases h5; rw [Array.getElem?_eq_some_iff] at h6; exact h6.1
        have HKR := kp (show wr.heap[w.heap.size]? = some (.cells (ks.map V8).toArray 23 (0, 0)) from (HGj.out.block _ (by simp) (by simp [Value.ownBlock]; omega)).trans (hp_alloc (hp_new _ _)))
        have HNR := kp (show wr.heap[w.heap.size + 1]? = some (.cells (nc.map V8).toArray 24 (0, 0)) from (HGj.out.block _ (by simp) (by simp [Value.ownBlock]; omega)).trans (hp_at _ _ _ (by simp)))
        have HG := kp hg
        have hcapj : 16 * j < cap := by omega
        have HJ := kp (HST.out (1 + (j : Int)))
        have hdiv : ((16 * j : Nat) : Int) / 16 = j := by omega
        have hgs : g < wr.heap.size := by have := HGj.out.size; simp at this; omega
        have HRW := kp (show cur = (((cryptTo ks nc l j).take (16 * j)).map V8 ++ (((cryptTo ks nc l j).drop (16 * j)).map V8 ++ cur.toList.drop n)).toArray by
          rw [← List.append_assoc, ← List.map_append, List.take_append_drop]
          have h9 := List.take_append_drop n cur.toList
          rw [Nat.mul_one] at htk
          rw [htk] at h9
          rw [h9])
        have HL1 := kp (show (((cryptTo ks nc l j).take (16 * j)).map V8).length = 16 * j by rw [List.length_map, List.length_take, cryptTo_len, ← HNN.out]; omega)
        have HL2 := kp (show ((cryptTo ks nc l j).drop (16 * j)).length = n - 16 * j by rw [List.length_drop, cryptTo_len, ← HNN.out])
        have HSL := kp (streamF_len ks nc (1 + (j : Int)))
        have HNX := kp (show cryptTo ks nc l (j + 1) = (cryptTo ks nc l j).take (16 * j) ++ mixF ((cryptTo ks nc l j).drop (16 * j)) (streamF ks nc (1 + (j : Int))) from rfl)
        have HHD := kp (And.intro hbg (And.intro hncap (And.intro hcm hcs)))
        generalize streamF ks nc (1 + (j : Int)) = S at *
        clear hg htk hbg hcs hcm
        go_wp2_with fail
        (first | with_reducible refine region_f2 9 (by kernel_rfl) (by kernel_rfl) (by kernel_rfl) (by kernel_rfl) (by decide) (Nat.le_of_ble_eq_true (by kernel_rfl)) ?_ | refine region_f 9 (by kernel_rfl) (by kernel_rfl) (by kernel_rfl) (by kernel_rfl) (by decide) (Nat.le_of_ble_eq_true (by kernel_rfl)) ?_)
        apply Exists.intro
        refine ⟨fun xz2 => ?_, fun xq2 => ?_⟩
        · simp only [List.take_succ_cons, List.take_zero]
          unfold Cx
          (go_big_quiet_step (fail); go_big_quiet_step (fail); go_big_quiet_step (fail); ((with_reducible show wpQuiet _ _ _ _ (Oper.mk _ (Op.load 23 _) _ _ _ _ :: _) _); go_big_quiet_want; with_reducible refine quiet_load_row 23 _ rfl (w.heap.size) rfl 23 ((ks.map V8).toArray) (0, 0) _ (fun _ hw => by obtain ⟨xx, rfl⟩ := hw; exact hp_more HKR.out) Try.underlying23 rfl (HK.out) ?_; simp only [Act.put, List.setIfInBounds_toArray, List.set_cons_zero, List.set_cons_succ]; go_big_quiet_on); ((with_reducible show wpQuiet _ _ _ _ (Oper.mk _ (Op.load 24 _) _ _ _ _ :: _) _); go_big_quiet_want; with_reducible refine quiet_load_row 24 _ rfl (w.heap.size + 1) rfl 24 ((nc.map V8).toArray) (0, 0) _ (fun _ hw => by obtain ⟨xx, rfl⟩ := hw; exact hp_more HNR.out) Try.underlying24 rfl (HN.out) ?_; simp only [Act.put, List.setIfInBounds_toArray, List.set_cons_zero, List.set_cons_succ]; go_big_quiet_on); go_big_quiet_step (fail); go_big_quiet_step (fail); go_big_quiet_step (fail); go_big_quiet_step (exact Calls.cx_of (HJ.out _)))
          exact wpQuiet_nil rfl
        simp only [List.drop_succ_cons, List.drop_zero]
        go_wp2_with fail
        refine (mix_any S HSL.out g (16 * j) (n - 16 * j) (cap - 16 * j) 5 _ _ _ HL1.out HL2.out (by omega) _ (by rw [← HRW.out]; exact hp_more HG.out)).mono ?_
        rintro e w3 ⟨rfl, hx3⟩
        rw [setRow_more _ _ _ _ hgs] at hx3
        have HX3 := kp ((Ext.more _ _).trans hx3)
        clear hx3
        have hb9 : (((cryptTo ks nc l j).take (16 * j)).map V8 ++ ((mixF ((cryptTo ks nc l j).drop (16 * j)) S).map V8 ++ cur.toList.drop n)) = ((cryptTo ks nc l (j + 1)).map V8 ++ cur.toList.drop n) := by
          rw [HNX.out, List.map_append, List.append_assoc]
        rw [hb9] at HX3
        clear hb9
        have HO9 := kp (owns_ext (owns_setRow (xs := (cryptTo ks nc l (j + 1)).map V8) HHD.out.1 HG.out HHD.out.2.1 HHD.out.2.2.1 HHD.out.2.2.2 (by rw [List.length_map, cryptTo_len, ← HNN.out]) rfl) HX3.out)
        have HG9 := kp (grown_ext (grown_setRow HGj.out) HX3.out)
        clear HX3 HNX HRW HL1 HL2 HG
        go_wp2_with fail
        go_roundw
        case rel => exact ⟨j + 1, by omega, by go_num, HO9, HG9⟩
        case measure => simp [intOf]; omega
    · have hjn : j = (n + 15) / 16 := by omega
      have hge : ¬ ((16 * j : Nat) : Int) < n := by omega
      have HCF2 := kp (show cryptTo ks nc l j = cryptF ks nc l by rw [HCF.out, hjn])
      clear hjn
      go_wp2_with fail
      go_end0
      exact ⟨rfl, by rw [← HCF2.out]; exact HOj.out, grown_trans (ext_grown ((Ext.alloc _ _).trans (Ext.alloc _ _)) _) HGj.out⟩
end Go.Proofs.Ytnofmppimihjpaa
