/- Texts of this proof, put together: Expand, CmpP, SlT, Fld. -/
import Derived.Test.YtibncchobkaaiaaF9
import Derived.Test.YtibncchobkaaiaaF5
import Derived.Test.YtibncchobkaaiaaF4
import Derived.Lib.Bytealg
import Derived.Laws.Externs
import Derived.Test.YtibncchobkaaiaaF6
import Derived.Laws.AppendOwn
import Derived.Test.YtibncchobkaaiaaF1
namespace Go.Proofs.Ytibncchobkaaiaa
open Go.RowKit
def outTo (ks : List (BitVec 8)) (s : ByteArray) (c : List (BitVec 8)) : Nat → List (BitVec 8)
 | 0 => []
 | k + 1 => outTo ks s c k ++ macF ks (inputF s c k)
theorem outTo_len (ks : List (BitVec 8)) (s : ByteArray) (c : List (BitVec 8)) : ∀ k, (outTo ks s c k).length = 16 * k
 | 0 => rfl
 | k + 1 => by rw [outTo, List.length_append, outTo_len ks s c k, macF_len]; omega
def expandF (ks : List (BitVec 8)) (s : ByteArray) (c : List (BitVec 8)) (n : Nat) : List (BitVec 8) := (outTo ks s c ((n + 15) / 16)).take n
theorem expandF_len (ks : List (BitVec 8)) (s : ByteArray) (c : List (BitVec 8)) (n : Nat) : (expandF ks s c n).length = n := by
 unfold expandF; rw [List.length_take, outTo_len]; omega
theorem inputF_short (s : ByteArray) (c : List (BitVec 8)) (i : Int) (hs : s.size ≤ 32) (hc : c.length ≤ 256) : (inputF s c i).length ≤ 1000000000 := by
 simp [inputF, twoF, strB_len]; omega
set_option maxHeartbeats 3200000 in
theorem expand_new (ks : List (BitVec 8)) (hk : ks.length = 16) (s : ByteArray) (hs : s.size ≤ 32) (vc : Value) (c : List (BitVec 8)) (hc : c.length ≤ 256) (n : Nat) (hn : n ≤ 1024) (w : World) (hv : SlB w vc c) :
  Calls Try.prog 72 #[.agg (ks.map V8).toArray, .string s, vc, .int .i64 n] w fun e w' => ∃ ad, e = .returned (.tuple #[.slice ad n n, .int .i64 0]) ∧ SlB w' (.slice ad n n) (expandF ks s c n) ∧ Ext w w' ∧ ∀ b o m, ad = some ⟨b, o, m⟩ → w.heap.size ≤ b := by
 obtain ⟨iu, hiu, hu⟩ := info_iu
 have HIU := kp hiu
 have HU := kp hu
 obtain ⟨ac, cc, rfl⟩ := hv.form
 have HV := kp (hv.ext (Ext.alloc w (.cells (ks.map V8).toArray 25)))
 have HK := kp (sizeK ks hk)
 have hs1 : ¬ 32 < (s.size : Int) := by omega
 have hc1 : ¬ 256 < (c.length : Int) := by omega
 have hn1 : ¬ 1024 < (n : Int) := by omega
 have hn0 : ¬ (n : Int) < 0 := by omega
 have HIN := kp (fun (i : Int) (w1 : World) (hx : SlB w1 (.slice ac c.length cc) c) => input_any s (by omega) _ c (by omega) i w1 hx)
 have HMAC := kp (fun (i : Int) (v : Value) (w1 : World) (hx : SlB w1 v (inputF s c i)) => mac_any ks (inputF s c i) hk (inputF_short s c i hs hc) v w1 hx)
 clear hiu hu hv hk
 go_enter Try.func72, Try.ntmps72
 go_wp2_with fail
 go_loopw [10, 11] (fun v i wr => ∃ k : Nat, 16 * k ≤ n + 15 ∧ i = .int .i64 k ∧ Kp (wr.ownsRow (w.heap.size + 1) 5 1 v (outTo ks s c k).length ((outTo ks s c k).map V8)) ∧ Kp (Ext (w.alloc (.cells (ks.map V8).toArray 25)) wr)) (fun _ i _ => 65 - (intOf i).toNat)
 case atStart => exact ⟨0, by omega, rfl, kp (owns_nil _ _ _), kp (Ext.refl _)⟩
 case round =>
  obtain ⟨k, hk, rfl, HO, HX⟩ := hrel
  obtain ⟨av, cv, hvf⟩ := (SlB.of_owns HO.out).form
  rw [outTo_len] at hvf
  subst hvf
  have HKR := kp (ext_heap HX.out (hp_new _ _))
  have HVX := kp (HV.out.ext HX.out)
  have hsz : w.heap.size + 1 ≤ wr.heap.size := by have := HX.out.size; simpa using this
  by_cases hlt : 16 * k < n
  ·have hlt2 : ((16 * k : Nat) : Int) < n := by omega
   have HB := kp (sizeB (macF ks (inputF s c k)) (macF_len _ _))
   have HZ := kp (z16_size (macF ks (inputF s c k)) (macF_len _ _))
   have HLE := kp (show (outTo ks s c k).length + (macF ks (inputF s c k)).length ≤ 1000000 by rw [outTo_len, macF_len]; omega)
   go_wp2_with fail
   rw [show decide (16 * (k : Int) < (n : Int)) = true by simp; omega]
   refine region_spine (tabS [(33, fun v _ => v = .agg (ks.map V8).toArray), (34, fun v _ => v = .string s), (35, fun v _ => v = .slice ac c.length cc), (36, fun v _ => v = .int .i64 k), (37, fun v w => SlB w v (inputF s c k)), (38, fun v _ => v = .agg ((macF ks (inputF s c k)).map V8).toArray)]) (tabS_mono _ (by simp only [List.forall_mem_cons]; exact ⟨mono_eq _, mono_eq _, mono_eq _, mono_eq _, mono_SlB _, mono_eq _, by simp⟩)) 7 6 12 (.cells z16 115) (by kernel_rfl) (by kernel_rfl) (by kernel_rfl) (by kernel_rfl) (by kernel_rfl) (by intro o ho; cases ho; exact ⟨rfl, rfl, by simp, fun _ _ => by kernel_rfl⟩) (by decide) (wr) (.inl rfl) ?_
   simp only [List.take_succ_cons, List.take_zero, List.eraseIdx_cons_succ, List.eraseIdx_cons_zero]
   refine ⟨fun w_ hwv33 S_ => ?_, fun v33 => ?_⟩
   ·obtain ⟨xv33, rfl⟩ := hwv33
    clear S_
    go_wp2_with ((with_reducible refine isLd 25 ?_); (with_reducible refine wpList_load_row rfl 25 _ rfl (w.heap.size) rfl 25 ((ks.map V8).toArray) (0, 0) _ (hp_more HKR.out) Try.underlying25 rfl (HK.out) ?_); simp only [pA])
    exact kso
   simp only [pA]
   refine ⟨fun w_ hwv34 S_ => ?_, fun v34 => ?_⟩
   ·obtain ⟨xv34, rfl⟩ := hwv34
    clear S_
    go_wp2_with fail
    exact kso
   simp only [pA]
   refine ⟨fun w_ hwv35 S_ => ?_, fun v35 => ?_⟩
   ·obtain ⟨xv35, rfl⟩ := hwv35
    clear S_
    go_wp2_with fail
    exact kso
   simp only [pA]
   refine ⟨fun w_ hwv36 S_ => ?_, fun v36 => ?_⟩
   ·obtain ⟨xv36, rfl⟩ := hwv36
    clear S_
    go_wp2_with fail
    exact kso
   simp only [pA]
   refine ⟨fun w_ hwv37 S_ => ?_, fun v37 => ?_⟩
   ·obtain ⟨xv37, rfl⟩ := hwv37
    obtain rfl : v34 = .string s := hsR S_ 34 rfl
    obtain rfl : v35 = .slice ac c.length cc := hsR S_ 35 rfl
    obtain rfl : v36 = .int .i64 k := hsR S_ 36 rfl
    clear S_
    go_wp2_with fail
    refine (HIN.out _ _ (HVX.out.ext (Ext.more _ _))).mono ?_
    rintro e w' ⟨v, rfl, hsl, hx⟩
    have HSL := kp hsl
    have HXL := kp hx
    clear hsl hx
    go_wp2_with fail
    exact ⟨rfl, v, rfl, fun d hd => by cases hd; exact HSL.out, HXL.out⟩
   simp only [pA]
   refine ⟨fun w_ hwv38 S_ => ?_, fun v38 => ?_⟩
   ·obtain ⟨xv38, rfl⟩ := hwv38
    obtain rfl : v33 = .agg (ks.map V8).toArray := hsR S_ 33 rfl
    have h37 := kp (show SlB _ v37 (inputF s c k) from hsR S_ 37 rfl)
    clear S_
    obtain ⟨a7, c7, rfl⟩ := h37.out.form
    go_wp2_with fail
    refine (HMAC.out _ _ _ h37.out).mono ?_
    rintro e w' ⟨rfl, hx⟩
    have HXL := kp hx
    clear hx
    go_wp2_with fail
    exact ⟨rfl, _, rfl, fun d hd => by cases hd; exact rfl, HXL.out⟩
   simp only [pA]
   intro xm xq hfin
   obtain rfl : v38 = .agg ((macF ks (inputF s c k)).map V8).toArray := hfin 38 (by decide)
   clear hfin
   simp only [List.setIfInBounds_toArray, List.set_cons_zero, List.set_cons_succ, List.drop_succ_cons, List.drop_zero]
   have HO2 := kp (owns_ext HO.out (((Ext.more wr xm).trans (Ext.alloc _ (.cells ((macF ks (inputF s c k)).map V8).toArray 115))).trans (Ext.more _ xq)))
   have HSX := kp (show SlB (more ((more wr xm).alloc (.cells ((macF ks (inputF s c k)).map V8).toArray 115)) xq) (.slice (some ⟨wr.heap.size + xm.blocks.size, 0, none⟩) 16 16) (macF ks (inputF s c k)) by
    have h : SlB (more ((more wr xm).alloc (.cells ((macF ks (inputF s c k)).map V8).toArray 115)) xq) (.slice (some ⟨wr.heap.size + xm.blocks.size, 0, none⟩) (macF ks (inputF s c k)).length 16) (macF ks (inputF s c k)) := SlB.of_block (hp_more (hp_at _ _ _ (by simp)))
    rwa [macF_len] at h)
   go_wp2_with (first | ((with_reducible refine isSt 115 ?_); with_reducible refine wpList_st_row rfl rfl 115 _ _ rfl (wr.heap.size + xm.blocks.size) (((macF ks (inputF s c k)).map V8).toArray) rfl rfl 115 (_) (hp_more (hp_at _ _ _ (by simp))) (HB.out) (HZ.out) (all_V8 _) (by rewrite [setRow_more _ _ _ _ (by first | assumption | (simp <;> omega)), setRow_at _ _ _ _ _ _ (by simp <;> omega)]; rfl) ?_) | (at_builtin; refine wpList_append_SlB rfl _ _ 33 rfl (w.heap.size + 1) 5 iu Try.underlying33 HIU.out HU.out.1 HU.out.2.1 HU.out.2.2 _ _ rfl HO2.out _ (macF ks (inputF s c k)) rfl HSX.out HLE.out (by simp; omega) ?_; intro v' w1 ho1 hg1))
   have HX1 := kp ((((HX.out.trans (Ext.more wr xm)).trans (Ext.alloc _ _)).trans (Ext.more _ xq)).grown hg1 (fun q hq => by have := owns_block HO2.out q hq; simpa using this))
   go_roundw
   case rel => exact ⟨k + 1, by omega, by go_num, kp (by rw [outTo]; exact ho1), HX1⟩
   case measure => simp [intOf]; omega
  ·have hlt2 : ¬ ((16 * k : Nat) : Int) < n := by omega
   have hkn : k = (n + 15) / 16 := by omega
   have hcv : 16 * k ≤ cv := owns_cap HO.out
   have hcv2 : n ≤ cv := by omega
   have HE := kp (show expandF ks s c n = (outTo ks s c k).take n by rw [expandF, ← hkn])
   have HSL := kp (show SlB wr (.slice av n n) (expandF ks s c n) by
    rw [HE.out]
    refine (SlB.of_owns HO.out).take (by rw [outTo_len]; omega) fun h => ?_
    subst h
    obtain ⟨_, h2⟩ := HO.out
    rcases h2 with ⟨h3, _⟩ | ⟨g, _, _, h3, _⟩
    ·simp only [Value.slice.injEq] at h3; omega
    ·simp at h3)
   have HNB := kp (show ∀ b o m, av = some ⟨b, o, m⟩ → w.heap.size ≤ b from fun b o m e => by
    subst e
    obtain ⟨_, h2 | ⟨g, _, _, h3, hb, _⟩⟩ := HO.out
    ·have h3 := h2.1
     simp only [Value.slice.injEq] at h3
     exact absurd h3.1 (by simp)
    ·simp only [Value.slice.injEq, Option.some.injEq, Addr.mk.injEq] at h3
     obtain ⟨⟨rfl, _⟩, _⟩ := h3
     omega)
   clear hkn
   go_wp2_with fail
   refine bodyPost_ret (v := .tuple #[.slice av n n, .int .i64 0]) (by simp [results, Try.results72, go_sem]) rfl ⟨_, rfl, HSL.out, (Ext.alloc _ _).trans HX.out, HNB.out⟩
def numF (l : List (BitVec 8)) : Nat := l.foldl (fun n x => n * 256 + x.toNat) 0
theorem num_from (m : List (BitVec 8)) : ∀ n, m.foldl (fun n x => n * 256 + x.toNat) n = n * 256 ^ m.length + numF m := by
 induction m with
 | nil => intro n; simp [numF]
 | cons x m ih =>
  intro n
  have h1 := ih (n * 256 + x.toNat)
  have h2 := ih (0 * 256 + x.toNat)
  simp only [numF, List.foldl_cons, List.length_cons] at h1 h2 ⊢
  rw [h1, h2, Nat.pow_succ]
  simp only [Nat.zero_mul, Nat.zero_add]
  rw [Nat.add_mul, Nat.mul_assoc, Nat.mul_comm 256]; omega
theorem num_append (l m : List (BitVec 8)) : numF (l ++ m) = numF l * 256 ^ m.length + numF m := by
 show (l ++ m).foldl _ 0 = _
 rw [List.foldl_append]; exact num_from m _
theorem num_cons (x : BitVec 8) (m : List (BitVec 8)) : numF (x :: m) = x.toNat * 256 ^ m.length + numF m := by
 rw [show x :: m = [x] ++ m from rfl, num_append]; simp [numF]
theorem num_lt_pow : ∀ l : List (BitVec 8), numF l < 256 ^ l.length
 | [] => by simp [numF]
 | x :: m => by
  have := num_lt_pow m
  have hx : x.toNat < 256 := x.isLt
  rw [num_cons, List.length_cons, Nat.pow_succ]
  have : (x.toNat + 1) * 256 ^ m.length ≤ 256 * 256 ^ m.length := Nat.mul_le_mul_right _ hx
  rw [Nat.add_mul, Nat.one_mul] at this
  rw [Nat.mul_comm (256 ^ m.length)]
  omega
theorem num_inj : ∀ {l m : List (BitVec 8)}, l.length = m.length → numF l = numF m → l = m
 | [], [], _, _ => rfl
 | [], _ :: _, h, _ => by simp at h
 | _ :: _, [], h, _ => by simp at h
 | x :: l, y :: m, h, e => by
  have hl : l.length = m.length := by simpa using h
  rw [num_cons, num_cons, hl] at e
  have h1 := num_lt_pow l
  have h2 := num_lt_pow m
  rw [hl] at h1
  have hxy : x.toNat = y.toNat := by
   rcases Nat.lt_trichotomy x.toNat y.toNat with c | c | c
   ·exfalso
    have : (x.toNat + 1) * 256 ^ m.length ≤ y.toNat * 256 ^ m.length := Nat.mul_le_mul_right _ c
    rw [Nat.add_mul, Nat.one_mul] at this; omega
   ·exact c
   ·exfalso
    have : (y.toNat + 1) * 256 ^ m.length ≤ x.toNat * 256 ^ m.length := Nat.mul_le_mul_right _ c
    rw [Nat.add_mul, Nat.one_mul] at this; omega
  rw [hxy] at e
  rw [BitVec.eq_of_toNat_eq hxy, num_inj hl (by omega)]
theorem num_lt {l m : List (BitVec 8)} (h : l.length = m.length) (k : Nat) (he : l.take k = m.take k) {x y : BitVec 8} (hx : l[k]? = some x) (hy : m[k]? = some y) (hlt : x.toNat < y.toNat) : numF l < numF m := by
 obtain ⟨h1, rfl⟩ := List.getElem?_eq_some_iff.1 hx
 obtain ⟨h2, rfl⟩ := List.getElem?_eq_some_iff.1 hy
 rw [← List.take_append_drop k l, ← List.take_append_drop k m, he, num_append, num_append, List.drop_eq_getElem_cons h1, List.drop_eq_getElem_cons h2, num_cons, num_cons]
 have hl : (l.drop (k + 1)).length = (m.drop (k + 1)).length := by simp [h]
 have h3 := num_lt_pow (l.drop (k + 1))
 rw [List.length_cons, List.length_cons, hl]
 rw [hl] at h3
 have : (l[k].toNat + 1) * 256 ^ (m.drop (k + 1)).length ≤ m[k].toNat * 256 ^ (m.drop (k + 1)).length := Nat.mul_le_mul_right _ hlt
 rw [Nat.add_mul, Nat.one_mul] at this
 omega
def cmpF (a b : List (BitVec 8)) : Int := if numF a < numF b then -1 else if numF b < numF a then 1 else 0
def u8of (x : BitVec 8) : UInt8 := (wI x).toNat.toUInt8
theorem u8of_lt : ∀ x y : BitVec 8, u8of x < u8of y ↔ x.toNat < y.toNat := by
 intro x y
 unfold u8of wI
 have hx := x.isLt
 have hy := y.isLt
 rw [UInt8.lt_iff_toNat_lt]
 simp
theorem run_loadBytes {P : Program} (w : World) (b : Nat) : ∀ (l : List (BitVec 8)) (off : Nat) (acc : ByteArray), (∀ (j : Nat) x, l[j]? = some x → w.cell? ⟨b, off + j, none⟩ = some (V8 x)) →
  (Extern.Bytes.loadBytes ⟨b, off, none⟩ l.length acc).run P w = .ok ⟨⟨acc.data.toList ++ l.map u8of⟩⟩ w
 | [], off, acc, _ => by simp [Extern.Bytes.loadBytes]
 | x :: l, off, acc, h => by
  have h0 := h 0 x rfl
  rw [Nat.add_zero] at h0
  have ih := run_loadBytes (P := P) w b l (off + 1) (acc.push (u8of x)) fun j y hj => by
   have := h (j + 1) y (by simpa using hj)
   rwa [show off + (j + 1) = off + 1 + j by omega] at this
  simp only [List.length_cons, Extern.Bytes.loadBytes, Sem.run_bind, run_load, h0, Result.andThen]
  show (Extern.Bytes.loadBytes ⟨b, off + 1, none⟩ l.length (acc.push (u8of x))).run P w = _
  rw [ih]
  simp [ByteArray.push]
theorem cmpBytes_eq : ∀ {l m : List (BitVec 8)}, l.length = m.length → Lib.compareBytes (l.map u8of) (m.map u8of) = cmpF l m
 | [], [], _ => by simp [Lib.compareBytes, cmpF]
 | [], _ :: _, h => by simp at h
 | _ :: _, [], h => by simp at h
 | x :: l, y :: m, h => by
  have hl : l.length = m.length := by simpa using h
  have ih := cmpBytes_eq hl
  simp only [List.map_cons, Lib.compareBytes, u8of_lt]
  have h1 := num_lt_pow l
  have h2 := num_lt_pow m
  rw [hl] at h1
  have m1 : x.toNat < y.toNat → numF (x :: l) < numF (y :: m) := fun c => by
   rw [num_cons, num_cons, hl]
   have : (x.toNat + 1) * 256 ^ m.length ≤ y.toNat * 256 ^ m.length := Nat.mul_le_mul_right _ c
   rw [Nat.add_mul, Nat.one_mul] at this; omega
  have m2 : y.toNat < x.toNat → numF (y :: m) < numF (x :: l) := fun c => by
   rw [num_cons, num_cons, hl]
   have : (y.toNat + 1) * 256 ^ m.length ≤ x.toNat * 256 ^ m.length := Nat.mul_le_mul_right _ c
   rw [Nat.add_mul, Nat.one_mul] at this; omega
  by_cases c1 : x.toNat < y.toNat
  ·rw [if_pos c1, cmpF, if_pos (m1 c1)]
  ·by_cases c2 : y.toNat < x.toNat
   ·have := m2 c2
    rw [if_neg c1, if_pos c2, cmpF, if_neg (by omega), if_pos this]
   ·rw [if_neg c1, if_neg c2, ih]
    have e : x.toNat = y.toNat := by omega
    unfold cmpF
    rw [num_cons, num_cons, hl, e]
    simp only [Nat.add_lt_add_iff_left]
theorem run_cmp {P : Program} (w : World) (b1 b2 o1 o2 c1 c2 : Nat) (l m : List (BitVec 8)) (hlm : l.length = m.length) (h1 : ∀ (j : Nat) x, l[j]? = some x → w.cell? ⟨b1, o1 + j, none⟩ = some (V8 x)) (h2 : ∀ (j : Nat) x, m[j]? = some x → w.cell? ⟨b2, o2 + j, none⟩ = some (V8 x)) :
  (Extern.BytealgCompare.compare #[.slice (some ⟨b1, o1, none⟩) l.length c1, .slice (some ⟨b2, o2, none⟩) m.length c2]).run P w = .ok (.int .i64 (cmpF l m)) w := by
 change Sem.run P (do pure (goInt (Extern.BytealgCompare.cmp (← Extern.Bytes.bytesOf (.slice (some ⟨b1, o1, none⟩) l.length c1)) (← Extern.Bytes.bytesOf (.slice (some ⟨b2, o2, none⟩) m.length c2))))) w = _
 simp only [Extern.Bytes.bytesOf, Sem.run_bind, Sem.run_pure, run_loadBytes w b1 l o1 _ h1, run_loadBytes w b2 m o2 _ h2, Result.andThen]
 rw [Lib.cmp_eq]
 simp only [ByteArray.data_empty, List.nil_append]
 rw [cmpBytes_eq hlm]
 rfl
set_option maxRecDepth 100000 in
theorem bcompare_any (l m : List (BitVec 8)) (hl : l.length = 6) (hm : m.length = 6) (b1 b2 : Nat) (w : World) (h1 : Lc w b1 23 (l.map V8)) (h2 : Lc w b2 23 (m.map V8)) :
  Calls Try.prog 89 #[.slice (some ⟨b1, 0, none⟩) 6 6, .slice (some ⟨b2, 0, none⟩) 6 6] w fun e w' => e = .returned (.int .i64 (cmpF l m)) ∧ w' = w := by
 have HR : Kp ((Extern.BytealgCompare.compare #[.slice (some ⟨b1, 0, none⟩) 6 6, .slice (some ⟨b2, 0, none⟩) 6 6]).run Try.prog w = .ok (.int .i64 (cmpF l m)) w) := kp (by
  have := run_cmp (P := Try.prog) w b1 b2 0 0 6 6 l m (by rw [hl, hm]) (fun j x hj => by rw [Nat.zero_add]; exact h1.cell (by simp [hj])) (fun j x hj => by rw [Nat.zero_add]; exact h2.cell (by simp [hj]))
  rw [hl, hm] at this
  exact this)
 clear h1 h2 hl hm
 go_enter Try.func89, Try.ntmps89
 go_wp2_with fail
 rw [run_callFunc_extern Try.func107 (by kernel_rfl) (by kernel_rfl) (by kernel_rfl) (e := Extern.BytealgCompare.compare) (by kernel_rfl), HR.out]
 simp only [Result.andThen]
 rw [Oper.upon_value]
 go_wp2_with fail
 go_ret
 exact ⟨rfl, rfl⟩
theorem compareA_any (l m : List (BitVec 8)) (hl : l.length = 6) (hm : m.length = 6) (w : World) :
  Calls Try.prog 74 #[.agg (l.map V8).toArray, .agg (m.map V8).toArray] w fun e w' => e = .returned (.int .i64 (cmpF l m)) ∧ Ext w w' := by
 have H := kp (Loc.start w)
 have HB := kp (bcompare_any l m hl hm)
 clear hl hm
 go_enter Try.func74, Try.ntmps74
 go_wp2_with (first | ((with_reducible refine isBx 2 23 ?_); (with_reducible refine L_box H rfl 23 _ rfl (l.map V8) rfl ?_); clear H; intro g2 w2 HGg2 HEg2 H; simp only [pA]) | ((with_reducible refine isBx 3 23 ?_); (with_reducible refine L_box H rfl 23 _ rfl (m.map V8) rfl ?_); clear H; intro g3 w3 HGg3 HEg3 H; simp only [pA]))
 refine region_free H (tabS [(5, fun vQ _ => vQ = .slice (some ⟨g2, 0, none⟩) 6 6), (6, fun vQ _ => vQ = .slice (some ⟨g3, 0, none⟩) 6 6), (7, fun vQ _ => vQ = .int .i64 (cmpF l m)), (4, fun vQ _ => vQ = .int .i64 (cmpF l m))]) [] (tabS_out _ _ (by simp only [List.forall_mem_cons, mono_eqO, true_and]; simp)) 4 (by kernel_rfl) (by kernel_rfl) (by kernel_rfl) (by kernel_rfl) [] [] rfl rfl (by decide) (by decide) (by decide) trivial ?_
 simp only [List.take_succ_cons, List.take_zero]
 refine ⟨fun w_ o_ S_ => ?_, fun v5 => ?_⟩
 ·clear S_
  clear o_
  go_wp2_with fail
  exact kso
 simp only [pA]
 refine ⟨fun w_ o_ S_ => ?_, fun v6 => ?_⟩
 ·clear S_
  clear o_
  go_wp2_with fail
  exact kso
 simp only [pA]
 refine ⟨fun w_ o_ S_ => ?_, fun v7 => ?_⟩
 ·obtain rfl : v5 = .slice (some ⟨g2, 0, none⟩) 6 6 := hsR S_ 5 rfl
  obtain rfl : v6 = .slice (some ⟨g3, 0, none⟩) 6 6 := hsR S_ 6 rfl
  clear S_
  have H := kp (kK [0, 1] H o_)
  have HOX := kp o_
  clear o_
  go_wp2_with fail
  refine (HB.out g2 g3 _ (H.out.at 1 rfl) (H.out.at 0 rfl)).mono ?_
  rintro e wa ⟨rfl, rfl⟩
  go_wp2_with fail
  exact kso
 simp only [pA]
 refine ⟨fun w_ o_ S_ => ?_, fun v4 => ?_⟩
 ·obtain rfl : v7 = .int .i64 (cmpF l m) := hsR S_ 7 rfl
  clear S_ o_
  go_wp2_with fail
  exact kso
 simp only [pA]
 clear H
 intro w4 HOX H hfin
 obtain rfl : v5 = .slice (some ⟨g2, 0, none⟩) 6 6 := hfin 5 (by decide)
 obtain rfl : v6 = .slice (some ⟨g3, 0, none⟩) 6 6 := hfin 6 (by decide)
 obtain rfl : v7 = .int .i64 (cmpF l m) := hfin 7 (by decide)
 obtain rfl : v4 = .int .i64 (cmpF l m) := hfin 4 (by decide)
 clear hfin
 simp only [List.drop_succ_cons, List.drop_zero]
 simp only [applyS] at H
 have HXN := kp (HOX.out.ext (Ext.refl w3) (fun g hg => by cases hg))
 go_wp2_with fail
 go_ret
 exact ⟨rfl, H.out.1⟩
theorem rangeAt_ext {w w' : World} {b o : Nat} {cs : List Value} (h : w.rangeAt b o cs) (hb : b < w.heap.size) (hx : Ext w w') : w'.rangeAt b o cs := fun j v hv => (hx.cell hb).trans (h j v hv)
theorem Loc.tail {w0 w : World} {b : Bk} {bs : List Bk} (h : Loc w0 w (b :: bs)) : Loc w0 w bs :=
 ⟨h.1, (List.nodup_cons.1 h.2.1).2, fun c hc => h.2.2 c (by simp [hc])⟩
theorem wpList_load_midG {P : Program} {ops : Array Oper} {rest : List Oper} {op : Oper} {a : Act} {w : World} {Q : Exit → Act → World → Prop} (hgd : Region.wanted op (yielded ops a.tmps) = true) (ty : TypeId) (x : Operand) (ho : op.op = .load ty x)
  (b o : Nat) (hx : a.eval x = .pointer (some ⟨b, o, none⟩)) (cs : List Value) (d : TypeDesc) (hc : w.rangeAt b o cs)
  (hu : P.underlying ty = some d) (hd : d.isRow = true) (hi : (P.info? ty).map (·.size) = some cs.length)
  (h : wpList P ops Q rest (a.put op.dst (.agg cs.toArray)) w) : wpList P ops Q (op :: rest) a w :=
 wpList_step fun _ hK => by rw [if_pos hgd]; exact wp_load_mid ty x ho b o hx cs d hc hu hd hi (hK _ _ h)
theorem L_subG {P : Program} {ops : Array Oper} {rest : List Oper} {o : Oper} {a : Act} {w0 w : World} {Q : Exit → Act → World → Prop} {bs : List Bk} (H : Kp (Loc w0 w bs)) (hgd : Region.wanted o (yielded ops a.tmps) = true) (ty : TypeId) (x : Operand) (ho : o.op = .load ty x) (i : Nat) {g T : Nat} {cs : List Value} (hi : bs[i]? = some (g, T, cs)) (off : Nat)
  (hx : a.eval x = .pointer (some ⟨g, off, none⟩)) (ds : List Value) (hds : (cs.drop off).take ds.length = ds) {d : TypeDesc} (hu : P.underlying ty = some d) (hd : d.isRow = true) (hz : (P.info? ty).map (·.size) = some ds.length)
  (h : wpList P ops Q rest (a.put o.dst (.agg ds.toArray)) w) : wpList P ops Q (o :: rest) a w :=
 wpList_load_midG hgd ty x ho g off hx ds d ((H.out.at i hi).range hds) hu hd hz h
def Chg (lo : Nat) (a b : World) : Prop := lo ≤ b.heap.size ∧ ∀ k, k < lo → b.heap[k]? = a.heap[k]?
theorem Chg.refl (w : World) : Chg w.heap.size w w := ⟨Nat.le_refl _, fun _ _ => rfl⟩
theorem Chg.ext {lo : Nat} {a b c : World} (h : Chg lo a b) (hx : Ext b c) : Chg lo a c := by
 obtain ⟨x, rfl⟩ := hx
 exact ⟨by rw [more_size]; have := h.1; omega, fun k hk => (more_heap b x k (Nat.lt_of_lt_of_le hk h.1)).trans (h.2 k hk)⟩
theorem Chg.wrote {lo g : Nat} {a b c : World} (h : Chg lo a b) (hw : Wrote b c g) (hg : lo ≤ g) : Chg lo a c := by
 obtain ⟨ds, rfl⟩ := hw
 exact ⟨by rw [setRow_size]; exact h.1, fun k hk => (setRow_other b g k ds (by omega)).trans (h.2 k hk)⟩
theorem Chg.of_ext {a b : World} (h : Ext a b) : Chg a.heap.size a b := (Chg.refl a).ext h
theorem Chg.le {lo lo' : Nat} {a b : World} (h : Chg lo a b) (hl : lo' ≤ lo) : Chg lo' a b := ⟨Nat.le_trans hl h.1, fun k hk => h.2 k (Nat.lt_of_lt_of_le hk hl)⟩
theorem Chg.trans {lo : Nat} {a b c : World} (h : Chg lo a b) (k : Chg lo b c) : Chg lo a c := ⟨k.1, fun i hi => (k.2 i hi).trans (h.2 i hi)⟩
theorem Chg.cell {lo b i : Nat} {w w' : World} (h : Chg lo w w') (hb : b < lo) : w'.cell? ⟨b, i, none⟩ = w.cell? ⟨b, i, none⟩ := by
 simp only [World.cell?, h.2 b hb]
theorem Chg.range {lo b o : Nat} {w w' : World} {cs : List Value} (h : Chg lo w w') (hb : b < lo) (hr : w.rangeAt b o cs) : w'.rangeAt b o cs := fun j v hv => (h.cell hb).trans (hr j v hv)
theorem Loc.add {w0 w : World} {bs : List Bk} (h : Loc w0 w bs) (n : Nat) (hn : ∀ g ∈ bs.map (·.1), g < n) (h0 : w0.heap.size ≤ n) {g T : Nat} {cs : List Value} (hg : n ≤ g) (hl : Lc w g T cs) : Loc w0 w ((g, T, cs) :: bs) := by
 refine ⟨h.1, ?_, fun b hb => ?_⟩
 ·rw [List.map_cons, List.nodup_cons]
  exact ⟨fun hm => by have := hn g hm; omega, h.2.1⟩
 ·rcases List.mem_cons.1 hb with rfl | hb
  ·exact ⟨by omega, hl⟩
  ·exact h.2.2 b hb
section
variable {α : Type} {sz : Nat} {f : α → List Value}
def SlT (sz : Nat) (f : α → List Value) (w : World) (v : Value) (xs : List α) : Prop :=
 ∃ ad n c, v = .slice ad n c ∧ n = xs.length ∧ n ≤ c ∧ ∀ (j : Nat) x, xs[j]? = some x → ∃ b off, ad = some ⟨b, off, none⟩ ∧ b < w.heap.size ∧ w.rangeAt b (off + j * sz) (f x)
theorem SlT.ext {w w' : World} {v : Value} {xs : List α} (h : SlT sz f w v xs) (hx : Ext w w') : SlT sz f w' v xs := by
 obtain ⟨ad, n, c, h1, h2, h3, h4⟩ := h
 exact ⟨ad, n, c, h1, h2, h3, fun j x hj => by obtain ⟨b, off, q1, q2, q3⟩ := h4 j x hj; exact ⟨b, off, q1, Nat.lt_of_lt_of_le q2 hx.size, rangeAt_ext q3 q2 hx⟩⟩
theorem SlT.chg {w w' : World} {v : Value} {xs : List α} (h : SlT sz f w v xs) (hc : Chg w.heap.size w w') : SlT sz f w' v xs := by
 obtain ⟨ad, n, c, h1, h2, h3, h4⟩ := h
 exact ⟨ad, n, c, h1, h2, h3, fun j x hj => by obtain ⟨b, off, q1, q2, q3⟩ := h4 j x hj; exact ⟨b, off, q1, Nat.lt_of_lt_of_le q2 hc.1, hc.range q2 q3⟩⟩
theorem SlT.nil (w : World) : SlT sz f w (.slice none 0 0) [] := ⟨none, 0, 0, rfl, rfl, Nat.le_refl _, fun j x hj => by simp at hj⟩
theorem flatMap_at : ∀ (xs : List α), (∀ x ∈ xs, (f x).length = sz) → ∀ (j : Nat) x, xs[j]? = some x → ((xs.flatMap f).drop (j * sz)).take sz = f x
 | [], _, j, x, h => by simp at h
 | y :: ys, hf, 0, x, h => by
  have : y = x := by simpa using h
  subst this
  have hy := hf y (by simp)
  rw [List.flatMap_cons, Nat.zero_mul, List.drop_zero, List.take_append_of_le_length (by rw [hy]; exact Nat.le_refl _), List.take_of_length_le (by rw [hy]; exact Nat.le_refl _)]
 | y :: ys, hf, j + 1, x, h => by
  have hy := hf y (by simp)
  rw [List.flatMap_cons, Nat.succ_mul, Nat.add_comm, ← List.drop_drop, List.drop_append_of_le_length (by rw [hy]; exact Nat.le_refl _), show (f y).drop sz = [] from List.drop_of_length_le (by rw [hy]; exact Nat.le_refl _), List.nil_append]
  exact flatMap_at ys (fun z hz => hf z (by simp [hz])) j x (by simpa using h)
theorem SlT.of_block {w : World} {g T c : Nat} {cs : List Value} {xs : List α} (hf : ∀ x ∈ xs, (f x).length = sz) (h : Lc w g T cs) (hx : cs.take (xs.length * sz) = xs.flatMap f) (hc : xs.length ≤ c) : SlT sz f w (.slice (some ⟨g, 0, none⟩) xs.length c) xs := by
 refine ⟨_, _, _, rfl, rfl, hc, fun j x hj => ⟨g, 0, rfl, h.lt, ?_⟩⟩
 refine h.range ?_
 have h1 := flatMap_at xs hf j x hj
 have hjl := (List.getElem?_eq_some_iff.1 hj).1
 rw [← hx, List.drop_take, List.take_take] at h1
 rw [Nat.zero_add, hf x (List.mem_of_getElem? hj)]
 have h2 : min sz (xs.length * sz - j * sz) = sz := by
  have : (j + 1) * sz ≤ xs.length * sz := Nat.mul_le_mul_right _ hjl
  rw [Nat.succ_mul] at this; omega
 rwa [h2] at h1
theorem SlT.of_owns {w : World} {base E : Nat} {v : Value} {xs : List α} (hf : ∀ x ∈ xs, (f x).length = sz) (h : w.ownsRow base E sz v xs.length (xs.flatMap f)) : SlT sz f w v xs := by
 obtain ⟨_, ⟨rfl, hn⟩ | ⟨g, cap, cur, rfl, _, hg, hle, _, _, ht⟩⟩ := h
 ·have : xs = [] := List.length_eq_zero_iff.1 hn
  subst this; exact SlT.nil w
 ·exact SlT.of_block (cs := cur.toList) hf (by rw [Lc]; simpa using hg) ht hle
end
theorem ownsT_block {w : World} {base E n sz : Nat} {v : Value} {xs : List Value} (h : w.ownsRow base E sz v n xs) : ∀ k, v.ownBlock = some k → base ≤ k := by
 intro k hk
 obtain ⟨_, h2⟩ := h
 rcases h2 with ⟨rfl, _⟩ | ⟨g, cap, cur, rfl, hb, _⟩
 ·cases hk
 ·have : g = k := by simpa [Value.ownBlock] using hk
  omega
theorem ownsT_keep {w w' : World} {base E n sz : Nat} {v : Value} {xs : List Value} (h : w.ownsRow base E sz v n xs) (hk : ∀ k, v.ownBlock = some k → w'.heap[k]? = w.heap[k]?) : w'.ownsRow base E sz v n xs := by
 obtain ⟨h1, h2⟩ := h
 rcases h2 with ⟨rfl, rfl⟩ | ⟨g, cap, cur, rfl, hb, hg, a, b, c, ht⟩
 ·exact ⟨h1, .inl ⟨rfl, rfl⟩⟩
 ·exact ⟨h1, .inr ⟨g, cap, cur, rfl, hb, (hk g rfl).trans hg, a, b, c, ht⟩⟩
abbrev By := List (BitVec 8)
abbrev Vc (n : Nat) := {l : By // l.length = n}
structure Lf where
 n : Nat
 cs : List Value
 h : cs.length = n
 o : cs.all (·.oneCell') = true
theorem one_V8 (l : By) : (l.map V8).all (·.oneCell') = true := by simp [List.all_map, Function.comp_def, Value.oneCell']
abbrev Lf.v {n : Nat} (x : Vc n) : Lf := ⟨n, x.1.map V8, by simpa using x.2, one_V8 _⟩
abbrev Lf.i (k : IntKind) (x : Int) : Lf := ⟨1, [.int k x], rfl, rfl⟩
abbrev Lf.b (x : Bool) : Lf := ⟨1, [.bool x], rfl, rfl⟩
abbrev Lf.s (a : Option Addr) (n c : Nat) : Lf := ⟨1, [.slice a n c], rfl, rfl⟩
abbrev Lf.w (x : Value) (h : x.oneCell' = true) : Lf := ⟨1, [x], rfl, by simp [h]⟩
def cat : List Lf → List Value
 | [] => []
 | [p] => p.cs
 | p :: q :: l => p.cs ++ cat (q :: l)
theorem cat_cons (p : Lf) (l : List Lf) : cat (p :: l) = p.cs ++ cat l := by cases l <;> simp [cat]
def lsum : List Lf → Nat
 | [] => 0
 | p :: l => p.n + lsum l
def nth : List Lf → Nat → Option Lf
 | [], _ => none
 | p :: _, 0 => some p
 | _ :: l, i + 1 => nth l i
def fat : List Lf → Nat → Option Nat
 | [], _ => none
 | _ :: _, 0 => some 0
 | p :: l, k + 1 => match Nat.ble p.n (k + 1) with
  | true => match fat l (k + 1 - p.n) with
   | some i => some (i + 1)
   | none => none
  | false => none
theorem cat_len : ∀ l, (cat l).length = lsum l
 | [] => rfl
 | p :: l => by rw [cat_cons, List.length_append, cat_len l, p.h, lsum]
theorem cat_one : ∀ l, (cat l).all (·.oneCell') = true
 | [] => rfl
 | p :: l => by rw [cat_cons, List.all_append, p.o, cat_one l]; rfl
theorem cat_append : ∀ l m, cat (l ++ m) = cat l ++ cat m
 | [], _ => rfl
 | p :: l, m => by rw [List.cons_append, cat_cons, cat_append l m, cat_cons, List.append_assoc]
theorem fat_spec : ∀ {l : List Lf} {off i : Nat}, fat l off = some i → i < l.length ∧ (cat l).drop off = cat (l.drop i) ∧ off = lsum (l.take i)
 | [], off, i, h => by simp [fat] at h
 | p :: l, 0, i, h => by
  simp only [fat, Option.some.injEq] at h
  subst h
  exact ⟨by simp, rfl, rfl⟩
 | p :: l, k + 1, i, h => by
  unfold fat at h
  split at h
  ·rename_i hb
   have hb := Nat.le_of_ble_eq_true hb
   split at h
   ·rename_i j hj
    simp only [Option.some.injEq] at h
    subst h
    obtain ⟨h1, h2, h3⟩ := fat_spec hj
    refine ⟨by simp; omega, ?_, ?_⟩
    ·rw [cat_cons, List.drop_append, List.drop_of_length_le (by rw [p.h]; exact hb), List.nil_append, p.h, List.drop_succ_cons, h2]
    ·rw [List.take_succ_cons, lsum, ← h3]; omega
   ·cases h
  ·cases h
theorem nth_get : ∀ {l : List Lf} {i : Nat} {p : Lf}, nth l i = some p → l.drop i = p :: l.drop (i + 1)
 | [], _, _, h => by simp [nth] at h
 | q :: l, 0, p, h => by simp only [nth, Option.some.injEq] at h; subst h; rfl
 | q :: l, i + 1, p, h => by rw [List.drop_succ_cons, List.drop_succ_cons]; exact nth_get (by simpa [nth] using h)
theorem cat_part {ps : List Lf} {off i : Nat} {p : Lf} (h : fat ps off = some i) (hp : nth ps i = some p) : ((cat ps).drop off).take p.cs.length = p.cs := by
 obtain ⟨h1, h2, h3⟩ := fat_spec h
 rw [h2, nth_get hp, cat_cons, List.take_append_of_le_length (Nat.le_refl _), List.take_of_length_le (Nat.le_refl _)]
theorem cat_group {ps qs : List Lf} {off i : Nat} (h : fat ps off = some i) (hp : (ps.drop i).take qs.length = qs) : ((cat ps).drop off).take (cat qs).length = cat qs := by
 obtain ⟨h1, h2, h3⟩ := fat_spec h
 rw [h2]
 conv => lhs; rw [← List.take_append_drop qs.length (ps.drop i), hp, cat_append]
 rw [List.take_append_of_le_length (Nat.le_refl _), List.take_of_length_le (Nat.le_refl _)]
theorem cat_cell {ps : List Lf} {off i : Nat} {v : Value} {h : [v].length = 1} {o : [v].all (·.oneCell') = true} (hf : fat ps off = some i) (hp : nth ps i = some ⟨1, [v], h, o⟩) : (cat ps)[off]? = some v := by
 obtain ⟨h1, h2, h3⟩ := fat_spec hf
 have := nth_get hp
 rw [show off = off + 0 from rfl, ← List.getElem?_drop, h2, this, cat_cons]
 rfl
theorem cat_split {ps : List Lf} {off i : Nat} (h : fat ps off = some i) : (cat ps).take off = cat (ps.take i) := by
 obtain ⟨h1, h2, h3⟩ := fat_spec h
 conv => lhs; rw [← List.take_append_drop i ps, cat_append]
 have hl : (cat (ps.take i)).length = off := by rw [cat_len, ← h3]
 rw [← hl, List.take_append_of_le_length (Nat.le_refl _), List.take_of_length_le (Nat.le_refl _)]
def pput (ps : List Lf) (i n : Nat) (qs : List Lf) : List Lf := ps.take i ++ qs ++ ps.drop (i + n)
theorem lsum_append : ∀ l m, lsum (l ++ m) = lsum l + lsum m
 | [], _ => by simp [lsum]
 | p :: l, m => by rw [List.cons_append, lsum, lsum_append l m, lsum]; omega
theorem cat_put {ps qs : List Lf} {off i : Nat} (n : Nat) (h : fat ps off = some i) (hn : lsum ((ps.drop i).take n) = lsum qs) : (cat ps).take off ++ cat qs ++ (cat ps).drop (off + (cat qs).length) = cat (pput ps i n qs) := by
 obtain ⟨h1, h2, h3⟩ := fat_spec h
 rw [cat_split h, pput, cat_append, cat_append]
 congr 1
 rw [cat_len, ← List.drop_drop, h2]
 conv => lhs; rw [← List.take_append_drop n (ps.drop i), cat_append]
 have hl : (cat ((ps.drop i).take n)).length = lsum qs := by rw [cat_len, hn]
 rw [← hl, List.drop_append_of_le_length (Nat.le_refl _), List.drop_of_length_le (Nat.le_refl _), List.nil_append, List.drop_drop]
theorem put_fits {ps : List Lf} {off i : Nat} (n : Nat) (h : fat ps off = some i) : off + lsum ((ps.drop i).take n) ≤ (cat ps).length := by
 obtain ⟨h1, h2, h3⟩ := fat_spec h
 rw [cat_len]
 conv => rhs; rw [← List.take_append_drop i ps, lsum_append, ← h3, ← List.take_append_drop n (ps.drop i), lsum_append]
 omega
theorem cat1 (p : Lf) : cat [p] = p.cs := by simp [cat]
section
variable {P : Program}
theorem run_loadVar_cell (w : World) (b o : Nat) (ty : TypeId) (v : Value) (hc : w.cell? ⟨b, o, none⟩ = some v) {d : TypeDesc} (hu : P.underlying ty = some d) (hd : d.isRow = false) : (loadVar ty ⟨b, o, none⟩).run P w = .ok v w := by
 have hg : (isAgg ty).run P w = .ok false w := by
  unfold isAgg
  rw [Sem.run_bind, run_underlying hu w]
  cases d <;> simp_all
 simp [loadVar, hg, run_load, hc]
variable {ops : Array Oper} {rest : List Oper} {o : Oper} {a : Act} {w0 w : World} {Q : Exit → Act → World → Prop} {bs : List Bk}
theorem L_f1 (H : Kp (Loc w0 w bs)) (hgd : Region.wanted o (yielded ops a.tmps) = true) (ty : TypeId) (x : Operand) (ho : o.op = .load ty x) (k : Nat) {g T : Nat} {ps : List Lf} (hi : bs[k]? = some (g, T, cat ps)) (off : Nat)
  (hx : a.eval x = .pointer (some ⟨g, off, none⟩)) (i : Nat) (hf : fat ps off = some i) (v : Value) {hv ho'} (hp : nth ps i = some ⟨1, [v], hv, ho'⟩) {d : TypeDesc} (hu : P.underlying ty = some d) (hd : d.isRow = false)
  (h : wpList P ops Q rest (a.put o.dst v) w) : wpList P ops Q (o :: rest) a w := by
 refine wpList_step fun K hK => ?_
 rw [if_pos hgd]
 have hc : w.cell? ⟨g, off, none⟩ = some v := (H.out.at k hi).cell (cat_cell hf hp)
 unfold Oper.wp execOp
 simp only [ho, hx, Instr.loadAt, Instr.sureAddr, Sem.run_bind, Sem.run_pure, Result.andThen_ok, run_loadVar_cell w g off ty v hc hu hd]
 exact hK _ _ h
theorem L_fv (H : Kp (Loc w0 w bs)) (hgd : Region.wanted o (yielded ops a.tmps) = true) (ty : TypeId) (x : Operand) (ho : o.op = .load ty x) (k : Nat) {g T : Nat} {ps : List Lf} (hi : bs[k]? = some (g, T, cat ps)) (off : Nat)
  (hx : a.eval x = .pointer (some ⟨g, off, none⟩)) (i : Nat) (hf : fat ps off = some i) {n : Nat} {cs : List Value} {hn ho'} (hp : nth ps i = some ⟨n, cs, hn, ho'⟩) {d : TypeDesc} (hu : P.underlying ty = some d) (hd : d.isRow = true) (hz : (P.info? ty).map (·.size) = some n)
  (h : wpList P ops Q rest (a.put o.dst (.agg cs.toArray)) w) : wpList P ops Q (o :: rest) a w :=
 L_subG H hgd ty x ho k hi off hx cs (cat_part hf hp) hu hd (by rw [hz, hn]) h
theorem L_fg (H : Kp (Loc w0 w bs)) (hgd : Region.wanted o (yielded ops a.tmps) = true) (ty : TypeId) (x : Operand) (ho : o.op = .load ty x) (k : Nat) {g T : Nat} {ps : List Lf} (hi : bs[k]? = some (g, T, cat ps)) (off : Nat)
  (hx : a.eval x = .pointer (some ⟨g, off, none⟩)) (i : Nat) (hf : fat ps off = some i) (qs : List Lf) (hp : (ps.drop i).take qs.length = qs) {d : TypeDesc} (hu : P.underlying ty = some d) (hd : d.isRow = true) (hz : (P.info? ty).map (·.size) = some (lsum qs))
  (h : wpList P ops Q rest (a.put o.dst (.agg (cat qs).toArray)) w) : wpList P ops Q (o :: rest) a w :=
 L_subG H hgd ty x ho k hi off hx (cat qs) (cat_group hf hp) hu hd (by rw [hz, cat_len]) h
theorem L_fa (H : Kp (Loc w0 w bs)) (hgd : Region.wanted o (yielded ops a.tmps) = true) (ty : TypeId) (x : Operand) (ho : o.op = .load ty x) (k : Nat) {g T : Nat} {ps : List Lf} (hi : bs[k]? = some (g, T, cat ps))
  (hx : a.eval x = .pointer (some ⟨g, 0, none⟩)) {d : TypeDesc} (hu : P.underlying ty = some d) (hd : d.isRow = true) (hz : (P.info? ty).map (·.size) = some (lsum ps))
  (h : wpList P ops Q rest (a.put o.dst (.agg (cat ps).toArray)) w) : wpList P ops Q (o :: rest) a w :=
 L_subG H hgd ty x ho k hi 0 hx (cat ps) (by rw [List.drop_zero, List.take_of_length_le (Nat.le_refl _)]) hu hd (by rw [hz, cat_len]) h
theorem L_sg (H : Kp (Loc w0 w bs)) (hgd : o.guard = none) (hdst : o.dst = none) (ty : TypeId) (x y : Operand) (ho : o.op = .store ty x y) (k : Nat) {g T : Nat} {ps : List Lf} (hi : bs[k]? = some (g, T, cat ps)) (off : Nat)
  (hx : a.eval x = .pointer (some ⟨g, off, none⟩)) (i : Nat) (hf : fat ps off = some i) (n : Nat) (qs : List Lf) (hy : a.eval y = .agg (cat qs).toArray) (hn : lsum ((ps.drop i).take n) = lsum qs) (hz : (P.info? ty).map (·.size) = some (lsum qs)) (new : List Lf) (hnew : pput ps i n qs = new)
  (h : ∀ w', Kp (Wrote w w' g) → Kp (Loc w0 w' (bs.set k (g, T, cat new))) → wpList P ops Q rest a w') : wpList P ops Q (o :: rest) a w :=
 L_seg H hgd hdst ty x y ho k hi off hx (cat qs) hy (by rw [hz, List.size_toArray, cat_len]) (by
  have := put_fits n hf
  rw [hn] at this
  simp only [List.size_toArray]; rw [cat_len qs]; exact this) (by have := cat_one qs; simpa using this) (cat new) (by rw [cat_put n hf hn, hnew]) h
theorem L_sv (H : Kp (Loc w0 w bs)) (hgd : o.guard = none) (hdst : o.dst = none) (ty : TypeId) (x y : Operand) (ho : o.op = .store ty x y) (k : Nat) {g T : Nat} {ps : List Lf} (hi : bs[k]? = some (g, T, cat ps)) (off : Nat)
  (hx : a.eval x = .pointer (some ⟨g, off, none⟩)) (i : Nat) (hf : fat ps off = some i) (q : Lf) (hy : a.eval y = .agg q.cs.toArray) {p : Lf} (hp : nth ps i = some p) (hn : p.n = q.n) (hz : (P.info? ty).map (·.size) = some q.n) (new : List Lf) (hnew : pput ps i 1 [q] = new)
  (h : ∀ w', Kp (Wrote w w' g) → Kp (Loc w0 w' (bs.set k (g, T, cat new))) → wpList P ops Q rest a w') : wpList P ops Q (o :: rest) a w :=
 L_sg H hgd hdst ty x y ho k hi off hx i hf 1 [q] (by rw [cat1]; exact hy) (by rw [nth_get hp]; simp [lsum, hn]) (by rw [hz]; simp [lsum]) new hnew h
theorem L_s1 (H : Kp (Loc w0 w bs)) (hgd : o.guard = none) (hdst : o.dst = none) (ty : TypeId) (x y : Operand) (ho : o.op = .store ty x y) (k : Nat) {g T : Nat} {ps : List Lf} (hi : bs[k]? = some (g, T, cat ps)) (off : Nat)
  (hx : a.eval x = .pointer (some ⟨g, off, none⟩)) (i : Nat) (hf : fat ps off = some i) (v : Value) (hy : a.eval y = v) (h1 : v.oneCell' = true) {p : Lf} (hp : nth ps i = some p) (hn : p.n = 1) (hz : (P.info? ty).map (·.size) = some 1) (new : List Lf) (hnew : pput ps i 1 [Lf.w v h1] = new)
  (h : ∀ w', Kp (Wrote w w' g) → Kp (Loc w0 w' (bs.set k (g, T, cat new))) → wpList P ops Q rest a w') : wpList P ops Q (o :: rest) a w := by
 refine L_cell H hgd hdst ty x y ho k hi off hx v hy h1 hz ?_ (cat new) ?_ h
 ·have := put_fits 1 hf
  rw [nth_get hp] at this
  simp only [List.take_succ_cons, List.take_zero, lsum, hn] at this
  omega
 ·have h2 := cat_put (qs := [Lf.w v h1]) 1 hf (by rw [nth_get hp]; simp [lsum, hn])
  rw [hnew] at h2
  rw [← h2, cat1]
  have h3 := put_fits 1 hf
  rw [nth_get hp] at h3
  simp only [List.take_succ_cons, List.take_zero, lsum, hn] at h3
  rw [List.set_eq_take_append_cons_drop, if_pos (by omega)]
  simp
theorem L_sa (H : Kp (Loc w0 w bs)) (hgd : o.guard = none) (hdst : o.dst = none) (ty : TypeId) (x y : Operand) (ho : o.op = .store ty x y) (k : Nat) {g T : Nat} {ps : List Lf} (hi : bs[k]? = some (g, T, cat ps))
  (hx : a.eval x = .pointer (some ⟨g, 0, none⟩)) (qs : List Lf) (hy : a.eval y = .agg (cat qs).toArray) (hn : lsum ps = lsum qs) (hz : (P.info? ty).map (·.size) = some (lsum qs))
  (h : ∀ w', Kp (Wrote w w' g) → Kp (Loc w0 w' (bs.set k (g, T, cat qs))) → wpList P ops Q rest a w') : wpList P ops Q (o :: rest) a w :=
 L_store H hgd hdst ty x y ho k hi hx (cat qs) hy (by rw [hz, List.size_toArray, cat_len]) (by rw [cat_len, cat_len, hn]) (by have := cat_one qs; simpa using this) h
end
end Go.Proofs.Ytibncchobkaaiaa
