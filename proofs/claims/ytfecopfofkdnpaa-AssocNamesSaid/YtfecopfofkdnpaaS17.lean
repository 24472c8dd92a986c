/- Texts of this proof, put together: Cmp, Num, Ent, SlE, Mem. -/
import Derived.Test.YtfecopfofkdnpaaS9
import Derived.Lib.Bytealg
import Derived.Laws.Externs
import Derived.Test.YtfecopfofkdnpaaS6
import Derived.Test.YtfecopfofkdnpaaS16
import Derived.Test.YtfecopfofkdnpaaS1
namespace Go.Proofs.Ytfecopfofkdnpaa
open Go.RowKit
def u8of (x : BitVec 8) : UInt8 := (wI x).toNat.toUInt8
theorem u8of_lt : ∀ x y : BitVec 8, u8of x < u8of y ↔ x.toNat < y.toNat := by
 intro x y
 unfold u8of wI
 have hx := x.isLt
 have hy := y.isLt
 rw [UInt8.lt_iff_toNat_lt]
 simp
theorem run_loadBytes {P : Program} (w : World) (b : Nat) : ∀ (l : List (BitVec 8)) (off : Nat) (acc : ByteArray), (∀ (j : Nat) x, l[j]? = some x → w.cell? ⟨b, off + j, none⟩ = some (V8 x)) →
  (Extern.Bytes.loadBytes ⟨b, off, none⟩ l.length acc).run P w = .ok ⟨⟨acc.data.toList ++ l.map u8of⟩⟩ w
 | [], off, acc, _ => by simp [Extern.Bytes.loadBytes]
 | x :: l, off, acc, h => by
  have h0 := h 0 x rfl
  rw [Nat.add_zero] at h0
  have ih := run_loadBytes (P := P) w b l (off + 1) (acc.push (u8of x)) fun j y hj => by
   have := h (j + 1) y (by simpa using hj)
   rwa [show off + (j + 1) = off + 1 + j by omega] at this
  simp only [List.length_cons, Extern.Bytes.loadBytes, Sem.run_bind, run_load, h0, Result.andThen]
  show (Extern.Bytes.loadBytes ⟨b, off + 1, none⟩ l.length (acc.push (u8of x))).run P w = _
  rw [ih]
  simp [ByteArray.push]
theorem cmpBytes_eq : ∀ {l m : List (BitVec 8)}, l.length = m.length → Lib.compareBytes (l.map u8of) (m.map u8of) = cmpF l m
 | [], [], _ => by simp [Lib.compareBytes, cmpF]
 | [], _ :: _, h => by simp at h
 | _ :: _, [], h => by simp at h
 | x :: l, y :: m, h => by
  have hl : l.length = m.length := by simpa using h
  have ih := cmpBytes_eq hl
  simp only [List.map_cons, Lib.compareBytes, u8of_lt]
  have h1 := num_lt_pow l
  have h2 := num_lt_pow m
  rw [hl] at h1
  have m1 : x.toNat < y.toNat → numF (x :: l) < numF (y :: m) := fun c => by
   rw [num_cons, num_cons, hl]
   have : (x.toNat + 1) * 256 ^ m.length ≤ y.toNat * 256 ^ m.length := Nat.mul_le_mul_right _ c
   rw [Nat.add_mul, Nat.one_mul] at this; omega
  have m2 : y.toNat < x.toNat → numF (y :: m) < numF (x :: l) := fun c => by
   rw [num_cons, num_cons, hl]
   have : (y.toNat + 1) * 256 ^ m.length ≤ x.toNat * 256 ^ m.length := Nat.mul_le_mul_right _ c
   rw [Nat.add_mul, Nat.one_mul] at this; omega
  by_cases c1 : x.toNat < y.toNat
  ·rw [if_pos c1, cmpF, if_pos (m1 c1)]
  ·by_cases c2 : y.toNat < x.toNat
   ·have := m2 c2
    rw [if_neg c1, if_pos c2, cmpF, if_neg (by omega), if_pos this]
   ·rw [if_neg c1, if_neg c2, ih]
    have e : x.toNat = y.toNat := by omega
    unfold cmpF
    rw [num_cons, num_cons, hl, e]
    simp only [Nat.add_lt_add_iff_left]
theorem run_cmp {P : Program} (w : World) (b1 b2 o1 o2 c1 c2 : Nat) (l m : List (BitVec 8)) (hlm : l.length = m.length) (h1 : ∀ (j : Nat) x, l[j]? = some x → w.cell? ⟨b1, o1 + j, none⟩ = some (V8 x)) (h2 : ∀ (j : Nat) x, m[j]? = some x → w.cell? ⟨b2, o2 + j, none⟩ = some (V8 x)) :
  (Extern.BytealgCompare.compare #[.slice (some ⟨b1, o1, none⟩) l.length c1, .slice (some ⟨b2, o2, none⟩) m.length c2]).run P w = .ok (.int .i64 (cmpF l m)) w := by
 change Sem.run P (do pure (goInt (Extern.BytealgCompare.cmp (← Extern.Bytes.bytesOf (.slice (some ⟨b1, o1, none⟩) l.length c1)) (← Extern.Bytes.bytesOf (.slice (some ⟨b2, o2, none⟩) m.length c2))))) w = _
 simp only [Extern.Bytes.bytesOf, Sem.run_bind, Sem.run_pure, run_loadBytes w b1 l o1 _ h1, run_loadBytes w b2 m o2 _ h2, Result.andThen]
 rw [Lib.cmp_eq]
 simp only [ByteArray.data_empty, List.nil_append]
 rw [cmpBytes_eq hlm]
 rfl
set_option maxRecDepth 100000 in
theorem bcompare_any (l m : List (BitVec 8)) (hl : l.length = 6) (hm : m.length = 6) (b1 b2 : Nat) (w : World) (h1 : Lc w b1 23 (l.map V8)) (h2 : Lc w b2 23 (m.map V8)) :
  Calls Try.prog 86 #[.slice (some ⟨b1, 0, none⟩) 6 6, .slice (some ⟨b2, 0, none⟩) 6 6] w fun e w' => e = .returned (.int .i64 (cmpF l m)) ∧ w' = w := by
 have HR : Kp ((Extern.BytealgCompare.compare #[.slice (some ⟨b1, 0, none⟩) 6 6, .slice (some ⟨b2, 0, none⟩) 6 6]).run Try.prog w = .ok (.int .i64 (cmpF l m)) w) := kp (by
  have := run_cmp (P := Try.prog) w b1 b2 0 0 6 6 l m (by rw [hl, hm]) (fun j x hj => by rw [Nat.zero_add]; exact h1.cell (by simp [hj])) (fun j x hj => by rw [Nat.zero_add]; exact h2.cell (by simp [hj]))
  rw [hl, hm] at this
  exact this)
 clear h1 h2 hl hm
 go_enter Try.func86, Try.ntmps86
 go_wp2_with fail
 rw [run_callFunc_extern Try.func103 (by kernel_rfl) (by kernel_rfl) (by kernel_rfl) (e := Extern.BytealgCompare.compare) (by kernel_rfl), HR.out]
 simp only [Result.andThen]
 rw [Oper.upon_value]
 go_wp2_with fail
 go_ret
 exact ⟨rfl, rfl⟩
theorem compareA_any (l m : List (BitVec 8)) (hl : l.length = 6) (hm : m.length = 6) (w : World) :
  Calls Try.prog 54 #[.agg (l.map V8).toArray, .agg (m.map V8).toArray] w fun e w' => e = .returned (.int .i64 (cmpF l m)) ∧ Ext w w' := by
 have H := kp (Loc.start w)
 have HB := kp (bcompare_any l m hl hm)
 clear hl hm
 go_enter Try.func54, Try.ntmps54
 go_wp2_with (first | ((with_reducible refine isBx 2 23 ?_); (with_reducible refine L_box H rfl 23 _ rfl (l.map V8) rfl ?_); clear H; intro g2 w2 HGg2 HEg2 H; simp only [pA]) | ((with_reducible refine isBx 3 23 ?_); (with_reducible refine L_box H rfl 23 _ rfl (m.map V8) rfl ?_); clear H; intro g3 w3 HGg3 HEg3 H; simp only [pA]))
 refine region_free H (tabS [(5, fun vQ _ => vQ = .slice (some ⟨g2, 0, none⟩) 6 6), (6, fun vQ _ => vQ = .slice (some ⟨g3, 0, none⟩) 6 6), (7, fun vQ _ => vQ = .int .i64 (cmpF l m)), (4, fun vQ _ => vQ = .int .i64 (cmpF l m))]) [] (tabS_out _ _ (by simp only [List.forall_mem_cons, mono_eqO, true_and]; simp)) 4 (by kernel_rfl) (by kernel_rfl) (by kernel_rfl) (by kernel_rfl) [] [] rfl rfl (by decide) (by decide) (by decide) trivial ?_
 simp only [List.take_succ_cons, List.take_zero]
 refine ⟨fun w_ o_ S_ => ?_, fun v5 => ?_⟩
 ·clear S_
  clear o_
  go_wp2_with fail
  exact kso
 simp only [pA]
 refine ⟨fun w_ o_ S_ => ?_, fun v6 => ?_⟩
 ·clear S_
  clear o_
  go_wp2_with fail
  exact kso
 simp only [pA]
 refine ⟨fun w_ o_ S_ => ?_, fun v7 => ?_⟩
 ·obtain rfl : v5 = .slice (some ⟨g2, 0, none⟩) 6 6 := hsR S_ 5 rfl
  obtain rfl : v6 = .slice (some ⟨g3, 0, none⟩) 6 6 := hsR S_ 6 rfl
  clear S_
  have H := kp (kK [0, 1] H o_)
  have HOX := kp o_
  clear o_
  go_wp2_with fail
  refine (HB.out g2 g3 _ (H.out.at 1 rfl) (H.out.at 0 rfl)).mono ?_
  rintro e wa ⟨rfl, rfl⟩
  go_wp2_with fail
  exact kso
 simp only [pA]
 refine ⟨fun w_ o_ S_ => ?_, fun v4 => ?_⟩
 ·obtain rfl : v7 = .int .i64 (cmpF l m) := hsR S_ 7 rfl
  clear S_ o_
  go_wp2_with fail
  exact kso
 simp only [pA]
 clear H
 intro w4 HOX H hfin
 obtain rfl : v5 = .slice (some ⟨g2, 0, none⟩) 6 6 := hfin 5 (by decide)
 obtain rfl : v6 = .slice (some ⟨g3, 0, none⟩) 6 6 := hfin 6 (by decide)
 obtain rfl : v7 = .int .i64 (cmpF l m) := hfin 7 (by decide)
 obtain rfl : v4 = .int .i64 (cmpF l m) := hfin 4 (by decide)
 clear hfin
 simp only [List.drop_succ_cons, List.drop_zero]
 simp only [applyS] at H
 have HXN := kp (HOX.out.ext (Ext.refl w3) (fun g hg => by cases hg))
 go_wp2_with fail
 go_ret
 exact ⟨rfl, H.out.1⟩
theorem cE0 {e : En} (h : e.addr.length = 6) : ((cellsE e).drop 0).take (e.addr.map V8).length = e.addr.map V8 := by
 obtain ⟨_, _, _, _, _, _, h1⟩ := six h; simp [cellsE, h1]
theorem cE6 {e : En} (h : e.addr.length = 6) : (cellsE e)[6]? = some (.int .u8 e.state) := by
 obtain ⟨_, _, _, _, _, _, h1⟩ := six h; simp [cellsE, h1]
theorem cE7 {e : En} (h : e.addr.length = 6) : (cellsE e)[7]? = some (.int .i64 e.aid) := by
 obtain ⟨_, _, _, _, _, _, h1⟩ := six h; simp [cellsE, h1]
theorem cE8 {e : En} (h : e.addr.length = 6) : (cellsE e)[8]? = some (.int .i64 e.caps) := by
 obtain ⟨_, _, _, _, _, _, h1⟩ := six h; simp [cellsE, h1]
theorem cE9 {e : En} (h : e.addr.length = 6) : (cellsE e)[9]? = some (.int .i64 e.listen) := by
 obtain ⟨_, _, _, _, _, _, h1⟩ := six h; simp [cellsE, h1]
theorem cE10 {e : En} (h : e.addr.length = 6) : (cellsE e)[10]? = some (.int .i64 e.seen) := by
 obtain ⟨_, _, _, _, _, _, h1⟩ := six h; simp [cellsE, h1]
theorem cellsE_len {e : En} (h : e.addr.length = 6) : (cellsE e).length = 11 := by simp [cellsE, h]
theorem sizeE {e : En} (h : e.addr.length = 6) : (Try.prog.info? 39).map (·.size) = some (cellsE e).length := by
 rw [cellsE_len h]; kernel_rfl
theorem sizeEa {e : En} (h : e.addr.length = 6) : (Try.prog.info? 39).map (·.size) = some (cellsE e).toArray.size := by
 rw [List.size_toArray]; exact sizeE h
theorem one_cellsE (e : En) : (cellsE e).toArray.all (·.oneCell') = true := by
 simp [cellsE, Value.oneCell', List.all_map]
set_option maxHeartbeats 1600000 in
theorem checkEntry_any (s : En) (hs : s.addr.length = 6) (w : World) :
  Calls Try.prog 53 #[.agg (cellsE s).toArray] w fun e w' => e = .returned (.bool (entF s)) ∧ Ext w w' := by
 have H := kp (Loc.start w)
 have HG := kp (group_any s.addr hs)
 have HM := kp (moment_any s.seen)
 have HW := kp within_any
 have HP := kp (cE0 hs)
 have HZ := kp (sizeA8 hs)
 have H6 := kp (cE6 hs)
 have H7 := kp (cE7 hs)
 have H8 := kp (cE8 hs)
 have H9 := kp (cE9 hs)
 have H10 := kp (cE10 hs)
 clear hs
 go_enter Try.func53, Try.ntmps53
 go_wp2_with (first | (((with_reducible refine isBx 1 39 ?_); (with_reducible refine L_box H rfl 39 _ rfl (cellsE s) rfl ?_); clear H; intro g1 w1 HGg1 HEg1 H; simp only [pA]); have hc6 := run_load_cell H.out 0 rfl _ _ H6.out; have hc7 := run_load_cell H.out 0 rfl _ _ H7.out; have hc8 := run_load_cell H.out 0 rfl _ _ H8.out; have hc9 := run_load_cell H.out 0 rfl _ _ H9.out; have hc10 := run_load_cell H.out 0 rfl _ _ H10.out) | ((with_reducible refine isLd 23 ?_); (first | (refine L_subG H (by kernel_rfl) 23 _ rfl 0 rfl (0) rfl (s.addr.map V8) (HP.out) Try.underlying23 rfl (HZ.out) ?_) | (refine L_subG H (by kernel_rfl) 23 _ rfl 1 rfl (0) rfl (s.addr.map V8) (HP.out) Try.underlying23 rfl (HZ.out) ?_) | (refine L_subG H (by kernel_rfl) 23 _ rfl 2 rfl (0) rfl (s.addr.map V8) (HP.out) Try.underlying23 rfl (HZ.out) ?_) | (refine L_subG H (by kernel_rfl) 23 _ rfl 3 rfl (0) rfl (s.addr.map V8) (HP.out) Try.underlying23 rfl (HZ.out) ?_) | (refine L_subG H (by kernel_rfl) 23 _ rfl 4 rfl (0) rfl (s.addr.map V8) (HP.out) Try.underlying23 rfl (HZ.out) ?_) | (refine L_subG H (by kernel_rfl) 23 _ rfl 5 rfl (0) rfl (s.addr.map V8) (HP.out) Try.underlying23 rfl (HZ.out) ?_)); simp only [pA]) | (go_at_call 51; clear hc6 hc7 hc8 hc9 hc10; refine (HG.out _).mono ?_; rintro e wa ⟨rfl, hx⟩; replace H := kp (H.out.ext hx); have HXC := kp hx; clear hx; have hc6 := run_load_cell H.out 0 rfl _ _ H6.out; have hc7 := run_load_cell H.out 0 rfl _ _ H7.out; have hc8 := run_load_cell H.out 0 rfl _ _ H8.out; have hc9 := run_load_cell H.out 0 rfl _ _ H9.out; have hc10 := run_load_cell H.out 0 rfl _ _ H10.out) | (go_at_call 56; clear hc6 hc7 hc8 hc9 hc10; refine (HM.out _).mono ?_; rintro e wa ⟨rfl, hx⟩; replace H := kp (H.out.ext hx); have HXC := kp hx; clear hx; have hc6 := run_load_cell H.out 0 rfl _ _ H6.out; have hc7 := run_load_cell H.out 0 rfl _ _ H7.out; have hc8 := run_load_cell H.out 0 rfl _ _ H8.out; have hc9 := run_load_cell H.out 0 rfl _ _ H9.out; have hc10 := run_load_cell H.out 0 rfl _ _ H10.out) | (go_at_call 52; clear hc6 hc7 hc8 hc9 hc10; refine (HW.out _ _ _ _).mono ?_; rintro e wa ⟨rfl, hx⟩; replace H := kp (H.out.ext hx); have HXC := kp hx; clear hx; have hc6 := run_load_cell H.out 0 rfl _ _ H6.out; have hc7 := run_load_cell H.out 0 rfl _ _ H7.out; have hc8 := run_load_cell H.out 0 rfl _ _ H8.out; have hc9 := run_load_cell H.out 0 rfl _ _ H9.out; have hc10 := run_load_cell H.out 0 rfl _ _ H10.out))
 all_goals (go_ret; exact ⟨by simp [entF, *] <;> simp_all, H.out.1⟩)
theorem info_En : (Try.prog.info? 39).map (fun i => (i.zero.map (·.cells.size), i.size, i.bytes)) = some (some 11, 11, 40) := by kernel_rfl
theorem info_Fr : (Try.prog.info? 31).map (fun i => (i.zero.map (·.cells.size), i.size, i.bytes)) = some (some 41, 41, 104) := by kernel_rfl
theorem elemT_of {t e : TypeId} {sz b : Nat} (hu : Try.prog.underlying t = some (.slice e)) (h : (Try.prog.info? e).map (fun i => (i.zero.map (·.cells.size), i.size, i.bytes)) = some (some sz, sz, b)) (hp : 0 < sz) : ElemT Try.prog t e sz b := by
 refine ⟨hu, ?_, hp⟩
 cases hq : Try.prog.info? e with
 | none => simp [hq] at h
 | some i =>
  cases hz : i.zero with
  | none => simp [hq, hz] at h
  | some z => simp [hq, hz] at h; exact ⟨i, z, rfl, hz, h.2.1, h.2.2, h.1⟩
theorem elemEn : ElemT Try.prog 24 39 11 40 := elemT_of Try.underlying24 info_En (by decide)
theorem elemFr : ElemT Try.prog 51 31 41 104 := elemT_of Try.underlying51 info_Fr (by decide)
theorem flat_get {α : Type} {sz : Nat} {f : α → List Value} (hz : 0 < sz) {xs : List α} (hf : ∀ x ∈ xs, (f x).length = sz) {j : Nat} {u : Value} (hu : (xs.flatMap f)[j]? = some u) : ∃ x, xs[j / sz]? = some x ∧ (f x)[j % sz]? = some u := by
 have hl := flatMap_len xs hf
 have hj : j < xs.length * sz := by rw [← hl]; exact (List.getElem?_eq_some_iff.1 hu).1
 have hd : j / sz < xs.length := (Nat.div_lt_iff_lt_mul hz).2 hj
 obtain ⟨x, hx⟩ : ∃ x, xs[j / sz]? = some x := ⟨xs[j / sz], by simp [hd]⟩
 refine ⟨x, hx, ?_⟩
 have h1 := flatMap_at xs hf (j / sz) x hx
 have h3 : (((xs.flatMap f).drop (j / sz * sz)).take sz)[j % sz]? = some u := by
  rw [List.getElem?_take, if_pos (Nat.mod_lt _ hz), List.getElem?_drop, show j / sz * sz + j % sz = j by rw [Nat.mul_comm]; exact Nat.div_add_mod j sz]; exact hu
 rwa [h1] at h3
theorem SlT.cells {α : Type} {sz : Nat} {f : α → List Value} (hz : 0 < sz) {w : World} {xs : List α} {a : Addr} {n c : Nat} (hf : ∀ x ∈ xs, (f x).length = sz) (h : SlT sz f w (.slice (some a) n c) xs) : ∀ j u, (xs.flatMap f)[j]? = some u → w.cell? (a.add j) = some u := by
 intro j u hu
 obtain ⟨x, hx, hq⟩ := flat_get hz hf hu
 obtain ⟨ad, n', c', he, hn, hc, hat⟩ := h
 obtain ⟨b, off, rfl, hb, hr⟩ := hat _ _ hx
 cases he
 rw [Addr.add_mid]
 have := hr _ _ hq
 rwa [Nat.add_assoc, show j / sz * sz + j % sz = j by rw [Nat.mul_comm]; exact Nat.div_add_mod j sz] at this
def OwE (B : Nat) (w : World) (v : Value) (l : List En) : Prop := w.ownsRow B 39 11 v l.length (l.flatMap cellsE)
theorem OwE.slt {B : Nat} {w : World} {v : Value} {l : List En} (h : OwE B w v l) (hl : ∀ x ∈ l, x.addr.length = 6) : SlT 11 cellsE w v l := SlT.of_owns (fun x hx => cellsE_len (hl x hx)) h
theorem OwE.ext {B : Nat} {w w' : World} {v : Value} {l : List En} (h : OwE B w v l) (hx : Ext w w') : OwE B w' v l := ownsT_ext h hx
theorem OwE.nil (B : Nat) (w : World) : OwE B w (.slice none 0 0) [] := ownsT_nil w B _ 11
theorem OwE.empty (w : World) (B : Nat) (hb : B ≤ w.heap.size) : OwE B (w.alloc (.cells #[] 39)) (.slice (some ⟨w.heap.size, 0, none⟩) 0 0) [] :=
 ⟨rfl, .inr ⟨w.heap.size, 0, #[], rfl, hb, hp_new _ _, Nat.le_refl _, Nat.zero_le _, rfl, rfl⟩⟩
theorem one_flat (l : List En) : ∀ u ∈ l.flatMap cellsE, u.oneCell' = true := by
 intro u hu
 obtain ⟨e, _, h⟩ := List.mem_flatMap.1 hu
 simp only [cellsE, List.mem_append, List.mem_map, List.mem_cons, List.not_mem_nil, or_false] at h
 rcases h with ⟨_, _, rfl⟩ | rfl | rfl | rfl | rfl | rfl <;> rfl
def RetE (l : List En) (w : World) (e : Ending) (w' : World) : Prop := ∃ v, e = .returned v ∧ OwE w.heap.size w' v l ∧ Ext w w'
theorem eq_nilE : ∀ (w : World) (a : Option Addr) (n c : Nat), (binOp .eql 24 (.slice a n c) (.slice none 0 0)).run Try.prog w = .ok (.bool a.isNone) w := fun w a n c => Lib.run_eql_slice_nil w 24 39 a n c 0 0 Try.underlying24
set_option maxHeartbeats 800000 in
theorem cloneE_any (v : Value) (l : List En) (hl : ∀ x ∈ l, x.addr.length = 6) (hn : l.length ≤ 100000) (w : World) (hs : SlT 11 cellsE w v l) : Calls Try.prog 90 #[v] w (RetE l w) := by
 have HS := kp (hs.ext (Ext.alloc w (.cells #[] 39)))
 obtain ⟨ad, n, c, rfl, hnl, hcap, hat⟩ := hs
 have HOE := kp (OwE.empty w w.heap.size (Nat.le_refl _))
 have HLL := kp (flatMap_len l (fun x hx => cellsE_len (hl x hx)))
 have HN1 := kp (show 0 + n ≤ maxLen by simp only [maxLen]; omega)
 have HN2 := kp (show (0 + n) * 40 ≤ 140737488355328 by omega)
 have hq := eq_nilE
 cases ad with
 | none =>
  have hl0 : l = [] := by
   cases l with
   | nil => rfl
   | cons x l =>
    obtain ⟨b, off, h, _⟩ := hat 0 x rfl
    cases h
  subst hl0
  clear hat hl
  go_enter Try.func90, Try.ntmps90
  go_wp2_with fail
  go_ret
  exact ⟨_, rfl, OwE.nil _ _, Ext.refl _⟩
 | some a =>
  have HCE := kp (HS.out.cells (by decide) (fun x hx => cellsE_len (hl x hx)))
  clear hat hl
  obtain ⟨i, z, hi, hz, hsz, hby, hzs⟩ := elemEn.info
  subst hnl
  go_enter Try.func90, Try.ntmps90
  go_wp2_with (at_builtin; refine wpList_append_own _ rfl _ _ _ rfl w.heap.size _ i z 11 40 Try.underlying24 hi hz hsz hby hzs (by decide) _ 0 [] rfl HOE.out a l.length c (l.flatMap cellsE) rfl HLL.out HCE.out (one_flat l) HN1.out HN2.out (by simp) ?_; intro v2 w2 ho2 hg2 _)
  go_ret
  exact ⟨v2, rfl, by simpa [OwE] using ho2, (Ext.alloc _ _).grown hg2 (fun q hq => ownsT_block HOE.out q hq)⟩
theorem mem_take (l : List En) (j : Nat) (x : En) (h : l[j]? = some x) : membersF (l.take (j + 1)) = membersF (l.take j) + if x.state == 2 then 1 else 0 := by
 unfold membersF
 rw [List.take_add_one, h, Option.toList_some, List.countP_append, List.countP_singleton]
theorem mem_le (l : List En) : membersF l ≤ l.length := List.countP_le_length
set_option maxHeartbeats 1600000 in
theorem members_any (a : As) (ha : a.own.length = 6) (v : Value) (l : List En) (hl : ∀ x ∈ l, x.addr.length = 6) (hn : l.length ≤ 100000) (w : World) (hs : SlT 11 cellsE w v l) :
  Calls Try.prog 55 #[.agg (cellsA a v).toArray] w fun e w' => e = .returned (.int .i64 (membersF l)) ∧ Ext w w' := by
 obtain ⟨ad, n, c, rfl, hnl, hcap, hat⟩ := hs; have HAT := kp hat; have HNL := kp hnl; have HLK := kp hl; have H := kp (Loc.start w); have hn2 : n ≤ 100000 := by omega
 have HC9 := kp (cA9 (a := a) (.slice ad n c) ha)
 have HZE0 := kp (show (Try.prog.info? 39).map (·.size) = some (cellsE en0).length by kernel_rfl)
 have HOE := kp one_cellsE
 clear hat hl hnl hcap hn ha
 go_enter Try.func55, Try.ntmps55
 go_wp2_with (first | (((with_reducible refine isBx 1 26 ?_); (with_reducible refine L_box H rfl 26 _ rfl (cellsA a (.slice ad n c)) rfl ?_); clear H; intro g1 w1 HGg1 HEg1 H; simp only [pA]); have hc9 := run_load_cell H.out 0 rfl _ _ HC9.out))
 clear hc9
 go_loopw [8, 2] (fun i m wr => ∃ j : Nat, j ≤ n ∧ i = .int .i64 j ∧ m = .int .i64 (membersF (l.take j)) ∧ Kp (Loc w wr [(g1, 26, cellsA a (.slice ad n c))])) (fun i _ _ => n - (intOf i).toNat)
 case atStart => exact ⟨0, by omega, rfl, rfl, H⟩
 case round =>
  obtain ⟨j, hj, rfl, rfl, H⟩ := hrel
  by_cases hlt : j < n
  ·obtain ⟨x, hx⟩ : ∃ x, l[j]? = some x := ⟨l[j]'(by rw [← HNL.out]; omega), by simp⟩
   obtain ⟨b, off, rfl, hb, hr⟩ := HAT.out j x hx; have HB := kp hb; have HR := kp hr; have HX := kp hx; have HXK := kp (HLK.out x (List.mem_of_getElem? hx)); clear hb hr hx
   have HR3 := kp (rangeAt_ext HR.out HB.out H.out.1)
   have HZX := kp (sizeE HXK.out)
   have HZXa := kp (sizeEa HXK.out)
   have HLE := kp (show (cellsE en0).length = (cellsE x).length by rw [cellsE_len HXK.out]; rfl)
   have H6 := kp (cE6 HXK.out)
   have HML := kp (mem_le (l.take j))
   have HMT := kp (mem_take l j x HX.out)
   have HJL := kp (show (l.take j).length ≤ j from List.length_take_le _ _)
   generalize hm : membersF (l.take j) = m at *
   have hmj : m ≤ 100000 := by have h1 := HML.out; have h2 := HJL.out; omega
   by_cases h2 : x.state = 2
   ·have hb2 : (x.state == 2) = true := by simp [h2]
    rw [hb2] at HMT
    clear h2
    go_wp2_with (first | ((with_reducible refine isLd 39 ?_); (refine wpList_load_midG (by kernel_rfl) 39 _ rfl (b) (off + j * 11) rfl (cellsE x) _ (HR3.out) Try.underlying39 rfl (HZX.out) ?_); simp only [pA]) | ((with_reducible refine isAl 4 39 ?_); (with_reducible refine L_alloc H rfl 39 rfl (cellsE en0) (fun _ _ => by kernel_rfl) ?_); clear H; intro g4 w4 HGg4 HEg4 H; simp only [pA]) | (((with_reducible refine isSt 39 ?_); (first | (refine L_store H rfl rfl 39 _ _ rfl 0 rfl rfl (cellsE x) rfl (HZXa.out) (HLE.out) (HOE.out _) ?_; clear H; intro w5 HWw5 H; simp only [szA] at H) | (refine L_store H rfl rfl 39 _ _ rfl 1 rfl rfl (cellsE x) rfl (HZXa.out) (HLE.out) (HOE.out _) ?_; clear H; intro w5 HWw5 H; simp only [ssA, szA] at H) | (refine L_store H rfl rfl 39 _ _ rfl 2 rfl rfl (cellsE x) rfl (HZXa.out) (HLE.out) (HOE.out _) ?_; clear H; intro w5 HWw5 H; simp only [ssA, szA] at H) | (refine L_store H rfl rfl 39 _ _ rfl 3 rfl rfl (cellsE x) rfl (HZXa.out) (HLE.out) (HOE.out _) ?_; clear H; intro w5 HWw5 H; simp only [ssA, szA] at H) | (refine L_store H rfl rfl 39 _ _ rfl 4 rfl rfl (cellsE x) rfl (HZXa.out) (HLE.out) (HOE.out _) ?_; clear H; intro w5 HWw5 H; simp only [ssA, szA] at H) | (refine L_store H rfl rfl 39 _ _ rfl 5 rfl rfl (cellsE x) rfl (HZXa.out) (HLE.out) (HOE.out _) ?_; clear H; intro w5 HWw5 H; simp only [ssA, szA] at H))); have hc6 := run_load_cell H.out 0 rfl _ _ H6.out))
    go_roundw
    case rel => exact ⟨j + 1, by omega, by go_num, by rw [HMT.out]; go_num, kp H.out.tl⟩
    case measure => simp [intOf]; omega
   ·have hb2 : (x.state == 2) = false := by simp [h2]
    rw [hb2] at HMT
    clear h2
    go_wp2_with (first | ((with_reducible refine isLd 39 ?_); (refine wpList_load_midG (by kernel_rfl) 39 _ rfl (b) (off + j * 11) rfl (cellsE x) _ (HR3.out) Try.underlying39 rfl (HZX.out) ?_); simp only [pA]) | ((with_reducible refine isAl 4 39 ?_); (with_reducible refine L_alloc H rfl 39 rfl (cellsE en0) (fun _ _ => by kernel_rfl) ?_); clear H; intro g4 w4 HGg4 HEg4 H; simp only [pA]) | (((with_reducible refine isSt 39 ?_); (first | (refine L_store H rfl rfl 39 _ _ rfl 0 rfl rfl (cellsE x) rfl (HZXa.out) (HLE.out) (HOE.out _) ?_; clear H; intro w5 HWw5 H; simp only [szA] at H) | (refine L_store H rfl rfl 39 _ _ rfl 1 rfl rfl (cellsE x) rfl (HZXa.out) (HLE.out) (HOE.out _) ?_; clear H; intro w5 HWw5 H; simp only [ssA, szA] at H) | (refine L_store H rfl rfl 39 _ _ rfl 2 rfl rfl (cellsE x) rfl (HZXa.out) (HLE.out) (HOE.out _) ?_; clear H; intro w5 HWw5 H; simp only [ssA, szA] at H) | (refine L_store H rfl rfl 39 _ _ rfl 3 rfl rfl (cellsE x) rfl (HZXa.out) (HLE.out) (HOE.out _) ?_; clear H; intro w5 HWw5 H; simp only [ssA, szA] at H) | (refine L_store H rfl rfl 39 _ _ rfl 4 rfl rfl (cellsE x) rfl (HZXa.out) (HLE.out) (HOE.out _) ?_; clear H; intro w5 HWw5 H; simp only [ssA, szA] at H) | (refine L_store H rfl rfl 39 _ _ rfl 5 rfl rfl (cellsE x) rfl (HZXa.out) (HLE.out) (HOE.out _) ?_; clear H; intro w5 HWw5 H; simp only [ssA, szA] at H))); have hc6 := run_load_cell H.out 0 rfl _ _ H6.out))
    go_roundw
    case rel => exact ⟨j + 1, by omega, by go_num, by rw [HMT.out]; rfl, kp H.out.tl⟩
    case measure => simp [intOf]; omega
  ·obtain rfl : j = n := by omega
   go_wp2_with fail
   go_ret
   exact ⟨congrArg (fun z => Ending.returned (.int .i64 (membersF z))) (List.take_of_length_le (by rw [HNL.out]; exact Nat.le_refl _)), H.out.1⟩
end Go.Proofs.Ytfecopfofkdnpaa
