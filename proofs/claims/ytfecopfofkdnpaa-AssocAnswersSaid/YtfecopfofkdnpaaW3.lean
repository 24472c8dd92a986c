/- Texts of this proof, put together: Enc. -/
import Derived.Test.YtfecopfofkdnpaaW2
import Derived.Test.YtfecopfofkdnpaaS1
import Derived.Test.YtfecopfofkdnpaaS2
import Derived.Test.YtfecopfofkdnpaaS3
import Derived.Test.YtfecopfofkdnpaaS4
import Derived.Test.YtfecopfofkdnpaaS5
import Derived.Test.YtfecopfofkdnpaaS6
import Derived.Test.YtfecopfofkdnpaaS7
import Derived.Test.YtfecopfofkdnpaaS8
import Derived.Test.YtfecopfofkdnpaaS9
import Derived.Test.YtfecopfofkdnpaaS10
import Derived.Test.YtfecopfofkdnpaaS11
import Derived.Test.YtfecopfofkdnpaaS12
import Derived.Test.YtfecopfofkdnpaaS13
import Derived.Test.YtfecopfofkdnpaaS14
import Derived.Test.YtfecopfofkdnpaaS15
import Derived.Test.YtfecopfofkdnpaaS16
import Derived.Test.YtfecopfofkdnpaaS17
import Derived.Test.YtfecopfofkdnpaaS18
import Derived.Test.YtfecopfofkdnpaaS19
import Derived.Test.YtfecopfofkdnpaaS20
import Derived.Test.YtfecopfofkdnpaaS21
import Derived.Test.YtfecopfofkdnpaaS22
import Derived.Test.YtfecopfofkdnpaaS23
import Derived.Test.YtfecopfofkdnpaaS24
import Derived.Test.YtfecopfofkdnpaaS25
import Derived.Test.YtfecopfofkdnpaaS26
import Derived.Test.YtfecopfofkdnpaaS27
import Derived.Test.YtfecopfofkdnpaaS28
import Derived.Test.YtfecopfofkdnpaaS29
import Derived.Test.YtfecopfofkdnpaaS30
import Derived.Test.YtfecopfofkdnpaaW1
namespace Go.Proofs.Ytfecopfofkdnpaa
open Go.RowKit
theorem L_appT8 {w0 w : World} {bs : List Bk} {ops : Array Oper} {rest : List Oper} {o : Oper} {a : Act} {Q : Exit → Act → World → Prop} (H : Kp (Loc w0 w bs)) (hgd : o.guard = none) (s x : Operand)
  (ho : o.op = .call { callee := .builtin .append, args := #[s, x], argTypes := #[29, 29] })
  (base : Nat) (hb0 : w0.heap.size ≤ base) (hbase : base ≤ w.heap.size) (v : Value) (l : List (BitVec 8)) (hs : a.eval s = v) (hown : OwB base w v l) (hty : ∀ b ∈ bs, 5 ≠ b.2.1)
  (vx : Value) (m : List (BitVec 8)) (hx : a.eval x = vx) (hsl : SlB w vx m) (hlen : l.length + m.length ≤ 1000000)
  (h : ∀ v' w', Kp (OwB base w' v' (l ++ m)) → Kp (Loc w0 w' bs) → wpList Try.prog ops Q rest (a.put o.dst v') w') : wpList Try.prog ops Q (o :: rest) a w :=
 L_appB2 H hgd s x ho base hb0 hbase v l hs hown (fun g hg => by
  obtain ⟨b, hb, rfl⟩ := List.mem_map.1 hg
  exact sep_ty hown (H.out.2.2 b hb).2 (hty b hb)) vx m hx hsl hlen (fun v' w' h1 _ h2 => h v' w' h1 h2)
def P16 (base n : Nat) (w0 : World) (bs : List Bk) (e : Ending) (w' : World) : Prop := ∃ v l, e = .returned v ∧ l.length = n + 2 ∧ OwB base w' v l ∧ Loc w0 w' bs
theorem own_lt {w : World} {base E sz n g : Nat} {v : Value} {xs : List Value} (h : w.ownsRow base E sz v n xs) (hg : w.heap.size ≤ g) : v.ownBlock ≠ some g := by
 obtain ⟨h1, ⟨h2, h3⟩ | ⟨b, cap, cur, h3, hb, hh, h4⟩⟩ := h
 ·subst h2; intro e; cases e
 ·subst h3
  intro e
  have e2 : b = g := by simpa [Value.ownBlock] using e
  have := (Array.getElem?_eq_some_iff.1 hh).1
  omega
set_option maxHeartbeats 1600000 in
theorem put16H_any (w0 w : World) (bs : List Bk) (H : Kp (Loc w0 w bs)) (base : Nat) (hb0 : w0.heap.size ≤ base) (hbase : base ≤ w.heap.size) (v : Value) (l : By) (hl : l.length ≤ 100) (ho : OwB base w v l) (hty : ∀ b ∈ bs, 5 ≠ b.2.1) :
  Calls Try.prog 100 #[v, .int .i64 0] w (P16 base l.length w0 bs) := by
 have HB0 := kp hb0
 have HTY := kp hty
 have HO := kp ho
 have HLN := kp (show l.length + ([0, 0].map (BitVec.ofInt 8)).length ≤ 1000000 by simp; omega)
 have HBB := kp hbase
 clear hty ho hb0 hl hbase
 go_enter Try.func100, Try.ntmps100
 go_wp2_with (first | (((with_reducible show wpList _ _ _ (Oper.mk (some 11) (Op.buildSlice 29 _ _) _ _ _ _ :: _) _ _); (refine L_bs H (by kernel_rfl) 29 2 _ rfl (#[(0, .int .u8 0), (1, .int .u8 0)]) (by kernel_rfl) 5 (([0, 0].map fun x => Value.int .u8 (x % 256))) (fun _ => by kernel_rfl) ?_); clear H; intro g11 w11 HGg11 HEg11 H; refine unput (d := some _) ?_); have HO2 := kp (owns_ext HO.out HEg11.out); have HB1 := kp (Nat.le_trans HBB.out HEg11.out.size); have HSEP := kp (show ∀ g ∈ ((g11, 5, ([0, 0].map fun x => Value.int .u8 (x % 256))) :: bs).map (·.1), v.ownBlock ≠ some g from fun g hg => by
  rcases List.mem_cons.1 hg with rfl | hg
  ·exact own_lt HO.out (Nat.le_of_eq HGg11.out.symm)
  ·obtain ⟨b, hb, rfl⟩ := List.mem_map.1 hg
   exact sep_ty HO2.out (H.out.tail.2.2 b hb).2 (HTY.out b hb))) | (at_builtin; (with_reducible show wpList _ _ _ (Oper.mk (some 12) _ _ _ _ _ :: _) _ _); refine L_appB2 H rfl _ _ rfl base HB0.out HB1.out _ _ rfl HO2.out HSEP.out _ _ rfl (slb_ints [0, 0] (H.out.at 0 rfl)) HLN.out ?_; clear H; intro v1 wb HO3 HGB H; refine unput (d := some _) ?_))
 go_ret
 exact ⟨_, _, rfl, by simp, HO3.out, H.out.tail⟩
theorem slb_part {w : World} {g T : Nat} {ps : List Lf} (h : Lc w g T (cat ps)) {off i : Nat} {l : By} (hl : l.length = 6) (hf : fat ps off = some i) (hp : nth ps i = some (Lf.v ⟨l, hl⟩)) : SlB w (.slice (some ⟨g, off, none⟩) 6 6) l := by
 refine .inr ⟨g, off, 6, by rw [hl], h.lt, fun j x hx => ?_⟩
 have h1 := cat_part hf hp
 have hj := (List.getElem?_eq_some_iff.1 hx).1
 refine h.cell ?_
 have h2 : ((l.map V8))[j]? = some (V8 x) := by rw [List.getElem?_map, hx]; rfl
 have h3 : (Lf.v ⟨l, hl⟩).cs = l.map V8 := rfl
 rw [← h3, ← h1, List.getElem?_take] at h2
 split at h2
 ·rw [List.getElem?_drop] at h2; exact h2
 ·cases h2
theorem known_sub {sub : Int} (h : subsA sub) : knownF 0 sub = ((true, true, false), true) := by rcases h with rfl | rfl | rfl | rfl | rfl <;> rfl
def WrF (w : World) (bs : List Bk) (vs : Tmp → Value) (wr : World) : Prop := ∃ i : Nat, i ≤ 7 ∧ vs 40 = .int .i64 i ∧ vs 5 = .int .u8 0 ∧ Kp (Loc w wr bs)
def WrC (w : World) (bs : List Bk) (vs : Tmp → Value) (wr : World) : Prop := ∃ (v : Value) (l : By), vs 8 = v ∧ Kp (l.length = 4) ∧ Kp (OwB w.heap.size wr v l) ∧ Kp (Loc w wr bs)
def WrA (w : World) (bs : List Bk) (vs : Tmp → Value) (wr : World) : Prop := ∃ (j : Nat) (v : Value) (l : By), j ≤ 3 ∧ vs 69 = .int .i64 j ∧ vs 8 = v ∧ Kp (l.length = 4 + 6 * j) ∧ Kp (OwB w.heap.size wr v l) ∧ Kp (Loc w wr bs)
def WrZ (w0 : World) (vs : Tmp → Value) (wr : World) : Prop := vs 91 = .int .i64 0 ∧ wr = w0
def WrR (w : World) (e : Ending) (w' : World) : Prop := ∃ l, l.length ≤ 100 ∧ RetO l w e w'
theorem cat_M (a : As) (ha : a.own.length = 6) (t : By) (ht : t.length = 6) (sub : Int) : cellsH (msgH a t sub) = cat (partsM a ha t ht sub) := by simp [cellsH, msgH, partsM, cat]
theorem places_msg (a : As) (ha : a.own.length = 6) (t : By) (ht : t.length = 6) (sub : Int) (g1 : Nat) (w0 : World) (hg : Lc w0 g1 28 (cat (partsM a ha t ht sub))) :
  Calls Try.prog 65 #[.pointer (some ⟨g1, 0, none⟩)] w0 fun e w' => ∃ g4, w0.heap.size ≤ g4 ∧ Lc w' g4 160 (ptrs g1) ∧ Ext w0 w' ∧ e = .returned (.tuple #[.slice (some ⟨g4, 0, none⟩) 3 4, .slice none 0 0]) :=
 (places_any (msgH a t sub) g1 w0 (by rw [cat_M a ha t ht]; exact hg)).mono fun e w' ⟨g4, h1, h2, h3, h4⟩ => ⟨g4, h1, h2, h3, h4⟩
set_option maxRecDepth 4000 in
set_option maxHeartbeats 3200000 in
theorem write_any (a : As) (ha : a.own.length = 6) (t : By) (ht : t.length = 6) (sub : Int) (hs : subsA sub) (w : World) :
  Calls Try.prog 79 #[.agg (cat (partsM a ha t ht sub)).toArray] w (WrR w) := by
 have H := kp (Loc.start w)
 have HKN := kp (fun w => known_any 0 sub w)
 rw [known_sub hs] at HKN
 have HS := kp hs
 have HZf := kp (show (Try.prog.info? 117).map (·.size) = some (cellsFm (true, true, false)).toArray.size by kernel_rfl)
 have HOf := kp (show (cellsFm (true, true, false)).toArray.all (·.oneCell') = true by simp [cellsFm, Value.oneCell'])
 clear hs
 go_enter Try.func79, Try.ntmps79
 generalize hr4 : (Code.block 0 _ : Code) = C4
 generalize hr9 : (Code.region 9 _ _ : Code) = R9
 generalize hr10 : (Code.region 10 _ _ : Code) = R10
 generalize hr12 : (Code.block 2 _ : Code) = C12
 generalize hr16 : (Code.region 16 _ _ : Code) = R16
 generalize hr18 : (Code.region 18 _ _ : Code) = R18
 go_wp2_with (first | ((with_reducible refine isBx 1 28 ?_); (refine L_box H rfl 28 _ rfl (cat (partsM a ha t ht sub)) rfl ?_); clear H; intro g1 w1 HGg1 HEg1 H; refine unput (d := some _) ?_) | ((with_reducible refine isLd 5 ?_); (first | (refine L_f1 H rfl 5 _ rfl 0 rfl _ rfl _ rfl _ rfl Try.underlying5 rfl ?_) | (refine L_f1 H rfl 5 _ rfl 1 rfl _ rfl _ rfl _ rfl Try.underlying5 rfl ?_) | (refine L_f1 H rfl 5 _ rfl 2 rfl _ rfl _ rfl _ rfl Try.underlying5 rfl ?_) | (refine L_f1 H rfl 5 _ rfl 3 rfl _ rfl _ rfl _ rfl Try.underlying5 rfl ?_) | (refine L_f1 H rfl 5 _ rfl 4 rfl _ rfl _ rfl _ rfl Try.underlying5 rfl ?_) | (refine L_f1 H rfl 5 _ rfl 5 rfl _ rfl _ rfl _ rfl Try.underlying5 rfl ?_)); refine unput (d := some _) ?_) | (go_at_call 64; refine (HKN.out _).mono ?_; rintro e w2 ⟨rfl, hx⟩; replace H := kp (H.out.ext hx); have HXC := kp hx; clear hx) | ((with_reducible refine isAl 3 117 ?_); (with_reducible refine L_alloc H rfl 117 rfl (cellsFm (false, false, false)) (fun _ _ => by kernel_rfl) ?_); clear H; intro g3 w3 HGg3 HEg3 H; refine unput (d := some _) ?_) | ((with_reducible refine isSt 117 ?_); (first | (refine L_store H rfl rfl 117 _ _ rfl 0 rfl rfl (cellsFm (true, true, false)) rfl (HZf.out) (rfl) (HOf.out) ?_; clear H; intro w3b HWw3b H; simp only [szA] at H) | (refine L_store H rfl rfl 117 _ _ rfl 1 rfl rfl (cellsFm (true, true, false)) rfl (HZf.out) (rfl) (HOf.out) ?_; clear H; intro w3b HWw3b H; simp only [ssA, szA] at H) | (refine L_store H rfl rfl 117 _ _ rfl 2 rfl rfl (cellsFm (true, true, false)) rfl (HZf.out) (rfl) (HOf.out) ?_; clear H; intro w3b HWw3b H; simp only [ssA, szA] at H) | (refine L_store H rfl rfl 117 _ _ rfl 3 rfl rfl (cellsFm (true, true, false)) rfl (HZf.out) (rfl) (HOf.out) ?_; clear H; intro w3b HWw3b H; simp only [ssA, szA] at H) | (refine L_store H rfl rfl 117 _ _ rfl 4 rfl rfl (cellsFm (true, true, false)) rfl (HZf.out) (rfl) (HOf.out) ?_; clear H; intro w3b HWw3b H; simp only [ssA, szA] at H) | (refine L_store H rfl rfl 117 _ _ rfl 5 rfl rfl (cellsFm (true, true, false)) rfl (HZf.out) (rfl) (HOf.out) ?_; clear H; intro w3b HWw3b H; simp only [ssA, szA] at H))) | ((with_reducible refine isLd 4 ?_); (first | (refine L_f1 H rfl 4 _ rfl 0 rfl _ rfl _ rfl _ rfl Try.underlying4 rfl ?_) | (refine L_f1 H rfl 4 _ rfl 1 rfl _ rfl _ rfl _ rfl Try.underlying4 rfl ?_) | (refine L_f1 H rfl 4 _ rfl 2 rfl _ rfl _ rfl _ rfl Try.underlying4 rfl ?_) | (refine L_f1 H rfl 4 _ rfl 3 rfl _ rfl _ rfl _ rfl Try.underlying4 rfl ?_) | (refine L_f1 H rfl 4 _ rfl 4 rfl _ rfl _ rfl _ rfl Try.underlying4 rfl ?_) | (refine L_f1 H rfl 4 _ rfl 5 rfl _ rfl _ rfl _ rfl Try.underlying4 rfl ?_)); refine unput (d := some _) ?_) | ((with_reducible show wpList _ _ _ (Oper.mk (some 38) (Op.buildSlice 169 _ _) _ _ _ _ :: _) _ _); (refine L_bs H (by kernel_rfl) 169 7 _ rfl (#[(0, .bool false), (1, .bool false), (2, .bool false), (3, .bool false), (4, .bool false), (5, .bool false), (6, .bool false)]) (by kernel_rfl) 4 (List.replicate 7 (Value.bool false)) (fun _ => by kernel_rfl) ?_); clear H; intro g38 w38 HGg38 HEg38 H; refine unput (d := some _) ?_))
 clear HKN HZf HOf HXC
 have HTY := kp (show ∀ b ∈ [(g38, 4, List.replicate 7 (Value.bool false)), (g3, 117, cellsFm (true, true, false)), (g1, 28, cat (partsM a ha t ht sub))], 5 ≠ b.2.1 from fun b hb => by
  rcases List.mem_cons.1 hb with rfl | hb
  ·exact show 5 ≠ 4 by decide
  ·rcases List.mem_cons.1 hb with rfl | hb
   ·exact show 5 ≠ 117 by decide
   ·rw [List.mem_singleton.1 hb]; exact show 5 ≠ 28 by decide)
 subst hr4
 go_wp2_with fail
 refine wp_loopM [(false, 5), (true, 3), (false, 32), (true, 11), (false, 71)] (WrF w [(g38, 4, List.replicate 7 (Value.bool false)), (g3, 117, cellsFm (true, true, false)), (g1, 28, cat (partsM a ha t ht sub))]) (fun vs _ => 7 - (intOf (vs 40)).toNat) (by kernel_rfl) ⟨0, by decide, rfl, rfl, H⟩ ?_
 clear H
 rintro vs wr ⟨i, hi, q40, q5, H⟩
 simp only [mixF_t, mixF_f, mixF_t0, mixF_f0, mixF_e, Nat.reduceAdd]
 rw [q40, q5]
 clear q40 q5
 by_cases hlt : i < 7
 ·have HCI := kp (show (List.replicate 7 (Value.bool false))[i]? = some (.bool false) by rw [List.getElem?_replicate, if_pos hlt])
  have hkd : decide (7 ≤ i) = false := decide_eq_false (by omega)
  have hkd2 : decide ((7 : Int) ≤ (i : Int)) = false := decide_eq_false (by omega)
  go_wp2_with (first | ((with_reducible show wpList _ _ _ (Oper.mk (some 44) _ _ _ _ _ :: _) _ _); refine L_c1 H (by kernel_rfl) 4 _ rfl 0 rfl i rfl (.bool false) HCI.out Try.underlying4 rfl ?_; refine unput (d := some _) ?_))
  exact LoopQ.of rfl (by kernel_rfl) rfl ⟨i + 1, by omega, by simp, rfl, H⟩ (by simp [intOf]; omega)
 go_wp2_with fail
 subst hr9
 refine wp_cutM [(false, 8), (true, 1), (false, 42), (true, 12), (false, 59)] (WrC w [(g38, 4, List.replicate 7 (Value.bool false)), (g3, 117, cellsFm (true, true, false)), (g1, 28, cat (partsM a ha t ht sub))]) ?_ ?_
 ·rcases HS.out with rfl | rfl | rfl | rfl | rfl
  ·
   go_wp2_with (first | ((with_reducible refine isLd 5 ?_); (first | (refine L_f1 H rfl 5 _ rfl 0 rfl _ rfl _ rfl _ rfl Try.underlying5 rfl ?_) | (refine L_f1 H rfl 5 _ rfl 1 rfl _ rfl _ rfl _ rfl Try.underlying5 rfl ?_) | (refine L_f1 H rfl 5 _ rfl 2 rfl _ rfl _ rfl _ rfl Try.underlying5 rfl ?_) | (refine L_f1 H rfl 5 _ rfl 3 rfl _ rfl _ rfl _ rfl Try.underlying5 rfl ?_) | (refine L_f1 H rfl 5 _ rfl 4 rfl _ rfl _ rfl _ rfl Try.underlying5 rfl ?_) | (refine L_f1 H rfl 5 _ rfl 5 rfl _ rfl _ rfl _ rfl Try.underlying5 rfl ?_)); refine unput (d := some _) ?_) | ((with_reducible refine isLd 3 ?_); (first | (refine L_f1 H rfl 3 _ rfl 0 rfl _ rfl _ rfl _ rfl Try.underlying3 rfl ?_) | (refine L_f1 H rfl 3 _ rfl 1 rfl _ rfl _ rfl _ rfl Try.underlying3 rfl ?_) | (refine L_f1 H rfl 3 _ rfl 2 rfl _ rfl _ rfl _ rfl Try.underlying3 rfl ?_) | (refine L_f1 H rfl 3 _ rfl 3 rfl _ rfl _ rfl _ rfl Try.underlying3 rfl ?_) | (refine L_f1 H rfl 3 _ rfl 4 rfl _ rfl _ rfl _ rfl Try.underlying3 rfl ?_) | (refine L_f1 H rfl 3 _ rfl 5 rfl _ rfl _ rfl _ rfl Try.underlying3 rfl ?_)); refine unput (d := some _) ?_) | (((with_reducible show wpList _ _ _ (Oper.mk (some 59) (Op.buildSlice 29 _ _) _ _ _ _ :: _) _ _); (refine L_bs H (by kernel_rfl) 29 2 _ rfl (#[(0, .int .u8 16), (1, .int .u8 0)]) (by kernel_rfl) 5 (([16, 0].map fun x => Value.int .u8 (x % 256))) (fun _ => by kernel_rfl) ?_); clear H; intro g59 w59 HGg59 HEg59 H; refine unput (d := some _) ?_); have HOB := kp (show OwB w.heap.size w59 (.slice (some ⟨g59, 0, none⟩) 2 2) ([16, 0].map (BitVec.ofInt 8)) from owns_room (l := [16, 0].map (BitVec.ofInt 8)) (zs := []) (show Lc w59 g59 5 (([16, 0].map (BitVec.ofInt 8)).map V8 ++ []) from H.out.at 0 rfl) (H.out.le 0 rfl) rfl rfl (by decide)); have H2 := kp H.out.tail; clear H; have H := H2; clear H2) | (go_at_call 100; refine (put16H_any w _ _ H w.heap.size (Nat.le_refl _) H.out.1.size _ _ (by decide) HOB.out HTY.out).mono ?_; rintro e wp ⟨v5, l5, rfl, hl5, ho5, hh⟩; have HL5 := kp hl5; have HO5 := kp ho5; clear H hl5 ho5; have H := kp hh; clear hh))
   exact CutQ.of rfl (by kernel_rfl) rfl ⟨v5, l5, rfl, kp HL5.out, HO5, H⟩
  ·
   go_wp2_with (first | ((with_reducible refine isLd 5 ?_); (first | (refine L_f1 H rfl 5 _ rfl 0 rfl _ rfl _ rfl _ rfl Try.underlying5 rfl ?_) | (refine L_f1 H rfl 5 _ rfl 1 rfl _ rfl _ rfl _ rfl Try.underlying5 rfl ?_) | (refine L_f1 H rfl 5 _ rfl 2 rfl _ rfl _ rfl _ rfl Try.underlying5 rfl ?_) | (refine L_f1 H rfl 5 _ rfl 3 rfl _ rfl _ rfl _ rfl Try.underlying5 rfl ?_) | (refine L_f1 H rfl 5 _ rfl 4 rfl _ rfl _ rfl _ rfl Try.underlying5 rfl ?_) | (refine L_f1 H rfl 5 _ rfl 5 rfl _ rfl _ rfl _ rfl Try.underlying5 rfl ?_)); refine unput (d := some _) ?_) | ((with_reducible refine isLd 3 ?_); (first | (refine L_f1 H rfl 3 _ rfl 0 rfl _ rfl _ rfl _ rfl Try.underlying3 rfl ?_) | (refine L_f1 H rfl 3 _ rfl 1 rfl _ rfl _ rfl _ rfl Try.underlying3 rfl ?_) | (refine L_f1 H rfl 3 _ rfl 2 rfl _ rfl _ rfl _ rfl Try.underlying3 rfl ?_) | (refine L_f1 H rfl 3 _ rfl 3 rfl _ rfl _ rfl _ rfl Try.underlying3 rfl ?_) | (refine L_f1 H rfl 3 _ rfl 4 rfl _ rfl _ rfl _ rfl Try.underlying3 rfl ?_) | (refine L_f1 H rfl 3 _ rfl 5 rfl _ rfl _ rfl _ rfl Try.underlying3 rfl ?_)); refine unput (d := some _) ?_) | (((with_reducible show wpList _ _ _ (Oper.mk (some 59) (Op.buildSlice 29 _ _) _ _ _ _ :: _) _ _); (refine L_bs H (by kernel_rfl) 29 2 _ rfl (#[(0, .int .u8 48), (1, .int .u8 0)]) (by kernel_rfl) 5 (([48, 0].map fun x => Value.int .u8 (x % 256))) (fun _ => by kernel_rfl) ?_); clear H; intro g59 w59 HGg59 HEg59 H; refine unput (d := some _) ?_); have HOB := kp (show OwB w.heap.size w59 (.slice (some ⟨g59, 0, none⟩) 2 2) ([48, 0].map (BitVec.ofInt 8)) from owns_room (l := [48, 0].map (BitVec.ofInt 8)) (zs := []) (show Lc w59 g59 5 (([48, 0].map (BitVec.ofInt 8)).map V8 ++ []) from H.out.at 0 rfl) (H.out.le 0 rfl) rfl rfl (by decide)); have H2 := kp H.out.tail; clear H; have H := H2; clear H2) | (go_at_call 100; refine (put16H_any w _ _ H w.heap.size (Nat.le_refl _) H.out.1.size _ _ (by decide) HOB.out HTY.out).mono ?_; rintro e wp ⟨v5, l5, rfl, hl5, ho5, hh⟩; have HL5 := kp hl5; have HO5 := kp ho5; clear H hl5 ho5; have H := kp hh; clear hh))
   exact CutQ.of rfl (by kernel_rfl) rfl ⟨v5, l5, rfl, kp HL5.out, HO5, H⟩
  ·
   go_wp2_with (first | ((with_reducible refine isLd 5 ?_); (first | (refine L_f1 H rfl 5 _ rfl 0 rfl _ rfl _ rfl _ rfl Try.underlying5 rfl ?_) | (refine L_f1 H rfl 5 _ rfl 1 rfl _ rfl _ rfl _ rfl Try.underlying5 rfl ?_) | (refine L_f1 H rfl 5 _ rfl 2 rfl _ rfl _ rfl _ rfl Try.underlying5 rfl ?_) | (refine L_f1 H rfl 5 _ rfl 3 rfl _ rfl _ rfl _ rfl Try.underlying5 rfl ?_) | (refine L_f1 H rfl 5 _ rfl 4 rfl _ rfl _ rfl _ rfl Try.underlying5 rfl ?_) | (refine L_f1 H rfl 5 _ rfl 5 rfl _ rfl _ rfl _ rfl Try.underlying5 rfl ?_)); refine unput (d := some _) ?_) | ((with_reducible refine isLd 3 ?_); (first | (refine L_f1 H rfl 3 _ rfl 0 rfl _ rfl _ rfl _ rfl Try.underlying3 rfl ?_) | (refine L_f1 H rfl 3 _ rfl 1 rfl _ rfl _ rfl _ rfl Try.underlying3 rfl ?_) | (refine L_f1 H rfl 3 _ rfl 2 rfl _ rfl _ rfl _ rfl Try.underlying3 rfl ?_) | (refine L_f1 H rfl 3 _ rfl 3 rfl _ rfl _ rfl _ rfl Try.underlying3 rfl ?_) | (refine L_f1 H rfl 3 _ rfl 4 rfl _ rfl _ rfl _ rfl Try.underlying3 rfl ?_) | (refine L_f1 H rfl 3 _ rfl 5 rfl _ rfl _ rfl _ rfl Try.underlying3 rfl ?_)); refine unput (d := some _) ?_) | (((with_reducible show wpList _ _ _ (Oper.mk (some 59) (Op.buildSlice 29 _ _) _ _ _ _ :: _) _ _); (refine L_bs H (by kernel_rfl) 29 2 _ rfl (#[(0, .int .u8 160), (1, .int .u8 0)]) (by kernel_rfl) 5 (([160, 0].map fun x => Value.int .u8 (x % 256))) (fun _ => by kernel_rfl) ?_); clear H; intro g59 w59 HGg59 HEg59 H; refine unput (d := some _) ?_); have HOB := kp (show OwB w.heap.size w59 (.slice (some ⟨g59, 0, none⟩) 2 2) ([160, 0].map (BitVec.ofInt 8)) from owns_room (l := [160, 0].map (BitVec.ofInt 8)) (zs := []) (show Lc w59 g59 5 (([160, 0].map (BitVec.ofInt 8)).map V8 ++ []) from H.out.at 0 rfl) (H.out.le 0 rfl) rfl rfl (by decide)); have H2 := kp H.out.tail; clear H; have H := H2; clear H2) | (go_at_call 100; refine (put16H_any w _ _ H w.heap.size (Nat.le_refl _) H.out.1.size _ _ (by decide) HOB.out HTY.out).mono ?_; rintro e wp ⟨v5, l5, rfl, hl5, ho5, hh⟩; have HL5 := kp hl5; have HO5 := kp ho5; clear H hl5 ho5; have H := kp hh; clear hh))
   exact CutQ.of rfl (by kernel_rfl) rfl ⟨v5, l5, rfl, kp HL5.out, HO5, H⟩
  ·
   go_wp2_with (first | ((with_reducible refine isLd 5 ?_); (first | (refine L_f1 H rfl 5 _ rfl 0 rfl _ rfl _ rfl _ rfl Try.underlying5 rfl ?_) | (refine L_f1 H rfl 5 _ rfl 1 rfl _ rfl _ rfl _ rfl Try.underlying5 rfl ?_) | (refine L_f1 H rfl 5 _ rfl 2 rfl _ rfl _ rfl _ rfl Try.underlying5 rfl ?_) | (refine L_f1 H rfl 5 _ rfl 3 rfl _ rfl _ rfl _ rfl Try.underlying5 rfl ?_) | (refine L_f1 H rfl 5 _ rfl 4 rfl _ rfl _ rfl _ rfl Try.underlying5 rfl ?_) | (refine L_f1 H rfl 5 _ rfl 5 rfl _ rfl _ rfl _ rfl Try.underlying5 rfl ?_)); refine unput (d := some _) ?_) | ((with_reducible refine isLd 3 ?_); (first | (refine L_f1 H rfl 3 _ rfl 0 rfl _ rfl _ rfl _ rfl Try.underlying3 rfl ?_) | (refine L_f1 H rfl 3 _ rfl 1 rfl _ rfl _ rfl _ rfl Try.underlying3 rfl ?_) | (refine L_f1 H rfl 3 _ rfl 2 rfl _ rfl _ rfl _ rfl Try.underlying3 rfl ?_) | (refine L_f1 H rfl 3 _ rfl 3 rfl _ rfl _ rfl _ rfl Try.underlying3 rfl ?_) | (refine L_f1 H rfl 3 _ rfl 4 rfl _ rfl _ rfl _ rfl Try.underlying3 rfl ?_) | (refine L_f1 H rfl 3 _ rfl 5 rfl _ rfl _ rfl _ rfl Try.underlying3 rfl ?_)); refine unput (d := some _) ?_) | (((with_reducible show wpList _ _ _ (Oper.mk (some 59) (Op.buildSlice 29 _ _) _ _ _ _ :: _) _ _); (refine L_bs H (by kernel_rfl) 29 2 _ rfl (#[(0, .int .u8 176), (1, .int .u8 0)]) (by kernel_rfl) 5 (([176, 0].map fun x => Value.int .u8 (x % 256))) (fun _ => by kernel_rfl) ?_); clear H; intro g59 w59 HGg59 HEg59 H; refine unput (d := some _) ?_); have HOB := kp (show OwB w.heap.size w59 (.slice (some ⟨g59, 0, none⟩) 2 2) ([176, 0].map (BitVec.ofInt 8)) from owns_room (l := [176, 0].map (BitVec.ofInt 8)) (zs := []) (show Lc w59 g59 5 (([176, 0].map (BitVec.ofInt 8)).map V8 ++ []) from H.out.at 0 rfl) (H.out.le 0 rfl) rfl rfl (by decide)); have H2 := kp H.out.tail; clear H; have H := H2; clear H2) | (go_at_call 100; refine (put16H_any w _ _ H w.heap.size (Nat.le_refl _) H.out.1.size _ _ (by decide) HOB.out HTY.out).mono ?_; rintro e wp ⟨v5, l5, rfl, hl5, ho5, hh⟩; have HL5 := kp hl5; have HO5 := kp ho5; clear H hl5 ho5; have H := kp hh; clear hh))
   exact CutQ.of rfl (by kernel_rfl) rfl ⟨v5, l5, rfl, kp HL5.out, HO5, H⟩
  ·
   go_wp2_with (first | ((with_reducible refine isLd 5 ?_); (first | (refine L_f1 H rfl 5 _ rfl 0 rfl _ rfl _ rfl _ rfl Try.underlying5 rfl ?_) | (refine L_f1 H rfl 5 _ rfl 1 rfl _ rfl _ rfl _ rfl Try.underlying5 rfl ?_) | (refine L_f1 H rfl 5 _ rfl 2 rfl _ rfl _ rfl _ rfl Try.underlying5 rfl ?_) | (refine L_f1 H rfl 5 _ rfl 3 rfl _ rfl _ rfl _ rfl Try.underlying5 rfl ?_) | (refine L_f1 H rfl 5 _ rfl 4 rfl _ rfl _ rfl _ rfl Try.underlying5 rfl ?_) | (refine L_f1 H rfl 5 _ rfl 5 rfl _ rfl _ rfl _ rfl Try.underlying5 rfl ?_)); refine unput (d := some _) ?_) | ((with_reducible refine isLd 3 ?_); (first | (refine L_f1 H rfl 3 _ rfl 0 rfl _ rfl _ rfl _ rfl Try.underlying3 rfl ?_) | (refine L_f1 H rfl 3 _ rfl 1 rfl _ rfl _ rfl _ rfl Try.underlying3 rfl ?_) | (refine L_f1 H rfl 3 _ rfl 2 rfl _ rfl _ rfl _ rfl Try.underlying3 rfl ?_) | (refine L_f1 H rfl 3 _ rfl 3 rfl _ rfl _ rfl _ rfl Try.underlying3 rfl ?_) | (refine L_f1 H rfl 3 _ rfl 4 rfl _ rfl _ rfl _ rfl Try.underlying3 rfl ?_) | (refine L_f1 H rfl 3 _ rfl 5 rfl _ rfl _ rfl _ rfl Try.underlying3 rfl ?_)); refine unput (d := some _) ?_) | (((with_reducible show wpList _ _ _ (Oper.mk (some 59) (Op.buildSlice 29 _ _) _ _ _ _ :: _) _ _); (refine L_bs H (by kernel_rfl) 29 2 _ rfl (#[(0, .int .u8 192), (1, .int .u8 0)]) (by kernel_rfl) 5 (([192, 0].map fun x => Value.int .u8 (x % 256))) (fun _ => by kernel_rfl) ?_); clear H; intro g59 w59 HGg59 HEg59 H; refine unput (d := some _) ?_); have HOB := kp (show OwB w.heap.size w59 (.slice (some ⟨g59, 0, none⟩) 2 2) ([192, 0].map (BitVec.ofInt 8)) from owns_room (l := [192, 0].map (BitVec.ofInt 8)) (zs := []) (show Lc w59 g59 5 (([192, 0].map (BitVec.ofInt 8)).map V8 ++ []) from H.out.at 0 rfl) (H.out.le 0 rfl) rfl rfl (by decide)); have H2 := kp H.out.tail; clear H; have H := H2; clear H2) | (go_at_call 100; refine (put16H_any w _ _ H w.heap.size (Nat.le_refl _) H.out.1.size _ _ (by decide) HOB.out HTY.out).mono ?_; rintro e wp ⟨v5, l5, rfl, hl5, ho5, hh⟩; have HL5 := kp hl5; have HO5 := kp ho5; clear H hl5 ho5; have H := kp hh; clear hh))
   exact CutQ.of rfl (by kernel_rfl) rfl ⟨v5, l5, rfl, kp HL5.out, HO5, H⟩
 clear H
 rintro vs2 wr2 ⟨v8, l8, q8, HL8, HOC, H⟩
 simp only [mixF_t, mixF_f, mixF_t0, mixF_f0, mixF_e, Nat.reduceAdd]
 rw [q8]
 clear q8
 go_wp2_with fail
 subst hr10
 go_wp2_with (first | (go_at_call 65; have HALL := kp H.out.allLt; have HSZ := kp H.out.1.size; refine (places_msg a ha t ht sub g1 _ (H.out.at 2 rfl)).mono ?_; rintro e w5 ⟨g4, hge, hl4, hx, rfl⟩; have HO8 := kp (owns_ext HOC.out hx); have H2 := kp ((H.out.ext hx).add _ HALL.out HSZ.out hge hl4); clear H HALL HSZ HOC hge hl4; have H := H2; clear H2))
 have HTY4 := kp (show ∀ b ∈ ((g4, 160, ptrs g1) :: [(g38, 4, List.replicate 7 (Value.bool false)), (g3, 117, cellsFm (true, true, false)), (g1, 28, cat (partsM a ha t ht sub))]), 5 ≠ b.2.1 from fun b hb => by
  rcases List.mem_cons.1 hb with rfl | hb
  ·exact show 5 ≠ 160 by decide
  ·exact HTY.out b hb)
 subst hr12
 go_wp2_with fail
 refine wp_loopM [(false, 8), (true, 1), (false, 3), (true, 1), (false, 56), (true, 10), (false, 43)] (WrA w ((g4, 160, ptrs g1) :: [(g38, 4, List.replicate 7 (Value.bool false)), (g3, 117, cellsFm (true, true, false)), (g1, 28, cat (partsM a ha t ht sub))])) (fun vs _ => 3 - (intOf (vs 69)).toNat) (by kernel_rfl) ⟨0, v8, l8, by decide, rfl, rfl, HL8, HO8, H⟩ ?_
 clear H HO8 HL8
 rintro vs3 wr3 ⟨j, vj, lj, hj, q69, q8, HLJ, HOJ, H⟩
 simp only [mixF_t, mixF_f, mixF_t0, mixF_f0, mixF_e, Nat.reduceAdd]
 rw [q69, q8]
 clear q69 q8
 by_cases hlt3 : j < 3
 ·obtain rfl | rfl | rfl : j = 0 ∨ j = 1 ∨ j = 2 := by omega
  ·
   go_wp2_with (first | ((with_reducible show wpList _ _ _ (Oper.mk (some 72) _ _ _ _ _ :: _) _ _); refine L_c1 H (by kernel_rfl) 124 _ rfl 0 rfl 0 rfl _ rfl Try.underlying124 rfl ?_; refine unput (d := some _) ?_) | (at_builtin; (with_reducible show wpList _ _ _ (Oper.mk (some 77) _ _ _ _ _ :: _) _ _); refine L_appT8 H rfl _ _ rfl w.heap.size (Nat.le_refl _) H.out.1.size _ _ rfl HOJ.out HTY4.out _ _ rfl (slb_part (l := t) (H.out.at 3 rfl) (ht) rfl rfl) (by have h1 := HLJ.out; have h2 : (t).length = 6 := ht; omega) ?_; clear H; intro v1 wb HO3 H; refine unput (d := some _) ?_))
   exact LoopQ.of rfl (by kernel_rfl) rfl ⟨0 + 1, v1, _, by decide, rfl, rfl, kp (by rw [List.length_append, HLJ.out, ht]), HO3, H⟩ (by simp [intOf])
  ·
   go_wp2_with (first | ((with_reducible show wpList _ _ _ (Oper.mk (some 72) _ _ _ _ _ :: _) _ _); refine L_c1 H (by kernel_rfl) 124 _ rfl 0 rfl 1 rfl _ rfl Try.underlying124 rfl ?_; refine unput (d := some _) ?_) | (at_builtin; (with_reducible show wpList _ _ _ (Oper.mk (some 77) _ _ _ _ _ :: _) _ _); refine L_appT8 H rfl _ _ rfl w.heap.size (Nat.le_refl _) H.out.1.size _ _ rfl HOJ.out HTY4.out _ _ rfl (slb_part (l := a.own) (H.out.at 3 rfl) (ha) rfl rfl) (by have h1 := HLJ.out; have h2 : (a.own).length = 6 := ha; omega) ?_; clear H; intro v1 wb HO3 H; refine unput (d := some _) ?_))
   exact LoopQ.of rfl (by kernel_rfl) rfl ⟨1 + 1, v1, _, by decide, rfl, rfl, kp (by rw [List.length_append, HLJ.out, ha]), HO3, H⟩ (by simp [intOf])
  ·
   go_wp2_with (first | ((with_reducible show wpList _ _ _ (Oper.mk (some 72) _ _ _ _ _ :: _) _ _); refine L_c1 H (by kernel_rfl) 124 _ rfl 0 rfl 2 rfl _ rfl Try.underlying124 rfl ?_; refine unput (d := some _) ?_) | (at_builtin; (with_reducible show wpList _ _ _ (Oper.mk (some 77) _ _ _ _ _ :: _) _ _); refine L_appT8 H rfl _ _ rfl w.heap.size (Nat.le_refl _) H.out.1.size _ _ rfl HOJ.out HTY4.out _ _ rfl (slb_part (l := a.own) (H.out.at 3 rfl) (ha) rfl rfl) (by have h1 := HLJ.out; have h2 : (a.own).length = 6 := ha; omega) ?_; clear H; intro v1 wb HO3 H; refine unput (d := some _) ?_))
   exact LoopQ.of rfl (by kernel_rfl) rfl ⟨2 + 1, v1, _, by decide, rfl, rfl, kp (by rw [List.length_append, HLJ.out, ha]), HO3, H⟩ (by simp [intOf])
 obtain rfl : j = 3 := by omega
 have HLL := kp (show lj.length ≤ 100 by rw [HLJ.out]; decide)
 go_wp2_with fail
 subst hr16
 go_wp2_with (first | ((with_reducible show wpList _ _ _ (Oper.mk (some 80) _ _ _ _ _ :: _) _ _); refine L_c1 H (by kernel_rfl) 4 _ rfl 2 rfl 1 rfl _ rfl Try.underlying4 rfl ?_; refine unput (d := some _) ?_) | ((with_reducible refine isLd 3 ?_); (first | (refine L_f1 H rfl 3 _ rfl 0 rfl _ rfl _ rfl _ rfl Try.underlying3 rfl ?_) | (refine L_f1 H rfl 3 _ rfl 1 rfl _ rfl _ rfl _ rfl Try.underlying3 rfl ?_) | (refine L_f1 H rfl 3 _ rfl 2 rfl _ rfl _ rfl _ rfl Try.underlying3 rfl ?_) | (refine L_f1 H rfl 3 _ rfl 3 rfl _ rfl _ rfl _ rfl Try.underlying3 rfl ?_) | (refine L_f1 H rfl 3 _ rfl 4 rfl _ rfl _ rfl _ rfl Try.underlying3 rfl ?_) | (refine L_f1 H rfl 3 _ rfl 5 rfl _ rfl _ rfl _ rfl Try.underlying3 rfl ?_)); refine unput (d := some _) ?_) | (go_at_call 100; refine (put16H_any w _ _ H w.heap.size (Nat.le_refl _) H.out.1.size _ _ (HLL.out) HOJ.out HTY4.out).mono ?_; rintro e wp ⟨v5, l5, rfl, hl5, ho5, hh⟩; have HL5 := kp hl5; have HO5 := kp ho5; clear H hl5 ho5; have H := kp hh; clear hh))
 subst hr18
 go_wp2_with fail
 refine wp_loopM [(false, 91), (true, 10), (false, 21)] (WrZ wp) (fun _ _ => 0) (by kernel_rfl) ⟨rfl, rfl⟩ ?_
 rintro vs4 wr4 ⟨q91, rfl⟩
 simp only [mixF_t, mixF_f, mixF_t0, mixF_f0, mixF_e, Nat.reduceAdd]
 rw [q91]
 clear q91
 go_wp2_with (first | ((with_reducible show wpList _ _ _ (Oper.mk (some 102) _ _ _ _ _ :: _) _ _); refine L_c1 H (by kernel_rfl) 4 _ rfl 2 rfl 2 rfl _ rfl Try.underlying4 rfl ?_; refine unput (d := some _) ?_))
 go_ret
 exact ⟨l5, by rw [HL5.out, HLJ.out]; decide, v5, rfl, HO5.out, H.out.1⟩
theorem bare_msg (a : As) (ha : a.own.length = 6) (t : By) (ht : t.length = 6) (sub : Int) (w : World) :
  Calls Try.prog 77 #[.agg (cat (partsM a ha t ht sub)).toArray] w fun e w' => e = .returned (.bool false) ∧ Ext w w' := by
 have H := kp (Loc.start w)
 have HNU := kp (fun w => show Calls Try.prog 67 #[.agg (cat (partsM a ha t ht sub)).toArray] w fun e w' => e = .returned (.bool false) ∧ Ext w w' from cat_M a ha t ht sub ▸ null_any (msgH a t sub) w)
 go_enter Try.func77, Try.ntmps77
 go_wp2_with (first | ((with_reducible refine isBx 1 28 ?_); (refine L_box H rfl 28 _ rfl (cat (partsM a ha t ht sub)) rfl ?_); clear H; intro g1 w1 HGg1 HEg1 H; refine unput (d := some _) ?_) | ((with_reducible refine isLd 28 ?_); (first | (refine L_fa H rfl 28 _ rfl 0 rfl rfl Try.underlying28 rfl (by kernel_rfl) ?_) | (refine L_fa H rfl 28 _ rfl 1 rfl rfl Try.underlying28 rfl (by kernel_rfl) ?_) | (refine L_fa H rfl 28 _ rfl 2 rfl rfl Try.underlying28 rfl (by kernel_rfl) ?_) | (refine L_fa H rfl 28 _ rfl 3 rfl rfl Try.underlying28 rfl (by kernel_rfl) ?_) | (refine L_fa H rfl 28 _ rfl 4 rfl rfl Try.underlying28 rfl (by kernel_rfl) ?_) | (refine L_fa H rfl 28 _ rfl 5 rfl rfl Try.underlying28 rfl (by kernel_rfl) ?_)); refine unput (d := some _) ?_) | ((with_reducible refine isLd 5 ?_); (first | (refine L_f1 H rfl 5 _ rfl 0 rfl _ rfl _ rfl _ rfl Try.underlying5 rfl ?_) | (refine L_f1 H rfl 5 _ rfl 1 rfl _ rfl _ rfl _ rfl Try.underlying5 rfl ?_) | (refine L_f1 H rfl 5 _ rfl 2 rfl _ rfl _ rfl _ rfl Try.underlying5 rfl ?_) | (refine L_f1 H rfl 5 _ rfl 3 rfl _ rfl _ rfl _ rfl Try.underlying5 rfl ?_) | (refine L_f1 H rfl 5 _ rfl 4 rfl _ rfl _ rfl _ rfl Try.underlying5 rfl ?_) | (refine L_f1 H rfl 5 _ rfl 5 rfl _ rfl _ rfl _ rfl Try.underlying5 rfl ?_)); refine unput (d := some _) ?_) | (go_at_call 67; refine (HNU.out _).mono ?_; rintro e w2 ⟨rfl, hx⟩; replace H := kp (H.out.ext hx); have HXC := kp hx; clear hx))
 go_ret
 exact ⟨rfl, H.out.1⟩
def EncR (w : World) (e : Ending) (w' : World) : Prop := ∃ v, e = .returned (.tuple #[v, .int .i64 0]) ∧ Ext w w'
def partsG (a : As) (ha : a.own.length = 6) (t : By) (ht : t.length = 6) (sub : Int) (ad : Option Addr) (n c : Nat) : List Lf := partsM a ha t ht sub ++ [Lf.s ad n c]
theorem cat_G (a : As) (ha : a.own.length = 6) (t : By) (ht : t.length = 6) (sub : Int) (ad : Option Addr) (n c : Nat) : cellsF (msgH a t sub) (.slice ad n c) = cat (partsG a ha t ht sub ad n c) := by
 show cellsH (msgH a t sub) ++ _ = _
 rw [cat_M a ha t ht, partsG, cat_append]; rfl
def WrV (w : World) (v : Value) (w' : World) : Prop := ∃ l : By, l.length ≤ 100 ∧ OwB w.heap.size w' v l
theorem mono_WrV {w : World} : MonoO [] (fun v w' => WrV w v w') := fun v w1 w2 ⟨l, hl, ho⟩ hx => ⟨l, hl, owns_ext ho (hx.ext (Ext.refl _) (fun g hg => by cases hg))⟩
set_option maxRecDepth 4000 in
set_option maxHeartbeats 3200000 in
theorem encode_msg (a : As) (ha : a.own.length = 6) (hg : groupF a.own = false) (t : By) (ht : t.length = 6) (sub : Int) (hs : subsA sub) (ad : Option Addr) (n c : Nat) (l : By) (hl : l.length ≤ 100) (w : World) (hb : SlB w (.slice ad n c) l) :
  Calls Try.prog 40 #[.agg (cat (partsG a ha t ht sub ad n c)).toArray] w (EncR w) := by
 have H := kp (Loc.start w)
 have HCH := kp (fun w => checkH_any (msgH a t sub) (msg_ok (sub := sub) ha ht (by rcases hs with h | h | h | h | h <;> omega) (by rcases hs with h | h | h | h | h <;> omega)) w)
 rw [checkF_good (valid_msg hg hs), cat_M a ha t ht] at HCH
 have HWR := kp (fun w => write_any a ha t ht sub hs w)
 have HS := kp hs
 have HB := kp hb
 have HL := kp hl
 have hn : n = l.length := (slb_at hb).1
 have h23 : decide ((2304 : Int) < (n : Int)) = false := decide_eq_false (by omega)
 clear hs hb hl hg hn
 go_enter Try.func40, Try.ntmps40
 generalize hr5 : (Code.region 5 _ _ : Code) = R5
 go_wp2_with (first | ((with_reducible refine isBx 1 31 ?_); (refine L_box H rfl 31 _ rfl (cat (partsG a ha t ht sub ad n c)) rfl ?_); clear H; intro g1 w1 HGg1 HEg1 H; refine unput (d := some _) ?_) | ((with_reducible refine isLd 28 ?_); (first | (refine L_fg H rfl 28 _ rfl 0 rfl _ rfl _ rfl (partsM a ha t ht sub) rfl Try.underlying28 rfl (by kernel_rfl) ?_) | (refine L_fg H rfl 28 _ rfl 1 rfl _ rfl _ rfl (partsM a ha t ht sub) rfl Try.underlying28 rfl (by kernel_rfl) ?_) | (refine L_fg H rfl 28 _ rfl 2 rfl _ rfl _ rfl (partsM a ha t ht sub) rfl Try.underlying28 rfl (by kernel_rfl) ?_) | (refine L_fg H rfl 28 _ rfl 3 rfl _ rfl _ rfl (partsM a ha t ht sub) rfl Try.underlying28 rfl (by kernel_rfl) ?_) | (refine L_fg H rfl 28 _ rfl 4 rfl _ rfl _ rfl (partsM a ha t ht sub) rfl Try.underlying28 rfl (by kernel_rfl) ?_) | (refine L_fg H rfl 28 _ rfl 5 rfl _ rfl _ rfl (partsM a ha t ht sub) rfl Try.underlying28 rfl (by kernel_rfl) ?_)); refine unput (d := some _) ?_) | ((with_reducible refine isLd 29 ?_); (first | (refine L_f1 H rfl 29 _ rfl 0 rfl _ rfl _ rfl _ rfl Try.underlying29 rfl ?_) | (refine L_f1 H rfl 29 _ rfl 1 rfl _ rfl _ rfl _ rfl Try.underlying29 rfl ?_) | (refine L_f1 H rfl 29 _ rfl 2 rfl _ rfl _ rfl _ rfl Try.underlying29 rfl ?_) | (refine L_f1 H rfl 29 _ rfl 3 rfl _ rfl _ rfl _ rfl Try.underlying29 rfl ?_) | (refine L_f1 H rfl 29 _ rfl 4 rfl _ rfl _ rfl _ rfl Try.underlying29 rfl ?_) | (refine L_f1 H rfl 29 _ rfl 5 rfl _ rfl _ rfl _ rfl Try.underlying29 rfl ?_)); refine unput (d := some _) ?_) | (go_at_call 27; refine (HCH.out _).mono ?_; rintro e wc ⟨rfl, hx⟩; replace H := kp (H.out.ext hx); have HXC := kp hx; clear hx) | (go_at_call 77; refine (bare_msg a ha t ht sub _).mono ?_; rintro e wb ⟨rfl, hx⟩; replace H := kp (H.out.ext hx); have HXC := kp hx; clear hx))
 subst hr5
 have HW0 := kp H.out.1.size
 refine region_free H (tabS [(23, fun vQ _ => vQ = .pointer (some ⟨g1, 0, none⟩)), (24, fun vQ _ => vQ = .agg (cat (partsM a ha t ht sub)).toArray), (25, fun vQ wQ => WrV wb vQ wQ), (26, fun vQ _ => vQ = .pointer (some ⟨g1, 40, none⟩)), (27, fun vQ _ => vQ = .slice ad n c)]) [] (tabS_out _ _ (by simp only [List.forall_mem_cons, mono_eqO, true_and]; exact ⟨mono_WrV, by simp⟩)) 5 (by kernel_rfl) (by kernel_rfl) (by kernel_rfl) (by kernel_rfl) [] [] rfl rfl (by decide) (by decide) (by decide) trivial ?_
 simp only [List.take_succ_cons, List.take_zero]
 refine ⟨fun w_ o_ S_ => ?_, fun v23 => ?_⟩
 ·clear S_
  clear o_
  go_wp2_with fail
  exact kso
 simp only [pA]
 refine ⟨fun w_ o_ S_ => ?_, fun v24 => ?_⟩
 ·obtain rfl : v23 = .pointer (some ⟨g1, 0, none⟩) := hsR S_ 23 rfl
  clear S_
  have H := kp (kK [0] H o_)
  have HOX := kp o_
  clear o_
  go_wp2_with ((with_reducible refine isLd 28 ?_); (first | (refine L_fg H rfl 28 _ rfl 0 rfl _ rfl _ rfl (partsM a ha t ht sub) rfl Try.underlying28 rfl (by kernel_rfl) ?_) | (refine L_fg H rfl 28 _ rfl 1 rfl _ rfl _ rfl (partsM a ha t ht sub) rfl Try.underlying28 rfl (by kernel_rfl) ?_) | (refine L_fg H rfl 28 _ rfl 2 rfl _ rfl _ rfl (partsM a ha t ht sub) rfl Try.underlying28 rfl (by kernel_rfl) ?_) | (refine L_fg H rfl 28 _ rfl 3 rfl _ rfl _ rfl (partsM a ha t ht sub) rfl Try.underlying28 rfl (by kernel_rfl) ?_) | (refine L_fg H rfl 28 _ rfl 4 rfl _ rfl _ rfl (partsM a ha t ht sub) rfl Try.underlying28 rfl (by kernel_rfl) ?_) | (refine L_fg H rfl 28 _ rfl 5 rfl _ rfl _ rfl (partsM a ha t ht sub) rfl Try.underlying28 rfl (by kernel_rfl) ?_)); refine unput (d := some _) ?_)
  exact kso
 simp only [pA]
 refine ⟨fun w_ o_ S_ => ?_, fun v25 => ?_⟩
 ·obtain rfl : v24 = .agg (cat (partsM a ha t ht sub)).toArray := hsR S_ 24 rfl
  clear S_
  have H := kp (kK [0] H o_)
  have HOX := kp o_
  clear o_
  go_wp2_with fail
  refine (HWR.out _).mono ?_
  intro e w2 hrr
  obtain ⟨l2, hl2, v2, rfl, ho2, hx⟩ := hrr
  have HV2 := kp (show WrV wb v2 w2 from ⟨l2, hl2, owns_weak ho2 HOX.out.size⟩)
  have HXC := kp hx
  clear hl2 ho2 hx
  go_wp2_with fail
  exact ⟨rfl, _, rfl, fun d hd => by cases hd; exact HV2.out, HXC.out⟩
 simp only [pA]
 refine ⟨fun w_ o_ S_ => ?_, fun v26 => ?_⟩
 ·clear S_
  clear o_
  go_wp2_with fail
  exact kso
 simp only [pA]
 refine ⟨fun w_ o_ S_ => ?_, fun v27 => ?_⟩
 ·obtain rfl : v26 = .pointer (some ⟨g1, 40, none⟩) := hsR S_ 26 rfl
  clear S_
  have H := kp (kK [0] H o_)
  have HOX := kp o_
  clear o_
  go_wp2_with ((with_reducible refine isLd 29 ?_); (first | (refine L_f1 H rfl 29 _ rfl 0 rfl _ rfl _ rfl _ rfl Try.underlying29 rfl ?_) | (refine L_f1 H rfl 29 _ rfl 1 rfl _ rfl _ rfl _ rfl Try.underlying29 rfl ?_) | (refine L_f1 H rfl 29 _ rfl 2 rfl _ rfl _ rfl _ rfl Try.underlying29 rfl ?_) | (refine L_f1 H rfl 29 _ rfl 3 rfl _ rfl _ rfl _ rfl Try.underlying29 rfl ?_) | (refine L_f1 H rfl 29 _ rfl 4 rfl _ rfl _ rfl _ rfl Try.underlying29 rfl ?_) | (refine L_f1 H rfl 29 _ rfl 5 rfl _ rfl _ rfl _ rfl Try.underlying29 rfl ?_)); refine unput (d := some _) ?_)
  exact kso
 simp only [pA]
 clear H
 intro wn HOX H hfin
 obtain rfl : v23 = .pointer (some ⟨g1, 0, none⟩) := hfin 23 (by decide)
 obtain rfl : v24 = .agg (cat (partsM a ha t ht sub)).toArray := hfin 24 (by decide)
 have F25 := kp (show WrV wb v25 wn from hfin 25 (by decide))
 obtain rfl : v26 = .pointer (some ⟨g1, 40, none⟩) := hfin 26 (by decide)
 obtain rfl : v27 = .slice ad n c := hfin 27 (by decide)
 clear hfin
 simp only [List.drop_succ_cons, List.drop_zero]
 simp only [applyS] at H
 have HXN := kp (HOX.out.ext (Ext.refl wb) (fun g hg => by cases hg))
 obtain ⟨l2, hl2, ho2⟩ := F25.out
 have HO2 := kp ho2
 have HLN := kp (show l2.length + l.length ≤ 1000000 by have := HL.out; omega)
 have HLM := kp (show (l2 ++ l).length ≤ 100000 by rw [List.length_append]; have := HL.out; omega)
 have HTY := kp (show ∀ b ∈ [(g1, 31, cat (partsG a ha t ht sub ad n c))], 5 ≠ b.2.1 from fun b hb => by rw [List.mem_singleton.1 hb]; exact show 5 ≠ 31 by decide)
 have HB0 := kp HW0.out
 clear hl2 ho2 F25
 go_wp2_with (first | (at_builtin; (with_reducible show wpList _ _ _ (Oper.mk (some 28) _ _ _ _ _ :: _) _ _); refine L_appT8 H rfl _ _ rfl wb.heap.size HB0.out HXN.out.size _ _ rfl HO2.out HTY.out _ _ rfl (HB.out.ext H.out.1) HLN.out ?_; clear H; intro v1 wd HO3 H; refine unput (d := some _) ?_) | (go_at_call 78; refine (append_any _ _ HLM.out _ (SlB.of_owns HO3.out)).mono ?_; rintro e we ⟨l9, v9, rfl, -, hx⟩; replace H := kp (H.out.ext hx); have HXC := kp hx; clear hx))
 go_ret2
 exact ⟨_, rfl, H.out.1⟩
end Go.Proofs.Ytfecopfofkdnpaa
