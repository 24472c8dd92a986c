/- Texts of this proof, put together: Rd2. -/
import Derived.Test.YtfecopfofkdnpaaS10
import Derived.Laws.BitsAllLaws
import Derived.Test.YtfecopfofkdnpaaS1
namespace Go.Proofs.Ytfecopfofkdnpaa
open Go.RowKit
def rdN (b : By) (p : Nat) (e : Int) (m : Nat) : Nat := if e = 0 ∧ p + m ≤ b.length then p + m else p
def rdE (b : By) (p : Nat) (e : Int) (m : Nat) : Int := if e = 0 ∧ b.length < p + m then 10 else e
def rdB (b : By) (p : Nat) (e : Int) (m : Nat) : By := if e = 0 ∧ p + m ≤ b.length then (b.drop p).take m else List.replicate m 0#8
def BytR (ad : Option Addr) (n c : Nat) (b : By) (p : Nat) (e : Int) (m g : Nat) (w0 : World) (rest : List Bk) (en : Ending) (w' : World) : Prop :=
 ∃ v, en = .returned v ∧ OwB w0.heap.size w' v (rdB b p e m) ∧ Loc w0 w' ((g, 155, cat (partsR ad n c (rdN b p e m) (rdE b p e m))) :: rest)
theorem rep_V8 (m : Nat) : List.replicate m (Value.int .u8 0) = (List.replicate m 0#8).map V8 := by simp [V8, wI]
theorem owns_zeros {w : World} {g base m : Nat} (h : Lc w g 5 (List.replicate m (Value.int .u8 0))) (hb : base ≤ g) (hm : m ≤ 1000000) : OwB base w (.slice (some ⟨g, 0, none⟩) m m) (List.replicate m 0#8) := by
 rw [rep_V8] at h
 exact owns_room (zs := []) (by rw [List.append_nil]; exact h) hb (by simp) (by simp) hm
theorem take_ok (ad : Option Addr) (n c : Nat) (b : By) (hb : n ≤ 1000000) (hcap : n ≤ c) (p m : Nat) (hpm : p + m ≤ n) (w : World) (hs : SlB w (.slice ad n c) b) :
  Calls Try.prog 104 #[.agg (cat (partsRd ad n c p)).toArray, .int .i64 m] w fun e w' => ∃ v, e = .returned (.tuple #[v, .agg (cat (partsRd ad n c ((p : Int) + (m : Int)))).toArray, .int .i64 0]) ∧ OwB w.heap.size w' v ((b.drop p).take m) ∧ Ext w w' := by
 refine (take_any ad n c b hb hcap p m (by omega) (by omega) w hs).mono ?_
 rintro e w' ⟨v, hx, ⟨_, rfl, ho⟩ | ⟨hbad, _⟩⟩
 ·exact ⟨v, rfl, ho, hx⟩
 ·omega
theorem take_bad (ad : Option Addr) (n c : Nat) (b : By) (hb : n ≤ 1000000) (hcap : n ≤ c) (p m : Nat) (hp : p ≤ n) (hm : m ≤ 1000000) (hpm : ¬ p + m ≤ n) (w : World) (hs : SlB w (.slice ad n c) b) :
  Calls Try.prog 104 #[.agg (cat (partsRd ad n c p)).toArray, .int .i64 m] w fun e w' => ∃ v, e = .returned (.tuple #[v, .agg (cat (partsRd none 0 0 0)).toArray, .int .i64 10]) ∧ Ext w w' := by
 refine (take_any ad n c b hb hcap p m hp hm w hs).mono ?_
 rintro e w' ⟨v, hx, ⟨hbad, _⟩ | ⟨_, rfl⟩⟩
 ·exact absurd hbad hpm
 ·exact ⟨v, rfl, hx⟩
set_option maxHeartbeats 1600000 in
theorem bytes_any (ad : Option Addr) (n c : Nat) (b : By) (hb : n ≤ 1000000) (hcap : n ≤ c) (p m : Nat) (hp : p ≤ n) (hm : m ≤ 1000) (e : Int) (g : Nat) (w0 w : World) (rest : List Bk) (H : Kp (Loc w0 w ((g, 155, cat (partsR ad n c p e)) :: rest))) (hs : SlB w0 (.slice ad n c) b) :
  Calls Try.prog 88 #[.pointer (some ⟨g, 0, none⟩), .int .i64 m] w (BytR ad n c b p e m g w0 rest) := by
 have HS := kp hs
 have HN := kp hs.len
 have HMK := kp (fun w => run_mkB w m m (Nat.le_refl _) (by omega))
 have HM := kp hm
 have HW0 := kp H.out.1.size
 clear hs
 by_cases he : e = 0
 ·subst he
  by_cases hpm : p + m ≤ n
  ·have HF := kp (show rdN b p 0 m = p + m ∧ rdE b p 0 m = 0 ∧ rdB b p 0 m = (b.drop p).take m by
    have := HN.out
    unfold rdN rdE rdB
    exact ⟨if_pos ⟨rfl, by omega⟩, if_neg (by omega), if_pos ⟨rfl, by omega⟩⟩)
   have HPM := kp hpm
   have HTO := kp (fun w hs => take_ok ad n c b hb hcap p m hpm w hs)
   go_enter Try.func88, Try.ntmps88
   go_wp2_with (first | ((with_reducible refine isLd 33 ?_); (refine L_f1 H rfl 33 _ rfl 0 rfl _ rfl _ rfl _ rfl Try.underlying33 rfl ?_); simp only [pA]) | ((with_reducible refine isLd 153 ?_); (refine L_fg H rfl 153 _ rfl 0 rfl _ rfl _ rfl (partsRd ad n c p) rfl Try.underlying153 rfl (by kernel_rfl) ?_); simp only [pA]) | (go_at_call 104; refine (HTO.out _ (HS.out.ext H.out.1)).mono ?_; rintro e wa ⟨v, rfl, ho, hx⟩; have HO := kp ho; clear ho; replace H := kp (H.out.ext hx); have HXC := kp hx; clear hx) | (((with_reducible refine isAl 6 153 ?_); (refine L_alloc H rfl 153 rfl (cat (partsRd none 0 0 0)) (fun _ _ => by kernel_rfl) ?_); clear H; intro g6 w6 HGg6 HEg6 H; simp only [pA]); have HG6 := kp (show Lc w6 g6 153 _ from H.out.at 0 rfl); have HO1 := kp (owns_ext HO.out HEg6.out)) | ((with_reducible refine isSt 153 ?_); refine L_sa H rfl rfl 153 _ _ rfl 0 rfl rfl (partsRd ad n c ((p : Int) + (m : Int))) rfl rfl (by kernel_rfl) ?_; clear H; intro w7 HWw7 H; simp only [szA] at H) | (((with_reducible refine isLd 153 ?_); refine L_fa H rfl 153 _ rfl 0 rfl rfl Try.underlying153 rfl (by kernel_rfl) ?_; simp only [pA]); have HGG := kp (show Lc w7 g 155 _ from H.out.at 1 rfl)) | ((with_reducible refine isSt 153 ?_); (refine L_sg H rfl rfl 153 _ _ rfl 1 rfl _ rfl _ rfl 2 (partsRd ad n c ((p : Int) + (m : Int))) rfl rfl (by kernel_rfl) (_) rfl ?_; clear H; intro w8 HWw8 H; simp only [ssA, szA] at H)))
   have HO2 := owns_wroteT (owns_wroteT HO1.out HWw7.out HG6.out (show 5 ≠ 153 from by decide)) HWw8.out HGG.out (show 5 ≠ 155 from by decide)
   go_ret
   exact ⟨v, rfl, by rw [HF.out.2.2]; exact owns_weak HO2 HW0.out, by rw [HF.out.1, HF.out.2.1]; exact H.out.tl⟩
  ·have HF := kp (show rdN b p 0 m = p ∧ rdE b p 0 m = 10 ∧ rdB b p 0 m = List.replicate m 0#8 by
    have := HN.out
    unfold rdN rdE rdB
    exact ⟨if_neg (by omega), if_pos ⟨rfl, by omega⟩, if_neg (by omega)⟩)
   have HTB := kp (fun w hs => take_bad ad n c b hb hcap p m hp (by omega) hpm w hs)
   go_enter Try.func88, Try.ntmps88
   go_wp2_with (first | ((with_reducible refine isLd 33 ?_); (refine L_f1 H rfl 33 _ rfl 0 rfl _ rfl _ rfl _ rfl Try.underlying33 rfl ?_); simp only [pA]) | ((with_reducible refine isLd 153 ?_); (refine L_fg H rfl 153 _ rfl 0 rfl _ rfl _ rfl (partsRd ad n c p) rfl Try.underlying153 rfl (by kernel_rfl) ?_); simp only [pA]) | (go_at_call 104; refine (HTB.out _ (HS.out.ext H.out.1)).mono ?_; rintro e wa ⟨v, rfl, hx⟩; replace H := kp (H.out.ext hx); have HXC := kp hx; clear hx) | ((with_reducible refine isAl 6 153 ?_); (refine L_alloc H rfl 153 rfl (cat (partsRd none 0 0 0)) (fun _ _ => by kernel_rfl) ?_); clear H; intro g6 w6 HGg6 HEg6 H; simp only [pA]) | ((with_reducible refine isSt 153 ?_); refine L_sa H rfl rfl 153 _ _ rfl 0 rfl rfl (partsRd none 0 0 0) rfl rfl (by kernel_rfl) ?_; clear H; intro w7 HWw7 H; simp only [szA] at H) | ((with_reducible refine isSt 33 ?_); (refine L_s1 H rfl rfl 33 _ _ rfl 1 rfl _ rfl _ rfl _ rfl rfl rfl rfl (by kernel_rfl) (partsR ad n c p 10) rfl ?_; clear H; intro w8 HWw8 H; simp only [ssA, szA] at H)) | ((with_reducible show wpList _ _ _ (Oper.mk (some 35) (Op.makeSlice 29 _ _) _ _ _ _ :: _) _ _); (refine L_mk H (by kernel_rfl) 29 _ _ rfl (.int .i64 (m : Int)) (.int .i64 (m : Int)) rfl rfl m m 5 (List.replicate m (Value.int .u8 0)) (fun w => HMK.out w) ?_); clear H; intro g35 w35 HGg35 HEg35 H; simp only [pA]))
   go_ret
   exact ⟨_, rfl, by rw [HF.out.2.2]; exact owns_zeros (H.out.at 0 rfl) (H.out.le 0 rfl) (by have := HM.out; omega), by rw [HF.out.1, HF.out.2.1]; exact H.out.tl.tl⟩
 ·have HF := kp (show rdN b p e m = p ∧ rdE b p e m = e ∧ rdB b p e m = List.replicate m 0#8 by
   unfold rdN rdE rdB
   exact ⟨if_neg (by omega), if_neg (by omega), if_neg (by omega)⟩)
  have hee : (e == 0) = false := by simpa using he
  clear he
  go_enter Try.func88, Try.ntmps88
  go_wp2_with (first | ((with_reducible refine isLd 33 ?_); (refine L_f1 H rfl 33 _ rfl 0 rfl _ rfl _ rfl _ rfl Try.underlying33 rfl ?_); simp only [pA]) | ((with_reducible show wpList _ _ _ (Oper.mk (some 35) (Op.makeSlice 29 _ _) _ _ _ _ :: _) _ _); (refine L_mk H (by kernel_rfl) 29 _ _ rfl (.int .i64 (m : Int)) (.int .i64 (m : Int)) rfl rfl m m 5 (List.replicate m (Value.int .u8 0)) (fun w => HMK.out w) ?_); clear H; intro g35 w35 HGg35 HEg35 H; simp only [pA]))
  go_ret
  exact ⟨_, rfl, by rw [HF.out.2.2]; exact owns_zeros (H.out.at 0 rfl) (H.out.le 0 rfl) (by have := HM.out; omega), by rw [HF.out.1, HF.out.2.1]; exact H.out.tl⟩
theorem two_bytes {l : By} (h : l.length = 2) : ∃ x y, l = [x, y] := by
 match l, h with
 | [x, y], _ => exact ⟨x, y, rfl⟩
theorem rdB_len (b : By) (p : Nat) (e : Int) (m : Nat) : (rdB b p e m).length = m := by
 unfold rdB
 split
 ·rename_i h; simp; omega
 ·simp
theorem or_disj (a x k : Nat) (h : a < 2 ^ k) : a ||| x * 2 ^ k = a + x * 2 ^ k := by
 have := Nat.shiftLeft_add_eq_or_of_lt h x
 rw [Nat.shiftLeft_eq] at this
 rw [Nat.or_comm, ← this, Nat.add_comm]
theorem or_two (x y : BitVec 8) : bits .or .u16 (wI x) (wI y * 256) = wI x + 256 * wI y := by
 have hx : x.toNat < 2 ^ 8 := x.isLt
 have hy : y.toNat < 256 := y.isLt
 unfold wI
 rw [show ((y.toNat : Int) * 256) = ((y.toNat * 2 ^ 8 : Nat) : Int) by rw [Int.natCast_mul]; rfl, u16_or_nat _ _ (by omega) (by omega), or_disj _ _ _ hx]
 show ((x.toNat + y.toNat * 256 : Nat) : Int) = _
 omega
def rd2 (b : By) (p : Nat) (e : Int) : Int := rdF (rdB b p e 2) 0
set_option maxHeartbeats 1600000 in
theorem rtwo_any (ad : Option Addr) (n c : Nat) (b : By) (hb : n ≤ 1000000) (hcap : n ≤ c) (p : Nat) (hp : p ≤ n) (e : Int) (g : Nat) (w0 w : World) (rest : List Bk) (H : Kp (Loc w0 w ((g, 155, cat (partsR ad n c p e)) :: rest))) (hs : SlB w0 (.slice ad n c) b) :
  Calls Try.prog 59 #[.pointer (some ⟨g, 0, none⟩)] w fun en w' => en = .returned (.int .u16 (rd2 b p e)) ∧ Loc w0 w' ((g, 155, cat (partsR ad n c (rdN b p e 2) (rdE b p e 2))) :: rest) := by
 have HBY := kp (bytes_any ad n c b hb hcap p 2 hp (by omega) e g w0 w rest H hs)
 obtain ⟨x, y, hxy⟩ := two_bytes (rdB_len b p e 2)
 have HXY := kp hxy
 have HX0 := kp (wI_bound x)
 have HY0 := kp (wI_bound y)
 clear hxy hs
 go_enter Try.func59, Try.ntmps59
 generalize h2 : (Code.region 2 _ _ : Code) = R2
 go_wp2_with (go_at_call 88; refine HBY.out.mono ?_; rintro e2 wa ⟨v, rfl, ho, hl⟩; have HO := kp ho; clear H ho; have H := kp hl; clear hl)
 rw [HXY.out] at HO
 obtain ⟨av, cv, rfl, hcv⟩ := owns_formN HO.out
 obtain ⟨b0, o0, rfl, hb0, hc0⟩ := (SlB.of_owns HO.out).at 0 x rfl
 obtain ⟨b1, o1, he1, hb1, hc1⟩ := (SlB.of_owns HO.out).at 1 y rfl
 cases he1
 have HC0 := kp (fun W (hx : Ext wa W) => (hx.cell hb0).trans hc0)
 have HC1 := kp (fun W (hx : Ext wa W) => (hx.cell hb1).trans hc1)
 have hor := or_two x y
 obtain ⟨hx0, hx1⟩ := HX0.out
 obtain ⟨hy0, hy1⟩ := HY0.out
 clear hc0 hc1 hb0 hb1
 subst h2
 refine region_z H 11 (by kernel_rfl) (by kernel_rfl) (by kernel_rfl) (by kernel_rfl) (by decide) (Nat.le_of_ble_eq_true (by kernel_rfl)) ?_
 apply Exists.intro
 refine ⟨fun xz2 => ?_, fun wz2 HXZ H => ?_⟩
 ·simp only [List.take_succ_cons, List.take_zero]
  unfold Cx
  repeat (first | ((with_reducible show wpQuiet _ _ _ _ (Oper.mk _ (Op.load 5 _) _ _ _ _ :: _) _); go_big_quiet_want; refine qz_c 5 _ rfl _ _ rfl (.int .u8 (wI x)) (HC0.out) Try.underlying5 rfl ?_; simp only [pA]; go_big_quiet_on) | ((with_reducible show wpQuiet _ _ _ _ (Oper.mk _ (Op.load 5 _) _ _ _ _ :: _) _); go_big_quiet_want; refine qz_c 5 _ rfl _ _ rfl (.int .u8 (wI y)) (HC1.out) Try.underlying5 rfl ?_; simp only [pA]; go_big_quiet_on) | go_big_quiet_step (fail))
  exact wpQuiet_nil rfl
 simp only [List.drop_succ_cons, List.drop_zero]
 go_wp2_with fail
 go_ret
 exact ⟨by rw [rd2, HXY.out]; rfl, H.out⟩
def reqE (e : Int) (is : Bool) (e2 : Int) : Int := if e = 0 ∧ is = false then e2 else e
set_option maxHeartbeats 1600000 in
theorem require_any (ad : Option Addr) (n c : Nat) (p : Int) (e : Int) (is : Bool) (e2 : Int) (g : Nat) (w0 w : World) (rest : List Bk) (H : Kp (Loc w0 w ((g, 155, cat (partsR ad n c p e)) :: rest))) :
  Calls Try.prog 62 #[.pointer (some ⟨g, 0, none⟩), .bool is, .int .i64 e2] w fun en w' => en = .returned (.tuple #[]) ∧ Loc w0 w' ((g, 155, cat (partsR ad n c p (reqE e is e2))) :: rest) := by
 by_cases he : e = 0
 ·subst he
  cases is with
  | true =>
   rw [show reqE 0 true e2 = 0 from rfl]
   go_enter Try.func62, Try.ntmps62
   go_wp2_with ((with_reducible refine isLd 33 ?_); (refine L_f1 H rfl 33 _ rfl 0 rfl _ rfl _ rfl _ rfl Try.underlying33 rfl ?_); simp only [pA])
   go_end0
   exact ⟨rfl, H.out⟩
  | false =>
   rw [show reqE 0 false e2 = e2 from rfl]
   go_enter Try.func62, Try.ntmps62
   go_wp2_with (first | ((with_reducible refine isLd 33 ?_); (refine L_f1 H rfl 33 _ rfl 0 rfl _ rfl _ rfl _ rfl Try.underlying33 rfl ?_); simp only [pA]) | ((with_reducible refine isSt 33 ?_); (refine L_s1 H rfl rfl 33 _ _ rfl 0 rfl _ rfl _ rfl _ rfl rfl rfl rfl (by kernel_rfl) (partsR ad n c p e2) rfl ?_; clear H; intro w1 HWw1 H; simp only [szA] at H)))
   go_end0
   exact ⟨rfl, H.out⟩
 ·have HF := kp (show reqE e is e2 = e from if_neg (fun h => he h.1))
  have hee : (e == 0) = false := by simpa using he
  clear he
  rw [HF.out]
  go_enter Try.func62, Try.ntmps62
  go_wp2_with ((with_reducible refine isLd 33 ?_); (refine L_f1 H rfl 33 _ rfl 0 rfl _ rfl _ rfl _ rfl Try.underlying33 rfl ?_); simp only [pA])
  go_end0
  exact ⟨rfl, H.out⟩
def resP (e : Int) (ps zs : List Lf) : List Lf := if e = 0 then ps else zs
def pRe (x : Int) (ad : Option Addr) (n c : Nat) : List Lf := [Lf.i .u16 x, Lf.s ad n c]
def pAu (x y z : Int) (ad : Option Addr) (n c : Nat) : List Lf := [Lf.i .u16 x, Lf.i .u16 y, Lf.i .u16 z, Lf.s ad n c]
def pRs (x y z : Int) (ad : Option Addr) (n c : Nat) : List Lf := [Lf.i .u16 x, Lf.i .u16 y, Lf.i .i64 z, Lf.s ad n c]
set_option maxHeartbeats 1600000 in
theorem resultAu_any (x y z : Int) (sd : Option Addr) (sn sc : Nat) (ad : Option Addr) (n c : Nat) (p : Int) (e : Int) (g : Nat) (w0 w : World) (rest : List Bk) (H : Kp (Loc w0 w ((g, 155, cat (partsR ad n c p e)) :: rest))) :
  Calls Try.prog 68 #[.agg (cat (pAu x y z sd sn sc)).toArray, .pointer (some ⟨g, 0, none⟩)] w fun en w' => en = .returned (.tuple #[.agg (cat (resP e (pAu x y z sd sn sc) (pAu 0 0 0 none 0 0))).toArray, .int .i64 e]) ∧ Loc w0 w' ((g, 155, cat (partsR ad n c p e)) :: rest) := by
 by_cases he : e = 0
 ·subst he
  rw [show resP 0 (pAu x y z sd sn sc) (pAu 0 0 0 none 0 0) = pAu x y z sd sn sc from rfl]
  go_enter Try.func68, Try.ntmps68
  go_wp2_with (first | ((with_reducible refine isBx 2 74 ?_); (refine L_box H rfl 74 _ rfl (cat (pAu x y z sd sn sc)) rfl ?_); clear H; intro g2 w2 HGg2 HEg2 H; simp only [pA]) | ((with_reducible refine isAl 4 74 ?_); (refine L_alloc H rfl 74 rfl (cat (pAu 0 0 0 none 0 0)) (fun _ _ => by kernel_rfl) ?_); clear H; intro g4 w4 HGg4 HEg4 H; simp only [pA]) | ((with_reducible refine isAl 6 74 ?_); (refine L_alloc H rfl 74 rfl (cat (pAu 0 0 0 none 0 0)) (fun _ _ => by kernel_rfl) ?_); clear H; intro g6 w6 HGg6 HEg6 H; simp only [pA]) | ((with_reducible refine isLd 33 ?_); (refine L_f1 H rfl 33 _ rfl 3 rfl _ rfl _ rfl _ rfl Try.underlying33 rfl ?_); simp only [pA]) | ((with_reducible refine isLd 74 ?_); refine L_fa H rfl 74 _ rfl 2 rfl rfl Try.underlying74 rfl (by kernel_rfl) ?_; simp only [pA]) | ((with_reducible refine isSt 74 ?_); refine L_sa H rfl rfl 74 _ _ rfl 1 rfl rfl (pAu x y z sd sn sc) rfl rfl (by kernel_rfl) ?_; clear H; intro wz HWwz H; simp only [ssA, szA] at H))
  (exact ret_f2 H Try.results68 1 rfl rfl _ rfl Try.underlying74 rfl (by kernel_rfl) rfl (⟨rfl, H.out.tl.tl.tl⟩))
 ·rw [show resP e (pAu x y z sd sn sc) (pAu 0 0 0 none 0 0) = pAu 0 0 0 none 0 0 from if_neg he]
  have hee : (e == 0) = false := by simpa using he
  clear he
  go_enter Try.func68, Try.ntmps68
  generalize h3 : (Code.region 3 _ _ : Code) = R3
  go_wp2_with (first | ((with_reducible refine isBx 2 74 ?_); (refine L_box H rfl 74 _ rfl (cat (pAu x y z sd sn sc)) rfl ?_); clear H; intro g2 w2 HGg2 HEg2 H; simp only [pA]) | ((with_reducible refine isAl 4 74 ?_); (refine L_alloc H rfl 74 rfl (cat (pAu 0 0 0 none 0 0)) (fun _ _ => by kernel_rfl) ?_); clear H; intro g4 w4 HGg4 HEg4 H; simp only [pA]) | ((with_reducible refine isAl 6 74 ?_); (refine L_alloc H rfl 74 rfl (cat (pAu 0 0 0 none 0 0)) (fun _ _ => by kernel_rfl) ?_); clear H; intro g6 w6 HGg6 HEg6 H; simp only [pA]) | ((with_reducible refine isLd 33 ?_); (refine L_f1 H rfl 33 _ rfl 3 rfl _ rfl _ rfl _ rfl Try.underlying33 rfl ?_); simp only [pA]))
  subst h3
  refine region_free H (tabS [(12, fun vQ _ => vQ = .agg (cat (pAu 0 0 0 none 0 0)).toArray), (13, fun vQ _ => vQ = .pointer (some ⟨g, 0, none⟩)), (14, fun vQ _ => vQ = .pointer (some ⟨g, 0, none⟩)), (15, fun vQ _ => vQ = .pointer (some ⟨g, 2, none⟩)), (16, fun vQ _ => vQ = .int .i64 e), (5, fun vQ _ => vQ = .int .i64 e)]) [⟨5, 1, g4, 74, cat (pAu 0 0 0 none 0 0), cat (pAu 0 0 0 none 0 0)⟩] (tabS_out _ _ (by simp only [List.forall_mem_cons, mono_eqO, true_and]; simp)) 7 (by kernel_rfl) (by kernel_rfl) (by kernel_rfl) (by kernel_rfl) [5] [1] rfl rfl (by decide) (by decide) (by decide) ⟨rfl, trivial⟩ ?_
  simp only [List.take_succ_cons, List.take_zero]
  refine ⟨fun w_ o_ S_ => ?_, fun v12 => ?_⟩
  ·clear S_
   have H := kp (H.out.keep [0, 2, 3] (St := [⟨5, 1, g4, 74, cat (pAu 0 0 0 none 0 0), cat (pAu 0 0 0 none 0 0)⟩]) ⟨rfl, trivial⟩ o_ (by decide) (by kernel_rfl))
   have HOX := kp o_
   clear o_
   go_wp2_with ((with_reducible refine isLd 74 ?_); (refine L_fa H rfl 74 _ rfl 0 rfl rfl Try.underlying74 rfl (by kernel_rfl) ?_); simp only [pA])
   exact kso
  simp only [pA]
  refine ⟨fun w_ o_ S_ => ?_, fun v13 => ?_⟩
  ·clear S_
   clear o_
   go_wp2_with fail
   exact kso
  simp only [pA]
  refine ⟨fun w_ o_ S_ => ?_, fun v14 => ?_⟩
  ·obtain rfl : v13 = .pointer (some ⟨g, 0, none⟩) := hsR S_ 13 rfl
   clear S_
   have H := kp (H.out.keep [0, 2, 3] (St := [⟨5, 1, g4, 74, cat (pAu 0 0 0 none 0 0), cat (pAu 0 0 0 none 0 0)⟩]) ⟨rfl, trivial⟩ o_ (by decide) (by kernel_rfl))
   have HOX := kp o_
   clear o_
   go_wp2_with fail
   exact kso
  simp only [pA]
  refine ⟨fun w_ o_ S_ => ?_, fun v15 => ?_⟩
  ·obtain rfl : v14 = .pointer (some ⟨g, 0, none⟩) := hsR S_ 14 rfl
   clear S_ o_
   go_wp2_with fail
   exact kso
  simp only [pA]
  refine ⟨fun w_ o_ S_ => ?_, fun v16 => ?_⟩
  ·obtain rfl : v15 = .pointer (some ⟨g, 2, none⟩) := hsR S_ 15 rfl
   clear S_
   have H := kp (H.out.keep [0, 2, 3] (St := [⟨5, 1, g4, 74, cat (pAu 0 0 0 none 0 0), cat (pAu 0 0 0 none 0 0)⟩]) ⟨rfl, trivial⟩ o_ (by decide) (by kernel_rfl))
   have HOX := kp o_
   clear o_
   go_wp2_with ((with_reducible refine isLd 33 ?_); (refine L_f1 H rfl 33 _ rfl 2 rfl _ rfl _ rfl _ rfl Try.underlying33 rfl ?_); simp only [pA])
   exact kso
  simp only [pA]
  refine ⟨⟨rfl, rfl, fun ws5 hos5 hSs5 hLs5 => ?_⟩, ?_⟩
  ·obtain rfl : v12 = .agg (cat (pAu 0 0 0 none 0 0)).toArray := hSs5 12 (by decide) (by decide)
   exact run_sto 74 _ _ rfl rfl rfl hLs5 ((by kernel_rfl)) (rfl) (by simpa using cat_one (pAu 0 0 0 none 0 0))
  refine ⟨fun w_ o_ S_ => ?_, fun v5 => ?_⟩
  ·obtain rfl : v16 = .int .i64 e := hsR S_ 16 rfl
   clear S_ o_
   go_wp2_with fail
   exact kso
  simp only [pA]
  clear H
  intro wn HOX H hfin
  obtain rfl : v12 = .agg (cat (pAu 0 0 0 none 0 0)).toArray := hfin 12 (by decide)
  obtain rfl : v13 = .pointer (some ⟨g, 0, none⟩) := hfin 13 (by decide)
  obtain rfl : v14 = .pointer (some ⟨g, 0, none⟩) := hfin 14 (by decide)
  obtain rfl : v15 = .pointer (some ⟨g, 2, none⟩) := hfin 15 (by decide)
  obtain rfl : v16 = .int .i64 e := hfin 16 (by decide)
  obtain rfl : v5 = .int .i64 e := hfin 5 (by decide)
  clear hfin
  simp only [List.drop_succ_cons, List.drop_zero]
  simp only [applyS] at H
  go_wp2_with fail
  (exact ret_f2 H Try.results68 1 rfl rfl _ rfl Try.underlying74 rfl (by kernel_rfl) rfl (⟨rfl, H.out.tl.tl.tl⟩))
set_option maxHeartbeats 1600000 in
theorem resultRs_any (x y z : Int) (sd : Option Addr) (sn sc : Nat) (ad : Option Addr) (n c : Nat) (p : Int) (e : Int) (g : Nat) (w0 w : World) (rest : List Bk) (H : Kp (Loc w0 w ((g, 155, cat (partsR ad n c p e)) :: rest))) :
  Calls Try.prog 63 #[.agg (cat (pRs x y z sd sn sc)).toArray, .pointer (some ⟨g, 0, none⟩)] w fun en w' => en = .returned (.tuple #[.agg (cat (resP e (pRs x y z sd sn sc) (pRs 0 0 0 none 0 0))).toArray, .int .i64 e]) ∧ Loc w0 w' ((g, 155, cat (partsR ad n c p e)) :: rest) := by
 by_cases he : e = 0
 ·subst he
  rw [show resP 0 (pRs x y z sd sn sc) (pRs 0 0 0 none 0 0) = pRs x y z sd sn sc from rfl]
  go_enter Try.func63, Try.ntmps63
  go_wp2_with (first | ((with_reducible refine isBx 2 68 ?_); (refine L_box H rfl 68 _ rfl (cat (pRs x y z sd sn sc)) rfl ?_); clear H; intro g2 w2 HGg2 HEg2 H; simp only [pA]) | ((with_reducible refine isAl 4 68 ?_); (refine L_alloc H rfl 68 rfl (cat (pRs 0 0 0 none 0 0)) (fun _ _ => by kernel_rfl) ?_); clear H; intro g4 w4 HGg4 HEg4 H; simp only [pA]) | ((with_reducible refine isAl 6 68 ?_); (refine L_alloc H rfl 68 rfl (cat (pRs 0 0 0 none 0 0)) (fun _ _ => by kernel_rfl) ?_); clear H; intro g6 w6 HGg6 HEg6 H; simp only [pA]) | ((with_reducible refine isLd 33 ?_); (refine L_f1 H rfl 33 _ rfl 3 rfl _ rfl _ rfl _ rfl Try.underlying33 rfl ?_); simp only [pA]) | ((with_reducible refine isLd 68 ?_); refine L_fa H rfl 68 _ rfl 2 rfl rfl Try.underlying68 rfl (by kernel_rfl) ?_; simp only [pA]) | ((with_reducible refine isSt 68 ?_); refine L_sa H rfl rfl 68 _ _ rfl 1 rfl rfl (pRs x y z sd sn sc) rfl rfl (by kernel_rfl) ?_; clear H; intro wz HWwz H; simp only [ssA, szA] at H))
  (exact ret_f2 H Try.results63 1 rfl rfl _ rfl Try.underlying68 rfl (by kernel_rfl) rfl (⟨rfl, H.out.tl.tl.tl⟩))
 ·rw [show resP e (pRs x y z sd sn sc) (pRs 0 0 0 none 0 0) = pRs 0 0 0 none 0 0 from if_neg he]
  have hee : (e == 0) = false := by simpa using he
  clear he
  go_enter Try.func63, Try.ntmps63
  generalize h3 : (Code.region 3 _ _ : Code) = R3
  go_wp2_with (first | ((with_reducible refine isBx 2 68 ?_); (refine L_box H rfl 68 _ rfl (cat (pRs x y z sd sn sc)) rfl ?_); clear H; intro g2 w2 HGg2 HEg2 H; simp only [pA]) | ((with_reducible refine isAl 4 68 ?_); (refine L_alloc H rfl 68 rfl (cat (pRs 0 0 0 none 0 0)) (fun _ _ => by kernel_rfl) ?_); clear H; intro g4 w4 HGg4 HEg4 H; simp only [pA]) | ((with_reducible refine isAl 6 68 ?_); (refine L_alloc H rfl 68 rfl (cat (pRs 0 0 0 none 0 0)) (fun _ _ => by kernel_rfl) ?_); clear H; intro g6 w6 HGg6 HEg6 H; simp only [pA]) | ((with_reducible refine isLd 33 ?_); (refine L_f1 H rfl 33 _ rfl 3 rfl _ rfl _ rfl _ rfl Try.underlying33 rfl ?_); simp only [pA]))
  subst h3
  refine region_free H (tabS [(12, fun vQ _ => vQ = .agg (cat (pRs 0 0 0 none 0 0)).toArray), (13, fun vQ _ => vQ = .pointer (some ⟨g, 0, none⟩)), (14, fun vQ _ => vQ = .pointer (some ⟨g, 0, none⟩)), (15, fun vQ _ => vQ = .pointer (some ⟨g, 2, none⟩)), (16, fun vQ _ => vQ = .int .i64 e), (5, fun vQ _ => vQ = .int .i64 e)]) [⟨5, 1, g4, 68, cat (pRs 0 0 0 none 0 0), cat (pRs 0 0 0 none 0 0)⟩] (tabS_out _ _ (by simp only [List.forall_mem_cons, mono_eqO, true_and]; simp)) 7 (by kernel_rfl) (by kernel_rfl) (by kernel_rfl) (by kernel_rfl) [5] [1] rfl rfl (by decide) (by decide) (by decide) ⟨rfl, trivial⟩ ?_
  simp only [List.take_succ_cons, List.take_zero]
  refine ⟨fun w_ o_ S_ => ?_, fun v12 => ?_⟩
  ·clear S_
   have H := kp (H.out.keep [0, 2, 3] (St := [⟨5, 1, g4, 68, cat (pRs 0 0 0 none 0 0), cat (pRs 0 0 0 none 0 0)⟩]) ⟨rfl, trivial⟩ o_ (by decide) (by kernel_rfl))
   have HOX := kp o_
   clear o_
   go_wp2_with ((with_reducible refine isLd 68 ?_); (refine L_fa H rfl 68 _ rfl 0 rfl rfl Try.underlying68 rfl (by kernel_rfl) ?_); simp only [pA])
   exact kso
  simp only [pA]
  refine ⟨fun w_ o_ S_ => ?_, fun v13 => ?_⟩
  ·clear S_
   clear o_
   go_wp2_with fail
   exact kso
  simp only [pA]
  refine ⟨fun w_ o_ S_ => ?_, fun v14 => ?_⟩
  ·obtain rfl : v13 = .pointer (some ⟨g, 0, none⟩) := hsR S_ 13 rfl
   clear S_
   have H := kp (H.out.keep [0, 2, 3] (St := [⟨5, 1, g4, 68, cat (pRs 0 0 0 none 0 0), cat (pRs 0 0 0 none 0 0)⟩]) ⟨rfl, trivial⟩ o_ (by decide) (by kernel_rfl))
   have HOX := kp o_
   clear o_
   go_wp2_with fail
   exact kso
  simp only [pA]
  refine ⟨fun w_ o_ S_ => ?_, fun v15 => ?_⟩
  ·obtain rfl : v14 = .pointer (some ⟨g, 0, none⟩) := hsR S_ 14 rfl
   clear S_ o_
   go_wp2_with fail
   exact kso
  simp only [pA]
  refine ⟨fun w_ o_ S_ => ?_, fun v16 => ?_⟩
  ·obtain rfl : v15 = .pointer (some ⟨g, 2, none⟩) := hsR S_ 15 rfl
   clear S_
   have H := kp (H.out.keep [0, 2, 3] (St := [⟨5, 1, g4, 68, cat (pRs 0 0 0 none 0 0), cat (pRs 0 0 0 none 0 0)⟩]) ⟨rfl, trivial⟩ o_ (by decide) (by kernel_rfl))
   have HOX := kp o_
   clear o_
   go_wp2_with ((with_reducible refine isLd 33 ?_); (refine L_f1 H rfl 33 _ rfl 2 rfl _ rfl _ rfl _ rfl Try.underlying33 rfl ?_); simp only [pA])
   exact kso
  simp only [pA]
  refine ⟨⟨rfl, rfl, fun ws5 hos5 hSs5 hLs5 => ?_⟩, ?_⟩
  ·obtain rfl : v12 = .agg (cat (pRs 0 0 0 none 0 0)).toArray := hSs5 12 (by decide) (by decide)
   exact run_sto 68 _ _ rfl rfl rfl hLs5 ((by kernel_rfl)) (rfl) (by simpa using cat_one (pRs 0 0 0 none 0 0))
  refine ⟨fun w_ o_ S_ => ?_, fun v5 => ?_⟩
  ·obtain rfl : v16 = .int .i64 e := hsR S_ 16 rfl
   clear S_ o_
   go_wp2_with fail
   exact kso
  simp only [pA]
  clear H
  intro wn HOX H hfin
  obtain rfl : v12 = .agg (cat (pRs 0 0 0 none 0 0)).toArray := hfin 12 (by decide)
  obtain rfl : v13 = .pointer (some ⟨g, 0, none⟩) := hfin 13 (by decide)
  obtain rfl : v14 = .pointer (some ⟨g, 0, none⟩) := hfin 14 (by decide)
  obtain rfl : v15 = .pointer (some ⟨g, 2, none⟩) := hfin 15 (by decide)
  obtain rfl : v16 = .int .i64 e := hfin 16 (by decide)
  obtain rfl : v5 = .int .i64 e := hfin 5 (by decide)
  clear hfin
  simp only [List.drop_succ_cons, List.drop_zero]
  simp only [applyS] at H
  go_wp2_with fail
  (exact ret_f2 H Try.results63 1 rfl rfl _ rfl Try.underlying68 rfl (by kernel_rfl) rfl (⟨rfl, H.out.tl.tl.tl⟩))
set_option maxHeartbeats 1600000 in
theorem resultRq_any (x y : Int) (o : Vc 6) (sd : Option Addr) (sn sc : Nat) (ad : Option Addr) (n c : Nat) (p : Int) (e : Int) (g : Nat) (w0 w : World) (rest : List Bk) (H : Kp (Loc w0 w ((g, 155, cat (partsR ad n c p e)) :: rest))) :
  Calls Try.prog 118 #[.agg (cat (partsRq x y o sd sn sc)).toArray, .pointer (some ⟨g, 0, none⟩)] w fun en w' => en = .returned (.tuple #[.agg (cat (resP e (partsRq x y o sd sn sc) (partsRq 0 0 zv6 none 0 0))).toArray, .int .i64 e]) ∧ Loc w0 w' ((g, 155, cat (partsR ad n c p e)) :: rest) := by
 by_cases he : e = 0
 ·subst he
  rw [show resP 0 (partsRq x y o sd sn sc) (partsRq 0 0 zv6 none 0 0) = partsRq x y o sd sn sc from rfl]
  go_enter Try.func118, Try.ntmps118
  go_wp2_with (first | ((with_reducible refine isBx 2 87 ?_); (refine L_box H rfl 87 _ rfl (cat (partsRq x y o sd sn sc)) rfl ?_); clear H; intro g2 w2 HGg2 HEg2 H; simp only [pA]) | ((with_reducible refine isAl 4 87 ?_); (refine L_alloc H rfl 87 rfl (cat (partsRq 0 0 zv6 none 0 0)) (fun _ _ => by kernel_rfl) ?_); clear H; intro g4 w4 HGg4 HEg4 H; simp only [pA]) | ((with_reducible refine isAl 6 87 ?_); (refine L_alloc H rfl 87 rfl (cat (partsRq 0 0 zv6 none 0 0)) (fun _ _ => by kernel_rfl) ?_); clear H; intro g6 w6 HGg6 HEg6 H; simp only [pA]) | ((with_reducible refine isLd 33 ?_); (refine L_f1 H rfl 33 _ rfl 3 rfl _ rfl _ rfl _ rfl Try.underlying33 rfl ?_); simp only [pA]) | ((with_reducible refine isLd 87 ?_); refine L_fa H rfl 87 _ rfl 2 rfl rfl Try.underlying87 rfl (by kernel_rfl) ?_; simp only [pA]) | ((with_reducible refine isSt 87 ?_); refine L_sa H rfl rfl 87 _ _ rfl 1 rfl rfl (partsRq x y o sd sn sc) rfl rfl (by kernel_rfl) ?_; clear H; intro wz HWwz H; simp only [ssA, szA] at H))
  (exact ret_f2 H Try.results118 1 rfl rfl _ rfl Try.underlying87 rfl (by kernel_rfl) rfl (⟨rfl, H.out.tl.tl.tl⟩))
 ·rw [show resP e (partsRq x y o sd sn sc) (partsRq 0 0 zv6 none 0 0) = partsRq 0 0 zv6 none 0 0 from if_neg he]
  have hee : (e == 0) = false := by simpa using he
  clear he
  go_enter Try.func118, Try.ntmps118
  generalize h3 : (Code.region 3 _ _ : Code) = R3
  go_wp2_with (first | ((with_reducible refine isBx 2 87 ?_); (refine L_box H rfl 87 _ rfl (cat (partsRq x y o sd sn sc)) rfl ?_); clear H; intro g2 w2 HGg2 HEg2 H; simp only [pA]) | ((with_reducible refine isAl 4 87 ?_); (refine L_alloc H rfl 87 rfl (cat (partsRq 0 0 zv6 none 0 0)) (fun _ _ => by kernel_rfl) ?_); clear H; intro g4 w4 HGg4 HEg4 H; simp only [pA]) | ((with_reducible refine isAl 6 87 ?_); (refine L_alloc H rfl 87 rfl (cat (partsRq 0 0 zv6 none 0 0)) (fun _ _ => by kernel_rfl) ?_); clear H; intro g6 w6 HGg6 HEg6 H; simp only [pA]) | ((with_reducible refine isLd 33 ?_); (refine L_f1 H rfl 33 _ rfl 3 rfl _ rfl _ rfl _ rfl Try.underlying33 rfl ?_); simp only [pA]))
  subst h3
  refine region_free H (tabS [(12, fun vQ _ => vQ = .agg (cat (partsRq 0 0 zv6 none 0 0)).toArray), (13, fun vQ _ => vQ = .pointer (some ⟨g, 0, none⟩)), (14, fun vQ _ => vQ = .pointer (some ⟨g, 0, none⟩)), (15, fun vQ _ => vQ = .pointer (some ⟨g, 2, none⟩)), (16, fun vQ _ => vQ = .int .i64 e), (5, fun vQ _ => vQ = .int .i64 e)]) [⟨5, 1, g4, 87, cat (partsRq 0 0 zv6 none 0 0), cat (partsRq 0 0 zv6 none 0 0)⟩] (tabS_out _ _ (by simp only [List.forall_mem_cons, mono_eqO, true_and]; simp)) 7 (by kernel_rfl) (by kernel_rfl) (by kernel_rfl) (by kernel_rfl) [5] [1] rfl rfl (by decide) (by decide) (by decide) ⟨rfl, trivial⟩ ?_
  simp only [List.take_succ_cons, List.take_zero]
  refine ⟨fun w_ o_ S_ => ?_, fun v12 => ?_⟩
  ·clear S_
   have H := kp (H.out.keep [0, 2, 3] (St := [⟨5, 1, g4, 87, cat (partsRq 0 0 zv6 none 0 0), cat (partsRq 0 0 zv6 none 0 0)⟩]) ⟨rfl, trivial⟩ o_ (by decide) (by kernel_rfl))
   have HOX := kp o_
   clear o_
   go_wp2_with ((with_reducible refine isLd 87 ?_); (refine L_fa H rfl 87 _ rfl 0 rfl rfl Try.underlying87 rfl (by kernel_rfl) ?_); simp only [pA])
   exact kso
  simp only [pA]
  refine ⟨fun w_ o_ S_ => ?_, fun v13 => ?_⟩
  ·clear S_
   clear o_
   go_wp2_with fail
   exact kso
  simp only [pA]
  refine ⟨fun w_ o_ S_ => ?_, fun v14 => ?_⟩
  ·obtain rfl : v13 = .pointer (some ⟨g, 0, none⟩) := hsR S_ 13 rfl
   clear S_
   have H := kp (H.out.keep [0, 2, 3] (St := [⟨5, 1, g4, 87, cat (partsRq 0 0 zv6 none 0 0), cat (partsRq 0 0 zv6 none 0 0)⟩]) ⟨rfl, trivial⟩ o_ (by decide) (by kernel_rfl))
   have HOX := kp o_
   clear o_
   go_wp2_with fail
   exact kso
  simp only [pA]
  refine ⟨fun w_ o_ S_ => ?_, fun v15 => ?_⟩
  ·obtain rfl : v14 = .pointer (some ⟨g, 0, none⟩) := hsR S_ 14 rfl
   clear S_ o_
   go_wp2_with fail
   exact kso
  simp only [pA]
  refine ⟨fun w_ o_ S_ => ?_, fun v16 => ?_⟩
  ·obtain rfl : v15 = .pointer (some ⟨g, 2, none⟩) := hsR S_ 15 rfl
   clear S_
   have H := kp (H.out.keep [0, 2, 3] (St := [⟨5, 1, g4, 87, cat (partsRq 0 0 zv6 none 0 0), cat (partsRq 0 0 zv6 none 0 0)⟩]) ⟨rfl, trivial⟩ o_ (by decide) (by kernel_rfl))
   have HOX := kp o_
   clear o_
   go_wp2_with ((with_reducible refine isLd 33 ?_); (refine L_f1 H rfl 33 _ rfl 2 rfl _ rfl _ rfl _ rfl Try.underlying33 rfl ?_); simp only [pA])
   exact kso
  simp only [pA]
  refine ⟨⟨rfl, rfl, fun ws5 hos5 hSs5 hLs5 => ?_⟩, ?_⟩
  ·obtain rfl : v12 = .agg (cat (partsRq 0 0 zv6 none 0 0)).toArray := hSs5 12 (by decide) (by decide)
   exact run_sto 87 _ _ rfl rfl rfl hLs5 ((by kernel_rfl)) (rfl) (by simpa using cat_one (partsRq 0 0 zv6 none 0 0))
  refine ⟨fun w_ o_ S_ => ?_, fun v5 => ?_⟩
  ·obtain rfl : v16 = .int .i64 e := hsR S_ 16 rfl
   clear S_ o_
   go_wp2_with fail
   exact kso
  simp only [pA]
  clear H
  intro wn HOX H hfin
  obtain rfl : v12 = .agg (cat (partsRq 0 0 zv6 none 0 0)).toArray := hfin 12 (by decide)
  obtain rfl : v13 = .pointer (some ⟨g, 0, none⟩) := hfin 13 (by decide)
  obtain rfl : v14 = .pointer (some ⟨g, 0, none⟩) := hfin 14 (by decide)
  obtain rfl : v15 = .pointer (some ⟨g, 2, none⟩) := hfin 15 (by decide)
  obtain rfl : v16 = .int .i64 e := hfin 16 (by decide)
  obtain rfl : v5 = .int .i64 e := hfin 5 (by decide)
  clear hfin
  simp only [List.drop_succ_cons, List.drop_zero]
  simp only [applyS] at H
  go_wp2_with fail
  (exact ret_f2 H Try.results118 1 rfl rfl _ rfl Try.underlying87 rfl (by kernel_rfl) rfl (⟨rfl, H.out.tl.tl.tl⟩))
set_option maxHeartbeats 1600000 in
theorem resultRe_any (x : Int) (sd : Option Addr) (sn sc : Nat) (ad : Option Addr) (n c : Nat) (p : Int) (e : Int) (g : Nat) (w0 w : World) (rest : List Bk) (H : Kp (Loc w0 w ((g, 155, cat (partsR ad n c p e)) :: rest))) :
  Calls Try.prog 61 #[.agg (cat (pRe x sd sn sc)).toArray, .pointer (some ⟨g, 0, none⟩)] w fun en w' => en = .returned (.tuple #[.agg (cat (resP e (pRe x sd sn sc) (pRe 0 none 0 0))).toArray, .int .i64 e]) ∧ Loc w0 w' ((g, 155, cat (partsR ad n c p e)) :: rest) := by
 by_cases he : e = 0
 ·subst he
  rw [show resP 0 (pRe x sd sn sc) (pRe 0 none 0 0) = pRe x sd sn sc from rfl]
  go_enter Try.func61, Try.ntmps61
  go_wp2_with (first | ((with_reducible refine isBx 2 57 ?_); (refine L_box H rfl 57 _ rfl (cat (pRe x sd sn sc)) rfl ?_); clear H; intro g2 w2 HGg2 HEg2 H; simp only [pA]) | ((with_reducible refine isAl 4 57 ?_); (refine L_alloc H rfl 57 rfl (cat (pRe 0 none 0 0)) (fun _ _ => by kernel_rfl) ?_); clear H; intro g4 w4 HGg4 HEg4 H; simp only [pA]) | ((with_reducible refine isAl 6 57 ?_); (refine L_alloc H rfl 57 rfl (cat (pRe 0 none 0 0)) (fun _ _ => by kernel_rfl) ?_); clear H; intro g6 w6 HGg6 HEg6 H; simp only [pA]) | ((with_reducible refine isLd 33 ?_); (refine L_f1 H rfl 33 _ rfl 3 rfl _ rfl _ rfl _ rfl Try.underlying33 rfl ?_); simp only [pA]) | ((with_reducible refine isLd 57 ?_); refine L_fa H rfl 57 _ rfl 2 rfl rfl Try.underlying57 rfl (by kernel_rfl) ?_; simp only [pA]) | ((with_reducible refine isSt 57 ?_); refine L_sa H rfl rfl 57 _ _ rfl 1 rfl rfl (pRe x sd sn sc) rfl rfl (by kernel_rfl) ?_; clear H; intro wz HWwz H; simp only [ssA, szA] at H))
  (exact ret_f2 H Try.results61 1 rfl rfl _ rfl Try.underlying57 rfl (by kernel_rfl) rfl (⟨rfl, H.out.tl.tl.tl⟩))
 ·rw [show resP e (pRe x sd sn sc) (pRe 0 none 0 0) = pRe 0 none 0 0 from if_neg he]
  have hee : (e == 0) = false := by simpa using he
  clear he
  go_enter Try.func61, Try.ntmps61
  generalize h3 : (Code.region 3 _ _ : Code) = R3
  go_wp2_with (first | ((with_reducible refine isBx 2 57 ?_); (refine L_box H rfl 57 _ rfl (cat (pRe x sd sn sc)) rfl ?_); clear H; intro g2 w2 HGg2 HEg2 H; simp only [pA]) | ((with_reducible refine isAl 4 57 ?_); (refine L_alloc H rfl 57 rfl (cat (pRe 0 none 0 0)) (fun _ _ => by kernel_rfl) ?_); clear H; intro g4 w4 HGg4 HEg4 H; simp only [pA]) | ((with_reducible refine isAl 6 57 ?_); (refine L_alloc H rfl 57 rfl (cat (pRe 0 none 0 0)) (fun _ _ => by kernel_rfl) ?_); clear H; intro g6 w6 HGg6 HEg6 H; simp only [pA]) | ((with_reducible refine isLd 33 ?_); (refine L_f1 H rfl 33 _ rfl 3 rfl _ rfl _ rfl _ rfl Try.underlying33 rfl ?_); simp only [pA]))
  subst h3
  refine region_free H (tabS [(12, fun vQ _ => vQ = .agg (cat (pRe 0 none 0 0)).toArray), (13, fun vQ _ => vQ = .pointer (some ⟨g, 0, none⟩)), (14, fun vQ _ => vQ = .pointer (some ⟨g, 0, none⟩)), (15, fun vQ _ => vQ = .pointer (some ⟨g, 2, none⟩)), (16, fun vQ _ => vQ = .int .i64 e), (5, fun vQ _ => vQ = .int .i64 e)]) [⟨5, 1, g4, 57, cat (pRe 0 none 0 0), cat (pRe 0 none 0 0)⟩] (tabS_out _ _ (by simp only [List.forall_mem_cons, mono_eqO, true_and]; simp)) 7 (by kernel_rfl) (by kernel_rfl) (by kernel_rfl) (by kernel_rfl) [5] [1] rfl rfl (by decide) (by decide) (by decide) ⟨rfl, trivial⟩ ?_
  simp only [List.take_succ_cons, List.take_zero]
  refine ⟨fun w_ o_ S_ => ?_, fun v12 => ?_⟩
  ·clear S_
   have H := kp (H.out.keep [0, 2, 3] (St := [⟨5, 1, g4, 57, cat (pRe 0 none 0 0), cat (pRe 0 none 0 0)⟩]) ⟨rfl, trivial⟩ o_ (by decide) (by kernel_rfl))
   have HOX := kp o_
   clear o_
   go_wp2_with ((with_reducible refine isLd 57 ?_); (refine L_fa H rfl 57 _ rfl 0 rfl rfl Try.underlying57 rfl (by kernel_rfl) ?_); simp only [pA])
   exact kso
  simp only [pA]
  refine ⟨fun w_ o_ S_ => ?_, fun v13 => ?_⟩
  ·clear S_
   clear o_
   go_wp2_with fail
   exact kso
  simp only [pA]
  refine ⟨fun w_ o_ S_ => ?_, fun v14 => ?_⟩
  ·obtain rfl : v13 = .pointer (some ⟨g, 0, none⟩) := hsR S_ 13 rfl
   clear S_
   have H := kp (H.out.keep [0, 2, 3] (St := [⟨5, 1, g4, 57, cat (pRe 0 none 0 0), cat (pRe 0 none 0 0)⟩]) ⟨rfl, trivial⟩ o_ (by decide) (by kernel_rfl))
   have HOX := kp o_
   clear o_
   go_wp2_with fail
   exact kso
  simp only [pA]
  refine ⟨fun w_ o_ S_ => ?_, fun v15 => ?_⟩
  ·obtain rfl : v14 = .pointer (some ⟨g, 0, none⟩) := hsR S_ 14 rfl
   clear S_ o_
   go_wp2_with fail
   exact kso
  simp only [pA]
  refine ⟨fun w_ o_ S_ => ?_, fun v16 => ?_⟩
  ·obtain rfl : v15 = .pointer (some ⟨g, 2, none⟩) := hsR S_ 15 rfl
   clear S_
   have H := kp (H.out.keep [0, 2, 3] (St := [⟨5, 1, g4, 57, cat (pRe 0 none 0 0), cat (pRe 0 none 0 0)⟩]) ⟨rfl, trivial⟩ o_ (by decide) (by kernel_rfl))
   have HOX := kp o_
   clear o_
   go_wp2_with ((with_reducible refine isLd 33 ?_); (refine L_f1 H rfl 33 _ rfl 2 rfl _ rfl _ rfl _ rfl Try.underlying33 rfl ?_); simp only [pA])
   exact kso
  simp only [pA]
  refine ⟨⟨rfl, rfl, fun ws5 hos5 hSs5 hLs5 => ?_⟩, ?_⟩
  ·obtain rfl : v12 = .agg (cat (pRe 0 none 0 0)).toArray := hSs5 12 (by decide) (by decide)
   exact run_sto 57 _ _ rfl rfl rfl hLs5 ((by kernel_rfl)) (rfl) (by simpa using cat_one (pRe 0 none 0 0))
  refine ⟨fun w_ o_ S_ => ?_, fun v5 => ?_⟩
  ·obtain rfl : v16 = .int .i64 e := hsR S_ 16 rfl
   clear S_ o_
   go_wp2_with fail
   exact kso
  simp only [pA]
  clear H
  intro wn HOX H hfin
  obtain rfl : v12 = .agg (cat (pRe 0 none 0 0)).toArray := hfin 12 (by decide)
  obtain rfl : v13 = .pointer (some ⟨g, 0, none⟩) := hfin 13 (by decide)
  obtain rfl : v14 = .pointer (some ⟨g, 0, none⟩) := hfin 14 (by decide)
  obtain rfl : v15 = .pointer (some ⟨g, 2, none⟩) := hfin 15 (by decide)
  obtain rfl : v16 = .int .i64 e := hfin 16 (by decide)
  obtain rfl : v5 = .int .i64 e := hfin 5 (by decide)
  clear hfin
  simp only [List.drop_succ_cons, List.drop_zero]
  simp only [applyS] at H
  go_wp2_with fail
  (exact ret_f2 H Try.results61 1 rfl rfl _ rfl Try.underlying57 rfl (by kernel_rfl) rfl (⟨rfl, H.out.tl.tl.tl⟩))
end Go.Proofs.Ytfecopfofkdnpaa
