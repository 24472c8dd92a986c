/- Texts of this proof, put together: Av3, Av4, Av5. -/
import Derived.Test.YtfecopfofkdnpaaS28
import Derived.Test.YtfecopfofkdnpaaS16
import Derived.Test.YtfecopfofkdnpaaS19
import Derived.Test.YtfecopfofkdnpaaS1
namespace Go.Proofs.Ytfecopfofkdnpaa
open Go.RowKit
theorem frs_known {B : Nat} {m : Hd} {bb : By} {v : Value} {w : World} (ok : m.Ok) (h : FrS B [(m, bb)] v w) : ∃ g c cs ad n cc, v = .slice (some ⟨g, 0, none⟩) 1 c ∧ B ≤ g ∧ Lc w g 31 cs ∧ OwB B w (.slice ad n cc) bb ∧ cs[1]? = some (.int .u8 m.sub) ∧ (cs.drop 10).take (m.a1.map V8).length = m.a1.map V8 ∧ cs[40]? = some (.slice ad n cc) := by
 obtain ⟨vs, h1, h2, h3⟩ := h
 obtain ⟨u, rfl⟩ : ∃ u, vs = [u] := by
  match vs, h1 with
  | [u], _ => exact ⟨u, rfl⟩
 have hu := h3 ((m, bb), u) (by simp)
 obtain ⟨ad, n, cc, rfl⟩ := owns_form2 hu
 have e : (([(m, bb)].zip [Value.slice ad n cc]).flatMap fun p => cellsF p.1.1 p.2) = cat (partsFr m ok ad n cc) := by rw [← cat_Fr]; simp [cellsF]
 rw [e] at h2
 obtain ⟨q1, ⟨_, q2⟩ | ⟨g, c, cur, rfl, hb, hg, hn, hc, hz, ht⟩⟩ := h2
 ·exact absurd q2 (by simp)
 have hcat : ∀ (off i : Nat) (p : Lf), fat (partsFr m ok ad n cc) off = some i → nth (partsFr m ok ad n cc) i = some p → (cur.toList.drop off).take p.cs.length = p.cs := by
  intro off i p hf hp
  have h1 := cat_part hf hp
  rw [← ht] at h1
  rw [List.drop_take, List.take_take] at h1
  have h2 : p.cs.length ≤ min p.cs.length (([(m, bb)].zip [Value.slice ad n cc]).length * 41 - off) := by
   have h3 := congrArg List.length h1
   rw [List.length_take] at h3
   exact Nat.le_trans (Nat.le_of_eq h3.symm) (Nat.min_le_left _ _)
  have h4 := Nat.le_antisymm (Nat.min_le_left _ _) h2
  rw [h4] at h1
  exact h1
 refine ⟨g, c, cur.toList, ad, n, cc, rfl, hb, by unfold Lc; rw [Array.toArray_toList]; exact hg, hu, ?_, ?_, ?_⟩
 ·have := hcat 1 1 (Lf.i .u8 m.sub) rfl rfl
  have h2 := congrArg (·[0]?) this
  simpa using h2
 ·exact hcat 10 10 (Lf.v ⟨m.a1, ok.l1⟩) rfl rfl
 ·have := hcat 40 20 (Lf.s ad n cc) rfl rfl
  have h2 := congrArg (·[0]?) this
  simpa using h2
theorem L_c1 {P : Program} {ops : Array Oper} {rest : List Oper} {o : Oper} {a : Act} {w0 w : World} {Q : Exit → Act → World → Prop} {bs : List Bk} (H : Kp (Loc w0 w bs)) (hgd : Region.wanted o (yielded ops a.tmps) = true) (ty : TypeId) (x : Operand) (ho : o.op = .load ty x) (k : Nat) {g T : Nat} {cs : List Value} (hi : bs[k]? = some (g, T, cs)) (off : Nat)
  (hx : a.eval x = .pointer (some ⟨g, off, none⟩)) (v : Value) (hp : cs[off]? = some v) {d : TypeDesc} (hu : P.underlying ty = some d) (hd : d.isRow = false)
  (h : wpList P ops Q rest (a.put o.dst v) w) : wpList P ops Q (o :: rest) a w := by
 refine wpList_step fun K hK => ?_
 rw [if_pos hgd]
 have hc : w.cell? ⟨g, off, none⟩ = some v := (H.out.at k hi).cell hp
 unfold Oper.wp execOp
 simp only [ho, hx, Instr.loadAt, Instr.sureAddr, Sem.run_bind, Sem.run_pure, Result.andThen_ok, run_loadVar_cell w g off ty v hc hu hd]
 exact hK _ _ h
theorem eqAddrS (l : By) (h : l.length = 6) (w : World) : (Op.equalIn 10000 23 (.agg (l.map V8).toArray) (.agg (l.map V8).toArray)).run Try.prog w = .ok true w := by
 have := run_eq_ints (P := Try.prog) w Try.underlying23 Try.underlying5 sizeU8 l l h h 9998
 rw [this]; simp
theorem owns_lenle {B : Nat} {w : World} {ad : Option Addr} {n c : Nat} {l : By} (h : OwB B w (.slice ad n c) l) (hl : l.length ≤ 1000) : n ≤ 100000 ∧ n ≤ c := by
 obtain ⟨h1, ⟨e, h2⟩ | ⟨g, cap, cur, e, hb, hg, hn, _⟩⟩ := h <;> cases e <;> omega
def AnsK (sub : Int) (bb : By) (code aid : Int) : Prop :=
 (sub = 11 ∧ frontE bb 6 = 0 ∧ rdF bb 4 = code ∧ aid = 0) ∨ (sub = 1 ∧ respE bb = 0 ∧ rdF bb 2 = code ∧ rdF bb 4 = aid) ∨ (sub = 3 ∧ respE bb = 0 ∧ rdF bb 2 = code ∧ rdF bb 4 = aid) ∨ (sub = 10 ∧ frontE bb 2 = 0 ∧ rdF bb 0 = code ∧ aid = 0) ∨ (sub = 12 ∧ frontE bb 2 = 0 ∧ rdF bb 0 = code ∧ aid = 0)
def AnsR (a : As) (ha : a.own.length = 6) (l' : List En) (w : World) (e : Ending) (w' : World) : Prop :=
 ∃ ad n c, e = .returned (.tuple #[.agg (cat (partsA a ha ad n c)).toArray, .bool true]) ∧ OwE w.heap.size w' (.slice ad n c) l' ∧ Ext w w'
theorem han1 {a : As} {ha : a.own.length = 6} {l' : List En} {outs : List Fm} {w w' : World} {e : Ending} (h : HanR a (l', outs, 0) w e w') : ∃ ad n c v, e = .returned (.tuple #[.agg (cat (partsA a ha ad n c)).toArray, v, .int .i64 0]) ∧ OwE w.heap.size w' (.slice ad n c) l' ∧ FrS w.heap.size outs v w' ∧ Ext w w' := by
 obtain ⟨ad, n, c, v, rfl, h1, h2, h3⟩ := h
 exact ⟨ad, n, c, v, by rw [← cat_A a ha]; rfl, h1, h2, h3⟩
theorem au_ok {bb : By} {c : Int} (h0 : frontE bb 6 = 0) (hc : rdF bb 4 = c) {w w' : World} {e : Ending} (h : AuR bb w e w') : ∃ x y a k q, e = .returned (.tuple #[.agg (cat (pAu x y c a k q)).toArray, .int .i64 0]) ∧ Ext w w' := by
 obtain ⟨x, y, z, a, k, q, rfl, hx, h1, _⟩ := h
 obtain ⟨-, -, rfl⟩ := h1 h0
 exact ⟨x, y, a, k, q, by rw [h0, hc], hx⟩
theorem rp_ok {bb : By} {c d : Int} (h0 : respE bb = 0) (hc : rdF bb 2 = c) (hd : rdF bb 4 = d) {w w' : World} {e : Ending} (h : RpR bb w e w') : ∃ x a k q, e = .returned (.tuple #[.agg (cat (pRs x c d a k q)).toArray, .int .i64 0]) ∧ Ext w w' := by
 obtain ⟨x, y, z, a, k, q, rfl, hx, h1, _⟩ := h
 obtain ⟨-, rfl, rfl⟩ := h1 h0
 exact ⟨x, a, k, q, by rw [h0, hc, hd], hx⟩
theorem re_ok {bb : By} {c : Int} (h0 : frontE bb 2 = 0) (hc : rdF bb 0 = c) {w w' : World} {e : Ending} (h : RsnR bb w e w') : ∃ a k q, e = .returned (.tuple #[.agg (cat (pRe c a k q)).toArray, .int .i64 0]) ∧ Ext w w' := by
 obtain ⟨a, k, q, rfl, hx⟩ := h
 exact ⟨a, k, q, by rw [show codF bb = c from by unfold codF; rw [if_pos h0, hc], h0], hx⟩
set_option maxRecDepth 4000 in
set_option maxHeartbeats 1600000 in
theorem answered_any (a : As) (ha : a.own.length = 6) (l : List En) (hl : L6 l) (hn : l.length ≤ 100000) (ad : Option Addr) (n c : Nat) (h : Hd) (ok : h.Ok) (fa : Option Addr) (fn fc : Nat) (b : By) (hfn : fn ≤ 100000) (hfc : fn ≤ fc) (now sub code aid : Int) (l' : List En) (bb : By)
  (hr : handleF dA dJ dL a l h b now = (l', [(msgH a h.a2 sub, bb)], 0)) (hbl : bb.length ≤ 1000) (hs0 : 0 ≤ sub ∧ sub < 256) (hk : AnsK sub bb code aid) (hco : 0 ≤ code ∧ code ≤ 65535) (w : World) (hs : SlT 11 cellsE w (.slice ad n c) l) (hb : SlB w (.slice fa fn fc) b) :
  Calls Try.prog 36 #[.agg (cat (partsA a ha ad n c)).toArray, .agg (cat (partsFr h ok fa fn fc)).toArray, .int .i64 now, .int .u8 sub, .int .i64 code, .int .i64 aid] w (AnsR a ha l' w) := by
 have H := kp (Loc.start w)
 have HH := kp (fun w' (hx : Ext w w') => handle_any a ha (.slice ad n c) l hl hn h ok fa fn fc b hfn hfc now w' (hs.ext hx) (hb.ext hx))
 rw [hr, cat_A a ha, show cellsF h (.slice fa fn fc) = cat (partsFr h ok fa fn fc) from cat_Fr h ok fa fn fc] at HH
 have HMK := kp (msg_ok (t := h.a2) ha ok.l2 hs0.1 hs0.2)
 have HL2 := kp ok.l2
 have HEQ := kp (eqAddrS h.a2 ok.l2)
 have HK := kp hk
 have HBL := kp hbl
 have hw : wrap64 code = code := by unfold wrap64; omega
 clear hr hl hn hs hb hk hbl hs0 hfn hfc hco
 go_enter Try.func36, Try.ntmps36
 generalize hr2 : (Code.region 2 _ _ : Code) = R2
 generalize hr14 : (Code.region 14 _ _ : Code) = R14
 go_wp2_with (first | ((with_reducible refine isBx 6 26 ?_); (refine L_box H rfl 26 _ rfl (cat (partsA a ha ad n c)) rfl ?_); clear H; intro g6 w6 HGg6 HEg6 H; simp only [pA]) | ((with_reducible refine isBx 7 31 ?_); (refine L_box H rfl 31 _ rfl (cat (partsFr h ok fa fn fc)) rfl ?_); clear H; intro g7 w7 HGg7 HEg7 H; simp only [pA]) | ((with_reducible refine isAl 12 26 ?_); (refine L_alloc H rfl 26 rfl (cat (partsA as0 rfl none 0 0)) (fun _ _ => by kernel_rfl) ?_); clear H; intro g12 w12 HGg12 HEg12 H; simp only [pA]) | ((with_reducible refine isLd 26 ?_); (refine L_fa H rfl 26 _ rfl 2 rfl rfl Try.underlying26 rfl (by kernel_rfl) ?_); simp only [pA]) | ((with_reducible refine isLd 31 ?_); (refine L_fa H rfl 31 _ rfl 1 rfl rfl Try.underlying31 rfl (by kernel_rfl) ?_); simp only [pA]) | (go_at_call 29; have HLT := kp H.out.allLt; have HSZ := kp H.out.1.size; refine (HH.out _ H.out.1).mono ?_; intro e wh hrr; obtain ⟨ad2, n2, c2, v, rfl, ho, hf, hx⟩ := han1 (ha := ha) hrr; clear hrr; obtain ⟨gf, cf, cs, bd, bn, bc, rfl, hgf, hlc, hbo, hc1, hc10, hc40⟩ := frs_known HMK.out hf; clear hf; have HO := kp (owns_weak ho HSZ.out); have HBO := kp hbo; have HC1 := kp (show cs[1]? = some (.int .u8 sub) from hc1); have HC10 := kp (show (cs.drop 10).take (h.a2.map V8).length = h.a2.map V8 from hc10); have HC40 := kp hc40; clear ho hbo hc1 hc10 hc40; replace H := kp (H.out.ext hx); have HXC := kp hx; clear hx; have H2 := kp (Loc.add H.out _ HLT.out HSZ.out hgf hlc); clear H; have H := H2; clear H2 hgf hlc HLT) | ((with_reducible refine isAl 14 26 ?_); (refine L_alloc H rfl 26 rfl (cat (partsA as0 rfl none 0 0)) (fun _ _ => by kernel_rfl) ?_); clear H; intro g14 w14 HGg14 HEg14 H; simp only [pA]) | ((with_reducible refine isSt 26 ?_); refine L_sa H rfl rfl 26 _ _ rfl 0 rfl rfl (partsA a ha ad2 n2 c2) rfl rfl (by kernel_rfl) ?_; clear H; intro w14b HWw14b H; simp only [szA] at H))
 have HE1 := kp (ext_wrote HEg14.out HWw14b.out (Nat.le_of_eq HGg14.out.symm))
 have HBN := kp (owns_lenle HBO.out HBL.out)
 clear HBL HSZ HXC
 subst hr2
 refine region_z H 27 (by kernel_rfl) (by kernel_rfl) (by kernel_rfl) (by kernel_rfl) (by decide) (Nat.le_of_ble_eq_true (by kernel_rfl)) ?_
 apply Exists.intro
 refine ⟨fun xz2 => ?_, fun wz2 HXZ H => ?_⟩
 ·simp only [List.take_succ_cons, List.take_zero]
  unfold Cx
  repeat (first | ((with_reducible show wpQuiet _ _ _ _ (Oper.mk _ (Op.load 23 (.tmp 53)) _ _ _ _ :: _) _); go_big_quiet_want; refine qz_l H 23 _ rfl 1 rfl 10 rfl _ HC10.out Try.underlying23 rfl (by rw [List.length_map, HL2.out]; kernel_rfl) ?_; simp only [pA]; go_big_quiet_on) | ((with_reducible show wpQuiet _ _ _ _ (Oper.mk _ (Op.load 5 _) _ _ _ _ :: _) _); go_big_quiet_want; refine qz_c 5 _ rfl _ _ rfl (.int .u8 sub) (fun W hx => ((H.out.ext hx).at 1 rfl).cell HC1.out) Try.underlying5 rfl ?_; simp only [pA]; go_big_quiet_on) | ((with_reducible show wpQuiet _ _ _ _ (Oper.mk _ (Op.load 23 _) _ _ _ _ :: _) _); go_big_quiet_want; (refine qz_v H 23 _ rfl 3 rfl _ rfl _ rfl rfl Try.underlying23 rfl (by kernel_rfl) ?_); simp only [pA]; go_big_quiet_on) | ((with_reducible show wpQuiet _ _ _ _ (Oper.mk _ (Op.binOp _ 23 _ _ _) _ _ _ _ :: _) _); go_big_quiet_want; (refine qz_ne 23 _ _ _ rfl _ _ _ rfl rfl Try.eqGuardType23 (fun _ => HEQ.out _) ?_); simp only [pA]; go_big_quiet_on) | go_big_quiet_step (fail))
  exact wpQuiet_nil rfl
 simp only [List.drop_succ_cons, List.drop_zero]
 have HO2 := kp (ownsT_ext (ownsT_ext HO.out HE1.out) HXZ.out)
 have HB2 := kp (SlB.of_owns (owns_ext (owns_ext HBO.out HE1.out) HXZ.out))
 rcases HK.out with ⟨rfl, h0, h1, rfl⟩ | ⟨rfl, h0, h1, h2⟩ | ⟨rfl, h0, h1, h2⟩ | ⟨rfl, h0, h1, rfl⟩ | ⟨rfl, h0, h1, rfl⟩
 ·
  have HDK := kp (fun w' hs => (decAuth_any bd bn bc bb HBN.out.1 HBN.out.2 w' hs).mono (fun e w' h => au_ok h0 h1 h))
  clear HBN HK HC1 HC10 HEQ HMK HL2 HH
  go_wp2_with (first | ((with_reducible refine isLd 29 ?_); refine L_c1 H (by kernel_rfl) 29 _ rfl 1 rfl 40 rfl _ HC40.out Try.underlying29 rfl ?_; simp only [pA]) | (go_at_call 28; refine (HDK.out _ HB2.out).mono ?_; rintro e wd ⟨x, y, qa, qk, qq, rfl, hx⟩; replace H := kp (H.out.ext hx); have HXC := kp hx; clear hx) | ((with_reducible refine isAl 19 74 ?_); (refine L_alloc H rfl 74 rfl (cat (pAu 0 0 0 none 0 0)) (fun _ _ => by kernel_rfl) ?_); clear H; intro gd wq HGgd HEgd H; simp only [pA]) | ((with_reducible refine isSt 74 ?_); refine L_sa H rfl rfl 74 _ _ rfl 0 rfl rfl (pAu x y code qa qk qq) rfl rfl (by kernel_rfl) ?_; clear H; intro wqb HWwqb H; simp only [szA] at H) | ((with_reducible refine isLd 54 ?_); (refine L_f1 H rfl 54 _ rfl 0 rfl _ rfl _ rfl _ rfl Try.underlying54 rfl ?_); simp only [pA]) | (((with_reducible refine isLd 26 ?_); (refine L_fa H rfl 26 _ rfl 1 rfl rfl Try.underlying26 rfl (by kernel_rfl) ?_); simp only [pA]); have HG12 := kp (H.out.at 3 rfl)) | ((with_reducible refine isSt 26 ?_); refine L_sa H rfl rfl 26 _ _ rfl 3 rfl rfl (partsA a ha ad2 n2 c2) rfl rfl (by kernel_rfl) ?_; clear H; intro wF HWwF H; simp only [ssA, szA] at H))
  skip
  refine ret_f2 H Try.results36 3 rfl rfl _ rfl Try.underlying26 rfl (by kernel_rfl) rfl ?_
  exact ⟨ad2, n2, c2, rfl, owns_wroteT (ownsT_ext HO2.out (HXC.out.trans (ext_wrote HEgd.out HWwqb.out (Nat.le_of_eq HGgd.out.symm)))) HWwF.out HG12.out (show 39 ≠ 26 from by decide), H.out.1⟩
 ·
  have HDK := kp (fun w' hs => (decResp_any bd bn bc bb HBN.out.1 HBN.out.2 w' hs).mono (fun e w' h => rp_ok h0 h1 h2 h))
  clear HBN HK HC1 HC10 HEQ HMK HL2 HH
  go_wp2_with (first | ((with_reducible refine isLd 29 ?_); refine L_c1 H (by kernel_rfl) 29 _ rfl 1 rfl 40 rfl _ HC40.out Try.underlying29 rfl ?_; simp only [pA]) | (go_at_call 26; refine (HDK.out _ HB2.out).mono ?_; rintro e wd ⟨x, qa, qk, qq, rfl, hx⟩; replace H := kp (H.out.ext hx); have HXC := kp hx; clear hx) | ((with_reducible refine isAl 21 68 ?_); (refine L_alloc H rfl 68 rfl (cat (pRs 0 0 0 none 0 0)) (fun _ _ => by kernel_rfl) ?_); clear H; intro gd wq HGgd HEgd H; simp only [pA]) | ((with_reducible refine isSt 68 ?_); refine L_sa H rfl rfl 68 _ _ rfl 0 rfl rfl (pRs x code aid qa qk qq) rfl rfl (by kernel_rfl) ?_; clear H; intro wqb HWwqb H; simp only [szA] at H))
  clear HXZ
  subst hr14
  have HW1 := kp hw
  refine region_z H 9 (by kernel_rfl) (by kernel_rfl) (by kernel_rfl) (by kernel_rfl) (by decide) (Nat.le_of_ble_eq_true (by kernel_rfl)) ?_
  apply Exists.intro
  refine ⟨fun xz3 => ?_, fun wz3 HXZ H => ?_⟩
  ·simp only [List.take_succ_cons, List.take_zero]
   unfold Cx
   repeat (first | ((with_reducible show wpQuiet _ _ _ _ (Oper.mk _ (Op.load 54 _) _ _ _ _ :: _) _); go_big_quiet_want; (refine qz_1 H 54 _ rfl 0 rfl _ rfl _ rfl _ rfl Try.underlying54 rfl ?_); simp only [pA]; go_big_quiet_on) | ((with_reducible show wpQuiet _ _ _ _ (Oper.mk _ (Op.load 3 _) _ _ _ _ :: _) _); go_big_quiet_want; (refine qz_1 H 3 _ rfl 0 rfl _ rfl _ rfl _ rfl Try.underlying3 rfl ?_); simp only [pA]; go_big_quiet_on) | go_big_quiet_step (fail))
   exact wpQuiet_nil rfl
  simp only [List.drop_succ_cons, List.drop_zero]
  go_wp2_with (first | (((with_reducible refine isLd 26 ?_); (refine L_fa H rfl 26 _ rfl 1 rfl rfl Try.underlying26 rfl (by kernel_rfl) ?_); simp only [pA]); have HG12 := kp (H.out.at 3 rfl)) | ((with_reducible refine isSt 26 ?_); refine L_sa H rfl rfl 26 _ _ rfl 3 rfl rfl (partsA a ha ad2 n2 c2) rfl rfl (by kernel_rfl) ?_; clear H; intro wF HWwF H; simp only [ssA, szA] at H))
  refine ret_f2 H Try.results36 3 rfl rfl _ rfl Try.underlying26 rfl (by kernel_rfl) rfl ?_
  exact ⟨ad2, n2, c2, rfl, owns_wroteT (ownsT_ext HO2.out ((HXC.out.trans (ext_wrote HEgd.out HWwqb.out (Nat.le_of_eq HGgd.out.symm))).trans HXZ.out)) HWwF.out HG12.out (show 39 ≠ 26 from by decide), H.out.1⟩
 ·
  have HDK := kp (fun w' hs => (decResp_any bd bn bc bb HBN.out.1 HBN.out.2 w' hs).mono (fun e w' h => rp_ok h0 h1 h2 h))
  clear HBN HK HC1 HC10 HEQ HMK HL2 HH
  go_wp2_with (first | ((with_reducible refine isLd 29 ?_); refine L_c1 H (by kernel_rfl) 29 _ rfl 1 rfl 40 rfl _ HC40.out Try.underlying29 rfl ?_; simp only [pA]) | (go_at_call 26; refine (HDK.out _ HB2.out).mono ?_; rintro e wd ⟨x, qa, qk, qq, rfl, hx⟩; replace H := kp (H.out.ext hx); have HXC := kp hx; clear hx) | ((with_reducible refine isAl 21 68 ?_); (refine L_alloc H rfl 68 rfl (cat (pRs 0 0 0 none 0 0)) (fun _ _ => by kernel_rfl) ?_); clear H; intro gd wq HGgd HEgd H; simp only [pA]) | ((with_reducible refine isSt 68 ?_); refine L_sa H rfl rfl 68 _ _ rfl 0 rfl rfl (pRs x code aid qa qk qq) rfl rfl (by kernel_rfl) ?_; clear H; intro wqb HWwqb H; simp only [szA] at H))
  clear HXZ
  subst hr14
  have HW1 := kp hw
  refine region_z H 9 (by kernel_rfl) (by kernel_rfl) (by kernel_rfl) (by kernel_rfl) (by decide) (Nat.le_of_ble_eq_true (by kernel_rfl)) ?_
  apply Exists.intro
  refine ⟨fun xz4 => ?_, fun wz4 HXZ H => ?_⟩
  ·simp only [List.take_succ_cons, List.take_zero]
   unfold Cx
   repeat (first | ((with_reducible show wpQuiet _ _ _ _ (Oper.mk _ (Op.load 54 _) _ _ _ _ :: _) _); go_big_quiet_want; (refine qz_1 H 54 _ rfl 0 rfl _ rfl _ rfl _ rfl Try.underlying54 rfl ?_); simp only [pA]; go_big_quiet_on) | ((with_reducible show wpQuiet _ _ _ _ (Oper.mk _ (Op.load 3 _) _ _ _ _ :: _) _); go_big_quiet_want; (refine qz_1 H 3 _ rfl 0 rfl _ rfl _ rfl _ rfl Try.underlying3 rfl ?_); simp only [pA]; go_big_quiet_on) | go_big_quiet_step (fail))
   exact wpQuiet_nil rfl
  simp only [List.drop_succ_cons, List.drop_zero]
  go_wp2_with (first | (((with_reducible refine isLd 26 ?_); (refine L_fa H rfl 26 _ rfl 1 rfl rfl Try.underlying26 rfl (by kernel_rfl) ?_); simp only [pA]); have HG12 := kp (H.out.at 3 rfl)) | ((with_reducible refine isSt 26 ?_); refine L_sa H rfl rfl 26 _ _ rfl 3 rfl rfl (partsA a ha ad2 n2 c2) rfl rfl (by kernel_rfl) ?_; clear H; intro wF HWwF H; simp only [ssA, szA] at H))
  refine ret_f2 H Try.results36 3 rfl rfl _ rfl Try.underlying26 rfl (by kernel_rfl) rfl ?_
  exact ⟨ad2, n2, c2, rfl, owns_wroteT (ownsT_ext HO2.out ((HXC.out.trans (ext_wrote HEgd.out HWwqb.out (Nat.le_of_eq HGgd.out.symm))).trans HXZ.out)) HWwF.out HG12.out (show 39 ≠ 26 from by decide), H.out.1⟩
 ·
  have HDK := kp (fun w' hs => (decReason_any bd bn bc bb HBN.out.1 HBN.out.2 w' hs).mono (fun e w' h => re_ok h0 h1 h))
  clear HBN HK HC1 HC10 HEQ HMK HL2 HH
  go_wp2_with (first | ((with_reducible refine isLd 29 ?_); refine L_c1 H (by kernel_rfl) 29 _ rfl 1 rfl 40 rfl _ HC40.out Try.underlying29 rfl ?_; simp only [pA]) | (go_at_call 23; refine (HDK.out _ HB2.out).mono ?_; rintro e wd ⟨qa, qk, qq, rfl, hx⟩; replace H := kp (H.out.ext hx); have HXC := kp hx; clear hx) | ((with_reducible refine isAl 23 57 ?_); (refine L_alloc H rfl 57 rfl (cat (pRe 0 none 0 0)) (fun _ _ => by kernel_rfl) ?_); clear H; intro gd wq HGgd HEgd H; simp only [pA]) | ((with_reducible refine isSt 57 ?_); refine L_sa H rfl rfl 57 _ _ rfl 0 rfl rfl (pRe code qa qk qq) rfl rfl (by kernel_rfl) ?_; clear H; intro wqb HWwqb H; simp only [szA] at H) | ((with_reducible refine isLd 54 ?_); (refine L_f1 H rfl 54 _ rfl 0 rfl _ rfl _ rfl _ rfl Try.underlying54 rfl ?_); simp only [pA]) | (((with_reducible refine isLd 26 ?_); (refine L_fa H rfl 26 _ rfl 1 rfl rfl Try.underlying26 rfl (by kernel_rfl) ?_); simp only [pA]); have HG12 := kp (H.out.at 3 rfl)) | ((with_reducible refine isSt 26 ?_); refine L_sa H rfl rfl 26 _ _ rfl 3 rfl rfl (partsA a ha ad2 n2 c2) rfl rfl (by kernel_rfl) ?_; clear H; intro wF HWwF H; simp only [ssA, szA] at H))
  skip
  refine ret_f2 H Try.results36 3 rfl rfl _ rfl Try.underlying26 rfl (by kernel_rfl) rfl ?_
  exact ⟨ad2, n2, c2, rfl, owns_wroteT (ownsT_ext HO2.out (HXC.out.trans (ext_wrote HEgd.out HWwqb.out (Nat.le_of_eq HGgd.out.symm)))) HWwF.out HG12.out (show 39 ≠ 26 from by decide), H.out.1⟩
 ·
  have HDK := kp (fun w' hs => (decReason_any bd bn bc bb HBN.out.1 HBN.out.2 w' hs).mono (fun e w' h => re_ok h0 h1 h))
  clear HBN HK HC1 HC10 HEQ HMK HL2 HH
  go_wp2_with (first | ((with_reducible refine isLd 29 ?_); refine L_c1 H (by kernel_rfl) 29 _ rfl 1 rfl 40 rfl _ HC40.out Try.underlying29 rfl ?_; simp only [pA]) | (go_at_call 23; refine (HDK.out _ HB2.out).mono ?_; rintro e wd ⟨qa, qk, qq, rfl, hx⟩; replace H := kp (H.out.ext hx); have HXC := kp hx; clear hx) | ((with_reducible refine isAl 23 57 ?_); (refine L_alloc H rfl 57 rfl (cat (pRe 0 none 0 0)) (fun _ _ => by kernel_rfl) ?_); clear H; intro gd wq HGgd HEgd H; simp only [pA]) | ((with_reducible refine isSt 57 ?_); refine L_sa H rfl rfl 57 _ _ rfl 0 rfl rfl (pRe code qa qk qq) rfl rfl (by kernel_rfl) ?_; clear H; intro wqb HWwqb H; simp only [szA] at H) | ((with_reducible refine isLd 54 ?_); (refine L_f1 H rfl 54 _ rfl 0 rfl _ rfl _ rfl _ rfl Try.underlying54 rfl ?_); simp only [pA]) | (((with_reducible refine isLd 26 ?_); (refine L_fa H rfl 26 _ rfl 1 rfl rfl Try.underlying26 rfl (by kernel_rfl) ?_); simp only [pA]); have HG12 := kp (H.out.at 3 rfl)) | ((with_reducible refine isSt 26 ?_); refine L_sa H rfl rfl 26 _ _ rfl 3 rfl rfl (partsA a ha ad2 n2 c2) rfl rfl (by kernel_rfl) ?_; clear H; intro wF HWwF H; simp only [ssA, szA] at H))
  skip
  refine ret_f2 H Try.results36 3 rfl rfl _ rfl Try.underlying26 rfl (by kernel_rfl) rfl ?_
  exact ⟨ad2, n2, c2, rfl, owns_wroteT (ownsT_ext HO2.out (HXC.out.trans (ext_wrote HEgd.out HWwqb.out (Nat.le_of_eq HGgd.out.symm)))) HWwF.out HG12.out (show 39 ≠ 26 from by decide), H.out.1⟩
theorem frs_nil {B : Nat} {v : Value} {w : World} (h : FrS B [] v w) : ∃ ad c, v = .slice ad 0 c := by
 obtain ⟨vs, h1, h2, h3⟩ := h
 obtain rfl := List.length_eq_zero_iff.1 h1
 obtain ⟨q1, ⟨e, q2⟩ | ⟨g, c, cur, e, hb, hg, hn, hc, hz, ht⟩⟩ := h2
 ·exact ⟨none, 0, e⟩
 ·exact ⟨_, c, e⟩
set_option maxRecDepth 4000 in
set_option maxHeartbeats 1600000 in
theorem silent_any (a : As) (ha : a.own.length = 6) (l : List En) (hl : L6 l) (hn : l.length ≤ 100000) (ad : Option Addr) (n c : Nat) (h : Hd) (ok : h.Ok) (fa : Option Addr) (fn fc : Nat) (b : By) (hfn : fn ≤ 100000) (hfc : fn ≤ fc) (now : Int) (l' : List En)
  (hr : handleF dA dJ dL a l h b now = (l', [], 0)) (w : World) (hs : SlT 11 cellsE w (.slice ad n c) l) (hb : SlB w (.slice fa fn fc) b) :
  Calls Try.prog 38 #[.agg (cat (partsA a ha ad n c)).toArray, .agg (cat (partsFr h ok fa fn fc)).toArray, .int .i64 now] w (AnsR a ha l' w) := by
 have H := kp (Loc.start w)
 have HH := kp (fun w' (hx : Ext w w') => handle_any a ha (.slice ad n c) l hl hn h ok fa fn fc b hfn hfc now w' (hs.ext hx) (hb.ext hx))
 rw [hr, cat_A a ha, show cellsF h (.slice fa fn fc) = cat (partsFr h ok fa fn fc) from cat_Fr h ok fa fn fc] at HH
 clear hr hl hn hs hb hfn hfc
 go_enter Try.func38, Try.ntmps38
 go_wp2_with (first | ((with_reducible refine isBx 3 26 ?_); (refine L_box H rfl 26 _ rfl (cat (partsA a ha ad n c)) rfl ?_); clear H; intro g3 w3 HGg3 HEg3 H; simp only [pA]) | ((with_reducible refine isBx 4 31 ?_); (refine L_box H rfl 31 _ rfl (cat (partsFr h ok fa fn fc)) rfl ?_); clear H; intro g4 w4 HGg4 HEg4 H; simp only [pA]) | ((with_reducible refine isAl 6 26 ?_); (refine L_alloc H rfl 26 rfl (cat (partsA as0 rfl none 0 0)) (fun _ _ => by kernel_rfl) ?_); clear H; intro g6 w6 HGg6 HEg6 H; simp only [pA]) | (((with_reducible refine isLd 26 ?_); (first | (refine L_fa H rfl 26 _ rfl 0 rfl rfl Try.underlying26 rfl (by kernel_rfl) ?_) | (refine L_fa H rfl 26 _ rfl 1 rfl rfl Try.underlying26 rfl (by kernel_rfl) ?_) | (refine L_fa H rfl 26 _ rfl 2 rfl rfl Try.underlying26 rfl (by kernel_rfl) ?_) | (refine L_fa H rfl 26 _ rfl 3 rfl rfl Try.underlying26 rfl (by kernel_rfl) ?_) | (refine L_fa H rfl 26 _ rfl 4 rfl rfl Try.underlying26 rfl (by kernel_rfl) ?_) | (refine L_fa H rfl 26 _ rfl 5 rfl rfl Try.underlying26 rfl (by kernel_rfl) ?_)); simp only [pA]); have HG6 := kp (H.out.at 1 rfl)) | ((with_reducible refine isLd 31 ?_); (first | (refine L_fa H rfl 31 _ rfl 0 rfl rfl Try.underlying31 rfl (by kernel_rfl) ?_) | (refine L_fa H rfl 31 _ rfl 1 rfl rfl Try.underlying31 rfl (by kernel_rfl) ?_) | (refine L_fa H rfl 31 _ rfl 2 rfl rfl Try.underlying31 rfl (by kernel_rfl) ?_) | (refine L_fa H rfl 31 _ rfl 3 rfl rfl Try.underlying31 rfl (by kernel_rfl) ?_) | (refine L_fa H rfl 31 _ rfl 4 rfl rfl Try.underlying31 rfl (by kernel_rfl) ?_) | (refine L_fa H rfl 31 _ rfl 5 rfl rfl Try.underlying31 rfl (by kernel_rfl) ?_)); simp only [pA]) | (go_at_call 29; have HSZ := kp H.out.1.size; refine (HH.out _ H.out.1).mono ?_; intro e wh hrr; obtain ⟨ad2, n2, c2, v, rfl, ho, hf, hx⟩ := han1 (ha := ha) hrr; clear hrr; obtain ⟨va, vc, rfl⟩ := frs_nil hf; clear hf; have HO := kp (owns_weak ho HSZ.out); clear ho HSZ; replace H := kp (H.out.ext hx); have HXC := kp hx; clear hx) | ((with_reducible refine isAl 8 26 ?_); (refine L_alloc H rfl 26 rfl (cat (partsA as0 rfl none 0 0)) (fun _ _ => by kernel_rfl) ?_); clear H; intro g8 w8 HGg8 HEg8 H; simp only [pA]) | ((with_reducible show wpList _ _ _ (Oper.mk none (Op.store 26 (.tmp 8) _) _ _ _ _ :: _) _ _); ((with_reducible refine isSt 26 ?_); refine L_sa H rfl rfl 26 _ _ rfl 0 rfl rfl (partsA a ha ad2 n2 c2) rfl rfl (by kernel_rfl) ?_; clear H; intro w8b HWw8b H; simp only [szA] at H)) | ((with_reducible refine isSt 26 ?_); refine L_sa H rfl rfl 26 _ _ rfl 1 rfl rfl (partsA a ha ad2 n2 c2) rfl rfl (by kernel_rfl) ?_; clear H; intro wF HWwF H; simp only [ssA, szA] at H))
 refine ret_f2 H Try.results38 1 rfl rfl _ rfl Try.underlying26 rfl (by kernel_rfl) rfl ?_
 exact ⟨ad2, n2, c2, rfl, owns_wroteT (ownsT_ext HO.out (ext_wrote HEg8.out HWw8b.out (Nat.le_of_eq HGg8.out.symm))) HWwF.out HG6.out (show 39 ≠ 26 from by decide), H.out.1⟩
def aX : As := ⟨ptB, 1, 1, 100⟩
theorem haX : aX.own.length = 6 := rfl
theorem hs6 (i : BitVec 8) : (stB i).length = 6 := rfl
def L1 : List En := [⟨stB 1, 1, 0, 0, 0, 1⟩]
def L2 : List En := [⟨stB 1, 2, 1, 3, 5, 2⟩]
def L3 : List En := [⟨stB 1, 2, 1, 3, 5, 2⟩, ⟨stB 2, 1, 0, 0, 0, 3⟩]
def L4 : List En := [⟨stB 1, 2, 1, 3, 5, 2⟩, ⟨stB 2, 1, 0, 0, 0, 4⟩]
def L5 : List En := [⟨stB 1, 1, 0, 0, 0, 5⟩, ⟨stB 2, 1, 0, 0, 0, 4⟩]
def L7 : List En := [⟨stB 1, 1, 0, 0, 0, 5⟩, ⟨stB 2, 2, 1, 3, 5, 6⟩]
theorem l6_0 : L6 [] := by unfold L6; decide
theorem l6_1 : L6 L1 := by unfold L6 L1; decide
theorem l6_2 : L6 L2 := by unfold L6 L2; decide
theorem l6_3 : L6 L3 := by unfold L6 L3; decide
theorem l6_4 : L6 L4 := by unfold L6 L4; decide
theorem l6_5 : L6 L5 := by unfold L6 L5; decide
theorem st1_eq : handleF dA dJ dL aX [] (reqH (stB 1) 0) bRq 0 = ([], [(msgH aX (reqH (stB 1) 0).a2 12, two16 6)], 0) := by kernel_rfl
theorem st2_eq : handleF dA dJ dL aX [] (reqH (stB 1) 11) bAu 1 = (L1, [(msgH aX (reqH (stB 1) 11).a2 11, authB 0 1 0)], 0) := by kernel_rfl
theorem st3_eq : handleF dA dJ dL aX L1 (reqH (stB 1) 0) bRq 2 = (L2, [(msgH aX (reqH (stB 1) 0).a2 1, respB aX 0 1)], 0) := by kernel_rfl
theorem st4_eq : handleF dA dJ dL aX L2 (reqH (stB 2) 11) bAu 3 = (L3, [(msgH aX (reqH (stB 2) 11).a2 11, authB 0 1 0)], 0) := by kernel_rfl
theorem st5_eq : handleF dA dJ dL aX L3 (reqH (stB 2) 0) bRq 4 = (L4, [(msgH aX (reqH (stB 2) 0).a2 1, respB aX 17 0)], 0) := by kernel_rfl
theorem st6_eq : handleF dA dJ dL aX L4 (reqH (stB 1) 10) bRe 5 = (L5, [], 0) := by kernel_rfl
theorem st7_eq : handleF dA dJ dL aX L5 (reqH (stB 2) 0) bRq 6 = (L7, [(msgH aX (reqH (stB 2) 0).a2 1, respB aX 0 1)], 0) := by kernel_rfl
theorem ak1 : AnsK 12 (two16 6) 6 0 := .inr (.inr (.inr (.inr ⟨rfl, by kernel_rfl, by kernel_rfl, rfl⟩)))
theorem ak2 : AnsK 11 (authB 0 1 0) 0 0 := .inl ⟨rfl, by kernel_rfl, by kernel_rfl, rfl⟩
theorem ak3 : AnsK 1 (respB aX 0 1) 0 1 := .inr (.inl ⟨rfl, by kernel_rfl, by kernel_rfl, by kernel_rfl⟩)
theorem ak5 : AnsK 1 (respB aX 17 0) 17 0 := .inr (.inl ⟨rfl, by kernel_rfl, by kernel_rfl, by kernel_rfl⟩)
theorem st1_any (ad : Option Addr) (n c : Nat) (fa : Option Addr) (fn fc : Nat) (w : World) (B B2 : Nat) (ho : OwE B w (.slice ad n c) []) (hb : OwB B2 w (.slice fa fn fc) bRq) :
  Calls Try.prog 36 #[.agg (cat (partsA aX haX ad n c)).toArray, .agg (cat (partsFr (reqH (stB 1) 0) (req_ok (hs6 1) k0.1 k0.2) fa fn fc)).toArray, .int .i64 0, .int .u8 12, .int .i64 6, .int .i64 0] w (AnsR aX haX [] w) :=
 answered_any aX haX [] l6_0 (by decide) ad n c (reqH (stB 1) 0) (req_ok (hs6 1) k0.1 k0.2) fa fn fc bRq (owns_lenle hb (by decide)).1 (owns_lenle hb (by decide)).2 0 12 _ _ [] _ st1_eq (by decide) (by decide) ak1 (by decide) w (ho.slt l6_0) (SlB.of_owns hb)
theorem st2_any (ad : Option Addr) (n c : Nat) (fa : Option Addr) (fn fc : Nat) (w : World) (B B2 : Nat) (ho : OwE B w (.slice ad n c) []) (hb : OwB B2 w (.slice fa fn fc) bAu) :
  Calls Try.prog 36 #[.agg (cat (partsA aX haX ad n c)).toArray, .agg (cat (partsFr (reqH (stB 1) 11) (req_ok (hs6 1) k11.1 k11.2) fa fn fc)).toArray, .int .i64 1, .int .u8 11, .int .i64 0, .int .i64 0] w (AnsR aX haX L1 w) :=
 answered_any aX haX [] l6_0 (by decide) ad n c (reqH (stB 1) 11) (req_ok (hs6 1) k11.1 k11.2) fa fn fc bAu (owns_lenle hb (by decide)).1 (owns_lenle hb (by decide)).2 1 11 _ _ L1 _ st2_eq (by decide) (by decide) ak2 (by decide) w (ho.slt l6_0) (SlB.of_owns hb)
theorem st3_any (ad : Option Addr) (n c : Nat) (fa : Option Addr) (fn fc : Nat) (w : World) (B B2 : Nat) (ho : OwE B w (.slice ad n c) L1) (hb : OwB B2 w (.slice fa fn fc) bRq) :
  Calls Try.prog 36 #[.agg (cat (partsA aX haX ad n c)).toArray, .agg (cat (partsFr (reqH (stB 1) 0) (req_ok (hs6 1) k0.1 k0.2) fa fn fc)).toArray, .int .i64 2, .int .u8 1, .int .i64 0, .int .i64 1] w (AnsR aX haX L2 w) :=
 answered_any aX haX L1 l6_1 (by decide) ad n c (reqH (stB 1) 0) (req_ok (hs6 1) k0.1 k0.2) fa fn fc bRq (owns_lenle hb (by decide)).1 (owns_lenle hb (by decide)).2 2 1 _ _ L2 _ st3_eq (by decide) (by decide) ak3 (by decide) w (ho.slt l6_1) (SlB.of_owns hb)
theorem st4_any (ad : Option Addr) (n c : Nat) (fa : Option Addr) (fn fc : Nat) (w : World) (B B2 : Nat) (ho : OwE B w (.slice ad n c) L2) (hb : OwB B2 w (.slice fa fn fc) bAu) :
  Calls Try.prog 36 #[.agg (cat (partsA aX haX ad n c)).toArray, .agg (cat (partsFr (reqH (stB 2) 11) (req_ok (hs6 2) k11.1 k11.2) fa fn fc)).toArray, .int .i64 3, .int .u8 11, .int .i64 0, .int .i64 0] w (AnsR aX haX L3 w) :=
 answered_any aX haX L2 l6_2 (by decide) ad n c (reqH (stB 2) 11) (req_ok (hs6 2) k11.1 k11.2) fa fn fc bAu (owns_lenle hb (by decide)).1 (owns_lenle hb (by decide)).2 3 11 _ _ L3 _ st4_eq (by decide) (by decide) ak2 (by decide) w (ho.slt l6_2) (SlB.of_owns hb)
theorem st5_any (ad : Option Addr) (n c : Nat) (fa : Option Addr) (fn fc : Nat) (w : World) (B B2 : Nat) (ho : OwE B w (.slice ad n c) L3) (hb : OwB B2 w (.slice fa fn fc) bRq) :
  Calls Try.prog 36 #[.agg (cat (partsA aX haX ad n c)).toArray, .agg (cat (partsFr (reqH (stB 2) 0) (req_ok (hs6 2) k0.1 k0.2) fa fn fc)).toArray, .int .i64 4, .int .u8 1, .int .i64 17, .int .i64 0] w (AnsR aX haX L4 w) :=
 answered_any aX haX L3 l6_3 (by decide) ad n c (reqH (stB 2) 0) (req_ok (hs6 2) k0.1 k0.2) fa fn fc bRq (owns_lenle hb (by decide)).1 (owns_lenle hb (by decide)).2 4 1 _ _ L4 _ st5_eq (by decide) (by decide) ak5 (by decide) w (ho.slt l6_3) (SlB.of_owns hb)
theorem st7_any (ad : Option Addr) (n c : Nat) (fa : Option Addr) (fn fc : Nat) (w : World) (B B2 : Nat) (ho : OwE B w (.slice ad n c) L5) (hb : OwB B2 w (.slice fa fn fc) bRq) :
  Calls Try.prog 36 #[.agg (cat (partsA aX haX ad n c)).toArray, .agg (cat (partsFr (reqH (stB 2) 0) (req_ok (hs6 2) k0.1 k0.2) fa fn fc)).toArray, .int .i64 6, .int .u8 1, .int .i64 0, .int .i64 1] w (AnsR aX haX L7 w) :=
 answered_any aX haX L5 l6_5 (by decide) ad n c (reqH (stB 2) 0) (req_ok (hs6 2) k0.1 k0.2) fa fn fc bRq (owns_lenle hb (by decide)).1 (owns_lenle hb (by decide)).2 6 1 _ _ L7 _ st7_eq (by decide) (by decide) ak3 (by decide) w (ho.slt l6_5) (SlB.of_owns hb)
theorem st6_any (ad : Option Addr) (n c : Nat) (fa : Option Addr) (fn fc : Nat) (w : World) (B B2 : Nat) (ho : OwE B w (.slice ad n c) L4) (hb : OwB B2 w (.slice fa fn fc) bRe) :
  Calls Try.prog 38 #[.agg (cat (partsA aX haX ad n c)).toArray, .agg (cat (partsFr (reqH (stB 1) 10) (req_ok (hs6 1) k10.1 k10.2) fa fn fc)).toArray, .int .i64 5] w (AnsR aX haX L5 w) :=
 silent_any aX haX L4 l6_4 (by decide) ad n c (reqH (stB 1) 10) (req_ok (hs6 1) k10.1 k10.2) fa fn fc bRe (owns_lenle hb (by decide)).1 (owns_lenle hb (by decide)).2 5 L5 st6_eq w (ho.slt l6_4) (SlB.of_owns hb)
end Go.Proofs.Ytfecopfofkdnpaa
