/- Texts of this proof, put together: ElC, App, ElL. -/
import Derived.Test.YtfecopfofkdnpaaS11
import Derived.Deep.RegionLaw
import Derived.Deep.RegionHeld3
import Derived.Deep.DrawnRows
import Derived.Test.YtfecopfofkdnpaaS5
import Derived.Test.YtfecopfofkdnpaaS1
namespace Go.Proofs.Ytfecopfofkdnpaa
open Go.RowKit
attribute [local go_sem ↓] Go.wp_at_zero Go.wp_at_succ
def ContR (vb : Value) (b : By) (w : World) (en : Ending) (w' : World) : Prop := ∃ vc vr, en = .returned (.tuple #[vc, vr, .int .i64 (contOf b).2.2]) ∧ Ext w w' ∧ ((contOf b).2.2 = 0 → OwB w.heap.size w' vc (contOf b).1 ∧ ∃ ad n c, vr = .slice ad n c ∧ n ≤ c ∧ ∀ W, SlB W vb b → SlB W vr (contOf b).2.1)
theorem contR_err {vb : Value} {b : By} {w w' : World} {vc vr : Value} {k : Nat} {l cc : By} {E : Int} (h : contF k l cc = contOf b) (he : contF k l cc = ([], [], E)) (h0 : E ≠ 0) (hx : Ext w w') : ContR vb b w (.returned (.tuple #[vc, vr, .int .i64 E])) w' := by
 have e : contOf b = ([], [], E) := h.symm.trans he
 exact ⟨vc, vr, by rw [e], hx, fun h1 => absurd (show E = 0 by rw [e] at h1; exact h1) h0⟩
theorem contF_cons (k : Nat) (x : BitVec 8) (l cc : By) : contF (k + 1) (x :: l) cc = if l.length < x.toNat then ([], [], 10) else if x.toNat < 255 then (cc ++ l.take x.toNat, l.drop x.toNat, 0) else match l.drop x.toNat with | [] => ([], [], 10) | m :: r => if m.toNat = 254 then contF k r (cc ++ l.take x.toNat) else ([], [], 12) := rfl
theorem rest_part {w : World} {b0 o0 n c : Nat} {x : BitVec 8} {l : By} (h : SlB w (.slice (some ⟨b0, o0, none⟩) n c) (x :: l)) (hc : n ≤ c) (m : Nat) (hm : 1 + m ≤ n) : SlB w (.slice (cutA (some ⟨b0, o0, none⟩) (1 + m) c 1) (n - (1 + m)) (c - (1 + m))) (l.drop m) := by
 have h1 := h.cut hc (1 + m) n hm (Nat.le_refl _)
 have h2 := h.len
 rw [List.take_of_length_le (by omega), show (x :: l).drop (1 + m) = l.drop m by rw [Nat.add_comm]; rfl] at h1
 exact h1
def RC4 (b0 o0 n c m : Nat) (w : World) (cc l : By) (vs : Tmp → Value) (w' : World) : Prop :=
 vs 0 = .slice (cutA (some ⟨b0, o0, none⟩) (1 + m) c 1) (n - (1 + m)) (c - (1 + m)) ∧ OwB w.heap.size w' (vs 2) (cc ++ l.take m) ∧ Loc w w' []
theorem cells_part {w : World} {b0 o0 n c : Nat} {x : BitVec 8} {l : By} (h : SlB w (.slice (some ⟨b0, o0, none⟩) n c) (x :: l)) (m : Nat) : ∀ j y, (l.take m)[j]? = some y → w.cell? ⟨b0, o0 + 1 + j, none⟩ = some (V8 y) := fun j y hj => by
 rw [List.getElem?_take] at hj
 split at hj
 ·obtain ⟨b, o, e, _, h3⟩ := h.at (j + 1) y (by simpa using hj)
  cases e
  rw [show o0 + 1 + j = o0 + (j + 1) by omega]; exact h3
 ·cases hj
theorem step_appB {ops : Array Oper} {o : Oper} {a : Act} {w : World} {K : Act → World → Prop} {Q : Exit → Act → World → Prop} {E : Prop} (hgd : o.guard = none) (s x : Operand)
  (ho : o.op = .call { callee := .builtin .append, args := #[s, x], argTypes := #[29, 29] })
  (base : Nat) (hbase : base ≤ w.heap.size) (v : Value) (l : By) (hs : a.eval s = v) (hown : OwB base w v l) (A : Addr) (m : By) (k c : Nat) (hk : k = m.length) (hx : a.eval x = .slice (some A) k c) (hsl : ∀ j y, m[j]? = some y → w.cell? (A.add j) = some (V8 y)) (hlen : l.length + m.length ≤ 1000000)
  (h : ∀ v' w', Kp (OwB base w' v' (l ++ m)) → Kp (w.grownBy w' v.ownBlock) → K (a.put o.dst v') w') : if Region.wanted o (yielded ops a.tmps) = true then Oper.wp Try.prog o a w K Q else E := by
 have hw : Region.wanted o (yielded ops a.tmps) = true := by simp [Region.wanted, hgd]
 rw [if_pos hw]
 obtain ⟨i, hi, hz, hsz, hby⟩ := info_iu
 subst hk
 obtain ⟨v', w', hr, h2, h3, _⟩ := run_append_own (P := Try.prog) w base 29 o.type 5 i (.int .u8 0) 1 1 Try.underlying29 hi hz hsz hby rfl (by decide) v l.length (l.map V8) hown A m.length c (m.map V8) (by simp) (fun j u hj => by
  rw [List.getElem?_map] at hj
  cases hm : m[j]? with
  | none => simp [hm] at hj
  | some z => simp [hm] at hj; subst hj; exact hsl j z hm) (mem_V8 m) (by simp only [maxLen]; omega) (by omega) hbase
 unfold Oper.wp
 simp only [execOp, ho, resolve, invoke, builtin, Sem.run_bind, Sem.run_pure, Result.andThen_ok, List.map_toArray, List.map_cons, List.map_nil, hs, hx, hr]
 exact h v' w' (kp (by show w'.ownsRow _ _ _ _ _ _; rw [List.length_append, List.map_append]; exact h2)) (kp h3)
set_option maxRecDepth 4000 in
set_option maxHeartbeats 1600000 in
theorem content_any (ad : Option Addr) (n c : Nat) (b : By) (hb : n ≤ 100000) (hcap : n ≤ c) (w : World) (hs : SlB w (.slice ad n c) b) :
  Calls Try.prog 125 #[.slice ad n c] w (ContR (.slice ad n c) b w) := by
 have H := kp (Loc.start w)
 have HN := kp hs.len
 obtain ⟨vb, hvb⟩ : ∃ vb, vb = Value.slice ad n c := ⟨_, rfl⟩
 have HVB := kp hvb
 have HS0 := kp (show SlB w vb b by rw [hvb]; exact hs)
 have HS := kp (show ∀ W, SlB W vb b → SlB W (.slice ad n c) b from fun W h => by rw [← hvb]; exact h)
 clear hvb
 have HNL := kp (show b.length ≤ 100000 by rw [← hs.len]; exact hb)
 clear hs
 go_enter Try.func125, Try.ntmps125
 go_wp2_with fail
 go_loopw [0, 2] (fun bv cv wr => ∃ (k : Nat) (l cc : By) (ad : Option Addr) (n c : Nat), bv = .slice ad n c ∧ n ≤ c ∧ n ≤ 100000 ∧ n ≤ k ∧ Kp (n = l.length) ∧ Kp (∀ W, SlB W vb b → SlB W (.slice ad n c) l) ∧ Kp (cc.length + l.length ≤ 100000) ∧ Kp (OwB w.heap.size wr cv cc) ∧ Kp (contF k l cc = contOf b) ∧ Kp (Loc w wr [])) (fun bv _ _ => match bv with | .slice _ n _ => n | _ => 0)
 case atStart => exact ⟨b.length, b, [], ad, n, c, rfl, hcap, hb, by rw [HN.out]; exact Nat.le_refl _, HN, HS, kp (by simpa using HNL.out), kp (ownsT_nil _ _ _ _), kp rfl, H⟩
 case round =>
  clear H HS HN hb hcap
  obtain ⟨k, l, cc, ad, n, c, rfl, hnc, hn1, hnk, HN, HS, HTL, HO, HF, H⟩ := hrel
  by_cases h0 : n = 0
  ·subst h0
   have HK := kp (show contF k l cc = ([], [], 10) by
    have : l = [] := List.length_eq_zero_iff.1 HN.out.symm
    subst this
    cases k <;> rfl)
   go_wp2_with fail
   go_ret3
   exact contR_err HF.out HK.out (by decide) H.out.1
  ·obtain ⟨x, l, rfl⟩ : ∃ x l', l = x :: l' := by
    cases l with
    | nil => exact absurd HN.out h0
    | cons x l => exact ⟨x, l, rfl⟩
   obtain ⟨k, rfl⟩ : ∃ k', k = k' + 1 := ⟨k - 1, by omega⟩
   obtain ⟨b0, o0, rfl, hbl, _⟩ := (HS.out _ HS0.out).at 0 x rfl
   obtain ⟨b1, o1, he1, hb0, hc0⟩ := ((HS.out _ HS0.out).ext H.out.1).at 0 x rfl
   cases he1
   have HBL := kp hbl
   clear hbl
   obtain ⟨m, hm⟩ : ∃ m, m = x.toNat := ⟨_, rfl⟩
   have hm1 : m ≤ 255 := by have := x.isLt; omega
   have hw : wI x = (m : Int) := by rw [hm]; rfl
   have HCF := kp (contF_cons k x l cc)
   rw [← hm] at HCF
   have HLN := kp (show n = l.length + 1 from HN.out)
   rw [Nat.add_zero] at hc0
   have hc1 : wr.cell? ⟨b0, o0, none⟩ = some (.int .u8 (m : Int)) := by rw [← hw]; exact hc0
   clear hw hm hb0 hc0
   by_cases hlt : l.length < m
   ·have HK := kp (show contF (k + 1) (x :: l) cc = ([], [], 10) by rw [HCF.out, if_pos hlt])
    have hlt2 : (n : Int) - 1 < (m : Int) := by have := HLN.out; omega
    have hn0 : ¬ (n : Int) = 0 := by omega
    clear hlt HCF
    go_wp2_with fail
    go_ret3
    exact contR_err HF.out HK.out (by decide) H.out.1
   ·rw [if_neg hlt] at HCF
    have hlt2 : ¬ (n : Int) - 1 < (m : Int) := by have := HLN.out; omega
    have hn0 : ¬ (n : Int) = 0 := by omega
    have hmn : 1 + m ≤ n := by have := HLN.out; omega
    clear hlt
    generalize h4 : (Code.region 4 _ _ : Code) = R4
    generalize hb2 : ((Code.block 2 _ : Code).seq _) = B2
    go_wp2_with fail
    subst h4
    have hwr : IntKind.i64.wrap (1 + (m : Int)) = 1 + (m : Int) := by rw [IntKind.wrap_i64]; omega
    have i1 : (1 : Int) ≤ 1 + (m : Int) := by omega
    have i2 : (1 : Int) + m ≤ (c : Int) := by omega
    have i3 : (0 : Int) ≤ 1 + (m : Int) := by omega
    have i4 : (1 : Int) + m ≤ (n : Int) := by omega
    have HCA := kp (cells_part (HS.out _ HS0.out) m)
    have HOL := kp (show cc.length + (l.take m).length ≤ 1000000 by have := HTL.out; simp at this ⊢; omega)
    have HKM := kp (show (1 + (m : Int)).toNat - 1 = (l.take m).length by have := HLN.out; simp; omega)
    have HBS := kp (show w.heap.size ≤ wr.drew.heap.size from (H.out.1.trans (Ext.drew _)).size)
    have HOD := kp (owns_ext HO.out (Ext.drew wr))
    have HL2 := kp (fun w' (hg : wr.drew.grownBy w' u2.ownBlock) => show Loc w w' [] from ⟨(H.out.1.trans (Ext.drew _)).grown hg (fun k hk => owns_block HO.out k hk), List.nodup_nil, fun b hb => by cases hb⟩)
    have HCE := kp (fun (A : Addr) (hA : ∀ j y, (l.take m)[j]? = some y → A.add j = ⟨b0, o0 + 1 + j, none⟩) => show ∀ j y, (l.take m)[j]? = some y → wr.drew.cell? (A.add j) = some (V8 y) from fun j y hj => by rw [hA j y hj]; exact (((H.out.1.trans (Ext.drew _)).cell HBL.out).trans (HCA.out j y hj)))
    have HSD := kp (fun W h => rest_part (HS.out W h) hnc m (by have := HN.out; omega))
    have HLT := kp (show n - (1 + m) = (l.drop m).length by have := HLN.out; simp; omega)
    refine wp_cut [0, 2, 23, 24, 25, 26, 27, 28, 29, 30, 31, 32] (RC4 b0 o0 n c m w cc l) ?_ ?_
    ·clear H HO HF HS HTL HNL
     refine wp_region_noPanic ?_
     by_cases hcq : c = 1
     ·have hm0 : m = 0 := by omega
      have hn9 : n = 1 := by omega
      subst hm0 hcq hn9
      have hw1 : IntKind.i64.wrap (1 : Int) = 1 := by rw [IntKind.wrap_i64]; rfl
      have HCW := kp (HCE.out ⟨b0, o0, none⟩ (fun j y hj => by simp at hj))
      go_region_law (refine step_appB rfl (.tmp 23) (.tmp 27) rfl w.heap.size HBS.out u2 cc (by simp [Act.eval, Act.put]) HOD.out ⟨b0, o0, none⟩ (l.take 0) (0) 0 HKM.out (by simp [Act.eval, Act.put]) HCW.out HOL.out ?_; intro v' w' HO2 HGR)
      exact CutP.of rfl (by kernel_rfl) ⟨rfl, HO2.out, HL2.out _ HGR.out⟩
     ·have hc1' : ¬ 1 = c := fun h => hcq h.symm
      have HCW := kp (HCE.out ⟨b0, o0 + 1, none⟩ (fun j y hj => Addr.add_mid _ _ _))
      go_region_law (refine step_appB rfl (.tmp 23) (.tmp 27) rfl w.heap.size HBS.out u2 cc (by simp [Act.eval, Act.put]) HOD.out ⟨b0, o0 + 1, none⟩ (l.take m) ((1 + (m : Int)).toNat - 1) (c - 1) HKM.out (by simp [Act.eval, Act.put]) HCW.out HOL.out ?_; intro v' w' HO2 HGR)
      refine CutP.of rfl (by kernel_rfl) ⟨?_, HO2.out, HL2.out _ HGR.out⟩
      show Value.slice (if c = (1 + (m : Int)).toNat then some ⟨b0, o0, none⟩ else some ⟨b0, o0 + (1 + (m : Int)).toNat, none⟩) (n - (1 + (m : Int)).toNat) (c - (1 + (m : Int)).toNat) = _
      rw [show (1 + (m : Int)).toNat = 1 + m by omega]
      unfold cutA
      simp only [Option.map, Addr.add_mid, Nat.mul_one]
    ·rintro vs w8 ⟨hv0, ho8, hl8⟩
     have HO8 := kp ho8
     clear H HO
     have H := kp hl8
     clear ho8 hl8 HBS HOD HL2 HCE HOL HKM HCA
     simp only [putMany, List.setIfInBounds_toArray, List.set_cons_zero, List.set_cons_succ]
     rw [hv0]
     generalize vs 2 = v2 at *
     generalize hA : cutA (some ⟨b0, o0, none⟩) (1 + m) c 1 = A at *
     generalize hc' : c - (1 + m) = c' at *
     obtain ⟨n', hn'⟩ : ∃ n', n' = n - (1 + m) := ⟨_, rfl⟩
     rw [← hn'] at HSD HLT ⊢
     have HNM := kp (show n' + (1 + m) = n ∧ n ≤ k + 1 by omega)
     have hnc' : n' ≤ c' := by omega
     have hnn : n' ≤ 100000 := by omega
     clear hA hc' hv0 hwr i1 i2 i3 i4 hn' hc1
     by_cases hm2 : m < 255
     ·rw [if_pos hm2] at HCF
      have HE := kp (show contOf b = (cc ++ l.take m, l.drop m, 0) by rw [← HF.out, HCF.out])
      have hm3 : (m : Int) < 255 := by omega
      subst hb2
      go_wp2_with fail
      go_ret3
      exact ⟨v2, .slice A n' c', by rw [HE.out]; rfl, H.out.1, fun _ => by rw [HE.out]; exact ⟨HO8.out, _, _, _, rfl, hnc', fun W h => HSD.out W (by rw [HVB.out]; exact h)⟩⟩
     ·rw [if_neg hm2] at HCF
      have hm3 : ¬ (m : Int) < 255 := by omega
      subst hb2
      by_cases hz : n' = 0
      ·have HK := kp (show contF (k + 1) (x :: l) cc = ([], [], 10) by
        have e : l.drop m = [] := List.length_eq_zero_iff.1 (by rw [← HLT.out, hz])
        rw [HCF.out, e])
       subst hz
       go_wp2_with fail
       go_ret3
       exact contR_err HF.out HK.out (by decide) H.out.1
      ·obtain ⟨y, r, hyr⟩ : ∃ y r, l.drop m = y :: r := by
        cases hd : l.drop m with
        | nil => have := HLT.out; rw [hd] at this; exact absurd this hz
        | cons y r => exact ⟨y, r, rfl⟩
       have HLD := kp (show (l.take m).length + (r.length + 1) = l.length by
        have h1 := congrArg List.length (List.take_append_drop m l)
        rw [hyr] at h1; simpa using h1)
       rw [hyr] at HSD HLT HCF
       obtain ⟨b3, o3, rfl, hb3, hc3⟩ := ((HSD.out _ HS0.out).ext H.out.1).at 0 y rfl
       obtain ⟨q, hq⟩ : ∃ q, q = y.toNat := ⟨_, rfl⟩
       have hw : wI y = (q : Int) := by rw [hq]; rfl
       have hc4 : w8.cell? ⟨b3, o3, none⟩ = some (.int .u8 (q : Int)) := by rw [← hw]; exact hc3
       have HNR := kp (show n' = r.length + 1 from HLT.out)
       clear hw hb3 hc3 hyr
       have hz2 : ¬ (n' : Int) = 0 := by omega
       have hp : 0 < n' := by omega
       clear hz hmn hn0 h0 hnk hnc hn1
       by_cases hqq : q = 254
       ·have HCG := kp (show contF k r (cc ++ l.take m) = contOf b by rw [← HF.out, HCF.out]; show _ = (if y.toNat = 254 then _ else _); rw [if_pos (by rw [← hq]; exact hqq)])
        have HSR := kp (fun W h => rest_part (HSD.out W h) hnc' 0 (by omega))
        subst hqq
        clear hq
        go_wp2_with ((with_reducible show wpList _ _ _ (Oper.mk _ (Op.slice 29 _ _ _ _) _ _ _ _ :: _) _ _); (refine L_cut (by kernel_rfl) 29 _ _ _ _ rfl _ _ _ _ _ rfl rfl rfl rfl (run_cutL _ Try.underlying29 (sizeU8q) _ _ _ (1) (by omega)) ?_); simp only [pA])
        go_roundw
        case rel => exact ⟨k, r, cc ++ l.take m, cutA (some ⟨b3, o3, none⟩) 1 c' 1, n' - 1, c' - 1, rfl, by omega, by omega, by have := HNM.out; omega, kp (by rw [HNR.out]; rfl), HSR, kp (by have h1 := HTL.out; have h2 := HLD.out; simp only [List.length_cons, List.length_append] at *; omega), HO8, HCG, H⟩
        case measure => have := HNM.out; simp; omega
       ·have HK := kp (show contF (k + 1) (x :: l) cc = ([], [], 12) by rw [HCF.out]; show (if y.toNat = 254 then _ else _) = _; rw [if_neg (by rw [← hq]; exact hqq)])
        have hq2 : ((q : Int) != 254) = true := by simp; omega
        clear hq
        go_wp2_with fail
        go_ret3
        exact contR_err HF.out HK.out (by decide) H.out.1
section
variable {P : Program}
theorem append_where (w : World) (base : Nat) (t ty e : TypeId) (i : TypeInfo) (z : Value) (ht : P.underlying t = some (.slice e)) (hi : P.info? e = some i) (hz : i.zero = some z)
  (v : Value) (n : Nat) (xs : List Value) (hown : w.ownsRow base e i.size v n xs)
  (a : Addr) (m c : Nat) (news : List Value) (hl : news.length = m * i.size) (hnews : ∀ j u, news[j]? = some u → w.cell? (a.add j) = some u) (h1 : ∀ u ∈ news, u.oneCell' = true)
  (h63 : n + m ≤ maxLen) (hbytes : (n + m) * i.bytes ≤ 140737488355328) (v' : Value) (w' : World) (hr : (Builtin.append_ #[t, t] ty #[v, .slice (some a) m c]).run P w = .ok v' w') (hm : 0 < m) :
  v'.ownBlock = v.ownBlock ∨ v'.ownBlock = some w.heap.size := by
 have hsmall : n + m ≤ 9223372036854775807 := by simp only [maxLen] at h63; omega
 rcases hown with ⟨hlen, ⟨rfl, rfl⟩ | ⟨g, cap, cur, rfl, hbg, hg, hnc, hcm, hcs, htake⟩⟩
 ·have h2 := run_append_nil (P := P) w t ty e i z ht hi hz a m c news hl hnews hm (by omega) (by have hb := hbytes; simp only [Nat.zero_add] at hb; omega)
  rw [h2] at hr
  cases hr
  exact .inr rfl
 ·by_cases hroom : n + m ≤ cap
  ·have hfit : n * i.size + news.length ≤ cur.size := by rw [hl, hcs, ← Nat.add_mul]; exact Nat.mul_le_mul_right _ hroom
   have h2 := run_append_room (P := P) w t ty e i ht hi g n cap cur hg a m c news hl hnews h1 hroom hfit
   rw [h2] at hr
   cases hr
   exact .inl rfl
  ·have holds : ∀ j u, xs[j]? = some u → w.cell? ((⟨g, 0, none⟩ : Addr).add j) = some u := World.ownsRow.cells (base := base) (e := e) (size := i.size) (n := n) (v := .slice (some ⟨g, 0, none⟩) n cap) ⟨hlen, .inr ⟨g, cap, cur, rfl, hbg, hg, hnc, hcm, hcs, htake⟩⟩ rfl
   have h2 := run_append_grow (P := P) w t ty e i z ht hi hz ⟨g, 0, none⟩ n cap xs hlen holds a m c news hl hnews (by omega) (by omega) (growslice_fits (by omega) hbytes)
   rw [h2] at hr
   cases hr
   exact .inr rfl
structure ElemT (P : Program) (t e : TypeId) (sz bytes : Nat) : Prop where
 under : P.underlying t = some (.slice e)
 info : ∃ i z, P.info? e = some i ∧ i.zero = some z ∧ i.size = sz ∧ i.bytes = bytes ∧ z.cells.size = sz
 pos : 0 < sz
theorem L_appT {α : Type} {sz : Nat} {f : α → List Value} {t e : TypeId} {bytes : Nat} (he : ElemT P t e sz bytes) 
  {w0 w : World} {bs : List Bk} {ops : Array Oper} {rest : List Oper} {o : Oper} {a : Act} {Q : Exit → Act → World → Prop} (H : Kp (Loc w0 w bs)) (hgd : o.guard = none) (s x : Operand)
  (ho : o.op = .call { callee := .builtin .append, args := #[s, x], argTypes := #[t, t] })
  (base : Nat) (hb0 : w0.heap.size ≤ base) (hbase : base ≤ w.heap.size) (v : Value) (xs : List α) (hs : a.eval s = v) (hown : w.ownsRow base e sz v xs.length (xs.flatMap f)) (hsep : ∀ g ∈ bs.map (·.1), v.ownBlock ≠ some g)
  (g : Nat) (y : α) (hx : a.eval x = .slice (some ⟨g, 0, none⟩) 1 1) (E : TypeId) (hy : Lc w g E (f y)) (hf : (f y).length = sz) (h1 : ∀ u ∈ f y, u.oneCell' = true) (hlen : (xs.length + 1) * bytes ≤ 140737488355328) (hlen2 : xs.length + 1 ≤ 100000000)
  (h : ∀ v' w', Kp (w'.ownsRow base e sz v' (xs ++ [y]).length ((xs ++ [y]).flatMap f)) → Kp (w.grownBy w' v.ownBlock) → Kp (v'.ownBlock = v.ownBlock ∨ v'.ownBlock = some w.heap.size) → Kp (Loc w0 w' bs) → wpList P ops Q rest (a.put o.dst v') w') : wpList P ops Q (o :: rest) a w := by
 obtain ⟨i, z, hi, hz, hsz, hby, hzs⟩ := he.info
 subst hsz hby
 have hl : (f y).length = 1 * i.size := by rw [hf, Nat.one_mul]
 have hnews : ∀ j u, (f y)[j]? = some u → w.cell? ((⟨g, 0, none⟩ : Addr).add j) = some u := fun j u hu => by
  rw [Addr.add_mid, Nat.zero_add]; exact hy.cell hu
 have h63 : xs.length + 1 ≤ maxLen := by simp only [maxLen]; omega
 refine wpList_plain hgd fun K hK => ?_
 obtain ⟨v', w', hr, h2, h3, _⟩ := run_append_own (P := P) w base t o.type e i z i.size i.bytes he.under hi hz rfl rfl hzs he.pos v xs.length (xs.flatMap f) hown ⟨g, 0, none⟩ 1 1 (f y) hl hnews h1 h63 hlen hbase
 have h4 := append_where (P := P) w base t o.type e i z he.under hi hz v xs.length (xs.flatMap f) hown ⟨g, 0, none⟩ 1 1 (f y) hl hnews h1 h63 hlen v' w' hr (by omega)
 unfold Oper.wp execOp
 simp only [ho, resolve, invoke, builtin, Sem.run_bind, Sem.run_pure, Result.andThen_ok, List.map_toArray, List.map_cons, List.map_nil, hs, hx, hr]
 refine hK _ _ (h v' w' (kp ?_) (kp h3) (kp h4) (kp ?_))
 ·rw [List.length_append, List.flatMap_append, List.flatMap_cons, List.flatMap_nil, List.append_nil]; exact h2
 ·refine ⟨H.out.1.grown h3 (fun k hk => Nat.le_trans hb0 (ownsT_block hown k hk)), H.out.2.1, fun b hbm => ⟨(H.out.2.2 b hbm).1, ?_⟩⟩
  have h5 := (H.out.2.2 b hbm).2
  exact (h3.block b.1 h5.lt (fun e => hsep b.1 (List.mem_map.2 ⟨b, hbm, rfl⟩) e.symm)).trans h5
end
theorem ownsT_lt {w : World} {base E n sz : Nat} {v : Value} {xs : List Value} (h : w.ownsRow base E sz v n xs) : ∀ k, v.ownBlock = some k → k < w.heap.size := by
 intro k hk
 obtain ⟨_, h2⟩ := h
 rcases h2 with ⟨rfl, _⟩ | ⟨g, cap, cur, rfl, hb, hg, _⟩
 ·cases hk
 ·have : g = k := by simpa [Value.ownBlock] using hk
  subst this
  exact (Array.getElem?_eq_some_iff.1 hg).1
theorem ownsT_wrote {w w' : World} {base E n sz g : Nat} {v : Value} {xs : List Value} (h : w.ownsRow base E sz v n xs) (hw : Wrote w w' g) (hne : v.ownBlock ≠ some g) : w'.ownsRow base E sz v n xs := by
 obtain ⟨ds, rfl⟩ := hw
 exact ownsT_keep h fun k hk => setRow_other _ _ _ _ (fun e => hne (e ▸ hk))
theorem Loc.join {w0 w w' : World} {bs bs0 : List Bk} (h : Loc w0 w bs0) (k : Loc w w' bs) : Loc w0 w' (bs ++ bs0) := by
 refine ⟨h.1.trans k.1, ?_, fun b hb => ?_⟩
 ·rw [List.map_append, List.nodup_append]
  refine ⟨k.2.1, h.2.1, fun a ha c hc => ?_⟩
  obtain ⟨x, hx, rfl⟩ := List.mem_map.1 ha
  obtain ⟨y, hy, rfl⟩ := List.mem_map.1 hc
  have h1 := (k.2.2 x hx).1
  have h2 := (h.2.2 y hy).2.lt
  omega
 ·rcases List.mem_append.1 hb with hb | hb
  ·exact ⟨Nat.le_trans h.1.size (k.2.2 b hb).1, (k.2.2 b hb).2⟩
  ·exact ⟨(h.2.2 b hb).1, (h.2.2 b hb).2.ext k.1⟩
theorem Loc.sub {w0 w : World} {bs cs : List Bk} (h : Loc w0 w bs) (hs : List.Sublist cs bs) : Loc w0 w cs :=
 ⟨h.1, h.2.1.sublist (hs.map _), fun b hb => h.2.2 b (hs.subset hb)⟩
theorem Loc.perm {w0 w : World} {bs cs : List Bk} (h : Loc w0 w bs) (hp : bs.Perm cs) : Loc w0 w cs :=
 ⟨h.1, ((hp.map _).nodup_iff).1 h.2.1, fun b hb => h.2.2 b (hp.mem_iff.2 hb)⟩
theorem own_add {w0 w : World} {bs : List Bk} {B E sz n : Nat} {v : Value} {xs : List Value} (H : Loc w0 w bs) (ho : w.ownsRow B E sz v n xs) (hB : w0.heap.size ≤ B) (hsep : ∀ z ∈ bs.map (·.1), v.ownBlock ≠ some z) :
  ∃ t : List Bk, Loc w0 w (t ++ bs) ∧ (∀ z ∈ t.map (·.1), v.ownBlock = some z) ∧ ∀ W bs', Loc w0 W (t ++ bs') → W.ownsRow B E sz v n xs := by
 obtain ⟨h1, ⟨rfl, rfl⟩ | ⟨g, cap, cur, rfl, hb, hg, a, b, c, ht⟩⟩ := ho
 ·exact ⟨[], H, fun z hz => by simp at hz, fun W _ _ => ⟨h1, .inl ⟨rfl, rfl⟩⟩⟩
 ·refine ⟨[(g, E, cur.toList)], ⟨H.1, ?_, fun q hq => ?_⟩, fun z hz => by simp at hz; subst hz; rfl, fun W bs' hW => ⟨h1, .inr ⟨g, cap, cur, rfl, hb, ?_, a, b, c, ht⟩⟩⟩
  ·rw [List.cons_append, List.nil_append, List.map_cons, List.nodup_cons]
   exact ⟨fun hm => hsep g hm rfl, H.2.1⟩
  ·rcases List.mem_cons.1 hq with rfl | hq
   ·exact ⟨Nat.le_trans hB hb, by show w.heap[g]? = some (.cells cur.toList.toArray E (0, 0)); rw [Array.toArray_toList]; exact hg⟩
   ·exact H.2.2 q hq
  ·have := hW.at 0 (b := (g, E, cur.toList)) rfl
   have h2 : W.heap[g]? = some (.cells cur.toList.toArray E (0, 0)) := this
   rwa [Array.toArray_toList] at h2
theorem cont_len : ∀ (k : Nat) (b c : By), (contF k b c).1.length + (contF k b c).2.1.length ≤ c.length + b.length
 | 0, b, c => by simp [contF]
 | k + 1, [], c => by simp [contF]
 | k + 1, x :: l, c => by
  rw [contF_cons]
  split
  ·simp
  ·split
   ·simp; omega
   ·split
    ·simp
    ·rename_i m r hd
     split
     ·have h := cont_len k r (c ++ l.take x.toNat)
      have h2 := congrArg List.length (List.take_append_drop x.toNat l)
      rw [hd] at h2
      simp only [List.length_append, List.length_cons] at h h2 ⊢
      omega
     ·simp
theorem contOf_len (b : By) : (contOf b).1.length + (contOf b).2.1.length ≤ b.length := by
 have := cont_len b.length b []
 simpa [contOf] using this
def KeepM (lst : Nat → By → Nat × Int) : Prop := ∀ m b, m ≤ 64 → (lst m b).1 ≤ 64 ∧ m ≤ (lst m b).1
theorem one_keep {last : Bool} {lst : Nat → By → Nat × Int} (h : KeepM lst) (m : Nat) (b : By) (hm : m ≤ 64) : (oneF last lst m b).2.1 ≤ 64 ∧ m ≤ (oneF last lst m b).2.1 ∧ ((oneF last lst m b).2.2 = 0 → b ≠ [] → m + 1 ≤ (oneF last lst m b).2.1) := by
 unfold oneF
 split
 ·simp; omega
 ·rename_i h64
  split
  ·simp; omega
  ·split
   ·simp; omega
   ·split
    ·simp; omega
    ·split
     ·simp; omega
     ·split
      ·simp; omega
      ·split
       ·simp; omega
       ·split
        ·simp; omega
        ·exact ⟨(h (m + 1) _ (by omega)).1, Nat.le_trans (Nat.le_succ m) (h (m + 1) _ (by omega)).2, fun _ _ => (h (m + 1) _ (by omega)).2⟩
theorem one_rest {last : Bool} {lst : Nat → By → Nat × Int} (m : Nat) (x : BitVec 8) (b : By) : (oneF last lst m (x :: b)).1.length ≤ b.length := by
 have h := contOf_len b
 unfold oneF
 split
 ·simp
 ·dsimp only
  split
  ·simp
  ·split
   ·simp
   ·split
    ·simp
    ·split
     ·simp
     ·split
      ·dsimp only; omega
      ·split
       ·simp
       ·dsimp only; omega
theorem loop_keep {one : Nat → By → By × Nat × Int} (h : ∀ m b, m ≤ 64 → (one m b).2.1 ≤ 64 ∧ m ≤ (one m b).2.1) : ∀ (k m : Nat) (b : By), m ≤ 64 → (loopF one k m b).1 ≤ 64 ∧ m ≤ (loopF one k m b).1
 | 0, m, b, hm => ⟨hm, Nat.le_refl _⟩
 | k + 1, m, b, hm => by
  unfold loopF
  split
  ·exact ⟨hm, Nat.le_refl _⟩
  ·have h1 := h m b hm
   split
   ·exact h1
   ·have := loop_keep h k (one m b).2.1 (one m b).1 h1.1
    exact ⟨this.1, Nat.le_trans h1.2 this.2⟩
theorem list_keep : ∀ lv, KeepM (listF lv)
 | 0 => fun _ _ hm => ⟨hm, Nat.le_refl _⟩
 | lv + 1 => fun _ _ hm => loop_keep (fun m b hm => ⟨(one_keep (list_keep lv) m b hm).1, (one_keep (list_keep lv) m b hm).2.1⟩) _ _ _ hm
end Go.Proofs.Ytfecopfofkdnpaa
