/- Texts of this proof, put together: Pas, HsC, Alv, Sm, Ms. -/
import Derived.Test.YtibncchobkaaiaaC29
import Derived.Test.YtibncchobkaaiaaC28
import Derived.Test.YtibncchobkaaiaaC19
import Derived.Test.YtibncchobkaaiaaC20
import Derived.Test.YtibncchobkaaiaaC11
import Derived.Test.YtibncchobkaaiaaC1
namespace Go.Proofs.Ytibncchobkaaiaa
open Go.RowKit
theorem handle_own (s : Fw) (m : By) (hm : m.length ≤ 100000) (now : Int) (B : Nat) (v : Value) (w : World) (ho : w.ownsRow B 5 1 v m.length (m.map V8)) : Calls Try.prog 15 #[.agg (cat (partsF s)).toArray, v, .int .i64 now] w (ResR (handleF s m now) w) := by
 obtain ⟨a, c, rfl⟩ := owns_form ho
 by_cases h : m.length < 43
 ·exact handle_short s m a _ c rfl h now w
 ·obtain ⟨b, o, rfl⟩ := (SlB.of_owns ho).ne (by intro e; rw [e] at h; exact h (by decide))
  exact handle_long s m b o _ c h hm now w (SlB.of_owns ho) (CapOk.of_owns ho)
theorem send_len (s : Fw) : (sendF s).length ≤ 100000 := by
 unfold sendF
 split
 ·rw [signedF_len _ _ _ _ _ s.mine.2, wrapF_len]; decide
 ·rw [signedF_len _ _ _ _ _ s.mine.2]; decide
theorem handle_len (s : Fw) (b : By) (now : Int) : ∀ m ∈ (handleF s b now).2.1, m.length ≤ 100000 := by
 intro m hm
 by_cases h : (handleF s b now).2.2 = 0
 ·obtain ⟨_, _, ⟨_, _, _, _, _, e⟩ | ⟨_, _, _, _, _, e⟩ | ⟨_, _, _, e⟩ | ⟨_, _, _, _, _, _, g, _, e⟩⟩ := handleF_ok h <;> rw [e] at hm
  ·obtain rfl := List.mem_singleton.1 hm; exact send_len _
  ·cases hm
  ·obtain rfl := List.mem_singleton.1 hm; rw [signedF_len _ _ _ _ _ s.mine.2]; decide
  ·obtain rfl := List.mem_singleton.1 hm; rw [signedF_len _ _ _ _ _ (zv 16).2]; decide
 ·unfold handleF at hm h
  split at h
  ·rename_i q; rw [if_pos q] at hm; cases hm
  ·rename_i q
   rw [if_neg q] at hm
   split at h
   ·rename_i q2; rw [if_pos q2] at hm; cases hm
   ·rename_i q2
    rw [if_neg q2] at hm
    have hs2 : secondF s b now = errR (secondF s b now).2.2 ∨ (secondF s b now).2.2 = 0 := by unfold secondF; split <;> simp [errR]
    have hs4 : fourthF s b = errR (fourthF s b).2.2 ∨ (fourthF s b).2.2 = 0 := by unfold fourthF; split <;> simp [errR]
    have hs3 : thirdF s b = errR (thirdF s b).2.2 ∨ (thirdF s b).2.2 = 0 := by unfold thirdF; split <;> simp [errR]
    split at h
    ·rename_i q3; rw [if_pos q3] at hm
     rcases hs2 with e | e
     ·rw [e] at hm; cases hm
     ·exact absurd e h
    ·rename_i q3; rw [if_neg q3] at hm
     split at h
     ·rename_i q4; rw [if_pos q4] at hm
      rcases hs4 with e | e
      ·rw [e] at hm; cases hm
      ·exact absurd e h
     ·rename_i q4; rw [if_neg q4] at hm
      split at h
      ·exact absurd rfl h
      ·rename_i q5; rw [if_neg q5] at hm
       split at h
       ·rename_i q6; rw [if_pos q6] at hm
        rcases hs3 with e | e
        ·rw [e] at hm; cases hm
        ·exact absurd e h
       ·rename_i q6; rw [if_neg q6] at hm; cases hm
def atS (t : Int) (s : Fw × Fw) : Fw := if t = 1 then s.2 else s.1
def putS (t : Int) (s : Fw × Fw) (x : Fw) : Fw × Fw := if t = 1 then (s.1, x) else (x, s.2)
def passF (now : Int) : Nat → Fw × Fw → List By → Int → (Fw × Fw) × Bool
 | 0, s, out, _ => (s, out.isEmpty)
 | _ + 1, s, [], _ => (s, true)
 | n + 1, s, m :: _, t => if (handleF (atS t s) m now).2.2 ≠ 0 then (s, false) else passF now n (putS t s (handleF (atS t s) m now).1) (handleF (atS t s) m now).2.1 (1 - t)
def PasR (r : (Fw × Fw) × Bool) (w : World) (e : Ending) (w' : World) : Prop := e = .returned (.tuple #[.agg (cat (parts2 r.1)).toArray, .bool r.2]) ∧ Ext w w'
theorem passF_nil (now : Int) : ∀ (n : Nat) (s : Fw × Fw) (t : Int), passF now n s [] t = (s, true)
 | 0, _, _ => rfl
 | _ + 1, _, _ => rfl
theorem passF_cons {now : Int} {j : Nat} {s : Fw × Fw} {m : By} {out : List By} {t : Int} (h : j < 10) : passF now (10 - j) s (m :: out) t = if (handleF (atS t s) m now).2.2 ≠ 0 then (s, false) else passF now (10 - (j + 1)) (putS t s (handleF (atS t s) m now).1) (handleF (atS t s) m now).2.1 (1 - t) := by
 rw [show 10 - j = (10 - (j + 1)) + 1 by omega]; rfl
theorem pasR {r : (Fw × Fw) × Bool} {s : Fw × Fw} {b : Bool} {w w' : World} (h : r = (s, b)) (hx : Ext w w') : PasR r w (.returned (.tuple #[.agg (cat (parts2 s)).toArray, .bool b])) w' := by subst h; exact ⟨rfl, hx⟩
theorem owns_blk {B : Nat} {w : World} {b o : Nat} {m : Option Nat} {n c : Nat} {ls : List By} (h : SlBB B w (.slice (some ⟨b, o, m⟩) n c) ls) : b < w.heap.size := by
 obtain ⟨vs, ⟨_, ⟨h2, _⟩ | ⟨g, cap, cur, h3, _, hh, _⟩⟩, _⟩ := h
 ·cases h2
 ·cases h3; exact (Array.getElem?_eq_some_iff.1 hh).1
set_option maxRecDepth 4000 in
set_option maxHeartbeats 3200000 in
theorem passed_any (s0 : Fw × Fw) (out0 : List By) (t0 now : Int) (ht0 : t0 = 0 ∨ t0 = 1) (hl0 : ∀ m ∈ out0, m.length ≤ 100000) (v : Value) (w : World) (hv : ∃ B, SlBB B w v out0) : Calls Try.prog 45 #[.agg (cat (parts2 s0)).toArray, v, .int .i64 t0, .int .i64 now] w (PasR (passF now 10 s0 out0 t0) w) := by
 have H := kp (Loc.start w)
 have HV := kp hv
 have HL := kp hl0
 clear hv hl0
 go_enter Try.func45, Try.ntmps45
 go_wp2_with (first | ((with_reducible show wpList _ _ _ (Oper.mk (some 4) (Op.box 55 _) _ _ _ _ :: _) _ _); (refine L_box H rfl 55 _ rfl (cat (parts2 s0)) rfl ?_); clear H; intro g4 w4 HGg4 HEg4 H; simp only [Act.put, sbA, szA, ssA]) | ((with_reducible show wpList _ _ _ (Oper.mk (some 8) (Op.alloc 55) _ _ _ _ :: _) _ _); (refine L_alloc H rfl 55 rfl (cat (parts2 (fw0, fw0))) (fun _ _ => by kernel_rfl) ?_); clear H; intro g8 w8 HGg8 HEg8 H; simp only [Act.put, sbA, szA, ssA]))
 go_loopw [1, 2, 10] (fun ov tv i wr => ∃ (j : Nat) (s : Fw × Fw) (out : List By) (t : Int), j ≤ 10 ∧ i = .int .i64 j ∧ tv = .int .i64 t ∧ (t = 0 ∨ t = 1) ∧ Kp (∃ B, SlBB B wr ov out) ∧ Kp (∀ m ∈ out, m.length ≤ 100000) ∧ Kp (passF now 10 s0 out0 t0 = passF now (10 - j) s out t) ∧ Kp (Loc w wr [(g8, 55, cat (parts2 (fw0, fw0))), (g4, 55, cat (parts2 s))])) (fun _ _ i _ => 10 - (intOf i).toNat)
 case atStart => exact ⟨0, s0, out0, t0, by omega, rfl, rfl, ht0, kp (by obtain ⟨B, hb⟩ := HV.out; exact ⟨B, hb.ext H.out.1⟩), HL, kp rfl, H⟩
 case round =>
  obtain ⟨j, s, out, t, hj, rfl, rfl, ht, HO, HL, HR, H⟩ := hrel
  obtain ⟨B, hb⟩ := HO.out
  cases out with
  | nil =>
   have HK := kp (HR.out.trans (passF_nil now (10 - j) s t))
   obtain ⟨oa, oc, rfl⟩ := hb.form
   clear hb HO
   go_wp2_with (first | ((with_reducible refine isLd 55 ?_); refine L_fa H rfl 55 _ rfl 1 rfl rfl Try.underlying55 rfl (by kernel_rfl) ?_; simp only [Act.put, sbA, szA, ssA]) | ((with_reducible refine isSt 55 ?_); refine L_sa H rfl rfl 55 _ _ rfl 0 rfl rfl (parts2 s) rfl rfl (by kernel_rfl) ?_; clear H; intro wz HWwz H; simp only [szA] at H))
   all_goals (exact ret_f2 H Try.results45 0 rfl rfl _ rfl Try.underlying55 rfl (by kernel_rfl) rfl (pasR HK.out H.out.1))
  | cons m out =>
   by_cases h10 : j = 10
   ·subst h10
    have HK := kp (show passF now 10 s0 out0 t0 = (s, false) from HR.out)
    obtain ⟨oa, oc, rfl⟩ := hb.form
    clear hb HO
    go_wp2_with (first | ((with_reducible refine isLd 55 ?_); refine L_fa H rfl 55 _ rfl 1 rfl rfl Try.underlying55 rfl (by kernel_rfl) ?_; simp only [Act.put, sbA, szA, ssA]) | ((with_reducible refine isSt 55 ?_); refine L_sa H rfl rfl 55 _ _ rfl 0 rfl rfl (parts2 s) rfl rfl (by kernel_rfl) ?_; clear H; intro wz HWwz H; simp only [szA] at H))
    (exact ret_f2 H Try.results45 0 rfl rfl _ rfl Try.underlying55 rfl (by kernel_rfl) rfl (pasR HK.out H.out.1))
   ·have hj10 : j < 10 := by omega
    have HM := kp (HL.out m (by simp))
    obtain ⟨ob, oc, mv, rfl, hc, hmo⟩ := hb.first
    obtain ⟨ma, mc, rfl⟩ := owns_form hmo
    have HBK := kp (owns_blk hb)
    have HCE := kp (show ∀ W, Ext wr W → W.cell? ⟨ob, 0, none⟩ = some (.slice ma m.length mc) from fun W hx => (hx.cell HBK.out).trans hc)
    have HHA := kp (show ∀ (x : Fw) W, Ext wr W → Calls Try.prog 15 #[.agg (cat (partsF x)).toArray, .slice ma m.length mc, .int .i64 now] W (ResR (handleF x m now) W) from fun x W hx => handle_own x m HM.out now _ _ W (owns_ext hmo hx))
    have HR := kp (HR.out.trans (passF_cons hj10))
    clear hb HO hc hmo h10
    have HLN := kp (handle_len (atS t s) m now)
    rcases ht with rfl | rfl
    ·have HHA := kp (HHA.out s.1)
     have HR := kp (show passF now 10 s0 out0 t0 = if (handleF s.1 m now).2.2 ≠ 0 then (s, false) else passF now (10 - (j + 1)) ((handleF s.1 m now).1, s.2) (handleF s.1 m now).2.1 1 from HR.out)
     have HLN := kp (show ∀ x ∈ (handleF s.1 m now).2.1, x.length ≤ 100000 from HLN.out)
     generalize handleF s.1 m now = r at *
     have HLT := kp (H.out.lt 1 rfl)
     generalize hh4 : (Code.region 4 _ _ : Code) = R4
     go_wp2_with fail
     rotate_left
     ·exfalso; omega
     subst hh4
     refine region_freeN H (tabS [(24, fun vQ _ => vQ = .int .i64 0), (25, fun vQ _ => vQ = .pointer (some ⟨g4, 0, none⟩)), (26, fun vQ _ => vQ = .agg (cat (partsF s.1)).toArray), (27, fun vQ _ => vQ = .slice (some ⟨ob, 0, none⟩) (m :: out).length oc), (28, fun vQ _ => vQ = .pointer (some ⟨ob, 0, none⟩)), (29, fun vQ _ => vQ = .slice ma m.length mc), (30, fun vQ _ => vQ = .int .i64 now), (31, fun vQ wQ => TupR wr.heap.size r vQ wQ), (23, fun vQ wQ => TupR wr.heap.size r vQ wQ), (32, fun vQ _ => vQ = .agg (cat (partsF r.1)).toArray), (33, fun vQ wQ => SlBB wr.heap.size wQ vQ r.2.1), (34, fun vQ _ => vQ = .int .i64 r.2.2), (12, fun vQ wQ => SlBB wr.heap.size wQ vQ r.2.1)]) 12 13 11 32 32 (cat (partsF fw0)) (cat (partsF r.1)) 15 (tabS_trn _ _ _ (by simp only [List.forall_mem_cons]; exact ⟨monoN_eq _ _ _, monoN_eq _ _ _, monoN_eq _ _ _, monoN_eq _ _ _, monoN_eq _ _ _, monoN_eq _ _ _, monoN_eq _ _ _, (monoN_TupR _ _ _), (monoN_TupR _ _ _), monoN_eq _ _ _, (monoN_SlBB _ _ _), monoN_eq _ _ _, (monoN_SlBB _ _ _), by simp⟩)) (fun _ _ => trivial) (fun _ _ h => h) (by kernel_rfl) (by kernel_rfl) (by kernel_rfl) (by kernel_rfl) _ _ rfl rfl (by decide) (by decide) (by decide) rfl rfl rfl (fun _ => by kernel_rfl) rfl rfl rfl (by kernel_rfl) (by kernel_rfl) (by kernel_rfl) (sizeFw _) (len_F _ _) (by simpa using cat_one (partsF r.1)) (by kernel_rfl) ?_
     simp only [List.take_succ_cons, List.take_zero]
     refine ⟨fun _ w_ o_ S_ => ?_, fun v24 => ?_⟩
     ·clear S_
      clear o_
      go_wp2_with fail
      exact kso rfl rfl rfl
     simp only [Act.put, sbA, szA, ssA]
     refine ⟨fun _ w_ o_ S_ => ?_, fun v25 => ?_⟩
     ·obtain rfl : v24 = .int .i64 0 := hsR S_ 24 rfl
      clear S_ o_
      go_wp2_with fail
      exact kso rfl rfl rfl
     simp only [Act.put, sbA, szA, ssA]
     refine ⟨fun _ w_ o_ S_ => ?_, fun v26 => ?_⟩
     ·obtain rfl : v25 = .pointer (some ⟨g4, 0, none⟩) := hsR S_ 25 rfl
      clear S_
      have H := kp (H.out.ext o_)
      have HOX := kp o_
      clear o_
      go_wp2_with ((with_reducible refine isLd 32 ?_); refine L_fg H rfl 32 _ rfl 1 rfl _ rfl _ rfl (partsF s.1) rfl Try.underlying32 rfl (by kernel_rfl) ?_; simp only [Act.put, sbA, szA, ssA])
      exact kso rfl rfl rfl
     simp only [Act.put, sbA, szA, ssA]
     refine ⟨fun _ w_ o_ S_ => ?_, fun v27 => ?_⟩
     ·clear S_
      clear o_
      go_wp2_with fail
      exact kso rfl rfl rfl
     simp only [Act.put, sbA, szA, ssA]
     refine ⟨fun _ w_ o_ S_ => ?_, fun v28 => ?_⟩
     ·obtain rfl : v27 = .slice (some ⟨ob, 0, none⟩) (m :: out).length oc := hsR S_ 27 rfl
      clear S_ o_
      go_wp2_with fail
      exact kso rfl rfl rfl
     simp only [Act.put, sbA, szA, ssA]
     refine ⟨fun _ w_ o_ S_ => ?_, fun v29 => ?_⟩
     ·obtain rfl : v28 = .pointer (some ⟨ob, 0, none⟩) := hsR S_ 28 rfl
      clear S_
      have H := kp (H.out.ext o_)
      have HOX := kp o_
      clear o_
      have hc := HCE.out _ HOX.out
      go_wp2_with fail
      exact kso rfl rfl rfl
     simp only [Act.put, sbA, szA, ssA]
     refine ⟨fun _ w_ o_ S_ => ?_, fun v30 => ?_⟩
     ·clear S_
      clear o_
      go_wp2_with fail
      exact kso rfl rfl rfl
     simp only [Act.put, sbA, szA, ssA]
     refine ⟨fun _ w_ o_ S_ => ?_, fun v31 => ?_⟩
     ·obtain rfl : v26 = .agg (cat (partsF s.1)).toArray := hsR S_ 26 rfl
      obtain rfl : v29 = .slice ma m.length mc := hsR S_ 29 rfl
      obtain rfl : v30 = .int .i64 now := hsR S_ 30 rfl
      clear S_
      have H := kp (H.out.ext o_)
      have HOX := kp o_
      clear o_
      go_wp2_with fail
      refine (HHA.out _ HOX.out).mono ?_
      rintro e w2 ⟨u, rfl, hs, hx⟩
      have HSL := kp (hs.weak HOX.out.size)
      have HXC := kp hx
      clear hs hx
      go_wp2_with fail
      exact ⟨rfl, _, rfl, fun d hd => by cases hd; exact ⟨_, rfl, HSL.out⟩, HXC.out⟩
     simp only [Act.put, sbA, szA, ssA]
     refine ⟨fun _ w_ o_ S_ => ?_, fun v23 => ?_⟩
     ·have h31 := kp (show TupR wr.heap.size r v31 w_ from hsR S_ 31 rfl)
      clear S_ o_
      go_wp2_with fail
      exact ⟨rfl, _, rfl, fun d hd => by cases hd; exact h31.out, Ext.refl _⟩
     simp only [Act.put, sbA, szA, ssA]
     refine ⟨fun _ w_ o_ S_ => ?_, fun v32 => ?_⟩
     ·have h23 := kp (show TupR wr.heap.size r v23 w_ from hsR S_ 23 rfl)
      clear S_
      have H := kp (H.out.ext o_)
      have HOX := kp o_
      clear o_
      obtain ⟨u, rfl, hs⟩ := h23.out
      clear hs
      go_wp2_with fail
      exact kso rfl rfl rfl
     simp only [Act.put, sbA, szA, ssA]
     refine ⟨fun _ w_ o_ S_ => ?_, fun v33 => ?_⟩
     ·have h23 := kp (show TupR wr.heap.size r v23 w_ from hsR S_ 23 rfl)
      clear S_
      have H := kp (H.out.ext o_)
      have HOX := kp o_
      clear o_
      obtain ⟨u, rfl, hs⟩ := h23.out
      have HSL := kp hs
      clear hs
      go_wp2_with fail
      exact ⟨rfl, _, rfl, fun d hd => by cases hd; exact HSL.out, Ext.refl _⟩
     simp only [Act.put, sbA, szA, ssA]
     refine ⟨fun _ w_ o_ S_ => ?_, fun v34 => ?_⟩
     ·have h23 := kp (show TupR wr.heap.size r v23 w_ from hsR S_ 23 rfl)
      clear S_
      have H := kp (H.out.ext o_)
      have HOX := kp o_
      clear o_
      obtain ⟨u, rfl, hs⟩ := h23.out
      clear hs
      go_wp2_with fail
      exact kso rfl rfl rfl
     simp only [Act.put, sbA, szA, ssA]
     refine ⟨(fun h => by cases h), fun v11 => ?_⟩
     simp only [Act.put, sbA, szA, ssA]
     refine ⟨(fun h => by cases h), fun _ => ?_⟩
     refine ⟨fun _ w_ o_ S_ => ?_, fun v12 => ?_⟩
     ·have h33 := kp (show SlBB wr.heap.size w_ v33 r.2.1 from hsR S_ 33 rfl)
      clear S_ o_
      go_wp2_with fail
      exact ⟨rfl, _, rfl, fun d hd => by cases hd; exact h33.out, Ext.refl _⟩
     simp only [Act.put, sbA, szA, ssA]
     clear H
     intro wn HOX hfin hvar
     obtain ⟨g11, hvg, hvb, hvl, H⟩ := hvar
     have HBg11 := kp hvb
     clear hvb hvl
     obtain rfl : v11 = .pointer (some ⟨g11, 0, none⟩) := hvg
     obtain rfl : v24 = .int .i64 0 := hfin 24 (by decide)
     obtain rfl : v25 = .pointer (some ⟨g4, 0, none⟩) := hfin 25 (by decide)
     obtain rfl : v26 = .agg (cat (partsF s.1)).toArray := hfin 26 (by decide)
     obtain rfl : v27 = .slice (some ⟨ob, 0, none⟩) (m :: out).length oc := hfin 27 (by decide)
     obtain rfl : v28 = .pointer (some ⟨ob, 0, none⟩) := hfin 28 (by decide)
     obtain rfl : v29 = .slice ma m.length mc := hfin 29 (by decide)
     obtain rfl : v30 = .int .i64 now := hfin 30 (by decide)
     have F31 := kp (show TupR wr.heap.size r v31 wn from hfin 31 (by decide))
     have F23 := kp (show TupR wr.heap.size r v23 wn from hfin 23 (by decide))
     obtain rfl : v32 = .agg (cat (partsF r.1)).toArray := hfin 32 (by decide)
     have F33 := kp (show SlBB wr.heap.size wn v33 r.2.1 from hfin 33 (by decide))
     obtain rfl : v34 = .int .i64 r.2.2 := hfin 34 (by decide)
     have F12 := kp (show SlBB wr.heap.size wn v12 r.2.1 from hfin 12 (by decide))
     clear hfin
     simp only [List.drop_succ_cons, List.drop_zero]
     try simp only [applyS] at H
     have HXN := HOX
     go_wp2_with (first | ((with_reducible refine isLd 55 ?_); refine L_fa H rfl 55 _ rfl 2 rfl rfl Try.underlying55 rfl (by kernel_rfl) ?_; simp only [Act.put, sbA, szA, ssA]) | ((with_reducible refine isSt 55 ?_); refine L_sa H rfl rfl 55 _ _ rfl 1 rfl rfl (parts2 s) rfl rfl (by kernel_rfl) ?_; clear H; intro wz HWwz H; simp only [ssA, szA] at H) | ((with_reducible refine isLd 32 ?_); refine L_fa H rfl 32 _ rfl 0 rfl rfl Try.underlying32 rfl (by kernel_rfl) ?_; simp only [Act.put, sbA, szA, ssA]) | ((with_reducible refine isSt 32 ?_); refine L_sg H rfl rfl 32 _ _ rfl 2 rfl _ rfl _ rfl 16 (partsF r.1) rfl (by kernel_rfl) (by kernel_rfl) (parts2 (r.1, s.2)) (by kernel_rfl) ?_; clear H; intro wz HWwz H; simp only [ssA, szA] at H))
     ·have HK := kp (show passF now 10 s0 out0 t0 = (s, false) from by rw [HR.out, if_pos (by simpa using ‹(r.2.2 != 0) = true›)])
      (exact ret_f2 H Try.results45 1 rfl rfl _ rfl Try.underlying55 rfl (by kernel_rfl) rfl (pasR HK.out H.out.1))
     ·have HK := kp (show passF now 10 s0 out0 t0 = passF now (10 - (j + 1)) (r.1, s.2) r.2.1 1 from by rw [HR.out, if_neg (by simp_all)])
      have HS := kp (F12.out.out HWwz.out.out (by intro x hx; rcases List.mem_singleton.1 hx with rfl; exact HLT.out))
      refine ⟨⟨j + 1, (r.1, s.2), r.2.1, 1, by omega, by go_num, rfl, by simp, kp ⟨_, HS.out⟩, HLN, HK, kp ⟨H.out.1, (List.nodup_cons.1 H.out.2.1).2, fun x hx => H.out.2.2 x (List.mem_cons_of_mem _ hx)⟩⟩, by simp [intOf]; omega⟩
    ·have HHA := kp (HHA.out s.2)
     have HR := kp (show passF now 10 s0 out0 t0 = if (handleF s.2 m now).2.2 ≠ 0 then (s, false) else passF now (10 - (j + 1)) (s.1, (handleF s.2 m now).1) (handleF s.2 m now).2.1 0 from HR.out)
     have HLN := kp (show ∀ x ∈ (handleF s.2 m now).2.1, x.length ≤ 100000 from HLN.out)
     generalize handleF s.2 m now = r at *
     have HLT := kp (H.out.lt 1 rfl)
     generalize hh4 : (Code.region 4 _ _ : Code) = R4
     go_wp2_with fail
     rotate_left
     ·exfalso; omega
     subst hh4
     refine region_freeN H (tabS [(24, fun vQ _ => vQ = .int .i64 1), (25, fun vQ _ => vQ = .pointer (some ⟨g4, 131, none⟩)), (26, fun vQ _ => vQ = .agg (cat (partsF s.2)).toArray), (27, fun vQ _ => vQ = .slice (some ⟨ob, 0, none⟩) (m :: out).length oc), (28, fun vQ _ => vQ = .pointer (some ⟨ob, 0, none⟩)), (29, fun vQ _ => vQ = .slice ma m.length mc), (30, fun vQ _ => vQ = .int .i64 now), (31, fun vQ wQ => TupR wr.heap.size r vQ wQ), (23, fun vQ wQ => TupR wr.heap.size r vQ wQ), (32, fun vQ _ => vQ = .agg (cat (partsF r.1)).toArray), (33, fun vQ wQ => SlBB wr.heap.size wQ vQ r.2.1), (34, fun vQ _ => vQ = .int .i64 r.2.2), (12, fun vQ wQ => SlBB wr.heap.size wQ vQ r.2.1)]) 12 13 11 32 32 (cat (partsF fw0)) (cat (partsF r.1)) 15 (tabS_trn _ _ _ (by simp only [List.forall_mem_cons]; exact ⟨monoN_eq _ _ _, monoN_eq _ _ _, monoN_eq _ _ _, monoN_eq _ _ _, monoN_eq _ _ _, monoN_eq _ _ _, monoN_eq _ _ _, (monoN_TupR _ _ _), (monoN_TupR _ _ _), monoN_eq _ _ _, (monoN_SlBB _ _ _), monoN_eq _ _ _, (monoN_SlBB _ _ _), by simp⟩)) (fun _ _ => trivial) (fun _ _ h => h) (by kernel_rfl) (by kernel_rfl) (by kernel_rfl) (by kernel_rfl) _ _ rfl rfl (by decide) (by decide) (by decide) rfl rfl rfl (fun _ => by kernel_rfl) rfl rfl rfl (by kernel_rfl) (by kernel_rfl) (by kernel_rfl) (sizeFw _) (len_F _ _) (by simpa using cat_one (partsF r.1)) (by kernel_rfl) ?_
     simp only [List.take_succ_cons, List.take_zero]
     refine ⟨fun _ w_ o_ S_ => ?_, fun v24 => ?_⟩
     ·clear S_
      clear o_
      go_wp2_with fail
      exact kso rfl rfl rfl
     simp only [Act.put, sbA, szA, ssA]
     refine ⟨fun _ w_ o_ S_ => ?_, fun v25 => ?_⟩
     ·obtain rfl : v24 = .int .i64 1 := hsR S_ 24 rfl
      clear S_ o_
      go_wp2_with fail
      exact kso rfl rfl rfl
     simp only [Act.put, sbA, szA, ssA]
     refine ⟨fun _ w_ o_ S_ => ?_, fun v26 => ?_⟩
     ·obtain rfl : v25 = .pointer (some ⟨g4, 131, none⟩) := hsR S_ 25 rfl
      clear S_
      have H := kp (H.out.ext o_)
      have HOX := kp o_
      clear o_
      go_wp2_with ((with_reducible refine isLd 32 ?_); refine L_fg H rfl 32 _ rfl 1 rfl _ rfl _ rfl (partsF s.2) rfl Try.underlying32 rfl (by kernel_rfl) ?_; simp only [Act.put, sbA, szA, ssA])
      exact kso rfl rfl rfl
     simp only [Act.put, sbA, szA, ssA]
     refine ⟨fun _ w_ o_ S_ => ?_, fun v27 => ?_⟩
     ·clear S_
      clear o_
      go_wp2_with fail
      exact kso rfl rfl rfl
     simp only [Act.put, sbA, szA, ssA]
     refine ⟨fun _ w_ o_ S_ => ?_, fun v28 => ?_⟩
     ·obtain rfl : v27 = .slice (some ⟨ob, 0, none⟩) (m :: out).length oc := hsR S_ 27 rfl
      clear S_ o_
      go_wp2_with fail
      exact kso rfl rfl rfl
     simp only [Act.put, sbA, szA, ssA]
     refine ⟨fun _ w_ o_ S_ => ?_, fun v29 => ?_⟩
     ·obtain rfl : v28 = .pointer (some ⟨ob, 0, none⟩) := hsR S_ 28 rfl
      clear S_
      have H := kp (H.out.ext o_)
      have HOX := kp o_
      clear o_
      have hc := HCE.out _ HOX.out
      go_wp2_with fail
      exact kso rfl rfl rfl
     simp only [Act.put, sbA, szA, ssA]
     refine ⟨fun _ w_ o_ S_ => ?_, fun v30 => ?_⟩
     ·clear S_
      clear o_
      go_wp2_with fail
      exact kso rfl rfl rfl
     simp only [Act.put, sbA, szA, ssA]
     refine ⟨fun _ w_ o_ S_ => ?_, fun v31 => ?_⟩
     ·obtain rfl : v26 = .agg (cat (partsF s.2)).toArray := hsR S_ 26 rfl
      obtain rfl : v29 = .slice ma m.length mc := hsR S_ 29 rfl
      obtain rfl : v30 = .int .i64 now := hsR S_ 30 rfl
      clear S_
      have H := kp (H.out.ext o_)
      have HOX := kp o_
      clear o_
      go_wp2_with fail
      refine (HHA.out _ HOX.out).mono ?_
      rintro e w2 ⟨u, rfl, hs, hx⟩
      have HSL := kp (hs.weak HOX.out.size)
      have HXC := kp hx
      clear hs hx
      go_wp2_with fail
      exact ⟨rfl, _, rfl, fun d hd => by cases hd; exact ⟨_, rfl, HSL.out⟩, HXC.out⟩
     simp only [Act.put, sbA, szA, ssA]
     refine ⟨fun _ w_ o_ S_ => ?_, fun v23 => ?_⟩
     ·have h31 := kp (show TupR wr.heap.size r v31 w_ from hsR S_ 31 rfl)
      clear S_ o_
      go_wp2_with fail
      exact ⟨rfl, _, rfl, fun d hd => by cases hd; exact h31.out, Ext.refl _⟩
     simp only [Act.put, sbA, szA, ssA]
     refine ⟨fun _ w_ o_ S_ => ?_, fun v32 => ?_⟩
     ·have h23 := kp (show TupR wr.heap.size r v23 w_ from hsR S_ 23 rfl)
      clear S_
      have H := kp (H.out.ext o_)
      have HOX := kp o_
      clear o_
      obtain ⟨u, rfl, hs⟩ := h23.out
      clear hs
      go_wp2_with fail
      exact kso rfl rfl rfl
     simp only [Act.put, sbA, szA, ssA]
     refine ⟨fun _ w_ o_ S_ => ?_, fun v33 => ?_⟩
     ·have h23 := kp (show TupR wr.heap.size r v23 w_ from hsR S_ 23 rfl)
      clear S_
      have H := kp (H.out.ext o_)
      have HOX := kp o_
      clear o_
      obtain ⟨u, rfl, hs⟩ := h23.out
      have HSL := kp hs
      clear hs
      go_wp2_with fail
      exact ⟨rfl, _, rfl, fun d hd => by cases hd; exact HSL.out, Ext.refl _⟩
     simp only [Act.put, sbA, szA, ssA]
     refine ⟨fun _ w_ o_ S_ => ?_, fun v34 => ?_⟩
     ·have h23 := kp (show TupR wr.heap.size r v23 w_ from hsR S_ 23 rfl)
      clear S_
      have H := kp (H.out.ext o_)
      have HOX := kp o_
      clear o_
      obtain ⟨u, rfl, hs⟩ := h23.out
      clear hs
      go_wp2_with fail
      exact kso rfl rfl rfl
     simp only [Act.put, sbA, szA, ssA]
     refine ⟨(fun h => by cases h), fun v11 => ?_⟩
     simp only [Act.put, sbA, szA, ssA]
     refine ⟨(fun h => by cases h), fun _ => ?_⟩
     refine ⟨fun _ w_ o_ S_ => ?_, fun v12 => ?_⟩
     ·have h33 := kp (show SlBB wr.heap.size w_ v33 r.2.1 from hsR S_ 33 rfl)
      clear S_ o_
      go_wp2_with fail
      exact ⟨rfl, _, rfl, fun d hd => by cases hd; exact h33.out, Ext.refl _⟩
     simp only [Act.put, sbA, szA, ssA]
     clear H
     intro wn HOX hfin hvar
     obtain ⟨g11, hvg, hvb, hvl, H⟩ := hvar
     have HBg11 := kp hvb
     clear hvb hvl
     obtain rfl : v11 = .pointer (some ⟨g11, 0, none⟩) := hvg
     obtain rfl : v24 = .int .i64 1 := hfin 24 (by decide)
     obtain rfl : v25 = .pointer (some ⟨g4, 131, none⟩) := hfin 25 (by decide)
     obtain rfl : v26 = .agg (cat (partsF s.2)).toArray := hfin 26 (by decide)
     obtain rfl : v27 = .slice (some ⟨ob, 0, none⟩) (m :: out).length oc := hfin 27 (by decide)
     obtain rfl : v28 = .pointer (some ⟨ob, 0, none⟩) := hfin 28 (by decide)
     obtain rfl : v29 = .slice ma m.length mc := hfin 29 (by decide)
     obtain rfl : v30 = .int .i64 now := hfin 30 (by decide)
     have F31 := kp (show TupR wr.heap.size r v31 wn from hfin 31 (by decide))
     have F23 := kp (show TupR wr.heap.size r v23 wn from hfin 23 (by decide))
     obtain rfl : v32 = .agg (cat (partsF r.1)).toArray := hfin 32 (by decide)
     have F33 := kp (show SlBB wr.heap.size wn v33 r.2.1 from hfin 33 (by decide))
     obtain rfl : v34 = .int .i64 r.2.2 := hfin 34 (by decide)
     have F12 := kp (show SlBB wr.heap.size wn v12 r.2.1 from hfin 12 (by decide))
     clear hfin
     simp only [List.drop_succ_cons, List.drop_zero]
     try simp only [applyS] at H
     have HXN := HOX
     go_wp2_with (first | ((with_reducible refine isLd 55 ?_); refine L_fa H rfl 55 _ rfl 2 rfl rfl Try.underlying55 rfl (by kernel_rfl) ?_; simp only [Act.put, sbA, szA, ssA]) | ((with_reducible refine isSt 55 ?_); refine L_sa H rfl rfl 55 _ _ rfl 1 rfl rfl (parts2 s) rfl rfl (by kernel_rfl) ?_; clear H; intro wz HWwz H; simp only [ssA, szA] at H) | ((with_reducible refine isLd 32 ?_); refine L_fa H rfl 32 _ rfl 0 rfl rfl Try.underlying32 rfl (by kernel_rfl) ?_; simp only [Act.put, sbA, szA, ssA]) | ((with_reducible refine isSt 32 ?_); refine L_sg H rfl rfl 32 _ _ rfl 2 rfl _ rfl _ rfl 16 (partsF r.1) rfl (by kernel_rfl) (by kernel_rfl) (parts2 (s.1, r.1)) (by kernel_rfl) ?_; clear H; intro wz HWwz H; simp only [ssA, szA] at H))
     ·have HK := kp (show passF now 10 s0 out0 t0 = (s, false) from by rw [HR.out, if_pos (by simpa using ‹(r.2.2 != 0) = true›)])
      (exact ret_f2 H Try.results45 1 rfl rfl _ rfl Try.underlying55 rfl (by kernel_rfl) rfl (pasR HK.out H.out.1))
     ·have HK := kp (show passF now 10 s0 out0 t0 = passF now (10 - (j + 1)) (s.1, r.1) r.2.1 0 from by rw [HR.out, if_neg (by simp_all)])
      have HS := kp (F12.out.out HWwz.out.out (by intro x hx; rcases List.mem_singleton.1 hx with rfl; exact HLT.out))
      refine ⟨⟨j + 1, (s.1, r.1), r.2.1, 0, by omega, by go_num, rfl, by simp, kp ⟨_, HS.out⟩, HLN, HK, kp ⟨H.out.1, (List.nodup_cons.1 H.out.2.1).2, fun x hx => H.out.2.2 x (List.mem_cons_of_mem _ hx)⟩⟩, by simp [intOf]; omega⟩
end Go.Proofs.Ytibncchobkaaiaa
namespace Go.Proofs.Ytibncchobkaaiaa
open Go.RowKit
def stA1 (p : Pr) (k d : Int) : Fw := { stA0 p with stage := 1, replay := k, tries := k, due := d }
def stA3 (p : Pr) (k t d : Int) : Fw := { stA0 p with stage := 3, other := p.his, pair := p.K, replay := k, tries := t, due := d }
def stA4 (p : Pr) (k : Int) : Fw := { stA0 p with stage := 4, other := p.his, pair := p.K, replay := k, inst := 1 }
def stS2 (p : Pr) : Fw := { stS0 p with stage := 2, other := p.mine, pair := p.K }
def stS4 (p : Pr) (k : Int) : Fw := { stS0 p with stage := 4, other := p.mine, pair := p.K, gid := p.gid, gkey := p.gkey, inst := 1, replay := k }
def ms1 (p : Pr) (k : Int) : By := signedF ks0.c.1 1 k p.mine.1 []
def ms2 (p : Pr) (k : Int) : By := signedF p.K.c.1 2 k p.his.1 []
def ms3 (p : Pr) (k : Int) : By := signedF p.K.c.1 3 k p.mine.1 (wrapF p.K.w.1 3 k p.mine.1 p.gid p.gkey.1)
def ms4 (p : Pr) (k : Int) : By := signedF p.K.c.1 4 k (zv 16).1 []
theorem ms1_len (p : Pr) (k : Int) : (ms1 p k).length = 43 := signedF_len _ _ _ _ _ p.mine.2
theorem keys_A (p : Pr) (s : Fw) (h1 : s.master = p.master) (h2 : s.own = p.one) (h3 : s.peer = p.two) (h4 : s.mine = p.mine) : keysF s p.his = p.K := by unfold keysF Pr.K; rw [h1, h2, h3, h4]
theorem keys_S {p : Pr} (hm : p.otherK = p.master) (s : Fw) (h1 : s.master = p.otherK) (h2 : s.own = p.two) (h3 : s.peer = p.one) (h4 : s.mine = p.his) : keysF s p.mine = p.K := by unfold keysF Pr.K; rw [h1, h2, h3, h4, hm, pairF_swap]
def DueOk (d : Int) : Prop := 1 ≤ d ∧ d ≤ 1099511727776
theorem goodA1 {p : Pr} (h : p.Ok) {k d : Int} (k1 : 1 ≤ k) (k4 : k ≤ 4) (hd : DueOk d) : GoodA (stA1 p k d) := ⟨rfl, h.ne, rfl, h.gid, .inr (.inl ⟨rfl, rfl, k1, k4, hd.1, hd.2, rfl, rfl⟩)⟩
theorem goodA3 {p : Pr} (h : p.Ok) {k t d : Int} (k1 : 1 ≤ k) (kt : k ≤ 4 + t) (t1 : 1 ≤ t) (t4 : t ≤ 4) (hd : DueOk d) : GoodA (stA3 p k t d) :=
 ⟨rfl, h.ne, rfl, h.gid, .inr (.inr (.inl ⟨rfl, kt, k1, t1, t4, hd.1, hd.2, (keys_A p (stA3 p k t d) rfl rfl rfl rfl).symm⟩))⟩
theorem goodS2 {p : Pr} (h : p.Ok) (hm : p.otherK = p.master) : GoodS (stS2 p) := ⟨rfl, fun e => h.ne e.symm, rfl, rfl, rfl, .inr (.inl ⟨rfl, rfl, rfl, rfl, (keys_S hm (stS2 p) rfl rfl rfl rfl).symm⟩)⟩
def NowOk (n : Int) : Prop := 0 ≤ n ∧ n ≤ 1099511627776
theorem NowOk.due {n : Int} (h : NowOk n) : DueOk (n + 100000) := by unfold NowOk at h; unfold DueOk; omega
theorem GoodA.now {s : Fw} (h : GoodA s) {n : Int} (hn : NowOk n) : checkedF s n = 0 := checked_yes h.check hn.1 hn.2
theorem GoodS.now {s : Fw} (h : GoodS s) {n : Int} (hn : NowOk n) : checkedF s n = 0 := checked_yes h.check hn.1 hn.2
theorem st_start {p : Pr} (h : p.Ok) {n : Int} (hn : NowOk n) : startF (stA0 p) n = (stA1 p 1 (n + 100000), [ms1 p 1], 0) := startF_yes ((goodA0 h).now hn) rfl rfl
theorem parse_ms1 (p : Pr) {k : Int} (k0 : 0 ≤ k) (k8 : k ≤ 8) : parseE (ms1 p k) = 0 := parse_signed _ 1 k p.mine [] (by decide) (by decide) k0 (by omega) rfl (by intro q; exact absurd q (by decide))
theorem parse_ms2 (p : Pr) {k : Int} (k0 : 0 ≤ k) (k8 : k ≤ 8) : parseE (ms2 p k) = 0 := parse_signed _ 2 k p.his [] (by decide) (by decide) k0 (by omega) rfl (by intro q; exact absurd q (by decide))
theorem parse_ms3 (p : Pr) {k : Int} (k0 : 0 ≤ k) (k8 : k ≤ 8) : parseE (ms3 p k) = 0 := parse_signed _ 3 k p.mine _ (by decide) (by decide) k0 (by omega) (by rw [wrapF_len]; rfl) (by intro q; exact absurd q (by decide))
theorem parse_ms4 (p : Pr) {k : Int} (k0 : 0 ≤ k) (k8 : k ≤ 8) : parseE (ms4 p k) = 0 := parse_signed _ 4 k (zv 16) [] (by decide) (by decide) k0 (by omega) rfl (fun _ => rfl)
theorem kind_ms1 (p : Pr) (k : Int) : kindP (ms1 p k) = 1 := kind_signed _ _ _ _ _ (by decide) (by decide)
theorem kind_ms2 (p : Pr) (k : Int) : kindP (ms2 p k) = 2 := kind_signed _ _ _ _ _ (by decide) (by decide)
theorem kind_ms3 (p : Pr) (k : Int) : kindP (ms3 p k) = 3 := kind_signed _ _ _ _ _ (by decide) (by decide)
theorem kind_ms4 (p : Pr) (k : Int) : kindP (ms4 p k) = 4 := kind_signed _ _ _ _ _ (by decide) (by decide)
theorem count_ms1 (p : Pr) {k : Int} (k0 : 0 ≤ k) (k8 : k ≤ 8) : countP (ms1 p k) = k := count_signed _ _ _ _ _ k0 (by omega)
theorem count_ms2 (p : Pr) {k : Int} (k0 : 0 ≤ k) (k8 : k ≤ 8) : countP (ms2 p k) = k := count_signed _ _ _ _ _ k0 (by omega)
theorem count_ms3 (p : Pr) {k : Int} (k0 : 0 ≤ k) (k8 : k ≤ 8) : countP (ms3 p k) = k := count_signed _ _ _ _ _ k0 (by omega)
theorem count_ms4 (p : Pr) {k : Int} (k0 : 0 ≤ k) (k8 : k ≤ 8) : countP (ms4 p k) = k := count_signed _ _ _ _ _ k0 (by omega)
theorem nonce_ms1 (p : Pr) (k : Int) : nonceP (ms1 p k) = p.mine := nonce_signed _ _ _ _ _
theorem nonce_ms2 (p : Pr) (k : Int) : nonceP (ms2 p k) = p.his := nonce_signed _ _ _ _ _
theorem nonce_ms3 (p : Pr) (k : Int) : nonceP (ms3 p k) = p.mine := nonce_signed _ _ _ _ _
theorem st_first {p : Pr} (hm : p.otherK = p.master) {s : Fw} (hs : s = stS0 p ∨ s = stS2 p) (hg : GoodS s) {k n : Int} (k0 : 0 ≤ k) (k8 : k ≤ 8) (hn : NowOk n) : handleF s (ms1 p k) n = (stS2 p, [ms2 p k], 0) := by
 have hst : s.stage = 0 ∨ s.stage = 2 := by rcases hs with rfl | rfl; exact .inl rfl; exact .inr rfl
 have hid : s.master = p.otherK ∧ s.own = p.two ∧ s.peer = p.one ∧ s.mine = p.his := by rcases hs with rfl | rfl <;> exact ⟨rfl, rfl, rfl, rfl⟩
 rw [handleF_1 (hg.now hn) (parse_ms1 p k0 k8) hg.role hst (kind_ms1 p k)]
 unfold firstF Fw.first
 rw [nonce_ms1, count_ms1 p k0 k8, keys_S hm s hid.1 hid.2.1 hid.2.2.1 hid.2.2.2, hid.2.2.2]
 rcases hs with rfl | rfl <;> rfl
theorem st_second {p : Pr} (h : p.Ok) {k d n : Int} (k1 : 1 ≤ k) (k4 : k ≤ 4) (hd : DueOk d) (hn : NowOk n) : handleF (stA1 p k d) (ms2 p k) n = (stA3 p (k + 1) 1 (n + 100000), [ms3 p (k + 1)], 0) := by
 have hk : keysF (stA1 p k d) p.his = p.K := keys_A p _ rfl rfl rfl rfl
 rw [handleF_2 ((goodA1 h k1 k4 hd).now hn) (parse_ms2 p (by omega) (by omega)) rfl rfl (kind_ms2 p k) (count_ms2 p (by omega) (by omega)) (by rw [nonce_ms2, hk]; exact right_signed _ _ _ _ _ (by decide) (by decide) (by omega) (by omega))]
 unfold Fw.second
 rw [nonce_ms2, hk]
 rfl
theorem st_third {p : Pr} (h : p.Ok) (hm : p.otherK = p.master) {s : Fw} {j : Int} (hs : s = stS2 p ∧ j = 0 ∨ s = stS4 p j) (hg : GoodS s) {k n : Int} (hj : j < k) (k0 : 0 ≤ k) (k8 : k ≤ 8) (hn : NowOk n) : handleF s (ms3 p k) n = (stS4 p k, [ms4 p k], 0) := by
 have hst : s.stage = 2 ∨ s.stage = 4 := by rcases hs with ⟨rfl, _⟩ | rfl; exact .inl rfl; exact .inr rfl
 have hid : s.master = p.otherK ∧ s.own = p.two ∧ s.peer = p.one ∧ s.mine = p.his ∧ s.other = p.mine := by rcases hs with ⟨rfl, _⟩ | rfl <;> exact ⟨rfl, rfl, rfl, rfl, rfl⟩
 have hr : s.replay = j := by rcases hs with ⟨rfl, rfl⟩ | rfl <;> rfl
 have hk : keysF s p.mine = p.K := keys_S hm s hid.1 hid.2.1 hid.2.2.1 hid.2.2.2.1
 have ho : openG (ms3 p k) (keysF s (nonceP (ms3 p k))).w.1 = some (p.gid, p.gkey) := by
  unfold openG
  rw [nonce_ms3, hk, kind_ms3, count_ms3 p k0 k8]
  show openM _ _ _ _ (dataP (signedF _ _ _ _ _)) = _
  rw [data_signed _ _ _ _ _ p.mine.2]
  exact open_wrap _ _ _ _ _ _ h.gid
 rw [handleF_3 (hg.now hn) (parse_ms3 p k0 k8) hg.role hst (kind_ms3 p k) (by rw [count_ms3 p k0 k8, hr]; exact hj) (fun _ => by rw [nonce_ms3, hid.2.2.2.2]) (by rw [nonce_ms3, hk]; exact right_signed _ _ _ _ _ (by decide) (by decide) (by omega) (by omega)) ho]
 rw [nonce_ms3, hk, count_ms3 p k0 k8]
 have e : s.third (ms3 p k) (p.gid, p.gkey) = stS4 p k := by
  unfold Fw.third
  rw [nonce_ms3, hk, count_ms3 p k0 k8]
  rcases hs with ⟨rfl, _⟩ | rfl
  ·rw [if_neg (show ¬ (stS2 p).stage = 4 from fun q => absurd (show (2 : Int) = 4 from q) (by decide))]; rfl
  ·rw [if_pos (show (stS4 p j).stage = 4 from rfl)]; rfl
 rw [e]; rfl
theorem st_fourth {p : Pr} (h : p.Ok) {k t d n : Int} (k1 : 1 ≤ k) (kt : k ≤ 4 + t) (t1 : 1 ≤ t) (t4 : t ≤ 4) (hd : DueOk d) (hn : NowOk n) : handleF (stA3 p k t d) (ms4 p k) n = (stA4 p k, [], 0) := by
 rw [handleF_4 ((goodA3 h k1 kt t1 t4 hd).now hn) (parse_ms4 p (by omega) (by omega)) rfl rfl (kind_ms4 p k) (count_ms4 p (by omega) (by omega)) (right_signed _ _ _ _ _ (by decide) (by decide) (by omega) (by omega))]
 rfl
end Go.Proofs.Ytibncchobkaaiaa
namespace Go.Proofs.Ytibncchobkaaiaa
open Go.RowKit
theorem sides_okC {p : Pr} (h : p.Ok) (w : World) : Calls Try.prog 25 #[.agg (cat (partsP p)).toArray] w fun e w' => e = .returned (.tuple #[.agg (cat (parts2 (stA0 p, stS0 p))).toArray, .bool true]) ∧ Ext w w' := by
 refine (sides_any p w).mono ?_
 rintro e w' ⟨rfl, hx⟩
 have hb : sidesB p = true := by unfold sidesB; rw [(ok_sidesB h).1, (ok_sidesB h).2]; rfl
 rw [sidesF_eq h, hb]
 exact ⟨rfl, hx⟩
theorem start_okC {p : Pr} (h : p.Ok) {n : Int} (hn : NowOk n) (w : World) : Calls Try.prog 10 #[.agg (cat (partsF (stA0 p))).toArray, .int .i64 n] w (ResR (stA1 p 1 (n + 100000), [ms1 p 1], 0) w) := by
 have := start_any (stA0 p) n w
 rwa [st_start h hn] at this
theorem pass_ok {p : Pr} (h : p.Ok) (hm : p.otherK = p.master) : passF 0 10 (stA1 p 1 100000, stS0 p) [ms1 p 1] 1 = ((stA4 p 2, stS4 p 2), true) := by
 have n0 : NowOk 0 := by unfold NowOk; omega
 have d0 : DueOk 100000 := by unfold DueOk; omega
 have e1 := st_first hm (.inl rfl) (goodS0 h) (k := 1) (by decide) (by decide) n0
 have e2 := st_second h (k := 1) (by decide) (by decide) d0 n0
 have e3 := st_third h hm (.inl ⟨rfl, rfl⟩) (goodS2 h hm) (k := 2) (by decide) (by decide) (by decide) n0
 have e4 := st_fourth h (k := 2) (t := 1) (by decide) (by decide) (by decide) (by decide) d0 n0
 simp only [passF, atS, putS, e1, e2, e3, e4, show (1 : Int) - 1 = 0 from rfl, show (1 : Int) - 0 = 1 from rfl, show (0 : Int) + 100000 = 100000 from rfl, show (1 : Int) + 1 = 2 from rfl, if_true, ne_eq, not_true_eq_false, if_false, show ¬ (0 : Int) = 1 from by decide]
theorem pas_okC {p : Pr} (h : p.Ok) (hm : p.otherK = p.master) (v : Value) (w : World) (hv : ∃ B, SlBB B w v [ms1 p 1]) : Calls Try.prog 45 #[.agg (cat (parts2 (stA1 p 1 100000, stS0 p))).toArray, v, .int .i64 1, .int .i64 0] w (PasR ((stA4 p 2, stS4 p 2), true) w) := by
 have := passed_any (stA1 p 1 100000, stS0 p) [ms1 p 1] 1 0 (.inr rfl) (by intro m hm'; obtain rfl := List.mem_singleton.1 hm'; rw [ms1_len]; decide) v w hv
 rwa [pass_ok h hm] at this
theorem tog_okC (p : Pr) (k : Int) (w : World) : Calls Try.prog 28 #[.agg (cat (parts2 (stA4 p k, stS4 p k))).toArray] w fun e w' => e = .returned (.bool true) ∧ Ext w w' :=
 together_yes (stA4 p k) (stS4 p k) p.K p.gid p.gkey p.mine p.his w
set_option maxRecDepth 4000 in
set_option maxHeartbeats 1600000 in
theorem alive_any (w : World) : Calls Try.prog 26 #[] w fun e w' => e = .returned (.bool true) ∧ Ext w w' := by
 have H := kp (Loc.start w)
 have HK := kp sample_ok
 have HM := kp (show sampleP.otherK = sampleP.master from rfl)
 have HS := kp sample_any
 generalize sampleP = p at *
 have C2 := kp (sides_okC HK.out)
 have C3 := kp (show ∀ w, Calls Try.prog 10 #[.agg (cat (partsF (stA0 p))).toArray, .int .i64 0] w (ResR (stA1 p 1 100000, [ms1 p 1], 0) w) from start_okC HK.out (n := 0) (by unfold NowOk; omega))
 have C4 := kp (pas_okC HK.out HM.out)
 have C5 := kp (tog_okC p 2)
 go_enter Try.func26, Try.ntmps26
 generalize h5 : (Code.region 5 _ _ : Code) = R5
 generalize h6 : (Code.region 6 _ _ : Code) = R6
 go_wp2_with (first | ((with_reducible show wpList _ _ _ (Oper.mk (some 1) (Op.alloc 55) _ _ _ _ :: _) _ _); (refine L_alloc H rfl 55 rfl (cat (parts2 (fw0, fw0))) (fun _ _ => by kernel_rfl) ?_); clear H; intro g1 w1 HGg1 HEg1 H; simp only [Act.put, sbA, szA, ssA]) | ((with_reducible refine isSt 55 ?_); refine L_sa H rfl rfl 55 _ _ rfl 0 rfl rfl (parts2 (stA0 p, stS0 p)) rfl rfl (by kernel_rfl) ?_; clear H; intro wb HWwb H; simp only [szA] at H) | ((with_reducible show wpList _ _ _ (Oper.mk (some 3) (Op.alloc 32) _ _ _ _ :: _) _ _); (refine L_alloc H rfl 32 rfl (cat (partsF fw0)) (fun _ _ => by kernel_rfl) ?_); clear H; intro g3 w3 HGg3 HEg3 H; simp only [Act.put, sbA, szA, ssA]) | ((with_reducible refine isSt 32 ?_); refine L_sa H rfl rfl 32 _ _ rfl 0 rfl rfl (partsF (stA1 p 1 100000)) rfl rfl (by kernel_rfl) ?_; clear H; intro wd HWwd H; simp only [szA] at H) | ((with_reducible refine isLd 32 ?_); refine L_fg H rfl 32 _ rfl 0 rfl _ rfl _ rfl (partsF (stA0 p)) rfl Try.underlying32 rfl (by kernel_rfl) ?_; simp only [Act.put, sbA, szA, ssA]) | (go_at_call 24; refine (HS.out _).mono ?_; rintro e wa ⟨rfl, hx⟩; have H2 := kp (H.out.ext hx); have HXC := kp hx; clear H hx; have H := H2; clear H2) | (go_at_call 25; refine (C2.out _).mono ?_; rintro e wa ⟨rfl, hx⟩; have H2 := kp (H.out.ext hx); have HXC := kp hx; clear H hx; have H := H2; clear H2) | (go_at_call 10; have HL1 := kp (H.out.lt 0 rfl); refine (C3.out _).mono ?_; rintro e wa ⟨v, rfl, hs, hx⟩; have HSA := kp hs; clear hs; have H2 := kp (H.out.ext hx); have HXC := kp hx; clear H hx; have H := H2; clear H2))
 subst h5
 go_wp2_with (first | ((with_reducible refine isLd 32 ?_); refine L_fa H rfl 32 _ rfl 0 rfl rfl Try.underlying32 rfl (by kernel_rfl) ?_; simp only [Act.put, sbA, szA, ssA]) | ((with_reducible refine isSt 32 ?_); refine L_sg H rfl rfl 32 _ _ rfl 1 rfl _ rfl _ rfl 16 (partsF (stA1 p 1 100000)) rfl (by kernel_rfl) (by kernel_rfl) (parts2 (stA1 p 1 100000, stS0 p)) (by kernel_rfl) ?_; clear H; intro we HWwe H; simp only [ssA, szA] at H))
 have hsl := (HSA.out.past HEg3.out HWwd.out (Nat.le_of_eq HGg3.out.symm)).out HWwe.out.out (by intro x hx; rcases List.mem_singleton.1 hx with rfl; exact HL1.out)
 have HSV := kp (show ∃ B, SlBB B we v [ms1 p 1] from ⟨_, hsl⟩)
 obtain ⟨b, c, u, hv, hc, ho⟩ := hsl.first
 obtain rfl : v = .slice (some ⟨b, 0, none⟩) 1 c := hv
 obtain ⟨ma, mc, rfl⟩ := owns_form ho
 rw [ms1_len] at hc
 have HC6 := kp (C4.out _ _ HSV.out)
 clear hsl ho HSA
 subst h6
 go_wp2_with (first | ((with_reducible refine isLd 55 ?_); refine L_fa H rfl 55 _ rfl 1 rfl rfl Try.underlying55 rfl (by kernel_rfl) ?_; simp only [Act.put, sbA, szA, ssA]) | ((with_reducible refine isSt 55 ?_); refine L_sa H rfl rfl 55 _ _ rfl 1 rfl rfl (parts2 (stA4 p 2, stS4 p 2)) rfl rfl (by kernel_rfl) ?_; clear H; intro wf HWwf H; simp only [ssA, szA] at H) | (go_at_call 45; refine HC6.out.mono ?_; rintro e wa ⟨rfl, hx⟩; have H2 := kp (H.out.ext hx); have HXC := kp hx; clear H hx; have H := H2; clear H2) | (go_at_call 28; refine (C5.out _).mono ?_; rintro e wa ⟨rfl, hx⟩; have H2 := kp (H.out.ext hx); have HXC := kp hx; clear H hx; have H := H2; clear H2) | ((with_reducible refine isLd 3 ?_); (refine L_f1 H rfl 3 _ rfl 1 rfl _ rfl _ rfl _ rfl Try.underlying3 rfl ?_); simp only [Act.put, sbA, szA, ssA]))
 go_ret
 exact ⟨rfl, H.out.1⟩
end Go.Proofs.Ytibncchobkaaiaa
namespace Go.Proofs.Ytibncchobkaaiaa
open Go.RowKit
end Go.Proofs.Ytibncchobkaaiaa
namespace Go.Proofs.Ytibncchobkaaiaa
open Go.RowKit
theorem SlB.chg {w w' : World} {v : Value} {l : By} (h : SlB w v l) (hc : Chg w.heap.size w w') : SlB w' v l := by
 rcases h with h | ⟨b, o, c, e, hb, hh⟩
 ·exact .inl h
 ·exact .inr ⟨b, o, c, e, Nat.lt_of_lt_of_le hb hc.1, fun j x hj => (hc.cell hb).trans (hh j x hj)⟩
def OneM (w : World) (b : Nat) (u : Value) (m : By) : Prop := b < w.heap.size ∧ w.cell? ⟨b, 0, none⟩ = some u ∧ SlB w u m
theorem OneM.chg {w w' : World} {b : Nat} {u : Value} {m : By} (h : OneM w b u m) (hc : Chg w.heap.size w w') : OneM w' b u m :=
 ⟨Nat.lt_of_lt_of_le h.1 hc.1, (hc.cell h.1).trans h.2.1, h.2.2.chg hc⟩
theorem OneM.of {B : Nat} {w : World} {v : Value} {m : By} {ls : List By} (h : SlBB B w v (m :: ls)) : ∃ b c u, v = .slice (some ⟨b, 0, none⟩) (m :: ls).length c ∧ OneM w b u m := by
 obtain ⟨b, c, u, rfl, hc, ho⟩ := h.first
 exact ⟨b, c, u, rfl, owns_blk h, hc, SlB.of_owns ho⟩
theorem Chg.past {lo g : Nat} {a b c d : World} (h : Chg lo a b) (hx : Ext b c) (hw : Wrote c d g) (hg : lo ≤ g) : Chg lo a d := (h.ext hx).wrote hw hg
theorem SlT.form {α : Type} {sz : Nat} {f : α → List Value} {w : World} {v : Value} {xs : List α} (h : SlT sz f w v xs) : ∃ ad c, v = .slice ad xs.length c := by
 obtain ⟨ad, n, c, rfl, rfl, _, _⟩ := h
 exact ⟨ad, c, rfl⟩
end Go.Proofs.Ytibncchobkaaiaa
