/- Texts of this proof, put together: Rd3, Dec. -/
import Derived.Test.YtfecopfofkdnpaaS14
import Derived.Test.YtfecopfofkdnpaaS1
namespace Go.Proofs.Ytfecopfofkdnpaa
open Go.RowKit
def elE (b : By) (p : Nat) (e : Int) : Int := if e = 0 then elemE (b.drop p) else e
def ElsR (ad : Option Addr) (n c : Nat) (b : By) (p : Nat) (e : Int) (g : Nat) (w0 : World) (rest : List Bk) (en : Ending) (w' : World) : Prop :=
 ∃ a k q, en = .returned (.slice a k q) ∧ Loc w0 w' ((g, 155, cat (partsR ad n c p (elE b p e))) :: rest)
set_option maxHeartbeats 1600000 in
theorem relements_any (ad : Option Addr) (n c : Nat) (b : By) (hb : n ≤ 100000) (hcap : n ≤ c) (p : Nat) (hp : p ≤ n) (e : Int) (g : Nat) (w0 w : World) (rest : List Bk) (H : Kp (Loc w0 w ((g, 155, cat (partsR ad n c p e)) :: rest))) (hs : SlB w0 (.slice ad n c) b) :
  Calls Try.prog 60 #[.pointer (some ⟨g, 0, none⟩)] w (ElsR ad n c b p e g w0 rest) := by
 have HS := kp hs
 have HN := kp hs.len
 by_cases he : e = 0
 ·subst he
  have HDR := kp (show n - p ≤ c - p by omega)
  have HSC := kp (fun (W : World) (h : Ext w0 W) => show SlB W (.slice (cutA ad p c 1) (n - p) (c - p)) (b.drop p) from by
   have h1 := (HS.out.ext h).cut hcap p n hp (Nat.le_refl _)
   rwa [List.take_of_length_le (by rw [← HN.out]; exact Nat.le_refl _)] at h1)
  have HDC := kp (fun w hs => decode_any (cutA ad p c 1) (n - p) (c - p) (b.drop p) (by have := HN.out; simp; omega) HDR.out w hs)
  have HEX := kp H.out.1
  have HF := kp (show elE b p 0 = elemE (b.drop p) from rfl)
  clear hs
  go_enter Try.func60, Try.ntmps60
  generalize h3 : (Code.region 3 _ _ : Code) = R3
  go_wp2_with ((with_reducible refine isLd 33 ?_); (refine L_f1 H rfl 33 _ rfl 0 rfl _ rfl _ rfl _ rfl Try.underlying33 rfl ?_); simp only [pA])
  subst h3
  refine region_free H (tabS [(11, fun vQ _ => vQ = .pointer (some ⟨g, 0, none⟩)), (12, fun vQ _ => vQ = .pointer (some ⟨g, 0, none⟩)), (13, fun vQ _ => vQ = .pointer (some ⟨g, 0, none⟩)), (14, fun vQ _ => vQ = .pointer (some ⟨g, 0, none⟩)), (15, fun vQ _ => vQ = .slice ad n c), (16, fun vQ _ => vQ = .pointer (some ⟨g, 0, none⟩)), (17, fun vQ _ => vQ = .pointer (some ⟨g, 0, none⟩)), (18, fun vQ _ => vQ = .pointer (some ⟨g, 0, none⟩)), (19, fun vQ _ => vQ = .pointer (some ⟨g, 1, none⟩)), (20, fun vQ _ => vQ = .int .i64 p), (21, fun vQ _ => vQ = .slice (cutA ad p c 1) (n - p) (c - p)), (22, fun vQ _ => ∃ a k q, vQ = .tuple #[.slice a k q, .int .i64 (elemE (b.drop p))]), (10, fun vQ _ => ∃ a k q, vQ = .tuple #[.slice a k q, .int .i64 (elemE (b.drop p))]), (23, fun vQ _ => ∃ a k q, vQ = .slice a k q), (24, fun vQ _ => vQ = .int .i64 (elemE (b.drop p))), (3, fun vQ _ => ∃ a k q, vQ = .slice a k q), (4, fun vQ _ => vQ = .int .i64 (elemE (b.drop p)))]) [] (tabS_out _ _ (by simp only [List.forall_mem_cons, mono_eqO, true_and]; exact ⟨(fun _ _ _ h _ => h), (fun _ _ _ h _ => h), (fun _ _ _ h _ => h), (fun _ _ _ h _ => h), by simp⟩)) 17 (by kernel_rfl) (by kernel_rfl) (by kernel_rfl) (by kernel_rfl) [] [] rfl rfl (by decide) (by decide) (by decide) trivial ?_
  simp only [List.take_succ_cons, List.take_zero]
  refine ⟨fun w_ o_ S_ => ?_, fun v11 => ?_⟩
  ·clear S_
   clear o_
   go_wp2_with fail
   exact kso
  simp only [pA]
  refine ⟨fun w_ o_ S_ => ?_, fun v12 => ?_⟩
  ·obtain rfl : v11 = .pointer (some ⟨g, 0, none⟩) := hsR S_ 11 rfl
   clear S_
   have H := kp (kK [0] H o_)
   have HOX := kp o_
   clear o_
   go_wp2_with fail
   exact kso
  simp only [pA]
  refine ⟨fun w_ o_ S_ => ?_, fun v13 => ?_⟩
  ·obtain rfl : v12 = .pointer (some ⟨g, 0, none⟩) := hsR S_ 12 rfl
   clear S_ o_
   go_wp2_with fail
   exact kso
  simp only [pA]
  refine ⟨fun w_ o_ S_ => ?_, fun v14 => ?_⟩
  ·obtain rfl : v13 = .pointer (some ⟨g, 0, none⟩) := hsR S_ 13 rfl
   clear S_ o_
   go_wp2_with fail
   exact kso
  simp only [pA]
  refine ⟨fun w_ o_ S_ => ?_, fun v15 => ?_⟩
  ·obtain rfl : v14 = .pointer (some ⟨g, 0, none⟩) := hsR S_ 14 rfl
   clear S_
   have H := kp (kK [0] H o_)
   have HOX := kp o_
   clear o_
   go_wp2_with ((with_reducible refine isLd 29 ?_); (refine L_f1 H rfl 29 _ rfl 0 rfl _ rfl _ rfl _ rfl Try.underlying29 rfl ?_); simp only [pA])
   exact kso
  simp only [pA]
  refine ⟨fun w_ o_ S_ => ?_, fun v16 => ?_⟩
  ·clear S_
   clear o_
   go_wp2_with fail
   exact kso
  simp only [pA]
  refine ⟨fun w_ o_ S_ => ?_, fun v17 => ?_⟩
  ·obtain rfl : v16 = .pointer (some ⟨g, 0, none⟩) := hsR S_ 16 rfl
   clear S_
   have H := kp (kK [0] H o_)
   have HOX := kp o_
   clear o_
   go_wp2_with fail
   exact kso
  simp only [pA]
  refine ⟨fun w_ o_ S_ => ?_, fun v18 => ?_⟩
  ·obtain rfl : v17 = .pointer (some ⟨g, 0, none⟩) := hsR S_ 17 rfl
   clear S_ o_
   go_wp2_with fail
   exact kso
  simp only [pA]
  refine ⟨fun w_ o_ S_ => ?_, fun v19 => ?_⟩
  ·obtain rfl : v18 = .pointer (some ⟨g, 0, none⟩) := hsR S_ 18 rfl
   clear S_ o_
   go_wp2_with fail
   exact kso
  simp only [pA]
  refine ⟨fun w_ o_ S_ => ?_, fun v20 => ?_⟩
  ·obtain rfl : v19 = .pointer (some ⟨g, 1, none⟩) := hsR S_ 19 rfl
   clear S_
   have H := kp (kK [0] H o_)
   have HOX := kp o_
   clear o_
   go_wp2_with ((with_reducible refine isLd 3 ?_); (refine L_f1 H rfl 3 _ rfl 0 rfl _ rfl _ rfl _ rfl Try.underlying3 rfl ?_); simp only [pA])
   exact kso
  simp only [pA]
  refine ⟨fun w_ o_ S_ => ?_, fun v21 => ?_⟩
  ·obtain rfl : v15 = .slice ad n c := hsR S_ 15 rfl
   obtain rfl : v20 = .int .i64 p := hsR S_ 20 rfl
   clear S_
   have H := kp (kK [0] H o_)
   have HOX := kp o_
   clear o_
   go_wp2_with ((with_reducible show wpList _ _ _ (Oper.mk _ (Op.slice 29 _ _ _ _) _ _ _ _ :: _) _ _); (refine L_cut (by kernel_rfl) 29 _ _ _ _ rfl _ _ _ _ _ rfl rfl rfl rfl (run_cutL _ Try.underlying29 (sizeU8q) _ _ _ (p) (hp)) ?_); simp only [pA])
   exact kso
  simp only [pA]
  refine ⟨fun w_ o_ S_ => ?_, fun v22 => ?_⟩
  ·obtain rfl : v21 = .slice (cutA ad p c 1) (n - p) (c - p) := hsR S_ 21 rfl
   clear S_
   have H := kp (kK [0] H o_)
   have HOX := kp o_
   clear o_
   go_wp2_with fail
   refine (HDC.out _ (HSC.out _ H.out.1)).mono ?_
   rintro e w2 ⟨a, k, q, rfl, hx⟩
   have HXW := kp hx
   clear hx
   go_wp2_with fail
   exact ⟨rfl, _, rfl, fun d hd => by cases hd; exact ⟨a, k, q, rfl⟩, HXW.out⟩
  simp only [pA]
  refine ⟨fun w_ o_ S_ => ?_, fun v10 => ?_⟩
  ·have h22 := kp (show ∃ a k q, v22 = .tuple #[.slice a k q, .int .i64 (elemE (b.drop p))] from hsR S_ 22 rfl)
   clear S_ o_
   go_wp2_with fail
   exact ⟨rfl, _, rfl, fun d hd => by cases hd; exact h22.out, Ext.refl _⟩
  simp only [pA]
  refine ⟨fun w_ o_ S_ => ?_, fun v23 => ?_⟩
  ·have h10 := kp (show ∃ a k q, v10 = .tuple #[.slice a k q, .int .i64 (elemE (b.drop p))] from hsR S_ 10 rfl)
   clear S_
   have H := kp (kK [0] H o_)
   have HOX := kp o_
   clear o_
   obtain ⟨a, k, q, rfl⟩ := h10.out
   go_wp2_with fail
   exact ⟨rfl, _, rfl, fun d hd => by cases hd; exact ⟨a, k, q, rfl⟩, Ext.refl _⟩
  simp only [pA]
  refine ⟨fun w_ o_ S_ => ?_, fun v24 => ?_⟩
  ·have h10 := kp (show ∃ a k q, v10 = .tuple #[.slice a k q, .int .i64 (elemE (b.drop p))] from hsR S_ 10 rfl)
   clear S_
   have H := kp (kK [0] H o_)
   have HOX := kp o_
   clear o_
   obtain ⟨a, k, q, rfl⟩ := h10.out
   go_wp2_with fail
   exact kso
  simp only [pA]
  refine ⟨fun w_ o_ S_ => ?_, fun v3 => ?_⟩
  ·have h23 := kp (show ∃ a k q, v23 = .slice a k q from hsR S_ 23 rfl)
   clear S_ o_
   go_wp2_with fail
   exact ⟨rfl, _, rfl, fun d hd => by cases hd; exact h23.out, Ext.refl _⟩
  simp only [pA]
  refine ⟨fun w_ o_ S_ => ?_, fun v4 => ?_⟩
  ·obtain rfl : v24 = .int .i64 (elemE (b.drop p)) := hsR S_ 24 rfl
   clear S_ o_
   go_wp2_with fail
   exact kso
  simp only [pA]
  clear H
  intro wn HOX H hfin
  obtain rfl : v11 = .pointer (some ⟨g, 0, none⟩) := hfin 11 (by decide)
  obtain rfl : v12 = .pointer (some ⟨g, 0, none⟩) := hfin 12 (by decide)
  obtain rfl : v13 = .pointer (some ⟨g, 0, none⟩) := hfin 13 (by decide)
  obtain rfl : v14 = .pointer (some ⟨g, 0, none⟩) := hfin 14 (by decide)
  obtain rfl : v15 = .slice ad n c := hfin 15 (by decide)
  obtain rfl : v16 = .pointer (some ⟨g, 0, none⟩) := hfin 16 (by decide)
  obtain rfl : v17 = .pointer (some ⟨g, 0, none⟩) := hfin 17 (by decide)
  obtain rfl : v18 = .pointer (some ⟨g, 0, none⟩) := hfin 18 (by decide)
  obtain rfl : v19 = .pointer (some ⟨g, 1, none⟩) := hfin 19 (by decide)
  obtain rfl : v20 = .int .i64 p := hfin 20 (by decide)
  obtain rfl : v21 = .slice (cutA ad p c 1) (n - p) (c - p) := hfin 21 (by decide)
  have F22 := kp (show ∃ a k q, v22 = .tuple #[.slice a k q, .int .i64 (elemE (b.drop p))] from hfin 22 (by decide))
  have F10 := kp (show ∃ a k q, v10 = .tuple #[.slice a k q, .int .i64 (elemE (b.drop p))] from hfin 10 (by decide))
  have F23 := kp (show ∃ a k q, v23 = .slice a k q from hfin 23 (by decide))
  obtain rfl : v24 = .int .i64 (elemE (b.drop p)) := hfin 24 (by decide)
  have F3 := kp (show ∃ a k q, v3 = .slice a k q from hfin 3 (by decide))
  obtain rfl : v4 = .int .i64 (elemE (b.drop p)) := hfin 4 (by decide)
  clear hfin
  simp only [List.drop_succ_cons, List.drop_zero]
  simp only [applyS] at H
  have HXN := kp (HOX.out.ext (Ext.refl w) (fun g hg => by cases hg))
  obtain ⟨a, k, q, rfl⟩ := F3.out
  go_wp2_with ((with_reducible refine isSt 33 ?_); (refine L_s1 H rfl rfl 33 _ _ rfl 0 rfl _ rfl _ rfl _ rfl rfl rfl rfl (by kernel_rfl) (partsR ad n c p (elemE (b.drop p))) rfl ?_; clear H; intro wz HWwz H; simp only [szA] at H))
  go_ret
  exact ⟨a, k, q, rfl, by rw [HF.out]; exact H.out⟩
 ·have HF := kp (show elE b p e = e from if_neg he)
  have he2 : (e == 0) = false := by simpa using he
  clear he hs
  go_enter Try.func60, Try.ntmps60
  go_wp2_with ((with_reducible refine isLd 33 ?_); (refine L_f1 H rfl 33 _ rfl 0 rfl _ rfl _ rfl _ rfl Try.underlying33 rfl ?_); simp only [pA])
  go_ret
  exact ⟨none, 0, 0, rfl, by rw [HF.out]; exact H.out⟩
def readE (n : Nat) : Int := if 2304 < n then 11 else 0
def ReadR (ad : Option Addr) (n c : Nat) (w : World) (en : Ending) (w' : World) : Prop := ∃ g, en = .returned (.pointer (some ⟨g, 0, none⟩)) ∧ Loc w w' [(g, 155, cat (partsR ad n c ((0 : Nat) : Int) (readE n)))]
theorem build_rd (ad : Option Addr) (n c : Nat) (w : World) : (Instr.build 153 #[(0, .slice ad n c)]).run Try.prog w = .ok (.agg (cat (partsRd ad n c 0)).toArray) w := by kernel_rfl
theorem build_br (ad : Option Addr) (n c : Nat) (w : World) : (Instr.build 155 #[(0, .agg (cat (partsRd ad n c 0)).toArray)]).run Try.prog w = .ok (.agg (cat (partsR ad n c 0 0)).toArray) w := by kernel_rfl
set_option maxHeartbeats 1600000 in
theorem read_any (ad : Option Addr) (n c : Nat) (w : World) :
  Calls Try.prog 58 #[.slice ad n c] w (ReadR ad n c w) := by
 have H := kp (Loc.start w)
 by_cases hn : 2304 < n
 ·have HF := kp (show readE n = 11 from if_pos hn)
  have hn2 : (2304 : Int) < (n : Int) := by omega
  go_enter Try.func58, Try.ntmps58
  go_wp2_with (first | ((with_reducible show wpList _ _ _ (Oper.mk (some 5) (Op.build 153 _) _ _ _ _ :: _) _ _); (refine L_bd (by kernel_rfl) 153 _ rfl (#[(0, .slice ad n c)]) (by kernel_rfl) (cat (partsRd ad n c 0)) (build_rd ad n c) ?_); simp only [pA]) | ((with_reducible show wpList _ _ _ (Oper.mk (some 6) (Op.build 155 _) _ _ _ _ :: _) _ _); (refine L_bd (by kernel_rfl) 155 _ rfl (#[(0, .agg (cat (partsRd ad n c 0)).toArray)]) (by kernel_rfl) (cat (partsR ad n c 0 0)) (build_br ad n c) ?_); simp only [pA]) | ((with_reducible refine isBx 7 155 ?_); (refine L_box H rfl 155 _ rfl (cat (partsR ad n c 0 0)) rfl ?_); clear H; intro g7 w7 HGg7 HEg7 H; simp only [pA]) | ((with_reducible refine isSt 33 ?_); (refine L_s1 H rfl rfl 33 _ _ rfl 0 rfl _ rfl _ rfl _ rfl rfl rfl rfl (by kernel_rfl) (partsR ad n c 0 11) rfl ?_; clear H; intro w8 HWw8 H; simp only [szA] at H)))
  go_ret
  exact ⟨g7, rfl, by rw [HF.out]; exact H.out⟩
 ·have HF := kp (show readE n = 0 from if_neg hn)
  have hn2 : ¬ (2304 : Int) < (n : Int) := by omega
  go_enter Try.func58, Try.ntmps58
  go_wp2_with (first | ((with_reducible show wpList _ _ _ (Oper.mk (some 5) (Op.build 153 _) _ _ _ _ :: _) _ _); (refine L_bd (by kernel_rfl) 153 _ rfl (#[(0, .slice ad n c)]) (by kernel_rfl) (cat (partsRd ad n c 0)) (build_rd ad n c) ?_); simp only [pA]) | ((with_reducible show wpList _ _ _ (Oper.mk (some 6) (Op.build 155 _) _ _ _ _ :: _) _ _); (refine L_bd (by kernel_rfl) 155 _ rfl (#[(0, .agg (cat (partsRd ad n c 0)).toArray)]) (by kernel_rfl) (cat (partsR ad n c 0 0)) (build_br ad n c) ?_); simp only [pA]) | ((with_reducible refine isBx 7 155 ?_); (refine L_box H rfl 155 _ rfl (cat (partsR ad n c 0 0)) rfl ?_); clear H; intro g7 w7 HGg7 HEg7 H; simp only [pA]))
  go_ret
  exact ⟨g7, rfl, by rw [HF.out]; exact H.out⟩
theorem rd2_ok {b : By} {p : Nat} (h : p + 2 ≤ b.length) : rd2 b p 0 = rdF b p := by
 unfold rd2 rdB
 rw [if_pos ⟨rfl, h⟩]
 unfold rdF
 simp [List.getD_eq_getElem?_getD, List.getElem?_drop]
theorem rdE_ne {b : By} {p : Nat} {e : Int} {m : Nat} (h : e ≠ 0) : rdE b p e m = e ∧ rdN b p e m = p := by
 unfold rdE rdN
 exact ⟨if_neg (fun q => h q.1), if_neg (fun q => h q.1)⟩
theorem rdE_bad {b : By} {p m : Nat} (h : ¬ p + m ≤ b.length) : rdE b p 0 m = 10 ∧ rdN b p 0 m = p := by
 unfold rdE rdN
 exact ⟨if_pos ⟨rfl, by omega⟩, if_neg (fun q => h q.2)⟩
theorem rdE_good {b : By} {p m : Nat} (h : p + m ≤ b.length) : rdE b p 0 m = 0 ∧ rdN b p 0 m = p + m := by
 unfold rdE rdN
 exact ⟨if_neg (by omega), if_pos ⟨rfl, h⟩⟩
theorem rdN_le {b : By} {p : Nat} {e : Int} {m n : Nat} (hn : n = b.length) (hp : p ≤ n) : rdN b p e m ≤ n := by
 unfold rdN; split <;> omega
abbrev Rst := Nat × Int
def stp (b : By) (s : Rst) (m : Nat) : Rst := (rdN b s.1 s.2 m, rdE b s.1 s.2 m)
def st0 (b : By) : Rst := (0, readE b.length)
theorem stp_good {b : By} {p m : Nat} (h : p + m ≤ b.length) : stp b (p, 0) m = (p + m, 0) := by unfold stp; rw [(rdE_good h).1, (rdE_good h).2]
theorem stp_bad {b : By} {p m : Nat} (h : ¬ p + m ≤ b.length) : stp b (p, 0) m = (p, 10) := by unfold stp; rw [(rdE_bad h).1, (rdE_bad h).2]
theorem stp_ne {b : By} {p m : Nat} {e : Int} (h : e ≠ 0) : stp b (p, e) m = (p, e) := by unfold stp; rw [(rdE_ne h).1, (rdE_ne h).2]
def elS (b : By) (s : Rst) : Int := elE b s.1 s.2
theorem elS_0 (b : By) (p : Nat) : elS b (p, 0) = elemE (b.drop p) := rfl
theorem elS_ne {b : By} {p : Nat} {e : Int} (h : e ≠ 0) : elS b (p, e) = e := if_neg h
abbrev s1F (b : By) : Rst := stp b (st0 b) 2
abbrev s2F (b : By) : Rst := stp b (s1F b) 2
abbrev s3F (b : By) : Rst := stp b (s2F b) 2
theorem st0_long {b : By} (h : 2304 < b.length) : st0 b = (0, 11) := by unfold st0 readE; rw [if_pos h]
theorem st0_ok {b : By} (h : ¬ 2304 < b.length) : st0 b = (0, 0) := by unfold st0 readE; rw [if_neg h]
theorem front1 (b : By) : elS b (s1F b) = frontE b 2 ∧ (frontE b 2 = 0 → rd2 b (st0 b).1 (st0 b).2 = rdF b 0) := by
 unfold frontE
 by_cases h1 : 2304 < b.length
 ·rw [if_pos h1, s1F, st0_long h1, stp_ne (by decide), elS_ne (by decide)]
  exact ⟨rfl, fun h => absurd h (by decide)⟩
 ·rw [if_neg h1, s1F, st0_ok h1]
  by_cases h2 : 2 ≤ b.length
  ·rw [stp_good (by omega), elS_0, if_neg (by omega)]
   exact ⟨rfl, fun _ => rd2_ok (by omega)⟩
  ·rw [stp_bad (by omega), elS_ne (by decide), if_pos (by omega)]
   exact ⟨rfl, fun h => absurd h (by decide)⟩
theorem s2_cases (b : By) : (2304 < b.length ∧ s2F b = (0, 11)) ∨ (¬ 2304 < b.length ∧ 4 ≤ b.length ∧ s2F b = (4, 0) ∧ rd2 b (st0 b).1 (st0 b).2 = rdF b 0 ∧ rd2 b (s1F b).1 (s1F b).2 = rdF b 2) ∨ (¬ 2304 < b.length ∧ b.length < 4 ∧ ∃ p, s2F b = (p, 10) ∧ p ≤ b.length) := by
 by_cases h1 : 2304 < b.length
 ·left; exact ⟨h1, by rw [s2F, s1F, st0_long h1, stp_ne (p := 0) (e := 11) (by decide), stp_ne (p := 0) (e := 11) (by decide)]⟩
 ·right
  by_cases h4 : 4 ≤ b.length
  ·left
   refine ⟨h1, h4, ?_, ?_, ?_⟩
   ·rw [s2F, s1F, st0_ok h1, stp_good (by omega), stp_good (by omega)]
   ·rw [st0_ok h1]; exact rd2_ok (by omega)
   ·rw [s1F, st0_ok h1, stp_good (by omega)]; exact rd2_ok (by omega)
  ·right
   refine ⟨h1, by omega, ?_⟩
   by_cases h2 : 2 ≤ b.length
   ·exact ⟨2, by rw [s2F, s1F, st0_ok h1, stp_good (by omega), stp_bad (by omega)], h2⟩
   ·exact ⟨0, by rw [s2F, s1F, st0_ok h1, stp_bad (by omega), stp_ne (by decide)], by omega⟩
theorem s3_cases (b : By) : (2304 < b.length ∧ s3F b = (0, 11)) ∨ (¬ 2304 < b.length ∧ 6 ≤ b.length ∧ s3F b = (6, 0) ∧ rd2 b (st0 b).1 (st0 b).2 = rdF b 0 ∧ rd2 b (s1F b).1 (s1F b).2 = rdF b 2 ∧ rd2 b (s2F b).1 (s2F b).2 = rdF b 4) ∨ (¬ 2304 < b.length ∧ b.length < 6 ∧ ∃ p, s3F b = (p, 10) ∧ p ≤ b.length) := by
 rcases s2_cases b with ⟨h, e⟩ | ⟨h, h4, e, r0, r1⟩ | ⟨h, h4, p, e, hp⟩
 ·left; exact ⟨h, by rw [s3F, e, stp_ne (by decide)]⟩
 ·by_cases h6 : 6 ≤ b.length
  ·right; left
   exact ⟨h, h6, by rw [s3F, e, stp_good (by omega)], r0, r1, by rw [e]; exact rd2_ok (by omega)⟩
  ·right; right
   exact ⟨h, by omega, 4, by rw [s3F, e, stp_bad (by omega)], h4⟩
 ·right; right
  exact ⟨h, by omega, p, by rw [s3F, e, stp_ne (by decide)], hp⟩
theorem front3 (b : By) : elS b (s3F b) = frontE b 6 ∧ (frontE b 6 = 0 → rd2 b (st0 b).1 (st0 b).2 = rdF b 0 ∧ rd2 b (s1F b).1 (s1F b).2 = rdF b 2 ∧ rd2 b (s2F b).1 (s2F b).2 = rdF b 4) := by
 unfold frontE
 rcases s3_cases b with ⟨h, e⟩ | ⟨h, h6, e, r0, r1, r2⟩ | ⟨h, h6, p, e, hp⟩
 ·rw [if_pos h, e, elS_ne (by decide)]; exact ⟨rfl, fun h => absurd h (by decide)⟩
 ·rw [if_neg h, if_neg (by omega), e, elS_0]; exact ⟨rfl, fun _ => ⟨r0, r1, r2⟩⟩
 ·rw [if_neg h, if_pos h6, e, elS_ne (by decide)]; exact ⟨rfl, fun h => absurd h (by decide)⟩
def sRF (b : By) : Rst := ((s3F b).1, reqE (s3F b).2 (decide (rd2 b (s2F b).1 (s2F b).2 ≤ 255)) 12)
theorem frontR (b : By) : elS b (sRF b) = respE b ∧ (respE b = 0 → rd2 b (st0 b).1 (st0 b).2 = rdF b 0 ∧ rd2 b (s1F b).1 (s1F b).2 = rdF b 2 ∧ rd2 b (s2F b).1 (s2F b).2 = rdF b 4) := by
 unfold respE sRF
 rcases s3_cases b with ⟨h, e⟩ | ⟨h, h6, e, r0, r1, r2⟩ | ⟨h, h6, p, e, hp⟩
 ·rw [if_pos h, e, show reqE (11 : Int) _ 12 = 11 from if_neg (fun h => absurd h.1 (by decide)), elS_ne (by decide)]; exact ⟨rfl, fun h => absurd h (by decide)⟩
 ·rw [if_neg h, if_neg (by omega), e, r2]
  by_cases h255 : 255 < rdF b 4
  ·rw [if_pos h255, show reqE (0 : Int) (decide (rdF b 4 ≤ 255)) 12 = 12 from if_pos ⟨rfl, decide_eq_false (by omega)⟩, elS_ne (by decide)]
   exact ⟨rfl, fun h => absurd h (by decide)⟩
  ·rw [if_neg h255, show reqE (0 : Int) (decide (rdF b 4 ≤ 255)) 12 = 0 from if_neg (fun h => by have := of_decide_eq_false h.2; omega), elS_0]
   exact ⟨rfl, fun _ => ⟨r0, r1, rfl⟩⟩
 ·rw [if_neg h, if_pos h6, e, show reqE (10 : Int) _ 12 = 10 from if_neg (fun h => absurd h.1 (by decide)), elS_ne (by decide)]; exact ⟨rfl, fun h => absurd h (by decide)⟩
def sQF (b : By) (again : Bool) : Rst := if again then stp b (s2F b) 6 else s2F b
theorem frontQ (b : By) (again : Bool) : elS b (sQF b again) = frontE b (if again then 10 else 4) ∧ (frontE b (if again then 10 else 4) = 0 → rd2 b (st0 b).1 (st0 b).2 = rdF b 0 ∧ rd2 b (s1F b).1 (s1F b).2 = rdF b 2) := by
 cases again
 ·show elS b (s2F b) = frontE b 4 ∧ (frontE b 4 = 0 → _)
  unfold frontE
  rcases s2_cases b with ⟨h, e⟩ | ⟨h, h4, e, r0, r1⟩ | ⟨h, h4, p, e, hp⟩
  ·rw [if_pos h, e, elS_ne (by decide)]; exact ⟨rfl, fun h => absurd h (by decide)⟩
  ·rw [if_neg h, if_neg (by omega), e, elS_0]; exact ⟨rfl, fun _ => ⟨r0, r1⟩⟩
  ·rw [if_neg h, if_pos h4, e, elS_ne (by decide)]; exact ⟨rfl, fun h => absurd h (by decide)⟩
 ·show elS b (stp b (s2F b) 6) = frontE b 10 ∧ (frontE b 10 = 0 → _)
  unfold frontE
  rcases s2_cases b with ⟨h, e⟩ | ⟨h, h4, e, r0, r1⟩ | ⟨h, h4, p, e, hp⟩
  ·rw [if_pos h, e, stp_ne (by decide), elS_ne (by decide)]; exact ⟨rfl, fun h => absurd h (by decide)⟩
  ·rw [if_neg h, e]
   by_cases h10 : 10 ≤ b.length
   ·rw [stp_good (by omega), if_neg (by omega), elS_0]; exact ⟨rfl, fun _ => ⟨r0, r1⟩⟩
   ·rw [stp_bad (by omega), if_pos (by omega), elS_ne (by decide)]; exact ⟨rfl, fun h => absurd h (by decide)⟩
  ·rw [if_neg h, e, stp_ne (by decide), if_pos (by omega), elS_ne (by decide)]; exact ⟨rfl, fun h => absurd h (by decide)⟩
theorem Loc.cons1 {w0 w w' : World} {bs : List Bk} {b : Bk} (h : Loc w0 w bs) (k : Loc w w' [b]) : Loc w0 w' (b :: bs) := h.join k
def codF (b : By) : Int := if frontE b 2 = 0 then rdF b 0 else 0
def RsnR (b : By) (w : World) (en : Ending) (w' : World) : Prop := ∃ a k q, en = .returned (.tuple #[.agg (cat (pRe (codF b) a k q)).toArray, .int .i64 (frontE b 2)]) ∧ Ext w w'
theorem rsnR_of {b : By} {w w' : World} {x : Int} {a : Option Addr} {k q : Nat} {E : Int} (hE : E = frontE b 2) (hx : frontE b 2 = 0 → x = rdF b 0) {ps : List Lf} (hp : ps = resP E (pRe x a k q) (pRe 0 none 0 0)) (h : Ext w w') : RsnR b w (.returned (.tuple #[.agg (cat ps).toArray, .int .i64 E])) w' := by
 subst hp hE
 unfold RsnR codF resP
 by_cases c : frontE b 2 = 0
 ·rw [if_pos c, if_pos c, hx c]; exact ⟨a, k, q, rfl, h⟩
 ·rw [if_neg c, if_neg c]; exact ⟨none, 0, 0, rfl, h⟩
theorem lsum_resP {E : Int} {ps zs : List Lf} {m : Nat} (h1 : lsum ps = m) (h2 : lsum zs = m) : lsum (resP E ps zs) = m := by unfold resP; split <;> assumption
set_option maxHeartbeats 1600000 in
theorem decReason_any (ad : Option Addr) (n c : Nat) (b : By) (hb : n ≤ 100000) (hcap : n ≤ c) (w : World) (hs : SlB w (.slice ad n c) b) :
  Calls Try.prog 23 #[.slice ad n c] w (RsnR b w) := by
 have H := kp (Loc.start w); have HS := kp hs; have HN := kp hs.len; have hb2 : n ≤ 1000000 := by omega
 have HT1 := kp (fun g w1 rest H => rtwo_any ad n c b hb2 hcap 0 (by omega) (readE n) g w w1 rest H hs)
 have HEL := kp (fun g w1 rest H => relements_any ad n c b hb hcap (rdN b 0 (readE n) 2) (rdN_le HN.out (by omega)) (rdE b 0 (readE n) 2) g w w1 rest H hs)
 have HF := kp (front1 b)
 have HSZ := kp (show elE b (rdN b 0 (readE n) 2) (rdE b 0 (readE n) 2) = elS b (s1F b) by rw [HN.out]; rfl)
 have HX0 := kp (show rd2 b 0 (readE n) = rd2 b (st0 b).1 (st0 b).2 by rw [HN.out]; rfl)
 generalize rd2 b 0 (readE n) = x0 at *
 clear hs
 go_enter Try.func23, Try.ntmps23
 go_wp2_with (first | ((with_reducible refine isAl 2 57 ?_); (refine L_alloc H rfl 57 rfl (cat (pRe 0 none 0 0)) (fun _ _ => by kernel_rfl) ?_); clear H; intro g2 w2 HGg2 HEg2 H; simp only [pA]) | (go_at_call 58; refine (read_any ad n c _).mono ?_; rintro e wr ⟨gr, rfl, hl⟩; have H2 := kp (H.out.cons1 hl); clear H hl; have H := H2; clear H2) | (go_at_call 59; refine (HT1.out _ _ _ H).mono ?_; rintro e wb ⟨rfl, hl⟩; clear H; have H := kp hl; clear hl) | ((with_reducible show wpList _ _ _ (Oper.mk (some 10) (Op.build 57 _) _ _ _ _ :: _) _ _); (refine L_bd (by kernel_rfl) 57 _ rfl (#[(0, .int .u16 x0)]) (by kernel_rfl) (cat (pRe x0 none 0 0)) (fun w => by kernel_rfl) ?_); simp only [pA]) | (((with_reducible refine isAl 5 57 ?_); (refine L_alloc H rfl 57 rfl (cat (pRe 0 none 0 0)) (fun _ _ => by kernel_rfl) ?_); clear H; intro g5 w5 HGg5 HEg5 H; simp only [pA]); have H2 := kp H.out.sw; clear H; have H := H2; clear H2) | ((with_reducible refine isSt 57 ?_); refine L_sa H rfl rfl 57 _ _ rfl 1 rfl rfl (pRe x0 none 0 0) rfl rfl (by kernel_rfl) ?_; clear H; intro w6 HWw6 H; simp only [ssA, szA] at H) | (go_at_call 60; refine (HEL.out _ _ _ H).mono ?_; rintro e wc ⟨a, k, q, rfl, hl⟩; clear H; have H := kp hl; clear hl) | ((with_reducible refine isSt 55 ?_); (refine L_s1 H rfl rfl 55 _ _ rfl 1 rfl _ rfl _ rfl _ rfl rfl rfl rfl (by kernel_rfl) (pRe x0 a k q) rfl ?_; clear H; intro w7 HWw7 H; simp only [ssA, szA] at H)) | ((with_reducible refine isLd 57 ?_); refine L_fa H rfl 57 _ rfl 1 rfl rfl Try.underlying57 rfl (by kernel_rfl) ?_; simp only [pA]) | (go_at_call 61; refine (resultRe_any _ _ _ _ _ _ _ _ _ _ _ _ _ H).mono ?_; rintro e wd ⟨rfl, hl⟩; clear H; have H := kp hl; clear hl) | ((with_reducible refine isSt 57 ?_); refine L_sa H rfl rfl 57 _ _ rfl 2 rfl rfl (resP (elE b (rdN b 0 (readE n) 2) (rdE b 0 (readE n) 2)) (pRe x0 a k q) (pRe 0 none 0 0)) rfl ((lsum_resP (m := 2) rfl rfl).symm) (by rw [← (lsum_resP (m := 2) rfl rfl).symm]; kernel_rfl) ?_; clear H; intro ws HWws H; simp only [ssA, szA] at H))
 exact ret_f2 H Try.results23 2 rfl rfl _ rfl Try.underlying57 rfl (by rw [lsum_resP (m := 2) rfl rfl]; kernel_rfl) rfl (rsnR_of (by rw [HSZ.out]; exact HF.out.1) (fun h => by rw [HX0.out]; exact HF.out.2 h) rfl H.out.1)
def AuR (b : By) (w : World) (en : Ending) (w' : World) : Prop := ∃ x y z a k q, en = .returned (.tuple #[.agg (cat (pAu x y z a k q)).toArray, .int .i64 (frontE b 6)]) ∧ Ext w w' ∧ (frontE b 6 = 0 → x = rdF b 0 ∧ y = rdF b 2 ∧ z = rdF b 4) ∧ (frontE b 6 ≠ 0 → x = 0 ∧ y = 0 ∧ z = 0)
theorem auR_of {b : By} {w w' : World} {x y z : Int} {a : Option Addr} {k q : Nat} {E : Int} (hE : E = frontE b 6) (hx : frontE b 6 = 0 → x = rdF b 0 ∧ y = rdF b 2 ∧ z = rdF b 4) {ps : List Lf} (hp : ps = resP E (pAu x y z a k q) (pAu 0 0 0 none 0 0)) (h : Ext w w') : AuR b w (.returned (.tuple #[.agg (cat ps).toArray, .int .i64 E])) w' := by
 subst hp hE
 unfold AuR resP
 by_cases c : frontE b 6 = 0
 ·rw [if_pos c]; exact ⟨x, y, z, a, k, q, rfl, h, hx, fun h => absurd c h⟩
 ·rw [if_neg c]; exact ⟨0, 0, 0, none, 0, 0, rfl, h, fun h => absurd h c, fun _ => ⟨rfl, rfl, rfl⟩⟩
set_option maxHeartbeats 1600000 in
theorem decAuth_any (ad : Option Addr) (n c : Nat) (b : By) (hb : n ≤ 100000) (hcap : n ≤ c) (w : World) (hs : SlB w (.slice ad n c) b) :
  Calls Try.prog 28 #[.slice ad n c] w (AuR b w) := by
 have H := kp (Loc.start w); have HS := kp hs; have HN := kp hs.len; have hb2 : n ≤ 1000000 := by omega
 have HT1 := kp (fun g w1 rest H => rtwo_any ad n c b hb2 hcap 0 (by omega) (readE n) g w w1 rest H hs); generalize hp1 : rdN b 0 (readE n) 2 = p1 at HT1; generalize he1 : rdE b 0 (readE n) 2 = e1 at HT1; have hq1 : p1 ≤ n := by { rw [← hp1]; exact rdN_le HN.out (by omega) }
 have HT2 := kp (fun g w1 rest H => rtwo_any ad n c b hb2 hcap p1 hq1 e1 g w w1 rest H hs); generalize hp2 : rdN b p1 e1 2 = p2 at HT2; generalize he2 : rdE b p1 e1 2 = e2 at HT2; have hq2 : p2 ≤ n := by { rw [← hp2]; exact rdN_le HN.out hq1 }
 have HT3 := kp (fun g w1 rest H => rtwo_any ad n c b hb2 hcap p2 hq2 e2 g w w1 rest H hs); generalize hp3 : rdN b p2 e2 2 = p3 at HT3; generalize he3 : rdE b p2 e2 2 = e3 at HT3; have hq3 : p3 ≤ n := by { rw [← hp3]; exact rdN_le HN.out hq2 }
 have HEL := kp (fun g w1 rest H => relements_any ad n c b hb hcap p3 hq3 e3 g w w1 rest H hs)
 have HF := kp (front3 b)
 have HSZ := kp (show elE b p3 e3 = elS b (s3F b) by subst hp3 he3 hp2 he2 hp1 he1; rw [HN.out]; rfl)
 have HX0 := kp (show rd2 b 0 (readE n) = rd2 b (st0 b).1 (st0 b).2 by rw [HN.out]; rfl)
 have HX1 := kp (show rd2 b p1 e1 = rd2 b (s1F b).1 (s1F b).2 by subst hp1 he1; rw [HN.out]; rfl)
 have HX2 := kp (show rd2 b p2 e2 = rd2 b (s2F b).1 (s2F b).2 by subst hp2 he2 hp1 he1; rw [HN.out]; rfl)
 generalize rd2 b 0 (readE n) = x0 at *
 generalize rd2 b p1 e1 = x1 at *
 generalize rd2 b p2 e2 = x2 at *
 clear hs hp1 he1 hp2 he2 hp3 he3
 go_enter Try.func28, Try.ntmps28
 go_wp2_with (first | ((with_reducible refine isAl 2 74 ?_); (refine L_alloc H rfl 74 rfl (cat (pAu 0 0 0 none 0 0)) (fun _ _ => by kernel_rfl) ?_); clear H; intro g2 w2 HGg2 HEg2 H; simp only [pA]) | (go_at_call 58; refine (read_any ad n c _).mono ?_; rintro e wr ⟨gr, rfl, hl⟩; have H2 := kp (H.out.cons1 hl); clear H hl; have H := H2; clear H2) | (go_at_call 59; with_reducible refine (HT1.out _ _ _ H).mono ?_; rintro e wb ⟨rfl, hl⟩; clear H; have H := kp hl; clear hl) | (go_at_call 59; with_reducible refine (HT2.out _ _ _ H).mono ?_; rintro e wb ⟨rfl, hl⟩; clear H; have H := kp hl; clear hl) | (go_at_call 59; with_reducible refine (HT3.out _ _ _ H).mono ?_; rintro e wb ⟨rfl, hl⟩; clear H; have H := kp hl; clear hl) | ((with_reducible show wpList _ _ _ (Oper.mk (some 11) (Op.build 74 _) _ _ _ _ :: _) _ _); (refine L_bd (by kernel_rfl) 74 _ rfl (#[]) (by kernel_rfl) (cat (pAu 0 0 0 none 0 0)) (fun w => by kernel_rfl) ?_); simp only [pA]) | (((with_reducible refine isAl 6 74 ?_); (refine L_alloc H rfl 74 rfl (cat (pAu 0 0 0 none 0 0)) (fun _ _ => by kernel_rfl) ?_); clear H; intro g6 w6 HGg6 HEg6 H; simp only [pA]); have H2 := kp H.out.sw; clear H; have H := H2; clear H2) | ((with_reducible refine isSt 74 ?_); refine L_sa H rfl rfl 74 _ _ rfl 1 rfl rfl (pAu 0 0 0 none 0 0) rfl rfl (by kernel_rfl) ?_; clear H; intro wy HWwy H; simp only [ssA, szA] at H) | ((with_reducible refine isSt 54 ?_); (refine L_s1 H rfl rfl 54 _ _ rfl 1 rfl _ rfl _ rfl _ rfl rfl rfl rfl (by kernel_rfl) (_) rfl ?_; clear H; intro wu HWwu H; simp only [ssA, szA] at H)) | (go_at_call 60; refine (HEL.out _ _ _ H).mono ?_; rintro e wc ⟨a, k, q, rfl, hl⟩; clear H; have H := kp hl; clear hl) | ((with_reducible refine isSt 55 ?_); (refine L_s1 H rfl rfl 55 _ _ rfl 1 rfl _ rfl _ rfl _ rfl rfl rfl rfl (by kernel_rfl) (pAu x0 x1 x2 a k q) rfl ?_; clear H; intro w7 HWw7 H; simp only [ssA, szA] at H)) | ((with_reducible refine isLd 74 ?_); refine L_fa H rfl 74 _ rfl 1 rfl rfl Try.underlying74 rfl (by kernel_rfl) ?_; simp only [pA]) | (go_at_call 68; refine (resultAu_any _ _ _ _ _ _ _ _ _ _ _ _ _ _ _ H).mono ?_; rintro e wd ⟨rfl, hl⟩; clear H; have H := kp hl; clear hl) | ((with_reducible refine isSt 74 ?_); refine L_sa H rfl rfl 74 _ _ rfl 2 rfl rfl (resP (elE b p3 e3) (pAu x0 x1 x2 a k q) (pAu 0 0 0 none 0 0)) rfl ((lsum_resP (m := 4) rfl rfl).symm) (by rw [← (lsum_resP (m := 4) rfl rfl).symm]; kernel_rfl) ?_; clear H; intro ws HWws H; simp only [ssA, szA] at H))
 exact ret_f2 H Try.results28 2 rfl rfl _ rfl Try.underlying74 rfl (by rw [lsum_resP (m := 4) rfl rfl]; kernel_rfl) rfl (auR_of (by rw [HSZ.out]; exact HF.out.1) (fun h => by rw [HX0.out, HX1.out, HX2.out]; exact HF.out.2 h) rfl H.out.1)
def RpR (b : By) (w : World) (en : Ending) (w' : World) : Prop := ∃ x y z a k q, en = .returned (.tuple #[.agg (cat (pRs x y z a k q)).toArray, .int .i64 (respE b)]) ∧ Ext w w' ∧ (respE b = 0 → x = rdF b 0 ∧ y = rdF b 2 ∧ z = rdF b 4) ∧ (respE b ≠ 0 → x = 0 ∧ y = 0 ∧ z = 0)
theorem rpR_of {b : By} {w w' : World} {x y z : Int} {a : Option Addr} {k q : Nat} {E : Int} (hE : E = respE b) (hx : respE b = 0 → x = rdF b 0 ∧ y = rdF b 2 ∧ z = rdF b 4) {ps : List Lf} (hp : ps = resP E (pRs x y z a k q) (pRs 0 0 0 none 0 0)) (h : Ext w w') : RpR b w (.returned (.tuple #[.agg (cat ps).toArray, .int .i64 E])) w' := by
 subst hp hE
 unfold RpR resP
 by_cases c : respE b = 0
 ·rw [if_pos c]; exact ⟨x, y, z, a, k, q, rfl, h, hx, fun h => absurd c h⟩
 ·rw [if_neg c]; exact ⟨0, 0, 0, none, 0, 0, rfl, h, fun h => absurd h c, fun _ => ⟨rfl, rfl, rfl⟩⟩
theorem rd2_range (b : By) (p : Nat) (e : Int) : 0 ≤ rd2 b p e ∧ rd2 b p e ≤ 65535 := rd_range _ _
set_option maxRecDepth 4000 in
set_option maxHeartbeats 1600000 in
theorem decResp_any (ad : Option Addr) (n c : Nat) (b : By) (hb : n ≤ 100000) (hcap : n ≤ c) (w : World) (hs : SlB w (.slice ad n c) b) :
  Calls Try.prog 26 #[.slice ad n c] w (RpR b w) := by
 have H := kp (Loc.start w); have HS := kp hs; have HN := kp hs.len; have hb2 : n ≤ 1000000 := by omega
 have HT1 := kp (fun g w1 rest H => rtwo_any ad n c b hb2 hcap 0 (by omega) (readE n) g w w1 rest H hs); generalize hp1 : rdN b 0 (readE n) 2 = p1 at HT1; generalize he1 : rdE b 0 (readE n) 2 = e1 at HT1; have hq1 : p1 ≤ n := by { rw [← hp1]; exact rdN_le HN.out (by omega) }
 have HT2 := kp (fun g w1 rest H => rtwo_any ad n c b hb2 hcap p1 hq1 e1 g w w1 rest H hs); generalize hp2 : rdN b p1 e1 2 = p2 at HT2; generalize he2 : rdE b p1 e1 2 = e2 at HT2; have hq2 : p2 ≤ n := by { rw [← hp2]; exact rdN_le HN.out hq1 }
 have HT3 := kp (fun g w1 rest H => rtwo_any ad n c b hb2 hcap p2 hq2 e2 g w w1 rest H hs); generalize hp3 : rdN b p2 e2 2 = p3 at HT3; generalize he3 : rdE b p2 e2 2 = e3 at HT3; have hq3 : p3 ≤ n := by { rw [← hp3]; exact rdN_le HN.out hq2 }
 have HRG := kp (rd2_range b p2 e2)
 have HRQ := kp (fun (e4 : Int) (is : Bool) g w1 rest H => require_any ad n c p3 e3 is 12 g w w1 rest H)
 have HEL := kp (fun g w1 rest H => relements_any ad n c b hb hcap p3 hq3 (reqE e3 (decide (rd2 b p2 e2 ≤ 255)) 12) g w w1 rest H hs)
 have HF := kp (frontR b)
 have HSZ := kp (show elE b p3 (reqE e3 (decide (rd2 b p2 e2 ≤ 255)) 12) = elS b (sRF b) by subst hp3 he3 hp2 he2 hp1 he1; rw [HN.out]; rfl)
 have HX0 := kp (show rd2 b 0 (readE n) = rd2 b (st0 b).1 (st0 b).2 by rw [HN.out]; rfl)
 have HX1 := kp (show rd2 b p1 e1 = rd2 b (s1F b).1 (s1F b).2 by subst hp1 he1; rw [HN.out]; rfl)
 have HX2 := kp (show rd2 b p2 e2 = rd2 b (s2F b).1 (s2F b).2 by subst hp2 he2 hp1 he1; rw [HN.out]; rfl)
 generalize rd2 b 0 (readE n) = x0 at *
 generalize rd2 b p1 e1 = x1 at *
 generalize rd2 b p2 e2 = x2 at *
 obtain ⟨hx20, hx21⟩ := HRG.out
 by_cases h255 : x2 ≤ 255
 ·rw [decide_eq_true h255] at HEL HSZ
  generalize hE4 : reqE e3 true 12 = e4 at *
  have HE4 := kp hE4
  clear hs hp1 he1 hp2 he2 hp3 he3 hE4
  go_enter Try.func26, Try.ntmps26
  go_wp2_with (first | ((with_reducible refine isAl 2 68 ?_); (refine L_alloc H rfl 68 rfl (cat (pRs 0 0 0 none 0 0)) (fun _ _ => by kernel_rfl) ?_); clear H; intro g2 w2 HGg2 HEg2 H; simp only [pA]) | (go_at_call 58; refine (read_any ad n c _).mono ?_; rintro e wr ⟨gr, rfl, hl⟩; have H2 := kp (H.out.cons1 hl); clear H hl; have H := H2; clear H2) | (go_at_call 59; with_reducible refine (HT1.out _ _ _ H).mono ?_; rintro e wb ⟨rfl, hl⟩; clear H; have H := kp hl; clear hl) | (go_at_call 59; with_reducible refine (HT2.out _ _ _ H).mono ?_; rintro e wb ⟨rfl, hl⟩; clear H; have H := kp hl; clear hl) | (go_at_call 59; with_reducible refine (HT3.out _ _ _ H).mono ?_; rintro e wb ⟨rfl, hl⟩; clear H; have H := kp hl; clear hl) | ((with_reducible show wpList _ _ _ (Oper.mk (some 10) (Op.build 68 _) _ _ _ _ :: _) _ _); (refine L_bd (by kernel_rfl) 68 _ rfl (#[(0, .int .u16 x0)]) (by kernel_rfl) (cat (pRs x0 0 0 none 0 0)) (fun w => by kernel_rfl) ?_); simp only [pA]) | (((with_reducible refine isAl 5 68 ?_); (refine L_alloc H rfl 68 rfl (cat (pRs 0 0 0 none 0 0)) (fun _ _ => by kernel_rfl) ?_); clear H; intro g5 w5 HGg5 HEg5 H; simp only [pA]); have H2 := kp H.out.sw; clear H; have H := H2; clear H2) | ((with_reducible refine isSt 68 ?_); refine L_sa H rfl rfl 68 _ _ rfl 1 rfl rfl (pRs x0 0 0 none 0 0) rfl rfl (by kernel_rfl) ?_; clear H; intro wy HWwy H; simp only [ssA, szA] at H) | ((with_reducible refine isSt 54 ?_); (refine L_s1 H rfl rfl 54 _ _ rfl 1 rfl _ rfl _ rfl _ rfl rfl rfl rfl (by kernel_rfl) (pRs x0 x1 0 none 0 0) rfl ?_; clear H; intro wu HWwu H; simp only [ssA, szA] at H)) | ((with_reducible refine isSt 3 ?_); (refine L_s1 H rfl rfl 3 _ _ rfl 1 rfl _ rfl _ rfl _ rfl rfl rfl rfl (by kernel_rfl) (pRs x0 x1 x2 none 0 0) rfl ?_; clear H; intro wv HWwv H; simp only [ssA, szA] at H)) | ((with_reducible refine isLd 3 ?_); (refine L_f1 H rfl 3 _ rfl 1 rfl _ rfl _ rfl _ rfl Try.underlying3 rfl ?_); simp only [pA]) | (go_at_call 62; refine (HRQ.out 0 true _ _ _ H).mono ?_; rintro e wq ⟨rfl, hl⟩; rw [HE4.out] at hl; clear H; have H := kp hl; clear hl) | (go_at_call 60; refine (HEL.out _ _ _ H).mono ?_; rintro e wc ⟨a, k, q, rfl, hl⟩; clear H; have H := kp hl; clear hl) | ((with_reducible refine isSt 55 ?_); (refine L_s1 H rfl rfl 55 _ _ rfl 1 rfl _ rfl _ rfl _ rfl rfl rfl rfl (by kernel_rfl) (pRs x0 x1 x2 a k q) rfl ?_; clear H; intro w7 HWw7 H; simp only [ssA, szA] at H)) | ((with_reducible refine isLd 68 ?_); refine L_fa H rfl 68 _ rfl 1 rfl rfl Try.underlying68 rfl (by kernel_rfl) ?_; simp only [pA]) | (go_at_call 63; refine (resultRs_any _ _ _ _ _ _ _ _ _ _ _ _ _ _ _ H).mono ?_; rintro e wd ⟨rfl, hl⟩; clear H; have H := kp hl; clear hl) | ((with_reducible refine isSt 68 ?_); refine L_sa H rfl rfl 68 _ _ rfl 2 rfl rfl (resP (elE b p3 e4) (pRs x0 x1 x2 a k q) (pRs 0 0 0 none 0 0)) rfl ((lsum_resP (m := 4) rfl rfl).symm) (by rw [← (lsum_resP (m := 4) rfl rfl).symm]; kernel_rfl) ?_; clear H; intro ws HWws H; simp only [ssA, szA] at H))
  exact ret_f2 H Try.results26 2 rfl rfl _ rfl Try.underlying68 rfl (by rw [lsum_resP (m := 4) rfl rfl]; kernel_rfl) rfl (rpR_of (by rw [HSZ.out]; exact HF.out.1) (fun h => by rw [HX0.out, HX1.out, HX2.out]; exact HF.out.2 h) rfl H.out.1)
 ·rw [decide_eq_false h255] at HEL HSZ
  have hdf : decide (x2 ≤ 255) = false := decide_eq_false h255
  clear h255
  generalize hE4 : reqE e3 false 12 = e4 at *
  have HE4 := kp hE4
  clear hs hp1 he1 hp2 he2 hp3 he3 hE4
  go_enter Try.func26, Try.ntmps26
  go_wp2_with (first | ((with_reducible refine isAl 2 68 ?_); (refine L_alloc H rfl 68 rfl (cat (pRs 0 0 0 none 0 0)) (fun _ _ => by kernel_rfl) ?_); clear H; intro g2 w2 HGg2 HEg2 H; simp only [pA]) | (go_at_call 58; refine (read_any ad n c _).mono ?_; rintro e wr ⟨gr, rfl, hl⟩; have H2 := kp (H.out.cons1 hl); clear H hl; have H := H2; clear H2) | (go_at_call 59; with_reducible refine (HT1.out _ _ _ H).mono ?_; rintro e wb ⟨rfl, hl⟩; clear H; have H := kp hl; clear hl) | (go_at_call 59; with_reducible refine (HT2.out _ _ _ H).mono ?_; rintro e wb ⟨rfl, hl⟩; clear H; have H := kp hl; clear hl) | (go_at_call 59; with_reducible refine (HT3.out _ _ _ H).mono ?_; rintro e wb ⟨rfl, hl⟩; clear H; have H := kp hl; clear hl) | ((with_reducible show wpList _ _ _ (Oper.mk (some 10) (Op.build 68 _) _ _ _ _ :: _) _ _); (refine L_bd (by kernel_rfl) 68 _ rfl (#[(0, .int .u16 x0)]) (by kernel_rfl) (cat (pRs x0 0 0 none 0 0)) (fun w => by kernel_rfl) ?_); simp only [pA]) | (((with_reducible refine isAl 5 68 ?_); (refine L_alloc H rfl 68 rfl (cat (pRs 0 0 0 none 0 0)) (fun _ _ => by kernel_rfl) ?_); clear H; intro g5 w5 HGg5 HEg5 H; simp only [pA]); have H2 := kp H.out.sw; clear H; have H := H2; clear H2) | ((with_reducible refine isSt 68 ?_); refine L_sa H rfl rfl 68 _ _ rfl 1 rfl rfl (pRs x0 0 0 none 0 0) rfl rfl (by kernel_rfl) ?_; clear H; intro wy HWwy H; simp only [ssA, szA] at H) | ((with_reducible refine isSt 54 ?_); (refine L_s1 H rfl rfl 54 _ _ rfl 1 rfl _ rfl _ rfl _ rfl rfl rfl rfl (by kernel_rfl) (pRs x0 x1 0 none 0 0) rfl ?_; clear H; intro wu HWwu H; simp only [ssA, szA] at H)) | ((with_reducible refine isSt 3 ?_); (refine L_s1 H rfl rfl 3 _ _ rfl 1 rfl _ rfl _ rfl _ rfl rfl rfl rfl (by kernel_rfl) (pRs x0 x1 x2 none 0 0) rfl ?_; clear H; intro wv HWwv H; simp only [ssA, szA] at H)) | ((with_reducible refine isLd 3 ?_); (refine L_f1 H rfl 3 _ rfl 1 rfl _ rfl _ rfl _ rfl Try.underlying3 rfl ?_); simp only [pA]) | (go_at_call 62; refine (HRQ.out 0 false _ _ _ H).mono ?_; rintro e wq ⟨rfl, hl⟩; rw [HE4.out] at hl; clear H; have H := kp hl; clear hl) | (go_at_call 60; refine (HEL.out _ _ _ H).mono ?_; rintro e wc ⟨a, k, q, rfl, hl⟩; clear H; have H := kp hl; clear hl) | ((with_reducible refine isSt 55 ?_); (refine L_s1 H rfl rfl 55 _ _ rfl 1 rfl _ rfl _ rfl _ rfl rfl rfl rfl (by kernel_rfl) (pRs x0 x1 x2 a k q) rfl ?_; clear H; intro w7 HWw7 H; simp only [ssA, szA] at H)) | ((with_reducible refine isLd 68 ?_); refine L_fa H rfl 68 _ rfl 1 rfl rfl Try.underlying68 rfl (by kernel_rfl) ?_; simp only [pA]) | (go_at_call 63; refine (resultRs_any _ _ _ _ _ _ _ _ _ _ _ _ _ _ _ H).mono ?_; rintro e wd ⟨rfl, hl⟩; clear H; have H := kp hl; clear hl) | ((with_reducible refine isSt 68 ?_); refine L_sa H rfl rfl 68 _ _ rfl 2 rfl rfl (resP (elE b p3 e4) (pRs x0 x1 x2 a k q) (pRs 0 0 0 none 0 0)) rfl ((lsum_resP (m := 4) rfl rfl).symm) (by rw [← (lsum_resP (m := 4) rfl rfl).symm]; kernel_rfl) ?_; clear H; intro ws HWws H; simp only [ssA, szA] at H))
  exact ret_f2 H Try.results26 2 rfl rfl _ rfl Try.underlying68 rfl (by rw [lsum_resP (m := 4) rfl rfl]; kernel_rfl) rfl (rpR_of (by rw [HSZ.out]; exact HF.out.1) (fun h => by rw [HX0.out, HX1.out, HX2.out]; exact HF.out.2 h) rfl H.out.1)
end Go.Proofs.Ytfecopfofkdnpaa
