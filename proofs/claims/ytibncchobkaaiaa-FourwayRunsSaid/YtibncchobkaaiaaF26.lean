/- Texts of this proof, put together: RfS, BitP, RfP0. -/
import Derived.Test.YtibncchobkaaiaaF22
import Derived.Test.YtibncchobkaaiaaF25
import Derived.Test.YtibncchobkaaiaaF11
import Derived.Laws.BitsAllLaws
import Derived.Test.YtibncchobkaaiaaF24
import Derived.Test.YtibncchobkaaiaaF1
namespace Go.Proofs.Ytibncchobkaaiaa
open Go.RowKit
theorem check_stage {s : Fw} (h : checkB s = true) (hd : s.due ≠ 0) : s.stage = 1 ∨ s.stage = 3 := by
 obtain ⟨_, hw, _⟩ := check_wait h
 have h1 := (hw hd).1
 unfold checkB validF at h
 simp only [Bool.and_eq_true] at h
 have hv := h.1.2
 rw [if_pos h1] at hv
 unfold validAuthF at hv
 split at hv
 ·cases hv
 ·split at hv
  ·cases hv
  ·rename_i b2
   have b2 : badA2 s = false := by simpa using b2
   unfold badA2 at b2
   cases hq : waitsB s with
   | true => unfold waitsB at hq; simpa using hq
   | false =>
    rw [hq] at b2
    simp only [Bool.false_and, Bool.not_false, Bool.true_and, Bool.false_or, Bool.or_eq_false_iff] at b2
    exact absurd (by simpa using b2.2) hd
theorem check_inst {s : Fw} (h : checkB s = true) : s.inst = oneI (s.stage == 4) := by
 unfold checkB at h
 simp only [Bool.and_eq_true] at h
 simpa using h.1.1.2
set_option maxHeartbeats 1600000 in
theorem build_F2 (role : Int) (own peer : Vc 6) (master mine : Vc 16) (replay gid : Int) (gkey : Vc 16) (w : World) :
  (Instr.build 32 #[(0, .int .u8 role), (1, .int .u8 5), (2, .agg (own.1.map V8).toArray), (3, .agg (peer.1.map V8).toArray), (4, .agg (master.1.map V8).toArray), (5, .agg (mine.1.map V8).toArray), (7, .int .i64 replay), (11, .agg (cat (partsG gid gkey)).toArray)]).run Try.prog w = .ok (.agg (cat (partsF { fw0 with role := role, stage := 5, own := own, peer := peer, master := master, mine := mine, replay := replay, gid := gid, gkey := gkey })).toArray) w := by
 refine run_build _ _ w (partsF fw0) (by kernel_rfl) _ Try.underlying32 #[(0, 1), (1, 1), (2, 6), (8, 6), (14, 16), (30, 16), (46, 16), (62, 1), (63, 1), (64, 1), (65, 48), (113, 17), (130, 1)] (by kernel_rfl) _ ?_
 show Instr.fill _ _ [_, _, _, _, _, _, _, _] = _
 rw [fill_cat _ _ 0 _ _ 0 0 1 [Lf.i .u8 role] rfl rfl rfl rfl _ rfl, fill_cat _ _ 1 _ _ 1 1 1 [Lf.i .u8 5] rfl rfl rfl rfl _ rfl, fill_cat _ _ 2 _ _ 2 2 1 [Lf.v own] rfl rfl rfl rfl _ rfl, fill_cat _ _ 3 _ _ 8 3 1 [Lf.v peer] rfl rfl rfl rfl _ rfl, fill_cat _ _ 4 _ _ 14 4 1 [Lf.v master] rfl rfl rfl rfl _ rfl, fill_cat _ _ 5 _ _ 30 5 1 [Lf.v mine] rfl rfl rfl rfl _ rfl, fill_cat _ _ 7 _ _ 62 7 1 [Lf.i .i64 replay] rfl rfl rfl rfl _ rfl, fill_cat _ _ 11 _ _ 113 13 2 (partsG gid gkey) rfl rfl rfl rfl _ rfl]
 rfl
set_option maxRecDepth 4000 in
set_option maxHeartbeats 1600000 in
theorem rstart_any (s : Fw) (h0 : 0 ≤ s.stage) (now : Int) (w : World) : Calls Try.prog 11 #[.agg (cat (partsF s)).toArray, .int .i64 now] w (ResR (startF s now) w) := by
 have H := kp (Loc.start w)
 have HC := kp (rbefore_any s h0 now)
 have HR0 := kp (show checkedF s now ≠ 0 → startF s now = errR (checkedF s now) from fun h => by unfold startF; rw [if_pos h])
 have HR1 := kp (show checkedF s now = 0 → (s.role ≠ 1 ∨ s.stage ≠ 0) → startF s now = errR 20 from fun h h1 => by unfold startF; rw [if_neg (by omega), if_pos h1])
 have HR2 := kp (show checkedF s now = 0 → s.role = 1 → s.stage = 0 → startF s now = ({ s with stage := 1, replay := 1, tries := 1, due := now + 100000 }, [sendF { s with stage := 1, replay := 1, tries := 1, due := now + 100000 }], 0) from fun h h1 h2 => by unfold startF; rw [if_neg (by omega), if_neg (by omega)])
 have HCZ := kp (fun h : checkedF s now = 0 => checked_zero h)
 generalize startF s now = r at *
 generalize checkedF s now = E at *
 clear h0
 go_enter Try.func11, Try.ntmps11
 generalize h6 : (Code.region 6 _ _ : Code) = R6
 generalize h10 : (Code.region 10 _ _ : Code) = R10
 by_cases h : E = 0
 ·subst h
  obtain ⟨_, hn0, hn1⟩ := HCZ.out rfl
  clear HCZ HR0
  by_cases hb : s.role = 1 ∧ s.stage = 0
  ·have HK := kp (HR2.out rfl hb.1 hb.2)
   have b1 : (s.role != 1) = false := by simp [hb.1]
   have b2 : (s.stage != 0) = false := by simp [hb.2]
   clear hb HR1 HR2
   go_wp2_with (first | ((with_reducible refine isBx 2 32 ?_); (refine L_box H rfl 32 _ rfl (cat (partsF s)) rfl ?_); clear H; intro g2 w2 HGg2 HEg2 H; simp only [pA]) | ((with_reducible refine isAl 4 32 ?_); (refine L_alloc H rfl 32 rfl (cat (partsF fw0)) (fun _ _ => by kernel_rfl) ?_); clear H; intro g4 w4 HGg4 HEg4 H; simp only [pA]) | ((with_reducible refine isLd 32 ?_); (refine L_fa H rfl 32 _ rfl 1 rfl rfl Try.underlying32 rfl (by kernel_rfl) ?_); simp only [pA]) | ((with_reducible refine isLd 5 ?_); (refine L_f1 H rfl 5 _ rfl 1 rfl _ rfl _ rfl _ rfl Try.underlying5 rfl ?_); simp only [pA]) | (go_at_call 31; refine (HC.out _).mono ?_; rintro e wa ⟨rfl, hx⟩; replace H := kp (H.out.ext hx); have HXC := kp hx; clear hx))
   obtain ⟨s', hs'⟩ : ∃ t, t = { s with stage := 1, replay := 1, tries := 1, due := now + 100000 } := ⟨_, rfl⟩
   have HRS := kp (show r = (s', [sendF s'], 0) by rw [hs']; exact HK.out)
   have HSD := kp (rsent_any s' (by rw [hs']; exact (show (0 : Int) ≤ 1 from by decide)) (by rw [hs']; exact (show (1 : Int) < 9223372036854775808 from by decide)) (by rw [hs']; exact .inl rfl))
   have HS' := kp hs'
   clear hs' HK
   subst h6
   go_wp2_with (first | ((with_reducible refine isSt 5 ?_); (refine L_s1 H rfl rfl 5 _ _ rfl 1 rfl _ rfl _ rfl _ rfl rfl rfl rfl (by kernel_rfl) (_) rfl ?_; clear H; intro wb HWwb H; simp only [ssA, szA] at H)) | ((with_reducible refine isSt 3 ?_); (refine L_s1 H rfl rfl 3 _ _ rfl 1 rfl _ rfl _ rfl _ rfl rfl rfl rfl (by kernel_rfl) (_) rfl ?_; clear H; intro wc HWwc H; simp only [ssA, szA] at H)))
   have H2 := kp (show Loc w wc [(g4, 32, cat (partsF fw0)), (g2, 32, cat (partsF s'))] from by rw [HS'.out]; exact H.out)
   clear H
   have H := H2
   clear H2
   subst h10
   have HLT := kp (H.out.lt 0 rfl)
   have HSZ := kp H.out.1.size
   refine region_free H (tabS [(33, fun vQ _ => vQ = .agg (cat (partsF s')).toArray), (34, fun vQ _ => vQ = .agg (cat (partsF s')).toArray), (35, fun vQ wQ => SlBB wc.heap.size wQ vQ [sendF s']), (5, fun vQ wQ => SlBB wc.heap.size wQ vQ [sendF s']), (6, fun vQ _ => vQ = .int .i64 0)]) [⟨3, 0, g4, 32, cat (partsF fw0), cat (partsF s')⟩] (tabS_out _ _ (by simp only [List.forall_mem_cons, mono_eqO, true_and]; exact ⟨(mono_SlBB _ (lt1 HLT.out)), (mono_SlBB _ (lt1 HLT.out)), by simp⟩)) 6 (by kernel_rfl) (by kernel_rfl) (by kernel_rfl) (by kernel_rfl) [3] [0] rfl rfl (by decide) (by decide) (by decide) ⟨rfl, trivial⟩ ?_
   simp only [List.take_succ_cons, List.take_zero]
   refine ⟨fun w_ o_ S_ => ?_, fun v33 => ?_⟩
   ·clear S_
    have H := kp (H.out.keep [1] (St := [⟨3, 0, g4, 32, cat (partsF fw0), cat (partsF s')⟩]) ⟨rfl, trivial⟩ o_ (by decide) (by kernel_rfl))
    have HOX := kp o_
    clear o_
    go_wp2_with ((with_reducible refine isLd 32 ?_); (refine L_fa H rfl 32 _ rfl 0 rfl rfl Try.underlying32 rfl (by kernel_rfl) ?_); simp only [pA])
    exact kso
   simp only [pA]
   refine ⟨fun w_ o_ S_ => ?_, fun v34 => ?_⟩
   ·clear S_
    have H := kp (H.out.keep [1] (St := [⟨3, 0, g4, 32, cat (partsF fw0), cat (partsF s')⟩]) ⟨rfl, trivial⟩ o_ (by decide) (by kernel_rfl))
    have HOX := kp o_
    clear o_
    go_wp2_with ((with_reducible refine isLd 32 ?_); (refine L_fa H rfl 32 _ rfl 0 rfl rfl Try.underlying32 rfl (by kernel_rfl) ?_); simp only [pA])
    exact kso
   simp only [pA]
   refine ⟨fun w_ o_ S_ => ?_, fun v35 => ?_⟩
   ·obtain rfl : v34 = .agg (cat (partsF s')).toArray := hsR S_ 34 rfl
    clear S_
    have H := kp (H.out.keep [1] (St := [⟨3, 0, g4, 32, cat (partsF fw0), cat (partsF s')⟩]) ⟨rfl, trivial⟩ o_ (by decide) (by kernel_rfl))
    have HOX := kp o_
    clear o_
    go_wp2_with fail
    refine (HSD.out _).mono ?_
    rintro e w2 ⟨v, rfl, hs, hx⟩
    have HSL := kp (hs.weak HOX.out.size)
    have HXC := kp hx
    clear hs hx
    go_wp2_with fail
    exact ⟨rfl, _, rfl, fun d hd => by cases hd; exact HSL.out, HXC.out⟩
   simp only [pA]
   refine ⟨⟨rfl, rfl, fun ws3 hos3 hSs3 hLs3 => ?_⟩, ?_⟩
   ·obtain rfl : v33 = .agg (cat (partsF s')).toArray := hSs3 33 (by decide) (by decide)
    exact run_sto 32 _ _ rfl rfl rfl hLs3 (sizeFw _) (len_F _ _) (by simpa using cat_one (partsF s'))
   refine ⟨fun w_ o_ S_ => ?_, fun v5 => ?_⟩
   ·have h35 := kp (show SlBB wc.heap.size w_ v35 [sendF s'] from hsR S_ 35 rfl)
    clear S_ o_
    go_wp2_with fail
    exact ⟨rfl, _, rfl, fun d hd => by cases hd; exact h35.out, Ext.refl _⟩
   simp only [pA]
   refine ⟨fun w_ o_ S_ => ?_, fun v6 => ?_⟩
   ·clear S_
    clear o_
    go_wp2_with fail
    exact kso
   simp only [pA]
   clear H
   intro wy HOX H hfin
   obtain rfl : v33 = .agg (cat (partsF s')).toArray := hfin 33 (by decide)
   obtain rfl : v34 = .agg (cat (partsF s')).toArray := hfin 34 (by decide)
   have F35 := kp (show SlBB wc.heap.size wy v35 [sendF s'] from hfin 35 (by decide))
   have F5 := kp (show SlBB wc.heap.size wy v5 [sendF s'] from hfin 5 (by decide))
   obtain rfl : v6 = .int .i64 0 := hfin 6 (by decide)
   clear hfin
   simp only [List.drop_succ_cons, List.drop_zero]
   simp only [applyS] at H
   go_wp2_with fail
   (exact ret_f3 H Try.results11 0 rfl rfl _ _ rfl rfl Try.underlying32 rfl (by kernel_rfl) rfl (resR_ok HRS.out F5.out HSZ.out H.out.1))
  ·have HK := kp (HR1.out rfl (by omega))
   go_wp2_with (first | ((with_reducible refine isBx 2 32 ?_); (refine L_box H rfl 32 _ rfl (cat (partsF s)) rfl ?_); clear H; intro g2 w2 HGg2 HEg2 H; simp only [pA]) | ((with_reducible refine isAl 4 32 ?_); (refine L_alloc H rfl 32 rfl (cat (partsF fw0)) (fun _ _ => by kernel_rfl) ?_); clear H; intro g4 w4 HGg4 HEg4 H; simp only [pA]) | ((with_reducible refine isLd 32 ?_); (refine L_fa H rfl 32 _ rfl 1 rfl rfl Try.underlying32 rfl (by kernel_rfl) ?_); simp only [pA]) | ((with_reducible show wpList _ _ _ (Oper.mk _ (Op.build 32 _) _ _ _ _ :: _) _ _); (refine L_bd rfl 32 _ rfl #[] (by kernel_rfl) (cat (partsF fw0)) (fun _ => by kernel_rfl) ?_); simp only [pA]) | ((with_reducible refine isLd 5 ?_); (refine L_f1 H rfl 5 _ rfl 1 rfl _ rfl _ rfl _ rfl Try.underlying5 rfl ?_); simp only [pA]) | (go_at_call 31; refine (HC.out _).mono ?_; rintro e wa ⟨rfl, hx⟩; replace H := kp (H.out.ext hx); have HXC := kp hx; clear hx) | ((with_reducible refine isSt 32 ?_); (refine L_sa H rfl rfl 32 _ _ rfl 0 rfl rfl (partsF fw0) rfl rfl (by kernel_rfl) ?_; clear H; intro wz HWwz H; simp only [szA] at H)))
   all_goals try (exfalso; simp_all; done)
   all_goals (exact ret_f3 H Try.results11 0 rfl rfl _ _ rfl rfl Try.underlying32 rfl (by kernel_rfl) rfl (resR_err HK.out H.out.1))
 ·have hb : (E == 0) = false := by simpa using h
  have hb2 : (E != 0) = true := by simpa using h
  go_wp2_with (first | ((with_reducible refine isBx 2 32 ?_); (refine L_box H rfl 32 _ rfl (cat (partsF s)) rfl ?_); clear H; intro g2 w2 HGg2 HEg2 H; simp only [pA]) | ((with_reducible refine isAl 4 32 ?_); (refine L_alloc H rfl 32 rfl (cat (partsF fw0)) (fun _ _ => by kernel_rfl) ?_); clear H; intro g4 w4 HGg4 HEg4 H; simp only [pA]) | ((with_reducible refine isLd 32 ?_); (refine L_fa H rfl 32 _ rfl 1 rfl rfl Try.underlying32 rfl (by kernel_rfl) ?_); simp only [pA]) | ((with_reducible show wpList _ _ _ (Oper.mk _ (Op.build 32 _) _ _ _ _ :: _) _ _); (refine L_bd rfl 32 _ rfl #[] (by kernel_rfl) (cat (partsF fw0)) (fun _ => by kernel_rfl) ?_); simp only [pA]) | (go_at_call 31; refine (HC.out _).mono ?_; rintro e wa ⟨rfl, hx⟩; replace H := kp (H.out.ext hx); have HXC := kp hx; clear hx) | ((with_reducible refine isSt 32 ?_); (refine L_sa H rfl rfl 32 _ _ rfl 0 rfl rfl (partsF fw0) rfl rfl (by kernel_rfl) ?_; clear H; intro wz HWwz H; simp only [szA] at H)))
  all_goals try (exfalso; omega)
  have HK := kp (HR0.out h)
  (exact ret_f3 H Try.results11 0 rfl rfl _ _ rfl rfl Try.underlying32 rfl (by kernel_rfl) rfl (resR_err HK.out H.out.1))
set_option maxRecDepth 4000 in
set_option maxHeartbeats 1600000 in
theorem rtick_any (s : Fw) (h0 : 0 ≤ s.stage) (now : Int) (w : World) : Calls Try.prog 14 #[.agg (cat (partsF s)).toArray, .int .i64 now] w (ResR (tickF s now) w) := by
 have H := kp (Loc.start w)
 have HC := kp (rbefore_any s h0 now)
 have HR0 := kp (show checkedF s now ≠ 0 → tickF s now = errR (checkedF s now) from fun h => by unfold tickF; rw [if_pos h])
 have HR1 := kp (fun (h : checkedF s now = 0) (h1 : s.due = 0 ∨ now < s.due) => tickF_still h h1)
 have HR2 := kp (fun (h : checkedF s now = 0) (h1 : ¬ (s.due = 0 ∨ now < s.due)) (h2 : s.tries = 4) => tickF_fail h h1 h2)
 have HR3 := kp (fun (h : checkedF s now = 0) (h1 : ¬ (s.due = 0 ∨ now < s.due)) (h2 : s.tries ≠ 4) => tickF_again h h1 h2)
 have HCZ := kp (fun h : checkedF s now = 0 => checked_zero h)
 generalize tickF s now = r at *
 generalize checkedF s now = E at *
 clear h0
 go_enter Try.func14, Try.ntmps14
 generalize h5 : (Code.region 5 _ _ : Code) = R5
 generalize h7 : (Code.region 7 _ _ : Code) = R7
 generalize h8 : (Code.region 8 _ _ : Code) = R8
 generalize h11 : (Code.region 11 _ _ : Code) = R11
 by_cases h : E = 0
 ·subst h
  obtain ⟨hck, hn0, hn1⟩ := HCZ.out rfl
  clear HCZ HR0
  by_cases hd : s.due = 0 ∨ now < s.due
  ·have HK := kp (HR1.out rfl hd)
   go_wp2_with (first | ((with_reducible refine isBx 2 32 ?_); (refine L_box H rfl 32 _ rfl (cat (partsF s)) rfl ?_); clear H; intro g2 w2 HGg2 HEg2 H; simp only [pA]) | ((with_reducible refine isAl 4 32 ?_); (refine L_alloc H rfl 32 rfl (cat (partsF fw0)) (fun _ _ => by kernel_rfl) ?_); clear H; intro g4 w4 HGg4 HEg4 H; simp only [pA]) | ((with_reducible refine isLd 32 ?_); (refine L_fa H rfl 32 _ rfl 1 rfl rfl Try.underlying32 rfl (by kernel_rfl) ?_); simp only [pA]) | ((with_reducible refine isLd 3 ?_); (refine L_f1 H rfl 3 _ rfl 1 rfl _ rfl _ rfl _ rfl Try.underlying3 rfl ?_); simp only [pA]) | (go_at_call 31; refine (HC.out _).mono ?_; rintro e wa ⟨rfl, hx⟩; replace H := kp (H.out.ext hx); have HXC := kp hx; clear hx))
   all_goals try (exfalso; simp_all; done)
   all_goals try (exfalso; omega)
   all_goals subst h5
   all_goals go_wp2_with (first | ((with_reducible refine isLd 32 ?_); (refine L_fa H rfl 32 _ rfl 1 rfl rfl Try.underlying32 rfl (by kernel_rfl) ?_); simp only [pA]) | ((with_reducible refine isSt 32 ?_); (refine L_sa H rfl rfl 32 _ _ rfl 0 rfl rfl (partsF s) rfl rfl (by kernel_rfl) ?_; clear H; intro wz HWwz H; simp only [szA] at H)))
   all_goals (exact ret_f3 H Try.results14 0 rfl rfl _ _ rfl rfl Try.underlying32 rfl (by kernel_rfl) rfl (resR_ok HK.out (SlBB.nil _ _) (Nat.le_refl _) H.out.1))
  ·have hd0 : ¬ s.due = 0 := fun e => hd (.inl e)
   have hd1 : ¬ now < s.due := fun e => hd (.inr e)
   have hst := check_stage hck hd0
   have hin := check_inst hck
   obtain ⟨⟨hq4, _⟩, hq, _⟩ := check_wait hck
   obtain ⟨_, hq1, hq2, hq3⟩ := hq hd0
   have hin0 : s.inst = 0 := by rw [hin]; rcases hst with e | e <;> rw [e] <;> rfl
   have hb0 : (s.due == 0) = false := by simpa using hd0
   by_cases h4 : s.tries = 4
   ·have HK := kp (HR2.out rfl hd h4)
    have h4b : (s.tries == 4) = true := by simp [h4]
    have HRS := kp (show r = ({ fw0 with role := s.role, stage := 5, own := s.own, peer := s.peer, master := s.master, mine := s.mine, replay := s.replay, gid := s.gid, gkey := s.gkey }, [], 0) by rw [HK.out, hin0]; rfl)
    have HBF := kp (build_F2 s.role s.own s.peer s.master s.mine s.replay s.gid s.gkey)
    clear hck hst hin hin0 hq1 hq2 hq3 hq4 h4 HK hd
    go_wp2_with (first | ((with_reducible refine isBx 2 32 ?_); (refine L_box H rfl 32 _ rfl (cat (partsF s)) rfl ?_); clear H; intro g2 w2 HGg2 HEg2 H; simp only [pA]) | ((with_reducible refine isAl 4 32 ?_); (refine L_alloc H rfl 32 rfl (cat (partsF fw0)) (fun _ _ => by kernel_rfl) ?_); clear H; intro g4 w4 HGg4 HEg4 H; simp only [pA]) | ((with_reducible refine isLd 32 ?_); (refine L_fa H rfl 32 _ rfl 1 rfl rfl Try.underlying32 rfl (by kernel_rfl) ?_); simp only [pA]) | ((with_reducible refine isLd 3 ?_); (refine L_f1 H rfl 3 _ rfl 1 rfl _ rfl _ rfl _ rfl Try.underlying3 rfl ?_); simp only [pA]) | (go_at_call 31; refine (HC.out _).mono ?_; rintro e wa ⟨rfl, hx⟩; replace H := kp (H.out.ext hx); have HXC := kp hx; clear hx))
    all_goals try (exfalso; omega)
    subst h7
    go_wp2_with (first | ((with_reducible refine isLd 3 ?_); (refine L_f1 H rfl 3 _ rfl 1 rfl _ rfl _ rfl _ rfl Try.underlying3 rfl ?_); simp only [pA]) | ((with_reducible refine isLd 5 ?_); (refine L_f1 H rfl 5 _ rfl 1 rfl _ rfl _ rfl _ rfl Try.underlying5 rfl ?_); simp only [pA]) | ((with_reducible refine isLd 23 ?_); (refine L_fv H rfl 23 _ rfl 1 rfl _ rfl _ rfl rfl Try.underlying23 rfl (by kernel_rfl) ?_); simp only [pA]) | ((with_reducible refine isLd 25 ?_); (refine L_fv H rfl 25 _ rfl 1 rfl _ rfl _ rfl rfl Try.underlying25 rfl (by kernel_rfl) ?_); simp only [pA]) | ((with_reducible refine isLd 26 ?_); (refine L_fv H rfl 26 _ rfl 1 rfl _ rfl _ rfl rfl Try.underlying26 rfl (by kernel_rfl) ?_); simp only [pA]) | ((with_reducible refine isLd 30 ?_); (refine L_fg H rfl 30 _ rfl 1 rfl _ rfl _ rfl (partsG s.gid s.gkey) rfl Try.underlying30 rfl (by kernel_rfl) ?_); simp only [pA]) | ((with_reducible show wpList _ _ _ (Oper.mk (some 42) (Op.build _ _) _ _ _ _ :: _) _ _); (refine L_bd rfl 32 _ rfl #[(0, .int .u8 s.role), (1, .int .u8 5), (2, .agg (s.own.1.map V8).toArray), (3, .agg (s.peer.1.map V8).toArray), (4, .agg (s.master.1.map V8).toArray), (5, .agg (s.mine.1.map V8).toArray), (7, .int .i64 s.replay), (11, .agg (cat (partsG s.gid s.gkey)).toArray)] (by kernel_rfl) (cat (partsF { fw0 with role := s.role, stage := 5, own := s.own, peer := s.peer, master := s.master, mine := s.mine, replay := s.replay, gid := s.gid, gkey := s.gkey })) HBF.out ?_); simp only [pA]) | ((with_reducible refine isSt 32 ?_); (refine L_sa H rfl rfl 32 _ _ rfl 0 rfl rfl (partsF { fw0 with role := s.role, stage := 5, own := s.own, peer := s.peer, master := s.master, mine := s.mine, replay := s.replay, gid := s.gid, gkey := s.gkey }) rfl rfl (by kernel_rfl) ?_; clear H; intro wz HWwz H; simp only [szA] at H)))
    (exact ret_f3 H Try.results14 0 rfl rfl _ _ rfl rfl Try.underlying32 rfl (by kernel_rfl) rfl (resR_ok HRS.out (SlBB.nil _ _) (Nat.le_refl _) H.out.1))
   ·have HK := kp (HR3.out rfl hd h4)
    have h4b : (s.tries == 4) = false := by simp [h4]
    obtain ⟨s', hs'⟩ : ∃ t, t = { s with tries := s.tries + 1, replay := s.replay + 1, due := now + 100000 } := ⟨_, rfl⟩
    have HRS := kp (show r = (s', [sendF s'], 0) by rw [hs']; exact HK.out)
    have HSD := kp (rsent_any s' (by rw [hs']; show 0 ≤ s.replay + 1; omega) (by rw [hs']; show s.replay + 1 < _; omega) (by rw [hs']; exact hst))
    have HS' := kp hs'
    clear hs' HK hck hst hin hin0 hd h4
    go_wp2_with (first | ((with_reducible refine isBx 2 32 ?_); (refine L_box H rfl 32 _ rfl (cat (partsF s)) rfl ?_); clear H; intro g2 w2 HGg2 HEg2 H; simp only [pA]) | ((with_reducible refine isAl 4 32 ?_); (refine L_alloc H rfl 32 rfl (cat (partsF fw0)) (fun _ _ => by kernel_rfl) ?_); clear H; intro g4 w4 HGg4 HEg4 H; simp only [pA]) | ((with_reducible refine isLd 32 ?_); (refine L_fa H rfl 32 _ rfl 1 rfl rfl Try.underlying32 rfl (by kernel_rfl) ?_); simp only [pA]) | ((with_reducible refine isLd 3 ?_); (refine L_f1 H rfl 3 _ rfl 1 rfl _ rfl _ rfl _ rfl Try.underlying3 rfl ?_); simp only [pA]) | (go_at_call 31; refine (HC.out _).mono ?_; rintro e wa ⟨rfl, hx⟩; replace H := kp (H.out.ext hx); have HXC := kp hx; clear hx))
    all_goals try (exfalso; omega)
    subst h8
    go_wp2_with (first | ((with_reducible refine isLd 3 ?_); (refine L_f1 H rfl 3 _ rfl 1 rfl _ rfl _ rfl _ rfl Try.underlying3 rfl ?_); simp only [pA]) | ((with_reducible refine isSt 3 ?_); (refine L_s1 H rfl rfl 3 _ _ rfl 1 rfl _ rfl _ rfl _ rfl rfl rfl rfl (by kernel_rfl) (_) rfl ?_; clear H; intro wc HWwc H; simp only [ssA, szA] at H)))
    have H2 := kp (show Loc w wc [(g4, 32, cat (partsF fw0)), (g2, 32, cat (partsF s'))] from by rw [HS'.out]; exact H.out)
    clear H
    have H := H2
    clear H2
    subst h11
    have HLT := kp (H.out.lt 0 rfl)
    have HSZ := kp H.out.1.size
    refine region_free H (tabS [(54, fun vQ _ => vQ = .agg (cat (partsF s')).toArray), (55, fun vQ _ => vQ = .agg (cat (partsF s')).toArray), (56, fun vQ wQ => SlBB wc.heap.size wQ vQ [sendF s']), (5, fun vQ wQ => SlBB wc.heap.size wQ vQ [sendF s']), (6, fun vQ _ => vQ = .int .i64 0)]) [⟨3, 0, g4, 32, cat (partsF fw0), cat (partsF s')⟩] (tabS_out _ _ (by simp only [List.forall_mem_cons, mono_eqO, true_and]; exact ⟨(mono_SlBB _ (lt1 HLT.out)), (mono_SlBB _ (lt1 HLT.out)), by simp⟩)) 6 (by kernel_rfl) (by kernel_rfl) (by kernel_rfl) (by kernel_rfl) [3] [0] rfl rfl (by decide) (by decide) (by decide) ⟨rfl, trivial⟩ ?_
    simp only [List.take_succ_cons, List.take_zero]
    refine ⟨fun w_ o_ S_ => ?_, fun v54 => ?_⟩
    ·clear S_
     have H := kp (H.out.keep [1] (St := [⟨3, 0, g4, 32, cat (partsF fw0), cat (partsF s')⟩]) ⟨rfl, trivial⟩ o_ (by decide) (by kernel_rfl))
     have HOX := kp o_
     clear o_
     go_wp2_with ((with_reducible refine isLd 32 ?_); (refine L_fa H rfl 32 _ rfl 0 rfl rfl Try.underlying32 rfl (by kernel_rfl) ?_); simp only [pA])
     exact kso
    simp only [pA]
    refine ⟨fun w_ o_ S_ => ?_, fun v55 => ?_⟩
    ·clear S_
     have H := kp (H.out.keep [1] (St := [⟨3, 0, g4, 32, cat (partsF fw0), cat (partsF s')⟩]) ⟨rfl, trivial⟩ o_ (by decide) (by kernel_rfl))
     have HOX := kp o_
     clear o_
     go_wp2_with ((with_reducible refine isLd 32 ?_); (refine L_fa H rfl 32 _ rfl 0 rfl rfl Try.underlying32 rfl (by kernel_rfl) ?_); simp only [pA])
     exact kso
    simp only [pA]
    refine ⟨fun w_ o_ S_ => ?_, fun v56 => ?_⟩
    ·obtain rfl : v55 = .agg (cat (partsF s')).toArray := hsR S_ 55 rfl
     clear S_
     have H := kp (H.out.keep [1] (St := [⟨3, 0, g4, 32, cat (partsF fw0), cat (partsF s')⟩]) ⟨rfl, trivial⟩ o_ (by decide) (by kernel_rfl))
     have HOX := kp o_
     clear o_
     go_wp2_with fail
     refine (HSD.out _).mono ?_
     rintro e w2 ⟨v, rfl, hs, hx⟩
     have HSL := kp (hs.weak HOX.out.size)
     have HXC := kp hx
     clear hs hx
     go_wp2_with fail
     exact ⟨rfl, _, rfl, fun d hd => by cases hd; exact HSL.out, HXC.out⟩
    simp only [pA]
    refine ⟨⟨rfl, rfl, fun ws3 hos3 hSs3 hLs3 => ?_⟩, ?_⟩
    ·obtain rfl : v54 = .agg (cat (partsF s')).toArray := hSs3 54 (by decide) (by decide)
     exact run_sto 32 _ _ rfl rfl rfl hLs3 (sizeFw _) (len_F _ _) (by simpa using cat_one (partsF s'))
    refine ⟨fun w_ o_ S_ => ?_, fun v5 => ?_⟩
    ·have h56 := kp (show SlBB wc.heap.size w_ v56 [sendF s'] from hsR S_ 56 rfl)
     clear S_ o_
     go_wp2_with fail
     exact ⟨rfl, _, rfl, fun d hd => by cases hd; exact h56.out, Ext.refl _⟩
    simp only [pA]
    refine ⟨fun w_ o_ S_ => ?_, fun v6 => ?_⟩
    ·clear S_
     clear o_
     go_wp2_with fail
     exact kso
    simp only [pA]
    clear H
    intro wy HOX H hfin
    obtain rfl : v54 = .agg (cat (partsF s')).toArray := hfin 54 (by decide)
    obtain rfl : v55 = .agg (cat (partsF s')).toArray := hfin 55 (by decide)
    have F56 := kp (show SlBB wc.heap.size wy v56 [sendF s'] from hfin 56 (by decide))
    have F5 := kp (show SlBB wc.heap.size wy v5 [sendF s'] from hfin 5 (by decide))
    obtain rfl : v6 = .int .i64 0 := hfin 6 (by decide)
    clear hfin
    simp only [List.drop_succ_cons, List.drop_zero]
    simp only [applyS] at H
    go_wp2_with fail
    (exact ret_f3 H Try.results14 0 rfl rfl _ _ rfl rfl Try.underlying32 rfl (by kernel_rfl) rfl (resR_ok HRS.out F5.out HSZ.out H.out.1))
 ·have hb : (E == 0) = false := by simpa using h
  have hb2 : (E != 0) = true := by simpa using h
  go_wp2_with (first | ((with_reducible refine isBx 2 32 ?_); (refine L_box H rfl 32 _ rfl (cat (partsF s)) rfl ?_); clear H; intro g2 w2 HGg2 HEg2 H; simp only [pA]) | ((with_reducible refine isAl 4 32 ?_); (refine L_alloc H rfl 32 rfl (cat (partsF fw0)) (fun _ _ => by kernel_rfl) ?_); clear H; intro g4 w4 HGg4 HEg4 H; simp only [pA]) | ((with_reducible refine isLd 32 ?_); (refine L_fa H rfl 32 _ rfl 1 rfl rfl Try.underlying32 rfl (by kernel_rfl) ?_); simp only [pA]) | ((with_reducible show wpList _ _ _ (Oper.mk _ (Op.build 32 _) _ _ _ _ :: _) _ _); (refine L_bd rfl 32 _ rfl #[] (by kernel_rfl) (cat (partsF fw0)) (fun _ => by kernel_rfl) ?_); simp only [pA]) | (go_at_call 31; refine (HC.out _).mono ?_; rintro e wa ⟨rfl, hx⟩; replace H := kp (H.out.ext hx); have HXC := kp hx; clear hx) | ((with_reducible refine isSt 32 ?_); (refine L_sa H rfl rfl 32 _ _ rfl 0 rfl rfl (partsF fw0) rfl rfl (by kernel_rfl) ?_; clear H; intro wz HWwz H; simp only [szA] at H)))
  all_goals try (exfalso; omega)
  have HK := kp (HR0.out h)
  (exact ret_f3 H Try.results14 0 rfl rfl _ _ rfl rfl Try.underlying32 rfl (by kernel_rfl) rfl (resR_err HK.out H.out.1))
theorem numLE_nat : ∀ l : By, ∃ n : Nat, numLE l = n ∧ n < 256 ^ l.length
 | [] => ⟨0, rfl, by simp⟩
 | x :: l => by
  obtain ⟨n, h1, h2⟩ := numLE_nat l
  have hx : x.toNat < 256 := x.isLt
  refine ⟨x.toNat + 256 * n, ?_, ?_⟩
  ·rw [numLE, h1]; unfold wI; omega
  ·rw [List.length_cons, Nat.pow_succ]; omega
theorem numLE_snoc (x : BitVec 8) : ∀ l : By, numLE (l ++ [x]) = numLE l + wI x * 256 ^ l.length
 | [] => by simp [numLE]
 | y :: l => by
  rw [List.cons_append, numLE, numLE, numLE_snoc x l, List.length_cons]
  rw [Int.mul_add, Int.pow_succ, Int.add_assoc]
  congr 2
  rw [Int.mul_comm, Int.mul_assoc]
theorem or_disj (a x k : Nat) (h : a < 2 ^ k) : a ||| x * 2 ^ k = a + x * 2 ^ k := by
 have := Nat.shiftLeft_add_eq_or_of_lt h x
 rw [Nat.shiftLeft_eq] at this
 rw [Nat.or_comm, ← this, Nat.add_comm]
def numTo (b : By) (j : Nat) : Int := numLE ((b.drop 1).take j)
theorem numTo_step (b : By) (j : Nat) (x : BitVec 8) (hj : j < 8) (hx : b[1 + j]? = some x) : bits .or .u64 (numTo b j) (IntKind.u64.wrap (IntKind.u64.wrap (wI x) * 2 ^ (8 * j))) = numTo b (j + 1) := by
 have hl : ((b.drop 1).take j).length = j := by
  have := (List.getElem?_eq_some_iff.1 hx).1
  simp; omega
 have he : (b.drop 1)[j]? = some x := by rw [List.getElem?_drop]; exact hx
 obtain ⟨n, h1, h2⟩ := numLE_nat ((b.drop 1).take j)
 rw [hl] at h2
 have e2 : numTo b (j + 1) = numTo b j + wI x * 256 ^ j := by
  unfold numTo
  rw [List.take_add_one, he, Option.toList_some, numLE_snoc, hl]
 have hp : (256 : Nat) ^ j = 2 ^ (8 * j) := by rw [Nat.pow_mul]
 have hxl : x.toNat < 256 := x.isLt
 have hb : x.toNat * 2 ^ (8 * j) < 2 ^ 64 := by
  have h8 : 2 ^ (8 * j) ≤ 2 ^ 56 := Nat.pow_le_pow_right (by decide) (by omega)
  calc x.toNat * 2 ^ (8 * j) < 256 * 2 ^ (8 * j) := Nat.mul_lt_mul_of_pos_right hxl (Nat.pow_pos (by decide))
   _ ≤ 256 * 2 ^ 56 := Nat.mul_le_mul_left _ h8
   _ = 2 ^ 64 := by decide
 have hn : n < 2 ^ 64 := by
  have : (256 : Nat) ^ j ≤ 256 ^ 7 := Nat.pow_le_pow_right (by decide) (by omega)
  have h9 : (256 : Nat) ^ 7 < 2 ^ 64 := by decide
  omega
 have hw1 : IntKind.u64.wrap (wI x) = (x.toNat : Int) := by
  unfold wI; rw [IntKind.wrap_u64]; omega
 have hw2 : IntKind.u64.wrap ((x.toNat : Int) * 2 ^ (8 * j)) = ((x.toNat * 2 ^ (8 * j) : Nat) : Int) := by
  rw [IntKind.wrap_u64, show ((x.toNat : Int) * 2 ^ (8 * j)) = ((x.toNat * 2 ^ (8 * j) : Nat) : Int) by rw [Int.natCast_mul, Int.natCast_pow]; rfl]
  omega
 rw [e2, hw1, hw2]
 show bits .or .u64 (numLE ((b.drop 1).take j)) _ = numLE ((b.drop 1).take j) + _
 rw [h1, u64_or_nat _ _ (by omega) (by omega), or_disj _ _ _ (by rw [← hp]; exact h2)]
 have hpi : (256 : Int) ^ j = ((2 ^ (8 * j) : Nat) : Int) := by rw [← hp, Int.natCast_pow]; rfl
 rw [hpi]; unfold wI; rw [Int.natCast_add, Int.natCast_mul]
theorem numTo_8 (b : By) : numTo b 8 = countP b := rfl
theorem count_nat (b : By) : ∃ n : Nat, countP b = n ∧ n < 2 ^ 64 := by
 obtain ⟨n, h1, h2⟩ := numLE_nat ((b.drop 1).take 8)
 refine ⟨n, h1, Nat.lt_of_lt_of_le h2 ?_⟩
 have : (256 : Nat) ^ ((b.drop 1).take 8).length ≤ 256 ^ 8 := Nat.pow_le_pow_right (by decide) (by simp; omega)
 exact Nat.le_trans this (by decide)
theorem count_and (b : By) : bits .and .u64 (countP b) 4611686018427387903 = countP b % 4611686018427387904 := by
 obtain ⟨n, h1, h2⟩ := count_nat b
 rw [h1, show (4611686018427387903 : Int) = ((2 ^ 62 - 1 : Nat) : Int) from rfl, u64_and_nat _ _ (by omega) (by decide), Nat.and_two_pow_sub_one_eq_mod]
 show ((n % 4611686018427387904 : Nat) : Int) = _
 omega
theorem or_i64 (a b : Nat) (ha : a < 4611686018427387904) (hb : b < 4611686018427387904) : bits .or .i64 (a : Int) (b : Int) = ((a ||| b : Nat) : Int) := by
 have hx : a ||| b < 2 ^ 62 := Nat.or_lt_two_pow (by omega) (by omega)
 have h1 : (BitVec.ofInt 64 (a : Int)).toNat = a := by
  rw [BitVec.ofInt_natCast, BitVec.toNat_ofNat]; exact Nat.mod_eq_of_lt (by omega)
 have h2 : (BitVec.ofInt 64 (b : Int)).toNat = b := by
  rw [BitVec.ofInt_natCast, BitVec.toNat_ofNat]; exact Nat.mod_eq_of_lt (by omega)
 show IntKind.i64.wrap ((BitVec.ofInt 64 (a : Int) ||| BitVec.ofInt 64 (b : Int)).toNat : Int) = _
 rw [BitVec.toNat_or, h1, h2, IntKind.wrap_i64]
 omega
theorem said_or (x y : BitVec 8) : bits .or .i64 (wI x) (wI y * 256) = wI x + 256 * wI y := by
 have hx : x.toNat < 2 ^ 8 := x.isLt
 have hy : y.toNat < 256 := y.isLt
 unfold wI
 rw [show ((y.toNat : Int) * 256) = ((y.toNat * 2 ^ 8 : Nat) : Int) by rw [Int.natCast_mul]; rfl, or_i64 _ _ (by omega) (by omega), or_disj _ _ _ hx]
 show ((x.toNat + y.toNat * 256 : Nat) : Int) = _
 omega
def cntTo (b : By) (i : Nat) : Int := numLE ((b.drop (i + 1)).take (8 - i))
theorem cntTo_0 (b : By) : cntTo b 0 = countP b := rfl
theorem cntTo_8 (b : By) : cntTo b 8 = 0 := by unfold cntTo; simp [numLE]
theorem cntTo_step {b : By} {i : Nat} (h1 : 1 ≤ i) (h8 : i ≤ 8) {x : BitVec 8} (hx : b[i]? = some x) : cntTo b (i - 1) = 256 * cntTo b i + wI x := by
 unfold cntTo
 obtain ⟨hl, hx2⟩ := List.getElem?_eq_some_iff.1 hx
 rw [show i - 1 + 1 = i by omega, show 8 - (i - 1) = (8 - i) + 1 by omega, List.drop_eq_getElem_cons hl, hx2, List.take_succ_cons]
 show wI x + 256 * numLE _ = _
 omega
theorem cntTo_lt {b : By} (h9 : 9 ≤ b.length) (h : wI (b.getD 8 0) < 64) {i : Nat} (h8 : i ≤ 8) : 0 ≤ cntTo b i ∧ (i ≤ 7 → cntTo b i < 64 * 256 ^ (7 - i)) := by
 obtain ⟨n, hn, hlt⟩ := numLE_nat ((b.drop (i + 1)).take (8 - i))
 refine ⟨by unfold cntTo; rw [hn]; exact Int.natCast_nonneg n, fun h7 => ?_⟩
 obtain ⟨x, hx⟩ : ∃ x, b[8]? = some x := ⟨_, List.getElem?_eq_getElem (by omega)⟩
 have hx0 : wI x < 64 := by rw [List.getD_eq_getElem?_getD, hx] at h; exact h
 have e : (b.drop (i + 1)).take (8 - i) = (b.drop (i + 1)).take (7 - i) ++ [x] := by
  rw [show 8 - i = (7 - i) + 1 by omega, List.take_add_one, List.getElem?_drop, show i + 1 + (7 - i) = 8 by omega, hx]; rfl
 obtain ⟨m, hm, hmlt⟩ := numLE_nat ((b.drop (i + 1)).take (7 - i))
 have hl : ((b.drop (i + 1)).take (7 - i)).length = 7 - i := by simp; omega
 unfold cntTo
 rw [e, numLE_snoc, hm, hl]
 rw [hl] at hmlt
 have h0 : 0 ≤ wI x := by unfold wI; omega
 generalize hp : (256 : Nat) ^ (7 - i) = p at *
 have hpz : (256 : Int) ^ (7 - i) = (p : Int) := by rw [← hp]; exact (Int.natCast_pow 256 _).symm
 rw [hpz]
 have h1 : wI x * (p : Int) ≤ 63 * (p : Int) := Int.mul_le_mul_of_nonneg_right (by omega) (by omega)
 omega
theorem count_big (b : By) (h9 : 9 ≤ b.length) (h : 64 ≤ wI (b.getD 8 0)) : 4611686018427387904 ≤ countP b := by
 obtain ⟨x, hx⟩ : ∃ x, b[8]? = some x := ⟨_, List.getElem?_eq_getElem (by omega)⟩
 have hx0 : 64 ≤ wI x := by rw [List.getD_eq_getElem?_getD, hx] at h; exact h
 have e : (b.drop 1).take (7 + 1) = (b.drop 1).take 7 ++ [x] := by
  rw [List.take_add_one, List.getElem?_drop, hx]; rfl
 obtain ⟨m, hm, hmlt⟩ := numLE_nat ((b.drop 1).take 7)
 have hl : ((b.drop 1).take 7).length = 7 := by simp; omega
 unfold countP
 rw [e, numLE_snoc, hm, hl]
 have : (256 : Int) ^ 7 = 72057594037927936 := by decide
 rw [this]
 omega
def bad1P (b : By) : Prop := 64 ≤ wI (b.getD 8 0) ∨ kindP b < 1 ∨ 4 < kindP b
def bad2P (b : By) : Prop := saidP b ≠ (b.length : Int) - 43 ∨ (kindP b = 3 ∧ saidP b ≠ 25) ∨ (kindP b ≠ 3 ∧ saidP b ≠ 0)
theorem data_len (b : By) : (dataP b).length = b.length - 43 := by unfold dataP; simp; omega
theorem odd_false {b : By} (h43 : 43 ≤ b.length) : oddP b = false ↔ ¬ bad1P b ∧ ¬ bad2P b ∧ ¬ (kindP b = 4 ∧ nonceP b ≠ zv 16) ∧ ¬ (kindP b = 1 ∧ b.drop (b.length - 16) ≠ (zv 16).1) := by
 have hc : 4611686018427387904 ≤ countP b ↔ 64 ≤ wI (b.getD 8 0) := by
  constructor
  ·intro h
   rcases Int.lt_or_le (wI (b.getD 8 0)) 64 with q | q
   ·have := (cntTo_lt (by omega) q (i := 0) (by omega)).2 (by omega)
    rw [cntTo_0] at this
    have e : (64 : Int) * 256 ^ (7 - 0) = 4611686018427387904 := by decide
    rw [e] at this; omega
   ·exact q
  ·exact count_big b (by omega)
 have hd := data_len b
 have hdi : ((dataP b).length : Int) = (b.length : Int) - 43 := by omega
 unfold oddP bad1P bad2P wantP
 rw [hdi]
 clear hd hdi
 generalize kindP b = kd at *
 generalize saidP b = sd at *
 by_cases hp : nonceP b = zv 16
 ·by_cases hq : b.drop (b.length - 16) = (zv 16).1
  ·by_cases k3 : kd = 3
   ·simp [hp, hq, hc, k3]; omega
   ·simp [hp, hq, hc, k3]; omega
  ·by_cases k3 : kd = 3
   ·simp [hp, hq, hc, k3]; omega
   ·simp [hp, hq, hc, k3]; omega
 ·by_cases hq : b.drop (b.length - 16) = (zv 16).1
  ·by_cases k3 : kd = 3
   ·simp [hp, hq, hc, k3]; omega
   ·simp [hp, hq, hc, k3]; omega
  ·by_cases k3 : kd = 3
   ·simp [hp, hq, hc, k3]; omega
   ·simp [hp, hq, hc, k3]; omega
theorem parseE_12 {b : By} (h43 : 43 ≤ b.length) (h : bad1P b ∨ bad2P b ∨ (kindP b = 4 ∧ nonceP b ≠ zv 16) ∨ (kindP b = 1 ∧ b.drop (b.length - 16) ≠ (zv 16).1)) : parseE b = 12 := by
 unfold parseE
 rw [if_neg (by omega)]
 cases ho : oddP b with
 | true => rfl
 | false =>
  obtain ⟨h1, h2, h3, h4⟩ := (odd_false h43).1 ho
  rcases h with h | h | h | h
  ·exact absurd h h1
  ·exact absurd h h2
  ·exact absurd h h3
  ·exact absurd h h4
theorem parseE_0 {b : By} (h43 : 43 ≤ b.length) (h1 : ¬ bad1P b) (h2 : ¬ bad2P b) (h3 : ¬ (kindP b = 4 ∧ nonceP b ≠ zv 16)) (h4 : ¬ (kindP b = 1 ∧ b.drop (b.length - 16) ≠ (zv 16).1)) : parseE b = 0 := by
 unfold parseE
 rw [if_neg (by omega), (odd_false h43).2 ⟨h1, h2, h3, h4⟩]; rfl
end Go.Proofs.Ytibncchobkaaiaa
