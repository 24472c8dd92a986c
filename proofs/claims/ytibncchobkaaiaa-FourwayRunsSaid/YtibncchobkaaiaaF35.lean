/- Texts of this proof, put together: Hnd. -/
import Derived.Test.YtibncchobkaaiaaF33
import Derived.Test.YtibncchobkaaiaaF34
import Derived.Test.YtibncchobkaaiaaF1
namespace Go.Proofs.Ytibncchobkaaiaa
open Go.RowKit
theorem hnd_cases (q : Pl) : (hndF q = none ∧ ∀ x ∈ hk, q ≠ x.2.1) ∨ ∃ x ∈ hk, q = x.2.1 ∧ hndF q = some x.2.2 := by
 unfold hndF
 cases hc : hk.find? fun y => decide (q = y.2.1) with
 | none => exact .inl ⟨rfl, fun x hx e => absurd (List.find?_eq_none.1 hc x hx) (by simp [e])⟩
 | some y =>
  have y1 := List.find?_some hc
  exact .inr ⟨y, List.mem_of_find?_eq_some hc, of_decide_eq_true y1, rfl⟩
theorem hnd_fn {q : Pl} {F : Nat} (h : hndF q = some F) : F = 51 ∨ F = 52 ∨ F = 53 ∨ F = 54 := by
 rcases hnd_cases q with ⟨h1, _⟩ | ⟨x, hx, _, h2⟩
 ·rw [h1] at h; cases h
 ·rw [h2] at h
  cases h
  simp only [hk, List.mem_cons, List.not_mem_nil, or_false] at hx
  rcases hx with rfl | rfl | rfl | rfl | rfl | rfl <;> simp
theorem parse_len {b : By} (h : parseE b = 0) : 43 ≤ b.length ∧ ((dataP b).length : Int) = wantP b := by
 unfold parseE at h
 split at h
 ·exact absurd h (by decide)
 ·rename_i q0
  refine ⟨by omega, ?_⟩
  split at h
  ·exact absurd h (by decide)
  ·rename_i q
   have q : oddP b = false := by simpa using q
   unfold oddP at q
   simp only [Bool.or_eq_false_iff, decide_eq_false_iff_not] at q
   obtain ⟨⟨⟨⟨⟨⟨_, _⟩, _⟩, _⟩, q5⟩, _⟩, _⟩ := q
   exact Classical.not_not.1 q5
theorem hnd_any {s : Fw} {b : By} {now : Int} (hc : checkedF s now = 0) (hp : parseE b = 0) (hb : b.length ≤ 100000) (ad : Option Addr) (n c rb ro rn rc : Nat) (hcap : CapOk (.slice ad n c)) :
  (hndF (s.role, s.stage, kindP b) = none ∧ handleF s b now = errR 20) ∨
  ∃ F, hndF (s.role, s.stage, kindP b) = some F ∧ ((handleF s b now).2.2 ≠ 0 → handleF s b now = errR (handleF s b now).2.2) ∧
   ∀ w, SlB w (.slice ad n c) (dataP b) → SlB w (.slice (some ⟨rb, ro, none⟩) rn rc) b → Calls Try.prog F #[.agg (cat (partsF s)).toArray, .agg (cat (partsM (kindP b) (countP b) (nonceP b) ad n c)).toArray, .slice (some ⟨rb, ro, none⟩) rn rc, .int .i64 now] w (HanR (handleF s b now) w) := by
 obtain ⟨hk1, hn0, hn1⟩ := checked_zero hc
 obtain ⟨⟨hr0, hr1⟩, _, _⟩ := check_wait hk1
 obtain ⟨hl, hw⟩ := parse_len hp
 have hdl : (dataP b).length ≤ 100000 := by unfold dataP; rw [List.length_take, List.length_drop]; omega
 have e0 : handleF s b now = if s.role = 1 ∧ s.stage = 1 ∧ kindP b = 2 then secondF s b now
   else if s.role = 1 ∧ s.stage = 3 ∧ kindP b = 4 then fourthF s b
   else if s.role = 2 ∧ (s.stage = 0 ∨ s.stage = 2) ∧ kindP b = 1 then firstF s b
   else if s.role = 2 ∧ (s.stage = 2 ∨ s.stage = 4) ∧ kindP b = 3 then thirdF s b
   else errR 20 := by unfold handleF; rw [if_neg (by omega), if_neg (by omega)]
 have en2 : (secondF s b now).2.2 ≠ 0 → secondF s b now = errR (secondF s b now).2.2 := fun h => by
  unfold secondF at h ⊢
  by_cases c : secondE s b ≠ 0
  ·rw [if_pos c]; rfl
  ·rw [if_neg c] at h; exact absurd rfl h
 have en4 : (fourthF s b).2.2 ≠ 0 → fourthF s b = errR (fourthF s b).2.2 := fun h => by
  unfold fourthF at h ⊢
  by_cases c : fourthE s b ≠ 0
  ·rw [if_pos c]; rfl
  ·rw [if_neg c] at h; exact absurd rfl h
 have en3 : (thirdF s b).2.2 ≠ 0 → thirdF s b = errR (thirdF s b).2.2 := fun h => by
  unfold thirdF at h ⊢
  by_cases c : thirdE s b ≠ 0
  ·rw [if_pos c]; rfl
  ·rw [if_neg c] at h; exact absurd rfl h
 have en1 : (firstF s b).2.2 ≠ 0 → firstF s b = errR (firstF s b).2.2 := fun h => absurd rfl h
 rcases hnd_cases (s.role, s.stage, kindP b) with ⟨h1, h2⟩ | ⟨x, hx, h1, h2⟩
 ·refine .inl ⟨h1, ?_⟩
  have g1 := h2 (2, (1, 1, 2), 51) (by decide)
  have g2 := h2 (4, (1, 3, 4), 52) (by decide)
  have g3 := h2 (6, (2, 0, 1), 53) (by decide)
  have g4 := h2 (8, (2, 2, 1), 53) (by decide)
  have g5 := h2 (10, (2, 2, 3), 54) (by decide)
  have g6 := h2 (12, (2, 4, 3), 54) (by decide)
  simp only [ne_eq, Prod.mk.injEq] at g1 g2 g3 g4 g5 g6
  rw [e0, if_neg g1, if_neg g2, if_neg (by omega), if_neg (by omega)]
 ·refine .inr ⟨x.2.2, h2, ?_⟩
  rw [e0]
  simp only [hk, List.mem_cons, List.not_mem_nil, or_false] at hx
  rcases hx with rfl | rfl | rfl | rfl | rfl | rfl <;> (simp only [Prod.mk.injEq] at h1; obtain ⟨q1, q2, q3⟩ := h1)
  ·rw [if_pos ⟨q1, q2, q3⟩]
   exact ⟨en2, fun w hs hr => second_any s b ad n c rb ro rn rc hdl now hn0 hn1 hr0 hr1 w hs hr⟩
  ·rw [if_neg (by omega), if_pos ⟨q1, q2, q3⟩]
   exact ⟨en4, fun w hs hr => fourth_any s b ad n c rb ro rn rc hdl now w hs hr⟩
  ·rw [if_neg (by omega), if_neg (by omega), if_pos ⟨q1, .inl q2, q3⟩]
   exact ⟨en1, fun w hs hr => first_any s b ad n c _ now w⟩
  ·rw [if_neg (by omega), if_neg (by omega), if_pos ⟨q1, .inr q2, q3⟩]
   exact ⟨en1, fun w hs hr => first_any s b ad n c _ now w⟩
  ·rw [if_neg (by omega), if_neg (by omega), if_neg (by omega), if_pos ⟨q1, .inl q2, q3⟩]
   exact ⟨en3, fun w hs hr => third_any s b ad n c rb ro rn rc (by unfold wantP at hw; rw [if_pos q3] at hw; omega) now w hs hcap hr⟩
  ·rw [if_neg (by omega), if_neg (by omega), if_neg (by omega), if_pos ⟨q1, .inr q2, q3⟩]
   exact ⟨en3, fun w hs hr => third_any s b ad n c rb ro rn rc (by unfold wantP at hw; rw [if_pos q3] at hw; omega) now w hs hcap hr⟩
set_option maxRecDepth 4000 in
set_option maxHeartbeats 1600000 in
theorem handle_short (s : Fw) (b : By) (ad : Option Addr) (n c : Nat) (hn : n = b.length) (h43 : b.length < 43) (now : Int) (w : World) : Calls Try.prog 15 #[.agg (cat (partsF s)).toArray, .slice ad n c, .int .i64 now] w (ResR (handleF s b now) w) := by
 have H := kp (Loc.start w)
 have HC := kp (checked_any s now)
 have HP := kp (fun w => parse_short ad n c b hn h43 w)
 have he : parseE b = 10 := by simp [parseE, h43]
 have HR0 := kp (show checkedF s now ≠ 0 → handleF s b now = errR (checkedF s now) from fun h => by unfold handleF; rw [if_pos h])
 have HR1 := kp (show checkedF s now = 0 → handleF s b now = errR 10 from fun h => by unfold handleF; rw [if_neg (by omega), if_pos (by rw [he]; decide), he])
 have HPE := kp he
 clear hn h43 he
 generalize handleF s b now = r at *
 generalize checkedF s now = E at *
 go_enter Try.func15, Try.ntmps15
 generalize h7 : ((Code.region 7 _ _ : Code).seq _) = R7
 go_wp2_with (first | ((with_reducible refine isBx 3 32 ?_); (refine L_box H rfl 32 _ rfl (cat (partsF s)) rfl ?_); clear H; intro g3 w3 HGg3 HEg3 H; simp only [pA]) | ((with_reducible refine isAl 6 32 ?_); (refine L_alloc H rfl 32 rfl (cat (partsF fw0)) (fun _ _ => by kernel_rfl) ?_); clear H; intro g6 w6 HGg6 HEg6 H; simp only [pA]) | ((with_reducible refine isLd 32 ?_); (refine L_fa H rfl 32 _ rfl 1 rfl rfl Try.underlying32 rfl (by kernel_rfl) ?_); simp only [pA]) | ((with_reducible show wpList _ _ _ (Oper.mk _ (Op.build 32 _) _ _ _ _ :: _) _ _); (refine L_bd rfl 32 _ rfl #[] (by kernel_rfl) (cat (partsF fw0)) (fun _ => by kernel_rfl) ?_); simp only [pA]) | (go_at_call 29; refine (HC.out _).mono ?_; rintro e wa ⟨rfl, hx⟩; replace H := kp (H.out.ext hx); have HXC := kp hx; clear hx) | ((with_reducible refine isSt 32 ?_); (first | (refine L_sa H rfl rfl 32 _ _ rfl 0 rfl rfl (partsF fw0) rfl rfl (by kernel_rfl) ?_; clear H; intro wz HWwz H; simp only [szA] at H) | (refine L_sa H rfl rfl 32 _ _ rfl 1 rfl rfl (partsF fw0) rfl rfl (by kernel_rfl) ?_; clear H; intro wz HWwz H; simp only [ssA, szA] at H))) | (go_at_call 33; refine (HP.out _).mono ?_; rintro e wa ⟨kind, count, nonce, da, dn, dc, rfl, hx, hf⟩; rw [HPE.out]; clear hf; replace H := kp (H.out.ext hx); have HXC := kp hx; clear hx) | ((with_reducible refine isAl 10 78 ?_); (refine L_alloc H rfl 78 rfl (cat (partsM 0 0 (zv 16) none 0 0)) (fun _ _ => by kernel_rfl) ?_); clear H; intro g10 w10 HGg10 HEg10 H; simp only [pA]) | ((with_reducible refine isSt 78 ?_); refine L_sa H rfl rfl 78 _ _ rfl 0 rfl rfl (partsM kind count nonce da dn dc) rfl rfl (by kernel_rfl) ?_; clear H; intro wm HWwm H; simp only [szA] at H))
 ·rename (E != 0) = true => h
  have HK := kp (HR0.out (by simpa using h))
  (exact ret_f3 H Try.results15 0 rfl rfl _ _ rfl rfl Try.underlying32 rfl (by kernel_rfl) rfl (resR_err HK.out H.out.1))
 ·rename (E != 0) = false => h
  have HK := kp (HR1.out (by simpa using h))
  (exact ret_f3 H Try.results15 1 rfl rfl _ _ rfl rfl Try.underlying32 rfl (by kernel_rfl) rfl (resR_err HK.out H.out.1))
theorem mono_HMap : MonoO [] HMap := fun _ _ _ ⟨m, l, h1, h2, h3⟩ ho => ⟨m, l, h1, by
 rw [ho.block m (Array.getElem?_eq_some_iff.1 h2).1 (by simp)]; exact h2, h3⟩
theorem look_hnd {l : List En3} (h : Hes [] l) (q : Pl) : (if true then Value.tuple #[((findQ q l 0).map (·.2)).getD .nilFunc, .bool (findQ q l 0).isSome] else ((findQ q l 0).map (·.2)).getD .nilFunc) = .tuple #[((hndF q).map fnV).getD .nilFunc, .bool (hndF q).isSome] := by
 have h1 := findQ_full h q
 have h2 : (findQ q l 0).isSome = (hndF q).isSome := by
  have := congrArg Option.isSome h1
  simpa using this
 rw [h1, h2]; rfl
theorem L_lk2 {P : Program} {ops : Array Oper} {rest : List Oper} {o : Oper} {a : Act} {w : World} {Q : Exit → Act → World → Prop} (hg : o.guard = none) (t : TypeId) (x y : Operand) (c : Bool) (ho : o.op = .lookup t x y c) (K E : TypeId) (hu : P.underlying t = some (.map K E)) {m : Nat} {es : List MapEntry} (hm : w.heap[m]? = some (.map es.toArray es.length)) (hx : a.eval x = .map (some m)) (k : Value) (hy : a.eval y = k)
  (hc : ∀ b w, (Instr.checkKey b 10000 K k).run P w = .ok () w) (r : Option (Nat × Value)) (hf : ∀ w, (Instr.findKey K k es).run P w = .ok r w) (z : Value) (hz : ∀ w, (zeroValue E).run P w = .ok z w) (u : Value) (hv : (if c then .tuple #[(r.map (·.2)).getD z, .bool r.isSome] else (r.map (·.2)).getD z) = u)
  (h : wpList P ops Q rest (a.put o.dst u) w) : wpList P ops Q (o :: rest) a w := by
 refine L_lk (w0 := { w with heap := #[] }) hg t x y c ho K E hu (kp ⟨?_, hm⟩) hx k hy hc r hf z hz u hv h
 exact Nat.zero_le _
theorem owns_past {w w1 w2 : World} {base E n g : Nat} {v : Value} {xs : List Value} (h : w.ownsRow base E 1 v n xs) (hx : Ext w w1) (hw : Wrote w1 w2 g) (hg : w.heap.size ≤ g) : w2.ownsRow base E 1 v n xs := by
 have h1 := owns_ext h hx
 obtain ⟨ds, rfl⟩ := hw
 obtain ⟨a1, a2 | ⟨b, cap, cur, h3, hb, hh, h4⟩⟩ := h
 ·exact ⟨a1, .inl a2⟩
 ·refine ⟨a1, .inr ⟨b, cap, cur, h3, hb, ?_, h4⟩⟩
  have hlt := (Array.getElem?_eq_some_iff.1 hh).1
  rw [setRow_other w1 g b ds (by omega)]
  exact ext_heap hx hh
theorem SlBB.past {B : Nat} {w w1 w2 : World} {g : Nat} {v : Value} {ls : List By} (h : SlBB B w v ls) (hx : Ext w w1) (hw : Wrote w1 w2 g) (hg : w.heap.size ≤ g) : SlBB B w2 v ls := by
 obtain ⟨vs, h1, h2, h3⟩ := h
 exact ⟨vs, owns_past h1 hx hw hg, h2, fun j u l hu hl => owns_past (h3 j u l hu hl) hx hw hg⟩
theorem Wrote.out {w w' : World} {g : Nat} (h : Wrote w w' g) : Out [g] w w' := by obtain ⟨ds, rfl⟩ := h; exact Out.set (by simp) w _
set_option maxRecDepth 4000 in
set_option maxHeartbeats 3200000 in
theorem handle_long (s : Fw) (b : By) (rb ro rn rc : Nat) (h43 : ¬ b.length < 43) (hb : b.length ≤ 100000) (now : Int) (w : World) (hs : SlB w (.slice (some ⟨rb, ro, none⟩) rn rc) b) (hcap : CapOk (.slice (some ⟨rb, ro, none⟩) rn rc)) : Calls Try.prog 15 #[.agg (cat (partsF s)).toArray, .slice (some ⟨rb, ro, none⟩) rn rc, .int .i64 now] w (ResR (handleF s b now) w) := by
 have H := kp (Loc.start w)
 have HC := kp (checked_any s now)
 have HP := kp (fun w hs => parse_any (some ⟨rb, ro, none⟩) rn rc b h43 hb w hs hcap)
 have HS := kp hs
 have HR0 := kp (show checkedF s now ≠ 0 → handleF s b now = errR (checkedF s now) from fun h => by unfold handleF; rw [if_pos h])
 have HR1 := kp (show checkedF s now = 0 → parseE b ≠ 0 → handleF s b now = errR (parseE b) from fun h h1 => by unfold handleF; rw [if_neg (by omega), if_pos h1])
 have HHN := kp (fun (hc : checkedF s now = 0) (hp : parseE b = 0) ad n c => hnd_any (s := s) (now := now) hc hp hb ad n c rb ro rn rc)
 clear hs hcap h43 hb
 generalize handleF s b now = r at *
 generalize checkedF s now = E at *
 go_enter Try.func15, Try.ntmps15
 generalize h7 : (Code.region 7 _ _ : Code) = R7
 go_wp2_with (first | ((with_reducible refine isBx 3 32 ?_); (refine L_box H rfl 32 _ rfl (cat (partsF s)) rfl ?_); clear H; intro g3 w3 HGg3 HEg3 H; simp only [pA]) | ((with_reducible refine isAl 6 32 ?_); (refine L_alloc H rfl 32 rfl (cat (partsF fw0)) (fun _ _ => by kernel_rfl) ?_); clear H; intro g6 w6 HGg6 HEg6 H; simp only [pA]) | ((with_reducible refine isLd 32 ?_); (refine L_fa H rfl 32 _ rfl 1 rfl rfl Try.underlying32 rfl (by kernel_rfl) ?_); simp only [pA]) | ((with_reducible show wpList _ _ _ (Oper.mk _ (Op.build 32 _) _ _ _ _ :: _) _ _); (refine L_bd rfl 32 _ rfl #[] (by kernel_rfl) (cat (partsF fw0)) (fun _ => by kernel_rfl) ?_); simp only [pA]) | (go_at_call 29; refine (HC.out _).mono ?_; rintro e wa ⟨rfl, hx⟩; replace H := kp (H.out.ext hx); have HXC := kp hx; clear hx) | ((with_reducible refine isSt 32 ?_); (first | (refine L_sa H rfl rfl 32 _ _ rfl 0 rfl rfl (partsF fw0) rfl rfl (by kernel_rfl) ?_; clear H; intro wz HWwz H; simp only [szA] at H) | (refine L_sa H rfl rfl 32 _ _ rfl 1 rfl rfl (partsF fw0) rfl rfl (by kernel_rfl) ?_; clear H; intro wz HWwz H; simp only [ssA, szA] at H))) | (go_at_call 33; refine (HP.out _ (HS.out.ext H.out.1)).mono ?_; rintro e wa ⟨kind, count, nonce, da, dn, dc, rfl, hx, hf⟩; have HPF := kp hf; clear hf; replace H := kp (H.out.ext hx); have HXC := kp hx; clear hx) | ((with_reducible refine isAl 10 78 ?_); (refine L_alloc H rfl 78 rfl (cat (partsM 0 0 (zv 16) none 0 0)) (fun _ _ => by kernel_rfl) ?_); clear H; intro g10 w10 HGg10 HEg10 H; simp only [pA]) | ((with_reducible refine isSt 78 ?_); refine L_sa H rfl rfl 78 _ _ rfl 0 rfl rfl (partsM kind count nonce da dn dc) rfl rfl (by kernel_rfl) ?_; clear H; intro wm HWwm H; simp only [szA] at H))
 ·rename (E != 0) = true => h
  have HK := kp (HR0.out (by simpa using h))
  (exact ret_f3 H Try.results15 0 rfl rfl _ _ rfl rfl Try.underlying32 rfl (by kernel_rfl) rfl (resR_err HK.out H.out.1))
 ·rename (E != 0) = false => h
  rename (parseE b != 0) = true => h2
  have HK := kp (HR1.out (by simpa using h) (by simpa using h2))
  (exact ret_f3 H Try.results15 1 rfl rfl _ _ rfl rfl Try.underlying32 rfl (by kernel_rfl) rfl (resR_err HK.out H.out.1))
 ·rename (E != 0) = false => h
  rename (parseE b != 0) = false => h2
  have hE : E = 0 := by simpa using h
  have hPE : parseE b = 0 := by simpa using h2
  obtain ⟨rfl, rfl, rfl, hsd, hcd⟩ := HPF.out hPE
  have HHN := kp (HHN.out hE hPE da dn dc hcd)
  have HSD := kp (hsd.past HEg10.out HWwm.out (by have := HGg10.out; omega))
  clear h h2 hE hPE hsd hcd HPF HR0 HR1
  rcases HHN.out with ⟨h1, h2⟩ | ⟨F, h1, h2, h3⟩
  ·have HLK := kp (fun l (hl : Hes [] l) => look_hnd hl (s.role, s.stage, kindP b))
   rw [h1] at HLK
   have HK := kp h2
   clear h1 h2 HHN
   subst h7
   refine region_free H (tabS [(33, fun vQ wQ => HMap vQ wQ), (34, fun vQ _ => vQ = .pointer (some ⟨g3, 0, none⟩)), (35, fun vQ _ => vQ = .int .u8 s.role), (36, fun vQ _ => vQ = .pointer (some ⟨g3, 1, none⟩)), (37, fun vQ _ => vQ = .int .u8 s.stage), (38, fun vQ _ => vQ = .pointer (some ⟨g10, 0, none⟩)), (39, fun vQ _ => vQ = .int .u8 (kindP b)), (40, fun vQ _ => vQ = plV (s.role, s.stage, kindP b)), (41, fun vQ _ => vQ = .tuple #[.nilFunc, .bool false]), (32, fun vQ _ => vQ = .tuple #[.nilFunc, .bool false]), (42, fun vQ _ => vQ = .nilFunc), (43, fun vQ _ => vQ = .bool false), (12, fun vQ _ => vQ = .nilFunc), (13, fun vQ _ => vQ = .bool false)]) [] (tabS_out _ _ (by simp only [List.forall_mem_cons, mono_eqO, true_and]; exact ⟨mono_HMap, by simp⟩)) 14 (by kernel_rfl) (by kernel_rfl) (by kernel_rfl) (by kernel_rfl) [] [] rfl rfl (by decide) (by decide) (by decide) trivial ?_
   simp only [List.take_succ_cons, List.take_zero]
   refine ⟨fun w_ o_ S_ => ?_, fun v33 => ?_⟩
   ·clear S_
    have H := kp (kK [0, 1, 2] H o_)
    have HOX := kp o_
    clear o_
    go_wp2_with fail
    refine (handlers_any _).mono ?_
    rintro e w2 ⟨v, rfl, hm, hx⟩
    have HM := kp hm
    have HXC := kp hx
    clear hm hx
    go_wp2_with fail
    exact ⟨rfl, _, rfl, fun d hd => by cases hd; exact HM.out, HXC.out⟩
   simp only [pA]
   refine ⟨fun w_ o_ S_ => ?_, fun v34 => ?_⟩
   ·clear S_
    clear o_
    go_wp2_with fail
    exact kso
   simp only [pA]
   refine ⟨fun w_ o_ S_ => ?_, fun v35 => ?_⟩
   ·obtain rfl : v34 = .pointer (some ⟨g3, 0, none⟩) := hsR S_ 34 rfl
    clear S_
    have H := kp (kK [0, 1, 2] H o_)
    have HOX := kp o_
    clear o_
    go_wp2_with ((with_reducible refine isLd 5 ?_); (refine L_f1 H rfl 5 _ rfl 2 rfl _ rfl _ rfl _ rfl Try.underlying5 rfl ?_); simp only [pA])
    exact kso
   simp only [pA]
   refine ⟨fun w_ o_ S_ => ?_, fun v36 => ?_⟩
   ·clear S_
    clear o_
    go_wp2_with fail
    exact kso
   simp only [pA]
   refine ⟨fun w_ o_ S_ => ?_, fun v37 => ?_⟩
   ·obtain rfl : v36 = .pointer (some ⟨g3, 1, none⟩) := hsR S_ 36 rfl
    clear S_
    have H := kp (kK [0, 1, 2] H o_)
    have HOX := kp o_
    clear o_
    go_wp2_with ((with_reducible refine isLd 5 ?_); (refine L_f1 H rfl 5 _ rfl 2 rfl _ rfl _ rfl _ rfl Try.underlying5 rfl ?_); simp only [pA])
    exact kso
   simp only [pA]
   refine ⟨fun w_ o_ S_ => ?_, fun v38 => ?_⟩
   ·clear S_
    clear o_
    go_wp2_with fail
    exact kso
   simp only [pA]
   refine ⟨fun w_ o_ S_ => ?_, fun v39 => ?_⟩
   ·obtain rfl : v38 = .pointer (some ⟨g10, 0, none⟩) := hsR S_ 38 rfl
    clear S_
    have H := kp (kK [0, 1, 2] H o_)
    have HOX := kp o_
    clear o_
    go_wp2_with ((with_reducible refine isLd 5 ?_); (refine L_f1 H rfl 5 _ rfl 0 rfl _ rfl _ rfl _ rfl Try.underlying5 rfl ?_); simp only [pA])
    exact kso
   simp only [pA]
   refine ⟨fun w_ o_ S_ => ?_, fun v40 => ?_⟩
   ·obtain rfl : v35 = .int .u8 s.role := hsR S_ 35 rfl
    obtain rfl : v37 = .int .u8 s.stage := hsR S_ 37 rfl
    obtain rfl : v39 = .int .u8 (kindP b) := hsR S_ 39 rfl
    clear S_
    have H := kp (kK [0, 1, 2] H o_)
    have HOX := kp o_
    clear o_
    go_wp2_with ((with_reducible show wpList _ _ _ (Oper.mk (some 40) (Op.build 87 _) _ _ _ _ :: _) _ _); (refine L_bd (by kernel_rfl) 87 _ rfl (#[(0, .int .u8 s.role), (1, .int .u8 s.stage), (2, .int .u8 (kindP b))]) (by kernel_rfl) (cat [Lf.i .u8 s.role, Lf.i .u8 s.stage, Lf.i .u8 (kindP b)]) (fun _ => by kernel_rfl) ?_); simp only [pA])
    exact kso
   simp only [pA]
   refine ⟨fun w_ o_ S_ => ?_, fun v41 => ?_⟩
   ·have h33 := kp (show HMap v33 w_ from hsR S_ 33 rfl)
    obtain rfl : v40 = plV (s.role, s.stage, kindP b) := hsR S_ 40 rfl
    clear S_
    have H := kp (kK [0, 1, 2] H o_)
    have HOX := kp o_
    clear o_
    obtain ⟨m, l, rfl, hm, hf⟩ := h33.out
    refine L_lk2 rfl _ _ _ _ rfl _ _ Try.underlying84 hm rfl (plV (s.role, s.stage, kindP b)) rfl (fun _ _ => checkPl _ _ _) _ (fun _ => run_findQ _ _ _) .nilFunc (fun _ => by kernel_rfl) (.tuple #[.nilFunc, .bool false]) (HLK.out l hf) ?_
    go_wp2_with fail
    exact kso
   simp only [pA]
   refine ⟨fun w_ o_ S_ => ?_, fun v32 => ?_⟩
   ·obtain rfl : v41 = .tuple #[.nilFunc, .bool false] := hsR S_ 41 rfl
    clear S_ o_
    go_wp2_with fail
    exact kso
   simp only [pA]
   refine ⟨fun w_ o_ S_ => ?_, fun v42 => ?_⟩
   ·obtain rfl : v32 = .tuple #[.nilFunc, .bool false] := hsR S_ 32 rfl
    clear S_
    have H := kp (kK [0, 1, 2] H o_)
    have HOX := kp o_
    clear o_
    go_wp2_with fail
    exact kso
   simp only [pA]
   refine ⟨fun w_ o_ S_ => ?_, fun v43 => ?_⟩
   ·obtain rfl : v32 = .tuple #[.nilFunc, .bool false] := hsR S_ 32 rfl
    clear S_
    have H := kp (kK [0, 1, 2] H o_)
    have HOX := kp o_
    clear o_
    go_wp2_with fail
    exact kso
   simp only [pA]
   refine ⟨fun w_ o_ S_ => ?_, fun v12 => ?_⟩
   ·obtain rfl : v42 = .nilFunc := hsR S_ 42 rfl
    clear S_ o_
    go_wp2_with fail
    exact kso
   simp only [pA]
   refine ⟨fun w_ o_ S_ => ?_, fun v13 => ?_⟩
   ·obtain rfl : v43 = .bool false := hsR S_ 43 rfl
    clear S_ o_
    go_wp2_with fail
    exact kso
   simp only [pA]
   clear H
   intro wn HOX H hfin
   have F33 := kp (show HMap v33 wn from hfin 33 (by decide))
   obtain rfl : v34 = .pointer (some ⟨g3, 0, none⟩) := hfin 34 (by decide)
   obtain rfl : v35 = .int .u8 s.role := hfin 35 (by decide)
   obtain rfl : v36 = .pointer (some ⟨g3, 1, none⟩) := hfin 36 (by decide)
   obtain rfl : v37 = .int .u8 s.stage := hfin 37 (by decide)
   obtain rfl : v38 = .pointer (some ⟨g10, 0, none⟩) := hfin 38 (by decide)
   obtain rfl : v39 = .int .u8 (kindP b) := hfin 39 (by decide)
   obtain rfl : v40 = plV (s.role, s.stage, kindP b) := hfin 40 (by decide)
   obtain rfl : v41 = .tuple #[.nilFunc, .bool false] := hfin 41 (by decide)
   obtain rfl : v32 = .tuple #[.nilFunc, .bool false] := hfin 32 (by decide)
   obtain rfl : v42 = .nilFunc := hfin 42 (by decide)
   obtain rfl : v43 = .bool false := hfin 43 (by decide)
   obtain rfl : v12 = .nilFunc := hfin 12 (by decide)
   obtain rfl : v13 = .bool false := hfin 13 (by decide)
   clear hfin
   simp only [List.drop_succ_cons, List.drop_zero]
   simp only [applyS] at H
   have HXN := kp (HOX.out.ext (Ext.refl wm) (fun g hg => by cases hg))
   go_wp2_with (first | ((with_reducible show wpList _ _ _ (Oper.mk _ (Op.build 32 _) _ _ _ _ :: _) _ _); (refine L_bd rfl 32 _ rfl #[] (by kernel_rfl) (cat (partsF fw0)) (fun _ => by kernel_rfl) ?_); simp only [pA]) | ((with_reducible refine isSt 32 ?_); refine L_sa H rfl rfl 32 _ _ rfl 1 rfl rfl (partsF fw0) rfl rfl (by kernel_rfl) ?_; clear H; intro wz HWwz H; simp only [ssA, szA] at H))
   (exact ret_f3 H Try.results15 1 rfl rfl _ _ rfl rfl Try.underlying32 rfl (by kernel_rfl) rfl (resR_err HK.out H.out.1))
  ·have HLK := kp (fun l (hl : Hes [] l) => look_hnd hl (s.role, s.stage, kindP b))
   rw [h1] at HLK
   have HN := kp h2
   have HCL := kp h3
   have HFN := kp (hnd_fn h1)
   clear h1 h2 h3 HHN
   rcases HFN.out with rfl | rfl | rfl | rfl
   ·skip
    subst h7
    refine region_free H (tabS [(33, fun vQ wQ => HMap vQ wQ), (34, fun vQ _ => vQ = .pointer (some ⟨g3, 0, none⟩)), (35, fun vQ _ => vQ = .int .u8 s.role), (36, fun vQ _ => vQ = .pointer (some ⟨g3, 1, none⟩)), (37, fun vQ _ => vQ = .int .u8 s.stage), (38, fun vQ _ => vQ = .pointer (some ⟨g10, 0, none⟩)), (39, fun vQ _ => vQ = .int .u8 (kindP b)), (40, fun vQ _ => vQ = plV (s.role, s.stage, kindP b)), (41, fun vQ _ => vQ = .tuple #[.func (.func 51) #[] #[], .bool true]), (32, fun vQ _ => vQ = .tuple #[.func (.func 51) #[] #[], .bool true]), (42, fun vQ _ => vQ = .func (.func 51) #[] #[]), (43, fun vQ _ => vQ = .bool true), (12, fun vQ _ => vQ = .func (.func 51) #[] #[]), (13, fun vQ _ => vQ = .bool true)]) [] (tabS_out _ _ (by simp only [List.forall_mem_cons, mono_eqO, true_and]; exact ⟨mono_HMap, by simp⟩)) 14 (by kernel_rfl) (by kernel_rfl) (by kernel_rfl) (by kernel_rfl) [] [] rfl rfl (by decide) (by decide) (by decide) trivial ?_
    simp only [List.take_succ_cons, List.take_zero]
    refine ⟨fun w_ o_ S_ => ?_, fun v33 => ?_⟩
    ·clear S_
     have H := kp (kK [0, 1, 2] H o_)
     have HOX := kp o_
     clear o_
     go_wp2_with fail
     refine (handlers_any _).mono ?_
     rintro e w2 ⟨v, rfl, hm, hx⟩
     have HM := kp hm
     have HXC := kp hx
     clear hm hx
     go_wp2_with fail
     exact ⟨rfl, _, rfl, fun d hd => by cases hd; exact HM.out, HXC.out⟩
    simp only [pA]
    refine ⟨fun w_ o_ S_ => ?_, fun v34 => ?_⟩
    ·clear S_
     clear o_
     go_wp2_with fail
     exact kso
    simp only [pA]
    refine ⟨fun w_ o_ S_ => ?_, fun v35 => ?_⟩
    ·obtain rfl : v34 = .pointer (some ⟨g3, 0, none⟩) := hsR S_ 34 rfl
     clear S_
     have H := kp (kK [0, 1, 2] H o_)
     have HOX := kp o_
     clear o_
     go_wp2_with ((with_reducible refine isLd 5 ?_); (refine L_f1 H rfl 5 _ rfl 2 rfl _ rfl _ rfl _ rfl Try.underlying5 rfl ?_); simp only [pA])
     exact kso
    simp only [pA]
    refine ⟨fun w_ o_ S_ => ?_, fun v36 => ?_⟩
    ·clear S_
     clear o_
     go_wp2_with fail
     exact kso
    simp only [pA]
    refine ⟨fun w_ o_ S_ => ?_, fun v37 => ?_⟩
    ·obtain rfl : v36 = .pointer (some ⟨g3, 1, none⟩) := hsR S_ 36 rfl
     clear S_
     have H := kp (kK [0, 1, 2] H o_)
     have HOX := kp o_
     clear o_
     go_wp2_with ((with_reducible refine isLd 5 ?_); (refine L_f1 H rfl 5 _ rfl 2 rfl _ rfl _ rfl _ rfl Try.underlying5 rfl ?_); simp only [pA])
     exact kso
    simp only [pA]
    refine ⟨fun w_ o_ S_ => ?_, fun v38 => ?_⟩
    ·clear S_
     clear o_
     go_wp2_with fail
     exact kso
    simp only [pA]
    refine ⟨fun w_ o_ S_ => ?_, fun v39 => ?_⟩
    ·obtain rfl : v38 = .pointer (some ⟨g10, 0, none⟩) := hsR S_ 38 rfl
     clear S_
     have H := kp (kK [0, 1, 2] H o_)
     have HOX := kp o_
     clear o_
     go_wp2_with ((with_reducible refine isLd 5 ?_); (refine L_f1 H rfl 5 _ rfl 0 rfl _ rfl _ rfl _ rfl Try.underlying5 rfl ?_); simp only [pA])
     exact kso
    simp only [pA]
    refine ⟨fun w_ o_ S_ => ?_, fun v40 => ?_⟩
    ·obtain rfl : v35 = .int .u8 s.role := hsR S_ 35 rfl
     obtain rfl : v37 = .int .u8 s.stage := hsR S_ 37 rfl
     obtain rfl : v39 = .int .u8 (kindP b) := hsR S_ 39 rfl
     clear S_
     have H := kp (kK [0, 1, 2] H o_)
     have HOX := kp o_
     clear o_
     go_wp2_with ((with_reducible show wpList _ _ _ (Oper.mk (some 40) (Op.build 87 _) _ _ _ _ :: _) _ _); (refine L_bd (by kernel_rfl) 87 _ rfl (#[(0, .int .u8 s.role), (1, .int .u8 s.stage), (2, .int .u8 (kindP b))]) (by kernel_rfl) (cat [Lf.i .u8 s.role, Lf.i .u8 s.stage, Lf.i .u8 (kindP b)]) (fun _ => by kernel_rfl) ?_); simp only [pA])
     exact kso
    simp only [pA]
    refine ⟨fun w_ o_ S_ => ?_, fun v41 => ?_⟩
    ·have h33 := kp (show HMap v33 w_ from hsR S_ 33 rfl)
     obtain rfl : v40 = plV (s.role, s.stage, kindP b) := hsR S_ 40 rfl
     clear S_
     have H := kp (kK [0, 1, 2] H o_)
     have HOX := kp o_
     clear o_
     obtain ⟨m, l, rfl, hm, hf⟩ := h33.out
     refine L_lk2 rfl _ _ _ _ rfl _ _ Try.underlying84 hm rfl (plV (s.role, s.stage, kindP b)) rfl (fun _ _ => checkPl _ _ _) _ (fun _ => run_findQ _ _ _) .nilFunc (fun _ => by kernel_rfl) (.tuple #[.func (.func 51) #[] #[], .bool true]) (HLK.out l hf) ?_
     go_wp2_with fail
     exact kso
    simp only [pA]
    refine ⟨fun w_ o_ S_ => ?_, fun v32 => ?_⟩
    ·obtain rfl : v41 = .tuple #[.func (.func 51) #[] #[], .bool true] := hsR S_ 41 rfl
     clear S_ o_
     go_wp2_with fail
     exact kso
    simp only [pA]
    refine ⟨fun w_ o_ S_ => ?_, fun v42 => ?_⟩
    ·obtain rfl : v32 = .tuple #[.func (.func 51) #[] #[], .bool true] := hsR S_ 32 rfl
     clear S_
     have H := kp (kK [0, 1, 2] H o_)
     have HOX := kp o_
     clear o_
     go_wp2_with fail
     exact kso
    simp only [pA]
    refine ⟨fun w_ o_ S_ => ?_, fun v43 => ?_⟩
    ·obtain rfl : v32 = .tuple #[.func (.func 51) #[] #[], .bool true] := hsR S_ 32 rfl
     clear S_
     have H := kp (kK [0, 1, 2] H o_)
     have HOX := kp o_
     clear o_
     go_wp2_with fail
     exact kso
    simp only [pA]
    refine ⟨fun w_ o_ S_ => ?_, fun v12 => ?_⟩
    ·obtain rfl : v42 = .func (.func 51) #[] #[] := hsR S_ 42 rfl
     clear S_ o_
     go_wp2_with fail
     exact kso
    simp only [pA]
    refine ⟨fun w_ o_ S_ => ?_, fun v13 => ?_⟩
    ·obtain rfl : v43 = .bool true := hsR S_ 43 rfl
     clear S_ o_
     go_wp2_with fail
     exact kso
    simp only [pA]
    clear H
    intro wn HOX H hfin
    have F33 := kp (show HMap v33 wn from hfin 33 (by decide))
    obtain rfl : v34 = .pointer (some ⟨g3, 0, none⟩) := hfin 34 (by decide)
    obtain rfl : v35 = .int .u8 s.role := hfin 35 (by decide)
    obtain rfl : v36 = .pointer (some ⟨g3, 1, none⟩) := hfin 36 (by decide)
    obtain rfl : v37 = .int .u8 s.stage := hfin 37 (by decide)
    obtain rfl : v38 = .pointer (some ⟨g10, 0, none⟩) := hfin 38 (by decide)
    obtain rfl : v39 = .int .u8 (kindP b) := hfin 39 (by decide)
    obtain rfl : v40 = plV (s.role, s.stage, kindP b) := hfin 40 (by decide)
    obtain rfl : v41 = .tuple #[.func (.func 51) #[] #[], .bool true] := hfin 41 (by decide)
    obtain rfl : v32 = .tuple #[.func (.func 51) #[] #[], .bool true] := hfin 32 (by decide)
    obtain rfl : v42 = .func (.func 51) #[] #[] := hfin 42 (by decide)
    obtain rfl : v43 = .bool true := hfin 43 (by decide)
    obtain rfl : v12 = .func (.func 51) #[] #[] := hfin 12 (by decide)
    obtain rfl : v13 = .bool true := hfin 13 (by decide)
    clear hfin
    simp only [List.drop_succ_cons, List.drop_zero]
    simp only [applyS] at H
    have HXN := kp (HOX.out.ext (Ext.refl wm) (fun g hg => by cases hg))
    have HSZ := kp H.out.1.size
    have HL6 := kp (H.out.lt 1 rfl)
    go_wp2_with (first | ((with_reducible refine isLd 32 ?_); (refine L_fa H rfl 32 _ rfl 2 rfl rfl Try.underlying32 rfl (by kernel_rfl) ?_); simp only [pA]) | ((with_reducible refine isLd 78 ?_); (refine L_fa H rfl 78 _ rfl 0 rfl rfl Try.underlying78 rfl (by kernel_rfl) ?_); simp only [pA]))
    refine (HCL.out _ (HSD.out.ext HXN.out) (HS.out.ext H.out.1)).mono ?_
    rintro e wq ⟨t, v, rfl, hrt, hx⟩
    have HRT := kp hrt
    clear hrt
    have HZQ := kp hx.size
    replace H := kp (H.out.ext hx); have HXC := kp hx; clear hx
    go_wp2_with (first | ((with_reducible refine isAl 14 32 ?_); (refine L_alloc H rfl 32 rfl (cat (partsF fw0)) (fun _ _ => by kernel_rfl) ?_); clear H; intro g14 w14 HGg14 HEg14 H; simp only [pA]) | ((with_reducible refine isSt 32 ?_); refine L_sa H rfl rfl 32 _ _ rfl 0 rfl rfl (partsF t) rfl rfl (by kernel_rfl) ?_; clear H; intro wt HWwt H; simp only [szA] at H) | ((with_reducible show wpList _ _ _ (Oper.mk _ (Op.build 32 _) _ _ _ _ :: _) _ _); (refine L_bd rfl 32 _ rfl #[] (by kernel_rfl) (cat (partsF fw0)) (fun _ => by kernel_rfl) ?_); simp only [pA]) | ((with_reducible show wpList _ _ _ (Oper.mk none (Op.store 32 _ (.tmp 59)) _ _ _ _ :: _) _ _); ((with_reducible refine isSt 32 ?_); refine L_sa H rfl rfl 32 _ _ rfl 2 rfl rfl (partsF fw0) rfl rfl (by kernel_rfl) ?_; clear H; intro wz HWwz H; simp only [ssA, szA] at H)) | ((with_reducible refine isLd 32 ?_); (refine L_fa H rfl 32 _ rfl 0 rfl rfl Try.underlying32 rfl (by kernel_rfl) ?_); simp only [pA]) | ((with_reducible refine isSt 32 ?_); refine L_sa H rfl rfl 32 _ _ rfl 2 rfl rfl (partsF t) rfl rfl (by kernel_rfl) ?_; clear H; intro wz HWwz H; simp only [ssA, szA] at H))
    ·rename (r.2.2 != 0) = true => h
     have HK := kp (HN.out (by simpa using h))
     (exact ret_f3 H Try.results15 2 rfl rfl _ _ rfl rfl Try.underlying32 rfl (by kernel_rfl) rfl (resR_err HK.out H.out.1))
    ·rename (r.2.2 != 0) = false => h
     have h0 : r.2.2 = 0 := by simpa using h
     obtain ⟨rfl, hsl⟩ := HRT.out h0
     have hs2 := (hsl.past HEg14.out HWwt.out (by have := HGg14.out; omega)).out HWwz.out.out (lt1 HL6.out)
     (exact ret_f3 H Try.results15 2 rfl rfl _ _ rfl rfl Try.underlying32 rfl (by kernel_rfl) rfl (⟨v, by rw [h0]; rfl, hs2.weak HSZ.out, H.out.1⟩))
   ·skip
    subst h7
    refine region_free H (tabS [(33, fun vQ wQ => HMap vQ wQ), (34, fun vQ _ => vQ = .pointer (some ⟨g3, 0, none⟩)), (35, fun vQ _ => vQ = .int .u8 s.role), (36, fun vQ _ => vQ = .pointer (some ⟨g3, 1, none⟩)), (37, fun vQ _ => vQ = .int .u8 s.stage), (38, fun vQ _ => vQ = .pointer (some ⟨g10, 0, none⟩)), (39, fun vQ _ => vQ = .int .u8 (kindP b)), (40, fun vQ _ => vQ = plV (s.role, s.stage, kindP b)), (41, fun vQ _ => vQ = .tuple #[.func (.func 52) #[] #[], .bool true]), (32, fun vQ _ => vQ = .tuple #[.func (.func 52) #[] #[], .bool true]), (42, fun vQ _ => vQ = .func (.func 52) #[] #[]), (43, fun vQ _ => vQ = .bool true), (12, fun vQ _ => vQ = .func (.func 52) #[] #[]), (13, fun vQ _ => vQ = .bool true)]) [] (tabS_out _ _ (by simp only [List.forall_mem_cons, mono_eqO, true_and]; exact ⟨mono_HMap, by simp⟩)) 14 (by kernel_rfl) (by kernel_rfl) (by kernel_rfl) (by kernel_rfl) [] [] rfl rfl (by decide) (by decide) (by decide) trivial ?_
    simp only [List.take_succ_cons, List.take_zero]
    refine ⟨fun w_ o_ S_ => ?_, fun v33 => ?_⟩
    ·clear S_
     have H := kp (kK [0, 1, 2] H o_)
     have HOX := kp o_
     clear o_
     go_wp2_with fail
     refine (handlers_any _).mono ?_
     rintro e w2 ⟨v, rfl, hm, hx⟩
     have HM := kp hm
     have HXC := kp hx
     clear hm hx
     go_wp2_with fail
     exact ⟨rfl, _, rfl, fun d hd => by cases hd; exact HM.out, HXC.out⟩
    simp only [pA]
    refine ⟨fun w_ o_ S_ => ?_, fun v34 => ?_⟩
    ·clear S_
     clear o_
     go_wp2_with fail
     exact kso
    simp only [pA]
    refine ⟨fun w_ o_ S_ => ?_, fun v35 => ?_⟩
    ·obtain rfl : v34 = .pointer (some ⟨g3, 0, none⟩) := hsR S_ 34 rfl
     clear S_
     have H := kp (kK [0, 1, 2] H o_)
     have HOX := kp o_
     clear o_
     go_wp2_with ((with_reducible refine isLd 5 ?_); (refine L_f1 H rfl 5 _ rfl 2 rfl _ rfl _ rfl _ rfl Try.underlying5 rfl ?_); simp only [pA])
     exact kso
    simp only [pA]
    refine ⟨fun w_ o_ S_ => ?_, fun v36 => ?_⟩
    ·clear S_
     clear o_
     go_wp2_with fail
     exact kso
    simp only [pA]
    refine ⟨fun w_ o_ S_ => ?_, fun v37 => ?_⟩
    ·obtain rfl : v36 = .pointer (some ⟨g3, 1, none⟩) := hsR S_ 36 rfl
     clear S_
     have H := kp (kK [0, 1, 2] H o_)
     have HOX := kp o_
     clear o_
     go_wp2_with ((with_reducible refine isLd 5 ?_); (refine L_f1 H rfl 5 _ rfl 2 rfl _ rfl _ rfl _ rfl Try.underlying5 rfl ?_); simp only [pA])
     exact kso
    simp only [pA]
    refine ⟨fun w_ o_ S_ => ?_, fun v38 => ?_⟩
    ·clear S_
     clear o_
     go_wp2_with fail
     exact kso
    simp only [pA]
    refine ⟨fun w_ o_ S_ => ?_, fun v39 => ?_⟩
    ·obtain rfl : v38 = .pointer (some ⟨g10, 0, none⟩) := hsR S_ 38 rfl
     clear S_
     have H := kp (kK [0, 1, 2] H o_)
     have HOX := kp o_
     clear o_
     go_wp2_with ((with_reducible refine isLd 5 ?_); (refine L_f1 H rfl 5 _ rfl 0 rfl _ rfl _ rfl _ rfl Try.underlying5 rfl ?_); simp only [pA])
     exact kso
    simp only [pA]
    refine ⟨fun w_ o_ S_ => ?_, fun v40 => ?_⟩
    ·obtain rfl : v35 = .int .u8 s.role := hsR S_ 35 rfl
     obtain rfl : v37 = .int .u8 s.stage := hsR S_ 37 rfl
     obtain rfl : v39 = .int .u8 (kindP b) := hsR S_ 39 rfl
     clear S_
     have H := kp (kK [0, 1, 2] H o_)
     have HOX := kp o_
     clear o_
     go_wp2_with ((with_reducible show wpList _ _ _ (Oper.mk (some 40) (Op.build 87 _) _ _ _ _ :: _) _ _); (refine L_bd (by kernel_rfl) 87 _ rfl (#[(0, .int .u8 s.role), (1, .int .u8 s.stage), (2, .int .u8 (kindP b))]) (by kernel_rfl) (cat [Lf.i .u8 s.role, Lf.i .u8 s.stage, Lf.i .u8 (kindP b)]) (fun _ => by kernel_rfl) ?_); simp only [pA])
     exact kso
    simp only [pA]
    refine ⟨fun w_ o_ S_ => ?_, fun v41 => ?_⟩
    ·have h33 := kp (show HMap v33 w_ from hsR S_ 33 rfl)
     obtain rfl : v40 = plV (s.role, s.stage, kindP b) := hsR S_ 40 rfl
     clear S_
     have H := kp (kK [0, 1, 2] H o_)
     have HOX := kp o_
     clear o_
     obtain ⟨m, l, rfl, hm, hf⟩ := h33.out
     refine L_lk2 rfl _ _ _ _ rfl _ _ Try.underlying84 hm rfl (plV (s.role, s.stage, kindP b)) rfl (fun _ _ => checkPl _ _ _) _ (fun _ => run_findQ _ _ _) .nilFunc (fun _ => by kernel_rfl) (.tuple #[.func (.func 52) #[] #[], .bool true]) (HLK.out l hf) ?_
     go_wp2_with fail
     exact kso
    simp only [pA]
    refine ⟨fun w_ o_ S_ => ?_, fun v32 => ?_⟩
    ·obtain rfl : v41 = .tuple #[.func (.func 52) #[] #[], .bool true] := hsR S_ 41 rfl
     clear S_ o_
     go_wp2_with fail
     exact kso
    simp only [pA]
    refine ⟨fun w_ o_ S_ => ?_, fun v42 => ?_⟩
    ·obtain rfl : v32 = .tuple #[.func (.func 52) #[] #[], .bool true] := hsR S_ 32 rfl
     clear S_
     have H := kp (kK [0, 1, 2] H o_)
     have HOX := kp o_
     clear o_
     go_wp2_with fail
     exact kso
    simp only [pA]
    refine ⟨fun w_ o_ S_ => ?_, fun v43 => ?_⟩
    ·obtain rfl : v32 = .tuple #[.func (.func 52) #[] #[], .bool true] := hsR S_ 32 rfl
     clear S_
     have H := kp (kK [0, 1, 2] H o_)
     have HOX := kp o_
     clear o_
     go_wp2_with fail
     exact kso
    simp only [pA]
    refine ⟨fun w_ o_ S_ => ?_, fun v12 => ?_⟩
    ·obtain rfl : v42 = .func (.func 52) #[] #[] := hsR S_ 42 rfl
     clear S_ o_
     go_wp2_with fail
     exact kso
    simp only [pA]
    refine ⟨fun w_ o_ S_ => ?_, fun v13 => ?_⟩
    ·obtain rfl : v43 = .bool true := hsR S_ 43 rfl
     clear S_ o_
     go_wp2_with fail
     exact kso
    simp only [pA]
    clear H
    intro wn HOX H hfin
    have F33 := kp (show HMap v33 wn from hfin 33 (by decide))
    obtain rfl : v34 = .pointer (some ⟨g3, 0, none⟩) := hfin 34 (by decide)
    obtain rfl : v35 = .int .u8 s.role := hfin 35 (by decide)
    obtain rfl : v36 = .pointer (some ⟨g3, 1, none⟩) := hfin 36 (by decide)
    obtain rfl : v37 = .int .u8 s.stage := hfin 37 (by decide)
    obtain rfl : v38 = .pointer (some ⟨g10, 0, none⟩) := hfin 38 (by decide)
    obtain rfl : v39 = .int .u8 (kindP b) := hfin 39 (by decide)
    obtain rfl : v40 = plV (s.role, s.stage, kindP b) := hfin 40 (by decide)
    obtain rfl : v41 = .tuple #[.func (.func 52) #[] #[], .bool true] := hfin 41 (by decide)
    obtain rfl : v32 = .tuple #[.func (.func 52) #[] #[], .bool true] := hfin 32 (by decide)
    obtain rfl : v42 = .func (.func 52) #[] #[] := hfin 42 (by decide)
    obtain rfl : v43 = .bool true := hfin 43 (by decide)
    obtain rfl : v12 = .func (.func 52) #[] #[] := hfin 12 (by decide)
    obtain rfl : v13 = .bool true := hfin 13 (by decide)
    clear hfin
    simp only [List.drop_succ_cons, List.drop_zero]
    simp only [applyS] at H
    have HXN := kp (HOX.out.ext (Ext.refl wm) (fun g hg => by cases hg))
    have HSZ := kp H.out.1.size
    have HL6 := kp (H.out.lt 1 rfl)
    go_wp2_with (first | ((with_reducible refine isLd 32 ?_); (refine L_fa H rfl 32 _ rfl 2 rfl rfl Try.underlying32 rfl (by kernel_rfl) ?_); simp only [pA]) | ((with_reducible refine isLd 78 ?_); (refine L_fa H rfl 78 _ rfl 0 rfl rfl Try.underlying78 rfl (by kernel_rfl) ?_); simp only [pA]))
    refine (HCL.out _ (HSD.out.ext HXN.out) (HS.out.ext H.out.1)).mono ?_
    rintro e wq ⟨t, v, rfl, hrt, hx⟩
    have HRT := kp hrt
    clear hrt
    have HZQ := kp hx.size
    replace H := kp (H.out.ext hx); have HXC := kp hx; clear hx
    go_wp2_with (first | ((with_reducible refine isAl 14 32 ?_); (refine L_alloc H rfl 32 rfl (cat (partsF fw0)) (fun _ _ => by kernel_rfl) ?_); clear H; intro g14 w14 HGg14 HEg14 H; simp only [pA]) | ((with_reducible refine isSt 32 ?_); refine L_sa H rfl rfl 32 _ _ rfl 0 rfl rfl (partsF t) rfl rfl (by kernel_rfl) ?_; clear H; intro wt HWwt H; simp only [szA] at H) | ((with_reducible show wpList _ _ _ (Oper.mk _ (Op.build 32 _) _ _ _ _ :: _) _ _); (refine L_bd rfl 32 _ rfl #[] (by kernel_rfl) (cat (partsF fw0)) (fun _ => by kernel_rfl) ?_); simp only [pA]) | ((with_reducible show wpList _ _ _ (Oper.mk none (Op.store 32 _ (.tmp 59)) _ _ _ _ :: _) _ _); ((with_reducible refine isSt 32 ?_); refine L_sa H rfl rfl 32 _ _ rfl 2 rfl rfl (partsF fw0) rfl rfl (by kernel_rfl) ?_; clear H; intro wz HWwz H; simp only [ssA, szA] at H)) | ((with_reducible refine isLd 32 ?_); (refine L_fa H rfl 32 _ rfl 0 rfl rfl Try.underlying32 rfl (by kernel_rfl) ?_); simp only [pA]) | ((with_reducible refine isSt 32 ?_); refine L_sa H rfl rfl 32 _ _ rfl 2 rfl rfl (partsF t) rfl rfl (by kernel_rfl) ?_; clear H; intro wz HWwz H; simp only [ssA, szA] at H))
    ·rename (r.2.2 != 0) = true => h
     have HK := kp (HN.out (by simpa using h))
     (exact ret_f3 H Try.results15 2 rfl rfl _ _ rfl rfl Try.underlying32 rfl (by kernel_rfl) rfl (resR_err HK.out H.out.1))
    ·rename (r.2.2 != 0) = false => h
     have h0 : r.2.2 = 0 := by simpa using h
     obtain ⟨rfl, hsl⟩ := HRT.out h0
     have hs2 := (hsl.past HEg14.out HWwt.out (by have := HGg14.out; omega)).out HWwz.out.out (lt1 HL6.out)
     (exact ret_f3 H Try.results15 2 rfl rfl _ _ rfl rfl Try.underlying32 rfl (by kernel_rfl) rfl (⟨v, by rw [h0]; rfl, hs2.weak HSZ.out, H.out.1⟩))
   ·skip
    subst h7
    refine region_free H (tabS [(33, fun vQ wQ => HMap vQ wQ), (34, fun vQ _ => vQ = .pointer (some ⟨g3, 0, none⟩)), (35, fun vQ _ => vQ = .int .u8 s.role), (36, fun vQ _ => vQ = .pointer (some ⟨g3, 1, none⟩)), (37, fun vQ _ => vQ = .int .u8 s.stage), (38, fun vQ _ => vQ = .pointer (some ⟨g10, 0, none⟩)), (39, fun vQ _ => vQ = .int .u8 (kindP b)), (40, fun vQ _ => vQ = plV (s.role, s.stage, kindP b)), (41, fun vQ _ => vQ = .tuple #[.func (.func 53) #[] #[], .bool true]), (32, fun vQ _ => vQ = .tuple #[.func (.func 53) #[] #[], .bool true]), (42, fun vQ _ => vQ = .func (.func 53) #[] #[]), (43, fun vQ _ => vQ = .bool true), (12, fun vQ _ => vQ = .func (.func 53) #[] #[]), (13, fun vQ _ => vQ = .bool true)]) [] (tabS_out _ _ (by simp only [List.forall_mem_cons, mono_eqO, true_and]; exact ⟨mono_HMap, by simp⟩)) 14 (by kernel_rfl) (by kernel_rfl) (by kernel_rfl) (by kernel_rfl) [] [] rfl rfl (by decide) (by decide) (by decide) trivial ?_
    simp only [List.take_succ_cons, List.take_zero]
    refine ⟨fun w_ o_ S_ => ?_, fun v33 => ?_⟩
    ·clear S_
     have H := kp (kK [0, 1, 2] H o_)
     have HOX := kp o_
     clear o_
     go_wp2_with fail
     refine (handlers_any _).mono ?_
     rintro e w2 ⟨v, rfl, hm, hx⟩
     have HM := kp hm
     have HXC := kp hx
     clear hm hx
     go_wp2_with fail
     exact ⟨rfl, _, rfl, fun d hd => by cases hd; exact HM.out, HXC.out⟩
    simp only [pA]
    refine ⟨fun w_ o_ S_ => ?_, fun v34 => ?_⟩
    ·clear S_
     clear o_
     go_wp2_with fail
     exact kso
    simp only [pA]
    refine ⟨fun w_ o_ S_ => ?_, fun v35 => ?_⟩
    ·obtain rfl : v34 = .pointer (some ⟨g3, 0, none⟩) := hsR S_ 34 rfl
     clear S_
     have H := kp (kK [0, 1, 2] H o_)
     have HOX := kp o_
     clear o_
     go_wp2_with ((with_reducible refine isLd 5 ?_); (refine L_f1 H rfl 5 _ rfl 2 rfl _ rfl _ rfl _ rfl Try.underlying5 rfl ?_); simp only [pA])
     exact kso
    simp only [pA]
    refine ⟨fun w_ o_ S_ => ?_, fun v36 => ?_⟩
    ·clear S_
     clear o_
     go_wp2_with fail
     exact kso
    simp only [pA]
    refine ⟨fun w_ o_ S_ => ?_, fun v37 => ?_⟩
    ·obtain rfl : v36 = .pointer (some ⟨g3, 1, none⟩) := hsR S_ 36 rfl
     clear S_
     have H := kp (kK [0, 1, 2] H o_)
     have HOX := kp o_
     clear o_
     go_wp2_with ((with_reducible refine isLd 5 ?_); (refine L_f1 H rfl 5 _ rfl 2 rfl _ rfl _ rfl _ rfl Try.underlying5 rfl ?_); simp only [pA])
     exact kso
    simp only [pA]
    refine ⟨fun w_ o_ S_ => ?_, fun v38 => ?_⟩
    ·clear S_
     clear o_
     go_wp2_with fail
     exact kso
    simp only [pA]
    refine ⟨fun w_ o_ S_ => ?_, fun v39 => ?_⟩
    ·obtain rfl : v38 = .pointer (some ⟨g10, 0, none⟩) := hsR S_ 38 rfl
     clear S_
     have H := kp (kK [0, 1, 2] H o_)
     have HOX := kp o_
     clear o_
     go_wp2_with ((with_reducible refine isLd 5 ?_); (refine L_f1 H rfl 5 _ rfl 0 rfl _ rfl _ rfl _ rfl Try.underlying5 rfl ?_); simp only [pA])
     exact kso
    simp only [pA]
    refine ⟨fun w_ o_ S_ => ?_, fun v40 => ?_⟩
    ·obtain rfl : v35 = .int .u8 s.role := hsR S_ 35 rfl
     obtain rfl : v37 = .int .u8 s.stage := hsR S_ 37 rfl
     obtain rfl : v39 = .int .u8 (kindP b) := hsR S_ 39 rfl
     clear S_
     have H := kp (kK [0, 1, 2] H o_)
     have HOX := kp o_
     clear o_
     go_wp2_with ((with_reducible show wpList _ _ _ (Oper.mk (some 40) (Op.build 87 _) _ _ _ _ :: _) _ _); (refine L_bd (by kernel_rfl) 87 _ rfl (#[(0, .int .u8 s.role), (1, .int .u8 s.stage), (2, .int .u8 (kindP b))]) (by kernel_rfl) (cat [Lf.i .u8 s.role, Lf.i .u8 s.stage, Lf.i .u8 (kindP b)]) (fun _ => by kernel_rfl) ?_); simp only [pA])
     exact kso
    simp only [pA]
    refine ⟨fun w_ o_ S_ => ?_, fun v41 => ?_⟩
    ·have h33 := kp (show HMap v33 w_ from hsR S_ 33 rfl)
     obtain rfl : v40 = plV (s.role, s.stage, kindP b) := hsR S_ 40 rfl
     clear S_
     have H := kp (kK [0, 1, 2] H o_)
     have HOX := kp o_
     clear o_
     obtain ⟨m, l, rfl, hm, hf⟩ := h33.out
     refine L_lk2 rfl _ _ _ _ rfl _ _ Try.underlying84 hm rfl (plV (s.role, s.stage, kindP b)) rfl (fun _ _ => checkPl _ _ _) _ (fun _ => run_findQ _ _ _) .nilFunc (fun _ => by kernel_rfl) (.tuple #[.func (.func 53) #[] #[], .bool true]) (HLK.out l hf) ?_
     go_wp2_with fail
     exact kso
    simp only [pA]
    refine ⟨fun w_ o_ S_ => ?_, fun v32 => ?_⟩
    ·obtain rfl : v41 = .tuple #[.func (.func 53) #[] #[], .bool true] := hsR S_ 41 rfl
     clear S_ o_
     go_wp2_with fail
     exact kso
    simp only [pA]
    refine ⟨fun w_ o_ S_ => ?_, fun v42 => ?_⟩
    ·obtain rfl : v32 = .tuple #[.func (.func 53) #[] #[], .bool true] := hsR S_ 32 rfl
     clear S_
     have H := kp (kK [0, 1, 2] H o_)
     have HOX := kp o_
     clear o_
     go_wp2_with fail
     exact kso
    simp only [pA]
    refine ⟨fun w_ o_ S_ => ?_, fun v43 => ?_⟩
    ·obtain rfl : v32 = .tuple #[.func (.func 53) #[] #[], .bool true] := hsR S_ 32 rfl
     clear S_
     have H := kp (kK [0, 1, 2] H o_)
     have HOX := kp o_
     clear o_
     go_wp2_with fail
     exact kso
    simp only [pA]
    refine ⟨fun w_ o_ S_ => ?_, fun v12 => ?_⟩
    ·obtain rfl : v42 = .func (.func 53) #[] #[] := hsR S_ 42 rfl
     clear S_ o_
     go_wp2_with fail
     exact kso
    simp only [pA]
    refine ⟨fun w_ o_ S_ => ?_, fun v13 => ?_⟩
    ·obtain rfl : v43 = .bool true := hsR S_ 43 rfl
     clear S_ o_
     go_wp2_with fail
     exact kso
    simp only [pA]
    clear H
    intro wn HOX H hfin
    have F33 := kp (show HMap v33 wn from hfin 33 (by decide))
    obtain rfl : v34 = .pointer (some ⟨g3, 0, none⟩) := hfin 34 (by decide)
    obtain rfl : v35 = .int .u8 s.role := hfin 35 (by decide)
    obtain rfl : v36 = .pointer (some ⟨g3, 1, none⟩) := hfin 36 (by decide)
    obtain rfl : v37 = .int .u8 s.stage := hfin 37 (by decide)
    obtain rfl : v38 = .pointer (some ⟨g10, 0, none⟩) := hfin 38 (by decide)
    obtain rfl : v39 = .int .u8 (kindP b) := hfin 39 (by decide)
    obtain rfl : v40 = plV (s.role, s.stage, kindP b) := hfin 40 (by decide)
    obtain rfl : v41 = .tuple #[.func (.func 53) #[] #[], .bool true] := hfin 41 (by decide)
    obtain rfl : v32 = .tuple #[.func (.func 53) #[] #[], .bool true] := hfin 32 (by decide)
    obtain rfl : v42 = .func (.func 53) #[] #[] := hfin 42 (by decide)
    obtain rfl : v43 = .bool true := hfin 43 (by decide)
    obtain rfl : v12 = .func (.func 53) #[] #[] := hfin 12 (by decide)
    obtain rfl : v13 = .bool true := hfin 13 (by decide)
    clear hfin
    simp only [List.drop_succ_cons, List.drop_zero]
    simp only [applyS] at H
    have HXN := kp (HOX.out.ext (Ext.refl wm) (fun g hg => by cases hg))
    have HSZ := kp H.out.1.size
    have HL6 := kp (H.out.lt 1 rfl)
    go_wp2_with (first | ((with_reducible refine isLd 32 ?_); (refine L_fa H rfl 32 _ rfl 2 rfl rfl Try.underlying32 rfl (by kernel_rfl) ?_); simp only [pA]) | ((with_reducible refine isLd 78 ?_); (refine L_fa H rfl 78 _ rfl 0 rfl rfl Try.underlying78 rfl (by kernel_rfl) ?_); simp only [pA]))
    refine (HCL.out _ (HSD.out.ext HXN.out) (HS.out.ext H.out.1)).mono ?_
    rintro e wq ⟨t, v, rfl, hrt, hx⟩
    have HRT := kp hrt
    clear hrt
    have HZQ := kp hx.size
    replace H := kp (H.out.ext hx); have HXC := kp hx; clear hx
    go_wp2_with (first | ((with_reducible refine isAl 14 32 ?_); (refine L_alloc H rfl 32 rfl (cat (partsF fw0)) (fun _ _ => by kernel_rfl) ?_); clear H; intro g14 w14 HGg14 HEg14 H; simp only [pA]) | ((with_reducible refine isSt 32 ?_); refine L_sa H rfl rfl 32 _ _ rfl 0 rfl rfl (partsF t) rfl rfl (by kernel_rfl) ?_; clear H; intro wt HWwt H; simp only [szA] at H) | ((with_reducible show wpList _ _ _ (Oper.mk _ (Op.build 32 _) _ _ _ _ :: _) _ _); (refine L_bd rfl 32 _ rfl #[] (by kernel_rfl) (cat (partsF fw0)) (fun _ => by kernel_rfl) ?_); simp only [pA]) | ((with_reducible show wpList _ _ _ (Oper.mk none (Op.store 32 _ (.tmp 59)) _ _ _ _ :: _) _ _); ((with_reducible refine isSt 32 ?_); refine L_sa H rfl rfl 32 _ _ rfl 2 rfl rfl (partsF fw0) rfl rfl (by kernel_rfl) ?_; clear H; intro wz HWwz H; simp only [ssA, szA] at H)) | ((with_reducible refine isLd 32 ?_); (refine L_fa H rfl 32 _ rfl 0 rfl rfl Try.underlying32 rfl (by kernel_rfl) ?_); simp only [pA]) | ((with_reducible refine isSt 32 ?_); refine L_sa H rfl rfl 32 _ _ rfl 2 rfl rfl (partsF t) rfl rfl (by kernel_rfl) ?_; clear H; intro wz HWwz H; simp only [ssA, szA] at H))
    ·rename (r.2.2 != 0) = true => h
     have HK := kp (HN.out (by simpa using h))
     (exact ret_f3 H Try.results15 2 rfl rfl _ _ rfl rfl Try.underlying32 rfl (by kernel_rfl) rfl (resR_err HK.out H.out.1))
    ·rename (r.2.2 != 0) = false => h
     have h0 : r.2.2 = 0 := by simpa using h
     obtain ⟨rfl, hsl⟩ := HRT.out h0
     have hs2 := (hsl.past HEg14.out HWwt.out (by have := HGg14.out; omega)).out HWwz.out.out (lt1 HL6.out)
     (exact ret_f3 H Try.results15 2 rfl rfl _ _ rfl rfl Try.underlying32 rfl (by kernel_rfl) rfl (⟨v, by rw [h0]; rfl, hs2.weak HSZ.out, H.out.1⟩))
   ·skip
    subst h7
    refine region_free H (tabS [(33, fun vQ wQ => HMap vQ wQ), (34, fun vQ _ => vQ = .pointer (some ⟨g3, 0, none⟩)), (35, fun vQ _ => vQ = .int .u8 s.role), (36, fun vQ _ => vQ = .pointer (some ⟨g3, 1, none⟩)), (37, fun vQ _ => vQ = .int .u8 s.stage), (38, fun vQ _ => vQ = .pointer (some ⟨g10, 0, none⟩)), (39, fun vQ _ => vQ = .int .u8 (kindP b)), (40, fun vQ _ => vQ = plV (s.role, s.stage, kindP b)), (41, fun vQ _ => vQ = .tuple #[.func (.func 54) #[] #[], .bool true]), (32, fun vQ _ => vQ = .tuple #[.func (.func 54) #[] #[], .bool true]), (42, fun vQ _ => vQ = .func (.func 54) #[] #[]), (43, fun vQ _ => vQ = .bool true), (12, fun vQ _ => vQ = .func (.func 54) #[] #[]), (13, fun vQ _ => vQ = .bool true)]) [] (tabS_out _ _ (by simp only [List.forall_mem_cons, mono_eqO, true_and]; exact ⟨mono_HMap, by simp⟩)) 14 (by kernel_rfl) (by kernel_rfl) (by kernel_rfl) (by kernel_rfl) [] [] rfl rfl (by decide) (by decide) (by decide) trivial ?_
    simp only [List.take_succ_cons, List.take_zero]
    refine ⟨fun w_ o_ S_ => ?_, fun v33 => ?_⟩
    ·clear S_
     have H := kp (kK [0, 1, 2] H o_)
     have HOX := kp o_
     clear o_
     go_wp2_with fail
     refine (handlers_any _).mono ?_
     rintro e w2 ⟨v, rfl, hm, hx⟩
     have HM := kp hm
     have HXC := kp hx
     clear hm hx
     go_wp2_with fail
     exact ⟨rfl, _, rfl, fun d hd => by cases hd; exact HM.out, HXC.out⟩
    simp only [pA]
    refine ⟨fun w_ o_ S_ => ?_, fun v34 => ?_⟩
    ·clear S_
     clear o_
     go_wp2_with fail
     exact kso
    simp only [pA]
    refine ⟨fun w_ o_ S_ => ?_, fun v35 => ?_⟩
    ·obtain rfl : v34 = .pointer (some ⟨g3, 0, none⟩) := hsR S_ 34 rfl
     clear S_
     have H := kp (kK [0, 1, 2] H o_)
     have HOX := kp o_
     clear o_
     go_wp2_with ((with_reducible refine isLd 5 ?_); (refine L_f1 H rfl 5 _ rfl 2 rfl _ rfl _ rfl _ rfl Try.underlying5 rfl ?_); simp only [pA])
     exact kso
    simp only [pA]
    refine ⟨fun w_ o_ S_ => ?_, fun v36 => ?_⟩
    ·clear S_
     clear o_
     go_wp2_with fail
     exact kso
    simp only [pA]
    refine ⟨fun w_ o_ S_ => ?_, fun v37 => ?_⟩
    ·obtain rfl : v36 = .pointer (some ⟨g3, 1, none⟩) := hsR S_ 36 rfl
     clear S_
     have H := kp (kK [0, 1, 2] H o_)
     have HOX := kp o_
     clear o_
     go_wp2_with ((with_reducible refine isLd 5 ?_); (refine L_f1 H rfl 5 _ rfl 2 rfl _ rfl _ rfl _ rfl Try.underlying5 rfl ?_); simp only [pA])
     exact kso
    simp only [pA]
    refine ⟨fun w_ o_ S_ => ?_, fun v38 => ?_⟩
    ·clear S_
     clear o_
     go_wp2_with fail
     exact kso
    simp only [pA]
    refine ⟨fun w_ o_ S_ => ?_, fun v39 => ?_⟩
    ·obtain rfl : v38 = .pointer (some ⟨g10, 0, none⟩) := hsR S_ 38 rfl
     clear S_
     have H := kp (kK [0, 1, 2] H o_)
     have HOX := kp o_
     clear o_
     go_wp2_with ((with_reducible refine isLd 5 ?_); (refine L_f1 H rfl 5 _ rfl 0 rfl _ rfl _ rfl _ rfl Try.underlying5 rfl ?_); simp only [pA])
     exact kso
    simp only [pA]
    refine ⟨fun w_ o_ S_ => ?_, fun v40 => ?_⟩
    ·obtain rfl : v35 = .int .u8 s.role := hsR S_ 35 rfl
     obtain rfl : v37 = .int .u8 s.stage := hsR S_ 37 rfl
     obtain rfl : v39 = .int .u8 (kindP b) := hsR S_ 39 rfl
     clear S_
     have H := kp (kK [0, 1, 2] H o_)
     have HOX := kp o_
     clear o_
     go_wp2_with ((with_reducible show wpList _ _ _ (Oper.mk (some 40) (Op.build 87 _) _ _ _ _ :: _) _ _); (refine L_bd (by kernel_rfl) 87 _ rfl (#[(0, .int .u8 s.role), (1, .int .u8 s.stage), (2, .int .u8 (kindP b))]) (by kernel_rfl) (cat [Lf.i .u8 s.role, Lf.i .u8 s.stage, Lf.i .u8 (kindP b)]) (fun _ => by kernel_rfl) ?_); simp only [pA])
     exact kso
    simp only [pA]
    refine ⟨fun w_ o_ S_ => ?_, fun v41 => ?_⟩
    ·have h33 := kp (show HMap v33 w_ from hsR S_ 33 rfl)
     obtain rfl : v40 = plV (s.role, s.stage, kindP b) := hsR S_ 40 rfl
     clear S_
     have H := kp (kK [0, 1, 2] H o_)
     have HOX := kp o_
     clear o_
     obtain ⟨m, l, rfl, hm, hf⟩ := h33.out
     refine L_lk2 rfl _ _ _ _ rfl _ _ Try.underlying84 hm rfl (plV (s.role, s.stage, kindP b)) rfl (fun _ _ => checkPl _ _ _) _ (fun _ => run_findQ _ _ _) .nilFunc (fun _ => by kernel_rfl) (.tuple #[.func (.func 54) #[] #[], .bool true]) (HLK.out l hf) ?_
     go_wp2_with fail
     exact kso
    simp only [pA]
    refine ⟨fun w_ o_ S_ => ?_, fun v32 => ?_⟩
    ·obtain rfl : v41 = .tuple #[.func (.func 54) #[] #[], .bool true] := hsR S_ 41 rfl
     clear S_ o_
     go_wp2_with fail
     exact kso
    simp only [pA]
    refine ⟨fun w_ o_ S_ => ?_, fun v42 => ?_⟩
    ·obtain rfl : v32 = .tuple #[.func (.func 54) #[] #[], .bool true] := hsR S_ 32 rfl
     clear S_
     have H := kp (kK [0, 1, 2] H o_)
     have HOX := kp o_
     clear o_
     go_wp2_with fail
     exact kso
    simp only [pA]
    refine ⟨fun w_ o_ S_ => ?_, fun v43 => ?_⟩
    ·obtain rfl : v32 = .tuple #[.func (.func 54) #[] #[], .bool true] := hsR S_ 32 rfl
     clear S_
     have H := kp (kK [0, 1, 2] H o_)
     have HOX := kp o_
     clear o_
     go_wp2_with fail
     exact kso
    simp only [pA]
    refine ⟨fun w_ o_ S_ => ?_, fun v12 => ?_⟩
    ·obtain rfl : v42 = .func (.func 54) #[] #[] := hsR S_ 42 rfl
     clear S_ o_
     go_wp2_with fail
     exact kso
    simp only [pA]
    refine ⟨fun w_ o_ S_ => ?_, fun v13 => ?_⟩
    ·obtain rfl : v43 = .bool true := hsR S_ 43 rfl
     clear S_ o_
     go_wp2_with fail
     exact kso
    simp only [pA]
    clear H
    intro wn HOX H hfin
    have F33 := kp (show HMap v33 wn from hfin 33 (by decide))
    obtain rfl : v34 = .pointer (some ⟨g3, 0, none⟩) := hfin 34 (by decide)
    obtain rfl : v35 = .int .u8 s.role := hfin 35 (by decide)
    obtain rfl : v36 = .pointer (some ⟨g3, 1, none⟩) := hfin 36 (by decide)
    obtain rfl : v37 = .int .u8 s.stage := hfin 37 (by decide)
    obtain rfl : v38 = .pointer (some ⟨g10, 0, none⟩) := hfin 38 (by decide)
    obtain rfl : v39 = .int .u8 (kindP b) := hfin 39 (by decide)
    obtain rfl : v40 = plV (s.role, s.stage, kindP b) := hfin 40 (by decide)
    obtain rfl : v41 = .tuple #[.func (.func 54) #[] #[], .bool true] := hfin 41 (by decide)
    obtain rfl : v32 = .tuple #[.func (.func 54) #[] #[], .bool true] := hfin 32 (by decide)
    obtain rfl : v42 = .func (.func 54) #[] #[] := hfin 42 (by decide)
    obtain rfl : v43 = .bool true := hfin 43 (by decide)
    obtain rfl : v12 = .func (.func 54) #[] #[] := hfin 12 (by decide)
    obtain rfl : v13 = .bool true := hfin 13 (by decide)
    clear hfin
    simp only [List.drop_succ_cons, List.drop_zero]
    simp only [applyS] at H
    have HXN := kp (HOX.out.ext (Ext.refl wm) (fun g hg => by cases hg))
    have HSZ := kp H.out.1.size
    have HL6 := kp (H.out.lt 1 rfl)
    go_wp2_with (first | ((with_reducible refine isLd 32 ?_); (refine L_fa H rfl 32 _ rfl 2 rfl rfl Try.underlying32 rfl (by kernel_rfl) ?_); simp only [pA]) | ((with_reducible refine isLd 78 ?_); (refine L_fa H rfl 78 _ rfl 0 rfl rfl Try.underlying78 rfl (by kernel_rfl) ?_); simp only [pA]))
    refine (HCL.out _ (HSD.out.ext HXN.out) (HS.out.ext H.out.1)).mono ?_
    rintro e wq ⟨t, v, rfl, hrt, hx⟩
    have HRT := kp hrt
    clear hrt
    have HZQ := kp hx.size
    replace H := kp (H.out.ext hx); have HXC := kp hx; clear hx
    go_wp2_with (first | ((with_reducible refine isAl 14 32 ?_); (refine L_alloc H rfl 32 rfl (cat (partsF fw0)) (fun _ _ => by kernel_rfl) ?_); clear H; intro g14 w14 HGg14 HEg14 H; simp only [pA]) | ((with_reducible refine isSt 32 ?_); refine L_sa H rfl rfl 32 _ _ rfl 0 rfl rfl (partsF t) rfl rfl (by kernel_rfl) ?_; clear H; intro wt HWwt H; simp only [szA] at H) | ((with_reducible show wpList _ _ _ (Oper.mk _ (Op.build 32 _) _ _ _ _ :: _) _ _); (refine L_bd rfl 32 _ rfl #[] (by kernel_rfl) (cat (partsF fw0)) (fun _ => by kernel_rfl) ?_); simp only [pA]) | ((with_reducible show wpList _ _ _ (Oper.mk none (Op.store 32 _ (.tmp 59)) _ _ _ _ :: _) _ _); ((with_reducible refine isSt 32 ?_); refine L_sa H rfl rfl 32 _ _ rfl 2 rfl rfl (partsF fw0) rfl rfl (by kernel_rfl) ?_; clear H; intro wz HWwz H; simp only [ssA, szA] at H)) | ((with_reducible refine isLd 32 ?_); (refine L_fa H rfl 32 _ rfl 0 rfl rfl Try.underlying32 rfl (by kernel_rfl) ?_); simp only [pA]) | ((with_reducible refine isSt 32 ?_); refine L_sa H rfl rfl 32 _ _ rfl 2 rfl rfl (partsF t) rfl rfl (by kernel_rfl) ?_; clear H; intro wz HWwz H; simp only [ssA, szA] at H))
    ·rename (r.2.2 != 0) = true => h
     have HK := kp (HN.out (by simpa using h))
     (exact ret_f3 H Try.results15 2 rfl rfl _ _ rfl rfl Try.underlying32 rfl (by kernel_rfl) rfl (resR_err HK.out H.out.1))
    ·rename (r.2.2 != 0) = false => h
     have h0 : r.2.2 = 0 := by simpa using h
     obtain ⟨rfl, hsl⟩ := HRT.out h0
     have hs2 := (hsl.past HEg14.out HWwt.out (by have := HGg14.out; omega)).out HWwz.out.out (lt1 HL6.out)
     (exact ret_f3 H Try.results15 2 rfl rfl _ _ rfl rfl Try.underlying32 rfl (by kernel_rfl) rfl (⟨v, by rw [h0]; rfl, hs2.weak HSZ.out, H.out.1⟩))
end Go.Proofs.Ytibncchobkaaiaa
