/- Texts of this proof, put together: Alw, All1, Aid, Fst, CutM. -/
import Derived.Test.YtfecopfofkdnpaaL3
import Derived.Test.YtfecopfofkdnpaaS1
import Derived.Test.YtfecopfofkdnpaaS2
import Derived.Test.YtfecopfofkdnpaaS3
import Derived.Test.YtfecopfofkdnpaaS4
import Derived.Test.YtfecopfofkdnpaaS5
import Derived.Test.YtfecopfofkdnpaaS6
import Derived.Test.YtfecopfofkdnpaaS7
import Derived.Test.YtfecopfofkdnpaaS8
import Derived.Test.YtfecopfofkdnpaaS9
import Derived.Test.YtfecopfofkdnpaaS10
import Derived.Test.YtfecopfofkdnpaaS11
import Derived.Test.YtfecopfofkdnpaaS12
import Derived.Test.YtfecopfofkdnpaaS13
import Derived.Test.YtfecopfofkdnpaaS14
import Derived.Test.YtfecopfofkdnpaaS15
import Derived.Test.YtfecopfofkdnpaaS16
import Derived.Test.YtfecopfofkdnpaaS17
import Derived.Test.YtfecopfofkdnpaaS18
import Derived.Test.YtfecopfofkdnpaaS19
import Derived.Test.YtfecopfofkdnpaaS20
import Derived.Test.YtfecopfofkdnpaaS21
import Derived.Test.YtfecopfofkdnpaaS22
import Derived.Test.YtfecopfofkdnpaaS23
import Derived.Test.YtfecopfofkdnpaaS24
import Derived.Test.YtfecopfofkdnpaaS25
import Derived.Test.YtfecopfofkdnpaaS26
import Derived.Test.YtfecopfofkdnpaaS27
import Derived.Test.YtfecopfofkdnpaaS28
import Derived.Test.YtfecopfofkdnpaaS29
import Derived.Test.YtfecopfofkdnpaaS30
import Derived.Test.YtfecopfofkdnpaaL1
namespace Go.Proofs.Ytfecopfofkdnpaa
open Go.RowKit
def allowR (k s : Int) (mem has : Bool) : Bool := if k = 2 then mem else if subsB s then true else if s = 13 then mem else has
theorem allow_r (a : As) (l : List En) (h : Hd) : allowF a l h = (validA a l && validH h && addrF a h && allowR h.kind h.sub ((findE a l h.a2).1.state == 2) (findE a l h.a2).2) := rfl
theorem findE_len (a : As) (l : List En) (hl : ∀ x ∈ l, x.addr.length = 6) (t : List (BitVec 8)) : (findE a l t).1.addr.length = 6 := by
 unfold findE
 split
 ·rcases findI_cases l t with c | ⟨i, hi, c⟩
  ·rename_i h; rw [c] at h; simp at h
  ·rw [c]
   show (enAt l i).addr.length = 6
   rw [enAt_get hi]; exact hl _ (List.getElem_mem hi)
 ·rfl
theorem checkF_good {h : Hd} (e : validH h = true) : checkF h = 0 := by simp [checkF, e]
theorem checkF_bad {h : Hd} (e : validH h = false) : checkF h = 8 := by simp [checkF, e]
set_option maxHeartbeats 6400000 in
theorem allowed_any (a : As) (ha : a.own.length = 6) (v : Value) (l : List En) (hl : ∀ x ∈ l, x.addr.length = 6) (hn : l.length ≤ 100000) (h : Hd) (ok : h.Ok) (u : Value) (w : World) (hs : SlT 11 cellsE w v l) :
  Calls Try.prog 18 #[.agg (cellsA a v).toArray, .agg (cellsF h u).toArray] w fun e w' => e = .returned (.bool (allowF a l h)) ∧ Ext w w' := by
 have HSL := kp hs
 have HCH := kp (fun w' hx => check_any a ha v l hl hn w' (HSL.out.ext hx))
 have HFI := kp (fun w' hx => find_any a ha v l hl hn h.a2 ok.l2 w' (HSL.out.ext hx))
 have HHC := kp (checkH_any h ok)
 have HAD := kp (addressed_any a v ha h ok)
 have H := kp (Loc.start w)
 have HZA := kp (sizeAs (a := a) v ha)
 have HZH := kp (sizeHl ok)
 have HZ2 := kp (sizeA8 ok.l2)
 have HPH := kp (cF_head ok u)
 have HP2 := kp (cF_a2 ok u)
 have HC0 := kp (show (cellsF h u)[0]? = some (.int .u8 h.kind) by rw [cF_at ok u 0 (by decide)]; rfl)
 have HC1 := kp (show (cellsF h u)[1]? = some (.int .u8 h.sub) by rw [cF_at ok u 1 (by decide)]; rfl)
 have HXL := kp (findE_len a l hl h.a2)
 have HAW := kp (allow_r a l h)
 have HOE := kp one_cellsE
 clear hs hl hn ha ok
 generalize hq : findE a l h.a2 = q at *
 obtain ⟨x, fd⟩ := q
 clear hq
 have HZX := kp (sizeEa HXL.out)
 have HLE := kp (show (cellsE en0).length = (cellsE x).length by rw [cellsE_len HXL.out]; rfl)
 have H6 := kp (cE6 HXL.out)
 go_enter Try.func18, Try.ntmps18
 generalize h1 : (Code.region 1 _ _ : Code) = R1
 go_wp2_with (first | ((with_reducible refine isBx 2 26 ?_); (with_reducible refine L_box H rfl 26 _ rfl (cellsA a v) rfl ?_); clear H; intro g2 w2 HGg2 HEg2 H; simp only [pA]) | ((with_reducible refine isBx 3 31 ?_); (with_reducible refine L_box H rfl 31 _ rfl (cellsF h u) rfl ?_); clear H; intro g3 w3 HGg3 HEg3 H; simp only [pA]))
 subst h1
 refine wp_cut [7, 8, 9, 10, 11, 12, 13, 14, 15, 16, 17, 18, 19, 20, 21, 22] (fun vs w' => Kp (Loc w w' [(g3, 31, cellsF h u), (g2, 26, cellsA a v)]) ∧ vs 22 = .bool (!(validA a l && validH h && addrF a h))) ?_ ?_
 ·cases hv : validA a l with
  | false =>
   have HCC := kp (chk_bad hv)
   clear hv
   rw [HCC.out] at HCH
   go_wp2_with (first | ((with_reducible refine isLd 26 ?_); (first | (refine L_load H rfl 26 _ rfl 0 rfl rfl Try.underlying26 rfl (HZA.out) ?_) | (refine L_load H rfl 26 _ rfl 1 rfl rfl Try.underlying26 rfl (HZA.out) ?_) | (refine L_load H rfl 26 _ rfl 2 rfl rfl Try.underlying26 rfl (HZA.out) ?_) | (refine L_load H rfl 26 _ rfl 3 rfl rfl Try.underlying26 rfl (HZA.out) ?_) | (refine L_load H rfl 26 _ rfl 4 rfl rfl Try.underlying26 rfl (HZA.out) ?_) | (refine L_load H rfl 26 _ rfl 5 rfl rfl Try.underlying26 rfl (HZA.out) ?_)); simp only [pA]) | (go_at_call 20; refine (HCH.out _ H.out.1).mono ?_; rintro e wa ⟨rfl, hx⟩; replace H := kp (H.out.ext hx); have HXC := kp hx; clear hx))
   exact CutP.of rfl (by kernel_rfl) ⟨H, rfl⟩
  | true =>
   have HCC := kp (chk_good hv)
   clear hv
   rw [HCC.out] at HCH
   cases hv2 : validH h with
   | false =>
    have HCD := kp (checkF_bad hv2)
    clear hv2
    rw [HCD.out] at HHC
    go_wp2_with (first | ((with_reducible refine isLd 26 ?_); (first | (refine L_load H rfl 26 _ rfl 0 rfl rfl Try.underlying26 rfl (HZA.out) ?_) | (refine L_load H rfl 26 _ rfl 1 rfl rfl Try.underlying26 rfl (HZA.out) ?_) | (refine L_load H rfl 26 _ rfl 2 rfl rfl Try.underlying26 rfl (HZA.out) ?_) | (refine L_load H rfl 26 _ rfl 3 rfl rfl Try.underlying26 rfl (HZA.out) ?_) | (refine L_load H rfl 26 _ rfl 4 rfl rfl Try.underlying26 rfl (HZA.out) ?_) | (refine L_load H rfl 26 _ rfl 5 rfl rfl Try.underlying26 rfl (HZA.out) ?_)); simp only [pA]) | (go_at_call 20; refine (HCH.out _ H.out.1).mono ?_; rintro e wa ⟨rfl, hx⟩; replace H := kp (H.out.ext hx); have HXC := kp hx; clear hx) | ((with_reducible show wpList _ _ _ (Oper.mk (some 12) _ _ _ _ _ :: _) _ _); refine L_subG H (by kernel_rfl) 28 _ rfl 0 rfl (0) rfl (cellsH h) (HPH.out) Try.underlying28 rfl (HZH.out) ?_; simp only [pA]) | (go_at_call 27; refine (HHC.out _).mono ?_; rintro e wa ⟨rfl, hx⟩; replace H := kp (H.out.ext hx); have HXC := kp hx; clear hx))
    exact CutP.of rfl (by kernel_rfl) ⟨H, rfl⟩
   | true =>
    have HCD := kp (checkF_good hv2)
    clear hv2
    rw [HCD.out] at HHC
    go_wp2_with (first | ((with_reducible refine isLd 26 ?_); (refine wpList_load_rowG (by kernel_rfl) 26 _ rfl (g2) rfl 26 (cellsA a v).toArray (0, 0) _ (H.out.at 1 rfl) Try.underlying26 rfl (HZA.out) ?_); simp only [pA]) | ((with_reducible refine isLd 28 ?_); (first | (refine L_subG H (by kernel_rfl) 28 _ rfl 0 rfl (0) rfl (cellsH h) (HPH.out) Try.underlying28 rfl (HZH.out) ?_) | (refine L_subG H (by kernel_rfl) 28 _ rfl 1 rfl (0) rfl (cellsH h) (HPH.out) Try.underlying28 rfl (HZH.out) ?_) | (refine L_subG H (by kernel_rfl) 28 _ rfl 2 rfl (0) rfl (cellsH h) (HPH.out) Try.underlying28 rfl (HZH.out) ?_) | (refine L_subG H (by kernel_rfl) 28 _ rfl 3 rfl (0) rfl (cellsH h) (HPH.out) Try.underlying28 rfl (HZH.out) ?_) | (refine L_subG H (by kernel_rfl) 28 _ rfl 4 rfl (0) rfl (cellsH h) (HPH.out) Try.underlying28 rfl (HZH.out) ?_) | (refine L_subG H (by kernel_rfl) 28 _ rfl 5 rfl (0) rfl (cellsH h) (HPH.out) Try.underlying28 rfl (HZH.out) ?_)); simp only [pA]) | (go_at_call 20; refine (HCH.out _ H.out.1).mono ?_; rintro e wa ⟨rfl, hx⟩; replace H := kp (H.out.ext hx); have HXC := kp hx; clear hx) | (go_at_call 27; refine (HHC.out _).mono ?_; rintro e wa ⟨rfl, hx⟩; replace H := kp (H.out.ext hx); have HXC := kp hx; clear hx) | (go_at_call 48; refine (HAD.out _).mono ?_; rintro e wa ⟨rfl, hx⟩; replace H := kp (H.out.ext hx); have HXC := kp hx; clear hx))
    exact CutP.of rfl (by kernel_rfl) ⟨H, by simp⟩
 rintro vs w4 ⟨H, e22⟩
 simp only [putMany, List.setIfInBounds_toArray, List.set_cons_zero, List.set_cons_succ]
 rw [e22]
 clear e22
 cases hb : (validA a l && validH h && addrF a h) with
 | false =>
  have HK := kp (show allowF a l h = false by rw [HAW.out, hb]; rfl)
  clear hb
  go_wp2_with fail
  go_ret
  exact ⟨congrArg (fun z => Ending.returned (.bool z)) HK.out.symm, H.out.1⟩
 | true =>
  have HK := kp (show allowF a l h = allowR h.kind h.sub (x.state == 2) fd by rw [HAW.out, hb]; rfl)
  clear hb
  have HRR := kp (show allowR h.kind h.sub (x.state == 2) fd = (if h.kind = 2 then (x.state == 2) else if (h.sub == 11 || h.sub == 12 || h.sub == 4 || h.sub == 5 || h.sub == 8) then true else if h.sub = 13 then (x.state == 2) else fd) from rfl)
  go_wp2_with (first | ((with_reducible refine isLd 26 ?_); (refine wpList_load_rowG (by kernel_rfl) 26 _ rfl (g2) rfl 26 (cellsA a v).toArray (0, 0) _ (H.out.at 1 rfl) Try.underlying26 rfl (HZA.out) ?_); simp only [pA]) | ((with_reducible refine isLd 23 ?_); (first | (refine L_subG H (by kernel_rfl) 23 _ rfl 0 rfl (16) rfl (h.a2.map V8) (HP2.out) Try.underlying23 rfl (HZ2.out) ?_) | (refine L_subG H (by kernel_rfl) 23 _ rfl 1 rfl (16) rfl (h.a2.map V8) (HP2.out) Try.underlying23 rfl (HZ2.out) ?_) | (refine L_subG H (by kernel_rfl) 23 _ rfl 2 rfl (16) rfl (h.a2.map V8) (HP2.out) Try.underlying23 rfl (HZ2.out) ?_) | (refine L_subG H (by kernel_rfl) 23 _ rfl 3 rfl (16) rfl (h.a2.map V8) (HP2.out) Try.underlying23 rfl (HZ2.out) ?_) | (refine L_subG H (by kernel_rfl) 23 _ rfl 4 rfl (16) rfl (h.a2.map V8) (HP2.out) Try.underlying23 rfl (HZ2.out) ?_) | (refine L_subG H (by kernel_rfl) 23 _ rfl 5 rfl (16) rfl (h.a2.map V8) (HP2.out) Try.underlying23 rfl (HZ2.out) ?_)); simp only [pA]) | (go_at_call 12; refine (HFI.out _ H.out.1).mono ?_; rintro e wa ⟨rfl, hx⟩; replace H := kp (H.out.ext hx); have HXC := kp hx; clear hx) | ((with_reducible refine isAl 5 39 ?_); (with_reducible refine L_alloc H rfl 39 rfl (cellsE en0) (fun _ _ => by kernel_rfl) ?_); clear H; intro g5 w5 HGg5 HEg5 H; simp only [pA]) | (((with_reducible refine isSt 39 ?_); (first | (refine L_store H rfl rfl 39 _ _ rfl 0 rfl rfl (cellsE x) rfl (HZX.out) (HLE.out) (HOE.out _) ?_; clear H; intro w6 HWw6 H; simp only [szA] at H) | (refine L_store H rfl rfl 39 _ _ rfl 1 rfl rfl (cellsE x) rfl (HZX.out) (HLE.out) (HOE.out _) ?_; clear H; intro w6 HWw6 H; simp only [ssA, szA] at H) | (refine L_store H rfl rfl 39 _ _ rfl 2 rfl rfl (cellsE x) rfl (HZX.out) (HLE.out) (HOE.out _) ?_; clear H; intro w6 HWw6 H; simp only [ssA, szA] at H) | (refine L_store H rfl rfl 39 _ _ rfl 3 rfl rfl (cellsE x) rfl (HZX.out) (HLE.out) (HOE.out _) ?_; clear H; intro w6 HWw6 H; simp only [ssA, szA] at H) | (refine L_store H rfl rfl 39 _ _ rfl 4 rfl rfl (cellsE x) rfl (HZX.out) (HLE.out) (HOE.out _) ?_; clear H; intro w6 HWw6 H; simp only [ssA, szA] at H) | (refine L_store H rfl rfl 39 _ _ rfl 5 rfl rfl (cellsE x) rfl (HZX.out) (HLE.out) (HOE.out _) ?_; clear H; intro w6 HWw6 H; simp only [ssA, szA] at H))); have hc0 := run_load_cell H.out 1 rfl _ _ HC0.out; have hc1 := run_load_cell H.out 1 rfl _ _ HC1.out; have hc6 := run_load_cell H.out 0 rfl _ _ H6.out))
  all_goals (go_ret; exact ⟨congrArg (fun z => Ending.returned (.bool z)) (by rw [HK.out, HRR.out]; first | (simp [*]; done) | simp_all), H.out.1⟩)
def mineS (a : As) (who : By) (s : Stp) : Bool := s.kind == 0 && mineF a who s.h
def tickO (who : By) (m : Bool) (o : Fm) : Bool := if o.1.a1 = who then false else m
def mem1 (a : As) (who : By) (s : Stp) (m : Bool) : Bool := if mineS a who s && byeB s.h then false else m
def mem2 (a : As) (who : By) (s : Stp) (o : List Fm) (m : Bool) : Bool := if mineS a who s then o.foldl outF (mem1 a who s m) else mem1 a who s m
def mem3 (who : By) (s : Stp) (m : Bool) : Bool := if (s.kind = 2 ∨ s.kind = 3) ∧ s.sta = who then false else m
def mem4 (who : By) (s : Stp) (o : List Fm) (m : Bool) : Bool := if s.kind = 1 then o.foldl (tickO who) m else m
theorem allow_upd {a : As} {l : List En} (h : OkL a l) (hl : L6 l) {s : Stp} (ok : s.Ok) {who : By} (hw : who.length = 6) (hwo : who ≠ a.own) (he : (doF a l s).2.2 = 0) :
  isM (doF a l s).1 who = mem4 who s (doF a l s).2.1 (mem3 who s (mem2 a who s (doF a l s).2.1 (isM l who))) := by
 obtain ⟨k, now, hd, b, sta⟩ := s
 by_cases k0 : k = 0
 ·subst k0
  have h1 := handle_upd (who := who) h hl ok.h hw hwo he
  refine Eq.trans h1 ?_
  show updM a who hd (handleF dA dJ dL a l hd b now).2.1 (isM l who) = mem4 who ⟨0, now, hd, b, sta⟩ (handleF dA dJ dL a l hd b now).2.1 (mem3 who ⟨0, now, hd, b, sta⟩ (mem2 a who ⟨0, now, hd, b, sta⟩ (handleF dA dJ dL a l hd b now).2.1 (isM l who)))
  unfold mem4 mem3 mem2 mem1 updM
  rw [if_neg (show ¬ (0 : Int) = 1 by decide), if_neg (show ¬ ((((0 : Int) = 2) ∨ ((0 : Int) = 3)) ∧ sta = who) from fun q => by rcases q.1 with z | z <;> cases z)]
  have : mineS a who ⟨0, now, hd, b, sta⟩ = mineF a who hd := rfl
  rw [this]
  cases mineF a who hd <;> rfl
 ·have hm : mineS a who ⟨k, now, hd, b, sta⟩ = false := by simp [mineS, k0]
  have e2 : ∀ (o : List Fm) (m : Bool), mem2 a who ⟨k, now, hd, b, sta⟩ o m = m := fun o m => by unfold mem2 mem1; rw [hm]; rfl
  rw [e2]
  by_cases k1 : k = 1
  ·subst k1
   have h1 := tick_upd (who := who) h he
   refine Eq.trans h1 ?_
   show _ = mem4 who ⟨1, now, hd, b, sta⟩ (tickF a l now).2.1 (mem3 who ⟨1, now, hd, b, sta⟩ (isM l who))
   unfold mem4 mem3
   rw [if_pos rfl, if_neg (show ¬ ((((1 : Int) = 2) ∨ ((1 : Int) = 3)) ∧ sta = who) from fun q => by rcases q.1 with z | z <;> cases z)]
   rfl
  ·have e4 : ∀ (o : List Fm) (m : Bool), mem4 who ⟨k, now, hd, b, sta⟩ o m = m := fun o m => if_neg k1
   rw [e4]
   by_cases k2 : k = 2
   ·subst k2
    refine (remove_upd (who := who) h hl ok.sta he).trans ?_
    simp [mem3]
   by_cases k3 : k = 3
   ·subst k3
    have he : (admitF a l sta now).2.2 = 0 := he
    refine (admit_upd (who := who) h hl ok.sta hw he).trans ?_
    simp [mem3]
   ·have : doF a l ⟨k, now, hd, b, sta⟩ = ([], [], 2) := by unfold doF; rw [if_neg k0, if_neg k1, if_neg k2, if_neg k3]
    rw [this] at he; cases he
theorem foldl_snoc {α β : Type} (f : α → β → α) {l : List β} {k : Nat} {x : β} (h : l[k]? = some x) (m : α) : (l.take (k + 1)).foldl f m = f ((l.take k).foldl f m) x := by
 rw [List.take_add_one, h, Option.toList_some, List.foldl_append]; rfl
def MsgO (a : As) (o : Fm) : Prop := ∃ t sub, t.length = 6 ∧ 0 ≤ sub ∧ sub < 256 ∧ o.1 = msgH a t sub
theorem do_msg (a : As) {l : List En} (hl : L6 l) (hn : l.length ≤ 64) {s : Stp} (ok : s.Ok) : (∀ o ∈ (doF a l s).2.1, MsgO a o) ∧ (doF a l s).2.1.length ≤ 64 := by
 obtain ⟨k, now, hd, b, sta⟩ := s
 have nil : (∀ o ∈ ([] : List Fm), MsgO a o) ∧ ([] : List Fm).length ≤ 64 := ⟨fun o ho => (by cases ho), Nat.zero_le _⟩
 have one : ∀ t, t.length = 6 → ∀ r, (∀ o ∈ [byeF a t 12 r], MsgO a o) ∧ [byeF a t 12 r].length ≤ 64 := fun t ht r => ⟨fun o ho => by rw [List.mem_singleton.1 ho]; exact ⟨t, 12, ht, by decide, by decide, rfl⟩, by simp⟩
 by_cases k0 : k = 0
 ·subst k0
  have h := handle_ans a l hd b now
  refine ⟨fun o ho => ?_, Nat.le_trans h.1 (by decide)⟩
  obtain ⟨sub, h1, h2, _⟩ := h.2 o ho
  refine ⟨hd.a2, sub, ok.h.l2, ?_, ?_, h2⟩ <;> (rcases h1 with h | h | h | h | h <;> omega)
 by_cases k1 : k = 1
 ·subst k1
  show (∀ o ∈ (tickF a l now).2.1, MsgO a o) ∧ (tickF a l now).2.1.length ≤ 64
  unfold tickF
  split
  ·exact nil
  ·split
   ·exact nil
   ·refine ⟨fun o ho => ?_, ?_⟩
    ·obtain ⟨e, he, rfl⟩ := List.mem_map.1 ho
     exact ⟨e.addr, 12, hl e (List.mem_filter.1 he).1, by decide, by decide, rfl⟩
    ·show ((l.filter (goneE a now)).map fun s => byeF a s.addr 12 4).length ≤ 64
     rw [List.length_map]
     exact Nat.le_trans (List.length_filter_le _ _) hn
 by_cases k2 : k = 2
 ·subst k2
  show (∀ o ∈ (removeF a l sta).2.1, MsgO a o) ∧ (removeF a l sta).2.1.length ≤ 64
  unfold removeF
  split
  ·exact nil
  ·split
   ·exact nil
   ·exact one sta ok.sta 8
 ·unfold doF
  rw [if_neg k0, if_neg k1, if_neg k2]
  split <;> exact nil
theorem msgO_ok {a : As} (ha : a.own.length = 6) {o : Fm} (h : MsgO a o) : o.1.Ok := by
 obtain ⟨t, sub, h1, h2, h3, h4⟩ := h
 rw [h4]; exact msg_ok ha h1 h2 h3
theorem frs_len {B : Nat} {outs : List Fm} {v : Value} {w : World} (h : FrS B outs v w) : ∃ ad c, v = .slice ad outs.length c := by
 obtain ⟨vs, h1, h2, h3⟩ := h
 have hz : (outs.zip vs).length = outs.length := by rw [List.length_zip, h1, Nat.min_self]
 obtain ⟨q1, ⟨e, q2⟩ | ⟨g, c, cur, e, hb, hg, hn, hc, hs, ht⟩⟩ := h2
 ·exact ⟨none, 0, by rw [← hz, q2]; exact e⟩
 ·exact ⟨some ⟨g, 0, none⟩, c, by rw [← hz]; exact e⟩
theorem mine_six0 {a : As} {own who : By} (hao : a.own = own) {k now : Int} {hd : Hd} {b sta : By} {mn : Bool} (h : mineS a who ⟨k, now, hd, b, sta⟩ = mn) :
  (decide (k = 0) = false ∧ mn = false) ∨ (decide (k = 0) = true ∧ decide (hd.kind = 0) = false ∧ mn = false) ∨ (decide (k = 0) = true ∧ decide (hd.kind = 0) = true ∧ (hd.a1 == own) = false ∧ mn = false) ∨
  (decide (k = 0) = true ∧ decide (hd.kind = 0) = true ∧ (hd.a1 == own) = true ∧ (hd.a2 == who) = false ∧ mn = false) ∨ (decide (k = 0) = true ∧ decide (hd.kind = 0) = true ∧ (hd.a1 == own) = true ∧ (hd.a2 == who) = true ∧ (hd.a3 == own) = mn) := by
 subst hao h
 have e3 : mineS a who ⟨k, now, hd, b, sta⟩ = (decide (k = 0) && (decide (hd.kind = 0) && (hd.a1 == a.own) && (hd.a2 == who) && (hd.a3 == a.own))) := rfl
 rw [e3]
 cases decide (k = 0) <;> cases decide (hd.kind = 0) <;> cases (hd.a1 == a.own) <;> cases (hd.a2 == who) <;> simp
theorem mine_six {a : As} {own who : By} (hao : a.own = own) {k now : Int} {hd : Hd} {b sta : By} {mn : Bool} (h : mineS a who ⟨k, now, hd, b, sta⟩ = mn) :
  ((k == 0) = false ∧ mn = false) ∨ ((k == 0) = true ∧ (hd.kind == 0) = false ∧ mn = false) ∨ ((k == 0) = true ∧ (hd.kind == 0) = true ∧ (hd.a1 == own) = false ∧ mn = false) ∨
  ((k == 0) = true ∧ (hd.kind == 0) = true ∧ (hd.a1 == own) = true ∧ (hd.a2 == who) = false ∧ mn = false) ∨ ((k == 0) = true ∧ (hd.kind == 0) = true ∧ (hd.a1 == own) = true ∧ (hd.a2 == who) = true ∧ (hd.a3 == own) = mn) := mine_six0 hao h
theorem mine_kind {a : As} {who : By} {k now : Int} {hd : Hd} {b sta : By} (h : mineS a who ⟨k, now, hd, b, sta⟩ = true) : k = 0 ∧ hd.a2 = who := by
 simp only [mineS, mineF, Bool.and_eq_true, beq_iff_eq] at h
 exact ⟨h.1, h.2.1.2⟩
theorem bye_four0 {a : As} {who : By} {k now : Int} {hd : Hd} {b sta : By} {mn m0 m1 : Bool} (h : mineS a who ⟨k, now, hd, b, sta⟩ = mn) (h1 : mem1 a who ⟨k, now, hd, b, sta⟩ m0 = m1) :
  (mn = false ∧ m1 = m0) ∨ (mn = true ∧ decide (hd.sub = 10) = true ∧ m1 = false) ∨ (mn = true ∧ decide (hd.sub = 10) = false ∧ decide (hd.sub = 12) = true ∧ m1 = false) ∨ (mn = true ∧ decide (hd.sub = 10) = false ∧ decide (hd.sub = 12) = false ∧ m1 = m0) := by
 subst h h1
 have e3 : ∀ m, mem1 a who ⟨k, now, hd, b, sta⟩ m = if mineS a who ⟨k, now, hd, b, sta⟩ && (hd.sub == 10 || hd.sub == 12) then false else m := fun _ => rfl
 rw [e3]
 have e1 : (hd.sub == 10) = decide (hd.sub = 10) := rfl
 have e2 : (hd.sub == 12) = decide (hd.sub = 12) := rfl
 rw [e1, e2]
 cases mineS a who ⟨k, now, hd, b, sta⟩ <;> cases decide (hd.sub = 10) <;> cases decide (hd.sub = 12) <;> simp
theorem bye_four {a : As} {who : By} {k now : Int} {hd : Hd} {b sta : By} {mn m0 m1 : Bool} (h : mineS a who ⟨k, now, hd, b, sta⟩ = mn) (h1 : mem1 a who ⟨k, now, hd, b, sta⟩ m0 = m1) :
  (mn = false ∧ m1 = m0) ∨ (mn = true ∧ (hd.sub == 10) = true ∧ m1 = false) ∨ (mn = true ∧ (hd.sub == 10) = false ∧ (hd.sub == 12) = true ∧ m1 = false) ∨ (mn = true ∧ (hd.sub == 10) = false ∧ (hd.sub == 12) = false ∧ m1 = m0) := bye_four0 h h1
theorem sta_five0 {who : By} {k now : Int} {hd : Hd} {b sta : By} {m2 m3 : Bool} (h : mem3 who ⟨k, now, hd, b, sta⟩ m2 = m3) :
  (decide (k = 2) = false ∧ decide (k = 3) = false ∧ m3 = m2) ∨ (decide (k = 2) = true ∧ (sta == who) = true ∧ m3 = false) ∨ (decide (k = 2) = true ∧ (sta == who) = false ∧ m3 = m2) ∨ (decide (k = 2) = false ∧ decide (k = 3) = true ∧ (sta == who) = true ∧ m3 = false) ∨ (decide (k = 2) = false ∧ decide (k = 3) = true ∧ (sta == who) = false ∧ m3 = m2) := by
 subst h
 have e3 : ∀ m, mem3 who ⟨k, now, hd, b, sta⟩ m = if (k = 2 ∨ k = 3) ∧ sta = who then false else m := fun _ => rfl
 rw [e3]
 by_cases h2 : k = 2 <;> by_cases h3 : k = 3 <;> by_cases hs : sta = who <;> simp [h2, h3, hs]
theorem sta_five {who : By} {k now : Int} {hd : Hd} {b sta : By} {m2 m3 : Bool} (h : mem3 who ⟨k, now, hd, b, sta⟩ m2 = m3) :
  ((k == 2) = false ∧ (k == 3) = false ∧ m3 = m2) ∨ ((k == 2) = true ∧ (sta == who) = true ∧ m3 = false) ∨ ((k == 2) = true ∧ (sta == who) = false ∧ m3 = m2) ∨ ((k == 2) = false ∧ (k == 3) = true ∧ (sta == who) = true ∧ m3 = false) ∨ ((k == 2) = false ∧ (k == 3) = true ∧ (sta == who) = false ∧ m3 = m2) := sta_five0 h
def respM (sub e y : Int) (m : Bool) : Bool := if (sub = 1 ∨ sub = 3) ∧ e = 0 ∧ y = 0 then true else m
def authM (sub e y : Int) (m : Bool) : Bool := if sub = 11 ∧ e = 0 ∧ y = 0 then false else m
theorem out_two {a : As} {t bb : By} {sub y z : Int} {m mA : Bool} (hy : respE bb = 0 → y = rdF bb 2) (hz : frontE bb 6 = 0 → z = rdF bb 4) (h : respM sub (respE bb) y m = mA) : authM sub (frontE bb 6) z mA = outF m (msgH a t sub, bb) := by
 subst h
 unfold authM respM outF
 have e : (msgH a t sub).sub = sub := rfl
 dsimp only
 rw [e]
 have q1 : (sub = 11 ∧ frontE bb 6 = 0 ∧ z = 0) ↔ (sub = 11 ∧ frontE bb 6 = 0 ∧ rdF bb 4 = 0) := ⟨fun h => ⟨h.1, h.2.1, by rw [← hz h.2.1]; exact h.2.2⟩, fun h => ⟨h.1, h.2.1, by rw [hz h.2.1]; exact h.2.2⟩⟩
 have q2 : ((sub = 1 ∨ sub = 3) ∧ respE bb = 0 ∧ y = 0) ↔ ((sub = 1 ∨ sub = 3) ∧ respE bb = 0 ∧ rdF bb 2 = 0) := ⟨fun h => ⟨h.1, h.2.1, by rw [← hy h.2.1]; exact h.2.2⟩, fun h => ⟨h.1, h.2.1, by rw [hy h.2.1]; exact h.2.2⟩⟩
 simp only [q1, q2]
theorem resp_seven0 {sub e y : Int} {m mA : Bool} (h : respM sub e y m = mA) :
  (decide (sub = 1) = false ∧ decide (sub = 3) = false ∧ mA = m) ∨ (decide (sub = 1) = true ∧ decide (e = 0) = false ∧ mA = m) ∨ (decide (sub = 1) = true ∧ decide (e = 0) = true ∧ decide (y = 0) = false ∧ mA = m) ∨ (decide (sub = 1) = true ∧ decide (e = 0) = true ∧ decide (y = 0) = true ∧ mA = true) ∨
  (decide (sub = 1) = false ∧ decide (sub = 3) = true ∧ decide (e = 0) = false ∧ mA = m) ∨ (decide (sub = 1) = false ∧ decide (sub = 3) = true ∧ decide (e = 0) = true ∧ decide (y = 0) = false ∧ mA = m) ∨ (decide (sub = 1) = false ∧ decide (sub = 3) = true ∧ decide (e = 0) = true ∧ decide (y = 0) = true ∧ mA = true) := by
 subst h
 unfold respM
 by_cases h2 : sub = 1 <;> by_cases h3 : sub = 3 <;> by_cases h4 : e = 0 <;> by_cases h5 : y = 0 <;> simp [h2, h3, h4, h5] <;> omega
theorem resp_seven {sub e y : Int} {m mA : Bool} (h : respM sub e y m = mA) :
  ((sub == 1) = false ∧ (sub == 3) = false ∧ mA = m) ∨ ((sub == 1) = true ∧ (e == 0) = false ∧ mA = m) ∨ ((sub == 1) = true ∧ (e == 0) = true ∧ (y == 0) = false ∧ mA = m) ∨ ((sub == 1) = true ∧ (e == 0) = true ∧ (y == 0) = true ∧ mA = true) ∨
  ((sub == 1) = false ∧ (sub == 3) = true ∧ (e == 0) = false ∧ mA = m) ∨ ((sub == 1) = false ∧ (sub == 3) = true ∧ (e == 0) = true ∧ (y == 0) = false ∧ mA = m) ∨ ((sub == 1) = false ∧ (sub == 3) = true ∧ (e == 0) = true ∧ (y == 0) = true ∧ mA = true) := resp_seven0 h
theorem auth_four0 {sub e y : Int} {m mB : Bool} (h : authM sub e y m = mB) :
  (decide (sub = 11) = false ∧ mB = m) ∨ (decide (sub = 11) = true ∧ decide (e = 0) = false ∧ mB = m) ∨ (decide (sub = 11) = true ∧ decide (e = 0) = true ∧ decide (y = 0) = false ∧ mB = m) ∨ (decide (sub = 11) = true ∧ decide (e = 0) = true ∧ decide (y = 0) = true ∧ mB = false) := by
 subst h
 unfold authM
 by_cases h2 : sub = 11 <;> by_cases h4 : e = 0 <;> by_cases h5 : y = 0 <;> simp [h2, h4, h5]
theorem auth_four {sub e y : Int} {m mB : Bool} (h : authM sub e y m = mB) :
  ((sub == 11) = false ∧ mB = m) ∨ ((sub == 11) = true ∧ (e == 0) = false ∧ mB = m) ∨ ((sub == 11) = true ∧ (e == 0) = true ∧ (y == 0) = false ∧ mB = m) ∨ ((sub == 11) = true ∧ (e == 0) = true ∧ (y == 0) = true ∧ mB = false) := auth_four0 h
theorem rpG {bb : By} {w w' : World} {e : Ending} (h : RpR bb w e w') : ∃ E x y z a k q, e = .returned (.tuple #[.agg (cat (pRs x y z a k q)).toArray, .int .i64 E]) ∧ Ext w w' ∧ E = respE bb ∧ (respE bb = 0 → y = rdF bb 2) := by
 obtain ⟨x, y, z, a, k, q, rfl, hx, h1, _⟩ := h
 exact ⟨_, x, y, z, a, k, q, rfl, hx, rfl, fun h => (h1 h).2.1⟩
theorem auG {bb : By} {w w' : World} {e : Ending} (h : AuR bb w e w') : ∃ E x y z a k q, e = .returned (.tuple #[.agg (cat (pAu x y z a k q)).toArray, .int .i64 E]) ∧ Ext w w' ∧ E = frontE bb 6 ∧ (frontE bb 6 = 0 → z = rdF bb 4) := by
 obtain ⟨x, y, z, a, k, q, rfl, hx, h1, _⟩ := h
 exact ⟨_, x, y, z, a, k, q, rfl, hx, rfl, fun h => (h1 h).2.2⟩
theorem L_eqA {ops : Array Oper} {rest : List Oper} {o : Oper} {a : Act} {w : World} {Q : Exit → Act → World → Prop} (hgd : Region.wanted o (yielded ops a.tmps) = true) (x y : Operand) (ho : o.op = .binOp .eql 23 x y 23) (l m : By) (hl : l.length = 6) (hm : m.length = 6) (b : Bool) (hb : (l == m) = b)
  (hx : a.eval x = .agg (l.map V8).toArray) (hy : a.eval y = .agg (m.map V8).toArray) (h : wpList Try.prog ops Q rest (a.put o.dst (.bool b)) w) : wpList Try.prog ops Q (o :: rest) a w :=
 wpList_bin hgd .eql 23 23 x y ho _ _ _ hx hy (run_eqGuard_agg _ _ _ _ _ _ _ Try.eqGuardType23) (by rw [eqAddr l m hl hm w, hb]) h
theorem eqAddrB (l m : By) (h : l.length = 6) (h' : m.length = 6) (b : Bool) (hb : (l == m) = b) (w : World) : (Op.equalIn 10000 23 (.agg (l.map V8).toArray) (.agg (m.map V8).toArray)).run Try.prog w = .ok b w := by
 rw [← hb]
 exact run_eq_ints (P := Try.prog) w Try.underlying23 Try.underlying5 sizeU8 l m h h' 9998
def stp0 : Stp := ⟨0, 0, hd0, [], zero6⟩
theorem stp0_ok : stp0.Ok := ⟨hd0_ok, rfl⟩
theorem probe_ok {a : As} {who : By} (ha : a.own.length = 6) (hw : who.length = 6) : (probeH a who).Ok := ⟨by show (0:Int) ≤ 2; decide, by show (2:Int) < 256; decide, by show (0:Int) ≤ 0; decide, by show (0:Int) < 256; decide, by show (0:Int) ≤ 0; decide, by show (0:Int) < 256; decide, ha, hw, rfl, rfl⟩
theorem build_probe (a : As) (who : By) (ha : a.own.length = 6) (hw : who.length = 6) (w : World) : (Instr.build 28 #[(0, .int .u8 2), (2, .bool true), (10, .agg (a.own.map V8).toArray), (11, .agg (who.map V8).toArray)]).run Try.prog w = .ok (.agg (cellsH (probeH a who)).toArray) w := by
 obtain ⟨own, ca, li, id⟩ := a
 dsimp only at ha
 obtain ⟨_, _, _, _, _, _, rfl⟩ := six ha
 obtain ⟨_, _, _, _, _, _, rfl⟩ := six hw
 kernel_rfl
theorem build_probe2 (a : As) (who : By) (ha : a.own.length = 6) (hw : who.length = 6) (w : World) : (Instr.build 31 #[(0, .agg (cellsH (probeH a who)).toArray)]).run Try.prog w = .ok (.agg (cat (partsFr (probeH a who) (probe_ok ha hw) none 0 0)).toArray) w := by
 rw [← cat_Fr]
 obtain ⟨own, ca, li, id⟩ := a
 dsimp only at ha
 obtain ⟨_, _, _, _, _, _, rfl⟩ := six ha
 obtain ⟨_, _, _, _, _, _, rfl⟩ := six hw
 kernel_rfl
def partsM (a : As) (ha : a.own.length = 6) (t : By) (ht : t.length = 6) (sub : Int) : List Lf := [Lf.i .u8 0, Lf.i .u8 sub, Lf.b false, Lf.b false, Lf.b false, Lf.b false, Lf.b false, Lf.b false, Lf.b false, Lf.i .i64 0, Lf.v ⟨t, ht⟩, Lf.v ⟨a.own, ha⟩, Lf.v ⟨a.own, ha⟩, Lf.v ⟨zero6, rfl⟩, Lf.i .i64 0, Lf.i .i64 0, Lf.i .i64 0, Lf.i .u8 0, Lf.b false, Lf.b false]
theorem range_left {w : World} {b o : Nat} {xs ys : List Value} (h : w.rangeAt b o (xs ++ ys)) : w.rangeAt b o xs := fun j v hv => h j v (by
 rw [List.getElem?_append_left (List.getElem?_eq_some_iff.1 hv).1]; exact hv)
theorem range_M {w : World} {b o : Nat} {a : As} (ha : a.own.length = 6) {t : By} (ht : t.length = 6) {sub : Int} {u : Value} (h : w.rangeAt b o (cellsF (msgH a t sub) u)) : w.rangeAt b o (cat (partsM a ha t ht sub)) := by
 have e : cellsH (msgH a t sub) = cat (partsM a ha t ht sub) := by simp [cellsH, msgH, partsM, cat]
 rw [← e]
 exact range_left h
theorem do_ans (a : As) (l : List En) (s : Stp) (h0 : s.kind = 0) : ∀ o ∈ (doF a l s).2.1, AnsP a s.h.a2 o := by
 unfold doF
 rw [if_pos h0]
 exact (handle_ans a l s.h s.b s.now).2
theorem unput {P : Program} {ops : Array Oper} {rest : List Oper} {Q : Exit → Act → World → Prop} {a : Act} {w : World} {d : Option Tmp} {v : Value}
  (h : wpList P ops Q (Oper.mk d (.move (.const v)) 0 "" #[] none :: rest) a w) : wpList P ops Q rest (a.put d v) w := by
 unfold wpList at h
 rw [if_pos (show Region.wanted (Oper.mk d (.move (.const v)) 0 "" #[] none) (yielded ops a.tmps) = true from rfl)] at h
 rcases h with h | ⟨h, _⟩
 ·exact h
 ·exact absurd (show noRoomEvent ∈ (#[] : Array Event) from h.1) (by simp)
def mixL : List (Bool × Nat) → List Value → List Value → List Value
 | m, x :: xs, y :: ys => match m with
  | (_, 0) :: m => match m with
   | (b, n + 1) :: m => (if b then x else y) :: mixL ((b, n) :: m) xs ys
   | _ => y :: ys
  | (b, n + 1) :: m => (if b then x else y) :: mixL ((b, n) :: m) xs ys
  | [] => y :: ys
 | _, _, ys => ys
def mixF (vs : Tmp → Value) : List (Bool × Nat) → Nat → List Value → List Value
 | m, i, y :: ys => match m with
  | (_, 0) :: m => match m with
   | (b, n + 1) :: m => (if b then vs i else y) :: mixF vs ((b, n) :: m) (i + 1) ys
   | _ => y :: ys
  | (b, n + 1) :: m => (if b then vs i else y) :: mixF vs ((b, n) :: m) (i + 1) ys
  | [] => y :: ys
 | _, _, [] => []
theorem mixF_t (vs : Tmp → Value) (n : Nat) (m : List (Bool × Nat)) (i : Nat) (y : Value) (ys : List Value) : mixF vs ((true, n + 1) :: m) i (y :: ys) = vs i :: mixF vs ((true, n) :: m) (i + 1) ys := by simp [mixF]
theorem mixF_f (vs : Tmp → Value) (n : Nat) (m : List (Bool × Nat)) (i : Nat) (y : Value) (ys : List Value) : mixF vs ((false, n + 1) :: m) i (y :: ys) = y :: mixF vs ((false, n) :: m) (i + 1) ys := by simp [mixF]
theorem mixF_t0 (vs : Tmp → Value) (b : Bool) (n : Nat) (m : List (Bool × Nat)) (i : Nat) (y : Value) (ys : List Value) : mixF vs ((b, 0) :: (true, n + 1) :: m) i (y :: ys) = vs i :: mixF vs ((true, n) :: m) (i + 1) ys := by simp [mixF]
theorem mixF_f0 (vs : Tmp → Value) (b : Bool) (n : Nat) (m : List (Bool × Nat)) (i : Nat) (y : Value) (ys : List Value) : mixF vs ((b, 0) :: (false, n + 1) :: m) i (y :: ys) = y :: mixF vs ((false, n) :: m) (i + 1) ys := by simp [mixF]
theorem mixF_e (vs : Tmp → Value) (m : List (Bool × Nat)) (i : Nat) : mixF vs m i [] = [] := by simp [mixF]
theorem mix_same (vs : Tmp → Value) : ∀ (ys xs : List Value) (m : List (Bool × Nat)) (i : Nat), (∀ (j : Nat) (x : Value), xs[j]? = some x → vs (i + j) = x) → xs.length = ys.length → mixL m xs ys = mixF vs m i ys
 | [], xs, m, i, _, _ => by simp [mixL, mixF]
 | y :: ys, [], m, i, _, hl => by simp at hl
 | y :: ys, x :: xs, m, i, h, hl => by
  have h0 : vs i = x := h 0 x rfl
  have ih := fun m => mix_same vs ys xs m (i + 1) (fun j z hz => by rw [Nat.add_assoc, Nat.add_comm 1 j]; exact h (j + 1) z (by simpa using hz)) (by simpa using hl)
  unfold mixL mixF
  split
  ·split
   ·rw [h0, ih]
   ·rfl
  ·rw [h0, ih]
  ·rfl
def CutQ (m : List (Bool × Nat)) (R : (Tmp → Value) → World → Prop) (a : Act) (ex : Exit) (a' : Act) (w' : World) : Prop :=
 ex = .normal ∧ a'.defers = a.defers ∧ a'.tmps.toList = mixL m a'.tmps.toList a.tmps.toList ∧ a'.tmps.toList.length = a.tmps.toList.length ∧ R (fun d => a'.tmps.toList.getD d undef) w'
theorem CutQ.of {m : List (Bool × Nat)} {R : (Tmp → Value) → World → Prop} {a a' : Act} {w' : World} (hd : a'.defers = a.defers) (ht : a'.tmps.toList = mixL m a'.tmps.toList a.tmps.toList) (hl : a'.tmps.toList.length = a.tmps.toList.length) (hr : R (fun d => a'.tmps.toList.getD d undef) w') : CutQ m R a .normal a' w' := ⟨rfl, hd, ht, hl, hr⟩
theorem mix_eq {m : List (Bool × Nat)} {a a' : Act} (hd : a'.defers = a.defers) (ht : a'.tmps.toList = mixL m a'.tmps.toList a.tmps.toList) (hl : a'.tmps.toList.length = a.tmps.toList.length) : a' = ⟨(mixF (fun d => a'.tmps.toList.getD d undef) m 0 a.tmps.toList).toArray, a.defers⟩ := by
 have e := mix_same (fun d => a'.tmps.toList.getD d undef) a.tmps.toList a'.tmps.toList m 0 (fun j x hx => by simp [List.getD, hx]) hl
 rw [← e, ← ht, ← hd]
theorem wp_cutM {P : Program} {c : Code} {Q : Exit → Act → World → Prop} {a : Act} {w : World} (m : List (Bool × Nat)) (R : (Tmp → Value) → World → Prop)
  (h1 : c.wp P (CutQ m R a) a w)
  (h2 : ∀ vs w', R vs w' → Q .normal ⟨(mixF vs m 0 a.tmps.toList).toArray, a.defers⟩ w') : c.wp P Q a w :=
 Code.wp_mono (fun e a' w' ⟨he, hd, ht, hl, hr⟩ => by
  subst he
  have h := h2 _ _ hr
  rw [← mix_eq hd ht hl] at h
  exact h) h1
def LoopQ (m : List (Bool × Nat)) (R : (Tmp → Value) → World → Prop) (mu : (Tmp → Value) → World → Nat) (a0 : Act) (k : Nat) (a' : Act) (w' : World) : Prop :=
 a'.defers = a0.defers ∧ a'.tmps.toList = mixL m a'.tmps.toList a0.tmps.toList ∧ a'.tmps.toList.length = a0.tmps.toList.length ∧ R (fun d => a'.tmps.toList.getD d undef) w' ∧ mu (fun d => a'.tmps.toList.getD d undef) w' < k
theorem LoopQ.of {m : List (Bool × Nat)} {R : (Tmp → Value) → World → Prop} {mu : (Tmp → Value) → World → Nat} {a0 a' : Act} {k : Nat} {w' : World} (hd : a'.defers = a0.defers) (ht : a'.tmps.toList = mixL m a'.tmps.toList a0.tmps.toList) (hl : a'.tmps.toList.length = a0.tmps.toList.length) (hr : R (fun d => a'.tmps.toList.getD d undef) w') (hm : mu (fun d => a'.tmps.toList.getD d undef) w' < k) : LoopQ m R mu a0 k a' w' := ⟨hd, ht, hl, hr, hm⟩
theorem wp_loopM {P : Program} {c : Code} {Q : Exit → Act → World → Prop} {a : Act} {w : World} (m : List (Bool × Nat)) (R : (Tmp → Value) → World → Prop) (mu : (Tmp → Value) → World → Nat)
  (ht : a.tmps.toList = mixL m a.tmps.toList a.tmps.toList) (h0 : R (fun d => a.tmps.toList.getD d undef) w)
  (round : ∀ vs w', R vs w' → c.wp P (Exit.then (LoopQ m R mu a (mu vs w')) Q) ⟨(mixF vs m 0 a.tmps.toList).toArray, a.defers⟩ w') : (Code.loop c).wp P Q a w := by
 refine wp_loop (fun a' w' => a'.defers = a.defers ∧ (a'.tmps.toList = mixL m a'.tmps.toList a.tmps.toList ∧ a'.tmps.toList.length = a.tmps.toList.length) ∧ R (fun d => a'.tmps.toList.getD d undef) w') (fun a' w' => mu (fun d => a'.tmps.toList.getD d undef) w') ⟨rfl, ⟨ht, rfl⟩, h0⟩ ?_
 rintro a' w' ⟨h1, ⟨h2, h2l⟩, h3⟩
 have h := round _ _ h3
 rw [← mix_eq h1 h2 h2l] at h
 refine Code.wp_mono (fun e b v hb => ?_) h
 cases e with
 | normal =>
  obtain ⟨k1, k2, k2l, k3, k4⟩ := hb
  exact ⟨⟨k1, ⟨k2, k2l⟩, k3⟩, k4⟩
 | _ => exact hb
end Go.Proofs.Ytfecopfofkdnpaa
