/- Texts of this proof, put together: RunP, LawM, RfN, Run. -/
import Derived.Test.YtibncchobkaaiaaF37
import Derived.Great.BuildSlice
import Derived.Test.YtibncchobkaaiaaF36
import Derived.Test.YtibncchobkaaiaaF19
import Derived.Test.YtibncchobkaaiaaF23
import Derived.Test.YtibncchobkaaiaaF1
namespace Go.Proofs.Ytibncchobkaaiaa
open Go.RowKit
theorem ownsT_lt2 {w : World} {base E n sz : Nat} {v : Value} {xs : List Value} (h : w.ownsRow base E sz v n xs) {k : Nat} (hk : v.ownBlock = some k) : ∃ cs, w.heap[k]? = some (.cells cs E (0, 0)) := by
 obtain ⟨_, ⟨rfl, _⟩ | ⟨g, cap, cur, rfl, _, hg, _⟩⟩ := h
 ·cases hk
 ·have : g = k := by simpa [Value.ownBlock] using hk
  subst this
  exact ⟨cur, hg⟩
theorem owns_sep {w : World} {b1 E1 n1 s1 b2 E2 n2 s2 : Nat} {v1 v2 : Value} {x1 x2 : List Value} (h1 : w.ownsRow b1 E1 s1 v1 n1 x1) (h2 : w.ownsRow b2 E2 s2 v2 n2 x2) (hE : E1 ≠ E2) {k : Nat} (hk : v1.ownBlock = some k) : v2.ownBlock ≠ some k := by
 intro q
 obtain ⟨c1, e1⟩ := ownsT_lt2 h1 hk
 obtain ⟨c2, e2⟩ := ownsT_lt2 h2 q
 rw [e1] at e2
 cases e2
 exact hE rfl
theorem ownsT_sepG {w w' : World} {b1 E1 n1 s1 b2 E2 n2 s2 : Nat} {v1 v2 : Value} {x1 x2 : List Value} (h1 : w.ownsRow b1 E1 s1 v1 n1 x1) (h2 : w.ownsRow b2 E2 s2 v2 n2 x2) (hE : E1 ≠ E2) (hg : w.grownBy w' v2.ownBlock) : w'.ownsRow b1 E1 s1 v1 n1 x1 :=
 ownsT_grown h1 hg fun _ hk q => owns_sep h1 h2 hE hk q
theorem SlBB.chg {B : Nat} {w w' : World} {v : Value} {ls : List By} (h : SlBB B w v ls) (hc : Chg w.heap.size w w') : SlBB B w' v ls := by
 obtain ⟨vs, h1, h2, h3⟩ := h
 exact ⟨vs, ownsT_chgB h1 hc, h2, fun j u l hu hl => ownsT_chgB (h3 j u l hu hl) hc⟩
theorem elemB : ElemT Try.prog 34 33 1 24 := by
 refine ⟨Try.underlying34, ?_, by decide⟩
 have h : (Try.prog.info? 33).map (fun i => (i.zero, i.size, i.bytes)) = some (some (.slice none 0 0), 1, 24) := by kernel_rfl
 cases hq : Try.prog.info? 33 with
 | none => simp [hq] at h
 | some i =>
  rw [hq] at h
  simp only [Option.map_some, Option.some.injEq, Prod.mk.injEq] at h
  exact ⟨i, _, rfl, h.1, h.2.1, h.2.2, rfl⟩
theorem L_appM {w0 w : World} {bs : List Bk} {ops : Array Oper} {rest : List Oper} {o : Oper} {a : Act} {Q : Exit → Act → World → Prop} (H : Kp (Loc w0 w bs)) (hgd : o.guard = none) (s x : Operand)
  (ho : o.op = .call { callee := .builtin .append, args := #[s, x], argTypes := #[34, 34] })
  (base : Nat) (hb0 : w0.heap.size ≤ base) (hbase : base ≤ w.heap.size) (hlt : ∀ g ∈ bs.map (·.1), g < base) (v : Value) (ls : List By) (hs : a.eval s = v) (hown : SlBB base w v ls)
  (vx : Value) (ms : List By) (base2 : Nat) (hx : a.eval x = vx) (hms : SlBB base2 w vx ms) (hb2 : base ≤ base2) (hlen : ls.length + ms.length ≤ 100000)
  (h : ∀ v' w', Kp (SlBB base w' v' (ls ++ ms)) → Kp (w.grownBy w' v.ownBlock) → Kp (Loc w0 w' bs) → wpList Try.prog ops Q rest (a.put o.dst v') w') : wpList Try.prog ops Q (o :: rest) a w := by
 obtain ⟨i, z, hi, hz, hsz, hby, hzs⟩ := elemB.info
 obtain ⟨vs, h1, h2, h3⟩ := hown
 obtain ⟨us, k1, k2, k3⟩ := hms
 have hl1 : vs.length = ls.length := h2
 have hl2 : us.length = ms.length := k2
 have hlocG : ∀ w', w.grownBy w' v.ownBlock → Loc w0 w' bs := fun w' hg => by
  refine ⟨H.out.1.grown hg (fun k hk => Nat.le_trans hb0 (ownsT_block h1 k hk)), H.out.2.1, fun b hbm => ⟨(H.out.2.2 b hbm).1, ?_⟩⟩
  have h5 := (H.out.2.2 b hbm).2
  have h6 := hlt b.1 (List.mem_map.2 ⟨b, hbm, rfl⟩)
  exact (hg.block b.1 h5.lt (fun e => by have := ownsT_block h1 b.1 e.symm; omega)).trans h5
 have hfin : ∀ v' w', w'.ownsRow base 33 1 v' (ls.length + ms.length) (vs ++ us) → w.grownBy w' v.ownBlock → SlBB base w' v' (ls ++ ms) := fun v' w' q1 q2 => by
  refine ⟨vs ++ us, by rw [List.length_append]; exact q1, by rw [List.length_append, List.length_append, hl1, hl2], fun j u l hu hl => ?_⟩
  by_cases hj : j < ls.length
  ·rw [List.getElem?_append_left (by omega)] at hu
   rw [List.getElem?_append_left hj] at hl
   exact ownsT_sepG (h3 j u l hu hl) h1 (by decide) q2
  ·rw [List.getElem?_append_right (by omega)] at hu
   rw [List.getElem?_append_right (by omega)] at hl
   exact ownsT_sepG (owns_weak (k3 (j - ls.length) u l (by rwa [hl1] at hu) hl) hb2) h1 (by decide) q2
 rcases k1 with ⟨k1, ⟨rfl, hn⟩ | ⟨g, cap, cur, rfl, _, hg, h5, h6, h7, h8⟩⟩
 ·refine wpList_append_own_none hgd s x 34 ho base 33 i 1 Try.underlying34 hi v ls.length vs hs h1 hx ?_
  have hus : us = [] := List.eq_nil_of_length_eq_zero (by omega)
  have hgr : w.grownBy w v.ownBlock := ⟨rfl, rfl, rfl, Nat.le_refl _, fun _ _ _ => rfl⟩
  refine h v w (kp (hfin v w ?_ hgr)) (kp hgr) (kp (hlocG w hgr))
  rw [hus, List.append_nil, hn, Nat.add_zero]; exact h1
 ·refine wpList_append_own w hgd s x 34 ho base 33 i z 1 24 Try.underlying34 hi hz hsz hby hzs (by decide) v ls.length vs hs h1 ⟨g, 0, none⟩ ms.length cap us hx (by omega) (fun j u hu => ?_) (fun u hu => ?_) (by unfold maxLen; omega) (by omega) hbase ?_
  ·rw [Addr.add_mid, Nat.zero_add]
   have hL : Lc w g 33 cur.toList := hg
   refine hL.cell ?_
   have hj := (List.getElem?_eq_some_iff.1 hu).1
   rw [← h8, List.getElem?_take, if_pos (by omega)] at hu
   exact hu
  ·obtain ⟨j, hj⟩ := List.getElem?_of_mem hu
   obtain ⟨l, hl⟩ : ∃ l, ms[j]? = some l := ⟨_, List.getElem?_eq_getElem (by have := (List.getElem?_eq_some_iff.1 hj).1; omega)⟩
   obtain ⟨a, c, rfl⟩ := owns_form (k3 j u l hj hl)
   rfl
  ·intro v' w' q1 q2 _
   exact h v' w' (kp (hfin v' w' q1 q2)) (kp q2) (kp (hlocG w' q2))
theorem start_out (s : Fw) (now : Int) : (∀ m ∈ (startF s now).2.1, m.length ≤ 100000) ∧ (startF s now).2.1.length ≤ 1 := by
 unfold startF
 split
 ·exact ⟨(fun m hm => by cases hm), by simp [errR]⟩
 ·split
  ·exact ⟨(fun m hm => by cases hm), by simp [errR]⟩
  ·exact ⟨(fun m hm => by obtain rfl := List.mem_singleton.1 hm; exact send_len _), by simp⟩
theorem tick_out (s : Fw) (now : Int) : (∀ m ∈ (tickF s now).2.1, m.length ≤ 100000) ∧ (tickF s now).2.1.length ≤ 1 := by
 unfold tickF
 split
 ·exact ⟨(fun m hm => by cases hm), by simp [errR]⟩
 ·split
  ·exact ⟨(fun m hm => by cases hm), by simp⟩
  ·split
   ·exact ⟨(fun m hm => by cases hm), by simp⟩
   ·exact ⟨(fun m hm => by obtain rfl := List.mem_singleton.1 hm; exact send_len _), by simp⟩
theorem handle_one (s : Fw) (b : By) (now : Int) : (handleF s b now).2.1.length ≤ 1 := by
 have hs2 : (secondF s b now).2.1.length ≤ 1 := by unfold secondF; split <;> simp [errR]
 have hs4 : (fourthF s b).2.1.length ≤ 1 := by unfold fourthF; split <;> simp [errR]
 have hs3 : (thirdF s b).2.1.length ≤ 1 := by unfold thirdF; split <;> simp [errR]
 unfold handleF
 split
 ·simp [errR]
 ·split
  ·simp [errR]
  ·split
   ·exact hs2
   ·split
    ·exact hs4
    ·split
     ·simp [firstF]
     ·split
      ·exact hs3
      ·simp [errR]
theorem step_out (o : Ev) (now : Int) (sent : List By) (s : Fw) : (∀ m ∈ (stepF o now sent s).2.1, m.length ≤ 100000) ∧ (stepF o now sent s).2.1.length ≤ 1 := by
 unfold stepF
 split
 ·exact start_out s now
 ·split
  ·exact ⟨handle_len s _ now, handle_one s _ now⟩
  ·exact tick_out s now
theorem msgF_len {o : Ev} {sent : List By} (h : ∀ m ∈ sent, m.length ≤ 100000) {b : By} (hb : msgF o sent = some b) : b.length ≤ 100000 := by
 unfold msgF at hb
 split at hb
 ·cases hb; rw [signedF_len _ _ _ _ _ o.nonce.2]; decide
 ·split at hb
  ·cases hb
  ·rename_i q
   cases hb
   have hs : sent ≠ [] := fun e => q (.inr e)
   have hlt : o.which.toNat % sent.length < sent.length := Nat.mod_lt _ (List.length_pos_iff.2 hs)
   unfold altF
   rw [List.length_set, List.getD_eq_getElem?_getD, List.getElem?_eq_getElem hlt]
   exact h _ (List.getElem_mem hlt)
theorem eqF_self (w : World) (x : Fw) : (Op.equalIn 10000 32 (.agg (cat (partsF x)).toArray) (.agg (cat (partsF x)).toArray)).run Try.prog w = .ok true w := by
 rw [eqF_in]; simp
theorem rhandle_all (s : Fw) (h0 : 0 ≤ s.stage) (b : By) (hb : b.length ≤ 100000) (now : Int) (v : Value) (w : World) (hs : SlB w v b) (hcap : CapOk v) : Calls Try.prog 16 #[.agg (cat (partsF s)).toArray, v, .int .i64 now] w (ResR (handleF s b now) w) := by
 obtain ⟨a, c, rfl⟩ := hs.form
 by_cases h : b.length < 43
 ·exact rhandle_short s h0 b a _ c rfl h now w
 ·obtain ⟨gb, ob, rfl⟩ := hs.ne (by intro e; rw [e] at h; exact h (by decide))
  exact rhandle_long s h0 gb ob _ c b (by omega) hb now w hs hcap
set_option maxHeartbeats 1600000 in
theorem build_F3 (role : Int) (own peer : Vc 6) (master mine : Vc 16) (w : World) :
  (Instr.build 32 #[(0, .int .u8 role), (2, .agg (own.1.map V8).toArray), (3, .agg (peer.1.map V8).toArray), (4, .agg (master.1.map V8).toArray), (5, .agg (mine.1.map V8).toArray)]).run Try.prog w = .ok (.agg (cat (partsF { fw0 with role := role, own := own, peer := peer, master := master, mine := mine })).toArray) w := by
 refine run_build _ _ w (partsF fw0) (by kernel_rfl) _ Try.underlying32 #[(0, 1), (1, 1), (2, 6), (8, 6), (14, 16), (30, 16), (46, 16), (62, 1), (63, 1), (64, 1), (65, 48), (113, 17), (130, 1)] (by kernel_rfl) _ ?_
 show Instr.fill _ _ [_, _, _, _, _] = _
 rw [fill_cat _ _ 0 _ _ 0 0 1 [Lf.i .u8 role] rfl rfl rfl rfl _ rfl, fill_cat _ _ 2 _ _ 2 2 1 [Lf.v own] rfl rfl rfl rfl _ rfl, fill_cat _ _ 3 _ _ 8 3 1 [Lf.v peer] rfl rfl rfl rfl _ rfl, fill_cat _ _ 4 _ _ 14 4 1 [Lf.v master] rfl rfl rfl rfl _ rfl, fill_cat _ _ 5 _ _ 30 5 1 [Lf.v mine] rfl rfl rfl rfl _ rfl]
 rfl
set_option maxRecDepth 4000 in
set_option maxHeartbeats 3200000 in
theorem rnew_any (role : Int) (own peer : Vc 6) (master nonce : Vc 16) (gid : Int) (gkey : Vc 16) (w : World) : Calls Try.prog 21 #[.int .u8 role, .agg (own.1.map V8).toArray, .agg (peer.1.map V8).toArray, .agg (master.1.map V8).toArray, .agg (nonce.1.map V8).toArray, .agg (cat (partsG gid gkey)).toArray] w (NewR (newF role own peer master nonce gid gkey) w) := by
 have H := kp (Loc.start w)
 have HB := kp (fun h => new_bad (role := role) (own := own) (peer := peer) (master := master) (nonce := nonce) (gid := gid) (gkey := gkey) h)
 have HO := kp (fun h => new_ok (role := role) (own := own) (peer := peer) (master := master) (nonce := nonce) (gid := gid) (gkey := gkey) h)
 have HBF := kp (fun role => build_F3 role own peer master nonce)
 generalize newF role own peer master nonce gid gkey = r at *
 by_cases r1 : role = 1
 ·subst r1
  cases hq : decide (own = peer)
  ·have HQ := kp hq
   have hn : newB 1 own peer gid = (gid != 2 && gid != 3) := by simp [newB, hq]
   rw [hn] at HB HO
   clear hq hn
   cases g2 : decide (gid < 2)
   ·cases g3 : decide (3 < gid)
    ·have HK := kp (HO.out (by have := of_decide_eq_false g2; have := of_decide_eq_false g3; simp; omega))
     clear HB HO
     go_enter Try.func21, Try.ntmps21
     generalize h2 : (Code.region 2 _ _ : Code) = R2
     go_wp2_with (first | ((with_reducible refine isBx 7 23 ?_); (refine L_box H rfl 23 _ rfl (cat ([Lf.v own])) rfl ?_); clear H; intro g7 w7 HGg7 HEg7 H; simp only [pA]) | ((with_reducible refine isBx 8 23 ?_); (refine L_box H rfl 23 _ rfl (cat ([Lf.v peer])) rfl ?_); clear H; intro g8 w8 HGg8 HEg8 H; simp only [pA]) | ((with_reducible refine isBx 9 25 ?_); (refine L_box H rfl 25 _ rfl (cat ([Lf.v master])) rfl ?_); clear H; intro g9 w9 HGg9 HEg9 H; simp only [pA]) | ((with_reducible refine isBx 10 26 ?_); (refine L_box H rfl 26 _ rfl (cat ([Lf.v nonce])) rfl ?_); clear H; intro g10 w10 HGg10 HEg10 H; simp only [pA]) | ((with_reducible refine isBx 11 30 ?_); (refine L_box H rfl 30 _ rfl (cat (partsG gid gkey)) rfl ?_); clear H; intro g11 w11 HGg11 HEg11 H; simp only [pA]) | ((with_reducible refine isAl 12 32 ?_); (refine L_alloc H rfl 32 rfl (cat (partsF fw0)) (fun _ _ => by kernel_rfl) ?_); clear H; intro g12 w12 HGg12 HEg12 H; simp only [pA]) | ((with_reducible refine isLd 23 ?_); (first | (refine L_fv H rfl 23 _ rfl 4 rfl _ rfl _ rfl rfl Try.underlying23 rfl (by kernel_rfl) ?_) | (refine L_fv H rfl 23 _ rfl 5 rfl _ rfl _ rfl rfl Try.underlying23 rfl (by kernel_rfl) ?_)); simp only [pA]) | (((with_reducible show wpList _ _ _ (Oper.mk _ (Op.binOp _ 23 _ _ _) _ _ _ _ :: _) _ _); (refine wpList_eq2 rfl 23 _ _ _ rfl _ _ _ rfl rfl Try.eqGuardType23 (eqV_in _ Try.underlying23 _ _ 9998) ?_); simp only [pA]); rw [HQ.out]) | ((with_reducible refine isLd 3 ?_); (refine L_f1 H rfl 3 _ rfl 1 rfl _ rfl _ rfl _ rfl Try.underlying3 rfl ?_); simp only [pA]) | ((with_reducible refine isLd 25 ?_); (refine L_fv H rfl 25 _ rfl 3 rfl _ rfl _ rfl rfl Try.underlying25 rfl (by kernel_rfl) ?_); simp only [pA]) | ((with_reducible refine isLd 26 ?_); (refine L_fv H rfl 26 _ rfl 2 rfl _ rfl _ rfl rfl Try.underlying26 rfl (by kernel_rfl) ?_); simp only [pA]) | ((with_reducible show wpList _ _ _ (Oper.mk (some 46) (Op.build _ _) _ _ _ _ :: _) _ _); (refine L_bd rfl 32 _ rfl #[(0, .int .u8 1), (2, .agg (own.1.map V8).toArray), (3, .agg (peer.1.map V8).toArray), (4, .agg (master.1.map V8).toArray), (5, .agg (nonce.1.map V8).toArray)] (by kernel_rfl) (cat (partsF { fw0 with role := 1, own := own, peer := peer, master := master, mine := nonce })) (HBF.out 1) ?_); simp only [pA]) | ((with_reducible refine isAl 14 32 ?_); (refine L_alloc H rfl 32 rfl (cat (partsF fw0)) (fun _ _ => by kernel_rfl) ?_); clear H; intro g14 w14 HGg14 HEg14 H; simp only [pA]) | ((with_reducible show wpList _ _ _ (Oper.mk none (Op.store 32 _ (.tmp 46)) _ _ _ _ :: _) _ _); ((with_reducible refine isSt 32 ?_); refine L_sa H rfl rfl 32 _ _ rfl 0 rfl rfl (partsF { fw0 with role := 1, own := own, peer := peer, master := master, mine := nonce }) rfl rfl (by kernel_rfl) ?_; clear H; intro wk HWwk H; simp only [szA] at H)) | ((with_reducible refine isLd 30 ?_); (refine L_fg H rfl 30 _ rfl 2 rfl _ rfl _ rfl (partsG gid gkey) rfl Try.underlying30 rfl (by kernel_rfl) ?_); simp only [pA]) | ((with_reducible refine isSt 30 ?_); (refine L_sg H rfl rfl 30 _ _ rfl 0 rfl _ rfl _ rfl 2 (partsG gid gkey) rfl rfl (by kernel_rfl) (_) rfl ?_; clear H; intro wg HWwg H; simp only [szA] at H)) | ((with_reducible refine isLd 32 ?_); refine L_fa H rfl 32 _ rfl 0 rfl rfl Try.underlying32 rfl (by kernel_rfl) ?_; simp only [pA]) | ((with_reducible refine isSt 32 ?_); refine L_sa H rfl rfl 32 _ _ rfl 1 rfl rfl (partsF ({ fw0 with role := 1, own := own, peer := peer, master := master, mine := nonce, gid := gid, gkey := gkey })) rfl rfl (by kernel_rfl) ?_; clear H; intro wz HWwz H; simp only [ssA, szA] at H))
     (exact ret_f2 H Try.results21 1 rfl rfl _ rfl Try.underlying32 rfl (by kernel_rfl) rfl (⟨by rw [HK.out]; rfl, H.out.1⟩))
    ·have HK := kp (HB.out (by have := of_decide_eq_true g3; simp; omega))
     clear HB HO
     go_enter Try.func21, Try.ntmps21
     generalize h3 : (Code.region 3 _ _ : Code) = R3
     go_wp2_with (first | ((with_reducible refine isBx 7 23 ?_); (refine L_box H rfl 23 _ rfl (cat ([Lf.v own])) rfl ?_); clear H; intro g7 w7 HGg7 HEg7 H; simp only [pA]) | ((with_reducible refine isBx 8 23 ?_); (refine L_box H rfl 23 _ rfl (cat ([Lf.v peer])) rfl ?_); clear H; intro g8 w8 HGg8 HEg8 H; simp only [pA]) | ((with_reducible refine isBx 9 25 ?_); (refine L_box H rfl 25 _ rfl (cat ([Lf.v master])) rfl ?_); clear H; intro g9 w9 HGg9 HEg9 H; simp only [pA]) | ((with_reducible refine isBx 10 26 ?_); (refine L_box H rfl 26 _ rfl (cat ([Lf.v nonce])) rfl ?_); clear H; intro g10 w10 HGg10 HEg10 H; simp only [pA]) | ((with_reducible refine isBx 11 30 ?_); (refine L_box H rfl 30 _ rfl (cat (partsG gid gkey)) rfl ?_); clear H; intro g11 w11 HGg11 HEg11 H; simp only [pA]) | ((with_reducible refine isAl 12 32 ?_); (refine L_alloc H rfl 32 rfl (cat (partsF fw0)) (fun _ _ => by kernel_rfl) ?_); clear H; intro g12 w12 HGg12 HEg12 H; simp only [pA]) | ((with_reducible refine isLd 23 ?_); (first | (refine L_fv H rfl 23 _ rfl 4 rfl _ rfl _ rfl rfl Try.underlying23 rfl (by kernel_rfl) ?_) | (refine L_fv H rfl 23 _ rfl 5 rfl _ rfl _ rfl rfl Try.underlying23 rfl (by kernel_rfl) ?_)); simp only [pA]) | (((with_reducible show wpList _ _ _ (Oper.mk _ (Op.binOp _ 23 _ _ _) _ _ _ _ :: _) _ _); (refine wpList_eq2 rfl 23 _ _ _ rfl _ _ _ rfl rfl Try.eqGuardType23 (eqV_in _ Try.underlying23 _ _ 9998) ?_); simp only [pA]); rw [HQ.out]) | ((with_reducible refine isLd 3 ?_); (refine L_f1 H rfl 3 _ rfl 1 rfl _ rfl _ rfl _ rfl Try.underlying3 rfl ?_); simp only [pA]) | ((with_reducible show wpList _ _ _ (Oper.mk _ (Op.build 32 _) _ _ _ _ :: _) _ _); (refine L_bd rfl 32 _ rfl #[] (by kernel_rfl) (cat (partsF fw0)) (fun _ => by kernel_rfl) ?_); simp only [pA]) | ((with_reducible refine isSt 32 ?_); refine L_sa H rfl rfl 32 _ _ rfl 0 rfl rfl (partsF fw0) rfl rfl (by kernel_rfl) ?_; clear H; intro wz HWwz H; simp only [szA] at H))
     all_goals (exact ret_f2 H Try.results21 0 rfl rfl _ rfl Try.underlying32 rfl (by kernel_rfl) rfl (⟨by rw [HK.out]; rfl, H.out.1⟩))
   ·have HK := kp (HB.out (by have := of_decide_eq_true g2; simp; omega))
    clear HB HO
    go_enter Try.func21, Try.ntmps21
    generalize h3 : (Code.region 3 _ _ : Code) = R3
    go_wp2_with (first | ((with_reducible refine isBx 7 23 ?_); (refine L_box H rfl 23 _ rfl (cat ([Lf.v own])) rfl ?_); clear H; intro g7 w7 HGg7 HEg7 H; simp only [pA]) | ((with_reducible refine isBx 8 23 ?_); (refine L_box H rfl 23 _ rfl (cat ([Lf.v peer])) rfl ?_); clear H; intro g8 w8 HGg8 HEg8 H; simp only [pA]) | ((with_reducible refine isBx 9 25 ?_); (refine L_box H rfl 25 _ rfl (cat ([Lf.v master])) rfl ?_); clear H; intro g9 w9 HGg9 HEg9 H; simp only [pA]) | ((with_reducible refine isBx 10 26 ?_); (refine L_box H rfl 26 _ rfl (cat ([Lf.v nonce])) rfl ?_); clear H; intro g10 w10 HGg10 HEg10 H; simp only [pA]) | ((with_reducible refine isBx 11 30 ?_); (refine L_box H rfl 30 _ rfl (cat (partsG gid gkey)) rfl ?_); clear H; intro g11 w11 HGg11 HEg11 H; simp only [pA]) | ((with_reducible refine isAl 12 32 ?_); (refine L_alloc H rfl 32 rfl (cat (partsF fw0)) (fun _ _ => by kernel_rfl) ?_); clear H; intro g12 w12 HGg12 HEg12 H; simp only [pA]) | ((with_reducible refine isLd 23 ?_); (first | (refine L_fv H rfl 23 _ rfl 4 rfl _ rfl _ rfl rfl Try.underlying23 rfl (by kernel_rfl) ?_) | (refine L_fv H rfl 23 _ rfl 5 rfl _ rfl _ rfl rfl Try.underlying23 rfl (by kernel_rfl) ?_)); simp only [pA]) | (((with_reducible show wpList _ _ _ (Oper.mk _ (Op.binOp _ 23 _ _ _) _ _ _ _ :: _) _ _); (refine wpList_eq2 rfl 23 _ _ _ rfl _ _ _ rfl rfl Try.eqGuardType23 (eqV_in _ Try.underlying23 _ _ 9998) ?_); simp only [pA]); rw [HQ.out]) | ((with_reducible refine isLd 3 ?_); (refine L_f1 H rfl 3 _ rfl 1 rfl _ rfl _ rfl _ rfl Try.underlying3 rfl ?_); simp only [pA]) | ((with_reducible show wpList _ _ _ (Oper.mk _ (Op.build 32 _) _ _ _ _ :: _) _ _); (refine L_bd rfl 32 _ rfl #[] (by kernel_rfl) (cat (partsF fw0)) (fun _ => by kernel_rfl) ?_); simp only [pA]) | ((with_reducible refine isSt 32 ?_); refine L_sa H rfl rfl 32 _ _ rfl 0 rfl rfl (partsF fw0) rfl rfl (by kernel_rfl) ?_; clear H; intro wz HWwz H; simp only [szA] at H))
    all_goals (exact ret_f2 H Try.results21 0 rfl rfl _ rfl Try.underlying32 rfl (by kernel_rfl) rfl (⟨by rw [HK.out]; rfl, H.out.1⟩))
  ·have HQ := kp hq
   have HK := kp (HB.out (by simp [newB, hq]))
   clear HB HO hq
   go_enter Try.func21, Try.ntmps21
   generalize h3 : (Code.region 3 _ _ : Code) = R3
   go_wp2_with (first | ((with_reducible refine isBx 7 23 ?_); (refine L_box H rfl 23 _ rfl (cat ([Lf.v own])) rfl ?_); clear H; intro g7 w7 HGg7 HEg7 H; simp only [pA]) | ((with_reducible refine isBx 8 23 ?_); (refine L_box H rfl 23 _ rfl (cat ([Lf.v peer])) rfl ?_); clear H; intro g8 w8 HGg8 HEg8 H; simp only [pA]) | ((with_reducible refine isBx 9 25 ?_); (refine L_box H rfl 25 _ rfl (cat ([Lf.v master])) rfl ?_); clear H; intro g9 w9 HGg9 HEg9 H; simp only [pA]) | ((with_reducible refine isBx 10 26 ?_); (refine L_box H rfl 26 _ rfl (cat ([Lf.v nonce])) rfl ?_); clear H; intro g10 w10 HGg10 HEg10 H; simp only [pA]) | ((with_reducible refine isBx 11 30 ?_); (refine L_box H rfl 30 _ rfl (cat (partsG gid gkey)) rfl ?_); clear H; intro g11 w11 HGg11 HEg11 H; simp only [pA]) | ((with_reducible refine isAl 12 32 ?_); (refine L_alloc H rfl 32 rfl (cat (partsF fw0)) (fun _ _ => by kernel_rfl) ?_); clear H; intro g12 w12 HGg12 HEg12 H; simp only [pA]) | ((with_reducible refine isLd 23 ?_); (first | (refine L_fv H rfl 23 _ rfl 4 rfl _ rfl _ rfl rfl Try.underlying23 rfl (by kernel_rfl) ?_) | (refine L_fv H rfl 23 _ rfl 5 rfl _ rfl _ rfl rfl Try.underlying23 rfl (by kernel_rfl) ?_)); simp only [pA]) | (((with_reducible show wpList _ _ _ (Oper.mk _ (Op.binOp _ 23 _ _ _) _ _ _ _ :: _) _ _); (refine wpList_eq2 rfl 23 _ _ _ rfl _ _ _ rfl rfl Try.eqGuardType23 (eqV_in _ Try.underlying23 _ _ 9998) ?_); simp only [pA]); rw [HQ.out]) | ((with_reducible show wpList _ _ _ (Oper.mk _ (Op.build 32 _) _ _ _ _ :: _) _ _); (refine L_bd rfl 32 _ rfl #[] (by kernel_rfl) (cat (partsF fw0)) (fun _ => by kernel_rfl) ?_); simp only [pA]) | ((with_reducible refine isSt 32 ?_); refine L_sa H rfl rfl 32 _ _ rfl 0 rfl rfl (partsF fw0) rfl rfl (by kernel_rfl) ?_; clear H; intro wz HWwz H; simp only [szA] at H))
   all_goals (exact ret_f2 H Try.results21 0 rfl rfl _ rfl Try.underlying32 rfl (by kernel_rfl) rfl (⟨by rw [HK.out]; rfl, H.out.1⟩))
 ·by_cases r2 : role = 2
  ·subst r2
   cases hq : decide (own = peer)
   ·have HQ := kp hq
    have HK := kp (HO.out (by simp [newB, hq]))
    clear HB HO hq r1
    go_enter Try.func21, Try.ntmps21
    generalize h2 : (Code.region 2 _ _ : Code) = R2
    go_wp2_with (first | ((with_reducible refine isBx 7 23 ?_); (refine L_box H rfl 23 _ rfl (cat ([Lf.v own])) rfl ?_); clear H; intro g7 w7 HGg7 HEg7 H; simp only [pA]) | ((with_reducible refine isBx 8 23 ?_); (refine L_box H rfl 23 _ rfl (cat ([Lf.v peer])) rfl ?_); clear H; intro g8 w8 HGg8 HEg8 H; simp only [pA]) | ((with_reducible refine isBx 9 25 ?_); (refine L_box H rfl 25 _ rfl (cat ([Lf.v master])) rfl ?_); clear H; intro g9 w9 HGg9 HEg9 H; simp only [pA]) | ((with_reducible refine isBx 10 26 ?_); (refine L_box H rfl 26 _ rfl (cat ([Lf.v nonce])) rfl ?_); clear H; intro g10 w10 HGg10 HEg10 H; simp only [pA]) | ((with_reducible refine isBx 11 30 ?_); (refine L_box H rfl 30 _ rfl (cat (partsG gid gkey)) rfl ?_); clear H; intro g11 w11 HGg11 HEg11 H; simp only [pA]) | ((with_reducible refine isAl 12 32 ?_); (refine L_alloc H rfl 32 rfl (cat (partsF fw0)) (fun _ _ => by kernel_rfl) ?_); clear H; intro g12 w12 HGg12 HEg12 H; simp only [pA]) | ((with_reducible refine isLd 23 ?_); (first | (refine L_fv H rfl 23 _ rfl 4 rfl _ rfl _ rfl rfl Try.underlying23 rfl (by kernel_rfl) ?_) | (refine L_fv H rfl 23 _ rfl 5 rfl _ rfl _ rfl rfl Try.underlying23 rfl (by kernel_rfl) ?_)); simp only [pA]) | (((with_reducible show wpList _ _ _ (Oper.mk _ (Op.binOp _ 23 _ _ _) _ _ _ _ :: _) _ _); (refine wpList_eq2 rfl 23 _ _ _ rfl _ _ _ rfl rfl Try.eqGuardType23 (eqV_in _ Try.underlying23 _ _ 9998) ?_); simp only [pA]); rw [HQ.out]) | ((with_reducible refine isLd 25 ?_); (refine L_fv H rfl 25 _ rfl 3 rfl _ rfl _ rfl rfl Try.underlying25 rfl (by kernel_rfl) ?_); simp only [pA]) | ((with_reducible refine isLd 26 ?_); (refine L_fv H rfl 26 _ rfl 2 rfl _ rfl _ rfl rfl Try.underlying26 rfl (by kernel_rfl) ?_); simp only [pA]) | ((with_reducible show wpList _ _ _ (Oper.mk (some 46) (Op.build _ _) _ _ _ _ :: _) _ _); (refine L_bd rfl 32 _ rfl #[(0, .int .u8 2), (2, .agg (own.1.map V8).toArray), (3, .agg (peer.1.map V8).toArray), (4, .agg (master.1.map V8).toArray), (5, .agg (nonce.1.map V8).toArray)] (by kernel_rfl) (cat (partsF { fw0 with role := 2, own := own, peer := peer, master := master, mine := nonce })) (HBF.out 2) ?_); simp only [pA]) | ((with_reducible refine isAl 14 32 ?_); (refine L_alloc H rfl 32 rfl (cat (partsF fw0)) (fun _ _ => by kernel_rfl) ?_); clear H; intro g14 w14 HGg14 HEg14 H; simp only [pA]) | ((with_reducible show wpList _ _ _ (Oper.mk none (Op.store 32 _ (.tmp 46)) _ _ _ _ :: _) _ _); ((with_reducible refine isSt 32 ?_); refine L_sa H rfl rfl 32 _ _ rfl 0 rfl rfl (partsF { fw0 with role := 2, own := own, peer := peer, master := master, mine := nonce }) rfl rfl (by kernel_rfl) ?_; clear H; intro wk HWwk H; simp only [szA] at H)) | ((with_reducible refine isLd 32 ?_); refine L_fa H rfl 32 _ rfl 0 rfl rfl Try.underlying32 rfl (by kernel_rfl) ?_; simp only [pA]) | ((with_reducible refine isSt 32 ?_); refine L_sa H rfl rfl 32 _ _ rfl 1 rfl rfl (partsF ({ fw0 with role := 2, own := own, peer := peer, master := master, mine := nonce })) rfl rfl (by kernel_rfl) ?_; clear H; intro wz HWwz H; simp only [ssA, szA] at H))
    (exact ret_f2 H Try.results21 1 rfl rfl _ rfl Try.underlying32 rfl (by kernel_rfl) rfl (⟨by rw [HK.out]; rfl, H.out.1⟩))
   ·have HQ := kp hq
    have HK := kp (HB.out (by simp [newB, hq]))
    clear HB HO hq r1
    go_enter Try.func21, Try.ntmps21
    generalize h3 : (Code.region 3 _ _ : Code) = R3
    go_wp2_with (first | ((with_reducible refine isBx 7 23 ?_); (refine L_box H rfl 23 _ rfl (cat ([Lf.v own])) rfl ?_); clear H; intro g7 w7 HGg7 HEg7 H; simp only [pA]) | ((with_reducible refine isBx 8 23 ?_); (refine L_box H rfl 23 _ rfl (cat ([Lf.v peer])) rfl ?_); clear H; intro g8 w8 HGg8 HEg8 H; simp only [pA]) | ((with_reducible refine isBx 9 25 ?_); (refine L_box H rfl 25 _ rfl (cat ([Lf.v master])) rfl ?_); clear H; intro g9 w9 HGg9 HEg9 H; simp only [pA]) | ((with_reducible refine isBx 10 26 ?_); (refine L_box H rfl 26 _ rfl (cat ([Lf.v nonce])) rfl ?_); clear H; intro g10 w10 HGg10 HEg10 H; simp only [pA]) | ((with_reducible refine isBx 11 30 ?_); (refine L_box H rfl 30 _ rfl (cat (partsG gid gkey)) rfl ?_); clear H; intro g11 w11 HGg11 HEg11 H; simp only [pA]) | ((with_reducible refine isAl 12 32 ?_); (refine L_alloc H rfl 32 rfl (cat (partsF fw0)) (fun _ _ => by kernel_rfl) ?_); clear H; intro g12 w12 HGg12 HEg12 H; simp only [pA]) | ((with_reducible refine isLd 23 ?_); (first | (refine L_fv H rfl 23 _ rfl 4 rfl _ rfl _ rfl rfl Try.underlying23 rfl (by kernel_rfl) ?_) | (refine L_fv H rfl 23 _ rfl 5 rfl _ rfl _ rfl rfl Try.underlying23 rfl (by kernel_rfl) ?_)); simp only [pA]) | (((with_reducible show wpList _ _ _ (Oper.mk _ (Op.binOp _ 23 _ _ _) _ _ _ _ :: _) _ _); (refine wpList_eq2 rfl 23 _ _ _ rfl _ _ _ rfl rfl Try.eqGuardType23 (eqV_in _ Try.underlying23 _ _ 9998) ?_); simp only [pA]); rw [HQ.out]) | ((with_reducible show wpList _ _ _ (Oper.mk _ (Op.build 32 _) _ _ _ _ :: _) _ _); (refine L_bd rfl 32 _ rfl #[] (by kernel_rfl) (cat (partsF fw0)) (fun _ => by kernel_rfl) ?_); simp only [pA]) | ((with_reducible refine isSt 32 ?_); refine L_sa H rfl rfl 32 _ _ rfl 0 rfl rfl (partsF fw0) rfl rfl (by kernel_rfl) ?_; clear H; intro wz HWwz H; simp only [szA] at H))
    all_goals (exact ret_f2 H Try.results21 0 rfl rfl _ rfl Try.underlying32 rfl (by kernel_rfl) rfl (⟨by rw [HK.out]; rfl, H.out.1⟩))
  ·have HK := kp (HB.out (by simp [newB, r1, r2]))
   have HQ := kp (show True = True from rfl)
   have e1 : (role != 1) = true := by simpa using r1
   have e2 : (role != 2) = true := by simpa using r2
   clear HB HO r1 r2
   go_enter Try.func21, Try.ntmps21
   generalize h3 : (Code.region 3 _ _ : Code) = R3
   go_wp2_with (first | ((with_reducible refine isBx 7 23 ?_); (refine L_box H rfl 23 _ rfl (cat ([Lf.v own])) rfl ?_); clear H; intro g7 w7 HGg7 HEg7 H; simp only [pA]) | ((with_reducible refine isBx 8 23 ?_); (refine L_box H rfl 23 _ rfl (cat ([Lf.v peer])) rfl ?_); clear H; intro g8 w8 HGg8 HEg8 H; simp only [pA]) | ((with_reducible refine isBx 9 25 ?_); (refine L_box H rfl 25 _ rfl (cat ([Lf.v master])) rfl ?_); clear H; intro g9 w9 HGg9 HEg9 H; simp only [pA]) | ((with_reducible refine isBx 10 26 ?_); (refine L_box H rfl 26 _ rfl (cat ([Lf.v nonce])) rfl ?_); clear H; intro g10 w10 HGg10 HEg10 H; simp only [pA]) | ((with_reducible refine isBx 11 30 ?_); (refine L_box H rfl 30 _ rfl (cat (partsG gid gkey)) rfl ?_); clear H; intro g11 w11 HGg11 HEg11 H; simp only [pA]) | ((with_reducible refine isAl 12 32 ?_); (refine L_alloc H rfl 32 rfl (cat (partsF fw0)) (fun _ _ => by kernel_rfl) ?_); clear H; intro g12 w12 HGg12 HEg12 H; simp only [pA]) | ((with_reducible show wpList _ _ _ (Oper.mk _ (Op.build 32 _) _ _ _ _ :: _) _ _); (refine L_bd rfl 32 _ rfl #[] (by kernel_rfl) (cat (partsF fw0)) (fun _ => by kernel_rfl) ?_); simp only [pA]) | ((with_reducible refine isSt 32 ?_); refine L_sa H rfl rfl 32 _ _ rfl 0 rfl rfl (partsF fw0) rfl rfl (by kernel_rfl) ?_; clear H; intro wz HWwz H; simp only [szA] at H))
   all_goals (exact ret_f2 H Try.results21 0 rfl rfl _ rfl Try.underlying32 rfl (by kernel_rfl) rfl (⟨by rw [HK.out]; rfl, H.out.1⟩))
def ev0 : Ev := ⟨0, 0, 0, 0, 0#8, 0, 0, zv 16⟩
theorem cellsV_len (x : Ev) : (cellsV x).length = 23 := by
 unfold cellsV
 rw [cat_len, show lsum (partsE x) = 23 from by kernel_rfl]
theorem sizeEv (x : Ev) : (Try.prog.info? 57).map (·.size) = some (cellsV x).length := by rw [cellsV_len]; kernel_rfl
theorem great_no {l : List Ev} (h : greatF l = false) {j : Nat} {x : Ev} (hj : l[j]? = some x) : badEv x = false := by
 cases q : badEv x with
 | false => rfl
 | true => rw [any_at hj q] at h; cases h
theorem great_len {l : List Ev} (h : greatF l = false) : l.length ≤ 60 := by
 unfold greatF at h
 simp only [Bool.or_eq_false_iff, decide_eq_false_iff_not] at h
 omega
end Go.Proofs.Ytibncchobkaaiaa
