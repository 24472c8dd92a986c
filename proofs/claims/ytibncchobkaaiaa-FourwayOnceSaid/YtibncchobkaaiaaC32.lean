/- Texts of this proof, put together: App, LoopC, RunP. -/
import Derived.Test.YtibncchobkaaiaaC11
import Derived.Test.YtibncchobkaaiaaC10
import Derived.Test.YtibncchobkaaiaaC31
import Derived.Great.BuildSlice
import Derived.Test.YtibncchobkaaiaaC1
namespace Go.Proofs.Ytibncchobkaaiaa
open Go.RowKit
section
variable {P : Program}
theorem append_where (w : World) (base : Nat) (t ty e : TypeId) (i : TypeInfo) (z : Value) (ht : P.underlying t = some (.slice e)) (hi : P.info? e = some i) (hz : i.zero = some z)
  (v : Value) (n : Nat) (xs : List Value) (hown : w.ownsRow base e i.size v n xs)
  (a : Addr) (m c : Nat) (news : List Value) (hl : news.length = m * i.size) (hnews : ∀ j u, news[j]? = some u → w.cell? (a.add j) = some u) (h1 : ∀ u ∈ news, u.oneCell' = true)
  (h63 : n + m ≤ maxLen) (hbytes : (n + m) * i.bytes ≤ 140737488355328) (v' : Value) (w' : World) (hr : (Builtin.append_ #[t, t] ty #[v, .slice (some a) m c]).run P w = .ok v' w') (hm : 0 < m) :
  v'.ownBlock = v.ownBlock ∨ v'.ownBlock = some w.heap.size := by
 have hsmall : n + m ≤ 9223372036854775807 := by simp only [maxLen] at h63; omega
 rcases hown with ⟨hlen, ⟨rfl, rfl⟩ | ⟨g, cap, cur, rfl, hbg, hg, hnc, hcm, hcs, htake⟩⟩
 ·have h2 := run_append_nil (P := P) w t ty e i z ht hi hz a m c news hl hnews hm (by omega) (by have hb := hbytes; simp only [Nat.zero_add] at hb; omega)
  rw [h2] at hr
  cases hr
  exact .inr rfl
 ·by_cases hroom : n + m ≤ cap
  ·have hfit : n * i.size + news.length ≤ cur.size := by rw [hl, hcs, ← Nat.add_mul]; exact Nat.mul_le_mul_right _ hroom
   have h2 := run_append_room (P := P) w t ty e i ht hi g n cap cur hg a m c news hl hnews h1 hroom hfit
   rw [h2] at hr
   cases hr
   exact .inl rfl
  ·have holds : ∀ j u, xs[j]? = some u → w.cell? ((⟨g, 0, none⟩ : Addr).add j) = some u := World.ownsRow.cells (base := base) (e := e) (size := i.size) (n := n) (v := .slice (some ⟨g, 0, none⟩) n cap) ⟨hlen, .inr ⟨g, cap, cur, rfl, hbg, hg, hnc, hcm, hcs, htake⟩⟩ rfl
   have h2 := run_append_grow (P := P) w t ty e i z ht hi hz ⟨g, 0, none⟩ n cap xs hlen holds a m c news hl hnews (by omega) (by omega) (growslice_fits (by omega) hbytes)
   rw [h2] at hr
   cases hr
   exact .inr rfl
structure ElemT (P : Program) (t e : TypeId) (sz bytes : Nat) : Prop where
 under : P.underlying t = some (.slice e)
 info : ∃ i z, P.info? e = some i ∧ i.zero = some z ∧ i.size = sz ∧ i.bytes = bytes ∧ z.cells.size = sz
 pos : 0 < sz
theorem L_appT {α : Type} {sz : Nat} {f : α → List Value} {t e : TypeId} {bytes : Nat} (he : ElemT P t e sz bytes) 
  {w0 w : World} {bs : List Bk} {ops : Array Oper} {rest : List Oper} {o : Oper} {a : Act} {Q : Exit → Act → World → Prop} (H : Kp (Loc w0 w bs)) (hgd : o.guard = none) (s x : Operand)
  (ho : o.op = .call { callee := .builtin .append, args := #[s, x], argTypes := #[t, t] })
  (base : Nat) (hb0 : w0.heap.size ≤ base) (hbase : base ≤ w.heap.size) (v : Value) (xs : List α) (hs : a.eval s = v) (hown : w.ownsRow base e sz v xs.length (xs.flatMap f)) (hsep : ∀ g ∈ bs.map (·.1), v.ownBlock ≠ some g)
  (g : Nat) (y : α) (hx : a.eval x = .slice (some ⟨g, 0, none⟩) 1 1) (E : TypeId) (hy : Lc w g E (f y)) (hf : (f y).length = sz) (h1 : ∀ u ∈ f y, u.oneCell' = true) (hlen : (xs.length + 1) * bytes ≤ 140737488355328) (hlen2 : xs.length + 1 ≤ 100000000)
  (h : ∀ v' w', Kp (w'.ownsRow base e sz v' (xs ++ [y]).length ((xs ++ [y]).flatMap f)) → Kp (w.grownBy w' v.ownBlock) → Kp (v'.ownBlock = v.ownBlock ∨ v'.ownBlock = some w.heap.size) → Kp (Loc w0 w' bs) → wpList P ops Q rest (a.put o.dst v') w') : wpList P ops Q (o :: rest) a w := by
 obtain ⟨i, z, hi, hz, hsz, hby, hzs⟩ := he.info
 subst hsz hby
 have hl : (f y).length = 1 * i.size := by rw [hf, Nat.one_mul]
 have hnews : ∀ j u, (f y)[j]? = some u → w.cell? ((⟨g, 0, none⟩ : Addr).add j) = some u := fun j u hu => by
  rw [Addr.add_mid, Nat.zero_add]; exact hy.cell hu
 have h63 : xs.length + 1 ≤ maxLen := by simp only [maxLen]; omega
 refine wpList_plain hgd fun K hK => ?_
 obtain ⟨v', w', hr, h2, h3, _⟩ := run_append_own (P := P) w base t o.type e i z i.size i.bytes he.under hi hz rfl rfl hzs he.pos v xs.length (xs.flatMap f) hown ⟨g, 0, none⟩ 1 1 (f y) hl hnews h1 h63 hlen hbase
 have h4 := append_where (P := P) w base t o.type e i z he.under hi hz v xs.length (xs.flatMap f) hown ⟨g, 0, none⟩ 1 1 (f y) hl hnews h1 h63 hlen v' w' hr (by omega)
 unfold Oper.wp execOp
 simp only [ho, resolve, invoke, builtin, Sem.run_bind, Sem.run_pure, Result.andThen_ok, List.map_toArray, List.map_cons, List.map_nil, hs, hx, hr]
 refine hK _ _ (h v' w' (kp ?_) (kp h3) (kp h4) (kp ?_))
 ·rw [List.length_append, List.flatMap_append, List.flatMap_cons, List.flatMap_nil, List.append_nil]; exact h2
 ·refine ⟨H.out.1.grown h3 (fun k hk => Nat.le_trans hb0 (ownsT_block hown k hk)), H.out.2.1, fun b hbm => ⟨(H.out.2.2 b hbm).1, ?_⟩⟩
  have h5 := (H.out.2.2 b hbm).2
  exact (h3.block b.1 h5.lt (fun e => hsep b.1 (List.mem_map.2 ⟨b, hbm, rfl⟩) e.symm)).trans h5
end
theorem ownsT_lt {w : World} {base E n sz : Nat} {v : Value} {xs : List Value} (h : w.ownsRow base E sz v n xs) : ∀ k, v.ownBlock = some k → k < w.heap.size := by
 intro k hk
 obtain ⟨_, h2⟩ := h
 rcases h2 with ⟨rfl, _⟩ | ⟨g, cap, cur, rfl, hb, hg, _⟩
 ·cases hk
 ·have : g = k := by simpa [Value.ownBlock] using hk
  subst this
  exact (Array.getElem?_eq_some_iff.1 hg).1
theorem ownsT_grown {w w' : World} {base E n sz : Nat} {v : Value} {xs : List Value} {row : Option Nat} (h : w.ownsRow base E sz v n xs) (hg : w.grownBy w' row) (hne : ∀ k, v.ownBlock = some k → row ≠ some k) : w'.ownsRow base E sz v n xs :=
 ownsT_keep h fun k hk => hg.block k (ownsT_lt h k hk) (fun e => hne k hk e.symm)
end Go.Proofs.Ytibncchobkaaiaa
namespace Go.Proofs.Ytibncchobkaaiaa
open Go.RowKit
def LoopP (D : List Tmp) (R : (Tmp → Value) → World → Prop) (mu : (Tmp → Value) → World → Nat) (a0 : Act) (m : Nat) (a' : Act) (w' : World) : Prop :=
 a'.defers = a0.defers ∧ a'.tmps = putMany (fun d => a'.tmps.getD d undef) D a0.tmps ∧ R (fun d => a'.tmps.getD d undef) w' ∧ mu (fun d => a'.tmps.getD d undef) w' < m
theorem LoopP.of {D : List Tmp} {R : (Tmp → Value) → World → Prop} {mu : (Tmp → Value) → World → Nat} {a0 a' : Act} {m : Nat} {w' : World} (hd : a'.defers = a0.defers) (ht : a'.tmps = putMany (fun d => a'.tmps.getD d undef) D a0.tmps) (hr : R (fun d => a'.tmps.getD d undef) w') (hm : mu (fun d => a'.tmps.getD d undef) w' < m) : LoopP D R mu a0 m a' w' := ⟨hd, ht, hr, hm⟩
theorem act_eq {a a' : Act} {t : Array Value} (hd : a'.defers = a.defers) (ht : a'.tmps = t) : a' = ⟨t, a.defers⟩ := by
 cases a' with
 | mk t2 d => simp only at hd ht; rw [← hd]; congr 1
theorem wp_loopC {P : Program} {c : Code} {Q : Exit → Act → World → Prop} {a : Act} {w : World} (D : List Tmp) (R : (Tmp → Value) → World → Prop) (mu : (Tmp → Value) → World → Nat)
  (ht : a.tmps = putMany (fun d => a.tmps.getD d undef) D a.tmps) (h0 : R (fun d => a.tmps.getD d undef) w)
  (round : ∀ vs w', R vs w' → c.wp P (Exit.then (LoopP D R mu a (mu vs w')) Q) ⟨putMany vs D a.tmps, a.defers⟩ w') : (Code.loop c).wp P Q a w := by
 refine wp_loop (fun a' w' => a'.defers = a.defers ∧ a'.tmps = putMany (fun d => a'.tmps.getD d undef) D a.tmps ∧ R (fun d => a'.tmps.getD d undef) w') (fun a' w' => mu (fun d => a'.tmps.getD d undef) w') ⟨rfl, ht, h0⟩ ?_
 rintro a' w' ⟨h1, h2, h3⟩
 have h := round _ _ h3
 rw [← act_eq h1 h2] at h
 refine Code.wp_mono (fun e b v hb => ?_) h
 cases e with
 | normal =>
  obtain ⟨k1, k2, k3, k4⟩ := hb
  exact ⟨⟨k1, k2, k3⟩, k4⟩
 | _ => exact hb
end Go.Proofs.Ytibncchobkaaiaa
namespace Go.Proofs.Ytibncchobkaaiaa
open Go.RowKit
theorem ownsT_lt2 {w : World} {base E n sz : Nat} {v : Value} {xs : List Value} (h : w.ownsRow base E sz v n xs) {k : Nat} (hk : v.ownBlock = some k) : ∃ cs, w.heap[k]? = some (.cells cs E (0, 0)) := by
 obtain ⟨_, ⟨rfl, _⟩ | ⟨g, cap, cur, rfl, _, hg, _⟩⟩ := h
 ·cases hk
 ·have : g = k := by simpa [Value.ownBlock] using hk
  subst this
  exact ⟨cur, hg⟩
theorem owns_sep {w : World} {b1 E1 n1 s1 b2 E2 n2 s2 : Nat} {v1 v2 : Value} {x1 x2 : List Value} (h1 : w.ownsRow b1 E1 s1 v1 n1 x1) (h2 : w.ownsRow b2 E2 s2 v2 n2 x2) (hE : E1 ≠ E2) {k : Nat} (hk : v1.ownBlock = some k) : v2.ownBlock ≠ some k := by
 intro q
 obtain ⟨c1, e1⟩ := ownsT_lt2 h1 hk
 obtain ⟨c2, e2⟩ := ownsT_lt2 h2 q
 rw [e1] at e2
 cases e2
 exact hE rfl
theorem ownsT_sepG {w w' : World} {b1 E1 n1 s1 b2 E2 n2 s2 : Nat} {v1 v2 : Value} {x1 x2 : List Value} (h1 : w.ownsRow b1 E1 s1 v1 n1 x1) (h2 : w.ownsRow b2 E2 s2 v2 n2 x2) (hE : E1 ≠ E2) (hg : w.grownBy w' v2.ownBlock) : w'.ownsRow b1 E1 s1 v1 n1 x1 :=
 ownsT_grown h1 hg fun _ hk q => owns_sep h1 h2 hE hk q
theorem SlBB.chg {B : Nat} {w w' : World} {v : Value} {ls : List By} (h : SlBB B w v ls) (hc : Chg w.heap.size w w') : SlBB B w' v ls := by
 obtain ⟨vs, h1, h2, h3⟩ := h
 exact ⟨vs, ownsT_chgB h1 hc, h2, fun j u l hu hl => ownsT_chgB (h3 j u l hu hl) hc⟩
theorem SlBB.sepG {B b2 E2 n2 s2 : Nat} {w w' : World} {v v2 : Value} {x2 : List Value} {ls : List By} (h : SlBB B w v ls) (h2 : w.ownsRow b2 E2 s2 v2 n2 x2) (hE : E2 ≠ 5) (hE2 : E2 ≠ 33) (hg : w.grownBy w' v2.ownBlock) : SlBB B w' v ls := by
 obtain ⟨vs, h1, k2, h3⟩ := h
 exact ⟨vs, ownsT_sepG h1 h2 (Ne.symm hE2) hg, k2, fun j u l hu hl => ownsT_sepG (h3 j u l hu hl) h2 (Ne.symm hE) hg⟩
theorem elemB : ElemT Try.prog 34 33 1 24 := by
 refine ⟨Try.underlying34, ?_, by decide⟩
 have h : (Try.prog.info? 33).map (fun i => (i.zero, i.size, i.bytes)) = some (some (.slice none 0 0), 1, 24) := by kernel_rfl
 cases hq : Try.prog.info? 33 with
 | none => simp [hq] at h
 | some i =>
  rw [hq] at h
  simp only [Option.map_some, Option.some.injEq, Prod.mk.injEq] at h
  exact ⟨i, _, rfl, h.1, h.2.1, h.2.2, rfl⟩
def cells2 (s : Fw × Fw) : List Value := cat (parts2 s)
theorem cells2_len (s : Fw × Fw) : (cells2 s).length = 262 := by
 unfold cells2 parts2
 rw [cat_len, lsum_append, show lsum (partsF s.1) = 131 from by kernel_rfl, show lsum (partsF s.2) = 131 from by kernel_rfl]
theorem cells2_one (s : Fw × Fw) : ∀ u ∈ cells2 s, u.oneCell' = true := List.all_eq_true.1 (cat_one _)
theorem elem2 : ElemT Try.prog 65 55 262 336 := by
 refine ⟨Try.underlying65, ?_, by decide⟩
 have h : (Try.prog.info? 55).map (fun i => (i.zero, i.size, i.bytes)) = some (some (.agg (cells2 (fw0, fw0)).toArray), 262, 336) := by kernel_rfl
 cases hq : Try.prog.info? 55 with
 | none => simp [hq] at h
 | some i =>
  rw [hq] at h
  simp only [Option.map_some, Option.some.injEq, Prod.mk.injEq] at h
  exact ⟨i, _, rfl, h.1, h.2.1, h.2.2, by show (cells2 (fw0, fw0)).toArray.size = 262; rw [List.size_toArray, cells2_len]⟩
theorem run_bs2 (s : Fw × Fw) (w : World) : (Instr.buildSlice 65 1 #[(0, .agg (cells2 s).toArray)]).run Try.prog w = .ok (.slice (some ⟨w.heap.size, 0, none⟩) 1 1) (w.alloc (.cells (cells2 s).toArray 55)) := by
 obtain ⟨i, z, hi, hz, hsz, _, hzs⟩ := elem2.info
 have hz2 : z = .agg (cells2 (fw0, fw0)).toArray := by
  have h : (Try.prog.info? 55).map (·.zero) = some (some (.agg (cells2 (fw0, fw0)).toArray)) := by kernel_rfl
  rw [hi] at h
  simp only [Option.map_some, Option.some.injEq] at h
  rw [hz] at h
  exact Option.some.inj h
 refine run_buildSlice w _ _ 1 _ (cells2 s).toArray i z Try.underlying65 hi hz (by rw [hsz]; decide) (by rw [hsz]; decide) ?_
 rw [hsz, hz2]
 have e : (Array.range (1 * 262)).map ((Value.agg (cells2 (fw0, fw0)).toArray).cells[· % (Value.agg (cells2 (fw0, fw0)).toArray).cells.size]!) = (cat (parts2 (fw0, fw0))).toArray := by kernel_rfl
 rw [e]
 exact (fill_cat _ _ 0 _ [] 0 0 32 (parts2 s) rfl (by show some (0 * 262, 262) = _; rw [show lsum (parts2 s) = 262 from by kernel_rfl]) (by kernel_rfl) (by kernel_rfl) (parts2 s) (by kernel_rfl)).trans rfl
theorem L_appM {w0 w : World} {bs : List Bk} {ops : Array Oper} {rest : List Oper} {o : Oper} {a : Act} {Q : Exit → Act → World → Prop} (H : Kp (Loc w0 w bs)) (hgd : o.guard = none) (s x : Operand)
  (ho : o.op = .call { callee := .builtin .append, args := #[s, x], argTypes := #[34, 34] })
  (base : Nat) (hb0 : w0.heap.size ≤ base) (hbase : base ≤ w.heap.size) (hlt : ∀ g ∈ bs.map (·.1), g < base) (v : Value) (ls : List By) (hs : a.eval s = v) (hown : SlBB base w v ls)
  (vx : Value) (ms : List By) (base2 : Nat) (hx : a.eval x = vx) (hms : SlBB base2 w vx ms) (hb2 : base ≤ base2) (hlen : ls.length + ms.length ≤ 100000)
  (h : ∀ v' w', Kp (SlBB base w' v' (ls ++ ms)) → Kp (w.grownBy w' v.ownBlock) → Kp (Loc w0 w' bs) → wpList Try.prog ops Q rest (a.put o.dst v') w') : wpList Try.prog ops Q (o :: rest) a w := by
 obtain ⟨i, z, hi, hz, hsz, hby, hzs⟩ := elemB.info
 obtain ⟨vs, h1, h2, h3⟩ := hown
 obtain ⟨us, k1, k2, k3⟩ := hms
 have hl1 : vs.length = ls.length := h2
 have hl2 : us.length = ms.length := k2
 have hlocG : ∀ w', w.grownBy w' v.ownBlock → Loc w0 w' bs := fun w' hg => by
  refine ⟨H.out.1.grown hg (fun k hk => Nat.le_trans hb0 (ownsT_block h1 k hk)), H.out.2.1, fun b hbm => ⟨(H.out.2.2 b hbm).1, ?_⟩⟩
  have h5 := (H.out.2.2 b hbm).2
  have h6 := hlt b.1 (List.mem_map.2 ⟨b, hbm, rfl⟩)
  exact (hg.block b.1 h5.lt (fun e => by have := ownsT_block h1 b.1 e.symm; omega)).trans h5
 have hfin : ∀ v' w', w'.ownsRow base 33 1 v' (ls.length + ms.length) (vs ++ us) → w.grownBy w' v.ownBlock → SlBB base w' v' (ls ++ ms) := fun v' w' q1 q2 => by
  refine ⟨vs ++ us, by rw [List.length_append]; exact q1, by rw [List.length_append, List.length_append, hl1, hl2], fun j u l hu hl => ?_⟩
  by_cases hj : j < ls.length
  ·rw [List.getElem?_append_left (by omega)] at hu
   rw [List.getElem?_append_left hj] at hl
   exact ownsT_sepG (h3 j u l hu hl) h1 (by decide) q2
  ·rw [List.getElem?_append_right (by omega)] at hu
   rw [List.getElem?_append_right (by omega)] at hl
   exact ownsT_sepG (owns_weak (k3 (j - ls.length) u l (by rwa [hl1] at hu) hl) hb2) h1 (by decide) q2
 rcases k1 with ⟨k1, ⟨rfl, hn⟩ | ⟨g, cap, cur, rfl, _, hg, h5, h6, h7, h8⟩⟩
 ·refine wpList_append_own_none hgd s x 34 ho base 33 i 1 Try.underlying34 hi v ls.length vs hs h1 hx ?_
  have hus : us = [] := List.eq_nil_of_length_eq_zero (by omega)
  have hgr : w.grownBy w v.ownBlock := ⟨rfl, rfl, rfl, Nat.le_refl _, fun _ _ _ => rfl⟩
  refine h v w (kp (hfin v w ?_ hgr)) (kp hgr) (kp (hlocG w hgr))
  rw [hus, List.append_nil, hn, Nat.add_zero]; exact h1
 ·refine wpList_append_own w hgd s x 34 ho base 33 i z 1 24 Try.underlying34 hi hz hsz hby hzs (by decide) v ls.length vs hs h1 ⟨g, 0, none⟩ ms.length cap us hx (by omega) (fun j u hu => ?_) (fun u hu => ?_) (by unfold maxLen; omega) (by omega) hbase ?_
  ·rw [Addr.add_mid, Nat.zero_add]
   have hL : Lc w g 33 cur.toList := hg
   refine hL.cell ?_
   have hj := (List.getElem?_eq_some_iff.1 hu).1
   rw [← h8, List.getElem?_take, if_pos (by omega)] at hu
   exact hu
  ·obtain ⟨j, hj⟩ := List.getElem?_of_mem hu
   obtain ⟨l, hl⟩ : ∃ l, ms[j]? = some l := ⟨_, List.getElem?_eq_getElem (by have := (List.getElem?_eq_some_iff.1 hj).1; omega)⟩
   obtain ⟨a, c, rfl⟩ := owns_form (k3 j u l hj hl)
   rfl
  ·intro v' w' q1 q2 _
   exact h v' w' (kp (hfin v' w' q1 q2)) (kp q2) (kp (hlocG w' q2))
theorem start_out (s : Fw) (now : Int) : (∀ m ∈ (startF s now).2.1, m.length ≤ 100000) ∧ (startF s now).2.1.length ≤ 1 := by
 unfold startF
 split
 ·exact ⟨(fun m hm => by cases hm), by simp [errR]⟩
 ·split
  ·exact ⟨(fun m hm => by cases hm), by simp [errR]⟩
  ·exact ⟨(fun m hm => by obtain rfl := List.mem_singleton.1 hm; exact send_len _), by simp⟩
theorem tick_out (s : Fw) (now : Int) : (∀ m ∈ (tickF s now).2.1, m.length ≤ 100000) ∧ (tickF s now).2.1.length ≤ 1 := by
 unfold tickF
 split
 ·exact ⟨(fun m hm => by cases hm), by simp [errR]⟩
 ·split
  ·exact ⟨(fun m hm => by cases hm), by simp⟩
  ·split
   ·exact ⟨(fun m hm => by cases hm), by simp⟩
   ·exact ⟨(fun m hm => by obtain rfl := List.mem_singleton.1 hm; exact send_len _), by simp⟩
theorem handle_one (s : Fw) (b : By) (now : Int) : (handleF s b now).2.1.length ≤ 1 := by
 have hs2 : (secondF s b now).2.1.length ≤ 1 := by unfold secondF; split <;> simp [errR]
 have hs4 : (fourthF s b).2.1.length ≤ 1 := by unfold fourthF; split <;> simp [errR]
 have hs3 : (thirdF s b).2.1.length ≤ 1 := by unfold thirdF; split <;> simp [errR]
 unfold handleF
 split
 ·simp [errR]
 ·split
  ·simp [errR]
  ·split
   ·exact hs2
   ·split
    ·exact hs4
    ·split
     ·simp [firstF]
     ·split
      ·exact hs3
      ·simp [errR]
theorem step_out (o : Ev) (now : Int) (sent : List By) (s : Fw) : (∀ m ∈ (stepF o now sent s).2.1, m.length ≤ 100000) ∧ (stepF o now sent s).2.1.length ≤ 1 := by
 unfold stepF
 split
 ·exact start_out s now
 ·split
  ·exact ⟨handle_len s _ now, handle_one s _ now⟩
  ·exact tick_out s now
theorem msgF_len {o : Ev} {sent : List By} (h : ∀ m ∈ sent, m.length ≤ 100000) {b : By} (hb : msgF o sent = some b) : b.length ≤ 100000 := by
 unfold msgF at hb
 split at hb
 ·cases hb; rw [signedF_len _ _ _ _ _ o.nonce.2]; decide
 ·split at hb
  ·cases hb
  ·rename_i q
   cases hb
   have hs : sent ≠ [] := fun e => q (.inr e)
   have hlt : o.which.toNat % sent.length < sent.length := Nat.mod_lt _ (List.length_pos_iff.2 hs)
   unfold altF
   rw [List.length_set, List.getD_eq_getElem?_getD, List.getElem?_eq_getElem hlt]
   exact h _ (List.getElem_mem hlt)
theorem run_cons {x : Ev} {l : List Ev} {s : Fw × Fw} {sent : List By} {now : Int} {r : Res} (hr : stepF x (now + x.wait) sent (sideF x s) = r) : runF (x :: l) s sent now = if r.2.2 = 0 ∧ badB x sent = true then [] else nextF x s r :: runF l (nextF x s r) (sentF sent r) (now + x.wait) := by
 rw [← hr]; rfl
end Go.Proofs.Ytibncchobkaaiaa
