/- The walk of CounterRings: the functions on rings agree with the reference, along any script of operations. -/
import Derived.Test.YtjnaegpjhbobaaaPlain24e
import Derived.Test.YtjnaegpjhbobaaaFree2
namespace Go.Proofs.Ytjnaegpjhbobaaa
open Go.RowKit
theorem Loc.addN {w0 w : World} {bs : List Bk} (h : Loc w0 w bs) {g T : Nat} {cs : List Value} (hn : g ∉ bs.map (·.1)) (h0 : w0.heap.size ≤ g) (hl : Lc w g T cs) : Loc w0 w ((g, T, cs) :: bs) :=
  ⟨h.1, List.nodup_cons.2 ⟨hn, h.2.1⟩, fun b hb => by
    rcases List.mem_cons.1 hb with rfl | hb
    · exact ⟨h0, hl⟩
    · exact h.2.2 b hb⟩
theorem Loc.out {w0 W w : World} {bs : List Bk} {G : List Nat} (h : Loc w0 W bs) (ho : Out G W w) (h0 : ∀ g ∈ G, w0.heap.size ≤ g) (hn : ∀ g ∈ G, g ∉ bs.map (·.1)) : Loc w0 w bs :=
  ⟨ho.ext h.1 h0, h.2.1, fun b hb => ⟨(h.2.2 b hb).1, ho.lc (h.2.2 b hb).2 fun hm => hn b.1 hm (List.mem_map.2 ⟨b, hb, rfl⟩)⟩⟩
theorem owns_ne {w : World} {base E sz n g T : Nat} {v : Value} {xs cs : List Value} (h : w.ownsRow base E sz v n xs) (hl : Lc w g T cs) (hne : T ≠ E) : v.ownBlock ≠ some g := by
  obtain ⟨_, h2 | ⟨b, cap, cur, h3, hg, hh, _⟩⟩ := h
  · obtain ⟨rfl, _⟩ := h2; intro e; cases e
  · intro e
    subst h3
    have : b = g := by simpa [Value.ownBlock] using e
    subst this
    rw [Lc, hh] at hl
    cases hl
    exact hne rfl
/-- What the memory of CounterRings holds between two rounds, beside the blocks themselves. -/
structure Two (B : Nat) (w : World) (g5 g6 : Nat) (u v : Value) (ks : Keys16) : Prop where
  pu : PastV B w u ks
  pv : PastV B w v ks
  u5 : u.ownBlock ≠ some g5
  u6 : u.ownBlock ≠ some g6
  v5 : v.ownBlock ≠ some g5
  v6 : v.ownBlock ≠ some g6
  n : ks.length ≤ 40
section
variable {B g5 g6 : Nat} {w w' : World} {u v : Value} {ks : Keys16}
theorem Two.ext (h : Two B w g5 g6 u v ks) (hx : Ext w w') : Two B w' g5 g6 u v ks := ⟨h.pu.ext hx, h.pv.ext hx, h.u5, h.u6, h.v5, h.v6, h.n⟩
theorem Two.wrote5 (h : Two B w g5 g6 u v ks) (hw : Wrote w w' g5) : Two B w' g5 g6 u v ks := ⟨h.pu.wroteS hw h.u5, h.pv.wroteS hw h.v5, h.u5, h.u6, h.v5, h.v6, h.n⟩
theorem Two.wrote6 (h : Two B w g5 g6 u v ks) (hw : Wrote w w' g6) : Two B w' g5 g6 u v ks := ⟨h.pu.wroteS hw h.u6, h.pv.wroteS hw h.v6, h.u5, h.u6, h.v5, h.v6, h.n⟩
end
theorem Wrote.out {w w' : World} {g : Nat} (h : Wrote w w' g) {G : List Nat} (hg : g ∈ G) : Out G w w' := by
  obtain ⟨ds, rfl⟩ := h; exact Out.set hg _ _
theorem PastV.outN {b : Nat} {G : List Nat} {w w' : World} {u : Value} {ks : Keys16} (h : PastV b w u ks) (ho : Out G w w') (hG : ∀ g ∈ G, w.heap.size ≤ g) : PastV b w' u ks :=
  h.keep ho.size fun hne k hk => ho.block k (h.lt hne k hk) fun hm => by have := h.lt hne k hk; have := hG k hm; omega
theorem checkRing_P (l : List Slot) (hl : Ring4 l) (u : Value) (ks : Keys16) (b : Nat) (hn : ks.length ≤ 1000) (w : World) (h : PastV b w u ks) :
    Calls Try.prog 20 #[.agg (cellsR l u).toArray] w fun e w' => e = .returned (.int .i64 (checkRingF l ks)) ∧ Ext w w' := by
  obtain ⟨ad, n, c, rfl, rfl, hc, hs, _⟩ := h
  exact checkRing_any l hl ad _ c ks rfl hn hc w hs
theorem rcheckRing_P (l : List Slot) (hl : Ring4 l) (u : Value) (ks : Keys16) (b : Nat) (hn : ks.length ≤ 1000) (w : World) (h : PastV b w u ks) :
    Calls Try.prog 28 #[.agg (cellsR l u).toArray] w fun e w' => e = .returned (.int .i64 (checkRingF l ks)) ∧ Ext w w' := by
  obtain ⟨ad, n, c, rfl, rfl, hc, hs, _⟩ := h
  exact rcheckRing_any l hl ad _ c ks rfl hn hc w hs
theorem rsame_P (l : List Slot) (hl : Ring4 l) (u v : Value) (ks : Keys16) (b c : Nat) (hn : ks.length ≤ 1000) (w : World) (h1 : PastV b w u ks) (h2 : PastV c w v ks) :
    Calls Try.prog 29 #[.agg (cellsR l u).toArray, .agg (cellsR l v).toArray] w fun e w' => e = .returned (.bool true) ∧ Ext w w' := by
  have := rsame_any l l hl hl u v ks ks (by omega) (by omega) w h1.sly h2.sly
  rwa [sameF_self] at this
/-- While the keys of x are changed: only their block is written, and it stays a row of bytes. -/
def Bump (w0 w : World) (u : Value) (ks : Keys16) : Prop := ∃ G : List Nat, (∀ g ∈ G, ks ≠ [] ∧ u.ownBlock = some g) ∧ Out G w0 w ∧ (ks ≠ [] → ∃ b off c t cs, u = .slice (some ⟨b, off, none⟩) ks.length c ∧ Lc w b t cs ∧ ∀ i, i < ks.length * 16 → ∃ z, cs[off + i]? = some (.int .u8 z))
theorem Bump.start {B : Nat} {w : World} {u : Value} {ks : Keys16} (h : PastV B w u ks) (h0 : 0 < B) : Bump w w u ks :=
  ⟨[], fun g hg => (by cases hg), Out.refl _ _, fun hne => by
    obtain ⟨b, off, c, t, cs, h1, _, h3, h4⟩ := h.row h0 hne
    exact ⟨b, off, c, t, cs, h1, h3, fun i hi => by obtain ⟨x, hx⟩ := h4 i hi; exact ⟨_, hx⟩⟩⟩
theorem Bump.step {w0 w w' : World} {ks : Keys16} {b off c t : Nat} {cs : List Value} {k : Nat} {z : Int} (hne : ks ≠ []) {G : List Nat} (hG : ∀ g ∈ G, ks ≠ [] ∧ (Value.slice (some ⟨b, off, none⟩) ks.length c).ownBlock = some g) (ho : Out G w0 w)
    (hl : Lc w' b t (cs.set (off + k) (.int .u8 z))) (hz : ∀ i, i < ks.length * 16 → ∃ z, cs[off + i]? = some (.int .u8 z)) (hw : Wrote w w' b) : Bump w0 w' (.slice (some ⟨b, off, none⟩) ks.length c) ks := by
  refine ⟨b :: G, fun g hg => ?_, ?_, fun _ => ⟨b, off, c, t, _, rfl, hl, fun i hi => ?_⟩⟩
  · rcases List.mem_cons.1 hg with rfl | hg
    · exact ⟨hne, rfl⟩
    · exact hG g hg
  · refine Out.trans ⟨ho.tape, ho.os, ho.output, ho.size, fun k hk hn => ho.block k hk fun hm => hn (by simp [hm])⟩ (hw.out (by simp))
  · obtain ⟨y, hy⟩ := hz i hi
    rw [List.getElem?_set]
    split
    · rename_i he
      rw [if_pos (by rw [he]; exact (List.getElem?_eq_some_iff.1 hy).1)]
      exact ⟨z, rfl⟩
    · exact ⟨y, hy⟩
set_option maxRecDepth 20000 in
set_option maxHeartbeats 12800000 in
theorem counterRings_walk (l0 : List Slot) (v : Value) (ks0 : Keys16) (hl : Ring4 l0) (hs0 : ks0.length ≤ 9223372036854775807) (v0 : Value) (ops : List Op24) (hk : ∀ o ∈ ops, o.key.length = 16) (hn : ops.length ≤ 9223372036854775807) (w : World) (hp : PastV 0 w v ks0) (hs : SlT 20 cellsO w v0 ops) :
    Calls Try.prog 9 #[.agg (cellsR l0 v).toArray, v0] w fun e w' => e = .returned (.bool true) ∧ Ext w w' := by
  obtain ⟨ad, n, c, rfl, hnl, hcap, hat⟩ := hs
  obtain ⟨a0, c0, hv⟩ := hp.sly.form
  subst hv
  have HGR := kp (fun w => great_any l0 hl a0 ks0.length c0 w)
  have HZ := kp (fun u => sizeR l0 u hl)
  have HAT := kp hat
  have HNL := kp hnl
  have HOK := kp hk
  have HP0 := kp hp
  have HL0 := kp hl
  have hn63 : n ≤ 9223372036854775807 := by omega
  have H := kp (Loc.start w)
  clear hat hk hnl hcap hp hl
  by_cases hg : 40 < (ks0.length : Int)
  · skip
    go_enter Try.func9, Try.ntmps9
    go_wp2_with (first | ((with_reducible show wpList _ _ _ (Oper.mk (some 2) (Op.box 51 _) _ _ _ _ :: _) _ _); (with_reducible refine L_box H rfl 51 _ rfl (cellsR l0 (.slice a0 ks0.length c0)) rfl ?_); clear H; intro g2 w2 HGg2 HEg2 H; simp only [Act.put, List.setIfInBounds_toArray, List.set_cons_zero, List.set_cons_succ]) | ((with_reducible show wpList _ _ _ (Oper.mk _ (Op.load 51 _) _ _ _ _ :: _) _ _); (first | (refine L_load H rfl 51 _ rfl 0 rfl rfl Try.underlying51 rfl (HZ.out _) ?_) | (refine L_load H rfl 51 _ rfl 1 rfl rfl Try.underlying51 rfl (HZ.out _) ?_) | (refine L_load H rfl 51 _ rfl 2 rfl rfl Try.underlying51 rfl (HZ.out _) ?_) | (refine L_load H rfl 51 _ rfl 3 rfl rfl Try.underlying51 rfl (HZ.out _) ?_) | (refine L_load H rfl 51 _ rfl 4 rfl rfl Try.underlying51 rfl (HZ.out _) ?_) | (refine L_load H rfl 51 _ rfl 5 rfl rfl Try.underlying51 rfl (HZ.out _) ?_)); simp only [Act.put, List.setIfInBounds_toArray, List.set_cons_zero, List.set_cons_succ]) | (go_at_call 17; refine (HGR.out _).mono ?_; rintro e wa ⟨rfl, hx⟩; have H2 := kp (H.out.ext hx); have HXC := kp hx; clear H hx; have H := H2; clear H2))
    go_ret
    exact ⟨rfl, H.out.1⟩
  by_cases hbig : 60 < (n : Int)
  · skip
    go_enter Try.func9, Try.ntmps9
    go_wp2_with (first | ((with_reducible show wpList _ _ _ (Oper.mk (some 2) (Op.box 51 _) _ _ _ _ :: _) _ _); (with_reducible refine L_box H rfl 51 _ rfl (cellsR l0 (.slice a0 ks0.length c0)) rfl ?_); clear H; intro g2 w2 HGg2 HEg2 H; simp only [Act.put, List.setIfInBounds_toArray, List.set_cons_zero, List.set_cons_succ]) | ((with_reducible show wpList _ _ _ (Oper.mk _ (Op.load 51 _) _ _ _ _ :: _) _ _); (first | (refine L_load H rfl 51 _ rfl 0 rfl rfl Try.underlying51 rfl (HZ.out _) ?_) | (refine L_load H rfl 51 _ rfl 1 rfl rfl Try.underlying51 rfl (HZ.out _) ?_) | (refine L_load H rfl 51 _ rfl 2 rfl rfl Try.underlying51 rfl (HZ.out _) ?_) | (refine L_load H rfl 51 _ rfl 3 rfl rfl Try.underlying51 rfl (HZ.out _) ?_) | (refine L_load H rfl 51 _ rfl 4 rfl rfl Try.underlying51 rfl (HZ.out _) ?_) | (refine L_load H rfl 51 _ rfl 5 rfl rfl Try.underlying51 rfl (HZ.out _) ?_)); simp only [Act.put, List.setIfInBounds_toArray, List.set_cons_zero, List.set_cons_succ]) | (go_at_call 17; refine (HGR.out _).mono ?_; rintro e wa ⟨rfl, hx⟩; have H2 := kp (H.out.ext hx); have HXC := kp hx; clear H hx; have H := H2; clear H2))
    go_ret
    exact ⟨rfl, H.out.1⟩
  have hk40 : ks0.length ≤ 40 := by omega
  have HT := kp (fun w' (h : Ext w w') => twin_any l0 HL0.out (.slice a0 ks0.length c0) ks0 (by omega) w' (HP0.out.sly.ext h))
  have HRT := kp (fun w' (h : Ext w w') => rtwin_any l0 HL0.out (.slice a0 ks0.length c0) ks0 (by omega) w' (HP0.out.sly.ext h))
  go_enter Try.func9, Try.ntmps9
  generalize h3 : (Code.region 3 _ _ : Code) = R3
  generalize h4 : (Code.region 4 _ _ : Code) = R4
  go_wp2_with (first | ((with_reducible show wpList _ _ _ (Oper.mk (some 2) (Op.box 51 _) _ _ _ _ :: _) _ _); (with_reducible refine L_box H rfl 51 _ rfl (cellsR l0 (.slice a0 ks0.length c0)) rfl ?_); clear H; intro g2 w2 HGg2 HEg2 H; simp only [Act.put, List.setIfInBounds_toArray, List.set_cons_zero, List.set_cons_succ]) | ((with_reducible show wpList _ _ _ (Oper.mk _ (Op.load 51 _) _ _ _ _ :: _) _ _); (first | (refine L_load H rfl 51 _ rfl 0 rfl rfl Try.underlying51 rfl (HZ.out _) ?_) | (refine L_load H rfl 51 _ rfl 1 rfl rfl Try.underlying51 rfl (HZ.out _) ?_) | (refine L_load H rfl 51 _ rfl 2 rfl rfl Try.underlying51 rfl (HZ.out _) ?_) | (refine L_load H rfl 51 _ rfl 3 rfl rfl Try.underlying51 rfl (HZ.out _) ?_) | (refine L_load H rfl 51 _ rfl 4 rfl rfl Try.underlying51 rfl (HZ.out _) ?_) | (refine L_load H rfl 51 _ rfl 5 rfl rfl Try.underlying51 rfl (HZ.out _) ?_)); simp only [Act.put, List.setIfInBounds_toArray, List.set_cons_zero, List.set_cons_succ]) | (go_at_call 17; refine (HGR.out _).mono ?_; rintro e wa ⟨rfl, hx⟩; have H2 := kp (H.out.ext hx); have HXC := kp hx; clear H hx; have H := H2; clear H2))
  have HALL := kp H.out.allLt
  have HSZ := kp H.out.1.size
  have HG2 := kp (H.out.lt 0 rfl)
  clear HGR
  subst h3
  refine region_free2 H 6 (tabS [(26, fun zv _ => zv = .agg (cellsR l0 (.slice a0 ks0.length c0)).toArray), (27, fun zv zw => ∃ u, zv = .agg (cellsR l0 u).toArray ∧ World.ownsRow zw wa.heap.size 45 16 u ks0.length (flatK ks0)), (28, fun zv _ => zv = .agg (cellsR l0 (.slice a0 ks0.length c0)).toArray), (29, fun zv zw => ∃ u, zv = .agg (cellsR l0 u).toArray ∧ World.ownsRow zw wa.heap.size 45 16 u ks0.length (flatK ks0)), (5, fun zv zw => ∃ g, zv = .pointer (some ⟨g, 0, none⟩) ∧ wa.heap.size ≤ g ∧ Lc zw g 51 zeroR), (6, fun zv zw => ∃ g, zv = .pointer (some ⟨g, 0, none⟩) ∧ wa.heap.size ≤ g ∧ Lc zw g 51 zeroR)]) [5, 6] (fun d hd v w h => by simp only [List.mem_cons, List.not_mem_nil, or_false] at hd; rcases hd with rfl | rfl; all_goals (obtain ⟨g, h1, h2⟩ := h; exact ⟨g, h1, h2.2.lt⟩)) (by kernel_rfl) [] (tabS_out _ _ (by simp only [List.forall_mem_cons]; exact ⟨mono_eqO _ _, (fun _ _ _ ⟨u, h1, h2⟩ hx => ⟨u, h1, owns_out h2 hx (fun g hg => by cases hg)⟩), mono_eqO _ _, (fun _ _ _ ⟨u, h1, h2⟩ hx => ⟨u, h1, owns_out h2 hx (fun g hg => by cases hg)⟩), (fun _ _ _ ⟨g, h1, h2, h3⟩ hx => ⟨g, h1, h2, hx.lc h3 (by simp)⟩), (fun _ _ _ ⟨g, h1, h2, h3⟩ hx => ⟨g, h1, h2, hx.lc h3 (by simp)⟩), by simp⟩)) (by kernel_rfl) (by kernel_rfl) (by kernel_rfl) (by kernel_rfl) [] [] rfl rfl (by decide) (by decide) (by decide) trivial ?_
  simp only [List.take_succ_cons, List.take_zero]
  refine ⟨fun wv26 hov26 hSv26 => ?_, fun v26 => ?_⟩
  · clear hSv26
    have H := kp (H.out.keep [0] (St := []) trivial hov26 (by decide) (by kernel_rfl))
    have HOX := kp hov26
    clear hov26
    go_wp2_with ((with_reducible show wpList _ _ _ (Oper.mk _ (Op.load 51 _) _ _ _ _ :: _) _ _); (first | (refine L_load H rfl 51 _ rfl 0 rfl rfl Try.underlying51 rfl (HZ.out _) ?_) | (refine L_load H rfl 51 _ rfl 1 rfl rfl Try.underlying51 rfl (HZ.out _) ?_) | (refine L_load H rfl 51 _ rfl 2 rfl rfl Try.underlying51 rfl (HZ.out _) ?_) | (refine L_load H rfl 51 _ rfl 3 rfl rfl Try.underlying51 rfl (HZ.out _) ?_) | (refine L_load H rfl 51 _ rfl 4 rfl rfl Try.underlying51 rfl (HZ.out _) ?_) | (refine L_load H rfl 51 _ rfl 5 rfl rfl Try.underlying51 rfl (HZ.out _) ?_)); simp only [Act.put, List.setIfInBounds_toArray, List.set_cons_zero, List.set_cons_succ])
    exact ⟨rfl, _, rfl, fun d hd => by cases hd; exact ⟨rfl, fun hA => absurd hA (by decide)⟩, Ext.refl _⟩
  simp only [Act.put, List.setIfInBounds_toArray, List.set_cons_zero, List.set_cons_succ]
  refine ⟨fun wv27 hov27 hSv27 => ?_, fun v27 => ?_⟩
  · obtain rfl : v26 = .agg (cellsR l0 (.slice a0 ks0.length c0)).toArray := hSv27 26 (by decide) (by decide)
    clear hSv27
    have H := kp (H.out.keep [0] (St := []) trivial hov27 (by decide) (by kernel_rfl))
    have HOX := kp hov27
    clear hov27
    go_wp2_with fail
    refine (HT.out _ H.out.1).mono ?_
    rintro e w2 ⟨u, rfl, ho, hx⟩
    have HOW := kp ho
    have HXW := kp hx
    clear ho hx
    go_wp2_with fail
    exact ⟨rfl, .agg (cellsR l0 u).toArray, rfl, fun d hd => by cases hd; exact ⟨⟨u, rfl, owns_baseS HOW.out HOX.out.size⟩, fun hA => absurd hA (by decide)⟩, HXW.out⟩
  simp only [Act.put, List.setIfInBounds_toArray, List.set_cons_zero, List.set_cons_succ]
  refine ⟨fun wv28 hov28 hSv28 => ?_, fun v28 => ?_⟩
  · clear hSv28
    have H := kp (H.out.keep [0] (St := []) trivial hov28 (by decide) (by kernel_rfl))
    have HOX := kp hov28
    clear hov28
    go_wp2_with ((with_reducible show wpList _ _ _ (Oper.mk _ (Op.load 51 _) _ _ _ _ :: _) _ _); (first | (refine L_load H rfl 51 _ rfl 0 rfl rfl Try.underlying51 rfl (HZ.out _) ?_) | (refine L_load H rfl 51 _ rfl 1 rfl rfl Try.underlying51 rfl (HZ.out _) ?_) | (refine L_load H rfl 51 _ rfl 2 rfl rfl Try.underlying51 rfl (HZ.out _) ?_) | (refine L_load H rfl 51 _ rfl 3 rfl rfl Try.underlying51 rfl (HZ.out _) ?_) | (refine L_load H rfl 51 _ rfl 4 rfl rfl Try.underlying51 rfl (HZ.out _) ?_) | (refine L_load H rfl 51 _ rfl 5 rfl rfl Try.underlying51 rfl (HZ.out _) ?_)); simp only [Act.put, List.setIfInBounds_toArray, List.set_cons_zero, List.set_cons_succ])
    exact ⟨rfl, _, rfl, fun d hd => by cases hd; exact ⟨rfl, fun hA => absurd hA (by decide)⟩, Ext.refl _⟩
  simp only [Act.put, List.setIfInBounds_toArray, List.set_cons_zero, List.set_cons_succ]
  refine ⟨fun wv29 hov29 hSv29 => ?_, fun v29 => ?_⟩
  · obtain rfl : v28 = .agg (cellsR l0 (.slice a0 ks0.length c0)).toArray := hSv29 28 (by decide) (by decide)
    clear hSv29
    have H := kp (H.out.keep [0] (St := []) trivial hov29 (by decide) (by kernel_rfl))
    have HOX := kp hov29
    clear hov29
    go_wp2_with fail
    refine (HRT.out _ H.out.1).mono ?_
    rintro e w2 ⟨u, rfl, ho, hx⟩
    have HOW := kp ho
    have HXW := kp hx
    clear ho hx
    go_wp2_with fail
    exact ⟨rfl, .agg (cellsR l0 u).toArray, rfl, fun d hd => by cases hd; exact ⟨⟨u, rfl, owns_baseS HOW.out HOX.out.size⟩, fun hA => absurd hA (by decide)⟩, HXW.out⟩
  simp only [Act.put, List.setIfInBounds_toArray, List.set_cons_zero, List.set_cons_succ]
  refine ⟨fun wv5 hov5 hSv5 => ?_, fun v5 => ?_⟩
  · clear hSv5
    have H := kp (H.out.keep [0] (St := []) trivial hov5 (by decide) (by kernel_rfl))
    have HOX := kp hov5
    clear hov5
    go_wp2_with ((with_reducible show wpList _ _ _ (Oper.mk (some 5) (Op.alloc 51) _ _ _ _ :: _) _ _); (with_reducible refine L_alloc H rfl 51 rfl (zeroR) (fun _ _ => by kernel_rfl) ?_); clear H; intro g5 w5 HGg5 HEg5 H; simp only [Act.put, List.setIfInBounds_toArray, List.set_cons_zero, List.set_cons_succ])
    exact ⟨rfl, .pointer (some ⟨g5, 0, none⟩), rfl, fun d hd => by cases hd; exact ⟨⟨g5, rfl, (by rw [HGg5.out]; exact HOX.out.size), H.out.at 0 rfl⟩, fun _ => ⟨g5, rfl, Nat.le_of_eq HGg5.out.symm⟩⟩, HEg5.out⟩
  simp only [Act.put, List.setIfInBounds_toArray, List.set_cons_zero, List.set_cons_succ]
  refine ⟨fun wv6 hov6 hSv6 => ?_, fun v6 => ?_⟩
  · clear hSv6
    have H := kp (H.out.keep [0] (St := []) trivial hov6 (by decide) (by kernel_rfl))
    have HOX := kp hov6
    clear hov6
    go_wp2_with ((with_reducible show wpList _ _ _ (Oper.mk (some 6) (Op.alloc 51) _ _ _ _ :: _) _ _); (with_reducible refine L_alloc H rfl 51 rfl (zeroR) (fun _ _ => by kernel_rfl) ?_); clear H; intro g6 w6 HGg6 HEg6 H; simp only [Act.put, List.setIfInBounds_toArray, List.set_cons_zero, List.set_cons_succ])
    exact ⟨rfl, .pointer (some ⟨g6, 0, none⟩), rfl, fun d hd => by cases hd; exact ⟨⟨g6, rfl, (by rw [HGg6.out]; exact HOX.out.size), H.out.at 0 rfl⟩, fun _ => ⟨g6, rfl, Nat.le_of_eq HGg6.out.symm⟩⟩, HEg6.out⟩
  simp only [Act.put, List.setIfInBounds_toArray, List.set_cons_zero, List.set_cons_succ]
  clear H
  intro w3 HOX H hfin hdis
  have FD := kp (show v5 ≠ v6 from hdis 5 (by decide) 6 (by decide) (by decide))
  clear hdis
  obtain rfl : v26 = .agg (cellsR l0 (.slice a0 ks0.length c0)).toArray := hfin 26 (by decide)
  have F27 := kp (show ∃ u, v27 = .agg (cellsR l0 u).toArray ∧ World.ownsRow w3 wa.heap.size 45 16 u ks0.length (flatK ks0) from hfin 27 (by decide))
  obtain rfl : v28 = .agg (cellsR l0 (.slice a0 ks0.length c0)).toArray := hfin 28 (by decide)
  have F29 := kp (show ∃ u, v29 = .agg (cellsR l0 u).toArray ∧ World.ownsRow w3 wa.heap.size 45 16 u ks0.length (flatK ks0) from hfin 29 (by decide))
  have F5 := kp (show ∃ g, v5 = .pointer (some ⟨g, 0, none⟩) ∧ wa.heap.size ≤ g ∧ Lc w3 g 51 zeroR from hfin 5 (by decide))
  have F6 := kp (show ∃ g, v6 = .pointer (some ⟨g, 0, none⟩) ∧ wa.heap.size ≤ g ∧ Lc w3 g 51 zeroR from hfin 6 (by decide))
  clear hfin
  simp only [List.drop_succ_cons, List.drop_zero]
  simp only [applyS] at H
  have HXN := kp (HOX.out.ext (Ext.refl wa) (fun g hg => by cases hg))
  obtain ⟨u0, rfl, hou⟩ := F27.out
  obtain ⟨v1, rfl, hov⟩ := F29.out
  obtain ⟨g5, rfl, hg5, hl5⟩ := F5.out
  obtain ⟨g6, rfl, hg6, hl6⟩ := F6.out
  have hd56 : g6 ≠ g5 := fun e => FD.out (by rw [e])
  have HU5 := kp (owns_ne hou hl5 (by decide))
  have HU6 := kp (owns_ne hou hl6 (by decide))
  have HV5 := kp (owns_ne hov hl5 (by decide))
  have HV6 := kp (owns_ne hov hl6 (by decide))
  have HPU := kp (PastV.of_owns (HP0.out.sly.1) hou)
  have HPV := kp (PastV.of_owns (HP0.out.sly.1) hov)
  have HA := kp ((H.out.add wa.heap.size HALL.out HSZ.out hg5 hl5).addN (fun hm => by
    simp only [List.map_cons, List.map_nil, List.mem_cons, List.not_mem_nil, or_false] at hm
    rcases hm with hm | hm
    · exact hd56 hm
    · have := HG2.out; omega) (Nat.le_trans HSZ.out hg6) hl6)
  have HG5 := kp hg5
  have HG6 := kp hg6
  clear H F27 F29 F5 F6 FD hou hov hl5 hl6 hd56 hg5 hg6
  have H := HA
  clear HA
  have HLZ := kp (fun (l : List Slot) u (h : Ring4 l) => cellsR_len2 zeroSs l nilV u ring_zero h)
  have HOB := kp (fun (l : List Slot) u (h : u.oneCell' = true) => one_cellsR l u h)
  have HUO := kp (slot_oneP HPU.out)
  have HVO := kp (slot_oneP HPV.out)
  go_wp2_with (first | ((with_reducible show wpList _ _ _ (Oper.mk none (Op.store 51 _ _) _ _ _ _ :: _) _ _); (first | (refine L_store H rfl rfl 51 _ _ rfl 0 rfl rfl (cellsR l0 u0) rfl (HZ.out _) (HLZ.out _ _ HL0.out) (HOB.out _ _ HUO.out) ?_; clear H; intro wx HWwx H; simp only [List.set_cons_zero] at H) | (refine L_store H rfl rfl 51 _ _ rfl 1 rfl rfl (cellsR l0 u0) rfl (HZ.out _) (HLZ.out _ _ HL0.out) (HOB.out _ _ HUO.out) ?_; clear H; intro wx HWwx H; simp only [List.set_cons_succ, List.set_cons_zero] at H) | (refine L_store H rfl rfl 51 _ _ rfl 2 rfl rfl (cellsR l0 u0) rfl (HZ.out _) (HLZ.out _ _ HL0.out) (HOB.out _ _ HUO.out) ?_; clear H; intro wx HWwx H; simp only [List.set_cons_succ, List.set_cons_zero] at H) | (refine L_store H rfl rfl 51 _ _ rfl 3 rfl rfl (cellsR l0 u0) rfl (HZ.out _) (HLZ.out _ _ HL0.out) (HOB.out _ _ HUO.out) ?_; clear H; intro wx HWwx H; simp only [List.set_cons_succ, List.set_cons_zero] at H) | (refine L_store H rfl rfl 51 _ _ rfl 4 rfl rfl (cellsR l0 u0) rfl (HZ.out _) (HLZ.out _ _ HL0.out) (HOB.out _ _ HUO.out) ?_; clear H; intro wx HWwx H; simp only [List.set_cons_succ, List.set_cons_zero] at H) | (refine L_store H rfl rfl 51 _ _ rfl 5 rfl rfl (cellsR l0 u0) rfl (HZ.out _) (HLZ.out _ _ HL0.out) (HOB.out _ _ HUO.out) ?_; clear H; intro wx HWwx H; simp only [List.set_cons_succ, List.set_cons_zero] at H))) | ((with_reducible show wpList _ _ _ (Oper.mk none (Op.store 51 _ _) _ _ _ _ :: _) _ _); (first | (refine L_store H rfl rfl 51 _ _ rfl 0 rfl rfl (cellsR l0 v1) rfl (HZ.out _) (HLZ.out _ _ HL0.out) (HOB.out _ _ HVO.out) ?_; clear H; intro wy HWwy H; simp only [List.set_cons_zero] at H) | (refine L_store H rfl rfl 51 _ _ rfl 1 rfl rfl (cellsR l0 v1) rfl (HZ.out _) (HLZ.out _ _ HL0.out) (HOB.out _ _ HVO.out) ?_; clear H; intro wy HWwy H; simp only [List.set_cons_succ, List.set_cons_zero] at H) | (refine L_store H rfl rfl 51 _ _ rfl 2 rfl rfl (cellsR l0 v1) rfl (HZ.out _) (HLZ.out _ _ HL0.out) (HOB.out _ _ HVO.out) ?_; clear H; intro wy HWwy H; simp only [List.set_cons_succ, List.set_cons_zero] at H) | (refine L_store H rfl rfl 51 _ _ rfl 3 rfl rfl (cellsR l0 v1) rfl (HZ.out _) (HLZ.out _ _ HL0.out) (HOB.out _ _ HVO.out) ?_; clear H; intro wy HWwy H; simp only [List.set_cons_succ, List.set_cons_zero] at H) | (refine L_store H rfl rfl 51 _ _ rfl 4 rfl rfl (cellsR l0 v1) rfl (HZ.out _) (HLZ.out _ _ HL0.out) (HOB.out _ _ HVO.out) ?_; clear H; intro wy HWwy H; simp only [List.set_cons_succ, List.set_cons_zero] at H) | (refine L_store H rfl rfl 51 _ _ rfl 5 rfl rfl (cellsR l0 v1) rfl (HZ.out _) (HLZ.out _ _ HL0.out) (HOB.out _ _ HVO.out) ?_; clear H; intro wy HWwy H; simp only [List.set_cons_succ, List.set_cons_zero] at H))))
  have HM := kp (show Two wa.heap.size wy g5 g6 u0 v1 ks0 from Two.wrote6 (Two.wrote5 ⟨HPU.out, HPV.out, HU5.out, HU6.out, HV5.out, HV6.out, hk40⟩ HWwx.out) HWwy.out)
  have HCU := kp (fun w' (h : Ext wy w') => checkRing_P l0 HL0.out u0 ks0 wa.heap.size (by omega) w' (HM.out.pu.ext h))
  have HCV := kp (fun w' (h : Ext wy w') => rcheckRing_P l0 HL0.out v1 ks0 wa.heap.size (by omega) w' (HM.out.pv.ext h))
  have HSUV := kp (fun w' (h : Ext wy w') => rsame_P l0 HL0.out u0 v1 ks0 _ _ (by omega) w' (HM.out.pu.ext h) (HM.out.pv.ext h))
  have hcc : (checkRingF l0 ks0 != checkRingF l0 ks0) = false := by simp
  have HG0 := kp (show 0 < wa.heap.size from Nat.lt_of_le_of_lt (Nat.zero_le _) HG2.out)
  have HWA := HSZ
  clear HT HRT HPU HPV HU5 HU6 HV5 HV6 HUO HVO HALL HSZ
  subst h4
  refine region_free H (tabS [(30, fun zv _ => zv = .agg (cellsR l0 u0).toArray), (31, fun zv _ => zv = .int .i64 (checkRingF l0 ks0)), (32, fun zv _ => zv = .agg (cellsR l0 v1).toArray), (33, fun zv _ => zv = .int .i64 (checkRingF l0 ks0)), (34, fun zv _ => zv = .bool false), (35, fun zv _ => zv = .bool false), (36, fun zv _ => zv = .agg (cellsR l0 u0).toArray), (37, fun zv _ => zv = .agg (cellsR l0 v1).toArray), (38, fun zv _ => zv = .bool true), (39, fun zv _ => zv = .bool false), (40, fun zv _ => zv = .bool false)]) [] (tabS_out _ _ (by simp only [List.forall_mem_cons]; exact ⟨mono_eqO _ _, mono_eqO _ _, mono_eqO _ _, mono_eqO _ _, mono_eqO _ _, mono_eqO _ _, mono_eqO _ _, mono_eqO _ _, mono_eqO _ _, mono_eqO _ _, mono_eqO _ _, by simp⟩)) 11 (by kernel_rfl) (by kernel_rfl) (by kernel_rfl) (by kernel_rfl) [] [] rfl rfl (by decide) (by decide) (by decide) trivial ?_
  simp only [List.take_succ_cons, List.take_zero]
  refine ⟨fun wv30 hov30 hSv30 => ?_, fun v30 => ?_⟩
  · clear hSv30
    have H := kp (H.out.keep [0, 1, 2] (St := []) trivial hov30 (by decide) (by kernel_rfl))
    have HOX := kp hov30
    clear hov30
    go_wp2_with ((with_reducible show wpList _ _ _ (Oper.mk _ (Op.load 51 _) _ _ _ _ :: _) _ _); (first | (refine L_load H rfl 51 _ rfl 0 rfl rfl Try.underlying51 rfl (HZ.out _) ?_) | (refine L_load H rfl 51 _ rfl 1 rfl rfl Try.underlying51 rfl (HZ.out _) ?_) | (refine L_load H rfl 51 _ rfl 2 rfl rfl Try.underlying51 rfl (HZ.out _) ?_) | (refine L_load H rfl 51 _ rfl 3 rfl rfl Try.underlying51 rfl (HZ.out _) ?_) | (refine L_load H rfl 51 _ rfl 4 rfl rfl Try.underlying51 rfl (HZ.out _) ?_) | (refine L_load H rfl 51 _ rfl 5 rfl rfl Try.underlying51 rfl (HZ.out _) ?_)); simp only [Act.put, List.setIfInBounds_toArray, List.set_cons_zero, List.set_cons_succ])
    exact ⟨rfl, _, rfl, fun d hd => by cases hd; exact rfl, Ext.refl _⟩
  simp only [Act.put, List.setIfInBounds_toArray, List.set_cons_zero, List.set_cons_succ]
  refine ⟨fun wv31 hov31 hSv31 => ?_, fun v31 => ?_⟩
  · obtain rfl : v30 = .agg (cellsR l0 u0).toArray := hSv31 30 (by decide) (by decide)
    clear hSv31
    have H := kp (H.out.keep [0, 1, 2] (St := []) trivial hov31 (by decide) (by kernel_rfl))
    have HOX := kp hov31
    clear hov31
    have HXZ := kp (HOX.out.ext (Ext.refl _) (fun g hg => by cases hg))
    go_wp2_with fail
    refine (HCU.out _ HXZ.out).mono ?_
    rintro e w2 ⟨rfl, hx⟩
    have HXW := kp hx
    clear hx
    go_wp2_with fail
    exact ⟨rfl, _, rfl, fun d hd => by cases hd; exact rfl, HXW.out⟩
  simp only [Act.put, List.setIfInBounds_toArray, List.set_cons_zero, List.set_cons_succ]
  refine ⟨fun wv32 hov32 hSv32 => ?_, fun v32 => ?_⟩
  · clear hSv32
    have H := kp (H.out.keep [0, 1, 2] (St := []) trivial hov32 (by decide) (by kernel_rfl))
    have HOX := kp hov32
    clear hov32
    go_wp2_with ((with_reducible show wpList _ _ _ (Oper.mk _ (Op.load 51 _) _ _ _ _ :: _) _ _); (first | (refine L_load H rfl 51 _ rfl 0 rfl rfl Try.underlying51 rfl (HZ.out _) ?_) | (refine L_load H rfl 51 _ rfl 1 rfl rfl Try.underlying51 rfl (HZ.out _) ?_) | (refine L_load H rfl 51 _ rfl 2 rfl rfl Try.underlying51 rfl (HZ.out _) ?_) | (refine L_load H rfl 51 _ rfl 3 rfl rfl Try.underlying51 rfl (HZ.out _) ?_) | (refine L_load H rfl 51 _ rfl 4 rfl rfl Try.underlying51 rfl (HZ.out _) ?_) | (refine L_load H rfl 51 _ rfl 5 rfl rfl Try.underlying51 rfl (HZ.out _) ?_)); simp only [Act.put, List.setIfInBounds_toArray, List.set_cons_zero, List.set_cons_succ])
    exact ⟨rfl, _, rfl, fun d hd => by cases hd; exact rfl, Ext.refl _⟩
  simp only [Act.put, List.setIfInBounds_toArray, List.set_cons_zero, List.set_cons_succ]
  refine ⟨fun wv33 hov33 hSv33 => ?_, fun v33 => ?_⟩
  · obtain rfl : v32 = .agg (cellsR l0 v1).toArray := hSv33 32 (by decide) (by decide)
    clear hSv33
    have H := kp (H.out.keep [0, 1, 2] (St := []) trivial hov33 (by decide) (by kernel_rfl))
    have HOX := kp hov33
    clear hov33
    have HXZ := kp (HOX.out.ext (Ext.refl _) (fun g hg => by cases hg))
    go_wp2_with fail
    refine (HCV.out _ HXZ.out).mono ?_
    rintro e w2 ⟨rfl, hx⟩
    have HXW := kp hx
    clear hx
    go_wp2_with fail
    exact ⟨rfl, _, rfl, fun d hd => by cases hd; exact rfl, HXW.out⟩
  simp only [Act.put, List.setIfInBounds_toArray, List.set_cons_zero, List.set_cons_succ]
  refine ⟨fun wv34 hov34 hSv34 => ?_, fun v34 => ?_⟩
  · obtain rfl : v31 = .int .i64 (checkRingF l0 ks0) := hSv34 31 (by decide) (by decide)
    obtain rfl : v33 = .int .i64 (checkRingF l0 ks0) := hSv34 33 (by decide) (by decide)
    clear hSv34
    clear hov34
    go_wp2_with fail
    exact ⟨rfl, _, rfl, fun d hd => by cases hd; exact rfl, Ext.refl _⟩
  simp only [Act.put, List.setIfInBounds_toArray, List.set_cons_zero, List.set_cons_succ]
  refine ⟨fun wv35 hov35 hSv35 => ?_, fun v35 => ?_⟩
  · obtain rfl : v34 = .bool false := hSv35 34 (by decide) (by decide)
    clear hSv35
    clear hov35
    go_wp2_with fail
    exact ⟨rfl, _, rfl, fun d hd => by cases hd; exact rfl, Ext.refl _⟩
  simp only [Act.put, List.setIfInBounds_toArray, List.set_cons_zero, List.set_cons_succ]
  refine ⟨fun wv36 hov36 hSv36 => ?_, fun v36 => ?_⟩
  · obtain rfl : v35 = .bool false := hSv36 35 (by decide) (by decide)
    clear hSv36
    have H := kp (H.out.keep [0, 1, 2] (St := []) trivial hov36 (by decide) (by kernel_rfl))
    have HOX := kp hov36
    clear hov36
    go_wp2_with ((with_reducible show wpList _ _ _ (Oper.mk _ (Op.load 51 _) _ _ _ _ :: _) _ _); (first | (refine L_loadG H (by kernel_rfl) 51 _ rfl 0 rfl rfl Try.underlying51 rfl (HZ.out _) ?_) | (refine L_loadG H (by kernel_rfl) 51 _ rfl 1 rfl rfl Try.underlying51 rfl (HZ.out _) ?_) | (refine L_loadG H (by kernel_rfl) 51 _ rfl 2 rfl rfl Try.underlying51 rfl (HZ.out _) ?_) | (refine L_loadG H (by kernel_rfl) 51 _ rfl 3 rfl rfl Try.underlying51 rfl (HZ.out _) ?_) | (refine L_loadG H (by kernel_rfl) 51 _ rfl 4 rfl rfl Try.underlying51 rfl (HZ.out _) ?_) | (refine L_loadG H (by kernel_rfl) 51 _ rfl 5 rfl rfl Try.underlying51 rfl (HZ.out _) ?_)); simp only [Act.put, List.setIfInBounds_toArray, List.set_cons_zero, List.set_cons_succ])
    exact ⟨rfl, _, rfl, fun d hd => by cases hd; exact rfl, Ext.refl _⟩
  simp only [Act.put, List.setIfInBounds_toArray, List.set_cons_zero, List.set_cons_succ]
  refine ⟨fun wv37 hov37 hSv37 => ?_, fun v37 => ?_⟩
  · obtain rfl : v35 = .bool false := hSv37 35 (by decide) (by decide)
    clear hSv37
    have H := kp (H.out.keep [0, 1, 2] (St := []) trivial hov37 (by decide) (by kernel_rfl))
    have HOX := kp hov37
    clear hov37
    go_wp2_with ((with_reducible show wpList _ _ _ (Oper.mk _ (Op.load 51 _) _ _ _ _ :: _) _ _); (first | (refine L_loadG H (by kernel_rfl) 51 _ rfl 0 rfl rfl Try.underlying51 rfl (HZ.out _) ?_) | (refine L_loadG H (by kernel_rfl) 51 _ rfl 1 rfl rfl Try.underlying51 rfl (HZ.out _) ?_) | (refine L_loadG H (by kernel_rfl) 51 _ rfl 2 rfl rfl Try.underlying51 rfl (HZ.out _) ?_) | (refine L_loadG H (by kernel_rfl) 51 _ rfl 3 rfl rfl Try.underlying51 rfl (HZ.out _) ?_) | (refine L_loadG H (by kernel_rfl) 51 _ rfl 4 rfl rfl Try.underlying51 rfl (HZ.out _) ?_) | (refine L_loadG H (by kernel_rfl) 51 _ rfl 5 rfl rfl Try.underlying51 rfl (HZ.out _) ?_)); simp only [Act.put, List.setIfInBounds_toArray, List.set_cons_zero, List.set_cons_succ])
    exact ⟨rfl, _, rfl, fun d hd => by cases hd; exact rfl, Ext.refl _⟩
  simp only [Act.put, List.setIfInBounds_toArray, List.set_cons_zero, List.set_cons_succ]
  refine ⟨fun wv38 hov38 hSv38 => ?_, fun v38 => ?_⟩
  · obtain rfl : v35 = .bool false := hSv38 35 (by decide) (by decide)
    obtain rfl : v36 = .agg (cellsR l0 u0).toArray := hSv38 36 (by decide) (by decide)
    obtain rfl : v37 = .agg (cellsR l0 v1).toArray := hSv38 37 (by decide) (by decide)
    clear hSv38
    have H := kp (H.out.keep [0, 1, 2] (St := []) trivial hov38 (by decide) (by kernel_rfl))
    have HOX := kp hov38
    clear hov38
    have HXZ := kp (HOX.out.ext (Ext.refl _) (fun g hg => by cases hg))
    go_wp2_with fail
    refine (HSUV.out _ HXZ.out).mono ?_
    rintro e w2 ⟨rfl, hx⟩
    have HXW := kp hx
    clear hx
    go_wp2_with fail
    exact ⟨rfl, _, rfl, fun d hd => by cases hd; exact rfl, HXW.out⟩
  simp only [Act.put, List.setIfInBounds_toArray, List.set_cons_zero, List.set_cons_succ]
  refine ⟨fun wv39 hov39 hSv39 => ?_, fun v39 => ?_⟩
  · obtain rfl : v35 = .bool false := hSv39 35 (by decide) (by decide)
    obtain rfl : v38 = .bool true := hSv39 38 (by decide) (by decide)
    clear hSv39
    clear hov39
    go_wp2_with fail
    exact ⟨rfl, _, rfl, fun d hd => by cases hd; exact rfl, Ext.refl _⟩
  simp only [Act.put, List.setIfInBounds_toArray, List.set_cons_zero, List.set_cons_succ]
  refine ⟨fun wv40 hov40 hSv40 => ?_, fun v40 => ?_⟩
  · obtain rfl : v35 = .bool false := hSv40 35 (by decide) (by decide)
    obtain rfl : v39 = .bool false := hSv40 39 (by decide) (by decide)
    clear hSv40
    clear hov40
    go_wp2_with fail
    exact ⟨rfl, _, rfl, fun d hd => by cases hd; exact rfl, Ext.refl _⟩
  simp only [Act.put, List.setIfInBounds_toArray, List.set_cons_zero, List.set_cons_succ]
  clear H
  intro w4 HOX H hfin
  obtain rfl : v30 = .agg (cellsR l0 u0).toArray := hfin 30 (by decide)
  obtain rfl : v31 = .int .i64 (checkRingF l0 ks0) := hfin 31 (by decide)
  obtain rfl : v32 = .agg (cellsR l0 v1).toArray := hfin 32 (by decide)
  obtain rfl : v33 = .int .i64 (checkRingF l0 ks0) := hfin 33 (by decide)
  obtain rfl : v34 = .bool false := hfin 34 (by decide)
  obtain rfl : v35 = .bool false := hfin 35 (by decide)
  obtain rfl : v36 = .agg (cellsR l0 u0).toArray := hfin 36 (by decide)
  obtain rfl : v37 = .agg (cellsR l0 v1).toArray := hfin 37 (by decide)
  obtain rfl : v38 = .bool true := hfin 38 (by decide)
  obtain rfl : v39 = .bool false := hfin 39 (by decide)
  obtain rfl : v40 = .bool false := hfin 40 (by decide)
  clear hfin
  simp only [List.drop_succ_cons, List.drop_zero]
  simp only [applyS] at H
  have HXN := kp (HOX.out.ext (Ext.refl wy) (fun g hg => by cases hg))
  clear HCU HCV HSUV hcc
  have HMz := kp (HM.out.ext HXN.out)
  clear HM HXN HOX
  go_wp2_with fail
  go_loopw [7] (fun i7 wr => ∃ (j : Nat) (l : List Slot) (u v : Value) (ks : Keys16), j ≤ n ∧ i7 = .int .i64 j ∧ Kp (Ring4 l) ∧ Kp (Loc w wr [(g6, 51, cellsR l v), (g5, 51, cellsR l u), (g2, 51, cellsR l0 (.slice a0 ks0.length c0))]) ∧ Kp (Two wa.heap.size wr g5 g6 u v ks)) (fun i7 _ => n - (intOf i7).toNat)
  case atStart => exact ⟨0, l0, u0, v1, ks0, by omega, rfl, HL0, H, HMz⟩
  case round =>
    obtain ⟨j, l, u, v, ks, hj, rfl, HL, HW, HM⟩ := hrel
    by_cases hjn : j < n
    case neg =>
      go_wp2_with fail
      go_ret
      exact ⟨rfl, HW.out.1⟩
    have hjI : (j : Int) < n := by omega
    obtain ⟨o, ho⟩ : ∃ o, ops[j]? = some o := ⟨ops[j]'(by rw [← HNL.out]; omega), by simp⟩
    obtain ⟨b, off, rfl, hb, hr⟩ := HAT.out j o ho
    have HOk := kp (HOK.out o (List.mem_of_getElem? ho))
    have HZO := kp (show (Try.prog.info? 67).map (·.size) = some 20 from size67)
    have HZOl := kp (show (Try.prog.info? 67).map (·.size) = some (cellsO o).length by rw [HZO.out, cellsO_len o HOk.out])
    have HZOa := kp (show (Try.prog.info? 67).map (·.size) = some (cellsO o).toArray.size by rw [List.size_toArray]; exact HZOl.out)
    have HOO := kp (show (cellsO o).toArray.all (·.oneCell') = true by refine all_oneCell_toArray fun x hx => ?_; simp only [cellsO, List.mem_cons] at hx; rcases hx with rfl | rfl | rfl | rfl | hx; rfl; rfl; rfl; rfl; exact mem_V8 _ x hx)
    have HOL := kp (show (cellsO ⟨0, 0, 0, 0, zeroK⟩).length = (cellsO o).length by rw [cellsO_len o HOk.out]; rfl)
    have HO0 := kp (show (cellsO o)[0]? = some (V8 o.kind) from rfl)
    have HO1 := kp (show (cellsO o)[1]? = some (.int .i64 o.slot) from rfl)
    have HO2 := kp (show (cellsO o)[2]? = some (.int .i64 o.tid) from rfl)
    have HO3 := kp (show (cellsO o)[3]? = some (.int .i64 o.num) from rfl)
    have HO4 := kp (show ((cellsO o).drop 4).take (o.key.map V8).length = o.key.map V8 from List.take_of_length_le (Nat.le_refl _))
    have HZKl := kp (sizeKl o.key HOk.out)
    have HZl := kp (fun u => sizeR l u HL.out)
    have HL5 := kp (show Lc wr g5 51 (cellsR l u) from HW.out.at 1 rfl)
    have HL6 := kp (show Lc wr g6 51 (cellsR l v) from HW.out.at 0 rfl)
    have HRX := kp (rangeAt_ext hr hb HW.out.1)
    have H := kp (Loc.start wr)
    have HN40 := kp HM.out.n
    have HRT9 := kp (fun w' (h : Ext wr w') => rtwin_any l HL.out u ks (Nat.le_trans HN40.out (by decide)) w' (HM.out.pu.ext h).sly)
    clear ho hb hr
    generalize h13 : (Code.region 13 _ _ : Code) = R13
    generalize h29 : (Code.region 29 _ _ : Code) = R29
    generalize h31 : (Code.region 31 _ _ : Code) = R31
    go_wp2_with (first | ((with_reducible show wpList _ _ _ (Oper.mk (some 50) (Op.load _ _) _ _ _ _ :: _) _ _); (refine wpList_load_mid rfl 67 _ rfl b (off + j * 20) rfl (cellsO o) _ (HRX.out) Try.underlying67 rfl HZOl.out ?_); simp only [Act.put, List.setIfInBounds_toArray, List.set_cons_zero, List.set_cons_succ]) | ((with_reducible show wpList _ _ _ (Oper.mk (some 8) (Op.alloc 67) _ _ _ _ :: _) _ _); (with_reducible refine L_alloc H rfl 67 rfl (cellsO ⟨0, 0, 0, 0, zeroK⟩) (fun _ _ => by kernel_rfl) ?_); clear H; intro g8 w8 HGg8 HEg8 H; simp only [Act.put, List.setIfInBounds_toArray, List.set_cons_zero, List.set_cons_succ]) | ((with_reducible show wpList _ _ _ (Oper.mk none (Op.store 67 _ _) _ _ _ _ :: _) _ _); (first | (refine L_store H rfl rfl 67 _ _ rfl 0 rfl rfl (cellsO o) rfl (HZOa.out) (HOL.out) (HOO.out) ?_; clear H; intro wo HWwo H; simp only [List.set_cons_zero] at H) | (refine L_store H rfl rfl 67 _ _ rfl 1 rfl rfl (cellsO o) rfl (HZOa.out) (HOL.out) (HOO.out) ?_; clear H; intro wo HWwo H; simp only [List.set_cons_succ, List.set_cons_zero] at H) | (refine L_store H rfl rfl 67 _ _ rfl 2 rfl rfl (cellsO o) rfl (HZOa.out) (HOL.out) (HOO.out) ?_; clear H; intro wo HWwo H; simp only [List.set_cons_succ, List.set_cons_zero] at H) | (refine L_store H rfl rfl 67 _ _ rfl 3 rfl rfl (cellsO o) rfl (HZOa.out) (HOL.out) (HOO.out) ?_; clear H; intro wo HWwo H; simp only [List.set_cons_succ, List.set_cons_zero] at H) | (refine L_store H rfl rfl 67 _ _ rfl 4 rfl rfl (cellsO o) rfl (HZOa.out) (HOL.out) (HOO.out) ?_; clear H; intro wo HWwo H; simp only [List.set_cons_succ, List.set_cons_zero] at H) | (refine L_store H rfl rfl 67 _ _ rfl 5 rfl rfl (cellsO o) rfl (HZOa.out) (HOL.out) (HOO.out) ?_; clear H; intro wo HWwo H; simp only [List.set_cons_succ, List.set_cons_zero] at H))) | ((with_reducible show wpList _ _ _ (Oper.mk _ (Op.load 51 _) _ _ _ _ :: _) _ _); (refine wpList_load_rowG (by kernel_rfl) 51 _ rfl (g5) rfl 51 (cellsR l u).toArray (0, 0) _ (HL5.out.ext H.out.1) Try.underlying51 rfl (HZl.out _) ?_); simp only [Act.put, List.setIfInBounds_toArray, List.set_cons_zero, List.set_cons_succ]) | (go_at_call 27; refine (HRT9.out _ H.out.1).mono ?_; rintro e w9 ⟨u9, rfl, ho9, hx⟩; have HP9 := kp ((PastV.of_owns HM.out.pu.sly.1 ho9).base H.out.1.size); have HU9 := kp (slot_oneP HP9.out); clear ho9; have H2 := kp (H.out.ext hx); have HXC := kp hx; clear H hx; have H := H2; clear H2) | ((with_reducible show wpList _ _ _ (Oper.mk (some 9) (Op.alloc 51) _ _ _ _ :: _) _ _); (with_reducible refine L_alloc H rfl 51 rfl (zeroR) (fun _ _ => by kernel_rfl) ?_); clear H; intro g9 w9b HGg9 HEg9 H; simp only [Act.put, List.setIfInBounds_toArray, List.set_cons_zero, List.set_cons_succ]) | ((with_reducible show wpList _ _ _ (Oper.mk none (Op.store 51 _ _) _ _ _ _ :: _) _ _); (first | (refine L_store H rfl rfl 51 _ _ rfl 0 rfl rfl (cellsR l u9) rfl (HZl.out _) (HLZ.out _ _ HL.out) (HOB.out _ _ HU9.out) ?_; clear H; intro wo9 HWwo9 H; simp only [List.set_cons_zero] at H) | (refine L_store H rfl rfl 51 _ _ rfl 1 rfl rfl (cellsR l u9) rfl (HZl.out _) (HLZ.out _ _ HL.out) (HOB.out _ _ HU9.out) ?_; clear H; intro wo9 HWwo9 H; simp only [List.set_cons_succ, List.set_cons_zero] at H) | (refine L_store H rfl rfl 51 _ _ rfl 2 rfl rfl (cellsR l u9) rfl (HZl.out _) (HLZ.out _ _ HL.out) (HOB.out _ _ HU9.out) ?_; clear H; intro wo9 HWwo9 H; simp only [List.set_cons_succ, List.set_cons_zero] at H) | (refine L_store H rfl rfl 51 _ _ rfl 3 rfl rfl (cellsR l u9) rfl (HZl.out _) (HLZ.out _ _ HL.out) (HOB.out _ _ HU9.out) ?_; clear H; intro wo9 HWwo9 H; simp only [List.set_cons_succ, List.set_cons_zero] at H) | (refine L_store H rfl rfl 51 _ _ rfl 4 rfl rfl (cellsR l u9) rfl (HZl.out _) (HLZ.out _ _ HL.out) (HOB.out _ _ HU9.out) ?_; clear H; intro wo9 HWwo9 H; simp only [List.set_cons_succ, List.set_cons_zero] at H) | (refine L_store H rfl rfl 51 _ _ rfl 5 rfl rfl (cellsR l u9) rfl (HZl.out _) (HLZ.out _ _ HL.out) (HOB.out _ _ HU9.out) ?_; clear H; intro wo9 HWwo9 H; simp only [List.set_cons_succ, List.set_cons_zero] at H))) | ((with_reducible show wpList _ _ _ (Oper.mk (some 10) (Op.alloc 51) _ _ _ _ :: _) _ _); (with_reducible refine L_alloc H rfl 51 rfl (zeroR) (fun _ _ => by kernel_rfl) ?_); clear H; intro g10 w10 HGg10 HEg10 H; simp only [Act.put, List.setIfInBounds_toArray, List.set_cons_zero, List.set_cons_succ]) | ((with_reducible show wpList _ _ _ (Oper.mk (some 11) (Op.alloc 51) _ _ _ _ :: _) _ _); (with_reducible refine L_alloc H rfl 51 rfl (zeroR) (fun _ _ => by kernel_rfl) ?_); clear H; intro g11 w11 HGg11 HEg11 H; simp only [Act.put, List.setIfInBounds_toArray, List.set_cons_zero, List.set_cons_succ]))
    have HP9b := kp (HP9.out.wrote2 HEg9.out HWwo9.out (Nat.le_of_eq HGg9.out.symm))
    have HE911 := kp (HEg10.out.trans HEg11.out)
    have HS10 := kp (Nat.le_of_eq HGg10.out.symm)
    have HS11 := kp (Nat.le_trans HEg10.out.size (Nat.le_of_eq HGg11.out.symm))
    clear HP9 HU9 HEg9 HWwo9 HGg9 HEg10 HEg11 HGg10 HGg11 HRT9 HRX HOL HOO HZOa HZOl HZO
    have hc0 := run_load_cell H.out 3 rfl _ _ HO0.out
    have hc1 := run_load_cell H.out 3 rfl _ _ HO1.out
    have hc2 := run_load_cell H.out 3 rfl _ _ HO2.out
    have hc3 := run_load_cell H.out 3 rfl _ _ HO3.out
    by_cases hk0 : o.kind = 0#8
    · have e0 : (o.kind == 0#8) = true := by simp [hk0]
      have HQ := kp (install_okR (ks := ks) (slot := o.slot) HL.out HOk.out)
      have HIa := kp (install_any l HL.out u ks wa.heap.size (Nat.le_trans HN40.out (by decide)) o.slot o.key HOk.out _ (HM.out.pu.ext H.out.1))
      have HIb := kp (fun w' (h : Ext wr w') => rinstall_any l HL.out v ks wa.heap.size (Nat.le_trans HN40.out (by decide)) o.slot o.key HOk.out w' (HM.out.pv.ext h))
      generalize installF l ks o.slot o.key = q at HQ HIa HIb
      obtain ⟨⟨m, ks2⟩, er⟩ := q
      have HLm := kp HQ.out.1
      have HN2 := kp HQ.out.2
      have HZm := kp (fun u => sizeR m u HLm.out)
      have HALb := kp H.out.allLt
      have HSb := kp H.out.1.size
      subst h13
      go_wp2_with (first | ((with_reducible show wpList _ _ _ (Oper.mk _ (Op.load 51 _) _ _ _ _ :: _) _ _); (refine wpList_load_rowG (by kernel_rfl) 51 _ rfl (g5) rfl 51 (cellsR l u).toArray (0, 0) _ (HL5.out.ext H.out.1) Try.underlying51 rfl (HZl.out _) ?_); simp only [Act.put, List.setIfInBounds_toArray, List.set_cons_zero, List.set_cons_succ]) | ((with_reducible show wpList _ _ _ (Oper.mk _ (Op.load 45 _) _ _ _ _ :: _) _ _); (first | (refine L_sub H rfl 45 _ rfl 0 rfl (4) rfl (o.key.map V8) (HO4.out) Try.underlying45 rfl (HZKl.out) ?_) | (refine L_sub H rfl 45 _ rfl 1 rfl (4) rfl (o.key.map V8) (HO4.out) Try.underlying45 rfl (HZKl.out) ?_) | (refine L_sub H rfl 45 _ rfl 2 rfl (4) rfl (o.key.map V8) (HO4.out) Try.underlying45 rfl (HZKl.out) ?_) | (refine L_sub H rfl 45 _ rfl 3 rfl (4) rfl (o.key.map V8) (HO4.out) Try.underlying45 rfl (HZKl.out) ?_) | (refine L_sub H rfl 45 _ rfl 4 rfl (4) rfl (o.key.map V8) (HO4.out) Try.underlying45 rfl (HZKl.out) ?_) | (refine L_sub H rfl 45 _ rfl 5 rfl (4) rfl (o.key.map V8) (HO4.out) Try.underlying45 rfl (HZKl.out) ?_)); simp only [Act.put, List.setIfInBounds_toArray, List.set_cons_zero, List.set_cons_succ]))
      refine HIa.out.mono ?_
      rintro e2 wi ⟨u2, rfl, hp2, hx⟩
      have HP2 := kp hp2
      have HU2 := kp (slot_oneP hp2)
      clear hp2
      have H2 := kp (H.out.ext hx); have HXC := kp hx; clear H hx; have H := H2; clear H2
      have HX1 := HXC
      clear hc0 hc1 hc2 hc3 HXC
      dsimp only
      go_wp2_with (first | (((with_reducible show wpList _ _ _ (Oper.mk none (Op.store 51 _ _) _ _ _ _ :: _) _ _); (first | (refine L_store H rfl rfl 51 _ _ rfl 0 rfl rfl (cellsR m u2) rfl (HZm.out _) (HLZ.out _ _ HLm.out) (HOB.out _ _ HU2.out) ?_; clear H; intro wz HWwz H; simp only [List.set_cons_zero] at H) | (refine L_store H rfl rfl 51 _ _ rfl 1 rfl rfl (cellsR m u2) rfl (HZm.out _) (HLZ.out _ _ HLm.out) (HOB.out _ _ HU2.out) ?_; clear H; intro wz HWwz H; simp only [List.set_cons_succ, List.set_cons_zero] at H) | (refine L_store H rfl rfl 51 _ _ rfl 2 rfl rfl (cellsR m u2) rfl (HZm.out _) (HLZ.out _ _ HLm.out) (HOB.out _ _ HU2.out) ?_; clear H; intro wz HWwz H; simp only [List.set_cons_succ, List.set_cons_zero] at H) | (refine L_store H rfl rfl 51 _ _ rfl 3 rfl rfl (cellsR m u2) rfl (HZm.out _) (HLZ.out _ _ HLm.out) (HOB.out _ _ HU2.out) ?_; clear H; intro wz HWwz H; simp only [List.set_cons_succ, List.set_cons_zero] at H) | (refine L_store H rfl rfl 51 _ _ rfl 4 rfl rfl (cellsR m u2) rfl (HZm.out _) (HLZ.out _ _ HLm.out) (HOB.out _ _ HU2.out) ?_; clear H; intro wz HWwz H; simp only [List.set_cons_succ, List.set_cons_zero] at H) | (refine L_store H rfl rfl 51 _ _ rfl 5 rfl rfl (cellsR m u2) rfl (HZm.out _) (HLZ.out _ _ HLm.out) (HOB.out _ _ HU2.out) ?_; clear H; intro wz HWwz H; simp only [List.set_cons_succ, List.set_cons_zero] at H))); have hc1 := run_load_cell H.out 3 rfl _ _ HO1.out; have hc2 := run_load_cell H.out 3 rfl _ _ HO2.out; have hc3 := run_load_cell H.out 3 rfl _ _ HO3.out) | ((with_reducible show wpList _ _ _ (Oper.mk _ (Op.load 51 _) _ _ _ _ :: _) _ _); (refine wpList_load_rowG (by kernel_rfl) 51 _ rfl (g6) rfl 51 (cellsR l v).toArray (0, 0) _ (HL6.out.ext H.out.1) Try.underlying51 rfl (HZl.out _) ?_); simp only [Act.put, List.setIfInBounds_toArray, List.set_cons_zero, List.set_cons_succ]) | ((with_reducible show wpList _ _ _ (Oper.mk _ (Op.load 45 _) _ _ _ _ :: _) _ _); (first | (refine L_sub H rfl 45 _ rfl 0 rfl (4) rfl (o.key.map V8) (HO4.out) Try.underlying45 rfl (HZKl.out) ?_) | (refine L_sub H rfl 45 _ rfl 1 rfl (4) rfl (o.key.map V8) (HO4.out) Try.underlying45 rfl (HZKl.out) ?_) | (refine L_sub H rfl 45 _ rfl 2 rfl (4) rfl (o.key.map V8) (HO4.out) Try.underlying45 rfl (HZKl.out) ?_) | (refine L_sub H rfl 45 _ rfl 3 rfl (4) rfl (o.key.map V8) (HO4.out) Try.underlying45 rfl (HZKl.out) ?_) | (refine L_sub H rfl 45 _ rfl 4 rfl (4) rfl (o.key.map V8) (HO4.out) Try.underlying45 rfl (HZKl.out) ?_) | (refine L_sub H rfl 45 _ rfl 5 rfl (4) rfl (o.key.map V8) (HO4.out) Try.underlying45 rfl (HZKl.out) ?_)); simp only [Act.put, List.setIfInBounds_toArray, List.set_cons_zero, List.set_cons_succ]))
      refine (HIb.out _ H.out.1).mono ?_
      rintro e3 wj ⟨u3, rfl, hp3, hx⟩
      have HP3 := kp hp3
      have HU3 := kp (slot_oneP hp3)
      clear hp3
      have HAL3 := kp H.out.allLt
      have HS3b := kp H.out.1.size
      have H2 := kp (H.out.ext hx); have HXC := kp hx; clear H hx; have H := H2; clear H2
      clear hc1 hc2 hc3
      dsimp only
      go_wp2_with (first | (((with_reducible show wpList _ _ _ (Oper.mk none (Op.store 51 _ _) _ _ _ _ :: _) _ _); (first | (refine L_store H rfl rfl 51 _ _ rfl 0 rfl rfl (cellsR m u3) rfl (HZm.out _) (HLZ.out _ _ HLm.out) (HOB.out _ _ HU3.out) ?_; clear H; intro wt HWwt H; simp only [List.set_cons_zero] at H) | (refine L_store H rfl rfl 51 _ _ rfl 1 rfl rfl (cellsR m u3) rfl (HZm.out _) (HLZ.out _ _ HLm.out) (HOB.out _ _ HU3.out) ?_; clear H; intro wt HWwt H; simp only [List.set_cons_succ, List.set_cons_zero] at H) | (refine L_store H rfl rfl 51 _ _ rfl 2 rfl rfl (cellsR m u3) rfl (HZm.out _) (HLZ.out _ _ HLm.out) (HOB.out _ _ HU3.out) ?_; clear H; intro wt HWwt H; simp only [List.set_cons_succ, List.set_cons_zero] at H) | (refine L_store H rfl rfl 51 _ _ rfl 3 rfl rfl (cellsR m u3) rfl (HZm.out _) (HLZ.out _ _ HLm.out) (HOB.out _ _ HU3.out) ?_; clear H; intro wt HWwt H; simp only [List.set_cons_succ, List.set_cons_zero] at H) | (refine L_store H rfl rfl 51 _ _ rfl 4 rfl rfl (cellsR m u3) rfl (HZm.out _) (HLZ.out _ _ HLm.out) (HOB.out _ _ HU3.out) ?_; clear H; intro wt HWwt H; simp only [List.set_cons_succ, List.set_cons_zero] at H) | (refine L_store H rfl rfl 51 _ _ rfl 5 rfl rfl (cellsR m u3) rfl (HZm.out _) (HLZ.out _ _ HLm.out) (HOB.out _ _ HU3.out) ?_; clear H; intro wt HWwt H; simp only [List.set_cons_succ, List.set_cons_zero] at H)))))
      have HO23 := kp (((HWwz.out.out (G := [g10, g11]) (by simp)).trans (Out.of_ext _ HXC.out)).trans (HWwt.out.out (by simp)))
      have HP2t := kp ((HP2.out.out HO23.out (fun g hg => HALb.out g (by simp at hg; rcases hg with rfl | rfl <;> simp))).base HSb.out)
      have HP3t := kp ((HP3.out.out (HWwt.out.out (G := [g11]) (by simp)) (fun g hg => HAL3.out g (by simp at hg; simp [hg]))).base HS3b.out)
      have HP9t := kp (HP9b.out.outN ((Out.of_ext _ (HE911.out.trans HX1.out)).trans HO23.out) (fun g hg => by
        simp only [List.mem_cons, List.not_mem_nil, or_false] at hg
        rcases hg with rfl | rfl
        · exact HS10.out
        · exact HS11.out))
      clear HO23 HP2 HP3 HP9b HALb HAL3 HSb HS3b HX1 HXC
      have HMt := kp (HM.out.ext H.out.1)
      have HLO0 := kp (H.out.le 0 rfl)
      have HLO1 := kp (H.out.le 1 rfl)
      have HLO2 := kp (H.out.le 2 rfl)
      have HLO3 := kp (H.out.le 3 rfl)
      have HS1 := kp (fun w' (h : Ext wt w') => rsame_P m HLm.out u2 u3 ks2 _ _ (Nat.le_trans HN2.out (by decide)) w' (HP2t.out.ext h) (HP3t.out.ext h))
      have HS2 := kp (fun w' (h : Ext wt w') => rsame_P l HL.out u u9 ks _ _ (Nat.le_trans HN40.out (by decide)) w' (HMt.out.pu.ext h) (HP9t.out.ext h))
      have HS3 := kp (fun w' (h : Ext wt w') => same_any m l HLm.out HL.out u2 u ks2 ks (Nat.le_trans HN2.out (by decide)) (Nat.le_trans HN40.out (by decide)) w' (HP2t.out.ext h).sly (HMt.out.pu.ext h).sly)
      have HS4 := kp (fun w' (h : Ext wt w') => rsame_any m l HLm.out HL.out u3 v ks2 ks (Nat.le_trans HN2.out (by decide)) (Nat.le_trans HN40.out (by decide)) w' (HP3t.out.ext h).sly (HMt.out.pv.ext h).sly)
      generalize sameF m l ks2 ks = sb at HS3 HS4
      have hee : (er != er) = false := by simp
      have hsb : (sb != sb) = false := by simp
      subst h29
      refine region_free H (tabS [(141, fun zv _ => zv = .int .i64 er), (142, fun zv _ => zv = .int .i64 er), (143, fun zv _ => zv = .bool false), (144, fun zv _ => zv = .bool false), (145, fun zv _ => zv = .agg (cellsR m u2).toArray), (146, fun zv _ => zv = .agg (cellsR m u3).toArray), (147, fun zv _ => zv = .bool true), (148, fun zv _ => zv = .bool false), (149, fun zv _ => zv = .bool false), (150, fun zv _ => zv = .bool false), (151, fun zv _ => zv = .agg (cellsR l u).toArray), (152, fun zv _ => zv = .agg (cellsR l u9).toArray), (153, fun zv _ => zv = .bool true), (154, fun zv _ => zv = .bool false), (155, fun zv _ => zv = .bool false), (156, fun zv _ => zv = .bool false), (157, fun zv _ => zv = .agg (cellsR m u2).toArray), (158, fun zv _ => zv = .agg (cellsR l u).toArray), (159, fun zv _ => zv = .bool sb), (160, fun zv _ => zv = .agg (cellsR m u3).toArray), (161, fun zv _ => zv = .agg (cellsR l v).toArray), (162, fun zv _ => zv = .bool sb), (163, fun zv _ => zv = .bool false), (164, fun zv _ => zv = .bool false)]) [] (tabS_out _ _ (by simp only [List.forall_mem_cons]; exact ⟨mono_eqO _ _, mono_eqO _ _, mono_eqO _ _, mono_eqO _ _, mono_eqO _ _, mono_eqO _ _, mono_eqO _ _, mono_eqO _ _, mono_eqO _ _, mono_eqO _ _, mono_eqO _ _, mono_eqO _ _, mono_eqO _ _, mono_eqO _ _, mono_eqO _ _, mono_eqO _ _, mono_eqO _ _, mono_eqO _ _, mono_eqO _ _, mono_eqO _ _, mono_eqO _ _, mono_eqO _ _, mono_eqO _ _, mono_eqO _ _, by simp⟩)) 24 (by kernel_rfl) (by kernel_rfl) (by kernel_rfl) (by kernel_rfl) [] [] rfl rfl (by decide) (by decide) (by decide) trivial ?_
      simp only [List.take_succ_cons, List.take_zero]
      refine ⟨fun wv141 hov141 hSv141 => ?_, fun v141 => ?_⟩
      · clear hSv141
        clear hov141
        go_wp2_with fail
        exact ⟨rfl, _, rfl, fun d hd => by cases hd; exact rfl, Ext.refl _⟩
      simp only [Act.put, List.setIfInBounds_toArray, List.set_cons_zero, List.set_cons_succ]
      refine ⟨fun wv142 hov142 hSv142 => ?_, fun v142 => ?_⟩
      · clear hSv142
        clear hov142
        go_wp2_with fail
        exact ⟨rfl, _, rfl, fun d hd => by cases hd; exact rfl, Ext.refl _⟩
      simp only [Act.put, List.setIfInBounds_toArray, List.set_cons_zero, List.set_cons_succ]
      refine ⟨fun wv143 hov143 hSv143 => ?_, fun v143 => ?_⟩
      · obtain rfl : v141 = .int .i64 er := hSv143 141 (by decide) (by decide)
        obtain rfl : v142 = .int .i64 er := hSv143 142 (by decide) (by decide)
        clear hSv143
        clear hov143
        go_wp2_with fail
        exact ⟨rfl, _, rfl, fun d hd => by cases hd; exact rfl, Ext.refl _⟩
      simp only [Act.put, List.setIfInBounds_toArray, List.set_cons_zero, List.set_cons_succ]
      refine ⟨fun wv144 hov144 hSv144 => ?_, fun v144 => ?_⟩
      · obtain rfl : v143 = .bool false := hSv144 143 (by decide) (by decide)
        clear hSv144
        clear hov144
        go_wp2_with fail
        exact ⟨rfl, _, rfl, fun d hd => by cases hd; exact rfl, Ext.refl _⟩
      simp only [Act.put, List.setIfInBounds_toArray, List.set_cons_zero, List.set_cons_succ]
      refine ⟨fun wv145 hov145 hSv145 => ?_, fun v145 => ?_⟩
      · obtain rfl : v144 = .bool false := hSv145 144 (by decide) (by decide)
        clear hSv145
        have H := kp (H.out.keep [0, 1, 2, 3] (St := []) trivial hov145 (by decide) (by kernel_rfl))
        have HOX := kp hov145
        clear hov145
        go_wp2_with ((with_reducible show wpList _ _ _ (Oper.mk _ (Op.load 51 _) _ _ _ _ :: _) _ _); (first | (refine L_loadG H (by kernel_rfl) 51 _ rfl 0 rfl rfl Try.underlying51 rfl (HZm.out _) ?_) | (refine L_loadG H (by kernel_rfl) 51 _ rfl 1 rfl rfl Try.underlying51 rfl (HZm.out _) ?_) | (refine L_loadG H (by kernel_rfl) 51 _ rfl 2 rfl rfl Try.underlying51 rfl (HZm.out _) ?_) | (refine L_loadG H (by kernel_rfl) 51 _ rfl 3 rfl rfl Try.underlying51 rfl (HZm.out _) ?_) | (refine L_loadG H (by kernel_rfl) 51 _ rfl 4 rfl rfl Try.underlying51 rfl (HZm.out _) ?_) | (refine L_loadG H (by kernel_rfl) 51 _ rfl 5 rfl rfl Try.underlying51 rfl (HZm.out _) ?_)); simp only [Act.put, List.setIfInBounds_toArray, List.set_cons_zero, List.set_cons_succ])
        exact ⟨rfl, _, rfl, fun d hd => by cases hd; exact rfl, Ext.refl _⟩
      simp only [Act.put, List.setIfInBounds_toArray, List.set_cons_zero, List.set_cons_succ]
      refine ⟨fun wv146 hov146 hSv146 => ?_, fun v146 => ?_⟩
      · obtain rfl : v144 = .bool false := hSv146 144 (by decide) (by decide)
        clear hSv146
        have H := kp (H.out.keep [0, 1, 2, 3] (St := []) trivial hov146 (by decide) (by kernel_rfl))
        have HOX := kp hov146
        clear hov146
        go_wp2_with ((with_reducible show wpList _ _ _ (Oper.mk _ (Op.load 51 _) _ _ _ _ :: _) _ _); (first | (refine L_loadG H (by kernel_rfl) 51 _ rfl 0 rfl rfl Try.underlying51 rfl (HZm.out _) ?_) | (refine L_loadG H (by kernel_rfl) 51 _ rfl 1 rfl rfl Try.underlying51 rfl (HZm.out _) ?_) | (refine L_loadG H (by kernel_rfl) 51 _ rfl 2 rfl rfl Try.underlying51 rfl (HZm.out _) ?_) | (refine L_loadG H (by kernel_rfl) 51 _ rfl 3 rfl rfl Try.underlying51 rfl (HZm.out _) ?_) | (refine L_loadG H (by kernel_rfl) 51 _ rfl 4 rfl rfl Try.underlying51 rfl (HZm.out _) ?_) | (refine L_loadG H (by kernel_rfl) 51 _ rfl 5 rfl rfl Try.underlying51 rfl (HZm.out _) ?_)); simp only [Act.put, List.setIfInBounds_toArray, List.set_cons_zero, List.set_cons_succ])
        exact ⟨rfl, _, rfl, fun d hd => by cases hd; exact rfl, Ext.refl _⟩
      simp only [Act.put, List.setIfInBounds_toArray, List.set_cons_zero, List.set_cons_succ]
      refine ⟨fun wv147 hov147 hSv147 => ?_, fun v147 => ?_⟩
      · obtain rfl : v144 = .bool false := hSv147 144 (by decide) (by decide)
        obtain rfl : v145 = .agg (cellsR m u2).toArray := hSv147 145 (by decide) (by decide)
        obtain rfl : v146 = .agg (cellsR m u3).toArray := hSv147 146 (by decide) (by decide)
        clear hSv147
        have H := kp (H.out.keep [0, 1, 2, 3] (St := []) trivial hov147 (by decide) (by kernel_rfl))
        have HOX := kp hov147
        clear hov147
        have HXZ := kp (HOX.out.ext (Ext.refl _) (fun g hg => by cases hg))
        go_wp2_with fail
        refine (HS1.out _ HXZ.out).mono ?_
        rintro e w2 ⟨rfl, hx⟩
        have HXW := kp hx
        clear hx
        go_wp2_with fail
        exact ⟨rfl, _, rfl, fun d hd => by cases hd; exact rfl, HXW.out⟩
      simp only [Act.put, List.setIfInBounds_toArray, List.set_cons_zero, List.set_cons_succ]
      refine ⟨fun wv148 hov148 hSv148 => ?_, fun v148 => ?_⟩
      · obtain rfl : v144 = .bool false := hSv148 144 (by decide) (by decide)
        obtain rfl : v147 = .bool true := hSv148 147 (by decide) (by decide)
        clear hSv148
        clear hov148
        go_wp2_with fail
        exact ⟨rfl, _, rfl, fun d hd => by cases hd; exact rfl, Ext.refl _⟩
      simp only [Act.put, List.setIfInBounds_toArray, List.set_cons_zero, List.set_cons_succ]
      refine ⟨fun wv149 hov149 hSv149 => ?_, fun v149 => ?_⟩
      · obtain rfl : v144 = .bool false := hSv149 144 (by decide) (by decide)
        obtain rfl : v148 = .bool false := hSv149 148 (by decide) (by decide)
        clear hSv149
        clear hov149
        go_wp2_with fail
        exact ⟨rfl, _, rfl, fun d hd => by cases hd; exact rfl, Ext.refl _⟩
      simp only [Act.put, List.setIfInBounds_toArray, List.set_cons_zero, List.set_cons_succ]
      refine ⟨fun wv150 hov150 hSv150 => ?_, fun v150 => ?_⟩
      · obtain rfl : v149 = .bool false := hSv150 149 (by decide) (by decide)
        clear hSv150
        clear hov150
        go_wp2_with fail
        exact ⟨rfl, _, rfl, fun d hd => by cases hd; exact rfl, Ext.refl _⟩
      simp only [Act.put, List.setIfInBounds_toArray, List.set_cons_zero, List.set_cons_succ]
      refine ⟨fun wv151 hov151 hSv151 => ?_, fun v151 => ?_⟩
      · obtain rfl : v150 = .bool false := hSv151 150 (by decide) (by decide)
        clear hSv151
        have H := kp (H.out.keep [0, 1, 2, 3] (St := []) trivial hov151 (by decide) (by kernel_rfl))
        have HOX := kp hov151
        clear hov151
        go_wp2_with ((with_reducible show wpList _ _ _ (Oper.mk _ (Op.load 51 _) _ _ _ _ :: _) _ _); (refine wpList_load_rowG (by kernel_rfl) 51 _ rfl (g5) rfl 51 (cellsR l u).toArray (0, 0) _ (HL5.out.ext H.out.1) Try.underlying51 rfl (HZl.out _) ?_); simp only [Act.put, List.setIfInBounds_toArray, List.set_cons_zero, List.set_cons_succ])
        exact ⟨rfl, _, rfl, fun d hd => by cases hd; exact rfl, Ext.refl _⟩
      simp only [Act.put, List.setIfInBounds_toArray, List.set_cons_zero, List.set_cons_succ]
      refine ⟨fun wv152 hov152 hSv152 => ?_, fun v152 => ?_⟩
      · obtain rfl : v150 = .bool false := hSv152 150 (by decide) (by decide)
        clear hSv152
        have H := kp (H.out.keep [0, 1, 2, 3] (St := []) trivial hov152 (by decide) (by kernel_rfl))
        have HOX := kp hov152
        clear hov152
        go_wp2_with ((with_reducible show wpList _ _ _ (Oper.mk _ (Op.load 51 _) _ _ _ _ :: _) _ _); (first | (refine L_loadG H (by kernel_rfl) 51 _ rfl 0 rfl rfl Try.underlying51 rfl (HZl.out _) ?_) | (refine L_loadG H (by kernel_rfl) 51 _ rfl 1 rfl rfl Try.underlying51 rfl (HZl.out _) ?_) | (refine L_loadG H (by kernel_rfl) 51 _ rfl 2 rfl rfl Try.underlying51 rfl (HZl.out _) ?_) | (refine L_loadG H (by kernel_rfl) 51 _ rfl 3 rfl rfl Try.underlying51 rfl (HZl.out _) ?_) | (refine L_loadG H (by kernel_rfl) 51 _ rfl 4 rfl rfl Try.underlying51 rfl (HZl.out _) ?_) | (refine L_loadG H (by kernel_rfl) 51 _ rfl 5 rfl rfl Try.underlying51 rfl (HZl.out _) ?_)); simp only [Act.put, List.setIfInBounds_toArray, List.set_cons_zero, List.set_cons_succ])
        exact ⟨rfl, _, rfl, fun d hd => by cases hd; exact rfl, Ext.refl _⟩
      simp only [Act.put, List.setIfInBounds_toArray, List.set_cons_zero, List.set_cons_succ]
      refine ⟨fun wv153 hov153 hSv153 => ?_, fun v153 => ?_⟩
      · obtain rfl : v150 = .bool false := hSv153 150 (by decide) (by decide)
        obtain rfl : v151 = .agg (cellsR l u).toArray := hSv153 151 (by decide) (by decide)
        obtain rfl : v152 = .agg (cellsR l u9).toArray := hSv153 152 (by decide) (by decide)
        clear hSv153
        have H := kp (H.out.keep [0, 1, 2, 3] (St := []) trivial hov153 (by decide) (by kernel_rfl))
        have HOX := kp hov153
        clear hov153
        have HXZ := kp (HOX.out.ext (Ext.refl _) (fun g hg => by cases hg))
        go_wp2_with fail
        refine (HS2.out _ HXZ.out).mono ?_
        rintro e w2 ⟨rfl, hx⟩
        have HXW := kp hx
        clear hx
        go_wp2_with fail
        exact ⟨rfl, _, rfl, fun d hd => by cases hd; exact rfl, HXW.out⟩
      simp only [Act.put, List.setIfInBounds_toArray, List.set_cons_zero, List.set_cons_succ]
      refine ⟨fun wv154 hov154 hSv154 => ?_, fun v154 => ?_⟩
      · obtain rfl : v150 = .bool false := hSv154 150 (by decide) (by decide)
        obtain rfl : v153 = .bool true := hSv154 153 (by decide) (by decide)
        clear hSv154
        clear hov154
        go_wp2_with fail
        exact ⟨rfl, _, rfl, fun d hd => by cases hd; exact rfl, Ext.refl _⟩
      simp only [Act.put, List.setIfInBounds_toArray, List.set_cons_zero, List.set_cons_succ]
      refine ⟨fun wv155 hov155 hSv155 => ?_, fun v155 => ?_⟩
      · obtain rfl : v150 = .bool false := hSv155 150 (by decide) (by decide)
        obtain rfl : v154 = .bool false := hSv155 154 (by decide) (by decide)
        clear hSv155
        clear hov155
        go_wp2_with fail
        exact ⟨rfl, _, rfl, fun d hd => by cases hd; exact rfl, Ext.refl _⟩
      simp only [Act.put, List.setIfInBounds_toArray, List.set_cons_zero, List.set_cons_succ]
      refine ⟨fun wv156 hov156 hSv156 => ?_, fun v156 => ?_⟩
      · obtain rfl : v155 = .bool false := hSv156 155 (by decide) (by decide)
        clear hSv156
        clear hov156
        go_wp2_with fail
        exact ⟨rfl, _, rfl, fun d hd => by cases hd; exact rfl, Ext.refl _⟩
      simp only [Act.put, List.setIfInBounds_toArray, List.set_cons_zero, List.set_cons_succ]
      refine ⟨fun wv157 hov157 hSv157 => ?_, fun v157 => ?_⟩
      · obtain rfl : v156 = .bool false := hSv157 156 (by decide) (by decide)
        clear hSv157
        have H := kp (H.out.keep [0, 1, 2, 3] (St := []) trivial hov157 (by decide) (by kernel_rfl))
        have HOX := kp hov157
        clear hov157
        go_wp2_with ((with_reducible show wpList _ _ _ (Oper.mk _ (Op.load 51 _) _ _ _ _ :: _) _ _); (first | (refine L_loadG H (by kernel_rfl) 51 _ rfl 0 rfl rfl Try.underlying51 rfl (HZm.out _) ?_) | (refine L_loadG H (by kernel_rfl) 51 _ rfl 1 rfl rfl Try.underlying51 rfl (HZm.out _) ?_) | (refine L_loadG H (by kernel_rfl) 51 _ rfl 2 rfl rfl Try.underlying51 rfl (HZm.out _) ?_) | (refine L_loadG H (by kernel_rfl) 51 _ rfl 3 rfl rfl Try.underlying51 rfl (HZm.out _) ?_) | (refine L_loadG H (by kernel_rfl) 51 _ rfl 4 rfl rfl Try.underlying51 rfl (HZm.out _) ?_) | (refine L_loadG H (by kernel_rfl) 51 _ rfl 5 rfl rfl Try.underlying51 rfl (HZm.out _) ?_)); simp only [Act.put, List.setIfInBounds_toArray, List.set_cons_zero, List.set_cons_succ])
        exact ⟨rfl, _, rfl, fun d hd => by cases hd; exact rfl, Ext.refl _⟩
      simp only [Act.put, List.setIfInBounds_toArray, List.set_cons_zero, List.set_cons_succ]
      refine ⟨fun wv158 hov158 hSv158 => ?_, fun v158 => ?_⟩
      · obtain rfl : v156 = .bool false := hSv158 156 (by decide) (by decide)
        clear hSv158
        have H := kp (H.out.keep [0, 1, 2, 3] (St := []) trivial hov158 (by decide) (by kernel_rfl))
        have HOX := kp hov158
        clear hov158
        go_wp2_with ((with_reducible show wpList _ _ _ (Oper.mk _ (Op.load 51 _) _ _ _ _ :: _) _ _); (refine wpList_load_rowG (by kernel_rfl) 51 _ rfl (g5) rfl 51 (cellsR l u).toArray (0, 0) _ (HL5.out.ext H.out.1) Try.underlying51 rfl (HZl.out _) ?_); simp only [Act.put, List.setIfInBounds_toArray, List.set_cons_zero, List.set_cons_succ])
        exact ⟨rfl, _, rfl, fun d hd => by cases hd; exact rfl, Ext.refl _⟩
      simp only [Act.put, List.setIfInBounds_toArray, List.set_cons_zero, List.set_cons_succ]
      refine ⟨fun wv159 hov159 hSv159 => ?_, fun v159 => ?_⟩
      · obtain rfl : v156 = .bool false := hSv159 156 (by decide) (by decide)
        obtain rfl : v157 = .agg (cellsR m u2).toArray := hSv159 157 (by decide) (by decide)
        obtain rfl : v158 = .agg (cellsR l u).toArray := hSv159 158 (by decide) (by decide)
        clear hSv159
        have H := kp (H.out.keep [0, 1, 2, 3] (St := []) trivial hov159 (by decide) (by kernel_rfl))
        have HOX := kp hov159
        clear hov159
        have HXZ := kp (HOX.out.ext (Ext.refl _) (fun g hg => by cases hg))
        go_wp2_with fail
        refine (HS3.out _ HXZ.out).mono ?_
        rintro e w2 ⟨rfl, hx⟩
        have HXW := kp hx
        clear hx
        go_wp2_with fail
        exact ⟨rfl, _, rfl, fun d hd => by cases hd; exact rfl, HXW.out⟩
      simp only [Act.put, List.setIfInBounds_toArray, List.set_cons_zero, List.set_cons_succ]
      refine ⟨fun wv160 hov160 hSv160 => ?_, fun v160 => ?_⟩
      · obtain rfl : v156 = .bool false := hSv160 156 (by decide) (by decide)
        clear hSv160
        have H := kp (H.out.keep [0, 1, 2, 3] (St := []) trivial hov160 (by decide) (by kernel_rfl))
        have HOX := kp hov160
        clear hov160
        go_wp2_with ((with_reducible show wpList _ _ _ (Oper.mk _ (Op.load 51 _) _ _ _ _ :: _) _ _); (first | (refine L_loadG H (by kernel_rfl) 51 _ rfl 0 rfl rfl Try.underlying51 rfl (HZm.out _) ?_) | (refine L_loadG H (by kernel_rfl) 51 _ rfl 1 rfl rfl Try.underlying51 rfl (HZm.out _) ?_) | (refine L_loadG H (by kernel_rfl) 51 _ rfl 2 rfl rfl Try.underlying51 rfl (HZm.out _) ?_) | (refine L_loadG H (by kernel_rfl) 51 _ rfl 3 rfl rfl Try.underlying51 rfl (HZm.out _) ?_) | (refine L_loadG H (by kernel_rfl) 51 _ rfl 4 rfl rfl Try.underlying51 rfl (HZm.out _) ?_) | (refine L_loadG H (by kernel_rfl) 51 _ rfl 5 rfl rfl Try.underlying51 rfl (HZm.out _) ?_)); simp only [Act.put, List.setIfInBounds_toArray, List.set_cons_zero, List.set_cons_succ])
        exact ⟨rfl, _, rfl, fun d hd => by cases hd; exact rfl, Ext.refl _⟩
      simp only [Act.put, List.setIfInBounds_toArray, List.set_cons_zero, List.set_cons_succ]
      refine ⟨fun wv161 hov161 hSv161 => ?_, fun v161 => ?_⟩
      · obtain rfl : v156 = .bool false := hSv161 156 (by decide) (by decide)
        clear hSv161
        have H := kp (H.out.keep [0, 1, 2, 3] (St := []) trivial hov161 (by decide) (by kernel_rfl))
        have HOX := kp hov161
        clear hov161
        go_wp2_with ((with_reducible show wpList _ _ _ (Oper.mk _ (Op.load 51 _) _ _ _ _ :: _) _ _); (refine wpList_load_rowG (by kernel_rfl) 51 _ rfl (g6) rfl 51 (cellsR l v).toArray (0, 0) _ (HL6.out.ext H.out.1) Try.underlying51 rfl (HZl.out _) ?_); simp only [Act.put, List.setIfInBounds_toArray, List.set_cons_zero, List.set_cons_succ])
        exact ⟨rfl, _, rfl, fun d hd => by cases hd; exact rfl, Ext.refl _⟩
      simp only [Act.put, List.setIfInBounds_toArray, List.set_cons_zero, List.set_cons_succ]
      refine ⟨fun wv162 hov162 hSv162 => ?_, fun v162 => ?_⟩
      · obtain rfl : v156 = .bool false := hSv162 156 (by decide) (by decide)
        obtain rfl : v160 = .agg (cellsR m u3).toArray := hSv162 160 (by decide) (by decide)
        obtain rfl : v161 = .agg (cellsR l v).toArray := hSv162 161 (by decide) (by decide)
        clear hSv162
        have H := kp (H.out.keep [0, 1, 2, 3] (St := []) trivial hov162 (by decide) (by kernel_rfl))
        have HOX := kp hov162
        clear hov162
        have HXZ := kp (HOX.out.ext (Ext.refl _) (fun g hg => by cases hg))
        go_wp2_with fail
        refine (HS4.out _ HXZ.out).mono ?_
        rintro e w2 ⟨rfl, hx⟩
        have HXW := kp hx
        clear hx
        go_wp2_with fail
        exact ⟨rfl, _, rfl, fun d hd => by cases hd; exact rfl, HXW.out⟩
      simp only [Act.put, List.setIfInBounds_toArray, List.set_cons_zero, List.set_cons_succ]
      refine ⟨fun wv163 hov163 hSv163 => ?_, fun v163 => ?_⟩
      · obtain rfl : v156 = .bool false := hSv163 156 (by decide) (by decide)
        obtain rfl : v159 = .bool sb := hSv163 159 (by decide) (by decide)
        obtain rfl : v162 = .bool sb := hSv163 162 (by decide) (by decide)
        clear hSv163
        clear hov163
        go_wp2_with fail
        exact ⟨rfl, _, rfl, fun d hd => by cases hd; exact rfl, Ext.refl _⟩
      simp only [Act.put, List.setIfInBounds_toArray, List.set_cons_zero, List.set_cons_succ]
      refine ⟨fun wv164 hov164 hSv164 => ?_, fun v164 => ?_⟩
      · obtain rfl : v156 = .bool false := hSv164 156 (by decide) (by decide)
        obtain rfl : v163 = .bool false := hSv164 163 (by decide) (by decide)
        clear hSv164
        clear hov164
        go_wp2_with fail
        exact ⟨rfl, _, rfl, fun d hd => by cases hd; exact rfl, Ext.refl _⟩
      simp only [Act.put, List.setIfInBounds_toArray, List.set_cons_zero, List.set_cons_succ]
      clear H
      intro wn HOX H hfin
      obtain rfl : v141 = .int .i64 er := hfin 141 (by decide)
      obtain rfl : v142 = .int .i64 er := hfin 142 (by decide)
      obtain rfl : v143 = .bool false := hfin 143 (by decide)
      obtain rfl : v144 = .bool false := hfin 144 (by decide)
      obtain rfl : v145 = .agg (cellsR m u2).toArray := hfin 145 (by decide)
      obtain rfl : v146 = .agg (cellsR m u3).toArray := hfin 146 (by decide)
      obtain rfl : v147 = .bool true := hfin 147 (by decide)
      obtain rfl : v148 = .bool false := hfin 148 (by decide)
      obtain rfl : v149 = .bool false := hfin 149 (by decide)
      obtain rfl : v150 = .bool false := hfin 150 (by decide)
      obtain rfl : v151 = .agg (cellsR l u).toArray := hfin 151 (by decide)
      obtain rfl : v152 = .agg (cellsR l u9).toArray := hfin 152 (by decide)
      obtain rfl : v153 = .bool true := hfin 153 (by decide)
      obtain rfl : v154 = .bool false := hfin 154 (by decide)
      obtain rfl : v155 = .bool false := hfin 155 (by decide)
      obtain rfl : v156 = .bool false := hfin 156 (by decide)
      obtain rfl : v157 = .agg (cellsR m u2).toArray := hfin 157 (by decide)
      obtain rfl : v158 = .agg (cellsR l u).toArray := hfin 158 (by decide)
      obtain rfl : v159 = .bool sb := hfin 159 (by decide)
      obtain rfl : v160 = .agg (cellsR m u3).toArray := hfin 160 (by decide)
      obtain rfl : v161 = .agg (cellsR l v).toArray := hfin 161 (by decide)
      obtain rfl : v162 = .bool sb := hfin 162 (by decide)
      obtain rfl : v163 = .bool false := hfin 163 (by decide)
      obtain rfl : v164 = .bool false := hfin 164 (by decide)
      clear hfin
      simp only [List.drop_succ_cons, List.drop_zero]
      simp only [applyS] at H
      have HXN := kp (HOX.out.ext (Ext.refl wt) (fun g hg => by cases hg))
      have HMn := kp (HMt.out.ext HXN.out)
      have HP2n := kp (HP2t.out.ext HXN.out)
      have HP3n := kp (HP3t.out.ext HXN.out)
      clear HS1 HS2 HS3 HS4 hee hsb HMt HP2t HP3t HP9t HXN HOX
      by_cases her : er = 0
      case neg =>
        have he0 : (er == 0) = false := by simp [her]
        go_wp2_with fail
        subst h31
        go_wp2_with fail
        go_roundw
        case rel => exact ⟨j + 1, l, u, v, ks, by omega, by go_num, HL, kp (HW.out.ext H.out.1), HMn⟩
        case measure => simp [intOf]; omega
      subst her
      have HJ := kp (HW.out.join H.out)
      clear H
      have H := HJ
      clear HJ
      simp only [List.cons_append, List.nil_append] at H
      have HB := kp (Bump.start HMn.out.pu HG0.out)
      have HNM := kp (show ∀ g, ks ≠ [] → u.ownBlock = some g → g ∉ [g11, g10, g9, g8, g6, g5, g2] from fun g hne hg hm => by
        have h1 := HM.out.pu.lt hne g hg
        have h2 := HM.out.pu.ge g hg
        simp only [List.mem_cons, List.not_mem_nil, or_false] at hm
        rcases hm with hm | hm | hm | hm | hm | hm | hm
        · have := HLO0.out; dsimp only at this; omega
        · have := HLO1.out; dsimp only at this; omega
        · have := HLO2.out; dsimp only at this; omega
        · have := HLO3.out; dsimp only at this; omega
        · exact HM.out.u6 (by rw [hg, hm])
        · exact HM.out.u5 (by rw [hg, hm])
        · have := HG2.out; omega)
      have HWB := kp (show ∀ g, u.ownBlock = some g → w.heap.size ≤ g from fun g hg => Nat.le_trans HWA.out (HM.out.pu.ge g hg))
      have HLTW := kp (show ∀ g, ks ≠ [] → u.ownBlock = some g → g < wr.heap.size from fun g hne hg => HM.out.pu.lt hne g hg)
      have HPO := kp (show u.oneCell' = true from slot_oneP HM.out.pu)
      have HCP := kp (cellsR_past l u HL.out)
      have HLQ := kp (fun u' => cellsR_len2 l m u u' HL.out HLm.out)
      have HLQ2 := kp (fun u' => cellsR_len2 l m v u' HL.out HLm.out)
      obtain ⟨au, cu, huf⟩ := HM.out.pu.sly.form
      subst huf
      go_wp2_with fail
      subst h31
      go_wp2_with fail
      go_loopw [18] (fun i18 wv => ∃ k : Nat, k ≤ ks.length ∧ i18 = .int .i64 k ∧ Kp (Bump wn wv (.slice au ks.length cu) ks)) (fun i18 _ => ks.length - (intOf i18).toNat)
      case atStart => exact ⟨0, by omega, rfl, HB⟩
      case round =>
        obtain ⟨k, hk, rfl, HBk⟩ := hrel
        obtain ⟨G, hG, ho, hrow⟩ := HBk.out
        have HK := kp (H.out.out ho (fun g hg => HWB.out g (hG g hg).2) (fun g hg => HNM.out g (hG g hg).1 (hG g hg).2))
        by_cases hkn : k < ks.length
        case neg =>
          have HPF := kp ((HP2n.out.out ho (fun g hg => HLTW.out g (hG g hg).1 (hG g hg).2)))
          have HPG := kp ((HP3n.out.out ho (fun g hg => HLTW.out g (hG g hg).1 (hG g hg).2)))
          have hcp := run_load_cell HK.out 5 rfl _ _ HCP.out
          have hkI : ¬ (k : Int) < ks.length := by omega
          clear hG ho hrow H
          have H := HK
          go_wp2_with fail
          clear hcp
          refine region_free H (tabS [(183, fun zv _ => zv = .agg (cellsR m u2).toArray), (184, fun zv _ => zv = .agg (cellsR m u3).toArray)]) [⟨2, 5, g5, 51, cellsR l (.slice au ks.length cu), cellsR m u2⟩, ⟨3, 4, g6, 51, cellsR l v, cellsR m u3⟩] (tabS_out _ _ (by simp only [List.forall_mem_cons]; exact ⟨mono_eqO _ _, mono_eqO _ _, by simp⟩)) 4 (by kernel_rfl) (by kernel_rfl) (by kernel_rfl) (by kernel_rfl) [2, 3] [5, 4] rfl rfl (by decide) (by decide) (by decide) ⟨rfl, rfl, trivial⟩ ?_
          simp only [List.take_succ_cons, List.take_zero]
          refine ⟨fun wv183 hov183 hSv183 => ?_, fun v183 => ?_⟩
          · clear hSv183
            have H := kp (H.out.keep [0, 1, 2, 3, 6] (St := [⟨2, 5, g5, 51, cellsR l (.slice au ks.length cu), cellsR m u2⟩, ⟨3, 4, g6, 51, cellsR l v, cellsR m u3⟩]) ⟨rfl, rfl, trivial⟩ hov183 (by decide) (by kernel_rfl))
            have HOX := kp hov183
            clear hov183
            go_wp2_with ((with_reducible show wpList _ _ _ (Oper.mk _ (Op.load 51 _) _ _ _ _ :: _) _ _); (first | (refine L_load H rfl 51 _ rfl 0 rfl rfl Try.underlying51 rfl (HZm.out _) ?_) | (refine L_load H rfl 51 _ rfl 1 rfl rfl Try.underlying51 rfl (HZm.out _) ?_) | (refine L_load H rfl 51 _ rfl 2 rfl rfl Try.underlying51 rfl (HZm.out _) ?_) | (refine L_load H rfl 51 _ rfl 3 rfl rfl Try.underlying51 rfl (HZm.out _) ?_) | (refine L_load H rfl 51 _ rfl 4 rfl rfl Try.underlying51 rfl (HZm.out _) ?_) | (refine L_load H rfl 51 _ rfl 5 rfl rfl Try.underlying51 rfl (HZm.out _) ?_)); simp only [Act.put, List.setIfInBounds_toArray, List.set_cons_zero, List.set_cons_succ])
            exact ⟨rfl, _, rfl, fun d hd => by cases hd; exact rfl, Ext.refl _⟩
          simp only [Act.put, List.setIfInBounds_toArray, List.set_cons_zero, List.set_cons_succ]
          refine ⟨fun wv184 hov184 hSv184 => ?_, fun v184 => ?_⟩
          · clear hSv184
            have H := kp (H.out.keep [0, 1, 2, 3, 6] (St := [⟨2, 5, g5, 51, cellsR l (.slice au ks.length cu), cellsR m u2⟩, ⟨3, 4, g6, 51, cellsR l v, cellsR m u3⟩]) ⟨rfl, rfl, trivial⟩ hov184 (by decide) (by kernel_rfl))
            have HOX := kp hov184
            clear hov184
            go_wp2_with ((with_reducible show wpList _ _ _ (Oper.mk _ (Op.load 51 _) _ _ _ _ :: _) _ _); (first | (refine L_load H rfl 51 _ rfl 0 rfl rfl Try.underlying51 rfl (HZm.out _) ?_) | (refine L_load H rfl 51 _ rfl 1 rfl rfl Try.underlying51 rfl (HZm.out _) ?_) | (refine L_load H rfl 51 _ rfl 2 rfl rfl Try.underlying51 rfl (HZm.out _) ?_) | (refine L_load H rfl 51 _ rfl 3 rfl rfl Try.underlying51 rfl (HZm.out _) ?_) | (refine L_load H rfl 51 _ rfl 4 rfl rfl Try.underlying51 rfl (HZm.out _) ?_) | (refine L_load H rfl 51 _ rfl 5 rfl rfl Try.underlying51 rfl (HZm.out _) ?_)); simp only [Act.put, List.setIfInBounds_toArray, List.set_cons_zero, List.set_cons_succ])
            exact ⟨rfl, _, rfl, fun d hd => by cases hd; exact rfl, Ext.refl _⟩
          simp only [Act.put, List.setIfInBounds_toArray, List.set_cons_zero, List.set_cons_succ]
          refine ⟨⟨rfl, rfl, fun ws2 hos2 hSs2 hLs2 => ?_⟩, ?_⟩
          · obtain rfl : v183 = .agg (cellsR m u2).toArray := hSs2 183 (by decide) (by decide)
            exact run_sto 51 _ _ rfl rfl rfl hLs2 (HZm.out _) (HLQ.out _) (HOB.out _ _ HU2.out)
          refine ⟨⟨rfl, rfl, fun ws3 hos3 hSs3 hLs3 => ?_⟩, ?_⟩
          · obtain rfl : v184 = .agg (cellsR m u3).toArray := hSs3 184 (by decide) (by decide)
            exact run_sto 51 _ _ rfl rfl rfl hLs3 (HZm.out _) (HLQ2.out _) (HOB.out _ _ HU3.out)
          clear H
          intro w36 HOX H hfin
          obtain rfl : v183 = .agg (cellsR m u2).toArray := hfin 183 (by decide)
          obtain rfl : v184 = .agg (cellsR m u3).toArray := hfin 184 (by decide)
          clear hfin
          simp only [List.drop_succ_cons, List.drop_zero]
          simp only [applyS] at H
          simp only [List.set_cons_zero, List.set_cons_succ] at H
          have HL56 := kp (show ∀ g ∈ [g5, g6], g < _ from fun g hg => by
            simp only [List.mem_cons, List.not_mem_nil, or_false] at hg
            rcases hg with rfl | rfl
            · exact HL5.out.lt
            · exact HL6.out.lt)
          have HPFx := kp (HPF.out.out HOX.out HL56.out)
          have HPGx := kp (HPG.out.out HOX.out HL56.out)
          have HBW := kp (Nat.le_of_lt (Nat.lt_of_le_of_lt HG5.out HL5.out.lt))
          go_wp2_with fail
          go_roundw
          case rel => exact ⟨j + 1, m, u2, u3, ks2, by omega, by go_num, HLm, kp H.out.tail.tail.tail.tail, kp ⟨HPFx.out.base HBW.out, HPGx.out.base HBW.out, HPF.out.sep HL5.out.lt, HPF.out.sep HL6.out.lt, HPG.out.sep HL5.out.lt, HPG.out.sep HL6.out.lt, HN2.out⟩⟩
          case measure => simp [intOf]; omega
        have hne : ks ≠ [] := by intro e; rw [e] at hkn; simp at hkn
        have hlen40 : ks.length ≤ 40 := HN40.out
        obtain ⟨bu, uo, uc, ut, cs, hu, hlc, hcs⟩ := hrow hne
        cases hu
        have HK2 := kp (HK.out.addN (HNM.out bu hne rfl) (HWB.out bu rfl) hlc)
        obtain ⟨z, hz⟩ := hcs (k * 16) (by omega)
        have hcp := run_load_cell HK2.out 6 rfl _ _ HCP.out
        have hcb := run_load_cell HK2.out 0 rfl _ _ hz
        have HGk := kp hG
        have HOk2 := kp ho
        have HCS := kp hcs
        have HFIT := kp (List.getElem?_eq_some_iff.1 hz).1
        have HZc := kp hz
        clear hG ho hrow hz hcs hlc H
        have H := HK2
        have hkI : (k : Int) < ks.length := by omega
        have HZ8 := kp (show (Try.prog.info? 5).map (·.size) = some 1 from by kernel_rfl)
        go_wp2_with fail
        clear hcp hcb
        refine region_free H (tabS [(174, fun zv _ => zv = .pointer (some ⟨g5, 144, none⟩)), (175, fun zv _ => zv = .slice (some ⟨bu, uo, none⟩) ks.length cu), (176, fun zv _ => zv = .int .i64 k), (177, fun zv _ => zv = .pointer (some ⟨bu, uo + k * 16, none⟩)), (178, fun zv _ => zv = .pointer (some ⟨bu, uo + k * 16, none⟩)), (179, fun zv _ => zv = .int .u8 z), (180, fun zv _ => ∃ y, zv = .int .u8 y), (181, fun zv _ => zv = .pointer (some ⟨bu, uo + k * 16, none⟩)), (182, fun zv _ => zv = .pointer (some ⟨bu, uo + k * 16, none⟩))]) [] (tabS_out _ _ (by simp only [List.forall_mem_cons]; exact ⟨mono_eqO _ _, mono_eqO _ _, mono_eqO _ _, mono_eqO _ _, mono_eqO _ _, mono_eqO _ _, (fun _ _ _ h _ => h), mono_eqO _ _, mono_eqO _ _, by simp⟩)) 9 (by kernel_rfl) (by kernel_rfl) (by kernel_rfl) (by kernel_rfl) [] [] rfl rfl (by decide) (by decide) (by decide) trivial ?_
        simp only [List.take_succ_cons, List.take_zero]
        refine ⟨fun wv174 hov174 hSv174 => ?_, fun v174 => ?_⟩
        · clear hSv174
          clear hov174
          go_wp2_with fail
          exact ⟨rfl, _, rfl, fun d hd => by cases hd; exact rfl, Ext.refl _⟩
        simp only [Act.put, List.setIfInBounds_toArray, List.set_cons_zero, List.set_cons_succ]
        refine ⟨fun wv175 hov175 hSv175 => ?_, fun v175 => ?_⟩
        · obtain rfl : v174 = .pointer (some ⟨g5, 144, none⟩) := hSv175 174 (by decide) (by decide)
          clear hSv175
          have H := kp (H.out.keep [0, 1, 2, 3, 4, 5, 6, 7] (St := []) trivial hov175 (by decide) (by kernel_rfl))
          have HOX := kp hov175
          clear hov175
          have hc := run_load_cell H.out 6 rfl _ _ HCP.out
          go_wp2_with fail
          exact ⟨rfl, _, rfl, fun d hd => by cases hd; exact rfl, Ext.refl _⟩
        simp only [Act.put, List.setIfInBounds_toArray, List.set_cons_zero, List.set_cons_succ]
        refine ⟨fun wv176 hov176 hSv176 => ?_, fun v176 => ?_⟩
        · clear hSv176
          clear hov176
          go_wp2_with fail
          exact ⟨rfl, _, rfl, fun d hd => by cases hd; exact rfl, Ext.refl _⟩
        simp only [Act.put, List.setIfInBounds_toArray, List.set_cons_zero, List.set_cons_succ]
        refine ⟨fun wv177 hov177 hSv177 => ?_, fun v177 => ?_⟩
        · obtain rfl : v175 = .slice (some ⟨bu, uo, none⟩) ks.length cu := hSv177 175 (by decide) (by decide)
          obtain rfl : v176 = .int .i64 k := hSv177 176 (by decide) (by decide)
          clear hSv177
          clear hov177
          go_wp2_with fail
          exact ⟨rfl, _, rfl, fun d hd => by cases hd; exact rfl, Ext.refl _⟩
        simp only [Act.put, List.setIfInBounds_toArray, List.set_cons_zero, List.set_cons_succ]
        refine ⟨fun wv178 hov178 hSv178 => ?_, fun v178 => ?_⟩
        · obtain rfl : v177 = .pointer (some ⟨bu, uo + k * 16, none⟩) := hSv178 177 (by decide) (by decide)
          clear hSv178
          clear hov178
          go_wp2_with fail
          exact ⟨rfl, _, rfl, fun d hd => by cases hd; exact rfl, Ext.refl _⟩
        simp only [Act.put, List.setIfInBounds_toArray, List.set_cons_zero, List.set_cons_succ]
        refine ⟨fun wv179 hov179 hSv179 => ?_, fun v179 => ?_⟩
        · obtain rfl : v178 = .pointer (some ⟨bu, uo + k * 16, none⟩) := hSv179 178 (by decide) (by decide)
          clear hSv179
          have H := kp (H.out.keep [0, 1, 2, 3, 4, 5, 6, 7] (St := []) trivial hov179 (by decide) (by kernel_rfl))
          have HOX := kp hov179
          clear hov179
          have hc := run_load_cell H.out 0 rfl _ _ HZc.out
          go_wp2_with fail
          exact ⟨rfl, _, rfl, fun d hd => by cases hd; exact rfl, Ext.refl _⟩
        simp only [Act.put, List.setIfInBounds_toArray, List.set_cons_zero, List.set_cons_succ]
        refine ⟨fun wv180 hov180 hSv180 => ?_, fun v180 => ?_⟩
        · obtain rfl : v179 = .int .u8 z := hSv180 179 (by decide) (by decide)
          clear hSv180
          have H := kp (H.out.keep [0, 1, 2, 3, 4, 5, 6, 7] (St := []) trivial hov180 (by decide) (by kernel_rfl))
          have HOX := kp hov180
          clear hov180
          go_wp2_with fail
          exact ⟨rfl, _, rfl, fun d hd => by cases hd; exact ⟨_, rfl⟩, Ext.refl _⟩
        simp only [Act.put, List.setIfInBounds_toArray, List.set_cons_zero, List.set_cons_succ]
        refine ⟨fun wv181 hov181 hSv181 => ?_, fun v181 => ?_⟩
        · obtain rfl : v175 = .slice (some ⟨bu, uo, none⟩) ks.length cu := hSv181 175 (by decide) (by decide)
          obtain rfl : v176 = .int .i64 k := hSv181 176 (by decide) (by decide)
          clear hSv181
          clear hov181
          go_wp2_with fail
          exact ⟨rfl, _, rfl, fun d hd => by cases hd; exact rfl, Ext.refl _⟩
        simp only [Act.put, List.setIfInBounds_toArray, List.set_cons_zero, List.set_cons_succ]
        refine ⟨fun wv182 hov182 hSv182 => ?_, fun v182 => ?_⟩
        · obtain rfl : v181 = .pointer (some ⟨bu, uo + k * 16, none⟩) := hSv182 181 (by decide) (by decide)
          clear hSv182
          clear hov182
          go_wp2_with fail
          exact ⟨rfl, _, rfl, fun d hd => by cases hd; exact rfl, Ext.refl _⟩
        simp only [Act.put, List.setIfInBounds_toArray, List.set_cons_zero, List.set_cons_succ]
        clear H
        intro w35 HOX H hfin
        obtain rfl : v174 = .pointer (some ⟨g5, 144, none⟩) := hfin 174 (by decide)
        obtain rfl : v175 = .slice (some ⟨bu, uo, none⟩) ks.length cu := hfin 175 (by decide)
        obtain rfl : v176 = .int .i64 k := hfin 176 (by decide)
        obtain rfl : v177 = .pointer (some ⟨bu, uo + k * 16, none⟩) := hfin 177 (by decide)
        obtain rfl : v178 = .pointer (some ⟨bu, uo + k * 16, none⟩) := hfin 178 (by decide)
        obtain rfl : v179 = .int .u8 z := hfin 179 (by decide)
        have F180 := kp (show ∃ y, v180 = .int .u8 y from hfin 180 (by decide))
        obtain rfl : v181 = .pointer (some ⟨bu, uo + k * 16, none⟩) := hfin 181 (by decide)
        obtain rfl : v182 = .pointer (some ⟨bu, uo + k * 16, none⟩) := hfin 182 (by decide)
        clear hfin
        simp only [List.drop_succ_cons, List.drop_zero]
        simp only [applyS] at H
        have HXN := kp (HOX.out.ext (Ext.refl wr) (fun g hg => by cases hg))
        obtain ⟨y, rfl⟩ := F180.out
        go_wp2_with ((with_reducible show wpList _ _ _ (Oper.mk none (Op.store 5 _ _) _ _ _ _ :: _) _ _); (first | (refine L_cell H rfl rfl 5 _ _ rfl 0 rfl (uo + k * 16) rfl (.int .u8 y) rfl (rfl) (HZ8.out) (HFIT.out) (cs.set (uo + k * 16) (.int .u8 y)) (rfl) ?_; clear H; intro wq HWwq H; simp only [List.set_cons_zero] at H) | (refine L_cell H rfl rfl 5 _ _ rfl 1 rfl (uo + k * 16) rfl (.int .u8 y) rfl (rfl) (HZ8.out) (HFIT.out) (cs.set (uo + k * 16) (.int .u8 y)) (rfl) ?_; clear H; intro wq HWwq H; simp only [List.set_cons_succ, List.set_cons_zero] at H) | (refine L_cell H rfl rfl 5 _ _ rfl 2 rfl (uo + k * 16) rfl (.int .u8 y) rfl (rfl) (HZ8.out) (HFIT.out) (cs.set (uo + k * 16) (.int .u8 y)) (rfl) ?_; clear H; intro wq HWwq H; simp only [List.set_cons_succ, List.set_cons_zero] at H) | (refine L_cell H rfl rfl 5 _ _ rfl 3 rfl (uo + k * 16) rfl (.int .u8 y) rfl (rfl) (HZ8.out) (HFIT.out) (cs.set (uo + k * 16) (.int .u8 y)) (rfl) ?_; clear H; intro wq HWwq H; simp only [List.set_cons_succ, List.set_cons_zero] at H) | (refine L_cell H rfl rfl 5 _ _ rfl 4 rfl (uo + k * 16) rfl (.int .u8 y) rfl (rfl) (HZ8.out) (HFIT.out) (cs.set (uo + k * 16) (.int .u8 y)) (rfl) ?_; clear H; intro wq HWwq H; simp only [List.set_cons_succ, List.set_cons_zero] at H) | (refine L_cell H rfl rfl 5 _ _ rfl 5 rfl (uo + k * 16) rfl (.int .u8 y) rfl (rfl) (HZ8.out) (HFIT.out) (cs.set (uo + k * 16) (.int .u8 y)) (rfl) ?_; clear H; intro wq HWwq H; simp only [List.set_cons_succ, List.set_cons_zero] at H)))
        go_roundw
        case rel => exact ⟨k + 1, by omega, by go_num, kp (Bump.step hne HGk.out (HOk2.out.trans (Out.of_ext _ HXN.out)) (H.out.at 0 rfl) HCS.out HWwq.out)⟩
        case measure => simp [intOf]; omega
    have e0 : (o.kind == 0#8) = false := by simp [hk0]
    by_cases hk1 : o.kind = 1#8
    · have e1 : (wI o.kind == 1) = true := by rw [hk1]; rfl
      have HQ := kp (drop_okR (slot := o.slot) HL.out HN40.out)
      have HIa := kp (drop_any l HL.out u ks wa.heap.size (Nat.le_trans HN40.out (by decide)) o.slot _ (HM.out.pu.ext H.out.1))
      have HIb := kp (fun w' (h : Ext wr w') => rdrop_any l HL.out v ks wa.heap.size (Nat.le_trans HN40.out (by decide)) o.slot w' (HM.out.pv.ext h))
      generalize dropF l ks o.slot = q at HQ HIa HIb
      obtain ⟨⟨m, ks2⟩, er⟩ := q
      have HLm := kp HQ.out.1
      have HN2 := kp HQ.out.2
      have HZm := kp (fun u => sizeR m u HLm.out)
      have HALb := kp H.out.allLt
      have HSb := kp H.out.1.size
      subst h13
      go_wp2_with (first | ((with_reducible show wpList _ _ _ (Oper.mk _ (Op.load 51 _) _ _ _ _ :: _) _ _); (refine wpList_load_rowG (by kernel_rfl) 51 _ rfl (g5) rfl 51 (cellsR l u).toArray (0, 0) _ (HL5.out.ext H.out.1) Try.underlying51 rfl (HZl.out _) ?_); simp only [Act.put, List.setIfInBounds_toArray, List.set_cons_zero, List.set_cons_succ]) | ((with_reducible show wpList _ _ _ (Oper.mk _ (Op.load 45 _) _ _ _ _ :: _) _ _); (first | (refine L_sub H rfl 45 _ rfl 0 rfl (4) rfl (o.key.map V8) (HO4.out) Try.underlying45 rfl (HZKl.out) ?_) | (refine L_sub H rfl 45 _ rfl 1 rfl (4) rfl (o.key.map V8) (HO4.out) Try.underlying45 rfl (HZKl.out) ?_) | (refine L_sub H rfl 45 _ rfl 2 rfl (4) rfl (o.key.map V8) (HO4.out) Try.underlying45 rfl (HZKl.out) ?_) | (refine L_sub H rfl 45 _ rfl 3 rfl (4) rfl (o.key.map V8) (HO4.out) Try.underlying45 rfl (HZKl.out) ?_) | (refine L_sub H rfl 45 _ rfl 4 rfl (4) rfl (o.key.map V8) (HO4.out) Try.underlying45 rfl (HZKl.out) ?_) | (refine L_sub H rfl 45 _ rfl 5 rfl (4) rfl (o.key.map V8) (HO4.out) Try.underlying45 rfl (HZKl.out) ?_)); simp only [Act.put, List.setIfInBounds_toArray, List.set_cons_zero, List.set_cons_succ]))
      refine HIa.out.mono ?_
      rintro e2 wi ⟨u2, rfl, hp2, hx⟩
      have HP2 := kp hp2
      have HU2 := kp (slot_oneP hp2)
      clear hp2
      have H2 := kp (H.out.ext hx); have HXC := kp hx; clear H hx; have H := H2; clear H2
      have HX1 := HXC
      clear hc0 hc1 hc2 hc3 HXC
      dsimp only
      go_wp2_with (first | (((with_reducible show wpList _ _ _ (Oper.mk none (Op.store 51 _ _) _ _ _ _ :: _) _ _); (first | (refine L_store H rfl rfl 51 _ _ rfl 0 rfl rfl (cellsR m u2) rfl (HZm.out _) (HLZ.out _ _ HLm.out) (HOB.out _ _ HU2.out) ?_; clear H; intro wz HWwz H; simp only [List.set_cons_zero] at H) | (refine L_store H rfl rfl 51 _ _ rfl 1 rfl rfl (cellsR m u2) rfl (HZm.out _) (HLZ.out _ _ HLm.out) (HOB.out _ _ HU2.out) ?_; clear H; intro wz HWwz H; simp only [List.set_cons_succ, List.set_cons_zero] at H) | (refine L_store H rfl rfl 51 _ _ rfl 2 rfl rfl (cellsR m u2) rfl (HZm.out _) (HLZ.out _ _ HLm.out) (HOB.out _ _ HU2.out) ?_; clear H; intro wz HWwz H; simp only [List.set_cons_succ, List.set_cons_zero] at H) | (refine L_store H rfl rfl 51 _ _ rfl 3 rfl rfl (cellsR m u2) rfl (HZm.out _) (HLZ.out _ _ HLm.out) (HOB.out _ _ HU2.out) ?_; clear H; intro wz HWwz H; simp only [List.set_cons_succ, List.set_cons_zero] at H) | (refine L_store H rfl rfl 51 _ _ rfl 4 rfl rfl (cellsR m u2) rfl (HZm.out _) (HLZ.out _ _ HLm.out) (HOB.out _ _ HU2.out) ?_; clear H; intro wz HWwz H; simp only [List.set_cons_succ, List.set_cons_zero] at H) | (refine L_store H rfl rfl 51 _ _ rfl 5 rfl rfl (cellsR m u2) rfl (HZm.out _) (HLZ.out _ _ HLm.out) (HOB.out _ _ HU2.out) ?_; clear H; intro wz HWwz H; simp only [List.set_cons_succ, List.set_cons_zero] at H))); have hc1 := run_load_cell H.out 3 rfl _ _ HO1.out; have hc2 := run_load_cell H.out 3 rfl _ _ HO2.out; have hc3 := run_load_cell H.out 3 rfl _ _ HO3.out) | ((with_reducible show wpList _ _ _ (Oper.mk _ (Op.load 51 _) _ _ _ _ :: _) _ _); (refine wpList_load_rowG (by kernel_rfl) 51 _ rfl (g6) rfl 51 (cellsR l v).toArray (0, 0) _ (HL6.out.ext H.out.1) Try.underlying51 rfl (HZl.out _) ?_); simp only [Act.put, List.setIfInBounds_toArray, List.set_cons_zero, List.set_cons_succ]) | ((with_reducible show wpList _ _ _ (Oper.mk _ (Op.load 45 _) _ _ _ _ :: _) _ _); (first | (refine L_sub H rfl 45 _ rfl 0 rfl (4) rfl (o.key.map V8) (HO4.out) Try.underlying45 rfl (HZKl.out) ?_) | (refine L_sub H rfl 45 _ rfl 1 rfl (4) rfl (o.key.map V8) (HO4.out) Try.underlying45 rfl (HZKl.out) ?_) | (refine L_sub H rfl 45 _ rfl 2 rfl (4) rfl (o.key.map V8) (HO4.out) Try.underlying45 rfl (HZKl.out) ?_) | (refine L_sub H rfl 45 _ rfl 3 rfl (4) rfl (o.key.map V8) (HO4.out) Try.underlying45 rfl (HZKl.out) ?_) | (refine L_sub H rfl 45 _ rfl 4 rfl (4) rfl (o.key.map V8) (HO4.out) Try.underlying45 rfl (HZKl.out) ?_) | (refine L_sub H rfl 45 _ rfl 5 rfl (4) rfl (o.key.map V8) (HO4.out) Try.underlying45 rfl (HZKl.out) ?_)); simp only [Act.put, List.setIfInBounds_toArray, List.set_cons_zero, List.set_cons_succ]))
      refine (HIb.out _ H.out.1).mono ?_
      rintro e3 wj ⟨u3, rfl, hp3, hx⟩
      have HP3 := kp hp3
      have HU3 := kp (slot_oneP hp3)
      clear hp3
      have HAL3 := kp H.out.allLt
      have HS3b := kp H.out.1.size
      have H2 := kp (H.out.ext hx); have HXC := kp hx; clear H hx; have H := H2; clear H2
      clear hc1 hc2 hc3
      dsimp only
      go_wp2_with (first | (((with_reducible show wpList _ _ _ (Oper.mk none (Op.store 51 _ _) _ _ _ _ :: _) _ _); (first | (refine L_store H rfl rfl 51 _ _ rfl 0 rfl rfl (cellsR m u3) rfl (HZm.out _) (HLZ.out _ _ HLm.out) (HOB.out _ _ HU3.out) ?_; clear H; intro wt HWwt H; simp only [List.set_cons_zero] at H) | (refine L_store H rfl rfl 51 _ _ rfl 1 rfl rfl (cellsR m u3) rfl (HZm.out _) (HLZ.out _ _ HLm.out) (HOB.out _ _ HU3.out) ?_; clear H; intro wt HWwt H; simp only [List.set_cons_succ, List.set_cons_zero] at H) | (refine L_store H rfl rfl 51 _ _ rfl 2 rfl rfl (cellsR m u3) rfl (HZm.out _) (HLZ.out _ _ HLm.out) (HOB.out _ _ HU3.out) ?_; clear H; intro wt HWwt H; simp only [List.set_cons_succ, List.set_cons_zero] at H) | (refine L_store H rfl rfl 51 _ _ rfl 3 rfl rfl (cellsR m u3) rfl (HZm.out _) (HLZ.out _ _ HLm.out) (HOB.out _ _ HU3.out) ?_; clear H; intro wt HWwt H; simp only [List.set_cons_succ, List.set_cons_zero] at H) | (refine L_store H rfl rfl 51 _ _ rfl 4 rfl rfl (cellsR m u3) rfl (HZm.out _) (HLZ.out _ _ HLm.out) (HOB.out _ _ HU3.out) ?_; clear H; intro wt HWwt H; simp only [List.set_cons_succ, List.set_cons_zero] at H) | (refine L_store H rfl rfl 51 _ _ rfl 5 rfl rfl (cellsR m u3) rfl (HZm.out _) (HLZ.out _ _ HLm.out) (HOB.out _ _ HU3.out) ?_; clear H; intro wt HWwt H; simp only [List.set_cons_succ, List.set_cons_zero] at H)))))
      have HO23 := kp (((HWwz.out.out (G := [g10, g11]) (by simp)).trans (Out.of_ext _ HXC.out)).trans (HWwt.out.out (by simp)))
      have HP2t := kp ((HP2.out.out HO23.out (fun g hg => HALb.out g (by simp at hg; rcases hg with rfl | rfl <;> simp))).base HSb.out)
      have HP3t := kp ((HP3.out.out (HWwt.out.out (G := [g11]) (by simp)) (fun g hg => HAL3.out g (by simp at hg; simp [hg]))).base HS3b.out)
      have HP9t := kp (HP9b.out.outN ((Out.of_ext _ (HE911.out.trans HX1.out)).trans HO23.out) (fun g hg => by
        simp only [List.mem_cons, List.not_mem_nil, or_false] at hg
        rcases hg with rfl | rfl
        · exact HS10.out
        · exact HS11.out))
      clear HO23 HP2 HP3 HP9b HALb HAL3 HSb HS3b HX1 HXC
      have HMt := kp (HM.out.ext H.out.1)
      have HLO0 := kp (H.out.le 0 rfl)
      have HLO1 := kp (H.out.le 1 rfl)
      have HLO2 := kp (H.out.le 2 rfl)
      have HLO3 := kp (H.out.le 3 rfl)
      have HS1 := kp (fun w' (h : Ext wt w') => rsame_P m HLm.out u2 u3 ks2 _ _ (Nat.le_trans HN2.out (by decide)) w' (HP2t.out.ext h) (HP3t.out.ext h))
      have HS2 := kp (fun w' (h : Ext wt w') => rsame_P l HL.out u u9 ks _ _ (Nat.le_trans HN40.out (by decide)) w' (HMt.out.pu.ext h) (HP9t.out.ext h))
      have HS3 := kp (fun w' (h : Ext wt w') => same_any m l HLm.out HL.out u2 u ks2 ks (Nat.le_trans HN2.out (by decide)) (Nat.le_trans HN40.out (by decide)) w' (HP2t.out.ext h).sly (HMt.out.pu.ext h).sly)
      have HS4 := kp (fun w' (h : Ext wt w') => rsame_any m l HLm.out HL.out u3 v ks2 ks (Nat.le_trans HN2.out (by decide)) (Nat.le_trans HN40.out (by decide)) w' (HP3t.out.ext h).sly (HMt.out.pv.ext h).sly)
      generalize sameF m l ks2 ks = sb at HS3 HS4
      have hee : (er != er) = false := by simp
      have hsb : (sb != sb) = false := by simp
      subst h29
      refine region_free H (tabS [(141, fun zv _ => zv = .int .i64 er), (142, fun zv _ => zv = .int .i64 er), (143, fun zv _ => zv = .bool false), (144, fun zv _ => zv = .bool false), (145, fun zv _ => zv = .agg (cellsR m u2).toArray), (146, fun zv _ => zv = .agg (cellsR m u3).toArray), (147, fun zv _ => zv = .bool true), (148, fun zv _ => zv = .bool false), (149, fun zv _ => zv = .bool false), (150, fun zv _ => zv = .bool false), (151, fun zv _ => zv = .agg (cellsR l u).toArray), (152, fun zv _ => zv = .agg (cellsR l u9).toArray), (153, fun zv _ => zv = .bool true), (154, fun zv _ => zv = .bool false), (155, fun zv _ => zv = .bool false), (156, fun zv _ => zv = .bool false), (157, fun zv _ => zv = .agg (cellsR m u2).toArray), (158, fun zv _ => zv = .agg (cellsR l u).toArray), (159, fun zv _ => zv = .bool sb), (160, fun zv _ => zv = .agg (cellsR m u3).toArray), (161, fun zv _ => zv = .agg (cellsR l v).toArray), (162, fun zv _ => zv = .bool sb), (163, fun zv _ => zv = .bool false), (164, fun zv _ => zv = .bool false)]) [] (tabS_out _ _ (by simp only [List.forall_mem_cons]; exact ⟨mono_eqO _ _, mono_eqO _ _, mono_eqO _ _, mono_eqO _ _, mono_eqO _ _, mono_eqO _ _, mono_eqO _ _, mono_eqO _ _, mono_eqO _ _, mono_eqO _ _, mono_eqO _ _, mono_eqO _ _, mono_eqO _ _, mono_eqO _ _, mono_eqO _ _, mono_eqO _ _, mono_eqO _ _, mono_eqO _ _, mono_eqO _ _, mono_eqO _ _, mono_eqO _ _, mono_eqO _ _, mono_eqO _ _, mono_eqO _ _, by simp⟩)) 24 (by kernel_rfl) (by kernel_rfl) (by kernel_rfl) (by kernel_rfl) [] [] rfl rfl (by decide) (by decide) (by decide) trivial ?_
      simp only [List.take_succ_cons, List.take_zero]
      refine ⟨fun wv141 hov141 hSv141 => ?_, fun v141 => ?_⟩
      · clear hSv141
        clear hov141
        go_wp2_with fail
        exact ⟨rfl, _, rfl, fun d hd => by cases hd; exact rfl, Ext.refl _⟩
      simp only [Act.put, List.setIfInBounds_toArray, List.set_cons_zero, List.set_cons_succ]
      refine ⟨fun wv142 hov142 hSv142 => ?_, fun v142 => ?_⟩
      · clear hSv142
        clear hov142
        go_wp2_with fail
        exact ⟨rfl, _, rfl, fun d hd => by cases hd; exact rfl, Ext.refl _⟩
      simp only [Act.put, List.setIfInBounds_toArray, List.set_cons_zero, List.set_cons_succ]
      refine ⟨fun wv143 hov143 hSv143 => ?_, fun v143 => ?_⟩
      · obtain rfl : v141 = .int .i64 er := hSv143 141 (by decide) (by decide)
        obtain rfl : v142 = .int .i64 er := hSv143 142 (by decide) (by decide)
        clear hSv143
        clear hov143
        go_wp2_with fail
        exact ⟨rfl, _, rfl, fun d hd => by cases hd; exact rfl, Ext.refl _⟩
      simp only [Act.put, List.setIfInBounds_toArray, List.set_cons_zero, List.set_cons_succ]
      refine ⟨fun wv144 hov144 hSv144 => ?_, fun v144 => ?_⟩
      · obtain rfl : v143 = .bool false := hSv144 143 (by decide) (by decide)
        clear hSv144
        clear hov144
        go_wp2_with fail
        exact ⟨rfl, _, rfl, fun d hd => by cases hd; exact rfl, Ext.refl _⟩
      simp only [Act.put, List.setIfInBounds_toArray, List.set_cons_zero, List.set_cons_succ]
      refine ⟨fun wv145 hov145 hSv145 => ?_, fun v145 => ?_⟩
      · obtain rfl : v144 = .bool false := hSv145 144 (by decide) (by decide)
        clear hSv145
        have H := kp (H.out.keep [0, 1, 2, 3] (St := []) trivial hov145 (by decide) (by kernel_rfl))
        have HOX := kp hov145
        clear hov145
        go_wp2_with ((with_reducible show wpList _ _ _ (Oper.mk _ (Op.load 51 _) _ _ _ _ :: _) _ _); (first | (refine L_loadG H (by kernel_rfl) 51 _ rfl 0 rfl rfl Try.underlying51 rfl (HZm.out _) ?_) | (refine L_loadG H (by kernel_rfl) 51 _ rfl 1 rfl rfl Try.underlying51 rfl (HZm.out _) ?_) | (refine L_loadG H (by kernel_rfl) 51 _ rfl 2 rfl rfl Try.underlying51 rfl (HZm.out _) ?_) | (refine L_loadG H (by kernel_rfl) 51 _ rfl 3 rfl rfl Try.underlying51 rfl (HZm.out _) ?_) | (refine L_loadG H (by kernel_rfl) 51 _ rfl 4 rfl rfl Try.underlying51 rfl (HZm.out _) ?_) | (refine L_loadG H (by kernel_rfl) 51 _ rfl 5 rfl rfl Try.underlying51 rfl (HZm.out _) ?_)); simp only [Act.put, List.setIfInBounds_toArray, List.set_cons_zero, List.set_cons_succ])
        exact ⟨rfl, _, rfl, fun d hd => by cases hd; exact rfl, Ext.refl _⟩
      simp only [Act.put, List.setIfInBounds_toArray, List.set_cons_zero, List.set_cons_succ]
      refine ⟨fun wv146 hov146 hSv146 => ?_, fun v146 => ?_⟩
      · obtain rfl : v144 = .bool false := hSv146 144 (by decide) (by decide)
        clear hSv146
        have H := kp (H.out.keep [0, 1, 2, 3] (St := []) trivial hov146 (by decide) (by kernel_rfl))
        have HOX := kp hov146
        clear hov146
        go_wp2_with ((with_reducible show wpList _ _ _ (Oper.mk _ (Op.load 51 _) _ _ _ _ :: _) _ _); (first | (refine L_loadG H (by kernel_rfl) 51 _ rfl 0 rfl rfl Try.underlying51 rfl (HZm.out _) ?_) | (refine L_loadG H (by kernel_rfl) 51 _ rfl 1 rfl rfl Try.underlying51 rfl (HZm.out _) ?_) | (refine L_loadG H (by kernel_rfl) 51 _ rfl 2 rfl rfl Try.underlying51 rfl (HZm.out _) ?_) | (refine L_loadG H (by kernel_rfl) 51 _ rfl 3 rfl rfl Try.underlying51 rfl (HZm.out _) ?_) | (refine L_loadG H (by kernel_rfl) 51 _ rfl 4 rfl rfl Try.underlying51 rfl (HZm.out _) ?_) | (refine L_loadG H (by kernel_rfl) 51 _ rfl 5 rfl rfl Try.underlying51 rfl (HZm.out _) ?_)); simp only [Act.put, List.setIfInBounds_toArray, List.set_cons_zero, List.set_cons_succ])
        exact ⟨rfl, _, rfl, fun d hd => by cases hd; exact rfl, Ext.refl _⟩
      simp only [Act.put, List.setIfInBounds_toArray, List.set_cons_zero, List.set_cons_succ]
      refine ⟨fun wv147 hov147 hSv147 => ?_, fun v147 => ?_⟩
      · obtain rfl : v144 = .bool false := hSv147 144 (by decide) (by decide)
        obtain rfl : v145 = .agg (cellsR m u2).toArray := hSv147 145 (by decide) (by decide)
        obtain rfl : v146 = .agg (cellsR m u3).toArray := hSv147 146 (by decide) (by decide)
        clear hSv147
        have H := kp (H.out.keep [0, 1, 2, 3] (St := []) trivial hov147 (by decide) (by kernel_rfl))
        have HOX := kp hov147
        clear hov147
        have HXZ := kp (HOX.out.ext (Ext.refl _) (fun g hg => by cases hg))
        go_wp2_with fail
        refine (HS1.out _ HXZ.out).mono ?_
        rintro e w2 ⟨rfl, hx⟩
        have HXW := kp hx
        clear hx
        go_wp2_with fail
        exact ⟨rfl, _, rfl, fun d hd => by cases hd; exact rfl, HXW.out⟩
      simp only [Act.put, List.setIfInBounds_toArray, List.set_cons_zero, List.set_cons_succ]
      refine ⟨fun wv148 hov148 hSv148 => ?_, fun v148 => ?_⟩
      · obtain rfl : v144 = .bool false := hSv148 144 (by decide) (by decide)
        obtain rfl : v147 = .bool true := hSv148 147 (by decide) (by decide)
        clear hSv148
        clear hov148
        go_wp2_with fail
        exact ⟨rfl, _, rfl, fun d hd => by cases hd; exact rfl, Ext.refl _⟩
      simp only [Act.put, List.setIfInBounds_toArray, List.set_cons_zero, List.set_cons_succ]
      refine ⟨fun wv149 hov149 hSv149 => ?_, fun v149 => ?_⟩
      · obtain rfl : v144 = .bool false := hSv149 144 (by decide) (by decide)
        obtain rfl : v148 = .bool false := hSv149 148 (by decide) (by decide)
        clear hSv149
        clear hov149
        go_wp2_with fail
        exact ⟨rfl, _, rfl, fun d hd => by cases hd; exact rfl, Ext.refl _⟩
      simp only [Act.put, List.setIfInBounds_toArray, List.set_cons_zero, List.set_cons_succ]
      refine ⟨fun wv150 hov150 hSv150 => ?_, fun v150 => ?_⟩
      · obtain rfl : v149 = .bool false := hSv150 149 (by decide) (by decide)
        clear hSv150
        clear hov150
        go_wp2_with fail
        exact ⟨rfl, _, rfl, fun d hd => by cases hd; exact rfl, Ext.refl _⟩
      simp only [Act.put, List.setIfInBounds_toArray, List.set_cons_zero, List.set_cons_succ]
      refine ⟨fun wv151 hov151 hSv151 => ?_, fun v151 => ?_⟩
      · obtain rfl : v150 = .bool false := hSv151 150 (by decide) (by decide)
        clear hSv151
        have H := kp (H.out.keep [0, 1, 2, 3] (St := []) trivial hov151 (by decide) (by kernel_rfl))
        have HOX := kp hov151
        clear hov151
        go_wp2_with ((with_reducible show wpList _ _ _ (Oper.mk _ (Op.load 51 _) _ _ _ _ :: _) _ _); (refine wpList_load_rowG (by kernel_rfl) 51 _ rfl (g5) rfl 51 (cellsR l u).toArray (0, 0) _ (HL5.out.ext H.out.1) Try.underlying51 rfl (HZl.out _) ?_); simp only [Act.put, List.setIfInBounds_toArray, List.set_cons_zero, List.set_cons_succ])
        exact ⟨rfl, _, rfl, fun d hd => by cases hd; exact rfl, Ext.refl _⟩
      simp only [Act.put, List.setIfInBounds_toArray, List.set_cons_zero, List.set_cons_succ]
      refine ⟨fun wv152 hov152 hSv152 => ?_, fun v152 => ?_⟩
      · obtain rfl : v150 = .bool false := hSv152 150 (by decide) (by decide)
        clear hSv152
        have H := kp (H.out.keep [0, 1, 2, 3] (St := []) trivial hov152 (by decide) (by kernel_rfl))
        have HOX := kp hov152
        clear hov152
        go_wp2_with ((with_reducible show wpList _ _ _ (Oper.mk _ (Op.load 51 _) _ _ _ _ :: _) _ _); (first | (refine L_loadG H (by kernel_rfl) 51 _ rfl 0 rfl rfl Try.underlying51 rfl (HZl.out _) ?_) | (refine L_loadG H (by kernel_rfl) 51 _ rfl 1 rfl rfl Try.underlying51 rfl (HZl.out _) ?_) | (refine L_loadG H (by kernel_rfl) 51 _ rfl 2 rfl rfl Try.underlying51 rfl (HZl.out _) ?_) | (refine L_loadG H (by kernel_rfl) 51 _ rfl 3 rfl rfl Try.underlying51 rfl (HZl.out _) ?_) | (refine L_loadG H (by kernel_rfl) 51 _ rfl 4 rfl rfl Try.underlying51 rfl (HZl.out _) ?_) | (refine L_loadG H (by kernel_rfl) 51 _ rfl 5 rfl rfl Try.underlying51 rfl (HZl.out _) ?_)); simp only [Act.put, List.setIfInBounds_toArray, List.set_cons_zero, List.set_cons_succ])
        exact ⟨rfl, _, rfl, fun d hd => by cases hd; exact rfl, Ext.refl _⟩
      simp only [Act.put, List.setIfInBounds_toArray, List.set_cons_zero, List.set_cons_succ]
      refine ⟨fun wv153 hov153 hSv153 => ?_, fun v153 => ?_⟩
      · obtain rfl : v150 = .bool false := hSv153 150 (by decide) (by decide)
        obtain rfl : v151 = .agg (cellsR l u).toArray := hSv153 151 (by decide) (by decide)
        obtain rfl : v152 = .agg (cellsR l u9).toArray := hSv153 152 (by decide) (by decide)
        clear hSv153
        have H := kp (H.out.keep [0, 1, 2, 3] (St := []) trivial hov153 (by decide) (by kernel_rfl))
        have HOX := kp hov153
        clear hov153
        have HXZ := kp (HOX.out.ext (Ext.refl _) (fun g hg => by cases hg))
        go_wp2_with fail
        refine (HS2.out _ HXZ.out).mono ?_
        rintro e w2 ⟨rfl, hx⟩
        have HXW := kp hx
        clear hx
        go_wp2_with fail
        exact ⟨rfl, _, rfl, fun d hd => by cases hd; exact rfl, HXW.out⟩
      simp only [Act.put, List.setIfInBounds_toArray, List.set_cons_zero, List.set_cons_succ]
      refine ⟨fun wv154 hov154 hSv154 => ?_, fun v154 => ?_⟩
      · obtain rfl : v150 = .bool false := hSv154 150 (by decide) (by decide)
        obtain rfl : v153 = .bool true := hSv154 153 (by decide) (by decide)
        clear hSv154
        clear hov154
        go_wp2_with fail
        exact ⟨rfl, _, rfl, fun d hd => by cases hd; exact rfl, Ext.refl _⟩
      simp only [Act.put, List.setIfInBounds_toArray, List.set_cons_zero, List.set_cons_succ]
      refine ⟨fun wv155 hov155 hSv155 => ?_, fun v155 => ?_⟩
      · obtain rfl : v150 = .bool false := hSv155 150 (by decide) (by decide)
        obtain rfl : v154 = .bool false := hSv155 154 (by decide) (by decide)
        clear hSv155
        clear hov155
        go_wp2_with fail
        exact ⟨rfl, _, rfl, fun d hd => by cases hd; exact rfl, Ext.refl _⟩
      simp only [Act.put, List.setIfInBounds_toArray, List.set_cons_zero, List.set_cons_succ]
      refine ⟨fun wv156 hov156 hSv156 => ?_, fun v156 => ?_⟩
      · obtain rfl : v155 = .bool false := hSv156 155 (by decide) (by decide)
        clear hSv156
        clear hov156
        go_wp2_with fail
        exact ⟨rfl, _, rfl, fun d hd => by cases hd; exact rfl, Ext.refl _⟩
      simp only [Act.put, List.setIfInBounds_toArray, List.set_cons_zero, List.set_cons_succ]
      refine ⟨fun wv157 hov157 hSv157 => ?_, fun v157 => ?_⟩
      · obtain rfl : v156 = .bool false := hSv157 156 (by decide) (by decide)
        clear hSv157
        have H := kp (H.out.keep [0, 1, 2, 3] (St := []) trivial hov157 (by decide) (by kernel_rfl))
        have HOX := kp hov157
        clear hov157
        go_wp2_with ((with_reducible show wpList _ _ _ (Oper.mk _ (Op.load 51 _) _ _ _ _ :: _) _ _); (first | (refine L_loadG H (by kernel_rfl) 51 _ rfl 0 rfl rfl Try.underlying51 rfl (HZm.out _) ?_) | (refine L_loadG H (by kernel_rfl) 51 _ rfl 1 rfl rfl Try.underlying51 rfl (HZm.out _) ?_) | (refine L_loadG H (by kernel_rfl) 51 _ rfl 2 rfl rfl Try.underlying51 rfl (HZm.out _) ?_) | (refine L_loadG H (by kernel_rfl) 51 _ rfl 3 rfl rfl Try.underlying51 rfl (HZm.out _) ?_) | (refine L_loadG H (by kernel_rfl) 51 _ rfl 4 rfl rfl Try.underlying51 rfl (HZm.out _) ?_) | (refine L_loadG H (by kernel_rfl) 51 _ rfl 5 rfl rfl Try.underlying51 rfl (HZm.out _) ?_)); simp only [Act.put, List.setIfInBounds_toArray, List.set_cons_zero, List.set_cons_succ])
        exact ⟨rfl, _, rfl, fun d hd => by cases hd; exact rfl, Ext.refl _⟩
      simp only [Act.put, List.setIfInBounds_toArray, List.set_cons_zero, List.set_cons_succ]
      refine ⟨fun wv158 hov158 hSv158 => ?_, fun v158 => ?_⟩
      · obtain rfl : v156 = .bool false := hSv158 156 (by decide) (by decide)
        clear hSv158
        have H := kp (H.out.keep [0, 1, 2, 3] (St := []) trivial hov158 (by decide) (by kernel_rfl))
        have HOX := kp hov158
        clear hov158
        go_wp2_with ((with_reducible show wpList _ _ _ (Oper.mk _ (Op.load 51 _) _ _ _ _ :: _) _ _); (refine wpList_load_rowG (by kernel_rfl) 51 _ rfl (g5) rfl 51 (cellsR l u).toArray (0, 0) _ (HL5.out.ext H.out.1) Try.underlying51 rfl (HZl.out _) ?_); simp only [Act.put, List.setIfInBounds_toArray, List.set_cons_zero, List.set_cons_succ])
        exact ⟨rfl, _, rfl, fun d hd => by cases hd; exact rfl, Ext.refl _⟩
      simp only [Act.put, List.setIfInBounds_toArray, List.set_cons_zero, List.set_cons_succ]
      refine ⟨fun wv159 hov159 hSv159 => ?_, fun v159 => ?_⟩
      · obtain rfl : v156 = .bool false := hSv159 156 (by decide) (by decide)
        obtain rfl : v157 = .agg (cellsR m u2).toArray := hSv159 157 (by decide) (by decide)
        obtain rfl : v158 = .agg (cellsR l u).toArray := hSv159 158 (by decide) (by decide)
        clear hSv159
        have H := kp (H.out.keep [0, 1, 2, 3] (St := []) trivial hov159 (by decide) (by kernel_rfl))
        have HOX := kp hov159
        clear hov159
        have HXZ := kp (HOX.out.ext (Ext.refl _) (fun g hg => by cases hg))
        go_wp2_with fail
        refine (HS3.out _ HXZ.out).mono ?_
        rintro e w2 ⟨rfl, hx⟩
        have HXW := kp hx
        clear hx
        go_wp2_with fail
        exact ⟨rfl, _, rfl, fun d hd => by cases hd; exact rfl, HXW.out⟩
      simp only [Act.put, List.setIfInBounds_toArray, List.set_cons_zero, List.set_cons_succ]
      refine ⟨fun wv160 hov160 hSv160 => ?_, fun v160 => ?_⟩
      · obtain rfl : v156 = .bool false := hSv160 156 (by decide) (by decide)
        clear hSv160
        have H := kp (H.out.keep [0, 1, 2, 3] (St := []) trivial hov160 (by decide) (by kernel_rfl))
        have HOX := kp hov160
        clear hov160
        go_wp2_with ((with_reducible show wpList _ _ _ (Oper.mk _ (Op.load 51 _) _ _ _ _ :: _) _ _); (first | (refine L_loadG H (by kernel_rfl) 51 _ rfl 0 rfl rfl Try.underlying51 rfl (HZm.out _) ?_) | (refine L_loadG H (by kernel_rfl) 51 _ rfl 1 rfl rfl Try.underlying51 rfl (HZm.out _) ?_) | (refine L_loadG H (by kernel_rfl) 51 _ rfl 2 rfl rfl Try.underlying51 rfl (HZm.out _) ?_) | (refine L_loadG H (by kernel_rfl) 51 _ rfl 3 rfl rfl Try.underlying51 rfl (HZm.out _) ?_) | (refine L_loadG H (by kernel_rfl) 51 _ rfl 4 rfl rfl Try.underlying51 rfl (HZm.out _) ?_) | (refine L_loadG H (by kernel_rfl) 51 _ rfl 5 rfl rfl Try.underlying51 rfl (HZm.out _) ?_)); simp only [Act.put, List.setIfInBounds_toArray, List.set_cons_zero, List.set_cons_succ])
        exact ⟨rfl, _, rfl, fun d hd => by cases hd; exact rfl, Ext.refl _⟩
      simp only [Act.put, List.setIfInBounds_toArray, List.set_cons_zero, List.set_cons_succ]
      refine ⟨fun wv161 hov161 hSv161 => ?_, fun v161 => ?_⟩
      · obtain rfl : v156 = .bool false := hSv161 156 (by decide) (by decide)
        clear hSv161
        have H := kp (H.out.keep [0, 1, 2, 3] (St := []) trivial hov161 (by decide) (by kernel_rfl))
        have HOX := kp hov161
        clear hov161
        go_wp2_with ((with_reducible show wpList _ _ _ (Oper.mk _ (Op.load 51 _) _ _ _ _ :: _) _ _); (refine wpList_load_rowG (by kernel_rfl) 51 _ rfl (g6) rfl 51 (cellsR l v).toArray (0, 0) _ (HL6.out.ext H.out.1) Try.underlying51 rfl (HZl.out _) ?_); simp only [Act.put, List.setIfInBounds_toArray, List.set_cons_zero, List.set_cons_succ])
        exact ⟨rfl, _, rfl, fun d hd => by cases hd; exact rfl, Ext.refl _⟩
      simp only [Act.put, List.setIfInBounds_toArray, List.set_cons_zero, List.set_cons_succ]
      refine ⟨fun wv162 hov162 hSv162 => ?_, fun v162 => ?_⟩
      · obtain rfl : v156 = .bool false := hSv162 156 (by decide) (by decide)
        obtain rfl : v160 = .agg (cellsR m u3).toArray := hSv162 160 (by decide) (by decide)
        obtain rfl : v161 = .agg (cellsR l v).toArray := hSv162 161 (by decide) (by decide)
        clear hSv162
        have H := kp (H.out.keep [0, 1, 2, 3] (St := []) trivial hov162 (by decide) (by kernel_rfl))
        have HOX := kp hov162
        clear hov162
        have HXZ := kp (HOX.out.ext (Ext.refl _) (fun g hg => by cases hg))
        go_wp2_with fail
        refine (HS4.out _ HXZ.out).mono ?_
        rintro e w2 ⟨rfl, hx⟩
        have HXW := kp hx
        clear hx
        go_wp2_with fail
        exact ⟨rfl, _, rfl, fun d hd => by cases hd; exact rfl, HXW.out⟩
      simp only [Act.put, List.setIfInBounds_toArray, List.set_cons_zero, List.set_cons_succ]
      refine ⟨fun wv163 hov163 hSv163 => ?_, fun v163 => ?_⟩
      · obtain rfl : v156 = .bool false := hSv163 156 (by decide) (by decide)
        obtain rfl : v159 = .bool sb := hSv163 159 (by decide) (by decide)
        obtain rfl : v162 = .bool sb := hSv163 162 (by decide) (by decide)
        clear hSv163
        clear hov163
        go_wp2_with fail
        exact ⟨rfl, _, rfl, fun d hd => by cases hd; exact rfl, Ext.refl _⟩
      simp only [Act.put, List.setIfInBounds_toArray, List.set_cons_zero, List.set_cons_succ]
      refine ⟨fun wv164 hov164 hSv164 => ?_, fun v164 => ?_⟩
      · obtain rfl : v156 = .bool false := hSv164 156 (by decide) (by decide)
        obtain rfl : v163 = .bool false := hSv164 163 (by decide) (by decide)
        clear hSv164
        clear hov164
        go_wp2_with fail
        exact ⟨rfl, _, rfl, fun d hd => by cases hd; exact rfl, Ext.refl _⟩
      simp only [Act.put, List.setIfInBounds_toArray, List.set_cons_zero, List.set_cons_succ]
      clear H
      intro wn HOX H hfin
      obtain rfl : v141 = .int .i64 er := hfin 141 (by decide)
      obtain rfl : v142 = .int .i64 er := hfin 142 (by decide)
      obtain rfl : v143 = .bool false := hfin 143 (by decide)
      obtain rfl : v144 = .bool false := hfin 144 (by decide)
      obtain rfl : v145 = .agg (cellsR m u2).toArray := hfin 145 (by decide)
      obtain rfl : v146 = .agg (cellsR m u3).toArray := hfin 146 (by decide)
      obtain rfl : v147 = .bool true := hfin 147 (by decide)
      obtain rfl : v148 = .bool false := hfin 148 (by decide)
      obtain rfl : v149 = .bool false := hfin 149 (by decide)
      obtain rfl : v150 = .bool false := hfin 150 (by decide)
      obtain rfl : v151 = .agg (cellsR l u).toArray := hfin 151 (by decide)
      obtain rfl : v152 = .agg (cellsR l u9).toArray := hfin 152 (by decide)
      obtain rfl : v153 = .bool true := hfin 153 (by decide)
      obtain rfl : v154 = .bool false := hfin 154 (by decide)
      obtain rfl : v155 = .bool false := hfin 155 (by decide)
      obtain rfl : v156 = .bool false := hfin 156 (by decide)
      obtain rfl : v157 = .agg (cellsR m u2).toArray := hfin 157 (by decide)
      obtain rfl : v158 = .agg (cellsR l u).toArray := hfin 158 (by decide)
      obtain rfl : v159 = .bool sb := hfin 159 (by decide)
      obtain rfl : v160 = .agg (cellsR m u3).toArray := hfin 160 (by decide)
      obtain rfl : v161 = .agg (cellsR l v).toArray := hfin 161 (by decide)
      obtain rfl : v162 = .bool sb := hfin 162 (by decide)
      obtain rfl : v163 = .bool false := hfin 163 (by decide)
      obtain rfl : v164 = .bool false := hfin 164 (by decide)
      clear hfin
      simp only [List.drop_succ_cons, List.drop_zero]
      simp only [applyS] at H
      have HXN := kp (HOX.out.ext (Ext.refl wt) (fun g hg => by cases hg))
      have HMn := kp (HMt.out.ext HXN.out)
      have HP2n := kp (HP2t.out.ext HXN.out)
      have HP3n := kp (HP3t.out.ext HXN.out)
      clear HS1 HS2 HS3 HS4 hee hsb HMt HP2t HP3t HP9t HXN HOX
      by_cases her : er = 0
      case neg =>
        have he0 : (er == 0) = false := by simp [her]
        go_wp2_with fail
        subst h31
        go_wp2_with fail
        go_roundw
        case rel => exact ⟨j + 1, l, u, v, ks, by omega, by go_num, HL, kp (HW.out.ext H.out.1), HMn⟩
        case measure => simp [intOf]; omega
      subst her
      have HJ := kp (HW.out.join H.out)
      clear H
      have H := HJ
      clear HJ
      simp only [List.cons_append, List.nil_append] at H
      have HB := kp (Bump.start HMn.out.pu HG0.out)
      have HNM := kp (show ∀ g, ks ≠ [] → u.ownBlock = some g → g ∉ [g11, g10, g9, g8, g6, g5, g2] from fun g hne hg hm => by
        have h1 := HM.out.pu.lt hne g hg
        have h2 := HM.out.pu.ge g hg
        simp only [List.mem_cons, List.not_mem_nil, or_false] at hm
        rcases hm with hm | hm | hm | hm | hm | hm | hm
        · have := HLO0.out; dsimp only at this; omega
        · have := HLO1.out; dsimp only at this; omega
        · have := HLO2.out; dsimp only at this; omega
        · have := HLO3.out; dsimp only at this; omega
        · exact HM.out.u6 (by rw [hg, hm])
        · exact HM.out.u5 (by rw [hg, hm])
        · have := HG2.out; omega)
      have HWB := kp (show ∀ g, u.ownBlock = some g → w.heap.size ≤ g from fun g hg => Nat.le_trans HWA.out (HM.out.pu.ge g hg))
      have HLTW := kp (show ∀ g, ks ≠ [] → u.ownBlock = some g → g < wr.heap.size from fun g hne hg => HM.out.pu.lt hne g hg)
      have HPO := kp (show u.oneCell' = true from slot_oneP HM.out.pu)
      have HCP := kp (cellsR_past l u HL.out)
      have HLQ := kp (fun u' => cellsR_len2 l m u u' HL.out HLm.out)
      have HLQ2 := kp (fun u' => cellsR_len2 l m v u' HL.out HLm.out)
      obtain ⟨au, cu, huf⟩ := HM.out.pu.sly.form
      subst huf
      go_wp2_with fail
      subst h31
      go_wp2_with fail
      go_loopw [18] (fun i18 wv => ∃ k : Nat, k ≤ ks.length ∧ i18 = .int .i64 k ∧ Kp (Bump wn wv (.slice au ks.length cu) ks)) (fun i18 _ => ks.length - (intOf i18).toNat)
      case atStart => exact ⟨0, by omega, rfl, HB⟩
      case round =>
        obtain ⟨k, hk, rfl, HBk⟩ := hrel
        obtain ⟨G, hG, ho, hrow⟩ := HBk.out
        have HK := kp (H.out.out ho (fun g hg => HWB.out g (hG g hg).2) (fun g hg => HNM.out g (hG g hg).1 (hG g hg).2))
        by_cases hkn : k < ks.length
        case neg =>
          have HPF := kp ((HP2n.out.out ho (fun g hg => HLTW.out g (hG g hg).1 (hG g hg).2)))
          have HPG := kp ((HP3n.out.out ho (fun g hg => HLTW.out g (hG g hg).1 (hG g hg).2)))
          have hcp := run_load_cell HK.out 5 rfl _ _ HCP.out
          have hkI : ¬ (k : Int) < ks.length := by omega
          clear hG ho hrow H
          have H := HK
          go_wp2_with fail
          clear hcp
          refine region_free H (tabS [(183, fun zv _ => zv = .agg (cellsR m u2).toArray), (184, fun zv _ => zv = .agg (cellsR m u3).toArray)]) [⟨2, 5, g5, 51, cellsR l (.slice au ks.length cu), cellsR m u2⟩, ⟨3, 4, g6, 51, cellsR l v, cellsR m u3⟩] (tabS_out _ _ (by simp only [List.forall_mem_cons]; exact ⟨mono_eqO _ _, mono_eqO _ _, by simp⟩)) 4 (by kernel_rfl) (by kernel_rfl) (by kernel_rfl) (by kernel_rfl) [2, 3] [5, 4] rfl rfl (by decide) (by decide) (by decide) ⟨rfl, rfl, trivial⟩ ?_
          simp only [List.take_succ_cons, List.take_zero]
          refine ⟨fun wv183 hov183 hSv183 => ?_, fun v183 => ?_⟩
          · clear hSv183
            have H := kp (H.out.keep [0, 1, 2, 3, 6] (St := [⟨2, 5, g5, 51, cellsR l (.slice au ks.length cu), cellsR m u2⟩, ⟨3, 4, g6, 51, cellsR l v, cellsR m u3⟩]) ⟨rfl, rfl, trivial⟩ hov183 (by decide) (by kernel_rfl))
            have HOX := kp hov183
            clear hov183
            go_wp2_with ((with_reducible show wpList _ _ _ (Oper.mk _ (Op.load 51 _) _ _ _ _ :: _) _ _); (first | (refine L_load H rfl 51 _ rfl 0 rfl rfl Try.underlying51 rfl (HZm.out _) ?_) | (refine L_load H rfl 51 _ rfl 1 rfl rfl Try.underlying51 rfl (HZm.out _) ?_) | (refine L_load H rfl 51 _ rfl 2 rfl rfl Try.underlying51 rfl (HZm.out _) ?_) | (refine L_load H rfl 51 _ rfl 3 rfl rfl Try.underlying51 rfl (HZm.out _) ?_) | (refine L_load H rfl 51 _ rfl 4 rfl rfl Try.underlying51 rfl (HZm.out _) ?_) | (refine L_load H rfl 51 _ rfl 5 rfl rfl Try.underlying51 rfl (HZm.out _) ?_)); simp only [Act.put, List.setIfInBounds_toArray, List.set_cons_zero, List.set_cons_succ])
            exact ⟨rfl, _, rfl, fun d hd => by cases hd; exact rfl, Ext.refl _⟩
          simp only [Act.put, List.setIfInBounds_toArray, List.set_cons_zero, List.set_cons_succ]
          refine ⟨fun wv184 hov184 hSv184 => ?_, fun v184 => ?_⟩
          · clear hSv184
            have H := kp (H.out.keep [0, 1, 2, 3, 6] (St := [⟨2, 5, g5, 51, cellsR l (.slice au ks.length cu), cellsR m u2⟩, ⟨3, 4, g6, 51, cellsR l v, cellsR m u3⟩]) ⟨rfl, rfl, trivial⟩ hov184 (by decide) (by kernel_rfl))
            have HOX := kp hov184
            clear hov184
            go_wp2_with ((with_reducible show wpList _ _ _ (Oper.mk _ (Op.load 51 _) _ _ _ _ :: _) _ _); (first | (refine L_load H rfl 51 _ rfl 0 rfl rfl Try.underlying51 rfl (HZm.out _) ?_) | (refine L_load H rfl 51 _ rfl 1 rfl rfl Try.underlying51 rfl (HZm.out _) ?_) | (refine L_load H rfl 51 _ rfl 2 rfl rfl Try.underlying51 rfl (HZm.out _) ?_) | (refine L_load H rfl 51 _ rfl 3 rfl rfl Try.underlying51 rfl (HZm.out _) ?_) | (refine L_load H rfl 51 _ rfl 4 rfl rfl Try.underlying51 rfl (HZm.out _) ?_) | (refine L_load H rfl 51 _ rfl 5 rfl rfl Try.underlying51 rfl (HZm.out _) ?_)); simp only [Act.put, List.setIfInBounds_toArray, List.set_cons_zero, List.set_cons_succ])
            exact ⟨rfl, _, rfl, fun d hd => by cases hd; exact rfl, Ext.refl _⟩
          simp only [Act.put, List.setIfInBounds_toArray, List.set_cons_zero, List.set_cons_succ]
          refine ⟨⟨rfl, rfl, fun ws2 hos2 hSs2 hLs2 => ?_⟩, ?_⟩
          · obtain rfl : v183 = .agg (cellsR m u2).toArray := hSs2 183 (by decide) (by decide)
            exact run_sto 51 _ _ rfl rfl rfl hLs2 (HZm.out _) (HLQ.out _) (HOB.out _ _ HU2.out)
          refine ⟨⟨rfl, rfl, fun ws3 hos3 hSs3 hLs3 => ?_⟩, ?_⟩
          · obtain rfl : v184 = .agg (cellsR m u3).toArray := hSs3 184 (by decide) (by decide)
            exact run_sto 51 _ _ rfl rfl rfl hLs3 (HZm.out _) (HLQ2.out _) (HOB.out _ _ HU3.out)
          clear H
          intro w36 HOX H hfin
          obtain rfl : v183 = .agg (cellsR m u2).toArray := hfin 183 (by decide)
          obtain rfl : v184 = .agg (cellsR m u3).toArray := hfin 184 (by decide)
          clear hfin
          simp only [List.drop_succ_cons, List.drop_zero]
          simp only [applyS] at H
          simp only [List.set_cons_zero, List.set_cons_succ] at H
          have HL56 := kp (show ∀ g ∈ [g5, g6], g < _ from fun g hg => by
            simp only [List.mem_cons, List.not_mem_nil, or_false] at hg
            rcases hg with rfl | rfl
            · exact HL5.out.lt
            · exact HL6.out.lt)
          have HPFx := kp (HPF.out.out HOX.out HL56.out)
          have HPGx := kp (HPG.out.out HOX.out HL56.out)
          have HBW := kp (Nat.le_of_lt (Nat.lt_of_le_of_lt HG5.out HL5.out.lt))
          go_wp2_with fail
          go_roundw
          case rel => exact ⟨j + 1, m, u2, u3, ks2, by omega, by go_num, HLm, kp H.out.tail.tail.tail.tail, kp ⟨HPFx.out.base HBW.out, HPGx.out.base HBW.out, HPF.out.sep HL5.out.lt, HPF.out.sep HL6.out.lt, HPG.out.sep HL5.out.lt, HPG.out.sep HL6.out.lt, HN2.out⟩⟩
          case measure => simp [intOf]; omega
        have hne : ks ≠ [] := by intro e; rw [e] at hkn; simp at hkn
        have hlen40 : ks.length ≤ 40 := HN40.out
        obtain ⟨bu, uo, uc, ut, cs, hu, hlc, hcs⟩ := hrow hne
        cases hu
        have HK2 := kp (HK.out.addN (HNM.out bu hne rfl) (HWB.out bu rfl) hlc)
        obtain ⟨z, hz⟩ := hcs (k * 16) (by omega)
        have hcp := run_load_cell HK2.out 6 rfl _ _ HCP.out
        have hcb := run_load_cell HK2.out 0 rfl _ _ hz
        have HGk := kp hG
        have HOk2 := kp ho
        have HCS := kp hcs
        have HFIT := kp (List.getElem?_eq_some_iff.1 hz).1
        have HZc := kp hz
        clear hG ho hrow hz hcs hlc H
        have H := HK2
        have hkI : (k : Int) < ks.length := by omega
        have HZ8 := kp (show (Try.prog.info? 5).map (·.size) = some 1 from by kernel_rfl)
        go_wp2_with fail
        clear hcp hcb
        refine region_free H (tabS [(174, fun zv _ => zv = .pointer (some ⟨g5, 144, none⟩)), (175, fun zv _ => zv = .slice (some ⟨bu, uo, none⟩) ks.length cu), (176, fun zv _ => zv = .int .i64 k), (177, fun zv _ => zv = .pointer (some ⟨bu, uo + k * 16, none⟩)), (178, fun zv _ => zv = .pointer (some ⟨bu, uo + k * 16, none⟩)), (179, fun zv _ => zv = .int .u8 z), (180, fun zv _ => ∃ y, zv = .int .u8 y), (181, fun zv _ => zv = .pointer (some ⟨bu, uo + k * 16, none⟩)), (182, fun zv _ => zv = .pointer (some ⟨bu, uo + k * 16, none⟩))]) [] (tabS_out _ _ (by simp only [List.forall_mem_cons]; exact ⟨mono_eqO _ _, mono_eqO _ _, mono_eqO _ _, mono_eqO _ _, mono_eqO _ _, mono_eqO _ _, (fun _ _ _ h _ => h), mono_eqO _ _, mono_eqO _ _, by simp⟩)) 9 (by kernel_rfl) (by kernel_rfl) (by kernel_rfl) (by kernel_rfl) [] [] rfl rfl (by decide) (by decide) (by decide) trivial ?_
        simp only [List.take_succ_cons, List.take_zero]
        refine ⟨fun wv174 hov174 hSv174 => ?_, fun v174 => ?_⟩
        · clear hSv174
          clear hov174
          go_wp2_with fail
          exact ⟨rfl, _, rfl, fun d hd => by cases hd; exact rfl, Ext.refl _⟩
        simp only [Act.put, List.setIfInBounds_toArray, List.set_cons_zero, List.set_cons_succ]
        refine ⟨fun wv175 hov175 hSv175 => ?_, fun v175 => ?_⟩
        · obtain rfl : v174 = .pointer (some ⟨g5, 144, none⟩) := hSv175 174 (by decide) (by decide)
          clear hSv175
          have H := kp (H.out.keep [0, 1, 2, 3, 4, 5, 6, 7] (St := []) trivial hov175 (by decide) (by kernel_rfl))
          have HOX := kp hov175
          clear hov175
          have hc := run_load_cell H.out 6 rfl _ _ HCP.out
          go_wp2_with fail
          exact ⟨rfl, _, rfl, fun d hd => by cases hd; exact rfl, Ext.refl _⟩
        simp only [Act.put, List.setIfInBounds_toArray, List.set_cons_zero, List.set_cons_succ]
        refine ⟨fun wv176 hov176 hSv176 => ?_, fun v176 => ?_⟩
        · clear hSv176
          clear hov176
          go_wp2_with fail
          exact ⟨rfl, _, rfl, fun d hd => by cases hd; exact rfl, Ext.refl _⟩
        simp only [Act.put, List.setIfInBounds_toArray, List.set_cons_zero, List.set_cons_succ]
        refine ⟨fun wv177 hov177 hSv177 => ?_, fun v177 => ?_⟩
        · obtain rfl : v175 = .slice (some ⟨bu, uo, none⟩) ks.length cu := hSv177 175 (by decide) (by decide)
          obtain rfl : v176 = .int .i64 k := hSv177 176 (by decide) (by decide)
          clear hSv177
          clear hov177
          go_wp2_with fail
          exact ⟨rfl, _, rfl, fun d hd => by cases hd; exact rfl, Ext.refl _⟩
        simp only [Act.put, List.setIfInBounds_toArray, List.set_cons_zero, List.set_cons_succ]
        refine ⟨fun wv178 hov178 hSv178 => ?_, fun v178 => ?_⟩
        · obtain rfl : v177 = .pointer (some ⟨bu, uo + k * 16, none⟩) := hSv178 177 (by decide) (by decide)
          clear hSv178
          clear hov178
          go_wp2_with fail
          exact ⟨rfl, _, rfl, fun d hd => by cases hd; exact rfl, Ext.refl _⟩
        simp only [Act.put, List.setIfInBounds_toArray, List.set_cons_zero, List.set_cons_succ]
        refine ⟨fun wv179 hov179 hSv179 => ?_, fun v179 => ?_⟩
        · obtain rfl : v178 = .pointer (some ⟨bu, uo + k * 16, none⟩) := hSv179 178 (by decide) (by decide)
          clear hSv179
          have H := kp (H.out.keep [0, 1, 2, 3, 4, 5, 6, 7] (St := []) trivial hov179 (by decide) (by kernel_rfl))
          have HOX := kp hov179
          clear hov179
          have hc := run_load_cell H.out 0 rfl _ _ HZc.out
          go_wp2_with fail
          exact ⟨rfl, _, rfl, fun d hd => by cases hd; exact rfl, Ext.refl _⟩
        simp only [Act.put, List.setIfInBounds_toArray, List.set_cons_zero, List.set_cons_succ]
        refine ⟨fun wv180 hov180 hSv180 => ?_, fun v180 => ?_⟩
        · obtain rfl : v179 = .int .u8 z := hSv180 179 (by decide) (by decide)
          clear hSv180
          have H := kp (H.out.keep [0, 1, 2, 3, 4, 5, 6, 7] (St := []) trivial hov180 (by decide) (by kernel_rfl))
          have HOX := kp hov180
          clear hov180
          go_wp2_with fail
          exact ⟨rfl, _, rfl, fun d hd => by cases hd; exact ⟨_, rfl⟩, Ext.refl _⟩
        simp only [Act.put, List.setIfInBounds_toArray, List.set_cons_zero, List.set_cons_succ]
        refine ⟨fun wv181 hov181 hSv181 => ?_, fun v181 => ?_⟩
        · obtain rfl : v175 = .slice (some ⟨bu, uo, none⟩) ks.length cu := hSv181 175 (by decide) (by decide)
          obtain rfl : v176 = .int .i64 k := hSv181 176 (by decide) (by decide)
          clear hSv181
          clear hov181
          go_wp2_with fail
          exact ⟨rfl, _, rfl, fun d hd => by cases hd; exact rfl, Ext.refl _⟩
        simp only [Act.put, List.setIfInBounds_toArray, List.set_cons_zero, List.set_cons_succ]
        refine ⟨fun wv182 hov182 hSv182 => ?_, fun v182 => ?_⟩
        · obtain rfl : v181 = .pointer (some ⟨bu, uo + k * 16, none⟩) := hSv182 181 (by decide) (by decide)
          clear hSv182
          clear hov182
          go_wp2_with fail
          exact ⟨rfl, _, rfl, fun d hd => by cases hd; exact rfl, Ext.refl _⟩
        simp only [Act.put, List.setIfInBounds_toArray, List.set_cons_zero, List.set_cons_succ]
        clear H
        intro w35 HOX H hfin
        obtain rfl : v174 = .pointer (some ⟨g5, 144, none⟩) := hfin 174 (by decide)
        obtain rfl : v175 = .slice (some ⟨bu, uo, none⟩) ks.length cu := hfin 175 (by decide)
        obtain rfl : v176 = .int .i64 k := hfin 176 (by decide)
        obtain rfl : v177 = .pointer (some ⟨bu, uo + k * 16, none⟩) := hfin 177 (by decide)
        obtain rfl : v178 = .pointer (some ⟨bu, uo + k * 16, none⟩) := hfin 178 (by decide)
        obtain rfl : v179 = .int .u8 z := hfin 179 (by decide)
        have F180 := kp (show ∃ y, v180 = .int .u8 y from hfin 180 (by decide))
        obtain rfl : v181 = .pointer (some ⟨bu, uo + k * 16, none⟩) := hfin 181 (by decide)
        obtain rfl : v182 = .pointer (some ⟨bu, uo + k * 16, none⟩) := hfin 182 (by decide)
        clear hfin
        simp only [List.drop_succ_cons, List.drop_zero]
        simp only [applyS] at H
        have HXN := kp (HOX.out.ext (Ext.refl wr) (fun g hg => by cases hg))
        obtain ⟨y, rfl⟩ := F180.out
        go_wp2_with ((with_reducible show wpList _ _ _ (Oper.mk none (Op.store 5 _ _) _ _ _ _ :: _) _ _); (first | (refine L_cell H rfl rfl 5 _ _ rfl 0 rfl (uo + k * 16) rfl (.int .u8 y) rfl (rfl) (HZ8.out) (HFIT.out) (cs.set (uo + k * 16) (.int .u8 y)) (rfl) ?_; clear H; intro wq HWwq H; simp only [List.set_cons_zero] at H) | (refine L_cell H rfl rfl 5 _ _ rfl 1 rfl (uo + k * 16) rfl (.int .u8 y) rfl (rfl) (HZ8.out) (HFIT.out) (cs.set (uo + k * 16) (.int .u8 y)) (rfl) ?_; clear H; intro wq HWwq H; simp only [List.set_cons_succ, List.set_cons_zero] at H) | (refine L_cell H rfl rfl 5 _ _ rfl 2 rfl (uo + k * 16) rfl (.int .u8 y) rfl (rfl) (HZ8.out) (HFIT.out) (cs.set (uo + k * 16) (.int .u8 y)) (rfl) ?_; clear H; intro wq HWwq H; simp only [List.set_cons_succ, List.set_cons_zero] at H) | (refine L_cell H rfl rfl 5 _ _ rfl 3 rfl (uo + k * 16) rfl (.int .u8 y) rfl (rfl) (HZ8.out) (HFIT.out) (cs.set (uo + k * 16) (.int .u8 y)) (rfl) ?_; clear H; intro wq HWwq H; simp only [List.set_cons_succ, List.set_cons_zero] at H) | (refine L_cell H rfl rfl 5 _ _ rfl 4 rfl (uo + k * 16) rfl (.int .u8 y) rfl (rfl) (HZ8.out) (HFIT.out) (cs.set (uo + k * 16) (.int .u8 y)) (rfl) ?_; clear H; intro wq HWwq H; simp only [List.set_cons_succ, List.set_cons_zero] at H) | (refine L_cell H rfl rfl 5 _ _ rfl 5 rfl (uo + k * 16) rfl (.int .u8 y) rfl (rfl) (HZ8.out) (HFIT.out) (cs.set (uo + k * 16) (.int .u8 y)) (rfl) ?_; clear H; intro wq HWwq H; simp only [List.set_cons_succ, List.set_cons_zero] at H)))
        go_roundw
        case rel => exact ⟨k + 1, by omega, by go_num, kp (Bump.step hne HGk.out (HOk2.out.trans (Out.of_ext _ HXN.out)) (H.out.at 0 rfl) HCS.out HWwq.out)⟩
        case measure => simp [intOf]; omega
    have e1 : (wI o.kind == 1) = false := (wI_beq o.kind 1#8).trans (by simp [hk1])
    by_cases hk2 : o.kind = 2#8
    · have e2 : (wI o.kind == 2) = true := by rw [hk2]; rfl
      have HQ := kp (send_okR (slot := o.slot) HL.out HN40.out)
      have HIa := kp (fun w' (h : Ext wr w') => send_any l HL.out u ks wa.heap.size (Nat.le_trans HN40.out (by decide)) o.slot w' (HM.out.pu.ext h))
      have HIb := kp (fun w' (h : Ext wr w') => rsend_any l HL.out v ks wa.heap.size (Nat.le_trans HN40.out (by decide)) o.slot w' (HM.out.pv.ext h))
      generalize sendF l ks o.slot = r at HQ HIa HIb
      obtain ⟨kk, num, m, ks2, er⟩ := r
      dsimp only at HQ
      have HLm := kp HQ.out.1
      have HN2 := kp HQ.out.2.1
      have HKK := kp HQ.out.2.2
      have HZm := kp (fun u => sizeR m u HLm.out)
      have HZK := kp (sizeKy kk HKK.out)
      have HKO := kp (all_V8 kk)
      have HKL := kp (show (zeroK.map V8).length = (kk.map V8).length by rw [List.length_map, List.length_map, HKK.out]; rfl)
      have hne2 : ∀ w, (binOp .neq 45 (.agg (kk.map V8).toArray) (.agg (kk.map V8).toArray)).run Try.prog w = .ok (.bool false) w := fun w => by rw [neKey w kk kk HKK.out HKK.out]; simp
      have hnn : (num != num) = false := by simp
      clear hc1 hc2 hc3
      subst h13
      go_wp2_with (first | ((with_reducible show wpList _ _ _ (Oper.mk (some 14) (Op.alloc 45) _ _ _ _ :: _) _ _); (with_reducible refine L_alloc H rfl 45 rfl (zeroK.map V8) (fun _ _ => by kernel_rfl) ?_); clear H; intro g14 w14 HGg14 HEg14 H; simp only [Act.put, List.setIfInBounds_toArray, List.set_cons_zero, List.set_cons_succ]) | (((with_reducible show wpList _ _ _ (Oper.mk (some 15) (Op.alloc 45) _ _ _ _ :: _) _ _); (with_reducible refine L_alloc H rfl 45 rfl (zeroK.map V8) (fun _ _ => by kernel_rfl) ?_); clear H; intro g15 w15 HGg15 HEg15 H; simp only [Act.put, List.setIfInBounds_toArray, List.set_cons_zero, List.set_cons_succ]); have hc1 := run_load_cell H.out 5 rfl _ _ HO1.out) | ((with_reducible show wpList _ _ _ (Oper.mk _ (Op.load 51 _) _ _ _ _ :: _) _ _); (refine wpList_load_rowG (by kernel_rfl) 51 _ rfl (g5) rfl 51 (cellsR l u).toArray (0, 0) _ (HL5.out.ext H.out.1) Try.underlying51 rfl (HZl.out _) ?_); simp only [Act.put, List.setIfInBounds_toArray, List.set_cons_zero, List.set_cons_succ]))
      have HALb := kp H.out.allLt
      have HSb := kp H.out.1.size
      have HE1415 := kp (HEg14.out.trans HEg15.out)
      have HS14 := kp (Nat.le_trans HE911.out.size (Nat.le_of_eq HGg14.out.symm))
      have HS15 := kp (Nat.le_trans (Nat.le_trans HE911.out.size HEg14.out.size) (Nat.le_of_eq HGg15.out.symm))
      clear HEg14 HEg15 HGg14 HGg15
      refine (HIa.out _ H.out.1).mono ?_
      rintro e2 wi ⟨u2, rfl, hp2, hx⟩
      have HP2 := kp hp2
      have HU2 := kp (slot_oneP hp2)
      clear hp2
      have H2 := kp (H.out.ext hx); have HXC := kp hx; clear H hx; have H := H2; clear H2
      have HX1 := HXC
      clear hc0 hc1 HXC
      dsimp only
      go_wp2_with (first | ((with_reducible show wpList _ _ _ (Oper.mk none (Op.store 45 _ _) _ _ _ _ :: _) _ _); (first | (refine L_store H rfl rfl 45 _ _ rfl 0 rfl rfl (kk.map V8) rfl (HZK.out) (HKL.out) (HKO.out) ?_; clear H; intro wk HWwk H; simp only [List.set_cons_zero] at H) | (refine L_store H rfl rfl 45 _ _ rfl 1 rfl rfl (kk.map V8) rfl (HZK.out) (HKL.out) (HKO.out) ?_; clear H; intro wk HWwk H; simp only [List.set_cons_succ, List.set_cons_zero] at H) | (refine L_store H rfl rfl 45 _ _ rfl 2 rfl rfl (kk.map V8) rfl (HZK.out) (HKL.out) (HKO.out) ?_; clear H; intro wk HWwk H; simp only [List.set_cons_succ, List.set_cons_zero] at H) | (refine L_store H rfl rfl 45 _ _ rfl 3 rfl rfl (kk.map V8) rfl (HZK.out) (HKL.out) (HKO.out) ?_; clear H; intro wk HWwk H; simp only [List.set_cons_succ, List.set_cons_zero] at H) | (refine L_store H rfl rfl 45 _ _ rfl 4 rfl rfl (kk.map V8) rfl (HZK.out) (HKL.out) (HKO.out) ?_; clear H; intro wk HWwk H; simp only [List.set_cons_succ, List.set_cons_zero] at H) | (refine L_store H rfl rfl 45 _ _ rfl 5 rfl rfl (kk.map V8) rfl (HZK.out) (HKL.out) (HKO.out) ?_; clear H; intro wk HWwk H; simp only [List.set_cons_succ, List.set_cons_zero] at H))) | (((with_reducible show wpList _ _ _ (Oper.mk none (Op.store 51 _ _) _ _ _ _ :: _) _ _); (first | (refine L_store H rfl rfl 51 _ _ rfl 0 rfl rfl (cellsR m u2) rfl (HZm.out _) (HLZ.out _ _ HLm.out) (HOB.out _ _ HU2.out) ?_; clear H; intro wz HWwz H; simp only [List.set_cons_zero] at H) | (refine L_store H rfl rfl 51 _ _ rfl 1 rfl rfl (cellsR m u2) rfl (HZm.out _) (HLZ.out _ _ HLm.out) (HOB.out _ _ HU2.out) ?_; clear H; intro wz HWwz H; simp only [List.set_cons_succ, List.set_cons_zero] at H) | (refine L_store H rfl rfl 51 _ _ rfl 2 rfl rfl (cellsR m u2) rfl (HZm.out _) (HLZ.out _ _ HLm.out) (HOB.out _ _ HU2.out) ?_; clear H; intro wz HWwz H; simp only [List.set_cons_succ, List.set_cons_zero] at H) | (refine L_store H rfl rfl 51 _ _ rfl 3 rfl rfl (cellsR m u2) rfl (HZm.out _) (HLZ.out _ _ HLm.out) (HOB.out _ _ HU2.out) ?_; clear H; intro wz HWwz H; simp only [List.set_cons_succ, List.set_cons_zero] at H) | (refine L_store H rfl rfl 51 _ _ rfl 4 rfl rfl (cellsR m u2) rfl (HZm.out _) (HLZ.out _ _ HLm.out) (HOB.out _ _ HU2.out) ?_; clear H; intro wz HWwz H; simp only [List.set_cons_succ, List.set_cons_zero] at H) | (refine L_store H rfl rfl 51 _ _ rfl 5 rfl rfl (cellsR m u2) rfl (HZm.out _) (HLZ.out _ _ HLm.out) (HOB.out _ _ HU2.out) ?_; clear H; intro wz HWwz H; simp only [List.set_cons_succ, List.set_cons_zero] at H))); have hc1 := run_load_cell H.out 5 rfl _ _ HO1.out) | ((with_reducible show wpList _ _ _ (Oper.mk _ (Op.load 51 _) _ _ _ _ :: _) _ _); (refine wpList_load_rowG (by kernel_rfl) 51 _ rfl (g6) rfl 51 (cellsR l v).toArray (0, 0) _ (HL6.out.ext H.out.1) Try.underlying51 rfl (HZl.out _) ?_); simp only [Act.put, List.setIfInBounds_toArray, List.set_cons_zero, List.set_cons_succ]))
      have HAL3 := kp H.out.allLt
      have HS3b := kp H.out.1.size
      refine (HIb.out _ H.out.1).mono ?_
      rintro e3 wj ⟨u3, rfl, hp3, hx⟩
      have HP3 := kp hp3
      have HU3 := kp (slot_oneP hp3)
      clear hp3
      have H2 := kp (H.out.ext hx); have HXC := kp hx; clear H hx; have H := H2; clear H2
      clear hc1
      dsimp only
      go_wp2_with (first | ((with_reducible show wpList _ _ _ (Oper.mk none (Op.store 45 _ _) _ _ _ _ :: _) _ _); (first | (refine L_store H rfl rfl 45 _ _ rfl 0 rfl rfl (kk.map V8) rfl (HZK.out) (HKL.out) (HKO.out) ?_; clear H; intro wk2 HWwk2 H; simp only [List.set_cons_zero] at H) | (refine L_store H rfl rfl 45 _ _ rfl 1 rfl rfl (kk.map V8) rfl (HZK.out) (HKL.out) (HKO.out) ?_; clear H; intro wk2 HWwk2 H; simp only [List.set_cons_succ, List.set_cons_zero] at H) | (refine L_store H rfl rfl 45 _ _ rfl 2 rfl rfl (kk.map V8) rfl (HZK.out) (HKL.out) (HKO.out) ?_; clear H; intro wk2 HWwk2 H; simp only [List.set_cons_succ, List.set_cons_zero] at H) | (refine L_store H rfl rfl 45 _ _ rfl 3 rfl rfl (kk.map V8) rfl (HZK.out) (HKL.out) (HKO.out) ?_; clear H; intro wk2 HWwk2 H; simp only [List.set_cons_succ, List.set_cons_zero] at H) | (refine L_store H rfl rfl 45 _ _ rfl 4 rfl rfl (kk.map V8) rfl (HZK.out) (HKL.out) (HKO.out) ?_; clear H; intro wk2 HWwk2 H; simp only [List.set_cons_succ, List.set_cons_zero] at H) | (refine L_store H rfl rfl 45 _ _ rfl 5 rfl rfl (kk.map V8) rfl (HZK.out) (HKL.out) (HKO.out) ?_; clear H; intro wk2 HWwk2 H; simp only [List.set_cons_succ, List.set_cons_zero] at H))) | (((with_reducible show wpList _ _ _ (Oper.mk none (Op.store 51 _ _) _ _ _ _ :: _) _ _); (first | (refine L_store H rfl rfl 51 _ _ rfl 0 rfl rfl (cellsR m u3) rfl (HZm.out _) (HLZ.out _ _ HLm.out) (HOB.out _ _ HU3.out) ?_; clear H; intro wt HWwt H; simp only [List.set_cons_zero] at H) | (refine L_store H rfl rfl 51 _ _ rfl 1 rfl rfl (cellsR m u3) rfl (HZm.out _) (HLZ.out _ _ HLm.out) (HOB.out _ _ HU3.out) ?_; clear H; intro wt HWwt H; simp only [List.set_cons_succ, List.set_cons_zero] at H) | (refine L_store H rfl rfl 51 _ _ rfl 2 rfl rfl (cellsR m u3) rfl (HZm.out _) (HLZ.out _ _ HLm.out) (HOB.out _ _ HU3.out) ?_; clear H; intro wt HWwt H; simp only [List.set_cons_succ, List.set_cons_zero] at H) | (refine L_store H rfl rfl 51 _ _ rfl 3 rfl rfl (cellsR m u3) rfl (HZm.out _) (HLZ.out _ _ HLm.out) (HOB.out _ _ HU3.out) ?_; clear H; intro wt HWwt H; simp only [List.set_cons_succ, List.set_cons_zero] at H) | (refine L_store H rfl rfl 51 _ _ rfl 4 rfl rfl (cellsR m u3) rfl (HZm.out _) (HLZ.out _ _ HLm.out) (HOB.out _ _ HU3.out) ?_; clear H; intro wt HWwt H; simp only [List.set_cons_succ, List.set_cons_zero] at H) | (refine L_store H rfl rfl 51 _ _ rfl 5 rfl rfl (cellsR m u3) rfl (HZm.out _) (HLZ.out _ _ HLm.out) (HOB.out _ _ HU3.out) ?_; clear H; intro wt HWwt H; simp only [List.set_cons_succ, List.set_cons_zero] at H)))) | ((with_reducible show wpList _ _ _ (Oper.mk _ (Op.load 45 _) _ _ _ _ :: _) _ _); (first | (refine L_load H rfl 45 _ rfl 0 rfl rfl Try.underlying45 rfl (HZK.out) ?_) | (refine L_load H rfl 45 _ rfl 1 rfl rfl Try.underlying45 rfl (HZK.out) ?_) | (refine L_load H rfl 45 _ rfl 2 rfl rfl Try.underlying45 rfl (HZK.out) ?_) | (refine L_load H rfl 45 _ rfl 3 rfl rfl Try.underlying45 rfl (HZK.out) ?_) | (refine L_load H rfl 45 _ rfl 4 rfl rfl Try.underlying45 rfl (HZK.out) ?_) | (refine L_load H rfl 45 _ rfl 5 rfl rfl Try.underlying45 rfl (HZK.out) ?_)); simp only [Act.put, List.setIfInBounds_toArray, List.set_cons_zero, List.set_cons_succ]))
      have HO23 := kp (((((HWwk.out.out (G := [g10, g11, g14, g15]) (by simp)).trans (HWwz.out.out (by simp))).trans (Out.of_ext _ HXC.out)).trans (HWwk2.out.out (by simp))).trans (HWwt.out.out (by simp)))
      have HP2t := kp ((HP2.out.out HO23.out (fun g hg => HALb.out g (by simp at hg; rcases hg with rfl | rfl | rfl | rfl <;> simp))).base HSb.out)
      have HP3t := kp ((HP3.out.out ((HWwk2.out.out (G := [g11, g15]) (by simp)).trans (HWwt.out.out (by simp))) (fun g hg => HAL3.out g (by simp at hg; rcases hg with rfl | rfl <;> simp))).base HS3b.out)
      have HP9t := kp (HP9b.out.outN ((Out.of_ext _ ((HE911.out.trans HE1415.out).trans HX1.out)).trans HO23.out) (fun g hg => by
        simp only [List.mem_cons, List.not_mem_nil, or_false] at hg
        rcases hg with rfl | rfl | rfl | rfl
        · exact HS10.out
        · exact HS11.out
        · exact HS14.out
        · exact HS15.out))
      clear HO23 HP2 HP3 HP9b HALb HAL3 HSb HS3b HX1 HXC hne2 hnn
      have HTL := kp H.out.tail.tail
      clear H
      have H := HTL
      clear HTL
      have HMt := kp (HM.out.ext H.out.1)
      have HLO0 := kp (H.out.le 0 rfl)
      have HLO1 := kp (H.out.le 1 rfl)
      have HLO2 := kp (H.out.le 2 rfl)
      have HLO3 := kp (H.out.le 3 rfl)
      have HS1 := kp (fun w' (h : Ext wt w') => rsame_P m HLm.out u2 u3 ks2 _ _ (Nat.le_trans HN2.out (by decide)) w' (HP2t.out.ext h) (HP3t.out.ext h))
      have HS2 := kp (fun w' (h : Ext wt w') => rsame_P l HL.out u u9 ks _ _ (Nat.le_trans HN40.out (by decide)) w' (HMt.out.pu.ext h) (HP9t.out.ext h))
      have HS3 := kp (fun w' (h : Ext wt w') => same_any m l HLm.out HL.out u2 u ks2 ks (Nat.le_trans HN2.out (by decide)) (Nat.le_trans HN40.out (by decide)) w' (HP2t.out.ext h).sly (HMt.out.pu.ext h).sly)
      have HS4 := kp (fun w' (h : Ext wt w') => rsame_any m l HLm.out HL.out u3 v ks2 ks (Nat.le_trans HN2.out (by decide)) (Nat.le_trans HN40.out (by decide)) w' (HP3t.out.ext h).sly (HMt.out.pv.ext h).sly)
      generalize sameF m l ks2 ks = sb at HS3 HS4
      have hee : (er != er) = false := by simp
      have hsb : (sb != sb) = false := by simp
      subst h29
      refine region_free H (tabS [(141, fun zv _ => zv = .int .i64 er), (142, fun zv _ => zv = .int .i64 er), (143, fun zv _ => zv = .bool false), (144, fun zv _ => zv = .bool false), (145, fun zv _ => zv = .agg (cellsR m u2).toArray), (146, fun zv _ => zv = .agg (cellsR m u3).toArray), (147, fun zv _ => zv = .bool true), (148, fun zv _ => zv = .bool false), (149, fun zv _ => zv = .bool false), (150, fun zv _ => zv = .bool false), (151, fun zv _ => zv = .agg (cellsR l u).toArray), (152, fun zv _ => zv = .agg (cellsR l u9).toArray), (153, fun zv _ => zv = .bool true), (154, fun zv _ => zv = .bool false), (155, fun zv _ => zv = .bool false), (156, fun zv _ => zv = .bool false), (157, fun zv _ => zv = .agg (cellsR m u2).toArray), (158, fun zv _ => zv = .agg (cellsR l u).toArray), (159, fun zv _ => zv = .bool sb), (160, fun zv _ => zv = .agg (cellsR m u3).toArray), (161, fun zv _ => zv = .agg (cellsR l v).toArray), (162, fun zv _ => zv = .bool sb), (163, fun zv _ => zv = .bool false), (164, fun zv _ => zv = .bool false)]) [] (tabS_out _ _ (by simp only [List.forall_mem_cons]; exact ⟨mono_eqO _ _, mono_eqO _ _, mono_eqO _ _, mono_eqO _ _, mono_eqO _ _, mono_eqO _ _, mono_eqO _ _, mono_eqO _ _, mono_eqO _ _, mono_eqO _ _, mono_eqO _ _, mono_eqO _ _, mono_eqO _ _, mono_eqO _ _, mono_eqO _ _, mono_eqO _ _, mono_eqO _ _, mono_eqO _ _, mono_eqO _ _, mono_eqO _ _, mono_eqO _ _, mono_eqO _ _, mono_eqO _ _, mono_eqO _ _, by simp⟩)) 24 (by kernel_rfl) (by kernel_rfl) (by kernel_rfl) (by kernel_rfl) [] [] rfl rfl (by decide) (by decide) (by decide) trivial ?_
      simp only [List.take_succ_cons, List.take_zero]
      refine ⟨fun wv141 hov141 hSv141 => ?_, fun v141 => ?_⟩
      · clear hSv141
        clear hov141
        go_wp2_with fail
        exact ⟨rfl, _, rfl, fun d hd => by cases hd; exact rfl, Ext.refl _⟩
      simp only [Act.put, List.setIfInBounds_toArray, List.set_cons_zero, List.set_cons_succ]
      refine ⟨fun wv142 hov142 hSv142 => ?_, fun v142 => ?_⟩
      · clear hSv142
        clear hov142
        go_wp2_with fail
        exact ⟨rfl, _, rfl, fun d hd => by cases hd; exact rfl, Ext.refl _⟩
      simp only [Act.put, List.setIfInBounds_toArray, List.set_cons_zero, List.set_cons_succ]
      refine ⟨fun wv143 hov143 hSv143 => ?_, fun v143 => ?_⟩
      · obtain rfl : v141 = .int .i64 er := hSv143 141 (by decide) (by decide)
        obtain rfl : v142 = .int .i64 er := hSv143 142 (by decide) (by decide)
        clear hSv143
        clear hov143
        go_wp2_with fail
        exact ⟨rfl, _, rfl, fun d hd => by cases hd; exact rfl, Ext.refl _⟩
      simp only [Act.put, List.setIfInBounds_toArray, List.set_cons_zero, List.set_cons_succ]
      refine ⟨fun wv144 hov144 hSv144 => ?_, fun v144 => ?_⟩
      · obtain rfl : v143 = .bool false := hSv144 143 (by decide) (by decide)
        clear hSv144
        clear hov144
        go_wp2_with fail
        exact ⟨rfl, _, rfl, fun d hd => by cases hd; exact rfl, Ext.refl _⟩
      simp only [Act.put, List.setIfInBounds_toArray, List.set_cons_zero, List.set_cons_succ]
      refine ⟨fun wv145 hov145 hSv145 => ?_, fun v145 => ?_⟩
      · obtain rfl : v144 = .bool false := hSv145 144 (by decide) (by decide)
        clear hSv145
        have H := kp (H.out.keep [0, 1, 2, 3] (St := []) trivial hov145 (by decide) (by kernel_rfl))
        have HOX := kp hov145
        clear hov145
        go_wp2_with ((with_reducible show wpList _ _ _ (Oper.mk _ (Op.load 51 _) _ _ _ _ :: _) _ _); (first | (refine L_loadG H (by kernel_rfl) 51 _ rfl 0 rfl rfl Try.underlying51 rfl (HZm.out _) ?_) | (refine L_loadG H (by kernel_rfl) 51 _ rfl 1 rfl rfl Try.underlying51 rfl (HZm.out _) ?_) | (refine L_loadG H (by kernel_rfl) 51 _ rfl 2 rfl rfl Try.underlying51 rfl (HZm.out _) ?_) | (refine L_loadG H (by kernel_rfl) 51 _ rfl 3 rfl rfl Try.underlying51 rfl (HZm.out _) ?_) | (refine L_loadG H (by kernel_rfl) 51 _ rfl 4 rfl rfl Try.underlying51 rfl (HZm.out _) ?_) | (refine L_loadG H (by kernel_rfl) 51 _ rfl 5 rfl rfl Try.underlying51 rfl (HZm.out _) ?_)); simp only [Act.put, List.setIfInBounds_toArray, List.set_cons_zero, List.set_cons_succ])
        exact ⟨rfl, _, rfl, fun d hd => by cases hd; exact rfl, Ext.refl _⟩
      simp only [Act.put, List.setIfInBounds_toArray, List.set_cons_zero, List.set_cons_succ]
      refine ⟨fun wv146 hov146 hSv146 => ?_, fun v146 => ?_⟩
      · obtain rfl : v144 = .bool false := hSv146 144 (by decide) (by decide)
        clear hSv146
        have H := kp (H.out.keep [0, 1, 2, 3] (St := []) trivial hov146 (by decide) (by kernel_rfl))
        have HOX := kp hov146
        clear hov146
        go_wp2_with ((with_reducible show wpList _ _ _ (Oper.mk _ (Op.load 51 _) _ _ _ _ :: _) _ _); (first | (refine L_loadG H (by kernel_rfl) 51 _ rfl 0 rfl rfl Try.underlying51 rfl (HZm.out _) ?_) | (refine L_loadG H (by kernel_rfl) 51 _ rfl 1 rfl rfl Try.underlying51 rfl (HZm.out _) ?_) | (refine L_loadG H (by kernel_rfl) 51 _ rfl 2 rfl rfl Try.underlying51 rfl (HZm.out _) ?_) | (refine L_loadG H (by kernel_rfl) 51 _ rfl 3 rfl rfl Try.underlying51 rfl (HZm.out _) ?_) | (refine L_loadG H (by kernel_rfl) 51 _ rfl 4 rfl rfl Try.underlying51 rfl (HZm.out _) ?_) | (refine L_loadG H (by kernel_rfl) 51 _ rfl 5 rfl rfl Try.underlying51 rfl (HZm.out _) ?_)); simp only [Act.put, List.setIfInBounds_toArray, List.set_cons_zero, List.set_cons_succ])
        exact ⟨rfl, _, rfl, fun d hd => by cases hd; exact rfl, Ext.refl _⟩
      simp only [Act.put, List.setIfInBounds_toArray, List.set_cons_zero, List.set_cons_succ]
      refine ⟨fun wv147 hov147 hSv147 => ?_, fun v147 => ?_⟩
      · obtain rfl : v144 = .bool false := hSv147 144 (by decide) (by decide)
        obtain rfl : v145 = .agg (cellsR m u2).toArray := hSv147 145 (by decide) (by decide)
        obtain rfl : v146 = .agg (cellsR m u3).toArray := hSv147 146 (by decide) (by decide)
        clear hSv147
        have H := kp (H.out.keep [0, 1, 2, 3] (St := []) trivial hov147 (by decide) (by kernel_rfl))
        have HOX := kp hov147
        clear hov147
        have HXZ := kp (HOX.out.ext (Ext.refl _) (fun g hg => by cases hg))
        go_wp2_with fail
        refine (HS1.out _ HXZ.out).mono ?_
        rintro e w2 ⟨rfl, hx⟩
        have HXW := kp hx
        clear hx
        go_wp2_with fail
        exact ⟨rfl, _, rfl, fun d hd => by cases hd; exact rfl, HXW.out⟩
      simp only [Act.put, List.setIfInBounds_toArray, List.set_cons_zero, List.set_cons_succ]
      refine ⟨fun wv148 hov148 hSv148 => ?_, fun v148 => ?_⟩
      · obtain rfl : v144 = .bool false := hSv148 144 (by decide) (by decide)
        obtain rfl : v147 = .bool true := hSv148 147 (by decide) (by decide)
        clear hSv148
        clear hov148
        go_wp2_with fail
        exact ⟨rfl, _, rfl, fun d hd => by cases hd; exact rfl, Ext.refl _⟩
      simp only [Act.put, List.setIfInBounds_toArray, List.set_cons_zero, List.set_cons_succ]
      refine ⟨fun wv149 hov149 hSv149 => ?_, fun v149 => ?_⟩
      · obtain rfl : v144 = .bool false := hSv149 144 (by decide) (by decide)
        obtain rfl : v148 = .bool false := hSv149 148 (by decide) (by decide)
        clear hSv149
        clear hov149
        go_wp2_with fail
        exact ⟨rfl, _, rfl, fun d hd => by cases hd; exact rfl, Ext.refl _⟩
      simp only [Act.put, List.setIfInBounds_toArray, List.set_cons_zero, List.set_cons_succ]
      refine ⟨fun wv150 hov150 hSv150 => ?_, fun v150 => ?_⟩
      · obtain rfl : v149 = .bool false := hSv150 149 (by decide) (by decide)
        clear hSv150
        clear hov150
        go_wp2_with fail
        exact ⟨rfl, _, rfl, fun d hd => by cases hd; exact rfl, Ext.refl _⟩
      simp only [Act.put, List.setIfInBounds_toArray, List.set_cons_zero, List.set_cons_succ]
      refine ⟨fun wv151 hov151 hSv151 => ?_, fun v151 => ?_⟩
      · obtain rfl : v150 = .bool false := hSv151 150 (by decide) (by decide)
        clear hSv151
        have H := kp (H.out.keep [0, 1, 2, 3] (St := []) trivial hov151 (by decide) (by kernel_rfl))
        have HOX := kp hov151
        clear hov151
        go_wp2_with ((with_reducible show wpList _ _ _ (Oper.mk _ (Op.load 51 _) _ _ _ _ :: _) _ _); (refine wpList_load_rowG (by kernel_rfl) 51 _ rfl (g5) rfl 51 (cellsR l u).toArray (0, 0) _ (HL5.out.ext H.out.1) Try.underlying51 rfl (HZl.out _) ?_); simp only [Act.put, List.setIfInBounds_toArray, List.set_cons_zero, List.set_cons_succ])
        exact ⟨rfl, _, rfl, fun d hd => by cases hd; exact rfl, Ext.refl _⟩
      simp only [Act.put, List.setIfInBounds_toArray, List.set_cons_zero, List.set_cons_succ]
      refine ⟨fun wv152 hov152 hSv152 => ?_, fun v152 => ?_⟩
      · obtain rfl : v150 = .bool false := hSv152 150 (by decide) (by decide)
        clear hSv152
        have H := kp (H.out.keep [0, 1, 2, 3] (St := []) trivial hov152 (by decide) (by kernel_rfl))
        have HOX := kp hov152
        clear hov152
        go_wp2_with ((with_reducible show wpList _ _ _ (Oper.mk _ (Op.load 51 _) _ _ _ _ :: _) _ _); (first | (refine L_loadG H (by kernel_rfl) 51 _ rfl 0 rfl rfl Try.underlying51 rfl (HZl.out _) ?_) | (refine L_loadG H (by kernel_rfl) 51 _ rfl 1 rfl rfl Try.underlying51 rfl (HZl.out _) ?_) | (refine L_loadG H (by kernel_rfl) 51 _ rfl 2 rfl rfl Try.underlying51 rfl (HZl.out _) ?_) | (refine L_loadG H (by kernel_rfl) 51 _ rfl 3 rfl rfl Try.underlying51 rfl (HZl.out _) ?_) | (refine L_loadG H (by kernel_rfl) 51 _ rfl 4 rfl rfl Try.underlying51 rfl (HZl.out _) ?_) | (refine L_loadG H (by kernel_rfl) 51 _ rfl 5 rfl rfl Try.underlying51 rfl (HZl.out _) ?_)); simp only [Act.put, List.setIfInBounds_toArray, List.set_cons_zero, List.set_cons_succ])
        exact ⟨rfl, _, rfl, fun d hd => by cases hd; exact rfl, Ext.refl _⟩
      simp only [Act.put, List.setIfInBounds_toArray, List.set_cons_zero, List.set_cons_succ]
      refine ⟨fun wv153 hov153 hSv153 => ?_, fun v153 => ?_⟩
      · obtain rfl : v150 = .bool false := hSv153 150 (by decide) (by decide)
        obtain rfl : v151 = .agg (cellsR l u).toArray := hSv153 151 (by decide) (by decide)
        obtain rfl : v152 = .agg (cellsR l u9).toArray := hSv153 152 (by decide) (by decide)
        clear hSv153
        have H := kp (H.out.keep [0, 1, 2, 3] (St := []) trivial hov153 (by decide) (by kernel_rfl))
        have HOX := kp hov153
        clear hov153
        have HXZ := kp (HOX.out.ext (Ext.refl _) (fun g hg => by cases hg))
        go_wp2_with fail
        refine (HS2.out _ HXZ.out).mono ?_
        rintro e w2 ⟨rfl, hx⟩
        have HXW := kp hx
        clear hx
        go_wp2_with fail
        exact ⟨rfl, _, rfl, fun d hd => by cases hd; exact rfl, HXW.out⟩
      simp only [Act.put, List.setIfInBounds_toArray, List.set_cons_zero, List.set_cons_succ]
      refine ⟨fun wv154 hov154 hSv154 => ?_, fun v154 => ?_⟩
      · obtain rfl : v150 = .bool false := hSv154 150 (by decide) (by decide)
        obtain rfl : v153 = .bool true := hSv154 153 (by decide) (by decide)
        clear hSv154
        clear hov154
        go_wp2_with fail
        exact ⟨rfl, _, rfl, fun d hd => by cases hd; exact rfl, Ext.refl _⟩
      simp only [Act.put, List.setIfInBounds_toArray, List.set_cons_zero, List.set_cons_succ]
      refine ⟨fun wv155 hov155 hSv155 => ?_, fun v155 => ?_⟩
      · obtain rfl : v150 = .bool false := hSv155 150 (by decide) (by decide)
        obtain rfl : v154 = .bool false := hSv155 154 (by decide) (by decide)
        clear hSv155
        clear hov155
        go_wp2_with fail
        exact ⟨rfl, _, rfl, fun d hd => by cases hd; exact rfl, Ext.refl _⟩
      simp only [Act.put, List.setIfInBounds_toArray, List.set_cons_zero, List.set_cons_succ]
      refine ⟨fun wv156 hov156 hSv156 => ?_, fun v156 => ?_⟩
      · obtain rfl : v155 = .bool false := hSv156 155 (by decide) (by decide)
        clear hSv156
        clear hov156
        go_wp2_with fail
        exact ⟨rfl, _, rfl, fun d hd => by cases hd; exact rfl, Ext.refl _⟩
      simp only [Act.put, List.setIfInBounds_toArray, List.set_cons_zero, List.set_cons_succ]
      refine ⟨fun wv157 hov157 hSv157 => ?_, fun v157 => ?_⟩
      · obtain rfl : v156 = .bool false := hSv157 156 (by decide) (by decide)
        clear hSv157
        have H := kp (H.out.keep [0, 1, 2, 3] (St := []) trivial hov157 (by decide) (by kernel_rfl))
        have HOX := kp hov157
        clear hov157
        go_wp2_with ((with_reducible show wpList _ _ _ (Oper.mk _ (Op.load 51 _) _ _ _ _ :: _) _ _); (first | (refine L_loadG H (by kernel_rfl) 51 _ rfl 0 rfl rfl Try.underlying51 rfl (HZm.out _) ?_) | (refine L_loadG H (by kernel_rfl) 51 _ rfl 1 rfl rfl Try.underlying51 rfl (HZm.out _) ?_) | (refine L_loadG H (by kernel_rfl) 51 _ rfl 2 rfl rfl Try.underlying51 rfl (HZm.out _) ?_) | (refine L_loadG H (by kernel_rfl) 51 _ rfl 3 rfl rfl Try.underlying51 rfl (HZm.out _) ?_) | (refine L_loadG H (by kernel_rfl) 51 _ rfl 4 rfl rfl Try.underlying51 rfl (HZm.out _) ?_) | (refine L_loadG H (by kernel_rfl) 51 _ rfl 5 rfl rfl Try.underlying51 rfl (HZm.out _) ?_)); simp only [Act.put, List.setIfInBounds_toArray, List.set_cons_zero, List.set_cons_succ])
        exact ⟨rfl, _, rfl, fun d hd => by cases hd; exact rfl, Ext.refl _⟩
      simp only [Act.put, List.setIfInBounds_toArray, List.set_cons_zero, List.set_cons_succ]
      refine ⟨fun wv158 hov158 hSv158 => ?_, fun v158 => ?_⟩
      · obtain rfl : v156 = .bool false := hSv158 156 (by decide) (by decide)
        clear hSv158
        have H := kp (H.out.keep [0, 1, 2, 3] (St := []) trivial hov158 (by decide) (by kernel_rfl))
        have HOX := kp hov158
        clear hov158
        go_wp2_with ((with_reducible show wpList _ _ _ (Oper.mk _ (Op.load 51 _) _ _ _ _ :: _) _ _); (refine wpList_load_rowG (by kernel_rfl) 51 _ rfl (g5) rfl 51 (cellsR l u).toArray (0, 0) _ (HL5.out.ext H.out.1) Try.underlying51 rfl (HZl.out _) ?_); simp only [Act.put, List.setIfInBounds_toArray, List.set_cons_zero, List.set_cons_succ])
        exact ⟨rfl, _, rfl, fun d hd => by cases hd; exact rfl, Ext.refl _⟩
      simp only [Act.put, List.setIfInBounds_toArray, List.set_cons_zero, List.set_cons_succ]
      refine ⟨fun wv159 hov159 hSv159 => ?_, fun v159 => ?_⟩
      · obtain rfl : v156 = .bool false := hSv159 156 (by decide) (by decide)
        obtain rfl : v157 = .agg (cellsR m u2).toArray := hSv159 157 (by decide) (by decide)
        obtain rfl : v158 = .agg (cellsR l u).toArray := hSv159 158 (by decide) (by decide)
        clear hSv159
        have H := kp (H.out.keep [0, 1, 2, 3] (St := []) trivial hov159 (by decide) (by kernel_rfl))
        have HOX := kp hov159
        clear hov159
        have HXZ := kp (HOX.out.ext (Ext.refl _) (fun g hg => by cases hg))
        go_wp2_with fail
        refine (HS3.out _ HXZ.out).mono ?_
        rintro e w2 ⟨rfl, hx⟩
        have HXW := kp hx
        clear hx
        go_wp2_with fail
        exact ⟨rfl, _, rfl, fun d hd => by cases hd; exact rfl, HXW.out⟩
      simp only [Act.put, List.setIfInBounds_toArray, List.set_cons_zero, List.set_cons_succ]
      refine ⟨fun wv160 hov160 hSv160 => ?_, fun v160 => ?_⟩
      · obtain rfl : v156 = .bool false := hSv160 156 (by decide) (by decide)
        clear hSv160
        have H := kp (H.out.keep [0, 1, 2, 3] (St := []) trivial hov160 (by decide) (by kernel_rfl))
        have HOX := kp hov160
        clear hov160
        go_wp2_with ((with_reducible show wpList _ _ _ (Oper.mk _ (Op.load 51 _) _ _ _ _ :: _) _ _); (first | (refine L_loadG H (by kernel_rfl) 51 _ rfl 0 rfl rfl Try.underlying51 rfl (HZm.out _) ?_) | (refine L_loadG H (by kernel_rfl) 51 _ rfl 1 rfl rfl Try.underlying51 rfl (HZm.out _) ?_) | (refine L_loadG H (by kernel_rfl) 51 _ rfl 2 rfl rfl Try.underlying51 rfl (HZm.out _) ?_) | (refine L_loadG H (by kernel_rfl) 51 _ rfl 3 rfl rfl Try.underlying51 rfl (HZm.out _) ?_) | (refine L_loadG H (by kernel_rfl) 51 _ rfl 4 rfl rfl Try.underlying51 rfl (HZm.out _) ?_) | (refine L_loadG H (by kernel_rfl) 51 _ rfl 5 rfl rfl Try.underlying51 rfl (HZm.out _) ?_)); simp only [Act.put, List.setIfInBounds_toArray, List.set_cons_zero, List.set_cons_succ])
        exact ⟨rfl, _, rfl, fun d hd => by cases hd; exact rfl, Ext.refl _⟩
      simp only [Act.put, List.setIfInBounds_toArray, List.set_cons_zero, List.set_cons_succ]
      refine ⟨fun wv161 hov161 hSv161 => ?_, fun v161 => ?_⟩
      · obtain rfl : v156 = .bool false := hSv161 156 (by decide) (by decide)
        clear hSv161
        have H := kp (H.out.keep [0, 1, 2, 3] (St := []) trivial hov161 (by decide) (by kernel_rfl))
        have HOX := kp hov161
        clear hov161
        go_wp2_with ((with_reducible show wpList _ _ _ (Oper.mk _ (Op.load 51 _) _ _ _ _ :: _) _ _); (refine wpList_load_rowG (by kernel_rfl) 51 _ rfl (g6) rfl 51 (cellsR l v).toArray (0, 0) _ (HL6.out.ext H.out.1) Try.underlying51 rfl (HZl.out _) ?_); simp only [Act.put, List.setIfInBounds_toArray, List.set_cons_zero, List.set_cons_succ])
        exact ⟨rfl, _, rfl, fun d hd => by cases hd; exact rfl, Ext.refl _⟩
      simp only [Act.put, List.setIfInBounds_toArray, List.set_cons_zero, List.set_cons_succ]
      refine ⟨fun wv162 hov162 hSv162 => ?_, fun v162 => ?_⟩
      · obtain rfl : v156 = .bool false := hSv162 156 (by decide) (by decide)
        obtain rfl : v160 = .agg (cellsR m u3).toArray := hSv162 160 (by decide) (by decide)
        obtain rfl : v161 = .agg (cellsR l v).toArray := hSv162 161 (by decide) (by decide)
        clear hSv162
        have H := kp (H.out.keep [0, 1, 2, 3] (St := []) trivial hov162 (by decide) (by kernel_rfl))
        have HOX := kp hov162
        clear hov162
        have HXZ := kp (HOX.out.ext (Ext.refl _) (fun g hg => by cases hg))
        go_wp2_with fail
        refine (HS4.out _ HXZ.out).mono ?_
        rintro e w2 ⟨rfl, hx⟩
        have HXW := kp hx
        clear hx
        go_wp2_with fail
        exact ⟨rfl, _, rfl, fun d hd => by cases hd; exact rfl, HXW.out⟩
      simp only [Act.put, List.setIfInBounds_toArray, List.set_cons_zero, List.set_cons_succ]
      refine ⟨fun wv163 hov163 hSv163 => ?_, fun v163 => ?_⟩
      · obtain rfl : v156 = .bool false := hSv163 156 (by decide) (by decide)
        obtain rfl : v159 = .bool sb := hSv163 159 (by decide) (by decide)
        obtain rfl : v162 = .bool sb := hSv163 162 (by decide) (by decide)
        clear hSv163
        clear hov163
        go_wp2_with fail
        exact ⟨rfl, _, rfl, fun d hd => by cases hd; exact rfl, Ext.refl _⟩
      simp only [Act.put, List.setIfInBounds_toArray, List.set_cons_zero, List.set_cons_succ]
      refine ⟨fun wv164 hov164 hSv164 => ?_, fun v164 => ?_⟩
      · obtain rfl : v156 = .bool false := hSv164 156 (by decide) (by decide)
        obtain rfl : v163 = .bool false := hSv164 163 (by decide) (by decide)
        clear hSv164
        clear hov164
        go_wp2_with fail
        exact ⟨rfl, _, rfl, fun d hd => by cases hd; exact rfl, Ext.refl _⟩
      simp only [Act.put, List.setIfInBounds_toArray, List.set_cons_zero, List.set_cons_succ]
      clear H
      intro wn HOX H hfin
      obtain rfl : v141 = .int .i64 er := hfin 141 (by decide)
      obtain rfl : v142 = .int .i64 er := hfin 142 (by decide)
      obtain rfl : v143 = .bool false := hfin 143 (by decide)
      obtain rfl : v144 = .bool false := hfin 144 (by decide)
      obtain rfl : v145 = .agg (cellsR m u2).toArray := hfin 145 (by decide)
      obtain rfl : v146 = .agg (cellsR m u3).toArray := hfin 146 (by decide)
      obtain rfl : v147 = .bool true := hfin 147 (by decide)
      obtain rfl : v148 = .bool false := hfin 148 (by decide)
      obtain rfl : v149 = .bool false := hfin 149 (by decide)
      obtain rfl : v150 = .bool false := hfin 150 (by decide)
      obtain rfl : v151 = .agg (cellsR l u).toArray := hfin 151 (by decide)
      obtain rfl : v152 = .agg (cellsR l u9).toArray := hfin 152 (by decide)
      obtain rfl : v153 = .bool true := hfin 153 (by decide)
      obtain rfl : v154 = .bool false := hfin 154 (by decide)
      obtain rfl : v155 = .bool false := hfin 155 (by decide)
      obtain rfl : v156 = .bool false := hfin 156 (by decide)
      obtain rfl : v157 = .agg (cellsR m u2).toArray := hfin 157 (by decide)
      obtain rfl : v158 = .agg (cellsR l u).toArray := hfin 158 (by decide)
      obtain rfl : v159 = .bool sb := hfin 159 (by decide)
      obtain rfl : v160 = .agg (cellsR m u3).toArray := hfin 160 (by decide)
      obtain rfl : v161 = .agg (cellsR l v).toArray := hfin 161 (by decide)
      obtain rfl : v162 = .bool sb := hfin 162 (by decide)
      obtain rfl : v163 = .bool false := hfin 163 (by decide)
      obtain rfl : v164 = .bool false := hfin 164 (by decide)
      clear hfin
      simp only [List.drop_succ_cons, List.drop_zero]
      simp only [applyS] at H
      have HXN := kp (HOX.out.ext (Ext.refl wt) (fun g hg => by cases hg))
      have HMn := kp (HMt.out.ext HXN.out)
      have HP2n := kp (HP2t.out.ext HXN.out)
      have HP3n := kp (HP3t.out.ext HXN.out)
      clear HS1 HS2 HS3 HS4 hee hsb HMt HP2t HP3t HP9t HXN HOX
      by_cases her : er = 0
      case neg =>
        have he0 : (er == 0) = false := by simp [her]
        go_wp2_with fail
        subst h31
        go_wp2_with fail
        go_roundw
        case rel => exact ⟨j + 1, l, u, v, ks, by omega, by go_num, HL, kp (HW.out.ext H.out.1), HMn⟩
        case measure => simp [intOf]; omega
      subst her
      have HJ := kp (HW.out.join H.out)
      clear H
      have H := HJ
      clear HJ
      simp only [List.cons_append, List.nil_append] at H
      have HB := kp (Bump.start HMn.out.pu HG0.out)
      have HNM := kp (show ∀ g, ks ≠ [] → u.ownBlock = some g → g ∉ [g11, g10, g9, g8, g6, g5, g2] from fun g hne hg hm => by
        have h1 := HM.out.pu.lt hne g hg
        have h2 := HM.out.pu.ge g hg
        simp only [List.mem_cons, List.not_mem_nil, or_false] at hm
        rcases hm with hm | hm | hm | hm | hm | hm | hm
        · have := HLO0.out; dsimp only at this; omega
        · have := HLO1.out; dsimp only at this; omega
        · have := HLO2.out; dsimp only at this; omega
        · have := HLO3.out; dsimp only at this; omega
        · exact HM.out.u6 (by rw [hg, hm])
        · exact HM.out.u5 (by rw [hg, hm])
        · have := HG2.out; omega)
      have HWB := kp (show ∀ g, u.ownBlock = some g → w.heap.size ≤ g from fun g hg => Nat.le_trans HWA.out (HM.out.pu.ge g hg))
      have HLTW := kp (show ∀ g, ks ≠ [] → u.ownBlock = some g → g < wr.heap.size from fun g hne hg => HM.out.pu.lt hne g hg)
      have HPO := kp (show u.oneCell' = true from slot_oneP HM.out.pu)
      have HCP := kp (cellsR_past l u HL.out)
      have HLQ := kp (fun u' => cellsR_len2 l m u u' HL.out HLm.out)
      have HLQ2 := kp (fun u' => cellsR_len2 l m v u' HL.out HLm.out)
      obtain ⟨au, cu, huf⟩ := HM.out.pu.sly.form
      subst huf
      go_wp2_with fail
      subst h31
      go_wp2_with fail
      go_loopw [18] (fun i18 wv => ∃ k : Nat, k ≤ ks.length ∧ i18 = .int .i64 k ∧ Kp (Bump wn wv (.slice au ks.length cu) ks)) (fun i18 _ => ks.length - (intOf i18).toNat)
      case atStart => exact ⟨0, by omega, rfl, HB⟩
      case round =>
        obtain ⟨k, hk, rfl, HBk⟩ := hrel
        obtain ⟨G, hG, ho, hrow⟩ := HBk.out
        have HK := kp (H.out.out ho (fun g hg => HWB.out g (hG g hg).2) (fun g hg => HNM.out g (hG g hg).1 (hG g hg).2))
        by_cases hkn : k < ks.length
        case neg =>
          have HPF := kp ((HP2n.out.out ho (fun g hg => HLTW.out g (hG g hg).1 (hG g hg).2)))
          have HPG := kp ((HP3n.out.out ho (fun g hg => HLTW.out g (hG g hg).1 (hG g hg).2)))
          have hcp := run_load_cell HK.out 5 rfl _ _ HCP.out
          have hkI : ¬ (k : Int) < ks.length := by omega
          clear hG ho hrow H
          have H := HK
          go_wp2_with fail
          clear hcp
          refine region_free H (tabS [(183, fun zv _ => zv = .agg (cellsR m u2).toArray), (184, fun zv _ => zv = .agg (cellsR m u3).toArray)]) [⟨2, 5, g5, 51, cellsR l (.slice au ks.length cu), cellsR m u2⟩, ⟨3, 4, g6, 51, cellsR l v, cellsR m u3⟩] (tabS_out _ _ (by simp only [List.forall_mem_cons]; exact ⟨mono_eqO _ _, mono_eqO _ _, by simp⟩)) 4 (by kernel_rfl) (by kernel_rfl) (by kernel_rfl) (by kernel_rfl) [2, 3] [5, 4] rfl rfl (by decide) (by decide) (by decide) ⟨rfl, rfl, trivial⟩ ?_
          simp only [List.take_succ_cons, List.take_zero]
          refine ⟨fun wv183 hov183 hSv183 => ?_, fun v183 => ?_⟩
          · clear hSv183
            have H := kp (H.out.keep [0, 1, 2, 3, 6] (St := [⟨2, 5, g5, 51, cellsR l (.slice au ks.length cu), cellsR m u2⟩, ⟨3, 4, g6, 51, cellsR l v, cellsR m u3⟩]) ⟨rfl, rfl, trivial⟩ hov183 (by decide) (by kernel_rfl))
            have HOX := kp hov183
            clear hov183
            go_wp2_with ((with_reducible show wpList _ _ _ (Oper.mk _ (Op.load 51 _) _ _ _ _ :: _) _ _); (first | (refine L_load H rfl 51 _ rfl 0 rfl rfl Try.underlying51 rfl (HZm.out _) ?_) | (refine L_load H rfl 51 _ rfl 1 rfl rfl Try.underlying51 rfl (HZm.out _) ?_) | (refine L_load H rfl 51 _ rfl 2 rfl rfl Try.underlying51 rfl (HZm.out _) ?_) | (refine L_load H rfl 51 _ rfl 3 rfl rfl Try.underlying51 rfl (HZm.out _) ?_) | (refine L_load H rfl 51 _ rfl 4 rfl rfl Try.underlying51 rfl (HZm.out _) ?_) | (refine L_load H rfl 51 _ rfl 5 rfl rfl Try.underlying51 rfl (HZm.out _) ?_)); simp only [Act.put, List.setIfInBounds_toArray, List.set_cons_zero, List.set_cons_succ])
            exact ⟨rfl, _, rfl, fun d hd => by cases hd; exact rfl, Ext.refl _⟩
          simp only [Act.put, List.setIfInBounds_toArray, List.set_cons_zero, List.set_cons_succ]
          refine ⟨fun wv184 hov184 hSv184 => ?_, fun v184 => ?_⟩
          · clear hSv184
            have H := kp (H.out.keep [0, 1, 2, 3, 6] (St := [⟨2, 5, g5, 51, cellsR l (.slice au ks.length cu), cellsR m u2⟩, ⟨3, 4, g6, 51, cellsR l v, cellsR m u3⟩]) ⟨rfl, rfl, trivial⟩ hov184 (by decide) (by kernel_rfl))
            have HOX := kp hov184
            clear hov184
            go_wp2_with ((with_reducible show wpList _ _ _ (Oper.mk _ (Op.load 51 _) _ _ _ _ :: _) _ _); (first | (refine L_load H rfl 51 _ rfl 0 rfl rfl Try.underlying51 rfl (HZm.out _) ?_) | (refine L_load H rfl 51 _ rfl 1 rfl rfl Try.underlying51 rfl (HZm.out _) ?_) | (refine L_load H rfl 51 _ rfl 2 rfl rfl Try.underlying51 rfl (HZm.out _) ?_) | (refine L_load H rfl 51 _ rfl 3 rfl rfl Try.underlying51 rfl (HZm.out _) ?_) | (refine L_load H rfl 51 _ rfl 4 rfl rfl Try.underlying51 rfl (HZm.out _) ?_) | (refine L_load H rfl 51 _ rfl 5 rfl rfl Try.underlying51 rfl (HZm.out _) ?_)); simp only [Act.put, List.setIfInBounds_toArray, List.set_cons_zero, List.set_cons_succ])
            exact ⟨rfl, _, rfl, fun d hd => by cases hd; exact rfl, Ext.refl _⟩
          simp only [Act.put, List.setIfInBounds_toArray, List.set_cons_zero, List.set_cons_succ]
          refine ⟨⟨rfl, rfl, fun ws2 hos2 hSs2 hLs2 => ?_⟩, ?_⟩
          · obtain rfl : v183 = .agg (cellsR m u2).toArray := hSs2 183 (by decide) (by decide)
            exact run_sto 51 _ _ rfl rfl rfl hLs2 (HZm.out _) (HLQ.out _) (HOB.out _ _ HU2.out)
          refine ⟨⟨rfl, rfl, fun ws3 hos3 hSs3 hLs3 => ?_⟩, ?_⟩
          · obtain rfl : v184 = .agg (cellsR m u3).toArray := hSs3 184 (by decide) (by decide)
            exact run_sto 51 _ _ rfl rfl rfl hLs3 (HZm.out _) (HLQ2.out _) (HOB.out _ _ HU3.out)
          clear H
          intro w36 HOX H hfin
          obtain rfl : v183 = .agg (cellsR m u2).toArray := hfin 183 (by decide)
          obtain rfl : v184 = .agg (cellsR m u3).toArray := hfin 184 (by decide)
          clear hfin
          simp only [List.drop_succ_cons, List.drop_zero]
          simp only [applyS] at H
          simp only [List.set_cons_zero, List.set_cons_succ] at H
          have HL56 := kp (show ∀ g ∈ [g5, g6], g < _ from fun g hg => by
            simp only [List.mem_cons, List.not_mem_nil, or_false] at hg
            rcases hg with rfl | rfl
            · exact HL5.out.lt
            · exact HL6.out.lt)
          have HPFx := kp (HPF.out.out HOX.out HL56.out)
          have HPGx := kp (HPG.out.out HOX.out HL56.out)
          have HBW := kp (Nat.le_of_lt (Nat.lt_of_le_of_lt HG5.out HL5.out.lt))
          go_wp2_with fail
          go_roundw
          case rel => exact ⟨j + 1, m, u2, u3, ks2, by omega, by go_num, HLm, kp H.out.tail.tail.tail.tail, kp ⟨HPFx.out.base HBW.out, HPGx.out.base HBW.out, HPF.out.sep HL5.out.lt, HPF.out.sep HL6.out.lt, HPG.out.sep HL5.out.lt, HPG.out.sep HL6.out.lt, HN2.out⟩⟩
          case measure => simp [intOf]; omega
        have hne : ks ≠ [] := by intro e; rw [e] at hkn; simp at hkn
        have hlen40 : ks.length ≤ 40 := HN40.out
        obtain ⟨bu, uo, uc, ut, cs, hu, hlc, hcs⟩ := hrow hne
        cases hu
        have HK2 := kp (HK.out.addN (HNM.out bu hne rfl) (HWB.out bu rfl) hlc)
        obtain ⟨z, hz⟩ := hcs (k * 16) (by omega)
        have hcp := run_load_cell HK2.out 6 rfl _ _ HCP.out
        have hcb := run_load_cell HK2.out 0 rfl _ _ hz
        have HGk := kp hG
        have HOk2 := kp ho
        have HCS := kp hcs
        have HFIT := kp (List.getElem?_eq_some_iff.1 hz).1
        have HZc := kp hz
        clear hG ho hrow hz hcs hlc H
        have H := HK2
        have hkI : (k : Int) < ks.length := by omega
        have HZ8 := kp (show (Try.prog.info? 5).map (·.size) = some 1 from by kernel_rfl)
        go_wp2_with fail
        clear hcp hcb
        refine region_free H (tabS [(174, fun zv _ => zv = .pointer (some ⟨g5, 144, none⟩)), (175, fun zv _ => zv = .slice (some ⟨bu, uo, none⟩) ks.length cu), (176, fun zv _ => zv = .int .i64 k), (177, fun zv _ => zv = .pointer (some ⟨bu, uo + k * 16, none⟩)), (178, fun zv _ => zv = .pointer (some ⟨bu, uo + k * 16, none⟩)), (179, fun zv _ => zv = .int .u8 z), (180, fun zv _ => ∃ y, zv = .int .u8 y), (181, fun zv _ => zv = .pointer (some ⟨bu, uo + k * 16, none⟩)), (182, fun zv _ => zv = .pointer (some ⟨bu, uo + k * 16, none⟩))]) [] (tabS_out _ _ (by simp only [List.forall_mem_cons]; exact ⟨mono_eqO _ _, mono_eqO _ _, mono_eqO _ _, mono_eqO _ _, mono_eqO _ _, mono_eqO _ _, (fun _ _ _ h _ => h), mono_eqO _ _, mono_eqO _ _, by simp⟩)) 9 (by kernel_rfl) (by kernel_rfl) (by kernel_rfl) (by kernel_rfl) [] [] rfl rfl (by decide) (by decide) (by decide) trivial ?_
        simp only [List.take_succ_cons, List.take_zero]
        refine ⟨fun wv174 hov174 hSv174 => ?_, fun v174 => ?_⟩
        · clear hSv174
          clear hov174
          go_wp2_with fail
          exact ⟨rfl, _, rfl, fun d hd => by cases hd; exact rfl, Ext.refl _⟩
        simp only [Act.put, List.setIfInBounds_toArray, List.set_cons_zero, List.set_cons_succ]
        refine ⟨fun wv175 hov175 hSv175 => ?_, fun v175 => ?_⟩
        · obtain rfl : v174 = .pointer (some ⟨g5, 144, none⟩) := hSv175 174 (by decide) (by decide)
          clear hSv175
          have H := kp (H.out.keep [0, 1, 2, 3, 4, 5, 6, 7] (St := []) trivial hov175 (by decide) (by kernel_rfl))
          have HOX := kp hov175
          clear hov175
          have hc := run_load_cell H.out 6 rfl _ _ HCP.out
          go_wp2_with fail
          exact ⟨rfl, _, rfl, fun d hd => by cases hd; exact rfl, Ext.refl _⟩
        simp only [Act.put, List.setIfInBounds_toArray, List.set_cons_zero, List.set_cons_succ]
        refine ⟨fun wv176 hov176 hSv176 => ?_, fun v176 => ?_⟩
        · clear hSv176
          clear hov176
          go_wp2_with fail
          exact ⟨rfl, _, rfl, fun d hd => by cases hd; exact rfl, Ext.refl _⟩
        simp only [Act.put, List.setIfInBounds_toArray, List.set_cons_zero, List.set_cons_succ]
        refine ⟨fun wv177 hov177 hSv177 => ?_, fun v177 => ?_⟩
        · obtain rfl : v175 = .slice (some ⟨bu, uo, none⟩) ks.length cu := hSv177 175 (by decide) (by decide)
          obtain rfl : v176 = .int .i64 k := hSv177 176 (by decide) (by decide)
          clear hSv177
          clear hov177
          go_wp2_with fail
          exact ⟨rfl, _, rfl, fun d hd => by cases hd; exact rfl, Ext.refl _⟩
        simp only [Act.put, List.setIfInBounds_toArray, List.set_cons_zero, List.set_cons_succ]
        refine ⟨fun wv178 hov178 hSv178 => ?_, fun v178 => ?_⟩
        · obtain rfl : v177 = .pointer (some ⟨bu, uo + k * 16, none⟩) := hSv178 177 (by decide) (by decide)
          clear hSv178
          clear hov178
          go_wp2_with fail
          exact ⟨rfl, _, rfl, fun d hd => by cases hd; exact rfl, Ext.refl _⟩
        simp only [Act.put, List.setIfInBounds_toArray, List.set_cons_zero, List.set_cons_succ]
        refine ⟨fun wv179 hov179 hSv179 => ?_, fun v179 => ?_⟩
        · obtain rfl : v178 = .pointer (some ⟨bu, uo + k * 16, none⟩) := hSv179 178 (by decide) (by decide)
          clear hSv179
          have H := kp (H.out.keep [0, 1, 2, 3, 4, 5, 6, 7] (St := []) trivial hov179 (by decide) (by kernel_rfl))
          have HOX := kp hov179
          clear hov179
          have hc := run_load_cell H.out 0 rfl _ _ HZc.out
          go_wp2_with fail
          exact ⟨rfl, _, rfl, fun d hd => by cases hd; exact rfl, Ext.refl _⟩
        simp only [Act.put, List.setIfInBounds_toArray, List.set_cons_zero, List.set_cons_succ]
        refine ⟨fun wv180 hov180 hSv180 => ?_, fun v180 => ?_⟩
        · obtain rfl : v179 = .int .u8 z := hSv180 179 (by decide) (by decide)
          clear hSv180
          have H := kp (H.out.keep [0, 1, 2, 3, 4, 5, 6, 7] (St := []) trivial hov180 (by decide) (by kernel_rfl))
          have HOX := kp hov180
          clear hov180
          go_wp2_with fail
          exact ⟨rfl, _, rfl, fun d hd => by cases hd; exact ⟨_, rfl⟩, Ext.refl _⟩
        simp only [Act.put, List.setIfInBounds_toArray, List.set_cons_zero, List.set_cons_succ]
        refine ⟨fun wv181 hov181 hSv181 => ?_, fun v181 => ?_⟩
        · obtain rfl : v175 = .slice (some ⟨bu, uo, none⟩) ks.length cu := hSv181 175 (by decide) (by decide)
          obtain rfl : v176 = .int .i64 k := hSv181 176 (by decide) (by decide)
          clear hSv181
          clear hov181
          go_wp2_with fail
          exact ⟨rfl, _, rfl, fun d hd => by cases hd; exact rfl, Ext.refl _⟩
        simp only [Act.put, List.setIfInBounds_toArray, List.set_cons_zero, List.set_cons_succ]
        refine ⟨fun wv182 hov182 hSv182 => ?_, fun v182 => ?_⟩
        · obtain rfl : v181 = .pointer (some ⟨bu, uo + k * 16, none⟩) := hSv182 181 (by decide) (by decide)
          clear hSv182
          clear hov182
          go_wp2_with fail
          exact ⟨rfl, _, rfl, fun d hd => by cases hd; exact rfl, Ext.refl _⟩
        simp only [Act.put, List.setIfInBounds_toArray, List.set_cons_zero, List.set_cons_succ]
        clear H
        intro w35 HOX H hfin
        obtain rfl : v174 = .pointer (some ⟨g5, 144, none⟩) := hfin 174 (by decide)
        obtain rfl : v175 = .slice (some ⟨bu, uo, none⟩) ks.length cu := hfin 175 (by decide)
        obtain rfl : v176 = .int .i64 k := hfin 176 (by decide)
        obtain rfl : v177 = .pointer (some ⟨bu, uo + k * 16, none⟩) := hfin 177 (by decide)
        obtain rfl : v178 = .pointer (some ⟨bu, uo + k * 16, none⟩) := hfin 178 (by decide)
        obtain rfl : v179 = .int .u8 z := hfin 179 (by decide)
        have F180 := kp (show ∃ y, v180 = .int .u8 y from hfin 180 (by decide))
        obtain rfl : v181 = .pointer (some ⟨bu, uo + k * 16, none⟩) := hfin 181 (by decide)
        obtain rfl : v182 = .pointer (some ⟨bu, uo + k * 16, none⟩) := hfin 182 (by decide)
        clear hfin
        simp only [List.drop_succ_cons, List.drop_zero]
        simp only [applyS] at H
        have HXN := kp (HOX.out.ext (Ext.refl wr) (fun g hg => by cases hg))
        obtain ⟨y, rfl⟩ := F180.out
        go_wp2_with ((with_reducible show wpList _ _ _ (Oper.mk none (Op.store 5 _ _) _ _ _ _ :: _) _ _); (first | (refine L_cell H rfl rfl 5 _ _ rfl 0 rfl (uo + k * 16) rfl (.int .u8 y) rfl (rfl) (HZ8.out) (HFIT.out) (cs.set (uo + k * 16) (.int .u8 y)) (rfl) ?_; clear H; intro wq HWwq H; simp only [List.set_cons_zero] at H) | (refine L_cell H rfl rfl 5 _ _ rfl 1 rfl (uo + k * 16) rfl (.int .u8 y) rfl (rfl) (HZ8.out) (HFIT.out) (cs.set (uo + k * 16) (.int .u8 y)) (rfl) ?_; clear H; intro wq HWwq H; simp only [List.set_cons_succ, List.set_cons_zero] at H) | (refine L_cell H rfl rfl 5 _ _ rfl 2 rfl (uo + k * 16) rfl (.int .u8 y) rfl (rfl) (HZ8.out) (HFIT.out) (cs.set (uo + k * 16) (.int .u8 y)) (rfl) ?_; clear H; intro wq HWwq H; simp only [List.set_cons_succ, List.set_cons_zero] at H) | (refine L_cell H rfl rfl 5 _ _ rfl 3 rfl (uo + k * 16) rfl (.int .u8 y) rfl (rfl) (HZ8.out) (HFIT.out) (cs.set (uo + k * 16) (.int .u8 y)) (rfl) ?_; clear H; intro wq HWwq H; simp only [List.set_cons_succ, List.set_cons_zero] at H) | (refine L_cell H rfl rfl 5 _ _ rfl 4 rfl (uo + k * 16) rfl (.int .u8 y) rfl (rfl) (HZ8.out) (HFIT.out) (cs.set (uo + k * 16) (.int .u8 y)) (rfl) ?_; clear H; intro wq HWwq H; simp only [List.set_cons_succ, List.set_cons_zero] at H) | (refine L_cell H rfl rfl 5 _ _ rfl 5 rfl (uo + k * 16) rfl (.int .u8 y) rfl (rfl) (HZ8.out) (HFIT.out) (cs.set (uo + k * 16) (.int .u8 y)) (rfl) ?_; clear H; intro wq HWwq H; simp only [List.set_cons_succ, List.set_cons_zero] at H)))
        go_roundw
        case rel => exact ⟨k + 1, by omega, by go_num, kp (Bump.step hne HGk.out (HOk2.out.trans (Out.of_ext _ HXN.out)) (H.out.at 0 rfl) HCS.out HWwq.out)⟩
        case measure => simp [intOf]; omega
    have e2 : (wI o.kind == 2) = false := (wI_beq o.kind 2#8).trans (by simp [hk2])
    have HQ := kp (receive_okR (slot := o.slot) (tid := o.tid) (n := o.num) HL.out HN40.out)
    have HIa := kp (receive_any l HL.out u ks wa.heap.size (Nat.le_trans HN40.out (by decide)) o.slot o.tid o.num _ (HM.out.pu.ext H.out.1))
    have HIb := kp (fun w' (h : Ext wr w') => rreceive_any l HL.out v ks wa.heap.size (Nat.le_trans HN40.out (by decide)) o.slot o.tid o.num w' (HM.out.pv.ext h))
    generalize receiveF l ks o.slot o.tid o.num = q at HQ HIa HIb
    obtain ⟨⟨m, ks2⟩, er⟩ := q
    have HLm := kp HQ.out.1
    have HN2 := kp HQ.out.2
    have HZm := kp (fun u => sizeR m u HLm.out)
    have HALb := kp H.out.allLt
    have HSb := kp H.out.1.size
    subst h13
    go_wp2_with (first | ((with_reducible show wpList _ _ _ (Oper.mk _ (Op.load 51 _) _ _ _ _ :: _) _ _); (refine wpList_load_rowG (by kernel_rfl) 51 _ rfl (g5) rfl 51 (cellsR l u).toArray (0, 0) _ (HL5.out.ext H.out.1) Try.underlying51 rfl (HZl.out _) ?_); simp only [Act.put, List.setIfInBounds_toArray, List.set_cons_zero, List.set_cons_succ]) | ((with_reducible show wpList _ _ _ (Oper.mk _ (Op.load 45 _) _ _ _ _ :: _) _ _); (first | (refine L_sub H rfl 45 _ rfl 0 rfl (4) rfl (o.key.map V8) (HO4.out) Try.underlying45 rfl (HZKl.out) ?_) | (refine L_sub H rfl 45 _ rfl 1 rfl (4) rfl (o.key.map V8) (HO4.out) Try.underlying45 rfl (HZKl.out) ?_) | (refine L_sub H rfl 45 _ rfl 2 rfl (4) rfl (o.key.map V8) (HO4.out) Try.underlying45 rfl (HZKl.out) ?_) | (refine L_sub H rfl 45 _ rfl 3 rfl (4) rfl (o.key.map V8) (HO4.out) Try.underlying45 rfl (HZKl.out) ?_) | (refine L_sub H rfl 45 _ rfl 4 rfl (4) rfl (o.key.map V8) (HO4.out) Try.underlying45 rfl (HZKl.out) ?_) | (refine L_sub H rfl 45 _ rfl 5 rfl (4) rfl (o.key.map V8) (HO4.out) Try.underlying45 rfl (HZKl.out) ?_)); simp only [Act.put, List.setIfInBounds_toArray, List.set_cons_zero, List.set_cons_succ]))
    refine HIa.out.mono ?_
    rintro e2 wi ⟨u2, rfl, hp2, hx⟩
    have HP2 := kp hp2
    have HU2 := kp (slot_oneP hp2)
    clear hp2
    have H2 := kp (H.out.ext hx); have HXC := kp hx; clear H hx; have H := H2; clear H2
    have HX1 := HXC
    clear hc0 hc1 hc2 hc3 HXC
    dsimp only
    go_wp2_with (first | (((with_reducible show wpList _ _ _ (Oper.mk none (Op.store 51 _ _) _ _ _ _ :: _) _ _); (first | (refine L_store H rfl rfl 51 _ _ rfl 0 rfl rfl (cellsR m u2) rfl (HZm.out _) (HLZ.out _ _ HLm.out) (HOB.out _ _ HU2.out) ?_; clear H; intro wz HWwz H; simp only [List.set_cons_zero] at H) | (refine L_store H rfl rfl 51 _ _ rfl 1 rfl rfl (cellsR m u2) rfl (HZm.out _) (HLZ.out _ _ HLm.out) (HOB.out _ _ HU2.out) ?_; clear H; intro wz HWwz H; simp only [List.set_cons_succ, List.set_cons_zero] at H) | (refine L_store H rfl rfl 51 _ _ rfl 2 rfl rfl (cellsR m u2) rfl (HZm.out _) (HLZ.out _ _ HLm.out) (HOB.out _ _ HU2.out) ?_; clear H; intro wz HWwz H; simp only [List.set_cons_succ, List.set_cons_zero] at H) | (refine L_store H rfl rfl 51 _ _ rfl 3 rfl rfl (cellsR m u2) rfl (HZm.out _) (HLZ.out _ _ HLm.out) (HOB.out _ _ HU2.out) ?_; clear H; intro wz HWwz H; simp only [List.set_cons_succ, List.set_cons_zero] at H) | (refine L_store H rfl rfl 51 _ _ rfl 4 rfl rfl (cellsR m u2) rfl (HZm.out _) (HLZ.out _ _ HLm.out) (HOB.out _ _ HU2.out) ?_; clear H; intro wz HWwz H; simp only [List.set_cons_succ, List.set_cons_zero] at H) | (refine L_store H rfl rfl 51 _ _ rfl 5 rfl rfl (cellsR m u2) rfl (HZm.out _) (HLZ.out _ _ HLm.out) (HOB.out _ _ HU2.out) ?_; clear H; intro wz HWwz H; simp only [List.set_cons_succ, List.set_cons_zero] at H))); have hc1 := run_load_cell H.out 3 rfl _ _ HO1.out; have hc2 := run_load_cell H.out 3 rfl _ _ HO2.out; have hc3 := run_load_cell H.out 3 rfl _ _ HO3.out) | ((with_reducible show wpList _ _ _ (Oper.mk _ (Op.load 51 _) _ _ _ _ :: _) _ _); (refine wpList_load_rowG (by kernel_rfl) 51 _ rfl (g6) rfl 51 (cellsR l v).toArray (0, 0) _ (HL6.out.ext H.out.1) Try.underlying51 rfl (HZl.out _) ?_); simp only [Act.put, List.setIfInBounds_toArray, List.set_cons_zero, List.set_cons_succ]) | ((with_reducible show wpList _ _ _ (Oper.mk _ (Op.load 45 _) _ _ _ _ :: _) _ _); (first | (refine L_sub H rfl 45 _ rfl 0 rfl (4) rfl (o.key.map V8) (HO4.out) Try.underlying45 rfl (HZKl.out) ?_) | (refine L_sub H rfl 45 _ rfl 1 rfl (4) rfl (o.key.map V8) (HO4.out) Try.underlying45 rfl (HZKl.out) ?_) | (refine L_sub H rfl 45 _ rfl 2 rfl (4) rfl (o.key.map V8) (HO4.out) Try.underlying45 rfl (HZKl.out) ?_) | (refine L_sub H rfl 45 _ rfl 3 rfl (4) rfl (o.key.map V8) (HO4.out) Try.underlying45 rfl (HZKl.out) ?_) | (refine L_sub H rfl 45 _ rfl 4 rfl (4) rfl (o.key.map V8) (HO4.out) Try.underlying45 rfl (HZKl.out) ?_) | (refine L_sub H rfl 45 _ rfl 5 rfl (4) rfl (o.key.map V8) (HO4.out) Try.underlying45 rfl (HZKl.out) ?_)); simp only [Act.put, List.setIfInBounds_toArray, List.set_cons_zero, List.set_cons_succ]))
    refine (HIb.out _ H.out.1).mono ?_
    rintro e3 wj ⟨u3, rfl, hp3, hx⟩
    have HP3 := kp hp3
    have HU3 := kp (slot_oneP hp3)
    clear hp3
    have HAL3 := kp H.out.allLt
    have HS3b := kp H.out.1.size
    have H2 := kp (H.out.ext hx); have HXC := kp hx; clear H hx; have H := H2; clear H2
    clear hc1 hc2 hc3
    dsimp only
    go_wp2_with (first | (((with_reducible show wpList _ _ _ (Oper.mk none (Op.store 51 _ _) _ _ _ _ :: _) _ _); (first | (refine L_store H rfl rfl 51 _ _ rfl 0 rfl rfl (cellsR m u3) rfl (HZm.out _) (HLZ.out _ _ HLm.out) (HOB.out _ _ HU3.out) ?_; clear H; intro wt HWwt H; simp only [List.set_cons_zero] at H) | (refine L_store H rfl rfl 51 _ _ rfl 1 rfl rfl (cellsR m u3) rfl (HZm.out _) (HLZ.out _ _ HLm.out) (HOB.out _ _ HU3.out) ?_; clear H; intro wt HWwt H; simp only [List.set_cons_succ, List.set_cons_zero] at H) | (refine L_store H rfl rfl 51 _ _ rfl 2 rfl rfl (cellsR m u3) rfl (HZm.out _) (HLZ.out _ _ HLm.out) (HOB.out _ _ HU3.out) ?_; clear H; intro wt HWwt H; simp only [List.set_cons_succ, List.set_cons_zero] at H) | (refine L_store H rfl rfl 51 _ _ rfl 3 rfl rfl (cellsR m u3) rfl (HZm.out _) (HLZ.out _ _ HLm.out) (HOB.out _ _ HU3.out) ?_; clear H; intro wt HWwt H; simp only [List.set_cons_succ, List.set_cons_zero] at H) | (refine L_store H rfl rfl 51 _ _ rfl 4 rfl rfl (cellsR m u3) rfl (HZm.out _) (HLZ.out _ _ HLm.out) (HOB.out _ _ HU3.out) ?_; clear H; intro wt HWwt H; simp only [List.set_cons_succ, List.set_cons_zero] at H) | (refine L_store H rfl rfl 51 _ _ rfl 5 rfl rfl (cellsR m u3) rfl (HZm.out _) (HLZ.out _ _ HLm.out) (HOB.out _ _ HU3.out) ?_; clear H; intro wt HWwt H; simp only [List.set_cons_succ, List.set_cons_zero] at H)))))
    have HO23 := kp (((HWwz.out.out (G := [g10, g11]) (by simp)).trans (Out.of_ext _ HXC.out)).trans (HWwt.out.out (by simp)))
    have HP2t := kp ((HP2.out.out HO23.out (fun g hg => HALb.out g (by simp at hg; rcases hg with rfl | rfl <;> simp))).base HSb.out)
    have HP3t := kp ((HP3.out.out (HWwt.out.out (G := [g11]) (by simp)) (fun g hg => HAL3.out g (by simp at hg; simp [hg]))).base HS3b.out)
    have HP9t := kp (HP9b.out.outN ((Out.of_ext _ (HE911.out.trans HX1.out)).trans HO23.out) (fun g hg => by
      simp only [List.mem_cons, List.not_mem_nil, or_false] at hg
      rcases hg with rfl | rfl
      · exact HS10.out
      · exact HS11.out))
    clear HO23 HP2 HP3 HP9b HALb HAL3 HSb HS3b HX1 HXC
    have HMt := kp (HM.out.ext H.out.1)
    have HLO0 := kp (H.out.le 0 rfl)
    have HLO1 := kp (H.out.le 1 rfl)
    have HLO2 := kp (H.out.le 2 rfl)
    have HLO3 := kp (H.out.le 3 rfl)
    have HS1 := kp (fun w' (h : Ext wt w') => rsame_P m HLm.out u2 u3 ks2 _ _ (Nat.le_trans HN2.out (by decide)) w' (HP2t.out.ext h) (HP3t.out.ext h))
    have HS2 := kp (fun w' (h : Ext wt w') => rsame_P l HL.out u u9 ks _ _ (Nat.le_trans HN40.out (by decide)) w' (HMt.out.pu.ext h) (HP9t.out.ext h))
    have HS3 := kp (fun w' (h : Ext wt w') => same_any m l HLm.out HL.out u2 u ks2 ks (Nat.le_trans HN2.out (by decide)) (Nat.le_trans HN40.out (by decide)) w' (HP2t.out.ext h).sly (HMt.out.pu.ext h).sly)
    have HS4 := kp (fun w' (h : Ext wt w') => rsame_any m l HLm.out HL.out u3 v ks2 ks (Nat.le_trans HN2.out (by decide)) (Nat.le_trans HN40.out (by decide)) w' (HP3t.out.ext h).sly (HMt.out.pv.ext h).sly)
    generalize sameF m l ks2 ks = sb at HS3 HS4
    have hee : (er != er) = false := by simp
    have hsb : (sb != sb) = false := by simp
    subst h29
    refine region_free H (tabS [(141, fun zv _ => zv = .int .i64 er), (142, fun zv _ => zv = .int .i64 er), (143, fun zv _ => zv = .bool false), (144, fun zv _ => zv = .bool false), (145, fun zv _ => zv = .agg (cellsR m u2).toArray), (146, fun zv _ => zv = .agg (cellsR m u3).toArray), (147, fun zv _ => zv = .bool true), (148, fun zv _ => zv = .bool false), (149, fun zv _ => zv = .bool false), (150, fun zv _ => zv = .bool false), (151, fun zv _ => zv = .agg (cellsR l u).toArray), (152, fun zv _ => zv = .agg (cellsR l u9).toArray), (153, fun zv _ => zv = .bool true), (154, fun zv _ => zv = .bool false), (155, fun zv _ => zv = .bool false), (156, fun zv _ => zv = .bool false), (157, fun zv _ => zv = .agg (cellsR m u2).toArray), (158, fun zv _ => zv = .agg (cellsR l u).toArray), (159, fun zv _ => zv = .bool sb), (160, fun zv _ => zv = .agg (cellsR m u3).toArray), (161, fun zv _ => zv = .agg (cellsR l v).toArray), (162, fun zv _ => zv = .bool sb), (163, fun zv _ => zv = .bool false), (164, fun zv _ => zv = .bool false)]) [] (tabS_out _ _ (by simp only [List.forall_mem_cons]; exact ⟨mono_eqO _ _, mono_eqO _ _, mono_eqO _ _, mono_eqO _ _, mono_eqO _ _, mono_eqO _ _, mono_eqO _ _, mono_eqO _ _, mono_eqO _ _, mono_eqO _ _, mono_eqO _ _, mono_eqO _ _, mono_eqO _ _, mono_eqO _ _, mono_eqO _ _, mono_eqO _ _, mono_eqO _ _, mono_eqO _ _, mono_eqO _ _, mono_eqO _ _, mono_eqO _ _, mono_eqO _ _, mono_eqO _ _, mono_eqO _ _, by simp⟩)) 24 (by kernel_rfl) (by kernel_rfl) (by kernel_rfl) (by kernel_rfl) [] [] rfl rfl (by decide) (by decide) (by decide) trivial ?_
    simp only [List.take_succ_cons, List.take_zero]
    refine ⟨fun wv141 hov141 hSv141 => ?_, fun v141 => ?_⟩
    · clear hSv141
      clear hov141
      go_wp2_with fail
      exact ⟨rfl, _, rfl, fun d hd => by cases hd; exact rfl, Ext.refl _⟩
    simp only [Act.put, List.setIfInBounds_toArray, List.set_cons_zero, List.set_cons_succ]
    refine ⟨fun wv142 hov142 hSv142 => ?_, fun v142 => ?_⟩
    · clear hSv142
      clear hov142
      go_wp2_with fail
      exact ⟨rfl, _, rfl, fun d hd => by cases hd; exact rfl, Ext.refl _⟩
    simp only [Act.put, List.setIfInBounds_toArray, List.set_cons_zero, List.set_cons_succ]
    refine ⟨fun wv143 hov143 hSv143 => ?_, fun v143 => ?_⟩
    · obtain rfl : v141 = .int .i64 er := hSv143 141 (by decide) (by decide)
      obtain rfl : v142 = .int .i64 er := hSv143 142 (by decide) (by decide)
      clear hSv143
      clear hov143
      go_wp2_with fail
      exact ⟨rfl, _, rfl, fun d hd => by cases hd; exact rfl, Ext.refl _⟩
    simp only [Act.put, List.setIfInBounds_toArray, List.set_cons_zero, List.set_cons_succ]
    refine ⟨fun wv144 hov144 hSv144 => ?_, fun v144 => ?_⟩
    · obtain rfl : v143 = .bool false := hSv144 143 (by decide) (by decide)
      clear hSv144
      clear hov144
      go_wp2_with fail
      exact ⟨rfl, _, rfl, fun d hd => by cases hd; exact rfl, Ext.refl _⟩
    simp only [Act.put, List.setIfInBounds_toArray, List.set_cons_zero, List.set_cons_succ]
    refine ⟨fun wv145 hov145 hSv145 => ?_, fun v145 => ?_⟩
    · obtain rfl : v144 = .bool false := hSv145 144 (by decide) (by decide)
      clear hSv145
      have H := kp (H.out.keep [0, 1, 2, 3] (St := []) trivial hov145 (by decide) (by kernel_rfl))
      have HOX := kp hov145
      clear hov145
      go_wp2_with ((with_reducible show wpList _ _ _ (Oper.mk _ (Op.load 51 _) _ _ _ _ :: _) _ _); (first | (refine L_loadG H (by kernel_rfl) 51 _ rfl 0 rfl rfl Try.underlying51 rfl (HZm.out _) ?_) | (refine L_loadG H (by kernel_rfl) 51 _ rfl 1 rfl rfl Try.underlying51 rfl (HZm.out _) ?_) | (refine L_loadG H (by kernel_rfl) 51 _ rfl 2 rfl rfl Try.underlying51 rfl (HZm.out _) ?_) | (refine L_loadG H (by kernel_rfl) 51 _ rfl 3 rfl rfl Try.underlying51 rfl (HZm.out _) ?_) | (refine L_loadG H (by kernel_rfl) 51 _ rfl 4 rfl rfl Try.underlying51 rfl (HZm.out _) ?_) | (refine L_loadG H (by kernel_rfl) 51 _ rfl 5 rfl rfl Try.underlying51 rfl (HZm.out _) ?_)); simp only [Act.put, List.setIfInBounds_toArray, List.set_cons_zero, List.set_cons_succ])
      exact ⟨rfl, _, rfl, fun d hd => by cases hd; exact rfl, Ext.refl _⟩
    simp only [Act.put, List.setIfInBounds_toArray, List.set_cons_zero, List.set_cons_succ]
    refine ⟨fun wv146 hov146 hSv146 => ?_, fun v146 => ?_⟩
    · obtain rfl : v144 = .bool false := hSv146 144 (by decide) (by decide)
      clear hSv146
      have H := kp (H.out.keep [0, 1, 2, 3] (St := []) trivial hov146 (by decide) (by kernel_rfl))
      have HOX := kp hov146
      clear hov146
      go_wp2_with ((with_reducible show wpList _ _ _ (Oper.mk _ (Op.load 51 _) _ _ _ _ :: _) _ _); (first | (refine L_loadG H (by kernel_rfl) 51 _ rfl 0 rfl rfl Try.underlying51 rfl (HZm.out _) ?_) | (refine L_loadG H (by kernel_rfl) 51 _ rfl 1 rfl rfl Try.underlying51 rfl (HZm.out _) ?_) | (refine L_loadG H (by kernel_rfl) 51 _ rfl 2 rfl rfl Try.underlying51 rfl (HZm.out _) ?_) | (refine L_loadG H (by kernel_rfl) 51 _ rfl 3 rfl rfl Try.underlying51 rfl (HZm.out _) ?_) | (refine L_loadG H (by kernel_rfl) 51 _ rfl 4 rfl rfl Try.underlying51 rfl (HZm.out _) ?_) | (refine L_loadG H (by kernel_rfl) 51 _ rfl 5 rfl rfl Try.underlying51 rfl (HZm.out _) ?_)); simp only [Act.put, List.setIfInBounds_toArray, List.set_cons_zero, List.set_cons_succ])
      exact ⟨rfl, _, rfl, fun d hd => by cases hd; exact rfl, Ext.refl _⟩
    simp only [Act.put, List.setIfInBounds_toArray, List.set_cons_zero, List.set_cons_succ]
    refine ⟨fun wv147 hov147 hSv147 => ?_, fun v147 => ?_⟩
    · obtain rfl : v144 = .bool false := hSv147 144 (by decide) (by decide)
      obtain rfl : v145 = .agg (cellsR m u2).toArray := hSv147 145 (by decide) (by decide)
      obtain rfl : v146 = .agg (cellsR m u3).toArray := hSv147 146 (by decide) (by decide)
      clear hSv147
      have H := kp (H.out.keep [0, 1, 2, 3] (St := []) trivial hov147 (by decide) (by kernel_rfl))
      have HOX := kp hov147
      clear hov147
      have HXZ := kp (HOX.out.ext (Ext.refl _) (fun g hg => by cases hg))
      go_wp2_with fail
      refine (HS1.out _ HXZ.out).mono ?_
      rintro e w2 ⟨rfl, hx⟩
      have HXW := kp hx
      clear hx
      go_wp2_with fail
      exact ⟨rfl, _, rfl, fun d hd => by cases hd; exact rfl, HXW.out⟩
    simp only [Act.put, List.setIfInBounds_toArray, List.set_cons_zero, List.set_cons_succ]
    refine ⟨fun wv148 hov148 hSv148 => ?_, fun v148 => ?_⟩
    · obtain rfl : v144 = .bool false := hSv148 144 (by decide) (by decide)
      obtain rfl : v147 = .bool true := hSv148 147 (by decide) (by decide)
      clear hSv148
      clear hov148
      go_wp2_with fail
      exact ⟨rfl, _, rfl, fun d hd => by cases hd; exact rfl, Ext.refl _⟩
    simp only [Act.put, List.setIfInBounds_toArray, List.set_cons_zero, List.set_cons_succ]
    refine ⟨fun wv149 hov149 hSv149 => ?_, fun v149 => ?_⟩
    · obtain rfl : v144 = .bool false := hSv149 144 (by decide) (by decide)
      obtain rfl : v148 = .bool false := hSv149 148 (by decide) (by decide)
      clear hSv149
      clear hov149
      go_wp2_with fail
      exact ⟨rfl, _, rfl, fun d hd => by cases hd; exact rfl, Ext.refl _⟩
    simp only [Act.put, List.setIfInBounds_toArray, List.set_cons_zero, List.set_cons_succ]
    refine ⟨fun wv150 hov150 hSv150 => ?_, fun v150 => ?_⟩
    · obtain rfl : v149 = .bool false := hSv150 149 (by decide) (by decide)
      clear hSv150
      clear hov150
      go_wp2_with fail
      exact ⟨rfl, _, rfl, fun d hd => by cases hd; exact rfl, Ext.refl _⟩
    simp only [Act.put, List.setIfInBounds_toArray, List.set_cons_zero, List.set_cons_succ]
    refine ⟨fun wv151 hov151 hSv151 => ?_, fun v151 => ?_⟩
    · obtain rfl : v150 = .bool false := hSv151 150 (by decide) (by decide)
      clear hSv151
      have H := kp (H.out.keep [0, 1, 2, 3] (St := []) trivial hov151 (by decide) (by kernel_rfl))
      have HOX := kp hov151
      clear hov151
      go_wp2_with ((with_reducible show wpList _ _ _ (Oper.mk _ (Op.load 51 _) _ _ _ _ :: _) _ _); (refine wpList_load_rowG (by kernel_rfl) 51 _ rfl (g5) rfl 51 (cellsR l u).toArray (0, 0) _ (HL5.out.ext H.out.1) Try.underlying51 rfl (HZl.out _) ?_); simp only [Act.put, List.setIfInBounds_toArray, List.set_cons_zero, List.set_cons_succ])
      exact ⟨rfl, _, rfl, fun d hd => by cases hd; exact rfl, Ext.refl _⟩
    simp only [Act.put, List.setIfInBounds_toArray, List.set_cons_zero, List.set_cons_succ]
    refine ⟨fun wv152 hov152 hSv152 => ?_, fun v152 => ?_⟩
    · obtain rfl : v150 = .bool false := hSv152 150 (by decide) (by decide)
      clear hSv152
      have H := kp (H.out.keep [0, 1, 2, 3] (St := []) trivial hov152 (by decide) (by kernel_rfl))
      have HOX := kp hov152
      clear hov152
      go_wp2_with ((with_reducible show wpList _ _ _ (Oper.mk _ (Op.load 51 _) _ _ _ _ :: _) _ _); (first | (refine L_loadG H (by kernel_rfl) 51 _ rfl 0 rfl rfl Try.underlying51 rfl (HZl.out _) ?_) | (refine L_loadG H (by kernel_rfl) 51 _ rfl 1 rfl rfl Try.underlying51 rfl (HZl.out _) ?_) | (refine L_loadG H (by kernel_rfl) 51 _ rfl 2 rfl rfl Try.underlying51 rfl (HZl.out _) ?_) | (refine L_loadG H (by kernel_rfl) 51 _ rfl 3 rfl rfl Try.underlying51 rfl (HZl.out _) ?_) | (refine L_loadG H (by kernel_rfl) 51 _ rfl 4 rfl rfl Try.underlying51 rfl (HZl.out _) ?_) | (refine L_loadG H (by kernel_rfl) 51 _ rfl 5 rfl rfl Try.underlying51 rfl (HZl.out _) ?_)); simp only [Act.put, List.setIfInBounds_toArray, List.set_cons_zero, List.set_cons_succ])
      exact ⟨rfl, _, rfl, fun d hd => by cases hd; exact rfl, Ext.refl _⟩
    simp only [Act.put, List.setIfInBounds_toArray, List.set_cons_zero, List.set_cons_succ]
    refine ⟨fun wv153 hov153 hSv153 => ?_, fun v153 => ?_⟩
    · obtain rfl : v150 = .bool false := hSv153 150 (by decide) (by decide)
      obtain rfl : v151 = .agg (cellsR l u).toArray := hSv153 151 (by decide) (by decide)
      obtain rfl : v152 = .agg (cellsR l u9).toArray := hSv153 152 (by decide) (by decide)
      clear hSv153
      have H := kp (H.out.keep [0, 1, 2, 3] (St := []) trivial hov153 (by decide) (by kernel_rfl))
      have HOX := kp hov153
      clear hov153
      have HXZ := kp (HOX.out.ext (Ext.refl _) (fun g hg => by cases hg))
      go_wp2_with fail
      refine (HS2.out _ HXZ.out).mono ?_
      rintro e w2 ⟨rfl, hx⟩
      have HXW := kp hx
      clear hx
      go_wp2_with fail
      exact ⟨rfl, _, rfl, fun d hd => by cases hd; exact rfl, HXW.out⟩
    simp only [Act.put, List.setIfInBounds_toArray, List.set_cons_zero, List.set_cons_succ]
    refine ⟨fun wv154 hov154 hSv154 => ?_, fun v154 => ?_⟩
    · obtain rfl : v150 = .bool false := hSv154 150 (by decide) (by decide)
      obtain rfl : v153 = .bool true := hSv154 153 (by decide) (by decide)
      clear hSv154
      clear hov154
      go_wp2_with fail
      exact ⟨rfl, _, rfl, fun d hd => by cases hd; exact rfl, Ext.refl _⟩
    simp only [Act.put, List.setIfInBounds_toArray, List.set_cons_zero, List.set_cons_succ]
    refine ⟨fun wv155 hov155 hSv155 => ?_, fun v155 => ?_⟩
    · obtain rfl : v150 = .bool false := hSv155 150 (by decide) (by decide)
      obtain rfl : v154 = .bool false := hSv155 154 (by decide) (by decide)
      clear hSv155
      clear hov155
      go_wp2_with fail
      exact ⟨rfl, _, rfl, fun d hd => by cases hd; exact rfl, Ext.refl _⟩
    simp only [Act.put, List.setIfInBounds_toArray, List.set_cons_zero, List.set_cons_succ]
    refine ⟨fun wv156 hov156 hSv156 => ?_, fun v156 => ?_⟩
    · obtain rfl : v155 = .bool false := hSv156 155 (by decide) (by decide)
      clear hSv156
      clear hov156
      go_wp2_with fail
      exact ⟨rfl, _, rfl, fun d hd => by cases hd; exact rfl, Ext.refl _⟩
    simp only [Act.put, List.setIfInBounds_toArray, List.set_cons_zero, List.set_cons_succ]
    refine ⟨fun wv157 hov157 hSv157 => ?_, fun v157 => ?_⟩
    · obtain rfl : v156 = .bool false := hSv157 156 (by decide) (by decide)
      clear hSv157
      have H := kp (H.out.keep [0, 1, 2, 3] (St := []) trivial hov157 (by decide) (by kernel_rfl))
      have HOX := kp hov157
      clear hov157
      go_wp2_with ((with_reducible show wpList _ _ _ (Oper.mk _ (Op.load 51 _) _ _ _ _ :: _) _ _); (first | (refine L_loadG H (by kernel_rfl) 51 _ rfl 0 rfl rfl Try.underlying51 rfl (HZm.out _) ?_) | (refine L_loadG H (by kernel_rfl) 51 _ rfl 1 rfl rfl Try.underlying51 rfl (HZm.out _) ?_) | (refine L_loadG H (by kernel_rfl) 51 _ rfl 2 rfl rfl Try.underlying51 rfl (HZm.out _) ?_) | (refine L_loadG H (by kernel_rfl) 51 _ rfl 3 rfl rfl Try.underlying51 rfl (HZm.out _) ?_) | (refine L_loadG H (by kernel_rfl) 51 _ rfl 4 rfl rfl Try.underlying51 rfl (HZm.out _) ?_) | (refine L_loadG H (by kernel_rfl) 51 _ rfl 5 rfl rfl Try.underlying51 rfl (HZm.out _) ?_)); simp only [Act.put, List.setIfInBounds_toArray, List.set_cons_zero, List.set_cons_succ])
      exact ⟨rfl, _, rfl, fun d hd => by cases hd; exact rfl, Ext.refl _⟩
    simp only [Act.put, List.setIfInBounds_toArray, List.set_cons_zero, List.set_cons_succ]
    refine ⟨fun wv158 hov158 hSv158 => ?_, fun v158 => ?_⟩
    · obtain rfl : v156 = .bool false := hSv158 156 (by decide) (by decide)
      clear hSv158
      have H := kp (H.out.keep [0, 1, 2, 3] (St := []) trivial hov158 (by decide) (by kernel_rfl))
      have HOX := kp hov158
      clear hov158
      go_wp2_with ((with_reducible show wpList _ _ _ (Oper.mk _ (Op.load 51 _) _ _ _ _ :: _) _ _); (refine wpList_load_rowG (by kernel_rfl) 51 _ rfl (g5) rfl 51 (cellsR l u).toArray (0, 0) _ (HL5.out.ext H.out.1) Try.underlying51 rfl (HZl.out _) ?_); simp only [Act.put, List.setIfInBounds_toArray, List.set_cons_zero, List.set_cons_succ])
      exact ⟨rfl, _, rfl, fun d hd => by cases hd; exact rfl, Ext.refl _⟩
    simp only [Act.put, List.setIfInBounds_toArray, List.set_cons_zero, List.set_cons_succ]
    refine ⟨fun wv159 hov159 hSv159 => ?_, fun v159 => ?_⟩
    · obtain rfl : v156 = .bool false := hSv159 156 (by decide) (by decide)
      obtain rfl : v157 = .agg (cellsR m u2).toArray := hSv159 157 (by decide) (by decide)
      obtain rfl : v158 = .agg (cellsR l u).toArray := hSv159 158 (by decide) (by decide)
      clear hSv159
      have H := kp (H.out.keep [0, 1, 2, 3] (St := []) trivial hov159 (by decide) (by kernel_rfl))
      have HOX := kp hov159
      clear hov159
      have HXZ := kp (HOX.out.ext (Ext.refl _) (fun g hg => by cases hg))
      go_wp2_with fail
      refine (HS3.out _ HXZ.out).mono ?_
      rintro e w2 ⟨rfl, hx⟩
      have HXW := kp hx
      clear hx
      go_wp2_with fail
      exact ⟨rfl, _, rfl, fun d hd => by cases hd; exact rfl, HXW.out⟩
    simp only [Act.put, List.setIfInBounds_toArray, List.set_cons_zero, List.set_cons_succ]
    refine ⟨fun wv160 hov160 hSv160 => ?_, fun v160 => ?_⟩
    · obtain rfl : v156 = .bool false := hSv160 156 (by decide) (by decide)
      clear hSv160
      have H := kp (H.out.keep [0, 1, 2, 3] (St := []) trivial hov160 (by decide) (by kernel_rfl))
      have HOX := kp hov160
      clear hov160
      go_wp2_with ((with_reducible show wpList _ _ _ (Oper.mk _ (Op.load 51 _) _ _ _ _ :: _) _ _); (first | (refine L_loadG H (by kernel_rfl) 51 _ rfl 0 rfl rfl Try.underlying51 rfl (HZm.out _) ?_) | (refine L_loadG H (by kernel_rfl) 51 _ rfl 1 rfl rfl Try.underlying51 rfl (HZm.out _) ?_) | (refine L_loadG H (by kernel_rfl) 51 _ rfl 2 rfl rfl Try.underlying51 rfl (HZm.out _) ?_) | (refine L_loadG H (by kernel_rfl) 51 _ rfl 3 rfl rfl Try.underlying51 rfl (HZm.out _) ?_) | (refine L_loadG H (by kernel_rfl) 51 _ rfl 4 rfl rfl Try.underlying51 rfl (HZm.out _) ?_) | (refine L_loadG H (by kernel_rfl) 51 _ rfl 5 rfl rfl Try.underlying51 rfl (HZm.out _) ?_)); simp only [Act.put, List.setIfInBounds_toArray, List.set_cons_zero, List.set_cons_succ])
      exact ⟨rfl, _, rfl, fun d hd => by cases hd; exact rfl, Ext.refl _⟩
    simp only [Act.put, List.setIfInBounds_toArray, List.set_cons_zero, List.set_cons_succ]
    refine ⟨fun wv161 hov161 hSv161 => ?_, fun v161 => ?_⟩
    · obtain rfl : v156 = .bool false := hSv161 156 (by decide) (by decide)
      clear hSv161
      have H := kp (H.out.keep [0, 1, 2, 3] (St := []) trivial hov161 (by decide) (by kernel_rfl))
      have HOX := kp hov161
      clear hov161
      go_wp2_with ((with_reducible show wpList _ _ _ (Oper.mk _ (Op.load 51 _) _ _ _ _ :: _) _ _); (refine wpList_load_rowG (by kernel_rfl) 51 _ rfl (g6) rfl 51 (cellsR l v).toArray (0, 0) _ (HL6.out.ext H.out.1) Try.underlying51 rfl (HZl.out _) ?_); simp only [Act.put, List.setIfInBounds_toArray, List.set_cons_zero, List.set_cons_succ])
      exact ⟨rfl, _, rfl, fun d hd => by cases hd; exact rfl, Ext.refl _⟩
    simp only [Act.put, List.setIfInBounds_toArray, List.set_cons_zero, List.set_cons_succ]
    refine ⟨fun wv162 hov162 hSv162 => ?_, fun v162 => ?_⟩
    · obtain rfl : v156 = .bool false := hSv162 156 (by decide) (by decide)
      obtain rfl : v160 = .agg (cellsR m u3).toArray := hSv162 160 (by decide) (by decide)
      obtain rfl : v161 = .agg (cellsR l v).toArray := hSv162 161 (by decide) (by decide)
      clear hSv162
      have H := kp (H.out.keep [0, 1, 2, 3] (St := []) trivial hov162 (by decide) (by kernel_rfl))
      have HOX := kp hov162
      clear hov162
      have HXZ := kp (HOX.out.ext (Ext.refl _) (fun g hg => by cases hg))
      go_wp2_with fail
      refine (HS4.out _ HXZ.out).mono ?_
      rintro e w2 ⟨rfl, hx⟩
      have HXW := kp hx
      clear hx
      go_wp2_with fail
      exact ⟨rfl, _, rfl, fun d hd => by cases hd; exact rfl, HXW.out⟩
    simp only [Act.put, List.setIfInBounds_toArray, List.set_cons_zero, List.set_cons_succ]
    refine ⟨fun wv163 hov163 hSv163 => ?_, fun v163 => ?_⟩
    · obtain rfl : v156 = .bool false := hSv163 156 (by decide) (by decide)
      obtain rfl : v159 = .bool sb := hSv163 159 (by decide) (by decide)
      obtain rfl : v162 = .bool sb := hSv163 162 (by decide) (by decide)
      clear hSv163
      clear hov163
      go_wp2_with fail
      exact ⟨rfl, _, rfl, fun d hd => by cases hd; exact rfl, Ext.refl _⟩
    simp only [Act.put, List.setIfInBounds_toArray, List.set_cons_zero, List.set_cons_succ]
    refine ⟨fun wv164 hov164 hSv164 => ?_, fun v164 => ?_⟩
    · obtain rfl : v156 = .bool false := hSv164 156 (by decide) (by decide)
      obtain rfl : v163 = .bool false := hSv164 163 (by decide) (by decide)
      clear hSv164
      clear hov164
      go_wp2_with fail
      exact ⟨rfl, _, rfl, fun d hd => by cases hd; exact rfl, Ext.refl _⟩
    simp only [Act.put, List.setIfInBounds_toArray, List.set_cons_zero, List.set_cons_succ]
    clear H
    intro wn HOX H hfin
    obtain rfl : v141 = .int .i64 er := hfin 141 (by decide)
    obtain rfl : v142 = .int .i64 er := hfin 142 (by decide)
    obtain rfl : v143 = .bool false := hfin 143 (by decide)
    obtain rfl : v144 = .bool false := hfin 144 (by decide)
    obtain rfl : v145 = .agg (cellsR m u2).toArray := hfin 145 (by decide)
    obtain rfl : v146 = .agg (cellsR m u3).toArray := hfin 146 (by decide)
    obtain rfl : v147 = .bool true := hfin 147 (by decide)
    obtain rfl : v148 = .bool false := hfin 148 (by decide)
    obtain rfl : v149 = .bool false := hfin 149 (by decide)
    obtain rfl : v150 = .bool false := hfin 150 (by decide)
    obtain rfl : v151 = .agg (cellsR l u).toArray := hfin 151 (by decide)
    obtain rfl : v152 = .agg (cellsR l u9).toArray := hfin 152 (by decide)
    obtain rfl : v153 = .bool true := hfin 153 (by decide)
    obtain rfl : v154 = .bool false := hfin 154 (by decide)
    obtain rfl : v155 = .bool false := hfin 155 (by decide)
    obtain rfl : v156 = .bool false := hfin 156 (by decide)
    obtain rfl : v157 = .agg (cellsR m u2).toArray := hfin 157 (by decide)
    obtain rfl : v158 = .agg (cellsR l u).toArray := hfin 158 (by decide)
    obtain rfl : v159 = .bool sb := hfin 159 (by decide)
    obtain rfl : v160 = .agg (cellsR m u3).toArray := hfin 160 (by decide)
    obtain rfl : v161 = .agg (cellsR l v).toArray := hfin 161 (by decide)
    obtain rfl : v162 = .bool sb := hfin 162 (by decide)
    obtain rfl : v163 = .bool false := hfin 163 (by decide)
    obtain rfl : v164 = .bool false := hfin 164 (by decide)
    clear hfin
    simp only [List.drop_succ_cons, List.drop_zero]
    simp only [applyS] at H
    have HXN := kp (HOX.out.ext (Ext.refl wt) (fun g hg => by cases hg))
    have HMn := kp (HMt.out.ext HXN.out)
    have HP2n := kp (HP2t.out.ext HXN.out)
    have HP3n := kp (HP3t.out.ext HXN.out)
    clear HS1 HS2 HS3 HS4 hee hsb HMt HP2t HP3t HP9t HXN HOX
    by_cases her : er = 0
    case neg =>
      have he0 : (er == 0) = false := by simp [her]
      go_wp2_with fail
      subst h31
      go_wp2_with fail
      go_roundw
      case rel => exact ⟨j + 1, l, u, v, ks, by omega, by go_num, HL, kp (HW.out.ext H.out.1), HMn⟩
      case measure => simp [intOf]; omega
    subst her
    have HJ := kp (HW.out.join H.out)
    clear H
    have H := HJ
    clear HJ
    simp only [List.cons_append, List.nil_append] at H
    have HB := kp (Bump.start HMn.out.pu HG0.out)
    have HNM := kp (show ∀ g, ks ≠ [] → u.ownBlock = some g → g ∉ [g11, g10, g9, g8, g6, g5, g2] from fun g hne hg hm => by
      have h1 := HM.out.pu.lt hne g hg
      have h2 := HM.out.pu.ge g hg
      simp only [List.mem_cons, List.not_mem_nil, or_false] at hm
      rcases hm with hm | hm | hm | hm | hm | hm | hm
      · have := HLO0.out; dsimp only at this; omega
      · have := HLO1.out; dsimp only at this; omega
      · have := HLO2.out; dsimp only at this; omega
      · have := HLO3.out; dsimp only at this; omega
      · exact HM.out.u6 (by rw [hg, hm])
      · exact HM.out.u5 (by rw [hg, hm])
      · have := HG2.out; omega)
    have HWB := kp (show ∀ g, u.ownBlock = some g → w.heap.size ≤ g from fun g hg => Nat.le_trans HWA.out (HM.out.pu.ge g hg))
    have HLTW := kp (show ∀ g, ks ≠ [] → u.ownBlock = some g → g < wr.heap.size from fun g hne hg => HM.out.pu.lt hne g hg)
    have HPO := kp (show u.oneCell' = true from slot_oneP HM.out.pu)
    have HCP := kp (cellsR_past l u HL.out)
    have HLQ := kp (fun u' => cellsR_len2 l m u u' HL.out HLm.out)
    have HLQ2 := kp (fun u' => cellsR_len2 l m v u' HL.out HLm.out)
    obtain ⟨au, cu, huf⟩ := HM.out.pu.sly.form
    subst huf
    go_wp2_with fail
    subst h31
    go_wp2_with fail
    go_loopw [18] (fun i18 wv => ∃ k : Nat, k ≤ ks.length ∧ i18 = .int .i64 k ∧ Kp (Bump wn wv (.slice au ks.length cu) ks)) (fun i18 _ => ks.length - (intOf i18).toNat)
    case atStart => exact ⟨0, by omega, rfl, HB⟩
    case round =>
      obtain ⟨k, hk, rfl, HBk⟩ := hrel
      obtain ⟨G, hG, ho, hrow⟩ := HBk.out
      have HK := kp (H.out.out ho (fun g hg => HWB.out g (hG g hg).2) (fun g hg => HNM.out g (hG g hg).1 (hG g hg).2))
      by_cases hkn : k < ks.length
      case neg =>
        have HPF := kp ((HP2n.out.out ho (fun g hg => HLTW.out g (hG g hg).1 (hG g hg).2)))
        have HPG := kp ((HP3n.out.out ho (fun g hg => HLTW.out g (hG g hg).1 (hG g hg).2)))
        have hcp := run_load_cell HK.out 5 rfl _ _ HCP.out
        have hkI : ¬ (k : Int) < ks.length := by omega
        clear hG ho hrow H
        have H := HK
        go_wp2_with fail
        clear hcp
        refine region_free H (tabS [(183, fun zv _ => zv = .agg (cellsR m u2).toArray), (184, fun zv _ => zv = .agg (cellsR m u3).toArray)]) [⟨2, 5, g5, 51, cellsR l (.slice au ks.length cu), cellsR m u2⟩, ⟨3, 4, g6, 51, cellsR l v, cellsR m u3⟩] (tabS_out _ _ (by simp only [List.forall_mem_cons]; exact ⟨mono_eqO _ _, mono_eqO _ _, by simp⟩)) 4 (by kernel_rfl) (by kernel_rfl) (by kernel_rfl) (by kernel_rfl) [2, 3] [5, 4] rfl rfl (by decide) (by decide) (by decide) ⟨rfl, rfl, trivial⟩ ?_
        simp only [List.take_succ_cons, List.take_zero]
        refine ⟨fun wv183 hov183 hSv183 => ?_, fun v183 => ?_⟩
        · clear hSv183
          have H := kp (H.out.keep [0, 1, 2, 3, 6] (St := [⟨2, 5, g5, 51, cellsR l (.slice au ks.length cu), cellsR m u2⟩, ⟨3, 4, g6, 51, cellsR l v, cellsR m u3⟩]) ⟨rfl, rfl, trivial⟩ hov183 (by decide) (by kernel_rfl))
          have HOX := kp hov183
          clear hov183
          go_wp2_with ((with_reducible show wpList _ _ _ (Oper.mk _ (Op.load 51 _) _ _ _ _ :: _) _ _); (first | (refine L_load H rfl 51 _ rfl 0 rfl rfl Try.underlying51 rfl (HZm.out _) ?_) | (refine L_load H rfl 51 _ rfl 1 rfl rfl Try.underlying51 rfl (HZm.out _) ?_) | (refine L_load H rfl 51 _ rfl 2 rfl rfl Try.underlying51 rfl (HZm.out _) ?_) | (refine L_load H rfl 51 _ rfl 3 rfl rfl Try.underlying51 rfl (HZm.out _) ?_) | (refine L_load H rfl 51 _ rfl 4 rfl rfl Try.underlying51 rfl (HZm.out _) ?_) | (refine L_load H rfl 51 _ rfl 5 rfl rfl Try.underlying51 rfl (HZm.out _) ?_)); simp only [Act.put, List.setIfInBounds_toArray, List.set_cons_zero, List.set_cons_succ])
          exact ⟨rfl, _, rfl, fun d hd => by cases hd; exact rfl, Ext.refl _⟩
        simp only [Act.put, List.setIfInBounds_toArray, List.set_cons_zero, List.set_cons_succ]
        refine ⟨fun wv184 hov184 hSv184 => ?_, fun v184 => ?_⟩
        · clear hSv184
          have H := kp (H.out.keep [0, 1, 2, 3, 6] (St := [⟨2, 5, g5, 51, cellsR l (.slice au ks.length cu), cellsR m u2⟩, ⟨3, 4, g6, 51, cellsR l v, cellsR m u3⟩]) ⟨rfl, rfl, trivial⟩ hov184 (by decide) (by kernel_rfl))
          have HOX := kp hov184
          clear hov184
          go_wp2_with ((with_reducible show wpList _ _ _ (Oper.mk _ (Op.load 51 _) _ _ _ _ :: _) _ _); (first | (refine L_load H rfl 51 _ rfl 0 rfl rfl Try.underlying51 rfl (HZm.out _) ?_) | (refine L_load H rfl 51 _ rfl 1 rfl rfl Try.underlying51 rfl (HZm.out _) ?_) | (refine L_load H rfl 51 _ rfl 2 rfl rfl Try.underlying51 rfl (HZm.out _) ?_) | (refine L_load H rfl 51 _ rfl 3 rfl rfl Try.underlying51 rfl (HZm.out _) ?_) | (refine L_load H rfl 51 _ rfl 4 rfl rfl Try.underlying51 rfl (HZm.out _) ?_) | (refine L_load H rfl 51 _ rfl 5 rfl rfl Try.underlying51 rfl (HZm.out _) ?_)); simp only [Act.put, List.setIfInBounds_toArray, List.set_cons_zero, List.set_cons_succ])
          exact ⟨rfl, _, rfl, fun d hd => by cases hd; exact rfl, Ext.refl _⟩
        simp only [Act.put, List.setIfInBounds_toArray, List.set_cons_zero, List.set_cons_succ]
        refine ⟨⟨rfl, rfl, fun ws2 hos2 hSs2 hLs2 => ?_⟩, ?_⟩
        · obtain rfl : v183 = .agg (cellsR m u2).toArray := hSs2 183 (by decide) (by decide)
          exact run_sto 51 _ _ rfl rfl rfl hLs2 (HZm.out _) (HLQ.out _) (HOB.out _ _ HU2.out)
        refine ⟨⟨rfl, rfl, fun ws3 hos3 hSs3 hLs3 => ?_⟩, ?_⟩
        · obtain rfl : v184 = .agg (cellsR m u3).toArray := hSs3 184 (by decide) (by decide)
          exact run_sto 51 _ _ rfl rfl rfl hLs3 (HZm.out _) (HLQ2.out _) (HOB.out _ _ HU3.out)
        clear H
        intro w36 HOX H hfin
        obtain rfl : v183 = .agg (cellsR m u2).toArray := hfin 183 (by decide)
        obtain rfl : v184 = .agg (cellsR m u3).toArray := hfin 184 (by decide)
        clear hfin
        simp only [List.drop_succ_cons, List.drop_zero]
        simp only [applyS] at H
        simp only [List.set_cons_zero, List.set_cons_succ] at H
        have HL56 := kp (show ∀ g ∈ [g5, g6], g < _ from fun g hg => by
          simp only [List.mem_cons, List.not_mem_nil, or_false] at hg
          rcases hg with rfl | rfl
          · exact HL5.out.lt
          · exact HL6.out.lt)
        have HPFx := kp (HPF.out.out HOX.out HL56.out)
        have HPGx := kp (HPG.out.out HOX.out HL56.out)
        have HBW := kp (Nat.le_of_lt (Nat.lt_of_le_of_lt HG5.out HL5.out.lt))
        go_wp2_with fail
        go_roundw
        case rel => exact ⟨j + 1, m, u2, u3, ks2, by omega, by go_num, HLm, kp H.out.tail.tail.tail.tail, kp ⟨HPFx.out.base HBW.out, HPGx.out.base HBW.out, HPF.out.sep HL5.out.lt, HPF.out.sep HL6.out.lt, HPG.out.sep HL5.out.lt, HPG.out.sep HL6.out.lt, HN2.out⟩⟩
        case measure => simp [intOf]; omega
      have hne : ks ≠ [] := by intro e; rw [e] at hkn; simp at hkn
      have hlen40 : ks.length ≤ 40 := HN40.out
      obtain ⟨bu, uo, uc, ut, cs, hu, hlc, hcs⟩ := hrow hne
      cases hu
      have HK2 := kp (HK.out.addN (HNM.out bu hne rfl) (HWB.out bu rfl) hlc)
      obtain ⟨z, hz⟩ := hcs (k * 16) (by omega)
      have hcp := run_load_cell HK2.out 6 rfl _ _ HCP.out
      have hcb := run_load_cell HK2.out 0 rfl _ _ hz
      have HGk := kp hG
      have HOk2 := kp ho
      have HCS := kp hcs
      have HFIT := kp (List.getElem?_eq_some_iff.1 hz).1
      have HZc := kp hz
      clear hG ho hrow hz hcs hlc H
      have H := HK2
      have hkI : (k : Int) < ks.length := by omega
      have HZ8 := kp (show (Try.prog.info? 5).map (·.size) = some 1 from by kernel_rfl)
      go_wp2_with fail
      clear hcp hcb
      refine region_free H (tabS [(174, fun zv _ => zv = .pointer (some ⟨g5, 144, none⟩)), (175, fun zv _ => zv = .slice (some ⟨bu, uo, none⟩) ks.length cu), (176, fun zv _ => zv = .int .i64 k), (177, fun zv _ => zv = .pointer (some ⟨bu, uo + k * 16, none⟩)), (178, fun zv _ => zv = .pointer (some ⟨bu, uo + k * 16, none⟩)), (179, fun zv _ => zv = .int .u8 z), (180, fun zv _ => ∃ y, zv = .int .u8 y), (181, fun zv _ => zv = .pointer (some ⟨bu, uo + k * 16, none⟩)), (182, fun zv _ => zv = .pointer (some ⟨bu, uo + k * 16, none⟩))]) [] (tabS_out _ _ (by simp only [List.forall_mem_cons]; exact ⟨mono_eqO _ _, mono_eqO _ _, mono_eqO _ _, mono_eqO _ _, mono_eqO _ _, mono_eqO _ _, (fun _ _ _ h _ => h), mono_eqO _ _, mono_eqO _ _, by simp⟩)) 9 (by kernel_rfl) (by kernel_rfl) (by kernel_rfl) (by kernel_rfl) [] [] rfl rfl (by decide) (by decide) (by decide) trivial ?_
      simp only [List.take_succ_cons, List.take_zero]
      refine ⟨fun wv174 hov174 hSv174 => ?_, fun v174 => ?_⟩
      · clear hSv174
        clear hov174
        go_wp2_with fail
        exact ⟨rfl, _, rfl, fun d hd => by cases hd; exact rfl, Ext.refl _⟩
      simp only [Act.put, List.setIfInBounds_toArray, List.set_cons_zero, List.set_cons_succ]
      refine ⟨fun wv175 hov175 hSv175 => ?_, fun v175 => ?_⟩
      · obtain rfl : v174 = .pointer (some ⟨g5, 144, none⟩) := hSv175 174 (by decide) (by decide)
        clear hSv175
        have H := kp (H.out.keep [0, 1, 2, 3, 4, 5, 6, 7] (St := []) trivial hov175 (by decide) (by kernel_rfl))
        have HOX := kp hov175
        clear hov175
        have hc := run_load_cell H.out 6 rfl _ _ HCP.out
        go_wp2_with fail
        exact ⟨rfl, _, rfl, fun d hd => by cases hd; exact rfl, Ext.refl _⟩
      simp only [Act.put, List.setIfInBounds_toArray, List.set_cons_zero, List.set_cons_succ]
      refine ⟨fun wv176 hov176 hSv176 => ?_, fun v176 => ?_⟩
      · clear hSv176
        clear hov176
        go_wp2_with fail
        exact ⟨rfl, _, rfl, fun d hd => by cases hd; exact rfl, Ext.refl _⟩
      simp only [Act.put, List.setIfInBounds_toArray, List.set_cons_zero, List.set_cons_succ]
      refine ⟨fun wv177 hov177 hSv177 => ?_, fun v177 => ?_⟩
      · obtain rfl : v175 = .slice (some ⟨bu, uo, none⟩) ks.length cu := hSv177 175 (by decide) (by decide)
        obtain rfl : v176 = .int .i64 k := hSv177 176 (by decide) (by decide)
        clear hSv177
        clear hov177
        go_wp2_with fail
        exact ⟨rfl, _, rfl, fun d hd => by cases hd; exact rfl, Ext.refl _⟩
      simp only [Act.put, List.setIfInBounds_toArray, List.set_cons_zero, List.set_cons_succ]
      refine ⟨fun wv178 hov178 hSv178 => ?_, fun v178 => ?_⟩
      · obtain rfl : v177 = .pointer (some ⟨bu, uo + k * 16, none⟩) := hSv178 177 (by decide) (by decide)
        clear hSv178
        clear hov178
        go_wp2_with fail
        exact ⟨rfl, _, rfl, fun d hd => by cases hd; exact rfl, Ext.refl _⟩
      simp only [Act.put, List.setIfInBounds_toArray, List.set_cons_zero, List.set_cons_succ]
      refine ⟨fun wv179 hov179 hSv179 => ?_, fun v179 => ?_⟩
      · obtain rfl : v178 = .pointer (some ⟨bu, uo + k * 16, none⟩) := hSv179 178 (by decide) (by decide)
        clear hSv179
        have H := kp (H.out.keep [0, 1, 2, 3, 4, 5, 6, 7] (St := []) trivial hov179 (by decide) (by kernel_rfl))
        have HOX := kp hov179
        clear hov179
        have hc := run_load_cell H.out 0 rfl _ _ HZc.out
        go_wp2_with fail
        exact ⟨rfl, _, rfl, fun d hd => by cases hd; exact rfl, Ext.refl _⟩
      simp only [Act.put, List.setIfInBounds_toArray, List.set_cons_zero, List.set_cons_succ]
      refine ⟨fun wv180 hov180 hSv180 => ?_, fun v180 => ?_⟩
      · obtain rfl : v179 = .int .u8 z := hSv180 179 (by decide) (by decide)
        clear hSv180
        have H := kp (H.out.keep [0, 1, 2, 3, 4, 5, 6, 7] (St := []) trivial hov180 (by decide) (by kernel_rfl))
        have HOX := kp hov180
        clear hov180
        go_wp2_with fail
        exact ⟨rfl, _, rfl, fun d hd => by cases hd; exact ⟨_, rfl⟩, Ext.refl _⟩
      simp only [Act.put, List.setIfInBounds_toArray, List.set_cons_zero, List.set_cons_succ]
      refine ⟨fun wv181 hov181 hSv181 => ?_, fun v181 => ?_⟩
      · obtain rfl : v175 = .slice (some ⟨bu, uo, none⟩) ks.length cu := hSv181 175 (by decide) (by decide)
        obtain rfl : v176 = .int .i64 k := hSv181 176 (by decide) (by decide)
        clear hSv181
        clear hov181
        go_wp2_with fail
        exact ⟨rfl, _, rfl, fun d hd => by cases hd; exact rfl, Ext.refl _⟩
      simp only [Act.put, List.setIfInBounds_toArray, List.set_cons_zero, List.set_cons_succ]
      refine ⟨fun wv182 hov182 hSv182 => ?_, fun v182 => ?_⟩
      · obtain rfl : v181 = .pointer (some ⟨bu, uo + k * 16, none⟩) := hSv182 181 (by decide) (by decide)
        clear hSv182
        clear hov182
        go_wp2_with fail
        exact ⟨rfl, _, rfl, fun d hd => by cases hd; exact rfl, Ext.refl _⟩
      simp only [Act.put, List.setIfInBounds_toArray, List.set_cons_zero, List.set_cons_succ]
      clear H
      intro w35 HOX H hfin
      obtain rfl : v174 = .pointer (some ⟨g5, 144, none⟩) := hfin 174 (by decide)
      obtain rfl : v175 = .slice (some ⟨bu, uo, none⟩) ks.length cu := hfin 175 (by decide)
      obtain rfl : v176 = .int .i64 k := hfin 176 (by decide)
      obtain rfl : v177 = .pointer (some ⟨bu, uo + k * 16, none⟩) := hfin 177 (by decide)
      obtain rfl : v178 = .pointer (some ⟨bu, uo + k * 16, none⟩) := hfin 178 (by decide)
      obtain rfl : v179 = .int .u8 z := hfin 179 (by decide)
      have F180 := kp (show ∃ y, v180 = .int .u8 y from hfin 180 (by decide))
      obtain rfl : v181 = .pointer (some ⟨bu, uo + k * 16, none⟩) := hfin 181 (by decide)
      obtain rfl : v182 = .pointer (some ⟨bu, uo + k * 16, none⟩) := hfin 182 (by decide)
      clear hfin
      simp only [List.drop_succ_cons, List.drop_zero]
      simp only [applyS] at H
      have HXN := kp (HOX.out.ext (Ext.refl wr) (fun g hg => by cases hg))
      obtain ⟨y, rfl⟩ := F180.out
      go_wp2_with ((with_reducible show wpList _ _ _ (Oper.mk none (Op.store 5 _ _) _ _ _ _ :: _) _ _); (first | (refine L_cell H rfl rfl 5 _ _ rfl 0 rfl (uo + k * 16) rfl (.int .u8 y) rfl (rfl) (HZ8.out) (HFIT.out) (cs.set (uo + k * 16) (.int .u8 y)) (rfl) ?_; clear H; intro wq HWwq H; simp only [List.set_cons_zero] at H) | (refine L_cell H rfl rfl 5 _ _ rfl 1 rfl (uo + k * 16) rfl (.int .u8 y) rfl (rfl) (HZ8.out) (HFIT.out) (cs.set (uo + k * 16) (.int .u8 y)) (rfl) ?_; clear H; intro wq HWwq H; simp only [List.set_cons_succ, List.set_cons_zero] at H) | (refine L_cell H rfl rfl 5 _ _ rfl 2 rfl (uo + k * 16) rfl (.int .u8 y) rfl (rfl) (HZ8.out) (HFIT.out) (cs.set (uo + k * 16) (.int .u8 y)) (rfl) ?_; clear H; intro wq HWwq H; simp only [List.set_cons_succ, List.set_cons_zero] at H) | (refine L_cell H rfl rfl 5 _ _ rfl 3 rfl (uo + k * 16) rfl (.int .u8 y) rfl (rfl) (HZ8.out) (HFIT.out) (cs.set (uo + k * 16) (.int .u8 y)) (rfl) ?_; clear H; intro wq HWwq H; simp only [List.set_cons_succ, List.set_cons_zero] at H) | (refine L_cell H rfl rfl 5 _ _ rfl 4 rfl (uo + k * 16) rfl (.int .u8 y) rfl (rfl) (HZ8.out) (HFIT.out) (cs.set (uo + k * 16) (.int .u8 y)) (rfl) ?_; clear H; intro wq HWwq H; simp only [List.set_cons_succ, List.set_cons_zero] at H) | (refine L_cell H rfl rfl 5 _ _ rfl 5 rfl (uo + k * 16) rfl (.int .u8 y) rfl (rfl) (HZ8.out) (HFIT.out) (cs.set (uo + k * 16) (.int .u8 y)) (rfl) ?_; clear H; intro wq HWwq H; simp only [List.set_cons_succ, List.set_cons_zero] at H)))
      go_roundw
      case rel => exact ⟨k + 1, by omega, by go_num, kp (Bump.step hne HGk.out (HOk2.out.trans (Out.of_ext _ HXN.out)) (H.out.at 0 rfl) HCS.out HWwq.out)⟩
      case measure => simp [intOf]; omega
end Go.Proofs.Ytjnaegpjhbobaaa
