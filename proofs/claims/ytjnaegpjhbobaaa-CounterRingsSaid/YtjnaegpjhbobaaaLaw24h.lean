/- The walk of CounterOnce. -/
import Derived.Test.YtjnaegpjhbobaaaOnce
import Derived.Test.YtjnaegpjhbobaaaApp
namespace Go.Proofs.Ytjnaegpjhbobaaa
open Go.RowKit
theorem PastV.lt {base : Nat} {w : World} {u : Value} {ks : Keys16} (h : PastV base w u ks) (hk : ks ≠ []) : ∀ k, u.ownBlock = some k → k < w.heap.size := by
  obtain ⟨ad, n, c, rfl, _, _, ⟨_, h4⟩, _⟩ := h
  rcases h4 with ⟨h4, _⟩ | ⟨b, off, cap, he, hb, _⟩
  · exact absurd h4 hk
  · cases he
    intro k hk2
    have : b = k := by simpa [Value.ownBlock] using hk2
    omega
theorem PastV.ge {base : Nat} {w : World} {u : Value} {ks : Keys16} (h : PastV base w u ks) : ∀ k, u.ownBlock = some k → base ≤ k := by
  obtain ⟨ad, n, c, rfl, _, _, _, h5⟩ := h
  intro k hk
  cases ad with
  | none => cases hk
  | some a =>
    have : a.block = k := by simpa [Value.ownBlock] using hk
    have := h5.1 a rfl
    omega
theorem PastV.keep {base : Nat} {w w' : World} {u : Value} {ks : Keys16} (h : PastV base w u ks) (hs : w.heap.size ≤ w'.heap.size) (hk : ks ≠ [] → ∀ k, u.ownBlock = some k → w'.heap[k]? = w.heap[k]?) : PastV base w' u ks := by
  obtain ⟨ad, n, c, rfl, h2, h3, ⟨h0, h4⟩, h5⟩ := h
  refine ⟨ad, n, c, rfl, h2, h3, ⟨h0, ?_⟩, h5.1, h5.2.keep fun hne a ha _ => hk hne a.block (by rw [ha]; rfl)⟩
  rcases h4 with h4 | ⟨b, off, cap, he, hb, hr⟩
  · exact .inl h4
  · refine .inr ⟨b, off, cap, he, by omega, fun j q hq i v hv => ?_⟩
    have h6 := hr j q hq i v hv
    cases he
    have hne : ks ≠ [] := by intro e; rw [e] at hq; simp at hq
    have h7 := hk hne b rfl
    simp only [World.cell?] at h6 ⊢
    rw [h7]; exact h6
/-- What the memory of CounterOnce holds between two rounds. -/
structure Mem (w0 w : World) (g4 : Nat) (l : List Slot) (u : Value) (ks : Keys16) (v5 v6 : Value) (sent got : List Usd) : Prop where
  ring : Ring4 l
  past : PastV 0 w u ks
  pk : ks.length ≤ 16
  own5 : w.ownsRow w0.heap.size 69 18 v5 sent.length (sent.flatMap cellsU)
  own6 : w.ownsRow w0.heap.size 69 18 v6 got.length (got.flatMap cellsU)
  k5 : ∀ x ∈ sent, x.key.length = 16
  k6 : ∀ x ∈ got, x.key.length = 16
  d56 : ∀ k, v5.ownBlock = some k → v6.ownBlock ≠ some k
  d54 : v5.ownBlock ≠ some g4
  d64 : v6.ownBlock ≠ some g4
  du5 : ks ≠ [] → ∀ k, u.ownBlock = some k → v5.ownBlock ≠ some k
  du6 : ks ≠ [] → ∀ k, u.ownBlock = some k → v6.ownBlock ≠ some k
section
variable {w0 w w' : World} {g4 : Nat} {l l' : List Slot} {u u' : Value} {ks ks' : Keys16} {v5 v6 : Value} {sent got : List Usd}
theorem Mem.ext (h : Mem w0 w g4 l u ks v5 v6 sent got) (hx : Ext w w') : Mem w0 w' g4 l u ks v5 v6 sent got :=
  ⟨h.ring, h.past.ext hx, h.pk, ownsT_ext h.own5 hx, ownsT_ext h.own6 hx, h.k5, h.k6, h.d56, h.d54, h.d64, h.du5, h.du6⟩
/-- The ring is replaced. -/
theorem Mem.next {wc : World} (h : Mem w0 w g4 l u ks v5 v6 sent got) (hx : Ext w wc) (hg : g4 < w.heap.size) (hl : Ring4 l') (hp : PastV w.heap.size wc u' ks') (hk : ks'.length ≤ 16) (hw : Wrote wc w' g4) : Mem w0 w' g4 l' u' ks' v5 v6 sent got := by
  have h2 := h.ext hx
  refine ⟨hl, (hp.wrote hw hg).base (Nat.zero_le _), hk, ownsT_wrote h2.own5 hw h.d54, ownsT_wrote h2.own6 hw h.d64, h.k5, h.k6, h.d56, h.d54, h.d64, fun _ k hk e => ?_, fun _ k hk e => ?_⟩
  · have := ownsT_lt h.own5 k e; have := hp.ge k hk; omega
  · have := ownsT_lt h.own6 k e; have := hp.ge k hk; omega
theorem Mem.next5 {wc wd : World} {v5' : Value} {x : Usd} (h : Mem w0 w g4 l u ks v5 v6 sent got) (hx : Ext w wc) (hg : g4 < w.heap.size) (hl : Ring4 l') (hp : PastV w.heap.size wc u' ks') (hk : ks'.length ≤ 16) (h16 : x.key.length = 16)
    (ho : wd.ownsRow w0.heap.size 69 18 v5' (sent ++ [x]).length ((sent ++ [x]).flatMap cellsU)) (hgr : wc.grownBy wd v5.ownBlock) (hwh : v5'.ownBlock = v5.ownBlock ∨ v5'.ownBlock = some wc.heap.size) (hw : Wrote wd w' g4) : Mem w0 w' g4 l' u' ks' v5' v6 (sent ++ [x]) got := by
  have h2 := h.ext hx
  have hsz := hx.size
  have hd4 : v5'.ownBlock ≠ some g4 := fun e => by
    rcases hwh with h3 | h3
    · exact h.d54 (h3 ▸ e)
    · rw [h3] at e; cases e; omega
  have hpast : PastV w.heap.size wd u' ks' := hp.keep hgr.size fun hne k hk2 => hgr.block k (hp.lt hne k hk2) fun e => by
    have := ownsT_lt h.own5 k e.symm; have := hp.ge k hk2; omega
  refine ⟨hl, (hpast.wrote hw hg).base (Nat.zero_le _), hk, ownsT_wrote ho hw hd4, ownsT_wrote (ownsT_grown h2.own6 hgr fun k hk2 e => h.d56 k e hk2) hw h.d64, fun y hy => ?_, h.k6, fun k hk2 e => ?_, hd4, h.d64, fun hne k hk2 e => ?_, fun _ k hk2 e => ?_⟩
  · rcases List.mem_append.1 hy with hy | hy
    · exact h.k5 y hy
    · simp at hy; rw [hy]; exact h16
  · rcases hwh with h3 | h3
    · exact h.d56 k (h3 ▸ hk2) e
    · rw [h3] at hk2; cases hk2
      have := ownsT_lt h.own6 _ e; omega
  · rcases hwh with h3 | h3
    · have := ownsT_lt h.own5 k (h3 ▸ e); have := hp.ge k hk2; omega
    · rw [h3] at e; cases e
      have := hp.lt hne _ hk2; omega
  · have := ownsT_lt h.own6 k e; have := hp.ge k hk2; omega
theorem Mem.next6 {wc wd : World} {v6' : Value} {x : Usd} (h : Mem w0 w g4 l u ks v5 v6 sent got) (hx : Ext w wc) (hg : g4 < w.heap.size) (hl : Ring4 l') (hp : PastV w.heap.size wc u' ks') (hk : ks'.length ≤ 16) (h16 : x.key.length = 16)
    (ho : wd.ownsRow w0.heap.size 69 18 v6' (got ++ [x]).length ((got ++ [x]).flatMap cellsU)) (hgr : wc.grownBy wd v6.ownBlock) (hwh : v6'.ownBlock = v6.ownBlock ∨ v6'.ownBlock = some wc.heap.size) (hw : Wrote wd w' g4) : Mem w0 w' g4 l' u' ks' v5 v6' sent (got ++ [x]) := by
  have h2 := h.ext hx
  have hsz := hx.size
  have hd4 : v6'.ownBlock ≠ some g4 := fun e => by
    rcases hwh with h3 | h3
    · exact h.d64 (h3 ▸ e)
    · rw [h3] at e; cases e; omega
  have hpast : PastV w.heap.size wd u' ks' := hp.keep hgr.size fun hne k hk2 => hgr.block k (hp.lt hne k hk2) fun e => by
    have := ownsT_lt h.own6 k e.symm; have := hp.ge k hk2; omega
  refine ⟨hl, (hpast.wrote hw hg).base (Nat.zero_le _), hk, ownsT_wrote (ownsT_grown h2.own5 hgr fun k hk2 e => h.d56 k hk2 e) hw h.d54, ownsT_wrote ho hw hd4, h.k5, fun y hy => ?_, fun k hk2 e => ?_, h.d54, hd4, fun _ k hk2 e => ?_, fun hne k hk2 e => ?_⟩
  · rcases List.mem_append.1 hy with hy | hy
    · exact h.k6 y hy
    · simp at hy; rw [hy]; exact h16
  · rcases hwh with h3 | h3
    · exact h.d56 k hk2 (h3 ▸ e)
    · rw [h3] at e; cases e
      have := ownsT_lt h.own5 _ hk2; omega
  · have := ownsT_lt h.own5 k e; have := hp.ge k hk2; omega
  · rcases hwh with h3 | h3
    · have := ownsT_lt h.own6 k (h3 ▸ e); have := hp.ge k hk2; omega
    · rw [h3] at e; cases e
      have := hp.lt hne _ hk2; omega
end
theorem elemU : ElemT Try.prog 65 69 18 32 := by
  refine ⟨Try.underlying65, ?_, by decide⟩
  have h : (Try.prog.info? 69).map (fun i => (i.zero, i.size, i.bytes)) = some (some (.agg (cellsU ⟨zeroK, 0, 0⟩).toArray), 18, 32) := by kernel_rfl
  cases hq : Try.prog.info? 69 with
  | none => simp [hq] at h
  | some i =>
    rw [hq] at h
    simp only [Option.map_some, Option.some.injEq, Prod.mk.injEq] at h
    exact ⟨i, _, rfl, h.1, h.2.1, h.2.2, rfl⟩
theorem run_bdU1 (k : List (BitVec 8)) (hk : k.length = 16) (n : Int) (w : World) : (Instr.build 69 #[(0, .agg (k.map V8).toArray), (2, .int .i64 n)]).run Try.prog w = .ok (.agg (cellsU ⟨k, 0, n⟩).toArray) w := by
  obtain ⟨a, b, c, d, e, f, g, i, j, l, m, n, o, p, q, r, rfl⟩ := key_form k hk
  kernel_rfl
theorem run_bdU2 (k : List (BitVec 8)) (hk : k.length = 16) (t n : Int) (w : World) : (Instr.build 69 #[(0, .agg (k.map V8).toArray), (1, .int .i64 t), (2, .int .i64 n)]).run Try.prog w = .ok (.agg (cellsU ⟨k, t, n⟩).toArray) w := by
  obtain ⟨a, b, c, d, e, f, g, i, j, l, m, n, o, p, q, r, rfl⟩ := key_form k hk
  kernel_rfl
theorem run_bsU (x : Usd) (hk : x.key.length = 16) (w : World) : (Instr.buildSlice 65 1 #[(0, .agg (cellsU x).toArray)]).run Try.prog w = .ok (.slice (some ⟨w.heap.size, 0, none⟩) 1 1) (w.alloc (.cells (cellsU x).toArray 69)) := by
  obtain ⟨k, t, n⟩ := x
  obtain ⟨a, b, c, d, e, f, g, i, j, l, m, n, o, p, q, r, rfl⟩ := key_form k hk
  kernel_rfl
theorem ring_get {l : List Slot} (hl : Ring4 l) (slot : Int) (h0 : 0 ≤ slot) (h4 : slot < 4) : ∃ s, l[slot.toNat]? = some s ∧ s.Ok := by
  have hlt : slot.toNat < l.length := by rw [hl.1]; omega
  exact ⟨l[slot.toNat], by simp [hlt], hl.2 _ (List.getElem_mem hlt)⟩
theorem install_res {l : List Slot} {ks : Keys16} {slot : Int} {k : List (BitVec 8)} (hl : Ring4 l) (hk : k.length = 16) : (∃ e, e ≠ 0 ∧ installF l ks slot k = badR e) ∨ ∃ q, installF l ks slot k = (q, 0) ∧ Ring4 q.1 ∧ q.2.length ≤ 16 := by
  rcases installF_cases l ks slot k with h | h | h | ⟨q, h⟩
  · exact .inl ⟨8, by decide, h⟩
  · exact .inl ⟨2, by decide, h⟩
  · exact .inl ⟨21, by decide, h⟩
  · obtain ⟨_, _, _, _, _, rfl, hok⟩ := install_ok h
    exact .inr ⟨_, h, ring_set l hl _ _ ⟨hk, rfl⟩, hok.len⟩
theorem drop_res {l : List Slot} {ks : Keys16} {slot : Int} (hl : Ring4 l) (hks : ks.length ≤ 16) : (∃ e, e ≠ 0 ∧ dropF l ks slot = badR e) ∨ ∃ q, dropF l ks slot = (q, 0) ∧ Ring4 q.1 ∧ q.2.length ≤ 16 := by
  unfold dropF
  by_cases ha : atF l ks slot = 0
  · rw [if_pos ha]
    split
    · split
      · exact .inr ⟨_, rfl, ring_set l hl _ _ ⟨rfl, rfl⟩, hks⟩
      · exact .inl ⟨6, by decide, rfl⟩
    · exact .inl ⟨2, by decide, rfl⟩
  · rw [if_neg ha]; exact .inl ⟨_, ha, rfl⟩
theorem receive_res {l : List Slot} {ks : Keys16} {slot tid n : Int} (hl : Ring4 l) (hks : ks.length ≤ 16) : (∃ e, e ≠ 0 ∧ receiveF l ks slot tid n = badR e) ∨ ∃ q, receiveF l ks slot tid n = (q, 0) ∧ Ring4 q.1 ∧ q.2.length ≤ 16 := by
  unfold receiveF
  by_cases ha : atF l ks slot = 0
  · rw [if_pos ha]
    split
    · rename_i s hs
      split
      · split
        · refine .inr ⟨_, rfl, ring_set l hl _ _ ⟨(hl.2 s (List.mem_of_getElem? hs)).1, ?_⟩, hks⟩
          exact acceptF_len _ _ _ _ (hl.2 s (List.mem_of_getElem? hs)).2
        · rename_i he; exact .inl ⟨_, he, rfl⟩
      · exact .inl ⟨30, by decide, rfl⟩
    · exact .inl ⟨2, by decide, rfl⟩
  · rw [if_neg ha]; exact .inl ⟨_, ha, rfl⟩
theorem send_res {l : List Slot} {ks : Keys16} {slot : Int} (hl : Ring4 l) (hks : ks.length ≤ 16) : (∃ e, e ≠ 0 ∧ sendF l ks slot = badS e) ∨ ∃ r, sendF l ks slot = r ∧ r.err = 0 ∧ Ring4 r.slots ∧ r.past.length ≤ 16 ∧ r.key.length = 16 := by
  unfold sendF
  by_cases ha : atF l ks slot = 0
  · rw [if_pos ha]
    split
    · rename_i s hs
      have hso := hl.2 s (List.mem_of_getElem? hs)
      split
      · split
        · exact .inr ⟨_, rfl, rfl, ring_set l hl _ _ ⟨hso.1, nextF_len _ _ hso.2⟩, hks, hso.1⟩
        · rename_i he; exact .inl ⟨_, he, rfl⟩
      · exact .inl ⟨30, by decide, rfl⟩
    · exact .inl ⟨2, by decide, rfl⟩
  · rw [if_neg ha]; exact .inl ⟨_, ha, rfl⟩
set_option maxRecDepth 20000 in
set_option maxHeartbeats 12800000 in
theorem counterOnce_walk (v0 : Value) (ops : List Op24) (hk : ∀ o ∈ ops, o.key.length = 16) (hn : ops.length ≤ 9223372036854775807) (w : World) (hs : SlT 20 cellsO w v0 ops) :
    Calls Try.prog 8 #[v0] w fun e w' => e = .returned (.bool true) ∧ Ext w w' := by
  obtain ⟨ad, n, c, rfl, hnl, hcap, hat⟩ := hs
  have HAT := kp hat
  have HNL := kp hnl
  have HOK := kp hk
  have HAL := kp alive_any
  have H := kp (Loc.start w)
  have hn63 : n ≤ 9223372036854775807 := by omega
  clear hat hk hnl hcap hn
  by_cases hbig : 200 < (n : Int)
  · skip
    go_enter Try.func8, Try.ntmps8
    go_wp2_with (first | (go_at_call 10; refine (HAL.out _).mono ?_; rintro e wa ⟨rfl, hx⟩; have H2 := kp (H.out.ext hx); have HXC := kp hx; clear H hx; have H := H2; clear H2))
    go_ret
    exact ⟨rfl, H.out.1⟩
  have hn200 : n ≤ 200 := by omega
  have HMI := kp (fun l ks u (o : Op24) (hl : Ring4 l) (hks : ks.length ≤ 16) (hk : o.key.length = 16) w' (hp : PastV 0 w' u ks) => install_any l hl u ks 0 (by omega) o.slot o.key hk w' hp)
  have HMD := kp (fun l ks u slot (hl : Ring4 l) (hks : ks.length ≤ 16) w' (hp : PastV 0 w' u ks) => drop_any l hl u ks 0 (by omega) slot w' hp)
  have HMS := kp (fun l ks u slot (hl : Ring4 l) (hks : ks.length ≤ 16) w' (hp : PastV 0 w' u ks) => send_any l hl u ks 0 (by omega) slot w' hp)
  have HMR := kp (fun l ks u slot tid num (hl : Ring4 l) (hks : ks.length ≤ 16) w' (hp : PastV 0 w' u ks) => receive_any l hl u ks 0 (by omega) slot tid num w' hp)
  have HLZ := kp (fun (l : List Slot) u (h : Ring4 l) => cellsR_len2 zeroSs l nilV u ring_zero h)
  have HZO := kp (show (Try.prog.info? 67).map (·.size) = some 20 from size67)
  go_enter Try.func8, Try.ntmps8
  go_wp2_with (first | ((with_reducible show wpList _ _ _ (Oper.mk (some 4) (Op.alloc 51) _ _ _ _ :: _) _ _); (with_reducible refine L_alloc H rfl 51 rfl (zeroR) (fun _ _ => by kernel_rfl) ?_); clear H; intro g4 w4 HGg4 HEg4 H; simp only [Act.put, List.setIfInBounds_toArray, List.set_cons_zero, List.set_cons_succ]) | (go_at_call 10; refine (HAL.out _).mono ?_; rintro e wa ⟨rfl, hx⟩; have H2 := kp (H.out.ext hx); have HXC := kp hx; clear H hx; have H := H2; clear H2))
  go_loopw [5, 6, 7, 8] (fun v5 v6 i7 i8 wr => ∃ (j inst : Nat) (l : List Slot) (u : Value) (ks : Keys16) (sent got : List Usd), j ≤ n ∧ i8 = .int .i64 j ∧ i7 = .int .i64 inst ∧ inst ≤ 17 ∧ sent.length ≤ j ∧ got.length ≤ j ∧ Kp (inst ≤ 16 → Once l ks sent got inst) ∧ Kp (Loc w wr [(g4, 51, cellsR l u)]) ∧ Kp (Mem w wr g4 l u ks v5 v6 sent got)) (fun _ _ _ i8 _ => n - (intOf i8).toNat)
  case atStart =>
    refine ⟨0, 0, zeroSs, nilV, [], [], [], by omega, rfl, rfl, by omega, by simp, by simp, kp fun _ => Once.start, H, kp ⟨ring_zero, PastV.nil _ _, by decide, ownsT_nil _ _ _ _, ownsT_nil _ _ _ _, fun x hx => (by cases hx), fun x hx => (by cases hx), fun k hk => (by cases hk), (by intro e; cases e), (by intro e; cases e), fun h => absurd rfl h, fun h => absurd rfl h⟩⟩
  case round =>
    obtain ⟨j, inst, l, u, ks, sent, got, hj, rfl, rfl, hinst, hsl, hgl, HON, HW, HM⟩ := hrel
    by_cases hend : j < n ∧ inst ≤ 16
    case neg =>
      by_cases hlt : (j : Int) < n
      · have hi : ¬ ((inst : Int) ≤ 16) := by omega
        go_wp2_with fail
        go_ret
        exact ⟨rfl, HW.out.1⟩
      · go_wp2_with fail
        go_ret
        exact ⟨rfl, HW.out.1⟩
    obtain ⟨hjn, hi16⟩ := hend
    have hjI : (j : Int) < n := by omega
    have hiI : (inst : Int) ≤ 16 := by omega
    obtain ⟨o, ho⟩ : ∃ o, ops[j]? = some o := ⟨ops[j]'(by rw [← HNL.out]; omega), by simp⟩
    obtain ⟨b, off, rfl, hb, hr⟩ := HAT.out j o ho
    have HOk := kp (HOK.out o (List.mem_of_getElem? ho))
    have HB := kp hb
    have HR := kp hr
    have HZOl := kp (show (Try.prog.info? 67).map (·.size) = some (cellsO o).length by rw [HZO.out, cellsO_len o HOk.out])
    have HZOa := kp (show (Try.prog.info? 67).map (·.size) = some (cellsO o).toArray.size by rw [List.size_toArray]; exact HZOl.out)
    have HOO := kp (show (cellsO o).toArray.all (·.oneCell') = true by refine all_oneCell_toArray fun x hx => ?_; simp only [cellsO, List.mem_cons] at hx; rcases hx with rfl | rfl | rfl | rfl | hx; rfl; rfl; rfl; rfl; exact mem_V8 _ x hx)
    have HOL := kp (show (cellsO ⟨0, 0, 0, 0, zeroK⟩).length = (cellsO o).length by rw [cellsO_len o HOk.out]; rfl)
    have HO0 := kp (show (cellsO o)[0]? = some (V8 o.kind) from rfl)
    have HO1 := kp (show (cellsO o)[1]? = some (.int .i64 o.slot) from rfl)
    have HO2 := kp (show (cellsO o)[2]? = some (.int .i64 o.tid) from rfl)
    have HO3 := kp (show (cellsO o)[3]? = some (.int .i64 o.num) from rfl)
    have HO4 := kp (show ((cellsO o).drop 4).take (o.key.map V8).length = o.key.map V8 from List.take_of_length_le (Nat.le_refl _))
    have HZKl := kp (sizeKl o.key HOk.out)
    have HZR := kp (fun u => sizeR l u HM.out.ring)
    have HL4 := kp (show Lc wr g4 51 (cellsR l u) from HW.out.at 0 rfl)
    have HG4 := kp HL4.out.lt
    have HRX := kp (rangeAt_ext HR.out HB.out HW.out.1)
    have H := kp (Loc.start wr)
    have HBX := kp (Nat.lt_of_lt_of_le HB.out HW.out.1.size)
    clear ho hb hr
    generalize h13 : (Code.region 13 _ _ : Code) = R13
    generalize h37 : (Code.region 37 _ _ : Code) = R37
    generalize h36 : (Code.region 36 _ _ : Code) = R36
    generalize h21 : (Code.region 21 _ _ : Code) = R21
    generalize h18 : (Code.region 18 _ _ : Code) = R18
    go_wp2_with (first | ((with_reducible show wpList _ _ _ (Oper.mk (some 38) (Op.load _ _) _ _ _ _ :: _) _ _); (refine wpList_load_mid rfl 67 _ rfl b (off + j * 20) rfl (cellsO o) _ (HRX.out) Try.underlying67 rfl HZOl.out ?_); simp only [Act.put, List.setIfInBounds_toArray, List.set_cons_zero, List.set_cons_succ]) | ((with_reducible show wpList _ _ _ (Oper.mk (some 9) (Op.alloc 67) _ _ _ _ :: _) _ _); (with_reducible refine L_alloc H rfl 67 rfl (cellsO ⟨0, 0, 0, 0, zeroK⟩) (fun _ _ => by kernel_rfl) ?_); clear H; intro g9 w9 HGg9 HEg9 H; simp only [Act.put, List.setIfInBounds_toArray, List.set_cons_zero, List.set_cons_succ]) | ((with_reducible show wpList _ _ _ (Oper.mk none (Op.store 67 _ _) _ _ _ _ :: _) _ _); (first | (refine L_store H rfl rfl 67 _ _ rfl 0 rfl rfl (cellsO o) rfl (HZOa.out) (HOL.out) (HOO.out) ?_; clear H; intro wo HWwo H; simp only [List.set_cons_zero] at H) | (refine L_store H rfl rfl 67 _ _ rfl 1 rfl rfl (cellsO o) rfl (HZOa.out) (HOL.out) (HOO.out) ?_; clear H; intro wo HWwo H; simp only [List.set_cons_succ, List.set_cons_zero] at H) | (refine L_store H rfl rfl 67 _ _ rfl 2 rfl rfl (cellsO o) rfl (HZOa.out) (HOL.out) (HOO.out) ?_; clear H; intro wo HWwo H; simp only [List.set_cons_succ, List.set_cons_zero] at H) | (refine L_store H rfl rfl 67 _ _ rfl 3 rfl rfl (cellsO o) rfl (HZOa.out) (HOL.out) (HOO.out) ?_; clear H; intro wo HWwo H; simp only [List.set_cons_succ, List.set_cons_zero] at H) | (refine L_store H rfl rfl 67 _ _ rfl 4 rfl rfl (cellsO o) rfl (HZOa.out) (HOL.out) (HOO.out) ?_; clear H; intro wo HWwo H; simp only [List.set_cons_succ, List.set_cons_zero] at H) | (refine L_store H rfl rfl 67 _ _ rfl 5 rfl rfl (cellsO o) rfl (HZOa.out) (HOL.out) (HOO.out) ?_; clear H; intro wo HWwo H; simp only [List.set_cons_succ, List.set_cons_zero] at H))) | ((with_reducible show wpList _ _ _ (Oper.mk (some 10) (Op.alloc 51) _ _ _ _ :: _) _ _); (with_reducible refine L_alloc H rfl 51 rfl (zeroR) (fun _ _ => by kernel_rfl) ?_); clear H; intro g10 w10 HGg10 HEg10 H; simp only [Act.put, List.setIfInBounds_toArray, List.set_cons_zero, List.set_cons_succ]))
    have hc0 := run_load_cell H.out 1 rfl _ _ HO0.out
    have hc1 := run_load_cell H.out 1 rfl _ _ HO1.out
    have hc2 := run_load_cell H.out 1 rfl _ _ HO2.out
    have hc3 := run_load_cell H.out 1 rfl _ _ HO3.out
    have HZB := kp (fun u => sizeR zeroSs u ring_zero)
    have HOB := kp (fun (l : List Slot) u (h : u.oneCell' = true) => one_cellsR l u h)
    by_cases hk0 : o.kind = 0#8
    · have e0 : (o.kind == 0#8) = true := by simp [hk0]
      have HI := kp (HMI.out l ks u o HM.out.ring HM.out.pk HOk.out)
      rcases install_res (l := l) (ks := ks) (slot := o.slot) HM.out.ring HOk.out with ⟨er, hne, h⟩ | ⟨q, h, hq1, hq2⟩
      · rw [h] at HI
        have her : (er == 0) = false := by simp [hne]
        clear h hne
        subst h13
        go_wp2_with (first | ((with_reducible show wpList _ _ _ (Oper.mk _ (Op.load 51 _) _ _ _ _ :: _) _ _); (refine wpList_load_rowG (by kernel_rfl) 51 _ rfl (g4) rfl 51 (cellsR l u).toArray (0, 0) _ (HL4.out.ext H.out.1) Try.underlying51 rfl (HZR.out _) ?_); simp only [Act.put, List.setIfInBounds_toArray, List.set_cons_zero, List.set_cons_succ]) | ((with_reducible show wpList _ _ _ (Oper.mk _ (Op.load 45 _) _ _ _ _ :: _) _ _); (first | (refine L_sub H rfl 45 _ rfl 0 rfl (4) rfl (o.key.map V8) (HO4.out) Try.underlying45 rfl (HZKl.out) ?_) | (refine L_sub H rfl 45 _ rfl 1 rfl (4) rfl (o.key.map V8) (HO4.out) Try.underlying45 rfl (HZKl.out) ?_) | (refine L_sub H rfl 45 _ rfl 2 rfl (4) rfl (o.key.map V8) (HO4.out) Try.underlying45 rfl (HZKl.out) ?_) | (refine L_sub H rfl 45 _ rfl 3 rfl (4) rfl (o.key.map V8) (HO4.out) Try.underlying45 rfl (HZKl.out) ?_) | (refine L_sub H rfl 45 _ rfl 4 rfl (4) rfl (o.key.map V8) (HO4.out) Try.underlying45 rfl (HZKl.out) ?_) | (refine L_sub H rfl 45 _ rfl 5 rfl (4) rfl (o.key.map V8) (HO4.out) Try.underlying45 rfl (HZKl.out) ?_)); simp only [Act.put, List.setIfInBounds_toArray, List.set_cons_zero, List.set_cons_succ]))
        refine (HI.out _ (HM.out.past.ext H.out.1)).mono ?_
        rintro e2 wi ⟨u2, rfl, hpv, hx⟩
        have HU2 := kp (slot_oneP hpv)
        clear hpv
        have H2 := kp (H.out.ext hx); have HXC := kp hx; clear H hx; have H := H2; clear H2
        unfold badR
        dsimp only
        go_wp2_with (first | ((with_reducible show wpList _ _ _ (Oper.mk none (Op.store 51 _ _) _ _ _ _ :: _) _ _); (first | (refine L_store H rfl rfl 51 _ _ rfl 0 rfl rfl (cellsR zeroSs u2) rfl (HZB.out _) (HLZ.out _ _ ring_zero) (HOB.out _ _ HU2.out) ?_; clear H; intro wz HWwz H; simp only [List.set_cons_zero] at H) | (refine L_store H rfl rfl 51 _ _ rfl 1 rfl rfl (cellsR zeroSs u2) rfl (HZB.out _) (HLZ.out _ _ ring_zero) (HOB.out _ _ HU2.out) ?_; clear H; intro wz HWwz H; simp only [List.set_cons_succ, List.set_cons_zero] at H) | (refine L_store H rfl rfl 51 _ _ rfl 2 rfl rfl (cellsR zeroSs u2) rfl (HZB.out _) (HLZ.out _ _ ring_zero) (HOB.out _ _ HU2.out) ?_; clear H; intro wz HWwz H; simp only [List.set_cons_succ, List.set_cons_zero] at H) | (refine L_store H rfl rfl 51 _ _ rfl 3 rfl rfl (cellsR zeroSs u2) rfl (HZB.out _) (HLZ.out _ _ ring_zero) (HOB.out _ _ HU2.out) ?_; clear H; intro wz HWwz H; simp only [List.set_cons_succ, List.set_cons_zero] at H) | (refine L_store H rfl rfl 51 _ _ rfl 4 rfl rfl (cellsR zeroSs u2) rfl (HZB.out _) (HLZ.out _ _ ring_zero) (HOB.out _ _ HU2.out) ?_; clear H; intro wz HWwz H; simp only [List.set_cons_succ, List.set_cons_zero] at H) | (refine L_store H rfl rfl 51 _ _ rfl 5 rfl rfl (cellsR zeroSs u2) rfl (HZB.out _) (HLZ.out _ _ ring_zero) (HOB.out _ _ HU2.out) ?_; clear H; intro wz HWwz H; simp only [List.set_cons_succ, List.set_cons_zero] at H))))
        subst h37
        go_wp2_with fail
        go_roundw
        case rel => exact ⟨j + 1, inst, l, u, ks, sent, got, by omega, by go_num, rfl, by omega, by omega, by omega, HON, kp (HW.out.ext H.out.1), kp (HM.out.ext H.out.1)⟩
        case measure => simp [intOf]; omega
      · rw [h] at HI
        have HQ := kp h
        have HQ1 := kp hq1
        have HQ2 := kp hq2
        clear h hq1 hq2
        subst h13
        go_wp2_with (first | ((with_reducible show wpList _ _ _ (Oper.mk _ (Op.load 51 _) _ _ _ _ :: _) _ _); (refine wpList_load_rowG (by kernel_rfl) 51 _ rfl (g4) rfl 51 (cellsR l u).toArray (0, 0) _ (HL4.out.ext H.out.1) Try.underlying51 rfl (HZR.out _) ?_); simp only [Act.put, List.setIfInBounds_toArray, List.set_cons_zero, List.set_cons_succ]) | ((with_reducible show wpList _ _ _ (Oper.mk _ (Op.load 45 _) _ _ _ _ :: _) _ _); (first | (refine L_sub H rfl 45 _ rfl 0 rfl (4) rfl (o.key.map V8) (HO4.out) Try.underlying45 rfl (HZKl.out) ?_) | (refine L_sub H rfl 45 _ rfl 1 rfl (4) rfl (o.key.map V8) (HO4.out) Try.underlying45 rfl (HZKl.out) ?_) | (refine L_sub H rfl 45 _ rfl 2 rfl (4) rfl (o.key.map V8) (HO4.out) Try.underlying45 rfl (HZKl.out) ?_) | (refine L_sub H rfl 45 _ rfl 3 rfl (4) rfl (o.key.map V8) (HO4.out) Try.underlying45 rfl (HZKl.out) ?_) | (refine L_sub H rfl 45 _ rfl 4 rfl (4) rfl (o.key.map V8) (HO4.out) Try.underlying45 rfl (HZKl.out) ?_) | (refine L_sub H rfl 45 _ rfl 5 rfl (4) rfl (o.key.map V8) (HO4.out) Try.underlying45 rfl (HZKl.out) ?_)); simp only [Act.put, List.setIfInBounds_toArray, List.set_cons_zero, List.set_cons_succ]))
        refine (HI.out _ (HM.out.past.ext H.out.1)).mono ?_
        rintro e2 wi ⟨u2, rfl, hpv, hx⟩
        have HU2 := kp (slot_oneP hpv)
        have HPV := kp hpv
        have HLT := kp (H.out.lt 0 rfl)
        have HWS := kp H.out.1.size
        clear hpv
        have H2 := kp (H.out.ext hx); have HXC := kp hx; clear H hx; have H := H2; clear H2
        dsimp only
        have HZQ := kp (fun u => sizeR q.1 u HQ1.out)
        have HLQ := kp (fun u' => cellsR_len2 l q.1 u u' HM.out.ring HQ1.out)
        go_wp2_with (first | ((with_reducible show wpList _ _ _ (Oper.mk none (Op.store 51 _ _) _ _ _ _ :: _) _ _); (first | (refine L_store H rfl rfl 51 _ _ rfl 0 rfl rfl (cellsR q.1 u2) rfl (HZQ.out _) (HLZ.out _ _ HQ1.out) (HOB.out _ _ HU2.out) ?_; clear H; intro wz HWwz H; simp only [List.set_cons_zero] at H) | (refine L_store H rfl rfl 51 _ _ rfl 1 rfl rfl (cellsR q.1 u2) rfl (HZQ.out _) (HLZ.out _ _ HQ1.out) (HOB.out _ _ HU2.out) ?_; clear H; intro wz HWwz H; simp only [List.set_cons_succ, List.set_cons_zero] at H) | (refine L_store H rfl rfl 51 _ _ rfl 2 rfl rfl (cellsR q.1 u2) rfl (HZQ.out _) (HLZ.out _ _ HQ1.out) (HOB.out _ _ HU2.out) ?_; clear H; intro wz HWwz H; simp only [List.set_cons_succ, List.set_cons_zero] at H) | (refine L_store H rfl rfl 51 _ _ rfl 3 rfl rfl (cellsR q.1 u2) rfl (HZQ.out _) (HLZ.out _ _ HQ1.out) (HOB.out _ _ HU2.out) ?_; clear H; intro wz HWwz H; simp only [List.set_cons_succ, List.set_cons_zero] at H) | (refine L_store H rfl rfl 51 _ _ rfl 4 rfl rfl (cellsR q.1 u2) rfl (HZQ.out _) (HLZ.out _ _ HQ1.out) (HOB.out _ _ HU2.out) ?_; clear H; intro wz HWwz H; simp only [List.set_cons_succ, List.set_cons_zero] at H) | (refine L_store H rfl rfl 51 _ _ rfl 5 rfl rfl (cellsR q.1 u2) rfl (HZQ.out _) (HLZ.out _ _ HQ1.out) (HOB.out _ _ HU2.out) ?_; clear H; intro wz HWwz H; simp only [List.set_cons_succ, List.set_cons_zero] at H))))
        have HXR := kp H.out.1
        have HJ := kp (HW.out.join H.out)
        clear H
        have H := HJ
        clear HJ
        simp only [List.cons_append, List.nil_append] at H
        have HPW := kp ((HPV.out.wrote HWwz.out HLT.out).base HWS.out)
        subst h37
        go_wp2_with (first | ((with_reducible show wpList _ _ _ (Oper.mk _ (Op.load 51 _) _ _ _ _ :: _) _ _); (first | (refine L_load H rfl 51 _ rfl 0 rfl rfl Try.underlying51 rfl (HZQ.out _) ?_) | (refine L_load H rfl 51 _ rfl 1 rfl rfl Try.underlying51 rfl (HZQ.out _) ?_) | (refine L_load H rfl 51 _ rfl 2 rfl rfl Try.underlying51 rfl (HZQ.out _) ?_) | (refine L_load H rfl 51 _ rfl 3 rfl rfl Try.underlying51 rfl (HZQ.out _) ?_) | (refine L_load H rfl 51 _ rfl 4 rfl rfl Try.underlying51 rfl (HZQ.out _) ?_) | (refine L_load H rfl 51 _ rfl 5 rfl rfl Try.underlying51 rfl (HZQ.out _) ?_)); simp only [Act.put, List.setIfInBounds_toArray, List.set_cons_zero, List.set_cons_succ]) | ((with_reducible show wpList _ _ _ (Oper.mk none (Op.store 51 _ _) _ _ _ _ :: _) _ _); (first | (refine L_store H rfl rfl 51 _ _ rfl 0 rfl rfl (cellsR q.1 u2) rfl (HZQ.out _) (HLQ.out _) (HOB.out _ _ HU2.out) ?_; clear H; intro ws HWws H; simp only [List.set_cons_zero] at H) | (refine L_store H rfl rfl 51 _ _ rfl 1 rfl rfl (cellsR q.1 u2) rfl (HZQ.out _) (HLQ.out _) (HOB.out _ _ HU2.out) ?_; clear H; intro ws HWws H; simp only [List.set_cons_succ, List.set_cons_zero] at H) | (refine L_store H rfl rfl 51 _ _ rfl 2 rfl rfl (cellsR q.1 u2) rfl (HZQ.out _) (HLQ.out _) (HOB.out _ _ HU2.out) ?_; clear H; intro ws HWws H; simp only [List.set_cons_succ, List.set_cons_zero] at H) | (refine L_store H rfl rfl 51 _ _ rfl 3 rfl rfl (cellsR q.1 u2) rfl (HZQ.out _) (HLQ.out _) (HOB.out _ _ HU2.out) ?_; clear H; intro ws HWws H; simp only [List.set_cons_succ, List.set_cons_zero] at H) | (refine L_store H rfl rfl 51 _ _ rfl 4 rfl rfl (cellsR q.1 u2) rfl (HZQ.out _) (HLQ.out _) (HOB.out _ _ HU2.out) ?_; clear H; intro ws HWws H; simp only [List.set_cons_succ, List.set_cons_zero] at H) | (refine L_store H rfl rfl 51 _ _ rfl 5 rfl rfl (cellsR q.1 u2) rfl (HZQ.out _) (HLQ.out _) (HOB.out _ _ HU2.out) ?_; clear H; intro ws HWws H; simp only [List.set_cons_succ, List.set_cons_zero] at H))))
        go_roundw
        case rel => exact ⟨j + 1, inst + 1, q.1, u2, q.2, sent, got, by omega, by go_num, by go_num, by omega, by omega, by omega, kp (fun hi => (HON.out hi16).install (by omega) HQ.out), kp H.out.tail.tail, kp (HM.out.next HXR.out HG4.out HQ1.out HPW.out HQ2.out HWws.out)⟩
        case measure => simp [intOf]; omega
    have e0 : (o.kind == 0#8) = false := by simp [hk0]
    by_cases hk1 : o.kind = 1#8
    · have e1 : (wI o.kind == 1) = true := by rw [hk1]; rfl
      have HI := kp (HMD.out l ks u o.slot HM.out.ring HM.out.pk)
      rcases drop_res (l := l) (ks := ks) (slot := o.slot) HM.out.ring HM.out.pk with ⟨er, hne, h⟩ | ⟨q, h, hq1, hq2⟩
      · rw [h] at HI
        have her : (er == 0) = false := by simp [hne]
        clear h hne
        subst h13
        go_wp2_with (first | ((with_reducible show wpList _ _ _ (Oper.mk _ (Op.load 51 _) _ _ _ _ :: _) _ _); (refine wpList_load_rowG (by kernel_rfl) 51 _ rfl (g4) rfl 51 (cellsR l u).toArray (0, 0) _ (HL4.out.ext H.out.1) Try.underlying51 rfl (HZR.out _) ?_); simp only [Act.put, List.setIfInBounds_toArray, List.set_cons_zero, List.set_cons_succ]))
        refine (HI.out _ (HM.out.past.ext H.out.1)).mono ?_
        rintro e2 wi ⟨u2, rfl, hpv, hx⟩
        have HU2 := kp (slot_oneP hpv)
        clear hpv
        have H2 := kp (H.out.ext hx); have HXC := kp hx; clear H hx; have H := H2; clear H2
        unfold badR
        dsimp only
        go_wp2_with (first | ((with_reducible show wpList _ _ _ (Oper.mk none (Op.store 51 _ _) _ _ _ _ :: _) _ _); (first | (refine L_store H rfl rfl 51 _ _ rfl 0 rfl rfl (cellsR zeroSs u2) rfl (HZB.out _) (HLZ.out _ _ ring_zero) (HOB.out _ _ HU2.out) ?_; clear H; intro wz HWwz H; simp only [List.set_cons_zero] at H) | (refine L_store H rfl rfl 51 _ _ rfl 1 rfl rfl (cellsR zeroSs u2) rfl (HZB.out _) (HLZ.out _ _ ring_zero) (HOB.out _ _ HU2.out) ?_; clear H; intro wz HWwz H; simp only [List.set_cons_succ, List.set_cons_zero] at H) | (refine L_store H rfl rfl 51 _ _ rfl 2 rfl rfl (cellsR zeroSs u2) rfl (HZB.out _) (HLZ.out _ _ ring_zero) (HOB.out _ _ HU2.out) ?_; clear H; intro wz HWwz H; simp only [List.set_cons_succ, List.set_cons_zero] at H) | (refine L_store H rfl rfl 51 _ _ rfl 3 rfl rfl (cellsR zeroSs u2) rfl (HZB.out _) (HLZ.out _ _ ring_zero) (HOB.out _ _ HU2.out) ?_; clear H; intro wz HWwz H; simp only [List.set_cons_succ, List.set_cons_zero] at H) | (refine L_store H rfl rfl 51 _ _ rfl 4 rfl rfl (cellsR zeroSs u2) rfl (HZB.out _) (HLZ.out _ _ ring_zero) (HOB.out _ _ HU2.out) ?_; clear H; intro wz HWwz H; simp only [List.set_cons_succ, List.set_cons_zero] at H) | (refine L_store H rfl rfl 51 _ _ rfl 5 rfl rfl (cellsR zeroSs u2) rfl (HZB.out _) (HLZ.out _ _ ring_zero) (HOB.out _ _ HU2.out) ?_; clear H; intro wz HWwz H; simp only [List.set_cons_succ, List.set_cons_zero] at H))))
        subst h37
        go_wp2_with fail
        go_roundw
        case rel => exact ⟨j + 1, inst, l, u, ks, sent, got, by omega, by go_num, rfl, by omega, by omega, by omega, HON, kp (HW.out.ext H.out.1), kp (HM.out.ext H.out.1)⟩
        case measure => simp [intOf]; omega
      · rw [h] at HI
        have HQ := kp h
        have HQ1 := kp hq1
        have HQ2 := kp hq2
        clear h hq1 hq2
        subst h13
        go_wp2_with (first | ((with_reducible show wpList _ _ _ (Oper.mk _ (Op.load 51 _) _ _ _ _ :: _) _ _); (refine wpList_load_rowG (by kernel_rfl) 51 _ rfl (g4) rfl 51 (cellsR l u).toArray (0, 0) _ (HL4.out.ext H.out.1) Try.underlying51 rfl (HZR.out _) ?_); simp only [Act.put, List.setIfInBounds_toArray, List.set_cons_zero, List.set_cons_succ]))
        refine (HI.out _ (HM.out.past.ext H.out.1)).mono ?_
        rintro e2 wi ⟨u2, rfl, hpv, hx⟩
        have HU2 := kp (slot_oneP hpv)
        have HPV := kp hpv
        have HLT := kp (H.out.lt 0 rfl)
        have HWS := kp H.out.1.size
        clear hpv
        have H2 := kp (H.out.ext hx); have HXC := kp hx; clear H hx; have H := H2; clear H2
        dsimp only
        have HZQ := kp (fun u => sizeR q.1 u HQ1.out)
        have HLQ := kp (fun u' => cellsR_len2 l q.1 u u' HM.out.ring HQ1.out)
        go_wp2_with (first | ((with_reducible show wpList _ _ _ (Oper.mk none (Op.store 51 _ _) _ _ _ _ :: _) _ _); (first | (refine L_store H rfl rfl 51 _ _ rfl 0 rfl rfl (cellsR q.1 u2) rfl (HZQ.out _) (HLZ.out _ _ HQ1.out) (HOB.out _ _ HU2.out) ?_; clear H; intro wz HWwz H; simp only [List.set_cons_zero] at H) | (refine L_store H rfl rfl 51 _ _ rfl 1 rfl rfl (cellsR q.1 u2) rfl (HZQ.out _) (HLZ.out _ _ HQ1.out) (HOB.out _ _ HU2.out) ?_; clear H; intro wz HWwz H; simp only [List.set_cons_succ, List.set_cons_zero] at H) | (refine L_store H rfl rfl 51 _ _ rfl 2 rfl rfl (cellsR q.1 u2) rfl (HZQ.out _) (HLZ.out _ _ HQ1.out) (HOB.out _ _ HU2.out) ?_; clear H; intro wz HWwz H; simp only [List.set_cons_succ, List.set_cons_zero] at H) | (refine L_store H rfl rfl 51 _ _ rfl 3 rfl rfl (cellsR q.1 u2) rfl (HZQ.out _) (HLZ.out _ _ HQ1.out) (HOB.out _ _ HU2.out) ?_; clear H; intro wz HWwz H; simp only [List.set_cons_succ, List.set_cons_zero] at H) | (refine L_store H rfl rfl 51 _ _ rfl 4 rfl rfl (cellsR q.1 u2) rfl (HZQ.out _) (HLZ.out _ _ HQ1.out) (HOB.out _ _ HU2.out) ?_; clear H; intro wz HWwz H; simp only [List.set_cons_succ, List.set_cons_zero] at H) | (refine L_store H rfl rfl 51 _ _ rfl 5 rfl rfl (cellsR q.1 u2) rfl (HZQ.out _) (HLZ.out _ _ HQ1.out) (HOB.out _ _ HU2.out) ?_; clear H; intro wz HWwz H; simp only [List.set_cons_succ, List.set_cons_zero] at H))))
        have HXR := kp H.out.1
        have HJ := kp (HW.out.join H.out)
        clear H
        have H := HJ
        clear HJ
        simp only [List.cons_append, List.nil_append] at H
        have HPW := kp ((HPV.out.wrote HWwz.out HLT.out).base HWS.out)
        subst h37
        go_wp2_with (first | ((with_reducible show wpList _ _ _ (Oper.mk _ (Op.load 51 _) _ _ _ _ :: _) _ _); (first | (refine L_load H rfl 51 _ rfl 0 rfl rfl Try.underlying51 rfl (HZQ.out _) ?_) | (refine L_load H rfl 51 _ rfl 1 rfl rfl Try.underlying51 rfl (HZQ.out _) ?_) | (refine L_load H rfl 51 _ rfl 2 rfl rfl Try.underlying51 rfl (HZQ.out _) ?_) | (refine L_load H rfl 51 _ rfl 3 rfl rfl Try.underlying51 rfl (HZQ.out _) ?_) | (refine L_load H rfl 51 _ rfl 4 rfl rfl Try.underlying51 rfl (HZQ.out _) ?_) | (refine L_load H rfl 51 _ rfl 5 rfl rfl Try.underlying51 rfl (HZQ.out _) ?_)); simp only [Act.put, List.setIfInBounds_toArray, List.set_cons_zero, List.set_cons_succ]) | ((with_reducible show wpList _ _ _ (Oper.mk none (Op.store 51 _ _) _ _ _ _ :: _) _ _); (first | (refine L_store H rfl rfl 51 _ _ rfl 0 rfl rfl (cellsR q.1 u2) rfl (HZQ.out _) (HLQ.out _) (HOB.out _ _ HU2.out) ?_; clear H; intro ws HWws H; simp only [List.set_cons_zero] at H) | (refine L_store H rfl rfl 51 _ _ rfl 1 rfl rfl (cellsR q.1 u2) rfl (HZQ.out _) (HLQ.out _) (HOB.out _ _ HU2.out) ?_; clear H; intro ws HWws H; simp only [List.set_cons_succ, List.set_cons_zero] at H) | (refine L_store H rfl rfl 51 _ _ rfl 2 rfl rfl (cellsR q.1 u2) rfl (HZQ.out _) (HLQ.out _) (HOB.out _ _ HU2.out) ?_; clear H; intro ws HWws H; simp only [List.set_cons_succ, List.set_cons_zero] at H) | (refine L_store H rfl rfl 51 _ _ rfl 3 rfl rfl (cellsR q.1 u2) rfl (HZQ.out _) (HLQ.out _) (HOB.out _ _ HU2.out) ?_; clear H; intro ws HWws H; simp only [List.set_cons_succ, List.set_cons_zero] at H) | (refine L_store H rfl rfl 51 _ _ rfl 4 rfl rfl (cellsR q.1 u2) rfl (HZQ.out _) (HLQ.out _) (HOB.out _ _ HU2.out) ?_; clear H; intro ws HWws H; simp only [List.set_cons_succ, List.set_cons_zero] at H) | (refine L_store H rfl rfl 51 _ _ rfl 5 rfl rfl (cellsR q.1 u2) rfl (HZQ.out _) (HLQ.out _) (HOB.out _ _ HU2.out) ?_; clear H; intro ws HWws H; simp only [List.set_cons_succ, List.set_cons_zero] at H))))
        go_roundw
        case rel => exact ⟨j + 1, inst, q.1, u2, q.2, sent, got, by omega, by go_num, rfl, by omega, by omega, by omega, kp (fun _ => (HON.out hi16).drop HQ.out), kp H.out.tail.tail, kp (HM.out.next HXR.out HG4.out HQ1.out HPW.out HQ2.out HWws.out)⟩
        case measure => simp [intOf]; omega
    have e1 : (wI o.kind == 1) = false := (wI_beq o.kind 1#8).trans (by simp [hk1])
    have HZK0 := kp (sizeKy zeroK rfl)
    have HK0O := kp (all_V8 zeroK)
    have HUL0 := kp (show (cellsU ⟨zeroK, 0, 0⟩).length = 18 from rfl)
    by_cases hk2 : o.kind = 2#8
    · have e2 : (wI o.kind == 2) = true := by rw [hk2]; rfl
      have HI := kp (HMS.out l ks u o.slot HM.out.ring HM.out.pk)
      rcases send_res (l := l) (ks := ks) (slot := o.slot) HM.out.ring HM.out.pk with ⟨er, hne, h⟩ | ⟨r, h, hr0, hr1, hr2, hr3⟩
      · rw [h] at HI
        have her : (er == 0) = false := by simp [hne]
        clear h hne
        subst h13
        go_wp2_with (first | (((with_reducible show wpList _ _ _ (Oper.mk (some 12) (Op.alloc 45) _ _ _ _ :: _) _ _); (with_reducible refine L_alloc H rfl 45 rfl (zeroK.map V8) (fun _ _ => by kernel_rfl) ?_); clear H; intro g12 w12 HGg12 HEg12 H; simp only [Act.put, List.setIfInBounds_toArray, List.set_cons_zero, List.set_cons_succ]); have hc12 := run_load_cell H.out 2 rfl _ _ HO1.out) | ((with_reducible show wpList _ _ _ (Oper.mk _ (Op.load 51 _) _ _ _ _ :: _) _ _); (refine wpList_load_rowG (by kernel_rfl) 51 _ rfl (g4) rfl 51 (cellsR l u).toArray (0, 0) _ (HL4.out.ext H.out.1) Try.underlying51 rfl (HZR.out _) ?_); simp only [Act.put, List.setIfInBounds_toArray, List.set_cons_zero, List.set_cons_succ]))
        refine (HI.out _ (HM.out.past.ext H.out.1)).mono ?_
        rintro e2 wi ⟨u2, rfl, hpv, hx⟩
        have HU2 := kp (slot_oneP hpv)
        clear hpv
        have H2 := kp (H.out.ext hx); have HXC := kp hx; clear H hx; have H := H2; clear H2
        unfold badS
        dsimp only
        have HZX := kp (sizeUa ⟨zeroK, 0, 0⟩ rfl)
        have HOX1 := kp (all_oneCell_toArray (one_cellsU ⟨zeroK, 0, 0⟩))
        go_wp2_with (first | ((with_reducible show wpList _ _ _ (Oper.mk none (Op.store 45 _ _) _ _ _ _ :: _) _ _); (first | (refine L_store H rfl rfl 45 _ _ rfl 0 rfl rfl (zeroK.map V8) rfl (HZK0.out) (rfl) (HK0O.out) ?_; clear H; intro wk HWwk H; simp only [List.set_cons_zero] at H) | (refine L_store H rfl rfl 45 _ _ rfl 1 rfl rfl (zeroK.map V8) rfl (HZK0.out) (rfl) (HK0O.out) ?_; clear H; intro wk HWwk H; simp only [List.set_cons_succ, List.set_cons_zero] at H) | (refine L_store H rfl rfl 45 _ _ rfl 2 rfl rfl (zeroK.map V8) rfl (HZK0.out) (rfl) (HK0O.out) ?_; clear H; intro wk HWwk H; simp only [List.set_cons_succ, List.set_cons_zero] at H) | (refine L_store H rfl rfl 45 _ _ rfl 3 rfl rfl (zeroK.map V8) rfl (HZK0.out) (rfl) (HK0O.out) ?_; clear H; intro wk HWwk H; simp only [List.set_cons_succ, List.set_cons_zero] at H) | (refine L_store H rfl rfl 45 _ _ rfl 4 rfl rfl (zeroK.map V8) rfl (HZK0.out) (rfl) (HK0O.out) ?_; clear H; intro wk HWwk H; simp only [List.set_cons_succ, List.set_cons_zero] at H) | (refine L_store H rfl rfl 45 _ _ rfl 5 rfl rfl (zeroK.map V8) rfl (HZK0.out) (rfl) (HK0O.out) ?_; clear H; intro wk HWwk H; simp only [List.set_cons_succ, List.set_cons_zero] at H))) | ((with_reducible show wpList _ _ _ (Oper.mk none (Op.store 51 _ _) _ _ _ _ :: _) _ _); (first | (refine L_store H rfl rfl 51 _ _ rfl 0 rfl rfl (cellsR zeroSs u2) rfl (HZB.out _) (HLZ.out _ _ ring_zero) (HOB.out _ _ HU2.out) ?_; clear H; intro wz HWwz H; simp only [List.set_cons_zero] at H) | (refine L_store H rfl rfl 51 _ _ rfl 1 rfl rfl (cellsR zeroSs u2) rfl (HZB.out _) (HLZ.out _ _ ring_zero) (HOB.out _ _ HU2.out) ?_; clear H; intro wz HWwz H; simp only [List.set_cons_succ, List.set_cons_zero] at H) | (refine L_store H rfl rfl 51 _ _ rfl 2 rfl rfl (cellsR zeroSs u2) rfl (HZB.out _) (HLZ.out _ _ ring_zero) (HOB.out _ _ HU2.out) ?_; clear H; intro wz HWwz H; simp only [List.set_cons_succ, List.set_cons_zero] at H) | (refine L_store H rfl rfl 51 _ _ rfl 3 rfl rfl (cellsR zeroSs u2) rfl (HZB.out _) (HLZ.out _ _ ring_zero) (HOB.out _ _ HU2.out) ?_; clear H; intro wz HWwz H; simp only [List.set_cons_succ, List.set_cons_zero] at H) | (refine L_store H rfl rfl 51 _ _ rfl 4 rfl rfl (cellsR zeroSs u2) rfl (HZB.out _) (HLZ.out _ _ ring_zero) (HOB.out _ _ HU2.out) ?_; clear H; intro wz HWwz H; simp only [List.set_cons_succ, List.set_cons_zero] at H) | (refine L_store H rfl rfl 51 _ _ rfl 5 rfl rfl (cellsR zeroSs u2) rfl (HZB.out _) (HLZ.out _ _ ring_zero) (HOB.out _ _ HU2.out) ?_; clear H; intro wz HWwz H; simp only [List.set_cons_succ, List.set_cons_zero] at H))) | ((with_reducible show wpList _ _ _ (Oper.mk _ (Op.load 45 _) _ _ _ _ :: _) _ _); (first | (refine L_load H rfl 45 _ rfl 0 rfl rfl Try.underlying45 rfl (HZK0.out) ?_) | (refine L_load H rfl 45 _ rfl 1 rfl rfl Try.underlying45 rfl (HZK0.out) ?_) | (refine L_load H rfl 45 _ rfl 2 rfl rfl Try.underlying45 rfl (HZK0.out) ?_) | (refine L_load H rfl 45 _ rfl 3 rfl rfl Try.underlying45 rfl (HZK0.out) ?_) | (refine L_load H rfl 45 _ rfl 4 rfl rfl Try.underlying45 rfl (HZK0.out) ?_) | (refine L_load H rfl 45 _ rfl 5 rfl rfl Try.underlying45 rfl (HZK0.out) ?_)); simp only [Act.put, List.setIfInBounds_toArray, List.set_cons_zero, List.set_cons_succ]) | ((with_reducible show wpList _ _ _ (Oper.mk (some 117) (Op.build 69 _) _ _ _ _ :: _) _ _); (refine L_bd (by kernel_rfl) 69 _ rfl (#[(0, .agg (zeroK.map V8).toArray), (2, .int .i64 0)]) (by kernel_rfl) (cellsU ⟨zeroK, 0, 0⟩) (run_bdU1 zeroK rfl 0) ?_); simp only [Act.put, List.setIfInBounds_toArray, List.set_cons_zero, List.set_cons_succ]) | ((with_reducible show wpList _ _ _ (Oper.mk (some 14) (Op.alloc 69) _ _ _ _ :: _) _ _); (with_reducible refine L_alloc H rfl 69 rfl (cellsU ⟨zeroK, 0, 0⟩) (fun _ _ => by kernel_rfl) ?_); clear H; intro g14 w14 HGg14 HEg14 H; simp only [Act.put, List.setIfInBounds_toArray, List.set_cons_zero, List.set_cons_succ]) | ((with_reducible show wpList _ _ _ (Oper.mk none (Op.store 69 _ _) _ _ _ _ :: _) _ _); (first | (refine L_store H rfl rfl 69 _ _ rfl 0 rfl rfl (cellsU ⟨zeroK, 0, 0⟩) rfl (HZX.out) (rfl) (HOX1.out) ?_; clear H; intro wx HWwx H; simp only [List.set_cons_zero] at H) | (refine L_store H rfl rfl 69 _ _ rfl 1 rfl rfl (cellsU ⟨zeroK, 0, 0⟩) rfl (HZX.out) (rfl) (HOX1.out) ?_; clear H; intro wx HWwx H; simp only [List.set_cons_succ, List.set_cons_zero] at H) | (refine L_store H rfl rfl 69 _ _ rfl 2 rfl rfl (cellsU ⟨zeroK, 0, 0⟩) rfl (HZX.out) (rfl) (HOX1.out) ?_; clear H; intro wx HWwx H; simp only [List.set_cons_succ, List.set_cons_zero] at H) | (refine L_store H rfl rfl 69 _ _ rfl 3 rfl rfl (cellsU ⟨zeroK, 0, 0⟩) rfl (HZX.out) (rfl) (HOX1.out) ?_; clear H; intro wx HWwx H; simp only [List.set_cons_succ, List.set_cons_zero] at H) | (refine L_store H rfl rfl 69 _ _ rfl 4 rfl rfl (cellsU ⟨zeroK, 0, 0⟩) rfl (HZX.out) (rfl) (HOX1.out) ?_; clear H; intro wx HWwx H; simp only [List.set_cons_succ, List.set_cons_zero] at H) | (refine L_store H rfl rfl 69 _ _ rfl 5 rfl rfl (cellsU ⟨zeroK, 0, 0⟩) rfl (HZX.out) (rfl) (HOX1.out) ?_; clear H; intro wx HWwx H; simp only [List.set_cons_succ, List.set_cons_zero] at H))))
        subst h37
        go_wp2_with fail
        go_roundw
        case rel => exact ⟨j + 1, inst, l, u, ks, sent, got, by omega, by go_num, rfl, by omega, by omega, by omega, HON, kp (HW.out.ext H.out.1), kp (HM.out.ext H.out.1)⟩
        case measure => simp [intOf]; omega
      · have HQ1 := kp hr1
        have HQ2 := kp hr2
        have HQ3 := kp hr3
        have HR0 := kp hr0
        have HSN := kp h
        have hon := (HON.out hi16).send (slot := o.slot) HM.out.ring.2 (by rw [h]; exact hr0)
        rw [h] at HI hon
        have HNM := kp (hasF_not hon.1)
        have HON2 := kp hon.2.1
        clear hon h hr0 hr1 hr2 hr3
        obtain ⟨x, hx⟩ : ∃ x : Usd, x = ⟨r.key, 0, r.num⟩ := ⟨_, rfl⟩
        have HXK := kp (show x.key.length = 16 by rw [hx]; exact HQ3.out)
        have HBU := kp (show ∀ w, (Instr.build 69 #[(0, .agg (r.key.map V8).toArray), (2, .int .i64 r.num)]).run Try.prog w = .ok (.agg (cellsU x).toArray) w by rw [hx]; exact run_bdU1 r.key HQ3.out r.num)
        rw [← hx] at HNM HON2
        clear hx
        have HBS := kp (run_bsU x HXK.out)
        have HZX := kp (sizeUa x HXK.out)
        have HOX1 := kp (all_oneCell_toArray (one_cellsU x))
        have HXL := kp (show (cellsU ⟨zeroK, 0, 0⟩).length = (cellsU x).length by rw [cellsU_len x HXK.out]; rfl)
        have HZQ := kp (fun u => sizeR r.slots u HQ1.out)
        have HLQ := kp (fun u' => cellsR_len2 l r.slots u u' HM.out.ring HQ1.out)
        have HZRK := kp (sizeKy r.key HQ3.out)
        have HLRK := kp (show (zeroK.map V8).length = (r.key.map V8).length by rw [List.length_map, List.length_map, HQ3.out]; rfl)
        have HHAS := kp (fun w' (hx : Ext wr w') => has_any u5 sent HM.out.k5 (by omega) x HXK.out w' (SlT.of_owns (fun y hy => cellsU_len y (HM.out.k5 y hy)) (ownsT_ext HM.out.own5 hx)))
        rw [HNM.out] at HHAS
        subst h13
        go_wp2_with (first | (((with_reducible show wpList _ _ _ (Oper.mk (some 12) (Op.alloc 45) _ _ _ _ :: _) _ _); (with_reducible refine L_alloc H rfl 45 rfl (zeroK.map V8) (fun _ _ => by kernel_rfl) ?_); clear H; intro g12 w12 HGg12 HEg12 H; simp only [Act.put, List.setIfInBounds_toArray, List.set_cons_zero, List.set_cons_succ]); have hc12 := run_load_cell H.out 2 rfl _ _ HO1.out) | ((with_reducible show wpList _ _ _ (Oper.mk _ (Op.load 51 _) _ _ _ _ :: _) _ _); (refine wpList_load_rowG (by kernel_rfl) 51 _ rfl (g4) rfl 51 (cellsR l u).toArray (0, 0) _ (HL4.out.ext H.out.1) Try.underlying51 rfl (HZR.out _) ?_); simp only [Act.put, List.setIfInBounds_toArray, List.set_cons_zero, List.set_cons_succ]))
        refine (HI.out _ (HM.out.past.ext H.out.1)).mono ?_
        rintro e2 wi ⟨u2, rfl, hpv, hx⟩
        have HU2 := kp (slot_oneP hpv)
        have HPV := kp hpv
        have HLT10 := kp (H.out.lt 1 rfl)
        have HLT12 := kp (H.out.lt 0 rfl)
        have HWS := kp H.out.1.size
        clear hpv
        have H2 := kp (H.out.ext hx); have HXC := kp hx; clear H hx; have H := H2; clear H2
        rw [HR0.out]
        go_wp2_with (first | ((with_reducible show wpList _ _ _ (Oper.mk none (Op.store 45 _ _) _ _ _ _ :: _) _ _); (first | (refine L_store H rfl rfl 45 _ _ rfl 0 rfl rfl (r.key.map V8) rfl (HZRK.out) (HLRK.out) (all_V8 _) ?_; clear H; intro wk HWwk H; simp only [List.set_cons_zero] at H) | (refine L_store H rfl rfl 45 _ _ rfl 1 rfl rfl (r.key.map V8) rfl (HZRK.out) (HLRK.out) (all_V8 _) ?_; clear H; intro wk HWwk H; simp only [List.set_cons_succ, List.set_cons_zero] at H) | (refine L_store H rfl rfl 45 _ _ rfl 2 rfl rfl (r.key.map V8) rfl (HZRK.out) (HLRK.out) (all_V8 _) ?_; clear H; intro wk HWwk H; simp only [List.set_cons_succ, List.set_cons_zero] at H) | (refine L_store H rfl rfl 45 _ _ rfl 3 rfl rfl (r.key.map V8) rfl (HZRK.out) (HLRK.out) (all_V8 _) ?_; clear H; intro wk HWwk H; simp only [List.set_cons_succ, List.set_cons_zero] at H) | (refine L_store H rfl rfl 45 _ _ rfl 4 rfl rfl (r.key.map V8) rfl (HZRK.out) (HLRK.out) (all_V8 _) ?_; clear H; intro wk HWwk H; simp only [List.set_cons_succ, List.set_cons_zero] at H) | (refine L_store H rfl rfl 45 _ _ rfl 5 rfl rfl (r.key.map V8) rfl (HZRK.out) (HLRK.out) (all_V8 _) ?_; clear H; intro wk HWwk H; simp only [List.set_cons_succ, List.set_cons_zero] at H))) | ((with_reducible show wpList _ _ _ (Oper.mk none (Op.store 51 _ _) _ _ _ _ :: _) _ _); (first | (refine L_store H rfl rfl 51 _ _ rfl 0 rfl rfl (cellsR r.slots u2) rfl (HZQ.out _) (HLZ.out _ _ HQ1.out) (HOB.out _ _ HU2.out) ?_; clear H; intro wz HWwz H; simp only [List.set_cons_zero] at H) | (refine L_store H rfl rfl 51 _ _ rfl 1 rfl rfl (cellsR r.slots u2) rfl (HZQ.out _) (HLZ.out _ _ HQ1.out) (HOB.out _ _ HU2.out) ?_; clear H; intro wz HWwz H; simp only [List.set_cons_succ, List.set_cons_zero] at H) | (refine L_store H rfl rfl 51 _ _ rfl 2 rfl rfl (cellsR r.slots u2) rfl (HZQ.out _) (HLZ.out _ _ HQ1.out) (HOB.out _ _ HU2.out) ?_; clear H; intro wz HWwz H; simp only [List.set_cons_succ, List.set_cons_zero] at H) | (refine L_store H rfl rfl 51 _ _ rfl 3 rfl rfl (cellsR r.slots u2) rfl (HZQ.out _) (HLZ.out _ _ HQ1.out) (HOB.out _ _ HU2.out) ?_; clear H; intro wz HWwz H; simp only [List.set_cons_succ, List.set_cons_zero] at H) | (refine L_store H rfl rfl 51 _ _ rfl 4 rfl rfl (cellsR r.slots u2) rfl (HZQ.out _) (HLZ.out _ _ HQ1.out) (HOB.out _ _ HU2.out) ?_; clear H; intro wz HWwz H; simp only [List.set_cons_succ, List.set_cons_zero] at H) | (refine L_store H rfl rfl 51 _ _ rfl 5 rfl rfl (cellsR r.slots u2) rfl (HZQ.out _) (HLZ.out _ _ HQ1.out) (HOB.out _ _ HU2.out) ?_; clear H; intro wz HWwz H; simp only [List.set_cons_succ, List.set_cons_zero] at H))) | ((with_reducible show wpList _ _ _ (Oper.mk _ (Op.load 45 _) _ _ _ _ :: _) _ _); (first | (refine L_load H rfl 45 _ rfl 0 rfl rfl Try.underlying45 rfl (HZRK.out) ?_) | (refine L_load H rfl 45 _ rfl 1 rfl rfl Try.underlying45 rfl (HZRK.out) ?_) | (refine L_load H rfl 45 _ rfl 2 rfl rfl Try.underlying45 rfl (HZRK.out) ?_) | (refine L_load H rfl 45 _ rfl 3 rfl rfl Try.underlying45 rfl (HZRK.out) ?_) | (refine L_load H rfl 45 _ rfl 4 rfl rfl Try.underlying45 rfl (HZRK.out) ?_) | (refine L_load H rfl 45 _ rfl 5 rfl rfl Try.underlying45 rfl (HZRK.out) ?_)); simp only [Act.put, List.setIfInBounds_toArray, List.set_cons_zero, List.set_cons_succ]) | ((with_reducible show wpList _ _ _ (Oper.mk (some 117) (Op.build 69 _) _ _ _ _ :: _) _ _); (refine L_bd (by kernel_rfl) 69 _ rfl (#[(0, .agg (r.key.map V8).toArray), (2, .int .i64 r.num)]) (by kernel_rfl) (cellsU x) (HBU.out) ?_); simp only [Act.put, List.setIfInBounds_toArray, List.set_cons_zero, List.set_cons_succ]) | ((with_reducible show wpList _ _ _ (Oper.mk (some 14) (Op.alloc 69) _ _ _ _ :: _) _ _); (with_reducible refine L_alloc H rfl 69 rfl (cellsU ⟨zeroK, 0, 0⟩) (fun _ _ => by kernel_rfl) ?_); clear H; intro g14 w14 HGg14 HEg14 H; simp only [Act.put, List.setIfInBounds_toArray, List.set_cons_zero, List.set_cons_succ]) | ((with_reducible show wpList _ _ _ (Oper.mk none (Op.store 69 _ _) _ _ _ _ :: _) _ _); (first | (refine L_store H rfl rfl 69 _ _ rfl 0 rfl rfl (cellsU x) rfl (HZX.out) (HXL.out) (HOX1.out) ?_; clear H; intro wx HWwx H; simp only [List.set_cons_zero] at H) | (refine L_store H rfl rfl 69 _ _ rfl 1 rfl rfl (cellsU x) rfl (HZX.out) (HXL.out) (HOX1.out) ?_; clear H; intro wx HWwx H; simp only [List.set_cons_succ, List.set_cons_zero] at H) | (refine L_store H rfl rfl 69 _ _ rfl 2 rfl rfl (cellsU x) rfl (HZX.out) (HXL.out) (HOX1.out) ?_; clear H; intro wx HWwx H; simp only [List.set_cons_succ, List.set_cons_zero] at H) | (refine L_store H rfl rfl 69 _ _ rfl 3 rfl rfl (cellsU x) rfl (HZX.out) (HXL.out) (HOX1.out) ?_; clear H; intro wx HWwx H; simp only [List.set_cons_succ, List.set_cons_zero] at H) | (refine L_store H rfl rfl 69 _ _ rfl 4 rfl rfl (cellsU x) rfl (HZX.out) (HXL.out) (HOX1.out) ?_; clear H; intro wx HWwx H; simp only [List.set_cons_succ, List.set_cons_zero] at H) | (refine L_store H rfl rfl 69 _ _ rfl 5 rfl rfl (cellsU x) rfl (HZX.out) (HXL.out) (HOX1.out) ?_; clear H; intro wx HWwx H; simp only [List.set_cons_succ, List.set_cons_zero] at H))) | ((with_reducible show wpList _ _ _ (Oper.mk _ (Op.load 69 _) _ _ _ _ :: _) _ _); (first | (refine L_loadG H (by kernel_rfl) 69 _ rfl 0 rfl rfl Try.underlying69 rfl (HZX.out) ?_) | (refine L_loadG H (by kernel_rfl) 69 _ rfl 1 rfl rfl Try.underlying69 rfl (HZX.out) ?_) | (refine L_loadG H (by kernel_rfl) 69 _ rfl 2 rfl rfl Try.underlying69 rfl (HZX.out) ?_) | (refine L_loadG H (by kernel_rfl) 69 _ rfl 3 rfl rfl Try.underlying69 rfl (HZX.out) ?_) | (refine L_loadG H (by kernel_rfl) 69 _ rfl 4 rfl rfl Try.underlying69 rfl (HZX.out) ?_) | (refine L_loadG H (by kernel_rfl) 69 _ rfl 5 rfl rfl Try.underlying69 rfl (HZX.out) ?_)); simp only [Act.put, List.setIfInBounds_toArray, List.set_cons_zero, List.set_cons_succ]))
        have HPW := kp ((((HPV.out.wrote HWwk.out HLT12.out).wrote HWwz.out HLT10.out).wrote2 HEg14.out HWwx.out (Nat.le_of_eq HGg14.out.symm)).base HWS.out)
        refine (HHAS.out _ H.out.1).mono ?_
        rintro e3 wh ⟨rfl, hx⟩
        have H2 := kp (H.out.ext hx); have HXC := kp hx; clear H hx; have H := H2; clear H2
        have HPW2 := kp (HPW.out.ext HXC.out)
        go_wp2_with fail
        subst h36
        go_wp2_with (first | ((with_reducible show wpList _ _ _ (Oper.mk _ (Op.load 69 _) _ _ _ _ :: _) _ _); (first | (refine L_load H rfl 69 _ rfl 0 rfl rfl Try.underlying69 rfl (HZX.out) ?_) | (refine L_load H rfl 69 _ rfl 1 rfl rfl Try.underlying69 rfl (HZX.out) ?_) | (refine L_load H rfl 69 _ rfl 2 rfl rfl Try.underlying69 rfl (HZX.out) ?_) | (refine L_load H rfl 69 _ rfl 3 rfl rfl Try.underlying69 rfl (HZX.out) ?_) | (refine L_load H rfl 69 _ rfl 4 rfl rfl Try.underlying69 rfl (HZX.out) ?_) | (refine L_load H rfl 69 _ rfl 5 rfl rfl Try.underlying69 rfl (HZX.out) ?_)); simp only [Act.put, List.setIfInBounds_toArray, List.set_cons_zero, List.set_cons_succ]) | ((with_reducible show wpList _ _ _ (Oper.mk (some 133) (Op.buildSlice 65 _ _) _ _ _ _ :: _) _ _); (refine L_bs H (by kernel_rfl) 65 1 _ rfl (#[(0, .agg (cellsU x).toArray)]) (by kernel_rfl) 69 (cellsU x) (HBS.out) ?_); clear H; intro g133 w133 HGg133 HEg133 H; simp only [Act.put, List.setIfInBounds_toArray, List.set_cons_zero, List.set_cons_succ]) | (at_builtin; have HXC9 := kp H.out.1; have HSEP := kp (sep_of (g4 := g4) (T := 51) (cs := cellsR l u) H.out (ownsT_lt HM.out.own5) HM.out.d54); have HJ := kp (HW.out.join H.out); have HLT9 := kp (H.out.at 0 rfl); refine L_appT elemU HJ rfl _ _ rfl w.heap.size (Nat.le_refl _) HJ.out.1.size u5 sent rfl (ownsT_ext HM.out.own5 H.out.1) HSEP.out g133 x rfl _ HLT9.out (cellsU_len x HXK.out) (one_cellsU x) (by omega) (by omega) ?_; clear H; intro va wd HOD HGD HWD H; simp only [List.cons_append, List.nil_append] at H))
        have HPW3 := kp (HPW2.out.ext HEg133.out)
        subst h37
        go_wp2_with (first | ((with_reducible show wpList _ _ _ (Oper.mk _ (Op.load 51 _) _ _ _ _ :: _) _ _); (first | (refine L_load H rfl 51 _ rfl 0 rfl rfl Try.underlying51 rfl (HZQ.out _) ?_) | (refine L_load H rfl 51 _ rfl 1 rfl rfl Try.underlying51 rfl (HZQ.out _) ?_) | (refine L_load H rfl 51 _ rfl 2 rfl rfl Try.underlying51 rfl (HZQ.out _) ?_) | (refine L_load H rfl 51 _ rfl 3 rfl rfl Try.underlying51 rfl (HZQ.out _) ?_) | (refine L_load H rfl 51 _ rfl 4 rfl rfl Try.underlying51 rfl (HZQ.out _) ?_) | (refine L_load H rfl 51 _ rfl 5 rfl rfl Try.underlying51 rfl (HZQ.out _) ?_)); simp only [Act.put, List.setIfInBounds_toArray, List.set_cons_zero, List.set_cons_succ]) | ((with_reducible show wpList _ _ _ (Oper.mk none (Op.store 51 _ _) _ _ _ _ :: _) _ _); (first | (refine L_store H rfl rfl 51 _ _ rfl 0 rfl rfl (cellsR r.slots u2) rfl (HZQ.out _) (HLQ.out _) (HOB.out _ _ HU2.out) ?_; clear H; intro ws HWws H; simp only [List.set_cons_zero] at H) | (refine L_store H rfl rfl 51 _ _ rfl 1 rfl rfl (cellsR r.slots u2) rfl (HZQ.out _) (HLQ.out _) (HOB.out _ _ HU2.out) ?_; clear H; intro ws HWws H; simp only [List.set_cons_succ, List.set_cons_zero] at H) | (refine L_store H rfl rfl 51 _ _ rfl 2 rfl rfl (cellsR r.slots u2) rfl (HZQ.out _) (HLQ.out _) (HOB.out _ _ HU2.out) ?_; clear H; intro ws HWws H; simp only [List.set_cons_succ, List.set_cons_zero] at H) | (refine L_store H rfl rfl 51 _ _ rfl 3 rfl rfl (cellsR r.slots u2) rfl (HZQ.out _) (HLQ.out _) (HOB.out _ _ HU2.out) ?_; clear H; intro ws HWws H; simp only [List.set_cons_succ, List.set_cons_zero] at H) | (refine L_store H rfl rfl 51 _ _ rfl 4 rfl rfl (cellsR r.slots u2) rfl (HZQ.out _) (HLQ.out _) (HOB.out _ _ HU2.out) ?_; clear H; intro ws HWws H; simp only [List.set_cons_succ, List.set_cons_zero] at H) | (refine L_store H rfl rfl 51 _ _ rfl 5 rfl rfl (cellsR r.slots u2) rfl (HZQ.out _) (HLQ.out _) (HOB.out _ _ HU2.out) ?_; clear H; intro ws HWws H; simp only [List.set_cons_succ, List.set_cons_zero] at H))))
        go_roundw
        case rel => exact ⟨j + 1, inst, r.slots, u2, r.past, sent ++ [x], got, by omega, by go_num, rfl, by omega, by simp; omega, by omega, kp (fun _ => HON2.out), kp H.out.tail.tail.tail.tail.tail, kp (HM.out.next5 HXC9.out HG4.out HQ1.out HPW3.out HQ2.out HXK.out HOD.out HGD.out HWD.out HWws.out)⟩
        case measure => simp [intOf]; omega
    · have e2 : (wI o.kind == 2) = false := (wI_beq o.kind 2#8).trans (by simp [hk2])
      have HI := kp (HMR.out l ks u o.slot o.tid o.num HM.out.ring HM.out.pk)
      rcases receive_res (l := l) (ks := ks) (slot := o.slot) (tid := o.tid) (n := o.num) HM.out.ring HM.out.pk with ⟨er, hne, h⟩ | ⟨q, h, hq1, hq2⟩
      · rw [h] at HI
        have her : (er == 0) = false := by simp [hne]
        clear h hne
        subst h13
        go_wp2_with (first | ((with_reducible show wpList _ _ _ (Oper.mk _ (Op.load 51 _) _ _ _ _ :: _) _ _); (refine wpList_load_rowG (by kernel_rfl) 51 _ rfl (g4) rfl 51 (cellsR l u).toArray (0, 0) _ (HL4.out.ext H.out.1) Try.underlying51 rfl (HZR.out _) ?_); simp only [Act.put, List.setIfInBounds_toArray, List.set_cons_zero, List.set_cons_succ]))
        refine (HI.out _ (HM.out.past.ext H.out.1)).mono ?_
        rintro e3 wi ⟨u2, rfl, hpv, hx⟩
        have HU2 := kp (slot_oneP hpv)
        clear hpv
        have H2 := kp (H.out.ext hx); have HXC := kp hx; clear H hx; have H := H2; clear H2
        unfold badR
        dsimp only
        go_wp2_with (first | ((with_reducible show wpList _ _ _ (Oper.mk none (Op.store 51 _ _) _ _ _ _ :: _) _ _); (first | (refine L_store H rfl rfl 51 _ _ rfl 0 rfl rfl (cellsR zeroSs u2) rfl (HZB.out _) (HLZ.out _ _ ring_zero) (HOB.out _ _ HU2.out) ?_; clear H; intro wz HWwz H; simp only [List.set_cons_zero] at H) | (refine L_store H rfl rfl 51 _ _ rfl 1 rfl rfl (cellsR zeroSs u2) rfl (HZB.out _) (HLZ.out _ _ ring_zero) (HOB.out _ _ HU2.out) ?_; clear H; intro wz HWwz H; simp only [List.set_cons_succ, List.set_cons_zero] at H) | (refine L_store H rfl rfl 51 _ _ rfl 2 rfl rfl (cellsR zeroSs u2) rfl (HZB.out _) (HLZ.out _ _ ring_zero) (HOB.out _ _ HU2.out) ?_; clear H; intro wz HWwz H; simp only [List.set_cons_succ, List.set_cons_zero] at H) | (refine L_store H rfl rfl 51 _ _ rfl 3 rfl rfl (cellsR zeroSs u2) rfl (HZB.out _) (HLZ.out _ _ ring_zero) (HOB.out _ _ HU2.out) ?_; clear H; intro wz HWwz H; simp only [List.set_cons_succ, List.set_cons_zero] at H) | (refine L_store H rfl rfl 51 _ _ rfl 4 rfl rfl (cellsR zeroSs u2) rfl (HZB.out _) (HLZ.out _ _ ring_zero) (HOB.out _ _ HU2.out) ?_; clear H; intro wz HWwz H; simp only [List.set_cons_succ, List.set_cons_zero] at H) | (refine L_store H rfl rfl 51 _ _ rfl 5 rfl rfl (cellsR zeroSs u2) rfl (HZB.out _) (HLZ.out _ _ ring_zero) (HOB.out _ _ HU2.out) ?_; clear H; intro wz HWwz H; simp only [List.set_cons_succ, List.set_cons_zero] at H))))
        subst h37
        go_wp2_with fail
        go_roundw
        case rel => exact ⟨j + 1, inst, l, u, ks, sent, got, by omega, by go_num, rfl, by omega, by omega, by omega, HON, kp (HW.out.ext H.out.1), kp (HM.out.ext H.out.1)⟩
        case measure => simp [intOf]; omega
      · obtain ⟨h0, h4, s, hs, hs16, hnot, honce⟩ := (HON.out hi16).receive HM.out.ring.2 h
        obtain ⟨k, hk⟩ := Int.eq_ofNat_of_zero_le h0
        have hk4 : (k : Int) < 4 := by omega
        rw [hk, Int.toNat_natCast] at hs
        rw [h, hk] at HI
        have HO1k := kp (show (cellsO o)[1]? = some (.int .i64 k) by rw [← hk]; exact HO1.out)
        have HQ1 := kp hq1
        have HQ2 := kp hq2
        have HNM := kp (hasF_not hnot)
        have HON2 := kp honce
        have HSS := kp hs
        have HS16 := kp hs16
        rw [hk] at hc1
        clear h hq1 hq2 h0 h4 hk hnot honce hs hs16
        have hkn : ¬ (k : Int) < 0 := by omega
        have hk3 : ¬ 3 < (k : Int) := by omega
        obtain ⟨x, hx⟩ : ∃ x : Usd, x = ⟨s.key, o.tid, o.num⟩ := ⟨_, rfl⟩
        have HXK := kp (show x.key.length = 16 by rw [hx]; exact HS16.out)
        have HBU := kp (show ∀ w, (Instr.build 69 #[(0, .agg (s.key.map V8).toArray), (1, .int .i64 o.tid), (2, .int .i64 o.num)]).run Try.prog w = .ok (.agg (cellsU x).toArray) w by rw [hx]; exact run_bdU2 s.key HS16.out o.tid o.num)
        rw [← hx] at HNM HON2
        clear hx
        have HBS := kp (run_bsU x HXK.out)
        have HZX := kp (sizeUa x HXK.out)
        have HOX1 := kp (all_oneCell_toArray (one_cellsU x))
        have HXL := kp (show (cellsU ⟨zeroK, 0, 0⟩).length = (cellsU x).length by rw [cellsU_len x HXK.out]; rfl)
        have HZQ := kp (fun u => sizeR q.1 u HQ1.out)
        have HLQ := kp (fun u' => cellsR_len2 l q.1 u u' HM.out.ring HQ1.out)
        have HHAS := kp (fun w' (hx : Ext wr w') => has_any u6 got HM.out.k6 (by omega) x HXK.out w' (SlT.of_owns (fun y hy => cellsU_len y (HM.out.k6 y hy)) (ownsT_ext HM.out.own6 hx)))
        rw [HNM.out] at HHAS
        have HKD := kp (show ((cellsR l u).drop (k * 36 + 1)).take (s.key.map V8).length = s.key.map V8 by
          have h36 := cellsR_slots l u k s HM.out.ring HSS.out
          have h17 : ((cellsR l u).drop (k * 36 + 1)).take 16 = ((cellsS s).drop 1).take 16 := by
            rw [← h36, List.drop_take, List.drop_drop, List.take_take]; rfl
          rw [List.length_map, HS16.out, h17]
          have := slot_keyE s
          rwa [List.length_map, HS16.out] at this)
        have HSKL := kp (sizeKl s.key HS16.out)
        subst h13
        go_wp2_with (first | ((with_reducible show wpList _ _ _ (Oper.mk _ (Op.load 51 _) _ _ _ _ :: _) _ _); (refine wpList_load_rowG (by kernel_rfl) 51 _ rfl (g4) rfl 51 (cellsR l u).toArray (0, 0) _ (HL4.out.ext H.out.1) Try.underlying51 rfl (HZR.out _) ?_); simp only [Act.put, List.setIfInBounds_toArray, List.set_cons_zero, List.set_cons_succ]))
        refine (HI.out _ (HM.out.past.ext H.out.1)).mono ?_
        rintro e3 wi ⟨u2, rfl, hpv, hx⟩
        have HU2 := kp (slot_oneP hpv)
        have HPV := kp hpv
        have HLT10 := kp (H.out.lt 0 rfl)
        have HWS := kp H.out.1.size
        clear hpv
        have H2 := kp (H.out.ext hx); have HXC := kp hx; clear H hx; have H := H2; clear H2
        dsimp only
        go_wp2_with (first | (((with_reducible show wpList _ _ _ (Oper.mk none (Op.store 51 _ _) _ _ _ _ :: _) _ _); (first | (refine L_store H rfl rfl 51 _ _ rfl 0 rfl rfl (cellsR q.1 u2) rfl (HZQ.out _) (HLZ.out _ _ HQ1.out) (HOB.out _ _ HU2.out) ?_; clear H; intro wz HWwz H; simp only [List.set_cons_zero] at H) | (refine L_store H rfl rfl 51 _ _ rfl 1 rfl rfl (cellsR q.1 u2) rfl (HZQ.out _) (HLZ.out _ _ HQ1.out) (HOB.out _ _ HU2.out) ?_; clear H; intro wz HWwz H; simp only [List.set_cons_succ, List.set_cons_zero] at H) | (refine L_store H rfl rfl 51 _ _ rfl 2 rfl rfl (cellsR q.1 u2) rfl (HZQ.out _) (HLZ.out _ _ HQ1.out) (HOB.out _ _ HU2.out) ?_; clear H; intro wz HWwz H; simp only [List.set_cons_succ, List.set_cons_zero] at H) | (refine L_store H rfl rfl 51 _ _ rfl 3 rfl rfl (cellsR q.1 u2) rfl (HZQ.out _) (HLZ.out _ _ HQ1.out) (HOB.out _ _ HU2.out) ?_; clear H; intro wz HWwz H; simp only [List.set_cons_succ, List.set_cons_zero] at H) | (refine L_store H rfl rfl 51 _ _ rfl 4 rfl rfl (cellsR q.1 u2) rfl (HZQ.out _) (HLZ.out _ _ HQ1.out) (HOB.out _ _ HU2.out) ?_; clear H; intro wz HWwz H; simp only [List.set_cons_succ, List.set_cons_zero] at H) | (refine L_store H rfl rfl 51 _ _ rfl 5 rfl rfl (cellsR q.1 u2) rfl (HZQ.out _) (HLZ.out _ _ HQ1.out) (HOB.out _ _ HU2.out) ?_; clear H; intro wz HWwz H; simp only [List.set_cons_succ, List.set_cons_zero] at H))); have hcz := run_load_cell H.out 1 rfl _ _ HO1k.out))
        have HPW := kp ((HPV.out.wrote HWwz.out HLT10.out).base HWS.out)
        have HALL := kp H.out.allLt
        have HSZ := kp H.out.1.size
        clear hcz hc0 hc1 hc2 hc3
        subst h18
        refine region_free H (tabS [(62, fun zv _ => zv = .pointer (some ⟨g9, 1, none⟩)), (63, fun zv _ => zv = .int .i64 k), (64, fun zv _ => zv = .pointer (some ⟨g4, 0, none⟩)), (65, fun zv _ => zv = .pointer (some ⟨g4, k * 36, none⟩)), (66, fun zv _ => zv = .pointer (some ⟨g4, k * 36 + 1, none⟩)), (67, fun zv _ => zv = .agg (s.key.map V8).toArray), (68, fun zv _ => zv = .pointer (some ⟨g9, 2, none⟩)), (69, fun zv _ => zv = .int .i64 o.tid), (70, fun zv _ => zv = .pointer (some ⟨g9, 3, none⟩)), (71, fun zv _ => zv = .int .i64 o.num), (72, fun zv _ => zv = .agg (cellsU x).toArray), (15, fun zv zw => ∃ g, zv = .pointer (some ⟨g, 0, none⟩) ∧ wz.heap.size ≤ g ∧ Lc zw g 69 (cellsU ⟨zeroK, 0, 0⟩))]) [] (tabS_out _ _ (by simp only [List.forall_mem_cons]; exact ⟨mono_eqO _ _, mono_eqO _ _, mono_eqO _ _, mono_eqO _ _, mono_eqO _ _, mono_eqO _ _, mono_eqO _ _, mono_eqO _ _, mono_eqO _ _, mono_eqO _ _, mono_eqO _ _, (fun _ _ _ ⟨g, h1, h2, h3⟩ hx => ⟨g, h1, h2, hx.lc h3 (by simp)⟩), by simp⟩)) 12 (by kernel_rfl) (by kernel_rfl) (by kernel_rfl) (by kernel_rfl) [] [] rfl rfl (by decide) (by decide) (by decide) trivial ?_
        simp only [List.take_succ_cons, List.take_zero]
        refine ⟨fun wv62 hov62 hSv62 => ?_, fun v62 => ?_⟩
        · clear hSv62
          clear hov62
          go_wp2_with fail
          exact ⟨rfl, _, rfl, fun d hd => by cases hd; exact rfl, Ext.refl _⟩
        simp only [Act.put, List.setIfInBounds_toArray, List.set_cons_zero, List.set_cons_succ]
        refine ⟨fun wv63 hov63 hSv63 => ?_, fun v63 => ?_⟩
        · obtain rfl : v62 = .pointer (some ⟨g9, 1, none⟩) := hSv63 62 (by decide) (by decide)
          clear hSv63
          have H := kp (H.out.keep [0, 1] (St := []) trivial hov63 (by decide) (by kernel_rfl))
          have HOX := kp hov63
          clear hov63
          have hc := run_load_cell H.out 1 rfl _ _ HO1k.out
          go_wp2_with fail
          exact ⟨rfl, _, rfl, fun d hd => by cases hd; exact rfl, Ext.refl _⟩
        simp only [Act.put, List.setIfInBounds_toArray, List.set_cons_zero, List.set_cons_succ]
        refine ⟨fun wv64 hov64 hSv64 => ?_, fun v64 => ?_⟩
        · clear hSv64
          clear hov64
          go_wp2_with fail
          exact ⟨rfl, _, rfl, fun d hd => by cases hd; exact rfl, Ext.refl _⟩
        simp only [Act.put, List.setIfInBounds_toArray, List.set_cons_zero, List.set_cons_succ]
        refine ⟨fun wv65 hov65 hSv65 => ?_, fun v65 => ?_⟩
        · obtain rfl : v63 = .int .i64 k := hSv65 63 (by decide) (by decide)
          obtain rfl : v64 = .pointer (some ⟨g4, 0, none⟩) := hSv65 64 (by decide) (by decide)
          clear hSv65
          clear hov65
          go_wp2_with fail
          exact ⟨rfl, _, rfl, fun d hd => by cases hd; exact rfl, Ext.refl _⟩
        simp only [Act.put, List.setIfInBounds_toArray, List.set_cons_zero, List.set_cons_succ]
        refine ⟨fun wv66 hov66 hSv66 => ?_, fun v66 => ?_⟩
        · obtain rfl : v65 = .pointer (some ⟨g4, k * 36, none⟩) := hSv66 65 (by decide) (by decide)
          clear hSv66
          clear hov66
          go_wp2_with fail
          exact ⟨rfl, _, rfl, fun d hd => by cases hd; exact rfl, Ext.refl _⟩
        simp only [Act.put, List.setIfInBounds_toArray, List.set_cons_zero, List.set_cons_succ]
        refine ⟨fun wv67 hov67 hSv67 => ?_, fun v67 => ?_⟩
        · obtain rfl : v66 = .pointer (some ⟨g4, k * 36 + 1, none⟩) := hSv67 66 (by decide) (by decide)
          clear hSv67
          have H := kp (H.out.keep [0, 1] (St := []) trivial hov67 (by decide) (by kernel_rfl))
          have HOX := kp hov67
          clear hov67
          have HR4 := kp ((HL4.out.ext H.out.1).range HKD.out)
          go_wp2_with ((with_reducible show wpList _ _ _ (Oper.mk _ (Op.load 45 _) _ _ _ _ :: _) _ _); (with_reducible refine wpList_load_mid rfl 45 _ rfl (g4) (k * 36 + 1) rfl (s.key.map V8) _ (HR4.out) Try.underlying45 rfl (HSKL.out) ?_); simp only [Act.put, List.setIfInBounds_toArray, List.set_cons_zero, List.set_cons_succ])
          exact ⟨rfl, _, rfl, fun d hd => by cases hd; exact rfl, Ext.refl _⟩
        simp only [Act.put, List.setIfInBounds_toArray, List.set_cons_zero, List.set_cons_succ]
        refine ⟨fun wv68 hov68 hSv68 => ?_, fun v68 => ?_⟩
        · clear hSv68
          clear hov68
          go_wp2_with fail
          exact ⟨rfl, _, rfl, fun d hd => by cases hd; exact rfl, Ext.refl _⟩
        simp only [Act.put, List.setIfInBounds_toArray, List.set_cons_zero, List.set_cons_succ]
        refine ⟨fun wv69 hov69 hSv69 => ?_, fun v69 => ?_⟩
        · obtain rfl : v68 = .pointer (some ⟨g9, 2, none⟩) := hSv69 68 (by decide) (by decide)
          clear hSv69
          have H := kp (H.out.keep [0, 1] (St := []) trivial hov69 (by decide) (by kernel_rfl))
          have HOX := kp hov69
          clear hov69
          have hc := run_load_cell H.out 1 rfl _ _ HO2.out
          go_wp2_with fail
          exact ⟨rfl, _, rfl, fun d hd => by cases hd; exact rfl, Ext.refl _⟩
        simp only [Act.put, List.setIfInBounds_toArray, List.set_cons_zero, List.set_cons_succ]
        refine ⟨fun wv70 hov70 hSv70 => ?_, fun v70 => ?_⟩
        · clear hSv70
          clear hov70
          go_wp2_with fail
          exact ⟨rfl, _, rfl, fun d hd => by cases hd; exact rfl, Ext.refl _⟩
        simp only [Act.put, List.setIfInBounds_toArray, List.set_cons_zero, List.set_cons_succ]
        refine ⟨fun wv71 hov71 hSv71 => ?_, fun v71 => ?_⟩
        · obtain rfl : v70 = .pointer (some ⟨g9, 3, none⟩) := hSv71 70 (by decide) (by decide)
          clear hSv71
          have H := kp (H.out.keep [0, 1] (St := []) trivial hov71 (by decide) (by kernel_rfl))
          have HOX := kp hov71
          clear hov71
          have hc := run_load_cell H.out 1 rfl _ _ HO3.out
          go_wp2_with fail
          exact ⟨rfl, _, rfl, fun d hd => by cases hd; exact rfl, Ext.refl _⟩
        simp only [Act.put, List.setIfInBounds_toArray, List.set_cons_zero, List.set_cons_succ]
        refine ⟨fun wv72 hov72 hSv72 => ?_, fun v72 => ?_⟩
        · obtain rfl : v67 = .agg (s.key.map V8).toArray := hSv72 67 (by decide) (by decide)
          obtain rfl : v69 = .int .i64 o.tid := hSv72 69 (by decide) (by decide)
          obtain rfl : v71 = .int .i64 o.num := hSv72 71 (by decide) (by decide)
          clear hSv72
          have H := kp (H.out.keep [0, 1] (St := []) trivial hov72 (by decide) (by kernel_rfl))
          have HOX := kp hov72
          clear hov72
          go_wp2_with ((with_reducible show wpList _ _ _ (Oper.mk (some 72) (Op.build 69 _) _ _ _ _ :: _) _ _); (refine L_bd (by kernel_rfl) 69 _ rfl (#[(0, .agg (s.key.map V8).toArray), (1, .int .i64 o.tid), (2, .int .i64 o.num)]) (by kernel_rfl) (cellsU x) (HBU.out) ?_); simp only [Act.put, List.setIfInBounds_toArray, List.set_cons_zero, List.set_cons_succ])
          exact ⟨rfl, _, rfl, fun d hd => by cases hd; exact rfl, Ext.refl _⟩
        simp only [Act.put, List.setIfInBounds_toArray, List.set_cons_zero, List.set_cons_succ]
        refine ⟨fun wv15 hov15 hSv15 => ?_, fun v15 => ?_⟩
        · clear hSv15
          have H := kp (H.out.keep [0, 1] (St := []) trivial hov15 (by decide) (by kernel_rfl))
          have HOX := kp hov15
          clear hov15
          go_wp2_with ((with_reducible show wpList _ _ _ (Oper.mk (some 15) (Op.alloc 69) _ _ _ _ :: _) _ _); (with_reducible refine L_alloc H rfl 69 rfl (cellsU ⟨zeroK, 0, 0⟩) (fun _ _ => by kernel_rfl) ?_); clear H; intro g15 w15 HGg15 HEg15 H; simp only [Act.put, List.setIfInBounds_toArray, List.set_cons_zero, List.set_cons_succ])
          exact ⟨rfl, .pointer (some ⟨g15, 0, none⟩), rfl, fun d hd => by cases hd; exact ⟨g15, rfl, (by rw [HGg15.out]; exact HOX.out.size), H.out.at 0 rfl⟩, HEg15.out⟩
        simp only [Act.put, List.setIfInBounds_toArray, List.set_cons_zero, List.set_cons_succ]
        clear H
        intro wn HOX H hfin
        obtain rfl : v62 = .pointer (some ⟨g9, 1, none⟩) := hfin 62 (by decide)
        obtain rfl : v63 = .int .i64 k := hfin 63 (by decide)
        obtain rfl : v64 = .pointer (some ⟨g4, 0, none⟩) := hfin 64 (by decide)
        obtain rfl : v65 = .pointer (some ⟨g4, k * 36, none⟩) := hfin 65 (by decide)
        obtain rfl : v66 = .pointer (some ⟨g4, k * 36 + 1, none⟩) := hfin 66 (by decide)
        obtain rfl : v67 = .agg (s.key.map V8).toArray := hfin 67 (by decide)
        obtain rfl : v68 = .pointer (some ⟨g9, 2, none⟩) := hfin 68 (by decide)
        obtain rfl : v69 = .int .i64 o.tid := hfin 69 (by decide)
        obtain rfl : v70 = .pointer (some ⟨g9, 3, none⟩) := hfin 70 (by decide)
        obtain rfl : v71 = .int .i64 o.num := hfin 71 (by decide)
        obtain rfl : v72 = .agg (cellsU x).toArray := hfin 72 (by decide)
        have F15 := kp (show ∃ g, v15 = .pointer (some ⟨g, 0, none⟩) ∧ wz.heap.size ≤ g ∧ Lc wn g 69 (cellsU ⟨zeroK, 0, 0⟩) from hfin 15 (by decide))
        clear hfin
        simp only [List.drop_succ_cons, List.drop_zero]
        simp only [applyS] at H
        have HXN := kp (HOX.out.ext (Ext.refl wz) (fun g hg => by cases hg))
        obtain ⟨g15, rfl, hge, hl15⟩ := F15.out
        have HA := kp (H.out.add wz.heap.size HALL.out HSZ.out hge hl15)
        clear H F15 hl15
        have H := HA
        clear HA
        have HPX := kp (HPW.out.ext HXN.out)
        have HGE := kp hge
        clear hge
        go_wp2_with (first | ((with_reducible show wpList _ _ _ (Oper.mk none (Op.store 69 _ _) _ _ _ _ :: _) _ _); (first | (refine L_store H rfl rfl 69 _ _ rfl 0 rfl rfl (cellsU x) rfl (HZX.out) (HXL.out) (HOX1.out) ?_; clear H; intro wx HWwx H; simp only [List.set_cons_zero] at H) | (refine L_store H rfl rfl 69 _ _ rfl 1 rfl rfl (cellsU x) rfl (HZX.out) (HXL.out) (HOX1.out) ?_; clear H; intro wx HWwx H; simp only [List.set_cons_succ, List.set_cons_zero] at H) | (refine L_store H rfl rfl 69 _ _ rfl 2 rfl rfl (cellsU x) rfl (HZX.out) (HXL.out) (HOX1.out) ?_; clear H; intro wx HWwx H; simp only [List.set_cons_succ, List.set_cons_zero] at H) | (refine L_store H rfl rfl 69 _ _ rfl 3 rfl rfl (cellsU x) rfl (HZX.out) (HXL.out) (HOX1.out) ?_; clear H; intro wx HWwx H; simp only [List.set_cons_succ, List.set_cons_zero] at H) | (refine L_store H rfl rfl 69 _ _ rfl 4 rfl rfl (cellsU x) rfl (HZX.out) (HXL.out) (HOX1.out) ?_; clear H; intro wx HWwx H; simp only [List.set_cons_succ, List.set_cons_zero] at H) | (refine L_store H rfl rfl 69 _ _ rfl 5 rfl rfl (cellsU x) rfl (HZX.out) (HXL.out) (HOX1.out) ?_; clear H; intro wx HWwx H; simp only [List.set_cons_succ, List.set_cons_zero] at H))) | ((with_reducible show wpList _ _ _ (Oper.mk _ (Op.load 69 _) _ _ _ _ :: _) _ _); (first | (refine L_load H rfl 69 _ rfl 0 rfl rfl Try.underlying69 rfl (HZX.out) ?_) | (refine L_load H rfl 69 _ rfl 1 rfl rfl Try.underlying69 rfl (HZX.out) ?_) | (refine L_load H rfl 69 _ rfl 2 rfl rfl Try.underlying69 rfl (HZX.out) ?_) | (refine L_load H rfl 69 _ rfl 3 rfl rfl Try.underlying69 rfl (HZX.out) ?_) | (refine L_load H rfl 69 _ rfl 4 rfl rfl Try.underlying69 rfl (HZX.out) ?_) | (refine L_load H rfl 69 _ rfl 5 rfl rfl Try.underlying69 rfl (HZX.out) ?_)); simp only [Act.put, List.setIfInBounds_toArray, List.set_cons_zero, List.set_cons_succ]))
        have HPY := kp (HPW.out.wrote2 HXN.out HWwx.out HGE.out)
        refine (HHAS.out _ H.out.1).mono ?_
        rintro e3 wh ⟨rfl, hx⟩
        have H2 := kp (H.out.ext hx); have HXC := kp hx; clear H hx; have H := H2; clear H2
        have HPW2 := kp (HPY.out.ext HXC.out)
        go_wp2_with fail
        subst h21
        go_wp2_with (first | ((with_reducible show wpList _ _ _ (Oper.mk _ (Op.load 69 _) _ _ _ _ :: _) _ _); (first | (refine L_load H rfl 69 _ rfl 0 rfl rfl Try.underlying69 rfl (HZX.out) ?_) | (refine L_load H rfl 69 _ rfl 1 rfl rfl Try.underlying69 rfl (HZX.out) ?_) | (refine L_load H rfl 69 _ rfl 2 rfl rfl Try.underlying69 rfl (HZX.out) ?_) | (refine L_load H rfl 69 _ rfl 3 rfl rfl Try.underlying69 rfl (HZX.out) ?_) | (refine L_load H rfl 69 _ rfl 4 rfl rfl Try.underlying69 rfl (HZX.out) ?_) | (refine L_load H rfl 69 _ rfl 5 rfl rfl Try.underlying69 rfl (HZX.out) ?_)); simp only [Act.put, List.setIfInBounds_toArray, List.set_cons_zero, List.set_cons_succ]) | ((with_reducible show wpList _ _ _ (Oper.mk (some 78) (Op.buildSlice 65 _ _) _ _ _ _ :: _) _ _); (refine L_bs H (by kernel_rfl) 65 1 _ rfl (#[(0, .agg (cellsU x).toArray)]) (by kernel_rfl) 69 (cellsU x) (HBS.out) ?_); clear H; intro g78 w78 HGg78 HEg78 H; simp only [Act.put, List.setIfInBounds_toArray, List.set_cons_zero, List.set_cons_succ]) | (at_builtin; have HXC9 := kp H.out.1; have HSEP := kp (sep_of (g4 := g4) (T := 51) (cs := cellsR l u) H.out (ownsT_lt HM.out.own6) HM.out.d64); have HJ := kp (HW.out.join H.out); have HLT9 := kp (H.out.at 0 rfl); refine L_appT elemU HJ rfl _ _ rfl w.heap.size (Nat.le_refl _) HJ.out.1.size u6 got rfl (ownsT_ext HM.out.own6 H.out.1) HSEP.out g78 x rfl _ HLT9.out (cellsU_len x HXK.out) (one_cellsU x) (by omega) (by omega) ?_; clear H; intro va wd HOD HGD HWD H; simp only [List.cons_append, List.nil_append] at H))
        have HPW3 := kp (HPW2.out.ext HEg78.out)
        subst h37
        go_wp2_with (first | ((with_reducible show wpList _ _ _ (Oper.mk _ (Op.load 51 _) _ _ _ _ :: _) _ _); (first | (refine L_load H rfl 51 _ rfl 0 rfl rfl Try.underlying51 rfl (HZQ.out _) ?_) | (refine L_load H rfl 51 _ rfl 1 rfl rfl Try.underlying51 rfl (HZQ.out _) ?_) | (refine L_load H rfl 51 _ rfl 2 rfl rfl Try.underlying51 rfl (HZQ.out _) ?_) | (refine L_load H rfl 51 _ rfl 3 rfl rfl Try.underlying51 rfl (HZQ.out _) ?_) | (refine L_load H rfl 51 _ rfl 4 rfl rfl Try.underlying51 rfl (HZQ.out _) ?_) | (refine L_load H rfl 51 _ rfl 5 rfl rfl Try.underlying51 rfl (HZQ.out _) ?_)); simp only [Act.put, List.setIfInBounds_toArray, List.set_cons_zero, List.set_cons_succ]) | ((with_reducible show wpList _ _ _ (Oper.mk none (Op.store 51 _ _) _ _ _ _ :: _) _ _); (first | (refine L_store H rfl rfl 51 _ _ rfl 0 rfl rfl (cellsR q.1 u2) rfl (HZQ.out _) (HLQ.out _) (HOB.out _ _ HU2.out) ?_; clear H; intro ws HWws H; simp only [List.set_cons_zero] at H) | (refine L_store H rfl rfl 51 _ _ rfl 1 rfl rfl (cellsR q.1 u2) rfl (HZQ.out _) (HLQ.out _) (HOB.out _ _ HU2.out) ?_; clear H; intro ws HWws H; simp only [List.set_cons_succ, List.set_cons_zero] at H) | (refine L_store H rfl rfl 51 _ _ rfl 2 rfl rfl (cellsR q.1 u2) rfl (HZQ.out _) (HLQ.out _) (HOB.out _ _ HU2.out) ?_; clear H; intro ws HWws H; simp only [List.set_cons_succ, List.set_cons_zero] at H) | (refine L_store H rfl rfl 51 _ _ rfl 3 rfl rfl (cellsR q.1 u2) rfl (HZQ.out _) (HLQ.out _) (HOB.out _ _ HU2.out) ?_; clear H; intro ws HWws H; simp only [List.set_cons_succ, List.set_cons_zero] at H) | (refine L_store H rfl rfl 51 _ _ rfl 4 rfl rfl (cellsR q.1 u2) rfl (HZQ.out _) (HLQ.out _) (HOB.out _ _ HU2.out) ?_; clear H; intro ws HWws H; simp only [List.set_cons_succ, List.set_cons_zero] at H) | (refine L_store H rfl rfl 51 _ _ rfl 5 rfl rfl (cellsR q.1 u2) rfl (HZQ.out _) (HLQ.out _) (HOB.out _ _ HU2.out) ?_; clear H; intro ws HWws H; simp only [List.set_cons_succ, List.set_cons_zero] at H))))
        go_roundw
        case rel => exact ⟨j + 1, inst, q.1, u2, q.2, sent, got ++ [x], by omega, by go_num, rfl, by omega, by omega, by simp; omega, kp (fun _ => HON2.out), kp H.out.tail.tail.tail.tail, kp (HM.out.next6 HXC9.out HG4.out HQ1.out HPW3.out HQ2.out HXK.out HOD.out HGD.out HWD.out HWws.out)⟩
        case measure => simp [intOf]; omega
end Go.Proofs.Ytjnaegpjhbobaaa
