/- Slices of keys: slices.Index, slices.Contains, counter.unique. -/
import Derived.Test.YtjnaegpjhbobaaaAccept
import Derived.Test.YtjnaegpjhbobaaaSlT
import Derived.Deep.MidRow
namespace Go.Proofs.Ytjnaegpjhbobaaa
open Go.RowKit

theorem size45 : (Try.prog.info? 45).map (·.size) = some 16 := by kernel_rfl
theorem sizeU8 : (Try.prog.info? 5).map (·.size) = some 1 := by kernel_rfl
theorem sizeKy (l : List (BitVec 8)) (h : l.length = 16) : (Try.prog.info? 45).map (·.size) = some (l.map V8).toArray.size := by rw [size45]; simp [h]
theorem sizeKl (l : List (BitVec 8)) (h : l.length = 16) : (Try.prog.info? 45).map (·.size) = some (l.map V8).length := by rw [size45]; simp [h]
/-- Cells out of the middle of a block, in a quiet walk. -/
theorem quiet_load_mid {P : Program} {o : Oper} {a : Act} {C : World → Prop} {K : Act → Prop} (ty : TypeId) (x : Operand) (ho : o.op = .load ty x)
    (b off : Nat) (hx : a.eval x = .pointer (some ⟨b, off, none⟩)) (cs : List Value) (d : TypeDesc) (hg : ∀ w, C w → w.rangeAt b off cs)
    (hu : P.underlying ty = some d) (hd : d.isRow = true) (hi : (P.info? ty).map (·.size) = some cs.length)
    (h : K (a.put o.dst (.agg cs.toArray))) : o.quiet P a C K := by
  refine ⟨.agg cs.toArray, fun w hw => ?_, h⟩
  unfold Oper.quietAt execOp
  simp only [ho, hx, Instr.loadAt, Instr.sureAddr, Sem.run_bind, Sem.run_pure, Result.andThen_ok, run_loadVar_mid w b off ty cs d (hg w hw) hu hd hi]
  exact ⟨rfl, rfl⟩

/-- A slice that reads as keys. -/
def SlY (w : World) (v : Value) (ks : List (List (BitVec 8))) : Prop := (∀ k ∈ ks, k.length = 16) ∧ ((ks = [] ∧ (v = .slice none 0 0 ∨ ∃ a c, v = .slice (some a) 0 c)) ∨
  ∃ b off cap, v = .slice (some ⟨b, off, none⟩) ks.length cap ∧ b < w.heap.size ∧ ∀ (j : Nat) k, ks[j]? = some k → w.rangeAt b (off + j * 16) (k.map V8))
theorem SlY.ext {w w' : World} {v : Value} {ks : List (List (BitVec 8))} (h : SlY w v ks) (hx : Ext w w') : SlY w' v ks := by
  obtain ⟨h0, h | ⟨b, off, cap, h1, h2, h3⟩⟩ := h
  · exact ⟨h0, .inl h⟩
  · exact ⟨h0, .inr ⟨b, off, cap, h1, Nat.lt_of_lt_of_le h2 hx.size, fun j k hk => rangeAt_ext (h3 j k hk) h2 hx⟩⟩
theorem SlY.nil (w : World) : SlY w (.slice none 0 0) [] := ⟨by simp, .inl ⟨rfl, .inl rfl⟩⟩
theorem SlY.form {w : World} {v : Value} {ks : List (List (BitVec 8))} (h : SlY w v ks) : ∃ a cap, v = .slice a ks.length cap := by
  obtain ⟨_, ⟨rfl, h | ⟨a, c, h⟩⟩ | ⟨b, off, cap, h1, _⟩⟩ := h
  · exact ⟨_, _, h⟩
  · exact ⟨_, _, h⟩
  · exact ⟨_, _, h1⟩
theorem SlY.at {w : World} {ad : Option Addr} {n cap : Nat} {ks : List (List (BitVec 8))} (h : SlY w (.slice ad n cap) ks) (j : Nat) (k : List (BitVec 8)) (hj : ks[j]? = some k) : k.length = 16 ∧ ∃ b off, ad = some ⟨b, off, none⟩ ∧ b < w.heap.size ∧ w.rangeAt b (off + j * 16) (k.map V8) := by
  refine ⟨h.1 k (List.mem_of_getElem? hj), ?_⟩
  obtain ⟨_, ⟨rfl, _⟩ | ⟨b, off, cap', hv, hb, hc⟩⟩ := h
  · simp at hj
  · cases hv
    exact ⟨b, off, rfl, hb, hc j k hj⟩
theorem SlY.take {w : World} {ad : Option Addr} {m cap n cap' : Nat} {ks : List (List (BitVec 8))} (h : SlY w (.slice ad m cap) ks) (hn : n ≤ ks.length) (hc : ad = none → cap' = 0) : SlY w (.slice ad n cap') (ks.take n) := by
  have hl : (ks.take n).length = n := by rw [List.length_take]; omega
  refine ⟨fun k hk => h.1 k (List.mem_of_mem_take hk), ?_⟩
  obtain ⟨_, ⟨rfl, h⟩ | ⟨b, off, cp, hv, hb, hc2⟩⟩ := h
  · have : n = 0 := by simpa using hn
    subst this
    refine .inl ⟨by simp, ?_⟩
    rcases h with h | ⟨a, c, h⟩
    · cases h; left; rw [hc rfl]
    · cases h; exact .inr ⟨_, _, rfl⟩
  · cases hv
    refine .inr ⟨b, off, cap', by rw [hl], hb, fun j k hj => hc2 j k ?_⟩
    rw [List.getElem?_take] at hj
    split at hj
    · exact hj
    · cases hj
theorem SlY.nil_cap {w : World} {n cap : Nat} {ks : List (List (BitVec 8))} (h : SlY w (.slice none n cap) ks) : cap = 0 := by
  obtain ⟨_, ⟨_, h | ⟨a, c, h⟩⟩ | ⟨b, off, cap', hv, _⟩⟩ := h
  · cases h; rfl
  · cases h
  · cases hv

theorem eqKey (w : World) (k k' : List (BitVec 8)) (h : k.length = 16) (h' : k'.length = 16) : (binOp .eql 45 (.agg (k.map V8).toArray) (.agg (k'.map V8).toArray)).run Try.prog w = .ok (.bool (k == k')) w := by
  rw [run_eql_V8 (P := Try.prog) w Try.underlying45 Try.underlying5 sizeU8 _ _ h h']

/-- slices.Index: below zero where the key is not in the list. -/
theorem contains_take (ks : List (List (BitVec 8))) (i : Nat) (k q : List (BitVec 8)) (h : ks[i]? = some q) (hn : (ks.take i).contains k = false) (hq : (k == q) = false) : (ks.take (i + 1)).contains k = false := by
  rw [List.take_add_one, h, Option.toList_some, List.contains_eq_any_beq, List.any_append, ← List.contains_eq_any_beq, hn]
  simpa using hq
set_option maxHeartbeats 1600000 in
theorem indexKey_any (ad : Option Addr) (n c : Nat) (ks : List (List (BitVec 8))) (k : List (BitVec 8)) (hk : k.length = 16) (hn : n = ks.length) (hl : n ≤ 1000) (w : World) (hs : SlY w (.slice ad n c) ks) :
    Calls Try.prog 55 #[.slice ad n c, .agg (k.map V8).toArray] w (RetIdx (ks.contains k) w) := by
  have HS := kp hs
  have HN := kp hn
  have HK := kp (sizeKy k hk)
  have HQ := kp (fun q h w => eqKey w k q hk h)
  clear hs hn hk
  go_enter Try.func55, Try.ntmps55
  go_wp2_with fail
  go_loopw [8] (fun i wr => ∃ (j : Nat) (x : Xtra), j ≤ n ∧ i = .int .i64 j ∧ Kp ((ks.take j).contains k = false) ∧ wr = more (w.alloc (.cells (k.map V8).toArray 45)) x) (fun i _ => n - (intOf i).toNat)
  case atStart => exact ⟨0, _, by omega, rfl, kp rfl, by rw [← more_self]⟩
  case round =>
    obtain ⟨j, x, hj, rfl, HT, rfl⟩ := hrel
    by_cases hlt : j < n
    · obtain ⟨q, hq⟩ : ∃ q, ks[j]? = some q := ⟨ks[j]'(by rw [← HN.out]; omega), by simp⟩
      obtain ⟨hq16, b, off, rfl, hb, hr⟩ := HS.out.at j q hq
      have HR := kp hr
      have HB := kp hb
      have HQ1 := kp (sizeKl q hq16)
      have heq := HQ.out q hq16
      have HY := kp hq
      clear hq hr hb hq16
      go_wp2_with fail
      cases hbq : (k == q) with
      | false =>
        rw [hbq] at heq
        have HO := kp (contains_take ks j k q HY.out HT.out hbq)
        clear hbq
        (first | with_reducible refine region_f2 6 (by kernel_rfl) (by kernel_rfl) (by kernel_rfl) (by kernel_rfl) (by decide) (Nat.le_of_ble_eq_true (by kernel_rfl)) ?_ | refine region_f 6 (by kernel_rfl) (by kernel_rfl) (by kernel_rfl) (by kernel_rfl) (by decide) (Nat.le_of_ble_eq_true (by kernel_rfl)) ?_)
        apply Exists.intro
        refine ⟨fun xz2 => ?_, fun xq2 => ?_⟩
        · simp only [List.take_succ_cons, List.take_zero]
          unfold Cx
          repeat (first | ((with_reducible show wpQuiet _ _ _ _ (Oper.mk _ (Op.load 45 _) _ _ _ _ :: _) _); go_big_quiet_want; with_reducible refine quiet_load_row 45 _ rfl (w.heap.size) rfl 45 ((k.map V8).toArray) (0, 0) _ (fun _ hw => by obtain ⟨xx, rfl⟩ := hw; exact hp_more (hp_new _ _)) Try.underlying45 rfl (HK.out) ?_; simp only [Act.put, List.setIfInBounds_toArray, List.set_cons_zero, List.set_cons_succ]; go_big_quiet_on) | ((with_reducible show wpQuiet _ _ _ _ (Oper.mk _ (Op.load 45 _) _ _ _ _ :: _) _); go_big_quiet_want; with_reducible refine quiet_load_mid 45 _ rfl (b) (off + j * 16) rfl (q.map V8) _ (fun _ hw => by obtain ⟨xx, rfl⟩ := hw; exact rangeAt_ext HR.out HB.out ((Ext.alloc _ _).trans (Ext.more _ _))) Try.underlying45 rfl (HQ1.out) ?_; simp only [Act.put, List.setIfInBounds_toArray, List.set_cons_zero, List.set_cons_succ]; go_big_quiet_on) | go_big_quiet_step (fail))
          exact wpQuiet_nil rfl
        simp only [List.drop_succ_cons, List.drop_zero]
        go_wp2_with fail
        go_roundw
        case rel => exact ⟨j + 1, _, by omega, by go_num, HO, rfl⟩
        case measure => simp [intOf]; omega
      | true =>
        rw [hbq] at heq
        have HO := kp (show ks.contains k = true by
          rw [List.contains_iff_mem]
          have h : k = q := by simpa using hbq
          rw [h]; exact List.mem_of_getElem? HY.out)
        clear hbq
        (first | with_reducible refine region_f2 6 (by kernel_rfl) (by kernel_rfl) (by kernel_rfl) (by kernel_rfl) (by decide) (Nat.le_of_ble_eq_true (by kernel_rfl)) ?_ | refine region_f 6 (by kernel_rfl) (by kernel_rfl) (by kernel_rfl) (by kernel_rfl) (by decide) (Nat.le_of_ble_eq_true (by kernel_rfl)) ?_)
        apply Exists.intro
        refine ⟨fun xz3 => ?_, fun xq3 => ?_⟩
        · simp only [List.take_succ_cons, List.take_zero]
          unfold Cx
          repeat (first | ((with_reducible show wpQuiet _ _ _ _ (Oper.mk _ (Op.load 45 _) _ _ _ _ :: _) _); go_big_quiet_want; with_reducible refine quiet_load_row 45 _ rfl (w.heap.size) rfl 45 ((k.map V8).toArray) (0, 0) _ (fun _ hw => by obtain ⟨xx, rfl⟩ := hw; exact hp_more (hp_new _ _)) Try.underlying45 rfl (HK.out) ?_; simp only [Act.put, List.setIfInBounds_toArray, List.set_cons_zero, List.set_cons_succ]; go_big_quiet_on) | ((with_reducible show wpQuiet _ _ _ _ (Oper.mk _ (Op.load 45 _) _ _ _ _ :: _) _); go_big_quiet_want; with_reducible refine quiet_load_mid 45 _ rfl (b) (off + j * 16) rfl (q.map V8) _ (fun _ hw => by obtain ⟨xx, rfl⟩ := hw; exact rangeAt_ext HR.out HB.out ((Ext.alloc _ _).trans (Ext.more _ _))) Try.underlying45 rfl (HQ1.out) ?_; simp only [Act.put, List.setIfInBounds_toArray, List.set_cons_zero, List.set_cons_succ]; go_big_quiet_on) | go_big_quiet_step (fail))
          exact wpQuiet_nil rfl
        simp only [List.drop_succ_cons, List.drop_zero]
        go_wp2_with fail
        go_ret
        exact ⟨(j : Int), rfl, by rw [HO.out]; simp, (Ext.alloc _ _).trans (Ext.more _ _)⟩
    · obtain rfl : j = n := by omega
      have HO := kp (show ks.contains k = false by
        have h := HT.out
        rwa [List.take_of_length_le (by rw [HN.out]; exact Nat.le_refl _)] at h)
      go_wp2_with fail
      go_ret
      exact ⟨-1, rfl, by rw [HO.out]; rfl, (Ext.alloc _ _).trans (Ext.more _ _)⟩

set_option maxHeartbeats 800000 in
theorem containsKey_any (ad : Option Addr) (n c : Nat) (ks : List (List (BitVec 8))) (k : List (BitVec 8)) (hk : k.length = 16) (hn : n = ks.length) (hl : n ≤ 1000) (w : World) (hs : SlY w (.slice ad n c) ks) :
    Calls Try.prog 44 #[.slice ad n c, .agg (k.map V8).toArray] w fun e w' => e = .returned (.bool (ks.contains k)) ∧ Ext w w' := by
  have HI := kp (fun w' h => indexKey_any ad n c ks k hk hn hl w' h)
  have HS := kp hs
  have HK := kp (sizeKy k hk)
  clear hs hn hk hl
  go_enter Try.func44, Try.ntmps44
  go_wp2_with ((with_reducible show wpList _ _ _ (Oper.mk _ (Op.load 45 _) _ _ _ _ :: _) _ _); (with_reducible refine wpList_load_row rfl 45 _ rfl (w.heap.size) rfl 45 ((k.map V8).toArray) (0, 0) _ (hp_new _ _) Try.underlying45 rfl (HK.out) ?_); simp only [Act.put, List.setIfInBounds_toArray, List.set_cons_zero, List.set_cons_succ])
  refine (HI.out _ (HS.out.ext (Ext.alloc _ _))).mono ?_
  rintro e w' ⟨r, rfl, hr, hx⟩
  have HR := kp hr
  have HX := kp hx
  clear hr hx
  go_wp2_with fail
  go_ret
  exact ⟨by rw [← HR.out]; rfl, (Ext.alloc _ _).trans HX.out⟩
/-- Are keys pairwise different? -/
def uniqTo (ks : List (List (BitVec 8))) (n : Nat) : Bool := (List.range n).all fun i => !(ks.take i).contains (ks.getD i [])
def uniqB (ks : List (List (BitVec 8))) : Bool := uniqTo ks ks.length
theorem uniqTo_succ (ks : List (List (BitVec 8))) (n : Nat) (k : List (BitVec 8)) (h : ks[n]? = some k) : uniqTo ks (n + 1) = (uniqTo ks n && !(ks.take n).contains k) := by
  unfold uniqTo; rw [List.range_succ, List.all_append]; simp [List.getD, h]
theorem uniqB_bad (ks : List (List (BitVec 8))) (n : Nat) (k : List (BitVec 8)) (h : ks[n]? = some k) (hc : (ks.take n).contains k = true) : uniqB ks = false := by
  unfold uniqB uniqTo
  rw [List.all_eq_false]
  refine ⟨n, ?_, ?_⟩
  · rw [List.mem_range]; exact (List.getElem?_eq_some_iff.1 h).1
  · simp only [List.getD, h, Option.getD_some, hc]; decide
set_option maxHeartbeats 1600000 in
theorem unique_any (ad : Option Addr) (n c : Nat) (ks : List (List (BitVec 8))) (hn : n = ks.length) (hl : n ≤ 1000) (hc : n ≤ c) (w : World) (hs : SlY w (.slice ad n c) ks) :
    Calls Try.prog 47 #[.slice ad n c] w fun e w' => e = .returned (.bool (uniqB ks)) ∧ Ext w w' := by
  have HS := kp hs
  have HN := kp hn
  have HC := kp (fun (j : Nat) (hj : j ≤ n) q hq w' h => containsKey_any ad j c (ks.take j) q hq (by rw [List.length_take]; omega) (by omega) w' h)
  clear hs hn
  go_enter Try.func47, Try.ntmps47
  go_wp2_with fail
  go_loopw [7] (fun i wr => ∃ (j : Nat), j ≤ n ∧ i = .int .i64 j ∧ Kp (uniqTo ks j = true) ∧ Kp (Ext w wr)) (fun i _ => n - (intOf i).toNat)
  case atStart => exact ⟨0, by omega, rfl, kp rfl, kp (Ext.refl _)⟩
  case round =>
    obtain ⟨j, hj, rfl, HT, HX⟩ := hrel
    by_cases hlt : j < n
    · obtain ⟨q, hq⟩ : ∃ q, ks[j]? = some q := ⟨ks[j]'(by rw [← HN.out]; omega), by simp⟩
      obtain ⟨hq16, b, off, rfl, hb, hr⟩ := HS.out.at j q hq
      have HR := kp (rangeAt_ext hr hb HX.out)
      have HQ1 := kp (sizeKl q hq16)
      have HQ2 := kp (sizeKy q hq16)
      have HCC := kp (fun x => HC.out j hj q hq16 _ (((HS.out.ext HX.out).ext ((Ext.alloc _ (.cells (q.map V8).toArray 45)).trans (Ext.more _ x))).take (n := j) (cap' := c) (by rw [← HN.out]; exact hj) (by simp)))
      have HY := kp hq
      have HQL := kp hq16
      clear hq hr hb hq16
      go_wp2_with (first | ((with_reducible show wpList _ _ _ (Oper.mk _ (Op.load 45 _) _ _ _ _ :: _) _ _); (with_reducible refine wpList_load_mid rfl 45 _ rfl (b) (off + j * 16) rfl (q.map V8) _ (HR.out) Try.underlying45 rfl (HQ1.out) ?_); simp only [Act.put, List.setIfInBounds_toArray, List.set_cons_zero, List.set_cons_succ]) | ((with_reducible show wpList _ _ _ (Oper.mk none (Op.store 45 _ _) _ _ _ _ :: _) _ _); with_reducible refine wpList_st_row rfl rfl 45 _ _ rfl (wr.heap.size) ((q.map V8).toArray) rfl rfl 45 (_) (hp_new _ _) (HQ2.out) (by simp [HQL.out]) (all_V8 _) (by rewrite [setRow_at _ _ _ _ _ _ (by simp <;> omega)]; rfl) ?_))
      cases hbq : (ks.take j).contains q with
      | false =>
        rw [hbq] at HCC
        have HO := kp (show uniqTo ks (j + 1) = true by rw [uniqTo_succ ks j q HY.out, HT.out, hbq]; rfl)
        clear hbq
        (first | with_reducible refine region_f2 5 (by kernel_rfl) (by kernel_rfl) (by kernel_rfl) (by kernel_rfl) (by decide) (Nat.le_of_ble_eq_true (by kernel_rfl)) ?_ | refine region_f 5 (by kernel_rfl) (by kernel_rfl) (by kernel_rfl) (by kernel_rfl) (by decide) (Nat.le_of_ble_eq_true (by kernel_rfl)) ?_)
        apply Exists.intro
        refine ⟨fun xz2 => ?_, fun xq2 => ?_⟩
        · simp only [List.take_succ_cons, List.take_zero]
          unfold Cx
          repeat (first | ((with_reducible show wpQuiet _ _ _ _ (Oper.mk _ (Op.load 45 _) _ _ _ _ :: _) _); go_big_quiet_want; with_reducible refine quiet_load_row 45 _ rfl (wr.heap.size) rfl 45 ((q.map V8).toArray) (0, 0) _ (fun _ hw => by obtain ⟨xx, rfl⟩ := hw; exact hp_more (hp_new _ _)) Try.underlying45 rfl (HQ2.out) ?_; simp only [Act.put, List.setIfInBounds_toArray, List.set_cons_zero, List.set_cons_succ]; go_big_quiet_on) | go_big_quiet_step (exact Calls.cx_of (HCC.out _)))
          exact wpQuiet_nil rfl
        simp only [List.drop_succ_cons, List.drop_zero]
        go_wp2_with fail
        go_roundw
        case rel => exact ⟨j + 1, by omega, by go_num, HO, kp (HX.out.trans ((Ext.alloc _ _).trans (Ext.more _ _)))⟩
        case measure => simp [intOf]; omega
      | true =>
        rw [hbq] at HCC
        have HO := kp (uniqB_bad ks j q HY.out hbq)
        clear hbq
        (first | with_reducible refine region_f2 5 (by kernel_rfl) (by kernel_rfl) (by kernel_rfl) (by kernel_rfl) (by decide) (Nat.le_of_ble_eq_true (by kernel_rfl)) ?_ | refine region_f 5 (by kernel_rfl) (by kernel_rfl) (by kernel_rfl) (by kernel_rfl) (by decide) (Nat.le_of_ble_eq_true (by kernel_rfl)) ?_)
        apply Exists.intro
        refine ⟨fun xz3 => ?_, fun xq3 => ?_⟩
        · simp only [List.take_succ_cons, List.take_zero]
          unfold Cx
          repeat (first | ((with_reducible show wpQuiet _ _ _ _ (Oper.mk _ (Op.load 45 _) _ _ _ _ :: _) _); go_big_quiet_want; with_reducible refine quiet_load_row 45 _ rfl (wr.heap.size) rfl 45 ((q.map V8).toArray) (0, 0) _ (fun _ hw => by obtain ⟨xx, rfl⟩ := hw; exact hp_more (hp_new _ _)) Try.underlying45 rfl (HQ2.out) ?_; simp only [Act.put, List.setIfInBounds_toArray, List.set_cons_zero, List.set_cons_succ]; go_big_quiet_on) | go_big_quiet_step (exact Calls.cx_of (HCC.out _)))
          exact wpQuiet_nil rfl
        simp only [List.drop_succ_cons, List.drop_zero]
        go_wp2_with fail
        go_ret
        exact ⟨congrArg (fun z => Ending.returned (.bool z)) HO.out.symm, HX.out.trans ((Ext.alloc _ _).trans (Ext.more _ _))⟩
    · obtain rfl : j = n := by omega
      have HO := kp (show uniqB ks = true by
        have h := HT.out
        rwa [HN.out] at h)
      go_wp2_with fail
      go_ret
      exact ⟨congrArg (fun z => Ending.returned (.bool z)) HO.out.symm, HX.out⟩
end Go.Proofs.Ytjnaegpjhbobaaa
