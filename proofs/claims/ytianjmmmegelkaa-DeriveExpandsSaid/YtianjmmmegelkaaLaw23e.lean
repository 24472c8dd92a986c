/- hotspotref23.Step, derive.Step; the walk of DeriveExpands. -/
import Derived.Test.YtianjmmmegelkaaRefKey
import Derived.Test.YtianjmmmegelkaaNames
namespace Go.Proofs.Ytianjmmmegelkaa
open Go.RowKit

/-- The key that is derived, and the error. -/
def stepF (ks : List (BitVec 8)) (s : ByteArray) (c : List (BitVec 8)) : List (BitVec 8) := if 32 < s.size ∨ 256 < c.length then List.replicate 16 0 else expandF ks s c 16
def stepE (s : ByteArray) (c : List (BitVec 8)) : Int := if 32 < s.size ∨ 256 < c.length then 4 else 0
theorem stepF_len (ks : List (BitVec 8)) (s : ByteArray) (c : List (BitVec 8)) : (stepF ks s c).length = 16 := by
  unfold stepF; split
  · simp
  · exact expandF_len _ _ _ _

theorem wpList_load_rowG {P : Program} {ops : Array Oper} {rest : List Oper} {o : Oper} {a : Act} {w : World} {Q : Exit → Act → World → Prop} (hgd : Region.wanted o (yielded ops a.tmps) = true) (ty : TypeId) (x : Operand) (ho : o.op = .load ty x)
    (g : Nat) (hx : a.eval x = .pointer (some ⟨g, 0, none⟩)) (t : TypeId) (cs : Array Value) (fr : Nat × Nat) (d : TypeDesc) (hg : w.heap[g]? = some (.cells cs t fr))
    (hu : P.underlying ty = some d) (hd : (match d with | .struct _ | .array _ _ => true | _ => false) = true) (hi : (P.info? ty).map (·.size) = some cs.size)
    (h : wpList P ops Q rest (a.put o.dst (.agg cs)) w) : wpList P ops Q (o :: rest) a w :=
  wpList_step fun _ hK => by rw [if_pos hgd]; exact wp_load_row ty x ho g hx t cs fr d hg hu hd hi (hK _ _ h)
section
variable {P : Program}
/-- copy of a slice of bytes into a row that is known whole. -/
theorem wpList_cpS {ops : Array Oper} {rest : List Oper} {o : Oper} {a : Act} {w w' : World} {Q : Exit → Act → World → Prop} (hgd : o.guard = none) (d s : Operand) (dT sT : TypeId)
    (ho : o.op = .call { callee := .builtin .copy, args := #[d, s], argTypes := #[dT, sT] }) (elem : TypeId) (hu : P.underlying dT = some (.slice elem)) (hsz : (P.info? elem).map (·.size) = some 1)
    (g off dLen dCap : Nat) (hd : a.eval d = .slice (some ⟨g, off, none⟩) dLen dCap) (y : Value) (hs : a.eval s = y) (m : List (BitVec 8)) (hy : SlB w y m)
    (cur : List Value) (t : TypeId) (hg : w.heap[g]? = some (.cells cur.toArray t (0, 0)))
    (n : Nat) (hn : n = Nat.min m.length dLen) (hfit : off + n ≤ cur.length)
    (new : List Value) (hnew : cur.take off ++ ((m.map V8).take n ++ cur.drop (off + n)) = new) (hw : w.setRow g new.toArray = w')
    (h : wpList P ops Q rest (a.put o.dst (goInt n)) w') : wpList P ops Q (o :: rest) a w := by
  have hl : ((m.map V8).take n).length = n := by
    rw [List.length_take, List.length_map]; have := Nat.min_le_left m.length dLen; have h2 : Nat.min m.length dLen = min m.length dLen := rfl; omega
  have same : n = 0 → w' = w := by
    rintro rfl
    rw [← hw, ← hnew]
    simp only [List.take_zero, List.nil_append, Nat.add_zero, List.take_append_drop]
    unfold World.setRow
    congr 1
    refine Array.ext_getElem? fun j => ?_
    rw [Array.getElem?_modify]
    split
    · subst_vars; rw [hg]; rfl
    · rfl
  rcases hy with ⟨rfl, hv⟩ | ⟨b, o2, cap, rfl, hb, hc⟩
  · have hn0 : n = 0 := by rw [hn]; exact Nat.zero_min dLen
    have hw2 := same hn0
    subst hn0
    rw [hw2] at h
    rcases hv with rfl | ⟨ad, cap, rfl⟩
    · exact wpList_copy_nothing hgd d s dT sT ho elem hu hsz _ _ _ _ _ _ hd hs (Nat.zero_min dLen) h
    · exact wpList_copy_nothing hgd d s dT sT ho elem hu hsz _ _ _ _ _ _ hd hs (Nat.zero_min dLen) h
  · refine wpList_copy_own hgd d s dT sT ho elem hu hsz g off dLen dCap ⟨b, o2, none⟩ m.length cap hd hs cur.toArray t hg ((m.map V8).take n) (by rw [hl]; exact hn) ?_ (by simpa [hl] using hfit) ?_ ?_
    · intro j v hv
      rw [Addr.add_mid]
      rw [List.getElem?_take] at hv
      split at hv
      · rw [List.getElem?_map] at hv
        cases hm : m[j]? with
        | none => simp [hm] at hv
        | some z => simp [hm] at hv; subst hv; exact hc j z hm
      · cases hv
    · intro v hv
      exact mem_V8 m v (List.mem_of_mem_take hv)
    · rw [hl]
      have e : (cur.toArray.toList.take off ++ ((m.map V8).take n ++ cur.toArray.toList.drop (off + n))) = new := by simpa using hnew
      rw [e, hw]; exact h
end

set_option maxHeartbeats 1600000 in
theorem rstep_many (ks : List (BitVec 8)) (hk : ks.length = 16) (s : ByteArray) (hs : s.size ≤ 9223372036854775807) (ac : Option Addr) (q cc : Nat) (ho : 32 < s.size ∨ 256 < q) (w : World) :
    Calls Try.prog 20 #[.agg (ks.map V8).toArray, .string s, .slice ac q cc] w fun e w' => e = .returned (.tuple #[.agg z16, .int .i64 4]) ∧ Ext w w' := by
  have HK := kp (sizeK ks hk)
  have HE := kp (fun w => rexpand_many ks s hs ac q cc 16 (by omega) (by omega) w)
  have HZ := kp (sizeK (List.replicate 16 0) (by simp))
  clear hk ho
  go_enter Try.func20, Try.ntmps20
  go_wp2_with (first | ((with_reducible show wpList _ _ _ (Oper.mk _ (Op.load 29 _) _ _ _ _ :: _) _ _); (with_reducible refine wpList_load_row rfl 29 _ rfl (w.heap.size) rfl 29 ((ks.map V8).toArray) (0, 0) _ (hp_alloc (hp_new _ _)) Try.underlying29 rfl (HK.out) ?_); simp only [Act.put, List.setIfInBounds_toArray, List.set_cons_zero, List.set_cons_succ]) | (go_at_call 18; refine (HE.out _).mono ?_; rintro e w' ⟨rfl, x, rfl⟩))
  exact ret_row2 Try.results20 (w.heap.size + 1) 29 z16 (0, 0) _ rfl (.int .i64 4) rfl (hp_more (hp_at _ _ _ (by simp))) Try.underlying29 rfl HZ.out rfl ⟨rfl, ((Ext.alloc _ _).trans (Ext.alloc _ _)).trans (Ext.more _ _)⟩
set_option maxHeartbeats 1600000 in
theorem rstep_ok (ks : List (BitVec 8)) (hk : ks.length = 16) (s : ByteArray) (hs : s.size ≤ 32) (vc : Value) (c : List (BitVec 8)) (hc : c.length ≤ 256) (w : World) (hv : SlB w vc c) :
    Calls Try.prog 20 #[.agg (ks.map V8).toArray, .string s, vc] w fun e w' => e = .returned (.tuple #[.agg ((expandF ks s c 16).map V8).toArray, .int .i64 0]) ∧ Ext w w' := by
  obtain ⟨ac, cc, rfl⟩ := hv.form
  have HV := kp hv
  have HK := kp (sizeK ks hk)
  have HE := kp (fun w h => rexpand_ok ks hk s hs (.slice ac c.length cc) c hc 16 (by omega) w h)
  have HL := kp (expandF_len ks s c 16)
  have HKE := kp (sizeK _ (expandF_len ks s c 16))
  have HZE := kp (z16_size _ (expandF_len ks s c 16))
  have HRK := kp (fun v w h => rkey_any (expandF ks s c 16) (by rw [expandF_len]; exact Nat.le_refl _) (by rw [expandF_len]; omega) v w h)
  rw [show (expandF ks s c 16).take 16 = expandF ks s c 16 from List.take_of_length_le (by rw [expandF_len]; exact Nat.le_refl _)] at HRK
  generalize expandF ks s c 16 = E at *
  clear hk hv hs hc
  go_enter Try.func20, Try.ntmps20
  go_wp2_with (first | ((with_reducible show wpList _ _ _ (Oper.mk _ (Op.load 29 _) _ _ _ _ :: _) _ _); (with_reducible refine wpList_load_row rfl 29 _ rfl (w.heap.size) rfl 29 ((ks.map V8).toArray) (0, 0) _ (hp_alloc (hp_new _ _)) Try.underlying29 rfl (HK.out) ?_); simp only [Act.put, List.setIfInBounds_toArray, List.set_cons_zero, List.set_cons_succ]))
  refine (HE.out _ (HV.out.ext ((Ext.alloc _ _).trans (Ext.alloc _ _)))).mono ?_
  rintro e w1 ⟨v, rfl, hs1, x1, rfl⟩
  have HS1 := kp hs1
  clear hs1
  go_wp2_with fail
  refine (HRK.out _ _ HS1.out).mono ?_
  rintro e w2 ⟨rfl, x2, rfl⟩
  go_wp2_with ((with_reducible show wpList _ _ _ (Oper.mk none (Op.store 29 _ _) _ _ _ _ :: _) _ _); with_reducible refine wpList_st_row rfl rfl 29 _ _ rfl (w.heap.size + 1) ((E.map V8).toArray) rfl rfl 29 (z16) (hp_more (hp_at _ _ _ (by simp))) (HKE.out) (HZE.out) (all_V8 _) (by rewrite [setRow_more _ _ _ _ (by simp <;> omega), setRow_at _ _ _ _ _ _ (by simp <;> omega)]; rfl) ?_)
  exact ret_row2 Try.results20 (w.heap.size + 1) 29 (E.map V8).toArray (0, 0) _ rfl (.int .i64 0) rfl (hp_more (hp_at _ _ _ (by simp))) Try.underlying29 rfl HKE.out rfl ⟨rfl, ((Ext.alloc _ _).trans (Ext.alloc _ _)).trans (Ext.more _ _)⟩
set_option maxHeartbeats 1600000 in
theorem step_ok (ks : List (BitVec 8)) (hk : ks.length = 16) (s : ByteArray) (hs : s.size ≤ 32) (vc : Value) (c : List (BitVec 8)) (hc : c.length ≤ 256) (w : World) (hv : SlB w vc c) :
    Calls Try.prog 19 #[.agg (ks.map V8).toArray, .string s, vc] w fun e w' => e = .returned (.tuple #[.agg ((expandF ks s c 16).map V8).toArray, .int .i64 0]) ∧ Ext w w' := by
  obtain ⟨ac, cc, rfl⟩ := hv.form
  have HV := kp hv
  have HK := kp (sizeK ks hk)
  have HE := kp (fun w h => expand_ok ks hk s hs (.slice ac c.length cc) c hc 16 (by omega) w h)
  have HKE := kp (sizeK _ (expandF_len ks s c 16))
  have HZE := kp (z16_size _ (expandF_len ks s c 16))
  have HL := kp (expandF_len ks s c 16)
  generalize expandF ks s c 16 = E at *
  have HNW := kp (show ((List.replicate 16 (0 : BitVec 8)).map V8).take 0 ++ ((E.map V8).take 16 ++ ((List.replicate 16 (0 : BitVec 8)).map V8).drop (0 + 16)) = E.map V8 by
    rw [List.take_of_length_le (l := E.map V8) (by rw [List.length_map, HL.out]; exact Nat.le_refl _)]; simp)
  clear hk hv hs hc
  go_enter Try.func19, Try.ntmps19
  go_wp2_with (first | ((with_reducible show wpList _ _ _ (Oper.mk _ (Op.load 29 _) _ _ _ _ :: _) _ _); (with_reducible refine wpList_load_row rfl 29 _ rfl (w.heap.size) rfl 29 ((ks.map V8).toArray) (0, 0) _ (hp_alloc (hp_new _ _)) Try.underlying29 rfl (HK.out) ?_); simp only [Act.put, List.setIfInBounds_toArray, List.set_cons_zero, List.set_cons_succ]))
  refine (HE.out _ (HV.out.ext ((Ext.alloc _ _).trans (Ext.alloc _ _)))).mono ?_
  rintro e w1 ⟨ad, rfl, hs1, x1, rfl⟩
  have HS1 := kp hs1
  clear hs1
  go_wp2_with (first | ((with_reducible show wpList _ _ _ (Oper.mk _ (Op.call { callee := .builtin .copy, args := _, argTypes := _ }) _ _ _ _ :: _) _ _); (refine wpList_cpS rfl _ _ 22 22 rfl 5 Try.underlying22 size5 (w.heap.size + 1) (0) (16) (16) rfl _ rfl (E) (HS1.out) ((List.replicate 16 (0 : BitVec 8)).map V8) 29 (hp_more (hp_at _ _ _ (by simp))) (16) (by rw [HL.out]; rfl) (by simp) (E.map V8) (HNW.out) (by rewrite [setRow_more _ _ _ _ (by simp <;> omega), setRow_at _ _ _ _ _ _ (by simp <;> omega)]; rfl) ?_); simp only [Act.put, List.setIfInBounds_toArray, List.set_cons_zero, List.set_cons_succ]) | ((with_reducible show wpList _ _ _ (Oper.mk _ (Op.load 29 _) _ _ _ _ :: _) _ _); (with_reducible refine wpList_load_row rfl 29 _ rfl (w.heap.size + 1) rfl 29 ((E.map V8).toArray) (0, 0) _ (hp_more (hp_at _ _ _ (by simp))) Try.underlying29 rfl (HKE.out) ?_); simp only [Act.put, List.setIfInBounds_toArray, List.set_cons_zero, List.set_cons_succ]) | ((with_reducible show wpList _ _ _ (Oper.mk none (Op.store 29 _ _) _ _ _ _ :: _) _ _); with_reducible refine wpList_st_row rfl rfl 29 _ _ rfl (w.heap.size + 1) ((E.map V8).toArray) rfl rfl 29 ((E.map V8).toArray) (hp_more (hp_at _ _ _ (by simp))) (HKE.out) (rfl) (all_V8 _) (by rewrite [setRow_more _ _ _ _ (by simp <;> omega), setRow_at _ _ _ _ _ _ (by simp <;> omega)]; rfl) ?_))
  exact ret_row2 Try.results19 (w.heap.size + 1) 29 (E.map V8).toArray (0, 0) _ rfl (.int .i64 0) rfl (hp_more (hp_at _ _ _ (by simp))) Try.underlying29 rfl HKE.out rfl ⟨rfl, ((Ext.alloc _ _).trans (Ext.alloc _ _)).trans (Ext.more _ _)⟩
set_option maxHeartbeats 1600000 in
theorem step_many2 (ks : List (BitVec 8)) (hk : ks.length = 16) (s : ByteArray) (hs : s.size ≤ 9223372036854775807) (ac : Option Addr) (q cc : Nat) (ho : 32 < s.size ∨ 256 < q) (w : World) :
    Calls Try.prog 19 #[.agg (ks.map V8).toArray, .string s, .slice ac q cc] w fun e w' => e = .returned (.tuple #[.agg z16, .int .i64 4]) ∧ Ext w w' := by
  have HK := kp (sizeK ks hk)
  have HE := kp (fun w => expand_many ks s hs ac q cc 16 (by omega) (by omega) w)
  have HZ := kp (sizeK (List.replicate 16 0) (by simp))
  clear hk ho hs
  go_enter Try.func19, Try.ntmps19
  go_wp2_with (first | ((with_reducible refine wpList_copy_nothing rfl _ _ 22 22 rfl 5 Try.underlying22 size5 _ _ _ _ _ _ rfl rfl (by decide) ?_); simp only [Act.put, List.setIfInBounds_toArray, List.set_cons_zero, List.set_cons_succ]) | ((with_reducible show wpList _ _ _ (Oper.mk _ (Op.load 29 _) _ _ _ _ :: _) _ _); (with_reducible refine wpList_load_row rfl 29 _ rfl (w.heap.size) rfl 29 ((ks.map V8).toArray) (0, 0) _ (hp_alloc (hp_new _ _)) Try.underlying29 rfl (HK.out) ?_); simp only [Act.put, List.setIfInBounds_toArray, List.set_cons_zero, List.set_cons_succ]) | (go_at_call 17; refine (HE.out _).mono ?_; rintro e w' ⟨rfl, x, rfl⟩) | ((with_reducible show wpList _ _ _ (Oper.mk _ (Op.load 29 _) _ _ _ _ :: _) _ _); (with_reducible refine wpList_load_row rfl 29 _ rfl (w.heap.size + 1) rfl 29 (z16) (0, 0) _ (hp_more (hp_at _ _ _ (by simp))) Try.underlying29 rfl (HZ.out) ?_); simp only [Act.put, List.setIfInBounds_toArray, List.set_cons_zero, List.set_cons_succ]) | ((with_reducible show wpList _ _ _ (Oper.mk none (Op.store 29 _ _) _ _ _ _ :: _) _ _); with_reducible refine wpList_st_row rfl rfl 29 _ _ rfl (w.heap.size + 1) (z16) rfl rfl 29 (z16) (hp_more (hp_at _ _ _ (by simp))) (HZ.out) (rfl) (all_V8 _) (by rewrite [setRow_more _ _ _ _ (by simp <;> omega), setRow_at _ _ _ _ _ _ (by simp <;> omega)]; rfl) ?_))
  exact ret_row2 Try.results19 (w.heap.size + 1) 29 z16 (0, 0) _ rfl (.int .i64 4) rfl (hp_more (hp_at _ _ _ (by simp))) Try.underlying29 rfl HZ.out rfl ⟨rfl, ((Ext.alloc _ _).trans (Ext.alloc _ _)).trans (Ext.more _ _)⟩

/-- Expand and the reference, whatever the arguments are: the same bytes, the same number. -/
def expF (ks : List (BitVec 8)) (s : ByteArray) (c : List (BitVec 8)) (n : Int) : List (BitVec 8) := if n < 0 ∨ 32 < s.size ∨ 256 < c.length ∨ 1024 < n then [] else expandF ks s c n.toNat
def expE (s : ByteArray) (c : List (BitVec 8)) (n : Int) : Int := if n < 0 then 2 else if 32 < s.size ∨ 256 < c.length ∨ 1024 < n then 4 else 0
theorem expF_len (ks : List (BitVec 8)) (s : ByteArray) (c : List (BitVec 8)) (n : Int) : (expF ks s c n).length ≤ 1000000000 := by
  unfold expF; split
  · simp
  · rw [expandF_len]; omega
theorem expand_any (ks : List (BitVec 8)) (hk : ks.length = 16) (s : ByteArray) (hs : s.size ≤ 9223372036854775807) (vc : Value) (c : List (BitVec 8)) (n : Int) (w : World) (hv : SlB w vc c) :
    Calls Try.prog 17 #[.agg (ks.map V8).toArray, .string s, vc, .int .i64 n] w fun e w' => ∃ v, e = .returned (.tuple #[v, .int .i64 (expE s c n)]) ∧ SlB w' v (expF ks s c n) ∧ Ext w w' := by
  by_cases h0 : n < 0
  · obtain ⟨ac, cc, rfl⟩ := hv.form
    refine (expand_neg ks s ac c.length cc n h0 w).mono ?_
    rintro e w' ⟨rfl, hx⟩
    exact ⟨_, by rw [expE, if_pos h0], by rw [expF, if_pos (.inl h0)]; exact SlB.nil _, hx⟩
  by_cases h1 : 32 < s.size ∨ 256 < c.length ∨ 1024 < n
  · obtain ⟨ac, cc, rfl⟩ := hv.form
    refine (expand_many ks s hs ac c.length cc n (by omega) h1 w).mono ?_
    rintro e w' ⟨rfl, hx⟩
    exact ⟨_, by rw [expE, if_neg h0, if_pos h1], by rw [expF, if_pos (.inr h1)]; exact SlB.nil _, hx⟩
  · obtain ⟨m, rfl⟩ := Int.eq_ofNat_of_zero_le (show 0 ≤ n by omega)
    refine (expand_ok ks hk s (by omega) vc c (by omega) m (by omega) w hv).mono ?_
    rintro e w' ⟨ad, rfl, hsl, hx⟩
    exact ⟨_, by rw [expE, if_neg h0, if_neg h1], by rw [expF, if_neg (by omega)]; exact hsl, hx⟩
theorem rexpand_any (ks : List (BitVec 8)) (hk : ks.length = 16) (s : ByteArray) (hs : s.size ≤ 9223372036854775807) (vc : Value) (c : List (BitVec 8)) (n : Int) (w : World) (hv : SlB w vc c) :
    Calls Try.prog 18 #[.agg (ks.map V8).toArray, .string s, vc, .int .i64 n] w fun e w' => ∃ v, e = .returned (.tuple #[v, .int .i64 (expE s c n)]) ∧ SlB w' v (expF ks s c n) ∧ Ext w w' := by
  by_cases h0 : n < 0
  · obtain ⟨ac, cc, rfl⟩ := hv.form
    refine (rexpand_neg ks s ac c.length cc n h0 w).mono ?_
    rintro e w' ⟨rfl, hx⟩
    exact ⟨_, by rw [expE, if_pos h0], by rw [expF, if_pos (.inl h0)]; exact SlB.nil _, hx⟩
  by_cases h1 : 32 < s.size ∨ 256 < c.length ∨ 1024 < n
  · obtain ⟨ac, cc, rfl⟩ := hv.form
    refine (rexpand_many ks s hs ac c.length cc n (by omega) h1 w).mono ?_
    rintro e w' ⟨rfl, hx⟩
    exact ⟨_, by rw [expE, if_neg h0, if_pos h1], by rw [expF, if_pos (.inr h1)]; exact SlB.nil _, hx⟩
  · obtain ⟨m, rfl⟩ := Int.eq_ofNat_of_zero_le (show 0 ≤ n by omega)
    refine (rexpand_ok ks hk s (by omega) vc c (by omega) m (by omega) w hv).mono ?_
    rintro e w' ⟨v, rfl, hsl, hx⟩
    exact ⟨_, by rw [expE, if_neg h0, if_neg h1], by rw [expF, if_neg (by omega)]; exact hsl, hx⟩
theorem step_any (ks : List (BitVec 8)) (hk : ks.length = 16) (s : ByteArray) (hs : s.size ≤ 9223372036854775807) (vc : Value) (c : List (BitVec 8)) (w : World) (hv : SlB w vc c) :
    Calls Try.prog 19 #[.agg (ks.map V8).toArray, .string s, vc] w fun e w' => e = .returned (.tuple #[.agg ((stepF ks s c).map V8).toArray, .int .i64 (stepE s c)]) ∧ Ext w w' := by
  by_cases h1 : 32 < s.size ∨ 256 < c.length
  · obtain ⟨ac, cc, rfl⟩ := hv.form
    rw [stepF, if_pos h1, stepE, if_pos h1]
    exact step_many2 ks hk s hs ac c.length cc h1 w
  · rw [stepF, if_neg h1, stepE, if_neg h1]
    exact step_ok ks hk s (by omega) vc c (by omega) w hv
theorem rstep_any (ks : List (BitVec 8)) (hk : ks.length = 16) (s : ByteArray) (hs : s.size ≤ 9223372036854775807) (vc : Value) (c : List (BitVec 8)) (w : World) (hv : SlB w vc c) :
    Calls Try.prog 20 #[.agg (ks.map V8).toArray, .string s, vc] w fun e w' => e = .returned (.tuple #[.agg ((stepF ks s c).map V8).toArray, .int .i64 (stepE s c)]) ∧ Ext w w' := by
  by_cases h1 : 32 < s.size ∨ 256 < c.length
  · obtain ⟨ac, cc, rfl⟩ := hv.form
    rw [stepF, if_pos h1, stepE, if_pos h1]
    exact rstep_many ks hk s hs ac c.length cc h1 w
  · rw [stepF, if_neg h1, stepE, if_neg h1]
    exact rstep_ok ks hk s (by omega) vc c (by omega) w hv
set_option maxHeartbeats 1600000 in
theorem expandsIn (ks : List (BitVec 8)) (hk : ks.length = 16) (s : ByteArray) (hs : s.size ≤ 100) (vc : Value) (c : List (BitVec 8)) (hc : c.length ≤ 600) (i : Int) (w : World) (hv : SlB w vc c) :
    Calls Try.prog 7 #[.agg (ks.map V8).toArray, .string s, vc, .int .i64 i] w fun e w' => e = .returned (.bool true) ∧ Ext w w' := by
  obtain ⟨ac, cc, rfl⟩ := hv.form
  have HV := kp hv
  have HK := kp (sizeK ks hk)
  have HG := kp (great_any s (by omega) ac c.length cc)
  rw [show greatB s.size c.length = false by simp [greatB]; omega] at HG
  have HTW := kp (fun w (h : SlB w (.slice ac c.length cc) c) => twin_any _ c (by omega) w h)
  have HE := kp (fun (v : Value) (w : World) (h : SlB w v c) => expand_any ks hk s (by omega) v c i w h)
  have HRE := kp (fun (v : Value) (w : World) (h : SlB w v c) => rexpand_any ks hk s (by omega) v c i w h)
  have HS := kp (fun (v : Value) (w : World) (h : SlB w v c) => step_any ks hk s (by omega) v c w h)
  have HRS := kp (fun (v : Value) (w : World) (h : SlB w v c) => rstep_any ks hk s (by omega) v c w h)
  have HCL := kp (show c.length ≤ 1000000000 by omega)
  have HEL := kp (expF_len ks s c i)
  have HSK := kp (sizeK _ (stepF_len ks s c))
  have HZS := kp (z16_size _ (stepF_len ks s c))
  have heqm : ∀ w, (binOp .eql 29 (.agg ((stepF ks s c).map V8).toArray) (.agg ((stepF ks s c).map V8).toArray)).run Try.prog w = .ok (.bool true) w := fun w => by
    rw [run_eql_V8 (P := Try.prog) w Try.underlying29 Try.underlying5 size5 _ _ (stepF_len ks s c) (stepF_len ks s c)]; simp
  generalize expE s c i = ee at *
  generalize expF ks s c i = ef at *
  generalize stepE s c = se at *
  generalize stepF ks s c = sf at *
  clear hk hv
  go_enter Try.func7, Try.ntmps7
  go_wp2_with (go_at_call 10; refine (HG.out _).mono ?_; rintro e w' ⟨rfl, rfl⟩)
  refine (HTW.out _ (HV.out.ext (Ext.alloc _ _))).mono ?_
  rintro e w1 ⟨v1, rfl, ho1, hx1⟩
  have HS1 := kp (SlB.of_owns ho1)
  have HX1 := kp ((Ext.alloc _ _).trans hx1)
  have HKR1 := kp (ext_heap hx1 (hp_new _ _))
  obtain ⟨a1, c1, rfl⟩ := (SlB.of_owns ho1).form
  clear ho1 hx1
  go_wp2_with ((with_reducible show wpList _ _ _ (Oper.mk _ (Op.load 29 _) _ _ _ _ :: _) _ _); (with_reducible refine wpList_load_row rfl 29 _ rfl (w.heap.size) rfl 29 ((ks.map V8).toArray) (0, 0) _ (HKR1.out) Try.underlying29 rfl (HK.out) ?_); simp only [Act.put, List.setIfInBounds_toArray, List.set_cons_zero, List.set_cons_succ])
  refine (HE.out _ _ HS1.out).mono ?_
  rintro e w2 ⟨v2, rfl, hs2, hx2⟩
  have HS2 := kp hs2
  have HX2 := kp hx2
  have HKR2 := kp (ext_heap hx2 HKR1.out)
  obtain ⟨a2, c2, hv2⟩ := hs2.form
  obtain ⟨n2, hn2⟩ : ∃ n, n = ef.length := ⟨_, rfl⟩
  rw [← hn2] at hv2
  subst hv2
  have HN2 := kp hn2
  clear hs2 hx2 hn2
  go_wp2_with ((with_reducible show wpList _ _ _ (Oper.mk _ (Op.load 29 _) _ _ _ _ :: _) _ _); (with_reducible refine wpList_load_row rfl 29 _ rfl (w.heap.size) rfl 29 ((ks.map V8).toArray) (0, 0) _ (HKR2.out) Try.underlying29 rfl (HK.out) ?_); simp only [Act.put, List.setIfInBounds_toArray, List.set_cons_zero, List.set_cons_succ])
  refine (HRE.out _ _ (HV.out.ext (HX1.out.trans HX2.out))).mono ?_
  rintro e w3 ⟨v3, rfl, hs3, hx3⟩
  have HS3 := kp hs3
  have HX3 := kp hx3
  have HKR3 := kp (ext_heap hx3 HKR2.out)
  obtain ⟨a3, c3, hv3⟩ := hs3.form
  rw [← HN2.out] at hv3
  subst hv3
  clear hs3 hx3
  go_wp2_with ((with_reducible show wpList _ _ _ (Oper.mk _ (Op.load 29 _) _ _ _ _ :: _) _ _); (with_reducible refine wpList_load_row rfl 29 _ rfl (w.heap.size) rfl 29 ((ks.map V8).toArray) (0, 0) _ (HKR3.out) Try.underlying29 rfl (HK.out) ?_); simp only [Act.put, List.setIfInBounds_toArray, List.set_cons_zero, List.set_cons_succ])
  refine (HS.out _ _ (HS1.out.ext (HX2.out.trans HX3.out))).mono ?_
  rintro e w4 ⟨rfl, hx4⟩
  have HX4 := kp hx4
  have HKR4 := kp (ext_heap hx4 HKR3.out)
  clear hx4
  go_wp2_with (first | ((with_reducible show wpList _ _ _ (Oper.mk _ (Op.load 29 _) _ _ _ _ :: _) _ _); (with_reducible refine wpList_load_row rfl 29 _ rfl (w.heap.size) rfl 29 ((ks.map V8).toArray) (0, 0) _ (hp_alloc HKR4.out) Try.underlying29 rfl (HK.out) ?_); simp only [Act.put, List.setIfInBounds_toArray, List.set_cons_zero, List.set_cons_succ]) | ((with_reducible show wpList _ _ _ (Oper.mk none (Op.store 29 _ _) _ _ _ _ :: _) _ _); with_reducible refine wpList_st_row rfl rfl 29 _ _ rfl (w4.heap.size) ((sf.map V8).toArray) rfl rfl 29 (z16) (hp_new _ _) (HSK.out) (HZS.out) (all_V8 _) (by rewrite [setRow_at _ _ _ _ _ _ (by simp <;> omega)]; rfl) ?_))
  refine (HRS.out _ _ (HV.out.ext ((((HX1.out.trans HX2.out).trans HX3.out).trans HX4.out).trans (Ext.alloc _ _)))).mono ?_
  rintro e w5 ⟨rfl, x5, rfl⟩
  go_wp2_with (first | ((with_reducible show wpList _ _ _ (Oper.mk none (Op.store 29 _ _) _ _ _ _ :: _) _ _); with_reducible refine wpList_st_row rfl rfl 29 _ _ rfl (w4.heap.size + 1 + x5.blocks.size) ((sf.map V8).toArray) rfl rfl 29 (z16) (hp_at _ _ _ (by simp)) (HSK.out) (HZS.out) (all_V8 _) (by rewrite [setRow_at _ _ _ _ _ _ (by simp [more_size] <;> omega)]; rfl) ?_))
  refine (same_any (HS2.out.ext ((((HX3.out.trans HX4.out).trans (Ext.alloc _ _)).trans (Ext.more _ _)).trans (Ext.alloc _ _))) (HS3.out.ext (((HX4.out.trans (Ext.alloc _ _)).trans (Ext.more _ _)).trans (Ext.alloc _ _))) HEL.out).mono ?_
  rw [show (ef == ef) = true by simp]
  rintro e w6 ⟨rfl, x6, rfl⟩
  go_wp2_with (first | ((with_reducible show wpList _ _ _ (Oper.mk _ (Op.load 29 _) _ _ _ _ :: _) _ _); (with_reducible refine wpList_load_rowG (by kernel_rfl) 29 _ rfl (w4.heap.size) rfl 29 ((sf.map V8).toArray) (0, 0) _ (hp_more (hp_alloc (hp_more (hp_new _ _)))) Try.underlying29 rfl (HSK.out) ?_); simp only [Act.put, List.setIfInBounds_toArray, List.set_cons_zero, List.set_cons_succ]) | ((with_reducible show wpList _ _ _ (Oper.mk _ (Op.load 29 _) _ _ _ _ :: _) _ _); (with_reducible refine wpList_load_rowG (by kernel_rfl) 29 _ rfl (w4.heap.size + 1 + x5.blocks.size) rfl 29 ((sf.map V8).toArray) (0, 0) _ (hp_more (hp_at _ _ _ (by simp))) Try.underlying29 rfl (HSK.out) ?_); simp only [Act.put, List.setIfInBounds_toArray, List.set_cons_zero, List.set_cons_succ]))
  refine (same_any (HS1.out.ext ((((((HX2.out.trans HX3.out).trans HX4.out).trans (Ext.alloc _ _)).trans (Ext.more _ _)).trans (Ext.alloc _ _)).trans (Ext.more _ _))) (HV.out.ext (((((((HX1.out.trans HX2.out).trans HX3.out).trans HX4.out).trans (Ext.alloc _ _)).trans (Ext.more _ _)).trans (Ext.alloc _ _)).trans (Ext.more _ _))) HCL.out).mono ?_
  rw [show (c == c) = true by simp]
  rintro e w7 ⟨rfl, hx7⟩
  have HX7 := kp hx7
  clear hx7
  go_wp2_with fail
  go_ret
  exact ⟨rfl, (((((((HX1.out.trans HX2.out).trans HX3.out).trans HX4.out).trans (Ext.alloc _ _)).trans (Ext.more _ _)).trans (Ext.alloc _ _)).trans (Ext.more _ _)).trans HX7.out⟩
set_option maxHeartbeats 1600000 in
theorem expandsOut (ks : List (BitVec 8)) (s : ByteArray) (hs : s.size ≤ 9223372036854775807) (ac : Option Addr) (q cc : Nat) (i : Int) (w : World) (ho : greatB s.size q = true) :
    Calls Try.prog 7 #[.agg (ks.map V8).toArray, .string s, .slice ac q cc, .int .i64 i] w fun e w' => e = .returned (.bool true) ∧ Ext w w' := by
  have HG := kp (great_any s hs ac q cc)
  rw [ho] at HG
  clear ho
  go_enter Try.func7, Try.ntmps7
  go_wp2_with (go_at_call 10; refine (HG.out _).mono ?_; rintro e w' ⟨rfl, rfl⟩)
  go_ret
  exact ⟨rfl, Ext.alloc _ _⟩
theorem deriveExpands.walk (ks : List (BitVec 8)) (hk : ks.length = 16) (s : ByteArray) (hs : s.size ≤ 9223372036854775807) (vc : Value) (c : List (BitVec 8)) (_ : c.length ≤ 9223372036854775807) (i : Int) (_ : (Lit.int .i64 i).wf = true) (w : World) (hv : SlB w vc c) :
    Calls Try.prog 7 #[.agg (ks.map V8).toArray, .string s, vc, .int .i64 i] w fun e w' => e = .returned (.bool true) ∧ Ext w w' := by
  cases ho : greatB s.size c.length with
  | true =>
    obtain ⟨ac, cc, rfl⟩ := hv.form
    exact expandsOut ks s hs ac c.length cc i w ho
  | false =>
    simp [greatB] at ho
    exact expandsIn ks hk s (by omega) vc c (by omega) i w hv
end Go.Proofs.Ytianjmmmegelkaa
