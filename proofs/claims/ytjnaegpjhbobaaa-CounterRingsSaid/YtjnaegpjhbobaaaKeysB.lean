/- Slices of keys that are a call's own: append, slices.Clone. -/
import Derived.Test.YtjnaegpjhbobaaaKeys
namespace Go.Proofs.Ytjnaegpjhbobaaa
open Go.RowKit

def flatK (ks : List (List (BitVec 8))) : List Value := ks.flatMap (·.map V8)
theorem flatK_len : ∀ (ks : List (List (BitVec 8))), (∀ k ∈ ks, k.length = 16) → (flatK ks).length = ks.length * 16
  | [], _ => rfl
  | k :: ks, h => by
    have h1 := flatK_len ks (fun q hq => h q (by simp [hq]))
    have h2 := h k (by simp)
    simp only [flatK, List.flatMap_cons, List.length_append, List.length_map, List.length_cons] at h1 ⊢
    omega
theorem flatK_app (ks ms : List (List (BitVec 8))) : flatK (ks ++ ms) = flatK ks ++ flatK ms := by simp [flatK]
theorem flatK_at : ∀ (ks : List (List (BitVec 8))), (∀ k ∈ ks, k.length = 16) → ∀ (j : Nat) k, ks[j]? = some k → ∀ i, i < 16 → (flatK ks)[j * 16 + i]? = (k.map V8)[i]?
  | [], _, j, k, hj, _, _ => by simp at hj
  | q :: ks, h, 0, k, hj, i, hi => by
    have h2 := h q (by simp)
    simp at hj; subst hj
    rw [flatK, List.flatMap_cons, List.getElem?_append_left (by simp [h2]; omega)]
    simp
  | q :: ks, h, j + 1, k, hj, i, hi => by
    have h2 := h q (by simp)
    rw [flatK, List.flatMap_cons, List.getElem?_append_right (by simp [h2]; omega)]
    have h3 := flatK_at ks (fun r hr => h r (by simp [hr])) j k (by simpa using hj) i hi
    rw [← h3, flatK, List.length_map, h2]
    congr 1
    omega
theorem flatK_one (ks : List (List (BitVec 8))) : ∀ u ∈ flatK ks, u.oneCell' = true := by
  intro u hu
  simp only [flatK, List.mem_flatMap, List.mem_map] at hu
  obtain ⟨_, _, _, _, rfl⟩ := hu
  rfl
theorem SlY.cell {w : World} {b off n cap : Nat} {ks : List (List (BitVec 8))} (h : SlY w (.slice (some ⟨b, off, none⟩) n cap) ks) (t : Nat) (u : Value) (hu : (flatK ks)[t]? = some u) : w.cell? ⟨b, off + t, none⟩ = some u := by
  have h0 := h.1
  have ht : t < ks.length * 16 := by rw [← flatK_len ks h0]; exact (List.getElem?_eq_some_iff.1 hu).1
  obtain ⟨k, hk⟩ : ∃ k, ks[t / 16]? = some k := ⟨ks[t / 16]'(by omega), by simp⟩
  obtain ⟨_, b', off', he, _, hr⟩ := h.at (t / 16) k hk
  cases he
  have h1 := flatK_at ks h0 (t / 16) k hk (t % 16) (by omega)
  rw [show t / 16 * 16 + t % 16 = t by omega, hu] at h1
  have h2 := hr (t % 16) u h1.symm
  rwa [show off + t / 16 * 16 + t % 16 = off + t by omega] at h2
theorem SlY.of_owns {w : World} {base E : Nat} {v : Value} {ks : List (List (BitVec 8))} (h0 : ∀ k ∈ ks, k.length = 16) (h : w.ownsRow base E 16 v ks.length (flatK ks)) : SlY w v ks := by
  refine ⟨h0, ?_⟩
  obtain ⟨_, ⟨rfl, hn⟩ | ⟨g, cap, cur, rfl, _, hg, _, _, _, ht⟩⟩ := h
  · exact .inl ⟨List.length_eq_zero_iff.1 hn, .inl rfl⟩
  · refine .inr ⟨g, 0, cap, rfl, (Array.getElem?_eq_some_iff.1 hg).1, fun j k hk i u hu => ?_⟩
    have hi : i < 16 := by
      have h1 := (List.getElem?_eq_some_iff.1 hu).1
      rw [List.length_map, h0 k (List.mem_of_getElem? hk)] at h1; exact h1
    have hj := (List.getElem?_eq_some_iff.1 hk).1
    have h2 := flatK_at ks h0 j k hk i hi
    rw [← ht, List.getElem?_take, if_pos (by omega), hu] at h2
    rw [cell_of_row w g _ cur E (0, 0) hg, show 0 + j * 16 + i = j * 16 + i by omega]
    simpa using h2
theorem info_key : (Try.prog.info? 45).map (fun i => (i.zero, i.size, i.bytes)) = some (some (.agg #[.int .u8 0, .int .u8 0, .int .u8 0, .int .u8 0, .int .u8 0, .int .u8 0, .int .u8 0, .int .u8 0, .int .u8 0, .int .u8 0, .int .u8 0, .int .u8 0, .int .u8 0, .int .u8 0, .int .u8 0, .int .u8 0]), 16, 16) := by kernel_rfl
theorem info_ik : ∃ ik, Try.prog.info? 45 = some ik ∧ ik.zero = some (.agg #[.int .u8 0, .int .u8 0, .int .u8 0, .int .u8 0, .int .u8 0, .int .u8 0, .int .u8 0, .int .u8 0, .int .u8 0, .int .u8 0, .int .u8 0, .int .u8 0, .int .u8 0, .int .u8 0, .int .u8 0, .int .u8 0]) ∧ ik.size = 16 ∧ ik.bytes = 16 := by
  have h := info_key
  cases hq : Try.prog.info? 45 with
  | none => simp [hq] at h
  | some ik => simp [hq] at h; exact ⟨ik, rfl, h⟩
/-- append onto a slice of keys of the call's own, of whatever slice of keys. -/
theorem wpList_append_SlY {w : World} {ops : Array Oper} {rest : List Oper} {o : Oper} {a : Act} {Q : Exit → Act → World → Prop} (hgd : o.guard = none) (s x : Operand)
    (ho : o.op = .call { callee := .builtin .append, args := #[s, x], argTypes := #[49, 49] })
    (base : Nat) (v : Value) (ks : List (List (BitVec 8))) (hs : a.eval s = v) (hown : w.ownsRow base 45 16 v ks.length (flatK ks)) (y : Value) (ms : List (List (BitVec 8))) (hx : a.eval x = y) (hy : SlY w y ms)
    (hlen : ks.length + ms.length ≤ 10000) (hbase : base ≤ w.heap.size)
    (h : ∀ v' w', w'.ownsRow base 45 16 v' (ks ++ ms).length (flatK (ks ++ ms)) → w.grownBy w' v.ownBlock → wpList Try.prog ops Q rest (a.put o.dst v') w') : wpList Try.prog ops Q (o :: rest) a w := by
  obtain ⟨ik, hi, hz, hsz, hby⟩ := info_ik
  have h16 := hy.1
  have hy' := hy
  obtain ⟨_, ⟨rfl, rfl | ⟨ad, cap, rfl⟩⟩ | ⟨b, off, cap, rfl, hb, hc⟩⟩ := hy
  · refine wpList_append_own_none hgd s x _ ho base _ ik 16 Try.underlying49 hi v ks.length (flatK ks) hs hown hx ?_
    exact h v w (by simpa using hown) ⟨rfl, rfl, rfl, Nat.le_refl _, fun _ _ _ => rfl⟩
  · refine wpList_append_own w hgd s x _ ho base _ ik _ 16 16 Try.underlying49 hi hz hsz hby rfl (by decide) v ks.length (flatK ks) hs hown ad 0 cap [] hx (by simp) (fun j u hj => by simp at hj) (fun u hu => by cases hu) (by simp only [maxLen]; simp at hlen; omega) (by simp at hlen; omega) hbase ?_
    intro v' w' h1 h2 _
    exact h v' w' (by simpa using h1) h2
  · refine wpList_append_own w hgd s x _ ho base _ ik _ 16 16 Try.underlying49 hi hz hsz hby rfl (by decide) v ks.length (flatK ks) hs hown ⟨b, off, none⟩ ms.length cap (flatK ms) hx (flatK_len ms h16) ?_ (flatK_one ms) (by simp only [maxLen]; omega) (by omega) hbase ?_
    · intro j u hj
      rw [Addr.add_mid]
      exact hy'.cell j u hj
    · intro v' w' h1 h2 _
      exact h v' w' (by rw [flatK_app, List.length_append]; exact h1) h2
theorem owns_blockS {w : World} {base E n sz : Nat} {v : Value} {xs : List Value} (h : w.ownsRow base E sz v n xs) : ∀ k, v.ownBlock = some k → base ≤ k := by
  intro k hk
  obtain ⟨_, h2⟩ := h
  rcases h2 with ⟨rfl, _⟩ | ⟨g, cap, cur, rfl, hb, _⟩
  · cases hk
  · have : g = k := by simpa [Value.ownBlock] using hk
    omega
theorem ownsK_empty (w : World) (base : Nat) (hb : base ≤ w.heap.size) : (w.alloc (.cells #[] 45)).ownsRow base 45 16 (.slice (some ⟨w.heap.size, 0, none⟩) 0 0) ([] : List (List (BitVec 8))).length (flatK []) :=
  ⟨rfl, .inr ⟨w.heap.size, 0, #[], rfl, hb, hp_new _ _, Nat.le_refl _, Nat.zero_le _, rfl, rfl⟩⟩
theorem ownsK_nil (w : World) (base : Nat) : w.ownsRow base 45 16 (.slice none 0 0) ([] : List (List (BitVec 8))).length (flatK []) := ⟨rfl, .inl ⟨rfl, rfl⟩⟩
/-- A new slice of keys, its own. -/
def RetY (ks : List (List (BitVec 8))) (w : World) (e : Ending) (w' : World) : Prop := ∃ v, e = .returned v ∧ w'.ownsRow w.heap.size 45 16 v ks.length (flatK ks) ∧ Ext w w'
set_option maxHeartbeats 800000 in
theorem cloneK_any (v : Value) (ks : List (List (BitVec 8))) (hn : ks.length ≤ 1000) (w : World) (hs : SlY w v ks) : Calls Try.prog 48 #[v] w (RetY ks w) := by
  obtain ⟨ad, cap, rfl⟩ := hs.form
  have HS := kp (hs.ext (Ext.alloc w (.cells #[] 45)))
  have HOE := kp (ownsK_empty w w.heap.size (Nat.le_refl _))
  have HLE := kp (show ([] : List (List (BitVec 8))).length + ks.length ≤ 10000 by simp; omega)
  have hq : ∀ (w : World) (a : Option Addr) (n c : Nat), (binOp .eql 49 (.slice a n c) (.slice none 0 0)).run Try.prog w = .ok (.bool a.isNone) w := fun w a n c => Lib.run_eql_slice_nil w 49 45 a n c 0 0 Try.underlying49
  cases ad with
  | none =>
    have hl : ks = [] := by
      rcases hs with ⟨_, ⟨h, _⟩ | ⟨b, off, c, h, _⟩⟩
      · exact h
      · cases h
    obtain rfl := hs.nil_cap
    subst hl
    clear hs
    go_enter Try.func48, Try.ntmps48
    go_wp2_with fail
    go_ret
    exact ⟨_, rfl, ownsK_nil _ _, Ext.refl _⟩
  | some a =>
    clear hs
    go_enter Try.func48, Try.ntmps48
    go_wp2_with (at_builtin; refine wpList_append_SlY rfl _ _ rfl w.heap.size _ [] rfl HOE.out _ ks rfl HS.out HLE.out (by simp) ?_; intro v2 w2 ho2 hg2)
    go_ret
    exact ⟨v2, rfl, by simpa using ho2, (Ext.alloc _ _).grown hg2 (fun q hq => owns_blockS HOE.out q hq)⟩
end Go.Proofs.Ytjnaegpjhbobaaa
