/- '==' of two windows, counters, slots. -/
import Derived.Test.YtjnaegpjhbobaaaCeq
namespace Go.Proofs.Ytjnaegpjhbobaaa
open Go.RowKit
section
variable {P : Program}
theorem eqItems_all (w : World) (d : Nat) {e : TypeId} {c : Nat} {xs ys : Array Value} (q : Nat → Bool) : ∀ (is : List Nat), (∀ i ∈ is, ∃ v u, (part e xs (i * c)).run P w = .ok v w ∧ (part e ys (i * c)).run P w = .ok u w ∧ (Op.equalIn d e v u).run P w = .ok (q i) w) →
    (Op.eqItems d e c xs ys is).run P w = .ok (is.all q) w
  | [], _ => by simp [Op.eqItems]
  | i :: is, h => by
    obtain ⟨v, u, h1, h2, h3⟩ := h i (by simp)
    have h4 := eqItems_all w d q is fun j hj => h j (by simp [hj])
    simp only [Op.eqItems, Sem.run_bind, h1, h2, Result.andThen_ok, h3, Sem.run_ite, List.all_cons]
    cases q i with
    | false => simp
    | true => simp [h4]
theorem eqFields_all (w : World) (d : Nat) {xs ys : Array Value} (q : Field → Bool) : ∀ (fs : List Field), (∀ f ∈ fs, f.name ≠ "_") → (∀ f ∈ fs, ∃ v u, (part f.type xs f.offset).run P w = .ok v w ∧ (part f.type ys f.offset).run P w = .ok u w ∧ (Op.equalIn d f.type v u).run P w = .ok (q f) w) →
    (Op.eqFields d xs ys fs).run P w = .ok (fs.all q) w
  | [], _, _ => by simp [Op.eqFields]
  | f :: fs, hn, h => by
    obtain ⟨v, u, h1, h2, h3⟩ := h f (by simp)
    have h4 := eqFields_all w d q fs (fun g hg => hn g (by simp [hg])) fun g hg => h g (by simp [hg])
    have hf := hn f (by simp)
    simp only [Op.eqFields, hf, ne_eq, not_false_eq_true, if_true, Sem.run_bind, h1, h2, Result.andThen_ok, h3, List.all_cons]
    cases q f with
    | false => simp
    | true => simp [h4]
end
theorem eqWin2 (w : World) (d : Nat) (x y : Win) : (Op.equalIn (d + 2) 26 (.agg #[.int .i64 x.1, V64 x.2]) (.agg #[.int .i64 y.1, V64 y.2])).run Try.prog w = .ok (x == y) w := by
  rw [run_equalIn_struct w (d + 1) 26 _ _ (by kernel_rfl) (by kernel_rfl), fields26]
  rw [eqFields_all w (d + 1) (fun f => if f.offset = 0 then x.1 == y.1 else x.2 == y.2) _ (by decide) fun f hf => ?_]
  · simp; rfl
  simp only [List.mem_cons, List.not_mem_nil, or_false] at hf
  rcases hf with rfl | rfl
  · exact ⟨_, _, part_int w Try.underlying3 rfl, part_int w Try.underlying3 rfl, (run_equalIn_int w d 3 .i64 .i64 x.1 y.1 Try.underlying3).trans (by simp)⟩
  · exact ⟨_, _, part_int w Try.underlying24 rfl, part_int w Try.underlying24 rfl, (run_equalIn_int w d 24 .u64 .u64 (wI x.2) (wI y.2) Try.underlying24).trans (by simp [wI_beq])⟩
theorem all_range_eq {α : Type} [BEq α] [LawfulBEq α] (l m : List α) (n : Nat) (hl : l.length = n) (hm : m.length = n) : ((List.range n).all fun i => l[i]? == m[i]?) = (l == m) := by
  cases h : (l == m) with
  | true =>
    have e : l = m := by simpa using h
    subst e; simp
  | false =>
    rw [List.all_eq_false]
    have hne : l ≠ m := by intro e; subst e; simp at h
    refine Classical.byContradiction fun hc => hne (List.ext_getElem? fun i => ?_)
    by_cases hi : i < n
    · refine Classical.byContradiction fun hq => hc ⟨i, by simpa using hi, by simpa using hq⟩
    · rw [List.getElem?_eq_none (by omega), List.getElem?_eq_none (by omega)]
theorem eqCounters2 (w : World) (d : Nat) (a a' : Int) (l l' : List Win) (hl : l.length = 9) (hl' : l'.length = 9) : (Op.equalIn (d + 4) 29 (.agg (cellsC a l).toArray) (.agg (cellsC a' l').toArray)).run Try.prog w = .ok (a == a' && l == l') w := by
  rw [run_equalIn_struct w (d + 3) 29 _ _ (by kernel_rfl) (by kernel_rfl), fields29]
  rw [eqFields_all w (d + 3) (fun f => if f.offset = 0 then a == a' else l == l') _ (by decide) fun f hf => ?_]
  · simp
  simp only [List.mem_cons, List.not_mem_nil, or_false] at hf
  rcases hf with rfl | rfl
  · exact ⟨_, _, part_int w Try.underlying3 rfl, part_int w Try.underlying3 rfl, (run_equalIn_int w (d + 2) 3 .i64 .i64 a a' Try.underlying3).trans (by simp)⟩
  · obtain ⟨i7, hi7⟩ := info_ex 27 (by kernel_rfl)
    obtain ⟨i6, hi6⟩ := info_ex 26 (by kernel_rfl)
    refine ⟨_, _, part_arr w Try.underlying27 hi7 _ _, part_arr w Try.underlying27 hi7 _ _, ?_⟩
    rw [show Try.prog.cellsOf 27 = 18 by kernel_rfl]
    rw [run_equalIn_array w (d + 2) _ _ Try.underlying27 hi6]
    rw [eqItems_all w (d + 2) (fun i => l[i]? == l'[i]?) _ fun i hi => ?_]
    · rw [all_range_eq l l' 9 hl hl']; rfl
    have hi9 : i < 9 := by simpa using hi
    obtain ⟨x, hx⟩ : ∃ x, l[i]? = some x := ⟨l[i]'(by omega), by simp⟩
    obtain ⟨y, hy⟩ : ∃ y, l'[i]? = some y := ⟨l'[i]'(by omega), by simp⟩
    refine ⟨_, _, part_struct w Try.underlying26 hi6 _ _, part_struct w Try.underlying26 hi6 _ _, ?_⟩
    rw [show Try.prog.cellsOf 26 = 2 by kernel_rfl]
    rw [win_extract a l hl i hi9 x hx, win_extract a' l' hl' i hi9 y hy, hx, hy]
    exact (eqWin2 w d x y).trans (by simp)
end Go.Proofs.Ytjnaegpjhbobaaa
