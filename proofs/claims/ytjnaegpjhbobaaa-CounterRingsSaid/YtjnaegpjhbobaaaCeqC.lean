/- '==' of two slots. -/
import Derived.Test.YtjnaegpjhbobaaaCeqB
import Derived.Test.YtjnaegpjhbobaaaRingB
namespace Go.Proofs.Ytjnaegpjhbobaaa
open Go.RowKit
def slotEq (s t : Slot) : Bool := s.used == t.used && s.key == t.key && (s.last == t.last && s.wins == t.wins)
theorem slotEq_iff (s t : Slot) : slotEq s t = true ↔ s = t := by
  cases s; cases t
  simp [slotEq, and_assoc]
theorem part_bool (w : World) {E : TypeId} (hE : Try.prog.underlying E = some .bool) {xs : Array Value} {off : Nat} {v : Value} (h : xs[off]? = some v) : (part E xs off).run Try.prog w = .ok v w := by
  have hg : (isAgg E).run Try.prog w = .ok false w := by unfold isAgg; rw [Sem.run_bind, run_underlying hE w]; rfl
  simp [part, hg, h]
theorem slot_key (s : Slot) (h : s.Ok) : (cellsS s).toArray.extract 1 17 = (s.key.map V8).toArray := by
  have h1 := h.1
  apply Array.ext'
  simp only [List.extract_toArray, List.extract_eq_take_drop, cellsS, List.drop_succ_cons, List.drop_zero]
  rw [List.take_append_of_le_length (by simp [h1]), List.take_of_length_le (by simp [h1])]
theorem slot_ctr (s : Slot) (h : s.Ok) : (cellsS s).toArray.extract 17 36 = (cellsC s.last s.wins).toArray := by
  have h1 := h.1
  have h2 : (cellsC s.last s.wins).length = 19 := by rw [cellsC_len, h.2]
  apply Array.ext'
  simp only [List.extract_toArray, List.extract_eq_take_drop, cellsS, List.drop_succ_cons]
  rw [List.drop_append_of_le_length (by simp [h1]), List.drop_of_length_le (by simp [h1]), List.nil_append, List.take_of_length_le (by rw [h2]; decide)]
theorem fields47 : Try.prog.fieldsOf 47 = #[{ name := "Used", type := 4, offset := 0, embedded := false, tag := "", pkgPath := "", byteOffset := 0 }, { name := "Key", type := 45, offset := 1, embedded := false, tag := "", pkgPath := "", byteOffset := 1 }, { name := "Counters", type := 29, offset := 17, embedded := true, tag := "", pkgPath := "", byteOffset := 24 }] := by kernel_rfl
theorem eqSlotIn (w : World) (s t : Slot) (hs : s.Ok) (ht : t.Ok) : (Op.equalIn 10000 47 (.agg (cellsS s).toArray) (.agg (cellsS t).toArray)).run Try.prog w = .ok (slotEq s t) w := by
  obtain ⟨ik, hik⟩ := info_ex 45 (by kernel_rfl)
  obtain ⟨ic, hic⟩ := info_ex 29 (by kernel_rfl)
  rw [run_equalIn_struct w 9999 47 _ _ (by kernel_rfl) (by kernel_rfl), fields47]
  rw [eqFields_all w 9999 (fun f => if f.offset = 0 then s.used == t.used else if f.offset = 1 then s.key == t.key else (s.last == t.last && s.wins == t.wins)) _ (by decide) fun f hf => ?_]
  · simp [slotEq, Bool.and_assoc]
  simp only [List.mem_cons, List.not_mem_nil, or_false] at hf
  rcases hf with rfl | rfl | rfl
  · exact ⟨_, _, part_bool w Try.underlying4 rfl, part_bool w Try.underlying4 rfl, (run_equalIn_bool w 9998 4 s.used t.used Try.underlying4).trans (by simp)⟩
  · refine ⟨_, _, part_arr w Try.underlying45 hik _ _, part_arr w Try.underlying45 hik _ _, ?_⟩
    rw [show Try.prog.cellsOf 45 = 16 by kernel_rfl, slot_key s hs, slot_key t ht]
    exact (run_eq_ints (P := Try.prog) w Try.underlying45 Try.underlying5 sizeU8 s.key t.key hs.1 ht.1 9997).trans (by simp)
  · refine ⟨_, _, part_struct w Try.underlying29 hic _ _, part_struct w Try.underlying29 hic _ _, ?_⟩
    rw [show Try.prog.cellsOf 29 = 19 by kernel_rfl, slot_ctr s hs, slot_ctr t ht]
    exact (eqCounters2 w 9995 s.last t.last s.wins t.wins hs.2 ht.2).trans (by simp)
theorem eqSlot (w : World) (s t : Slot) (hs : s.Ok) (ht : t.Ok) : (binOp .eql 47 (.agg (cellsS s).toArray) (.agg (cellsS t).toArray)).run Try.prog w = .ok (.bool (slotEq s t)) w := by
  rw [run_eql_struct, eqSlotIn w s t hs ht]; rfl
theorem neSlot (w : World) (s t : Slot) (hs : s.Ok) (ht : t.Ok) : (binOp .neq 47 (.agg (cellsS s).toArray) (.agg (cellsS t).toArray)).run Try.prog w = .ok (.bool (!slotEq s t)) w := by
  rw [run_neq_struct, eqSlotIn w s t hs ht]; rfl
theorem cellsSs_at : ∀ (l : List Slot), (∀ s ∈ l, s.Ok) → ∀ (j : Nat) s, l[j]? = some s → ((cellsSs l).drop (j * 36)).take 36 = cellsS s
  | [], _, j, s, hj => by simp at hj
  | q :: l, h, 0, s, hj => by
    have h2 := cellsS_len q (h q (by simp))
    simp at hj; subst hj
    rw [cellsSs, List.flatMap_cons, Nat.zero_mul, List.drop_zero, List.take_append_of_le_length (by omega), List.take_of_length_le (by omega)]
  | q :: l, h, j + 1, s, hj => by
    have h2 := cellsS_len q (h q (by simp))
    have h3 := cellsSs_at l (fun r hr => h r (by simp [hr])) j s (by simpa using hj)
    rw [cellsSs, List.flatMap_cons, show (j + 1) * 36 = (cellsS q).length + j * 36 by omega, List.drop_append, List.drop_of_length_le (by omega), List.nil_append, show (cellsS q).length + j * 36 - (cellsS q).length = j * 36 by omega]
    exact h3
theorem run_index_slot (w : World) (l : List Slot) (hl : Ring4 l) (j : Nat) (s : Slot) (hj : l[j]? = some s) : (Instr.index 48 (.agg (cellsSs l).toArray) (.int .i64 (j : Int))).run Try.prog w = .ok (.agg (cellsS s).toArray) w := by
  obtain ⟨i, hi⟩ := info_ex 47 (by kernel_rfl)
  have hj4 : j < 4 := by have := (List.getElem?_eq_some_iff.1 hj).1; rw [hl.1] at this; exact this
  have h1 : (0 : Int) ≤ j ∧ (j : Int) < (4 : Nat) := by omega
  have hs : i.size = 36 := by have h := size47; rw [hi] at h; simpa using h
  have hp := part_struct w Try.underlying47 hi (cellsSs l).toArray (j * 36)
  rw [show Try.prog.cellsOf 47 = 36 by kernel_rfl, List.extract_toArray, List.extract_eq_take_drop, show j * 36 + 36 - j * 36 = 36 by omega, cellsSs_at l hl.2 j s hj] at hp
  simp only [Instr.index, asIntOf, Sem.run_bind, Sem.run_pure, Result.andThen_ok, run_underlying Try.underlying48 w]
  rw [if_pos h1]
  simp [sizeOf, typeInfo, hi, hs, hp]
end Go.Proofs.Ytjnaegpjhbobaaa
