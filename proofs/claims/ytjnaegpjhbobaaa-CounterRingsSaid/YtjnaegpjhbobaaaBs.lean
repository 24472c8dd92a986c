/- A literal of one key. -/
import Derived.Test.YtjnaegpjhbobaaaKeysB
namespace Go.Proofs.Ytjnaegpjhbobaaa
open Go.RowKit
theorem key_form (k : List (BitVec 8)) (h : k.length = 16) : ∃ a b c d e f g i j l m n o p q r, k = [a, b, c, d, e, f, g, i, j, l, m, n, o, p, q, r] := by
  match k, h with
  | [a, b, c, d, e, f, g, i, j, l, m, n, o, p, q, r], _ => exact ⟨a, b, c, d, e, f, g, i, j, l, m, n, o, p, q, r, rfl⟩
theorem run_buildKey (w : World) (k : List (BitVec 8)) (h : k.length = 16) : (Instr.buildSlice 49 1 #[(0, .agg (k.map V8).toArray)]).run Try.prog w = .ok (.slice (some ⟨w.heap.size, 0, none⟩) 1 1) (w.alloc (.cells (k.map V8).toArray 45)) := by
  obtain ⟨ik, hi, hz, hsz, _⟩ := info_ik
  obtain ⟨a, b, c, d, e, f, g, i, j, l, m, n, o, p, q, r, rfl⟩ := key_form k h
  simp [Instr.buildSlice, run_underlying Try.underlying49, sizeOf, typeInfo, zeroValue, hi, hz, hsz, newRow, Instr.fill, Value.cells]
  rw [show Array.range 16 = #[0, 1, 2, 3, 4, 5, 6, 7, 8, 9, 10, 11, 12, 13, 14, 15] by decide]
  simp
theorem wpList_buildKey {ops : Array Oper} {rest : List Oper} {o : Oper} {a : Act} {w : World} {Q : Exit → Act → World → Prop} (hgd : o.guard = none) (x : Operand) (ho : o.op = .buildSlice 49 1 #[(0, x)])
    (k : List (BitVec 8)) (hk : k.length = 16) (hx : a.eval x = .agg (k.map V8).toArray)
    (h : wpList Try.prog ops Q rest (a.put o.dst (.slice (some ⟨w.heap.size, 0, none⟩) 1 1)) (w.alloc (.cells (k.map V8).toArray 45))) : wpList Try.prog ops Q (o :: rest) a w := by
  refine wpList_plain hgd fun K hK => ?_
  unfold Oper.wp execOp
  simp only [ho, hx, Sem.run_bind, List.map_toArray, List.map_cons, List.map_nil, run_buildKey w k hk, Result.andThen_ok, Sem.run_pure]
  exact hK _ _ h
end Go.Proofs.Ytjnaegpjhbobaaa
