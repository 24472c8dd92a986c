/- '==' on arrays of integers: as the lists are. -/
import Derived.Test.YtfecopfofkdnpaaLaws
import Derived.ChangeKeysEq
namespace Go.Proofs.Ytfecopfofkdnpaa
open Go.RowKit
section
variable {P : Program}

theorem isAgg_int (w : World) {E : TypeId} {k : IntKind} (hE : P.underlying E = some (.int k)) : (isAgg E).run P w = .ok false w := by
  unfold isAgg; rw [Sem.run_bind, run_underlying hE w]; rfl

theorem eqItems_ints {m : Nat} (w : World) (d : Nat) {E : TypeId} {k : IntKind} (hE : P.underlying E = some (.int k)) (l l' : List (BitVec m)) (h : l.length = l'.length) :
    ∀ (c s : Nat), s + c = l.length →
    (Op.eqItems (d + 1) E 1 (l.map fun x => Value.int k (wI x)).toArray (l'.map fun x => Value.int k (wI x)).toArray (List.range' s c)).run P w = .ok (l.drop s == l'.drop s) w := by
  intro c
  induction c with
  | zero =>
    intro s hs
    have e1 : l.drop s = [] := List.drop_of_length_le (by omega)
    have e2 : l'.drop s = [] := List.drop_of_length_le (by omega)
    rw [e1, e2]; simp [Op.eqItems]
  | succ c ih =>
    intro s hs
    have h1 : s < l.length := by omega
    have h2 : s < l'.length := by omega
    rw [List.drop_eq_getElem_cons h1, List.drop_eq_getElem_cons h2, List.range'_succ]
    have p1 : (part E (l.map fun x => Value.int k (wI x)).toArray (s * 1)).run P w = .ok (.int k (wI l[s])) w := by
      simp [part, isAgg_int w hE, h1]
    have p2 : (part E (l'.map fun x => Value.int k (wI x)).toArray (s * 1)).run P w = .ok (.int k (wI l'[s])) w := by
      simp [part, isAgg_int w hE, h2]
    simp only [Op.eqItems, Sem.run_bind, p1, p2, Result.andThen_ok, run_equalIn_int w d E k k (wI l[s]) (wI l'[s]) hE, wI_beq, Sem.run_ite]
    cases hb : (l[s] == l'[s]) with
    | false => simp only [Bool.not_false, if_true, List.cons_beq_cons, hb, Bool.false_and]; rfl
    | true => simp only [Bool.not_true, Bool.false_eq_true, if_false, List.cons_beq_cons, hb, Bool.true_and]; exact ih (s + 1) (by omega)

/-- '==' between two arrays of integers. -/
theorem run_eq_ints {m : Nat} (w : World) {T E n : Nat} {k : IntKind} (hT : P.underlying T = some (.array n E)) (hE : P.underlying E = some (.int k)) (hs : (P.info? E).map (·.size) = some 1)
    (l l' : List (BitVec m)) (h : l.length = n) (h' : l'.length = n) (d : Nat) :
    (Op.equalIn (d + 2) T (.agg (l.map fun x => Value.int k (wI x)).toArray) (.agg (l'.map fun x => Value.int k (wI x)).toArray)).run P w = .ok (l == l') w := by
  cases hq : P.info? E with
  | none => simp [hq] at hs
  | some j =>
    have hj : j.size = 1 := by simpa [hq] using hs
    have hc : P.cellsOf E = 1 := by simp [Program.cellsOf, hq, hj]
    rw [run_equalIn_array w (d + 1) _ _ hT hq, hc, List.range_eq_range']
    have := eqItems_ints (P := P) w d hE l l' (by omega) n 0 (by omega)
    simpa using this
/-- The walk's form. -/
theorem run_eql_V32 (w : World) {T E n : Nat} (hT : P.underlying T = some (.array n E)) (hE : P.underlying E = some (.int .u32)) (hs : (P.info? E).map (·.size) = some 1)
    (l l' : List (BitVec 32)) (h : l.length = n) (h' : l'.length = n) :
    (binOp .eql T (.agg (l.map V32).toArray) (.agg (l'.map V32).toArray)).run P w = .ok (.bool (l == l')) w := by
  rw [run_eql_struct]
  have := run_eq_ints (P := P) w hT hE hs l l' h h' 9998
  rw [show (9998 + 2 : Nat) = 10000 from rfl] at this
  rw [this]; rfl
theorem run_eql_V8 (w : World) {T E n : Nat} (hT : P.underlying T = some (.array n E)) (hE : P.underlying E = some (.int .u8)) (hs : (P.info? E).map (·.size) = some 1)
    (l l' : List (BitVec 8)) (h : l.length = n) (h' : l'.length = n) :
    (binOp .eql T (.agg (l.map V8).toArray) (.agg (l'.map V8).toArray)).run P w = .ok (.bool (l == l')) w := by
  rw [run_eql_struct]
  have := run_eq_ints (P := P) w hT hE hs l l' h h' 9998
  rw [show (9998 + 2 : Nat) = 10000 from rfl] at this
  rw [this]; rfl
end
end Go.Proofs.Ytfecopfofkdnpaa
