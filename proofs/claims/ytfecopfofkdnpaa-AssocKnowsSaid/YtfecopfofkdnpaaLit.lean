/- Literals and makes over Loc: build, buildSlice, makeSlice with known operands; guarded ones, too. -/
import Derived.Test.YtfecopfofkdnpaaLoc
namespace Go.Proofs.Ytfecopfofkdnpaa
open Go.RowKit
theorem Loc.tl {w0 w : World} {b : Bk} {bs : List Bk} (h : Loc w0 w (b :: bs)) : Loc w0 w bs :=
  ⟨h.1, (List.nodup_cons.1 h.2.1).2, fun c hc => h.2.2 c (by simp [hc])⟩
section
variable {P : Program} {ops : Array Oper} {rest : List Oper} {o : Oper} {a : Act} {w0 w : World} {Q : Exit → Act → World → Prop} {bs : List Bk}
theorem L_bd (hgd : Region.wanted o (yielded ops a.tmps) = true) (t : TypeId) (parts : Array (Nat × Operand)) (ho : o.op = .build t parts) (ps : Array (Nat × Value)) (hp : parts.map (fun p => (p.1, a.eval p.2)) = ps) (cs : List Value)
    (hrun : ∀ w, (Instr.build t ps).run P w = .ok (.agg cs.toArray) w) (h : wpList P ops Q rest (a.put o.dst (.agg cs.toArray)) w) : wpList P ops Q (o :: rest) a w := by
  refine wpList_step fun K hK => ?_
  rw [if_pos hgd]
  unfold Oper.wp execOp
  simp only [ho, Sem.run_bind, hp, hrun w, Result.andThen_ok, Sem.run_pure]
  exact hK _ _ h
theorem L_bs (H : Kp (Loc w0 w bs)) (hgd : Region.wanted o (yielded ops a.tmps) = true) (t : TypeId) (n : Nat) (parts : Array (Nat × Operand)) (ho : o.op = .buildSlice t n parts) (ps : Array (Nat × Value)) (hp : parts.map (fun p => (p.1, a.eval p.2)) = ps) (e : TypeId) (cs : List Value)
    (hrun : ∀ w, (Instr.buildSlice t n ps).run P w = .ok (.slice (some ⟨w.heap.size, 0, none⟩) n n) (w.alloc (.cells cs.toArray e)))
    (h : ∀ g w', Kp (g = w.heap.size) → Kp (Ext w w') → Kp (Loc w0 w' ((g, e, cs) :: bs)) → wpList P ops Q rest (a.put o.dst (.slice (some ⟨g, 0, none⟩) n n)) w') : wpList P ops Q (o :: rest) a w := by
  refine wpList_step fun K hK => ?_
  rw [if_pos hgd]
  unfold Oper.wp execOp
  simp only [ho, Sem.run_bind, hp, hrun w, Result.andThen_ok, Sem.run_pure]
  exact hK _ _ (h _ _ (kp rfl) (kp (Ext.alloc _ _)) (kp (H.out.new e cs)))
theorem L_mk (H : Kp (Loc w0 w bs)) (hgd : Region.wanted o (yielded ops a.tmps) = true) (t : TypeId) (x y : Operand) (ho : o.op = .makeSlice t x y) (u v : Value) (hx : a.eval x = u) (hy : a.eval y = v) (n c : Nat) (e : TypeId) (cs : List Value)
    (hrun : ∀ w, (Instr.makeSlice t u v).run P w = .ok (.slice (some ⟨w.heap.size, 0, none⟩) n c) (w.alloc (.cells cs.toArray e)))
    (h : ∀ g w', Kp (g = w.heap.size) → Kp (Ext w w') → Kp (Loc w0 w' ((g, e, cs) :: bs)) → wpList P ops Q rest (a.put o.dst (.slice (some ⟨g, 0, none⟩) n c)) w') : wpList P ops Q (o :: rest) a w := by
  refine wpList_step fun K hK => ?_
  rw [if_pos hgd]
  unfold Oper.wp execOp
  simp only [ho, hx, hy, Sem.run_bind, hrun w, Result.andThen_ok, Sem.run_pure]
  exact hK _ _ (h _ _ (kp rfl) (kp (Ext.alloc _ _)) (kp (H.out.new e cs)))
end
end Go.Proofs.Ytfecopfofkdnpaa
