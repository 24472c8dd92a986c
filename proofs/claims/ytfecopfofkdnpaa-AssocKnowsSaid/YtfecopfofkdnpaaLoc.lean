/- Local blocks known by one fact about a world that is a variable: Loc w0 w bs. Each law of an operation that makes or writes a block hands on a new world variable. -/
import Derived.Test.YtfecopfofkdnpaaLc
import Derived.Test.YtfecopfofkdnpaaLate
namespace Go.Proofs.Ytfecopfofkdnpaa
open Go.RowKit
/-- A block: its number, its type, its cells. -/
abbrev Bk := Nat × TypeId × List Value
/-- w is w0 with further blocks, of which these are known. -/
def Loc (w0 w : World) (bs : List Bk) : Prop := Ext w0 w ∧ (bs.map (·.1)).Nodup ∧ ∀ b ∈ bs, w0.heap.size ≤ b.1 ∧ Lc w b.1 b.2.1 b.2.2
theorem Loc.start (w : World) : Loc w w [] := ⟨Ext.refl w, List.nodup_nil, fun b hb => by cases hb⟩
theorem Loc.ext {w0 w w' : World} {bs : List Bk} (h : Loc w0 w bs) (hx : Ext w w') : Loc w0 w' bs := ⟨h.1.trans hx, h.2.1, fun b hb => ⟨(h.2.2 b hb).1, (h.2.2 b hb).2.ext hx⟩⟩
theorem Loc.at {w0 w : World} {bs : List Bk} (h : Loc w0 w bs) (i : Nat) {b : Bk} (hi : bs[i]? = some b) : Lc w b.1 b.2.1 b.2.2 := (h.2.2 b (List.mem_of_getElem? hi)).2
theorem Loc.le {w0 w : World} {bs : List Bk} (h : Loc w0 w bs) (i : Nat) {b : Bk} (hi : bs[i]? = some b) : w0.heap.size ≤ b.1 := (h.2.2 b (List.mem_of_getElem? hi)).1
theorem Loc.lt {w0 w : World} {bs : List Bk} (h : Loc w0 w bs) (i : Nat) {b : Bk} (hi : bs[i]? = some b) : b.1 < w.heap.size := (h.at i hi).lt
theorem Loc.new {w0 w : World} {bs : List Bk} (h : Loc w0 w bs) (T : TypeId) (cs : List Value) : Loc w0 (w.alloc (.cells cs.toArray T)) ((w.heap.size, T, cs) :: bs) := by
  refine ⟨h.1.trans (Ext.alloc _ _), ?_, ?_⟩
  · rw [List.map_cons, List.nodup_cons]
    refine ⟨fun hm => ?_, h.2.1⟩
    obtain ⟨b, hb, he⟩ := List.mem_map.1 hm
    have := (h.2.2 b hb).2.lt
    rw [he] at this; omega
  · intro b hb
    rcases List.mem_cons.1 hb with rfl | hb
    · exact ⟨h.1.below.size, Lc.new w T cs⟩
    · exact ⟨(h.2.2 b hb).1, (h.2.2 b hb).2.ext (Ext.alloc _ _)⟩
theorem nodup_get : ∀ {l : List Nat} (_ : l.Nodup) {i j : Nat} {x : Nat}, l[i]? = some x → l[j]? = some x → i = j
  | [], _, _, _, _, h, _ => by simp at h
  | y :: l, hn, 0, 0, _, _, _ => rfl
  | y :: l, hn, 0, j + 1, x, h, h2 => by
    have : y = x := by simpa using h
    subst this
    exact absurd (List.mem_of_getElem? (by simpa using h2)) (List.nodup_cons.1 hn).1
  | y :: l, hn, i + 1, 0, x, h, h2 => by
    have : y = x := by simpa using h2
    subst this
    exact absurd (List.mem_of_getElem? (by simpa using h)) (List.nodup_cons.1 hn).1
  | y :: l, hn, i + 1, j + 1, x, h, h2 => by exact congrArg (· + 1) (nodup_get (List.nodup_cons.1 hn).2 (i := i) (j := j) (x := x) (by simpa using h) (by simpa using h2))
theorem Loc.set {w0 w : World} {bs : List Bk} (h : Loc w0 w bs) (i : Nat) {g T : Nat} {cs : List Value} (hi : bs[i]? = some (g, T, cs)) (ds : List Value) : Loc w0 (w.setRow g ds.toArray) (bs.set i (g, T, ds)) := by
  have hmap : (bs.set i (g, T, ds)).map (·.1) = bs.map (·.1) := by
    refine List.ext_getElem? fun j => ?_
    rw [List.getElem?_map, List.getElem?_map, List.getElem?_set]
    split
    · rename_i e; subst e
      have hl := (List.getElem?_eq_some_iff.1 hi).1
      rw [if_pos hl, hi]; rfl
    · rfl
  have hle : w0.heap.size ≤ g := h.le i hi
  refine ⟨ext_setRow h.1 hle, by rw [hmap]; exact h.2.1, fun b hb => ?_⟩
  obtain ⟨j, hj⟩ := List.getElem?_of_mem hb
  rw [List.getElem?_set] at hj
  split at hj
  · split at hj
    · cases hj; exact ⟨hle, (h.at i hi : Lc w g T cs).set ds⟩
    · cases hj
  · rename_i hne
    have hbm := List.mem_of_getElem? hj
    refine ⟨(h.2.2 b hbm).1, (h.2.2 b hbm).2.other ?_ _⟩
    intro e
    have h1 : (bs.map (·.1))[i]? = some g := by rw [List.getElem?_map, hi]; rfl
    have h2 : (bs.map (·.1))[j]? = some g := by rw [List.getElem?_map, hj]; simp [e]
    exact hne (nodup_get h.2.1 h1 h2)
/-- Only the block g was written. -/
def Wrote (w w' : World) (g : Nat) : Prop := ∃ ds, w' = w.setRow g ds
theorem run_box_agg {P : Program} (T : TypeId) (cs : Array Value) (w : World) : (Instr.box T (.agg cs)).run P w = .ok (.pointer (some ⟨w.heap.size, 0, none⟩)) (w.alloc (.cells cs T)) := by
  simp [Instr.box, newVar, newRow, go_sem]
section
variable {P : Program} {ops : Array Oper} {rest : List Oper} {o : Oper} {a : Act} {w0 w : World} {Q : Exit → Act → World → Prop} {bs : List Bk}
theorem L_alloc (H : Kp (Loc w0 w bs)) (hg : o.guard = none) (t : TypeId) (_ : o.op = .alloc t) (cs : List Value)
    (hrun : ∀ (e : Operand → Value) (w : World), (execOp e o).run P w = .ok (.value (.pointer (some ⟨w.heap.size, 0, none⟩))) (w.alloc (.cells cs.toArray t)))
    (h : ∀ g w', Kp (g = w.heap.size) → Kp (Ext w w') → Kp (Loc w0 w' ((g, t, cs) :: bs)) → wpList P ops Q rest (a.put o.dst (.pointer (some ⟨g, 0, none⟩))) w') : wpList P ops Q (o :: rest) a w := by
  refine wpList_plain hg fun K hK => ?_
  unfold Oper.wp
  rw [hrun]
  exact hK _ _ (h _ _ (kp rfl) (kp (Ext.alloc _ _)) (kp (H.out.new t cs)))
theorem L_box (H : Kp (Loc w0 w bs)) (hg : o.guard = none) (t : TypeId) (x : Operand) (ho : o.op = .box t x) (cs : List Value) (hx : a.eval x = .agg cs.toArray)
    (h : ∀ g w', Kp (g = w.heap.size) → Kp (Ext w w') → Kp (Loc w0 w' ((g, t, cs) :: bs)) → wpList P ops Q rest (a.put o.dst (.pointer (some ⟨g, 0, none⟩))) w') : wpList P ops Q (o :: rest) a w := by
  refine wpList_plain hg fun K hK => ?_
  unfold Oper.wp execOp
  simp only [ho, hx, Sem.run_bind, Sem.run_pure, Result.andThen_ok, run_box_agg]
  exact hK _ _ (h _ _ (kp rfl) (kp (Ext.alloc _ _)) (kp (H.out.new t cs)))
theorem L_load (H : Kp (Loc w0 w bs)) (hgd : o.guard = none) (ty : TypeId) (x : Operand) (ho : o.op = .load ty x) (i : Nat) {g T : Nat} {cs : List Value} (hi : bs[i]? = some (g, T, cs))
    (hx : a.eval x = .pointer (some ⟨g, 0, none⟩)) {d : TypeDesc} (hu : P.underlying ty = some d) (hd : (match d with | .struct _ | .array _ _ => true | _ => false) = true) (hz : (P.info? ty).map (·.size) = some cs.toArray.size)
    (h : wpList P ops Q rest (a.put o.dst (.agg cs.toArray)) w) : wpList P ops Q (o :: rest) a w :=
  wpList_load_row hgd ty x ho g hx T cs.toArray (0, 0) d (H.out.at i hi) hu hd hz h
theorem L_loadG (H : Kp (Loc w0 w bs)) (hgd : Region.wanted o (yielded ops a.tmps) = true) (ty : TypeId) (x : Operand) (ho : o.op = .load ty x) (i : Nat) {g T : Nat} {cs : List Value} (hi : bs[i]? = some (g, T, cs))
    (hx : a.eval x = .pointer (some ⟨g, 0, none⟩)) {d : TypeDesc} (hu : P.underlying ty = some d) (hd : (match d with | .struct _ | .array _ _ => true | _ => false) = true) (hz : (P.info? ty).map (·.size) = some cs.toArray.size)
    (h : wpList P ops Q rest (a.put o.dst (.agg cs.toArray)) w) : wpList P ops Q (o :: rest) a w :=
  wpList_load_rowG hgd ty x ho g hx T cs.toArray (0, 0) d (H.out.at i hi) hu hd hz h
/-- A struct or array out of the midst of a known block. -/
theorem L_sub (H : Kp (Loc w0 w bs)) (hgd : o.guard = none) (ty : TypeId) (x : Operand) (ho : o.op = .load ty x) (i : Nat) {g T : Nat} {cs : List Value} (hi : bs[i]? = some (g, T, cs)) (off : Nat)
    (hx : a.eval x = .pointer (some ⟨g, off, none⟩)) (ds : List Value) (hds : (cs.drop off).take ds.length = ds) {d : TypeDesc} (hu : P.underlying ty = some d) (hd : d.isRow = true) (hz : (P.info? ty).map (·.size) = some ds.length)
    (h : wpList P ops Q rest (a.put o.dst (.agg ds.toArray)) w) : wpList P ops Q (o :: rest) a w :=
  wpList_load_mid hgd ty x ho g off hx ds d ((H.out.at i hi).range hds) hu hd hz h
theorem L_store (H : Kp (Loc w0 w bs)) (hgd : o.guard = none) (hdst : o.dst = none) (ty : TypeId) (x y : Operand) (ho : o.op = .store ty x y) (i : Nat) {g T : Nat} {old : List Value} (hi : bs[i]? = some (g, T, old))
    (hx : a.eval x = .pointer (some ⟨g, 0, none⟩)) (cs : List Value) (hy : a.eval y = .agg cs.toArray) (hz : (P.info? ty).map (·.size) = some cs.toArray.size) (hold : old.length = cs.length) (h1 : cs.toArray.all (·.oneCell') = true)
    (h : ∀ w', Kp (Wrote w w' g) → Kp (Loc w0 w' (bs.set i (g, T, cs))) → wpList P ops Q rest a w') : wpList P ops Q (o :: rest) a w :=
  wpList_st_row hgd hdst ty x y ho g cs.toArray hx hy T old.toArray (H.out.at i hi) hz (by simpa using hold) h1 rfl (h _ (kp ⟨_, rfl⟩) (kp (H.out.set i hi cs)))
theorem L_seg (H : Kp (Loc w0 w bs)) (hgd : o.guard = none) (hdst : o.dst = none) (ty : TypeId) (x y : Operand) (ho : o.op = .store ty x y) (i : Nat) {g T : Nat} {old : List Value} (hi : bs[i]? = some (g, T, old)) (off : Nat)
    (hx : a.eval x = .pointer (some ⟨g, off, none⟩)) (cs : List Value) (hy : a.eval y = .agg cs.toArray) (hz : (P.info? ty).map (·.size) = some cs.toArray.size) (hfit : off + cs.toArray.size ≤ old.toArray.size) (h1 : cs.toArray.all (·.oneCell') = true)
    (new : List Value) (hn : (old.take off ++ cs ++ old.drop (off + cs.length)).toArray = new.toArray)
    (h : ∀ w', Kp (Wrote w w' g) → Kp (Loc w0 w' (bs.set i (g, T, new))) → wpList P ops Q rest a w') : wpList P ops Q (o :: rest) a w :=
  wpList_st_seg hgd hdst ty x y ho g off cs.toArray hx hy T old.toArray (H.out.at i hi) hz hfit h1 new.toArray hn rfl (h _ (kp ⟨_, rfl⟩) (kp (H.out.set i hi new)))
theorem L_cell (H : Kp (Loc w0 w bs)) (hgd : o.guard = none) (hdst : o.dst = none) (ty : TypeId) (x y : Operand) (ho : o.op = .store ty x y) (i : Nat) {g T : Nat} {old : List Value} (hi : bs[i]? = some (g, T, old)) (off : Nat)
    (hx : a.eval x = .pointer (some ⟨g, off, none⟩)) (v : Value) (hy : a.eval y = v) (h1 : v.oneCell' = true) (hz : (P.info? ty).map (·.size) = some 1) (hfit : off < old.length)
    (new : List Value) (hn : old.set off v = new)
    (h : ∀ w', Kp (Wrote w w' g) → Kp (Loc w0 w' (bs.set i (g, T, new))) → wpList P ops Q rest a w') : wpList P ops Q (o :: rest) a w :=
  wpList_st_cell hgd hdst ty x y ho g off v hx hy h1 hz T old new (H.out.at i hi) hfit hn (h _ (kp ⟨_, rfl⟩) (kp (H.out.set i hi new)))
end
theorem run_load_cell {w0 w : World} {bs : List Bk} (H : Loc w0 w bs) (i : Nat) {g T : Nat} {cs : List Value} (hi : bs[i]? = some (g, T, cs)) (off : Nat) (v : Value) (hv : cs[off]? = some v) : w.cell? ⟨g, off, none⟩ = some v := (H.at i hi).cell hv
theorem owns_wrote {w w' : World} {base E sz n g : Nat} {v : Value} {xs : List Value} (h : w.ownsRow base E sz v n xs) (hw : Wrote w w' g) (hb : g < base) : w'.ownsRow base E sz v n xs := by
  obtain ⟨ds, rfl⟩ := hw
  obtain ⟨h1, h2 | ⟨b, cap, cur, h3, hg, hh, h4⟩⟩ := h
  · exact ⟨h1, .inl h2⟩
  · exact ⟨h1, .inr ⟨b, cap, cur, h3, hg, (setRow_other w g b ds (by omega)).trans hh, h4⟩⟩
end Go.Proofs.Ytfecopfofkdnpaa
