/- Slices of bytes: what a slice value reads as. -/
import Derived.Test.YtfecopfofkdnpaaLaws
import Derived.Laws.AppendOwn
import Derived.Laws.AppendOwnNone
import Derived.OwnWalk
import Derived.Lib.ConvBytes
import Derived.ProofKit
namespace Go.Proofs.Ytfecopfofkdnpaa
open Go.RowKit

/-- The slice value v reads as the bytes l in w. -/
def SlB (w : World) (v : Value) (l : List (BitVec 8)) : Prop :=
  (l = [] ∧ (v = .slice none 0 0 ∨ ∃ a cap, v = .slice (some a) 0 cap)) ∨ ∃ b off cap, v = .slice (some ⟨b, off, none⟩) l.length cap ∧ b < w.heap.size ∧ ∀ (j : Nat) x, l[j]? = some x → w.cell? ⟨b, off + j, none⟩ = some (V8 x)

theorem Ext.cell {w w' : World} (h : Ext w w') {b i : Nat} (hb : b < w.heap.size) : w'.cell? ⟨b, i, none⟩ = w.cell? ⟨b, i, none⟩ := by
  obtain ⟨x, rfl⟩ := h; exact more_cell w x b i hb
theorem Ext.size {w w' : World} (h : Ext w w') : w.heap.size ≤ w'.heap.size := by
  obtain ⟨x, rfl⟩ := h; rw [more_size]; omega
theorem SlB.ext {w w' : World} {v : Value} {l : List (BitVec 8)} (h : SlB w v l) (hx : Ext w w') : SlB w' v l := by
  rcases h with h | ⟨b, off, cap, hv, hb, hc⟩
  · exact .inl h
  · exact .inr ⟨b, off, cap, hv, Nat.lt_of_lt_of_le hb hx.size, fun j x hj => by rw [hx.cell hb]; exact hc j x hj⟩
theorem SlB.nil (w : World) : SlB w (.slice none 0 0) [] := .inl ⟨rfl, .inl rfl⟩
/-- The value, taken apart: its length is the list's. -/
theorem SlB.form {w : World} {v : Value} {l : List (BitVec 8)} (h : SlB w v l) : ∃ a cap, v = .slice a l.length cap := by
  rcases h with ⟨rfl, rfl | ⟨a, cap, rfl⟩⟩ | ⟨b, off, cap, rfl, _, _⟩
  · exact ⟨none, 0, rfl⟩
  · exact ⟨_, cap, rfl⟩
  · exact ⟨_, cap, rfl⟩

/-- What the call owns reads as its bytes. -/
theorem SlB.of_owns {w : World} {base E : Nat} {v : Value} {n : Nat} {l : List (BitVec 8)} (h : w.ownsRow base E 1 v n (l.map V8)) : SlB w v l := by
  obtain ⟨h1, h2⟩ := h
  rcases h2 with ⟨rfl, rfl⟩ | ⟨g, cap, cur, rfl, _, hg, _, _, _, ht⟩
  · have : l = [] := by simpa using h1
    exact .inl ⟨this, .inl rfl⟩
  · have hn : n = l.length := by simpa using h1.symm
    subst hn
    refine .inr ⟨g, 0, cap, rfl, by rw [Array.getElem?_eq_some_iff] at hg; exact hg.1, fun j x hj => ?_⟩
    rw [cell_of_row w g (0 + j) cur E (0, 0) hg]
    have hlt : j < l.length := by rw [List.getElem?_eq_some_iff] at hj; exact hj.1
    have h3 : (cur.toList.take (l.length * 1))[j]? = some (V8 x) := by rw [ht]; simp [hj]
    rw [List.getElem?_take, if_pos (by omega)] at h3
    simpa using h3
/-- A block of its own, known whole. -/
theorem SlB.of_block {w : World} {b E : Nat} {l : List (BitVec 8)} {fr : Nat × Nat} {cap : Nat} (h : w.heap[b]? = some (.cells (l.map V8).toArray E fr)) : SlB w (.slice (some ⟨b, 0, none⟩) l.length cap) l := by
  refine .inr ⟨b, 0, cap, rfl, by rw [Array.getElem?_eq_some_iff] at h; exact h.1, fun j x hj => ?_⟩
  rw [cell_of_row w b (0 + j) _ E fr h]
  simp [hj]

/-- The contract's post of a function that returns a slice of bytes. -/
def RetB (l : List (BitVec 8)) (w : World) (e : Ending) (w' : World) : Prop := ∃ v, e = .returned v ∧ SlB w' v l ∧ Ext w w'

/-- append onto a slice of the call's own, of whatever slice of bytes. -/
theorem wpList_append_SlB {P : Program} {w : World} {ops : Array Oper} {rest : List Oper} {o : Oper} {a : Act} {Q : Exit → Act → World → Prop} (hgd : o.guard = none) (s x : Operand) (t : TypeId)
    (ho : o.op = .call { callee := .builtin .append, args := #[s, x], argTypes := #[t, t] })
    (base : Nat) (e : TypeId) (i : TypeInfo) (ht : P.underlying t = some (.slice e)) (hi : P.info? e = some i) (hz : i.zero = some (.int .u8 0)) (hsize : i.size = 1) (hby : i.bytes = 1)
    (v : Value) (l : List (BitVec 8)) (hs : a.eval s = v) (hown : w.ownsRow base e 1 v l.length (l.map V8)) (y : Value) (m : List (BitVec 8)) (hx : a.eval x = y) (hy : SlB w y m)
    (hlen : l.length + m.length ≤ 1000000) (hbase : base ≤ w.heap.size)
    (h : ∀ v' w', w'.ownsRow base e 1 v' (l ++ m).length ((l ++ m).map V8) → w.grownBy w' v.ownBlock → wpList P ops Q rest (a.put o.dst v') w') : wpList P ops Q (o :: rest) a w := by
  rcases hy with ⟨rfl, rfl | ⟨ad, cap, rfl⟩⟩ | ⟨b, off, cap, rfl, hb, hc⟩
  · refine wpList_append_own_none hgd s x t ho base e i 1 ht hi v l.length (l.map V8) hs hown hx ?_
    exact h v w (by simpa using hown) ⟨rfl, rfl, rfl, Nat.le_refl _, fun _ _ _ => rfl⟩
  · refine wpList_append_own w hgd s x t ho base e i (.int .u8 0) 1 1 ht hi hz hsize hby rfl (by decide) v l.length (l.map V8) hs hown ad 0 cap [] hx (by simp) (fun j u hj => by simp at hj) (fun u hu => by cases hu) (by simp only [maxLen]; simp at hlen; omega) (by simp at hlen; omega) hbase ?_
    intro v' w' h1 h2 _
    exact h v' w' (by simpa using h1) h2
  · refine wpList_append_own w hgd s x t ho base e i (.int .u8 0) 1 1 ht hi hz hsize hby rfl (by decide) v l.length (l.map V8) hs hown ⟨b, off, none⟩ m.length cap (m.map V8) hx (by simp) ?_ (mem_V8 m) (by simp only [maxLen]; omega) (by omega) hbase ?_
    · intro j u hj
      rw [Addr.add_mid]
      rw [List.getElem?_map] at hj
      cases hm : m[j]? with
      | none => simp [hm] at hj
      | some z => simp [hm] at hj; subst hj; exact hc j z hm
    · intro v' w' h1 h2 _
      exact h v' w' (by simpa using h1) h2
/-- What has grown in blocks of its own is an extension of what was. -/
theorem Ext.grown {w w1 w2 : World} {row : Option Nat} (h : Ext w w1) (hg : w1.grownBy w2 row) (hr : ∀ k, row = some k → w.heap.size ≤ k) : Ext w w2 :=
  Ext.of_below (Below.grown h.below hg h.size hr)
theorem owns_block {w : World} {base E n : Nat} {v : Value} {xs : List Value} (h : w.ownsRow base E 1 v n xs) : ∀ k, v.ownBlock = some k → base ≤ k := by
  intro k hk
  obtain ⟨_, h2⟩ := h
  rcases h2 with ⟨rfl, _⟩ | ⟨g, cap, cur, rfl, hb, _⟩
  · cases hk
  · have : g = k := by simpa [Value.ownBlock] using hk
    omega
theorem owns_nil (w : World) (base E : Nat) : w.ownsRow base E 1 (.slice none 0 0) ([] : List (BitVec 8)).length (([] : List (BitVec 8)).map V8) := ⟨rfl, .inl ⟨rfl, rfl⟩⟩

/-- The bytes of a string. -/
def strB (s : ByteArray) : List (BitVec 8) := s.data.toList.map fun b => BitVec.ofNat 8 b.toNat
theorem strB_len (s : ByteArray) : (strB s).length = s.size := by simp [strB]
theorem strB_at (s : ByteArray) (j : Nat) (x : BitVec 8) (h : (strB s)[j]? = some x) : j < s.size ∧ Value.int .u8 ((s.data.toList.getD j 0).toNat : Int) = V8 x := by
  have hj : j < s.size := by
    rw [← strB_len]; rw [List.getElem?_eq_some_iff] at h; exact h.1
  refine ⟨hj, ?_⟩
  unfold strB at h
  rw [List.getElem?_map] at h
  have hj' : j < s.data.toList.length := by simpa using hj
  rw [List.getElem?_eq_getElem hj'] at h
  have hx : BitVec.ofNat 8 (s.data.toList[j]).toNat = x := by simpa using h
  subst hx
  have hg : s.data.toList.getD j 0 = s.data.toList[j] := by simp [List.getD, List.getElem?_eq_getElem hj']
  rw [hg]
  have := (s.data.toList[j]).toNat_lt
  unfold V8 wI
  rw [BitVec.toNat_ofNat, Nat.mod_eq_of_lt (by simpa using this)]
theorem ext_bytesWorld (w : World) (e : TypeId) (s : ByteArray) : Ext w (Lib.bytesWorld w e s) :=
  Ext.of_below ⟨by simp [Lib.bytesWorld, World.freeze, World.alloc, World.drew, -World.alloc_eq, -World.drew_eq], by simp [Lib.bytesWorld, World.freeze, World.alloc, World.drew, -World.alloc_eq, -World.drew_eq], by simp [Lib.bytesWorld, World.freeze, World.alloc, World.drew, -World.alloc_eq, -World.drew_eq], by rw [Lib.bytesWorld_size]; omega, fun k hk => Lib.bytesWorld_at_old w e s k hk⟩
/-- A string's bytes, as a new slice. -/
theorem wpList_strB {P : Program} {w : World} {ops : Array Oper} {rest : List Oper} {o : Oper} {a : Act} {Q : Exit → Act → World → Prop} (hgd : o.guard = none) (src dst e : TypeId) (x : Operand) (ho : o.op = .convert src dst x)
    (s : ByteArray) (hx : a.eval x = .string s) (hs : P.underlying src = some .string) (hd : P.underlying dst = some (.slice e)) (he : P.underlying e = some (.int .u8))
    (h : ∀ (b cap : Nat) (y : Xtra), Kp (SlB (more w y) (.slice (some ⟨b, 0, none⟩) s.size cap) (strB s)) → wpList P ops Q rest (a.put o.dst (.slice (some ⟨b, 0, none⟩) s.size cap)) (more w y)) : wpList P ops Q (o :: rest) a w := by
  refine wpList_plain hgd fun K hK => ?_
  have hrun := Lib.run_convert_string_bytes (P := P) w src dst e s hs hd he
  obtain ⟨y, hy⟩ := ext_bytesWorld w e s
  unfold Oper.wp
  simp only [execOp, ho, hx]
  simp only [Sem.run_bind, hrun, Result.andThen_ok, Sem.run_pure, Oper.upon_value]
  rw [hy]
  refine hK _ _ (h _ _ y (kp ?_))
  rw [← hy]
  refine .inr ⟨w.heap.size, 0, _, by rw [strB_len], by rw [Lib.bytesWorld_size]; omega, fun j z hj => ?_⟩
  obtain ⟨h1, h2⟩ := strB_at s j z hj
  rw [Nat.zero_add, Lib.bytesWorld_cell w e s j h1, h2]

/-- A slice of bytes that came in. -/
theorem open_bytes {P : Program} {H : Type} {enc : TypeId × Value → H} {w : World} {r : Reach} {b0 base : Nat} {T E : TypeId} {v : Value} {d : DataW H} {p : List MemPlace} (hT : P.underlying T = some (.slice E)) (hE : P.underlying E = some (.int .u8)) (hc : P.cellsOf E = 1)
    (hv : Value.okWide P w r b0 T v) (h : DataW.Trod enc P w base (fun _ => true) true T v d p) : ∃ l : List (BitVec 8), SlB w v l ∧ l.length ≤ 9223372036854775807 := by
  obtain ⟨a, len, cap, rfl⟩ := WideShapes.okWide_slice hT hv
  obtain ⟨fuel, hf⟩ := h
  rcases ChangeShapes.open_ints hT hE hc hf with ⟨hcs, _⟩ | ⟨x, len', cap', zs, hcs, _, hl, hm, hz, _, hcell, hwz⟩
  · simp [Value.cells] at hcs
    obtain ⟨rfl, rfl, rfl⟩ := hcs
    exact ⟨[], SlB.nil w, by simp⟩
  · simp [Value.cells] at hcs
    obtain ⟨rfl, rfl, rfl⟩ := hcs
    simp at hz
    have key : ∀ q : List Int, (∀ n ∈ q, (Lit.int .u8 n).wf = true) → ∃ l : List (BitVec 8), l.length = q.length ∧ ∀ j : Nat, j < q.length → ∃ y, l[j]? = some y ∧ q.getD j 0 = wI y := by
      intro q
      induction q with
      | nil => intro _; exact ⟨[], rfl, fun j hj => by simp at hj⟩
      | cons n q ih =>
        intro hq
        obtain ⟨l, h1, h2⟩ := ih fun n hn => hq n (by simp [hn])
        have hb := hq n (by simp)
        have hn : 0 ≤ n ∧ n < 256 := by
          simp [Lit.wf, IntKind.min, IntKind.max, IntKind.signed, IntKind.bits] at hb; omega
        obtain ⟨z, rfl⟩ := Int.eq_ofNat_of_zero_le hn.1
        have hz256 : z < 256 := by omega
        refine ⟨BitVec.ofNat 8 z :: l, by simp [h1], fun j hj => ?_⟩
        cases j with
        | zero => exact ⟨_, rfl, by unfold wI; rw [BitVec.toNat_ofNat, Nat.mod_eq_of_lt (by omega)]; rfl⟩
        | succ j =>
          obtain ⟨y, hy1, hy2⟩ := h2 j (by simpa using hj)
          exact ⟨y, by simpa using hy1, by simpa using hy2⟩
    obtain ⟨l, hl1, hl2⟩ := key zs hwz
    have hlen : len ≤ zs.length := by omega
    refine ⟨l.take len, ?_, by simp only [maxLen] at hm; simp; omega⟩
    have htl : (l.take len).length = len := by simp; omega
    by_cases h0 : len = 0
    · subst h0
      exact .inl ⟨by simp, .inr ⟨x, cap, rfl⟩⟩
    · have hx0 := hcell 0 (by omega)
      have hadd0 : x.add 0 = x := by simp [Addr.add]
      rw [hadd0] at hx0
      obtain ⟨xb, xo, xs⟩ := x
      have hspot : xs = none := by
        cases xs with
        | none => rfl
        | some q =>
          simp only [World.cell?] at hx0
          split at hx0 <;> simp at hx0
      subst hspot
      refine .inr ⟨xb, xo, cap, by rw [htl], block_lt_of_cell hx0, fun j y hj => ?_⟩
      have hjl : j < len := by rw [List.getElem?_eq_some_iff] at hj; have := hj.1; omega
      obtain ⟨y', hy1, hy2⟩ := hl2 j (by omega)
      rw [List.getElem?_take, if_pos hjl, hy1] at hj
      cases hj
      have := hcell j (by omega)
      rw [Addr.add_mid, hy2] at this
      exact this
end Go.Proofs.Ytfecopfofkdnpaa
