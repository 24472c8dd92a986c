/- Small laws that many texts share. -/
import Derived.Test.YtfecopfofkdnpaaProg
import Derived.Test.YtfecopfofkdnpaaSlices
import Derived.Test.YtfecopfofkdnpaaSpine0
import Derived.Test.YtfecopfofkdnpaaEq
namespace Go.Proofs.Ytfecopfofkdnpaa
open Go.RowKit
section
variable {P : Program}
theorem ret_bool {a b : Bool} (h : a = b) : Ending.returned (.bool a) = .returned (.bool b) := by rw [h]
theorem take_step {α : Type} {l m : List α} {k : Nat} {x : α} (h : l.take k = m.take k) (hl : l[k]? = some x) (hm : m[k]? = some x) : l.take (k + 1) = m.take (k + 1) := by
  rw [List.take_add_one, List.take_add_one, h, hl, hm]
theorem wI_ofInt8 (n : Int) : wI (BitVec.ofInt 8 n) = n % 256 := by
  unfold wI; rw [BitVec.toNat_ofInt]; omega
/-- The parts of a join: slice values, each reading as its bytes. -/
def Parts (w : World) (vs : List Value) (ls : List (List (BitVec 8))) : Prop := vs.length = ls.length ∧ ∀ (j : Nat) v l, vs[j]? = some v → ls[j]? = some l → SlB w v l
theorem Parts.ext {w w' : World} {vs : List Value} {ls : List (List (BitVec 8))} (h : Parts w vs ls) (hx : Ext w w') : Parts w' vs ls :=
  ⟨h.1, fun j v l h1 h2 => (h.2 j v l h1 h2).ext hx⟩
theorem parts5 {w : World} {v0 v1 v2 v3 v4 : Value} {l0 l1 l2 l3 l4 : List (BitVec 8)} (h0 : SlB w v0 l0) (h1 : SlB w v1 l1) (h2 : SlB w v2 l2) (h3 : SlB w v3 l3) (h4 : SlB w v4 l4) : Parts w [v0, v1, v2, v3, v4] [l0, l1, l2, l3, l4] := by
  refine ⟨rfl, fun j v l hv hl => ?_⟩
  match j with
  | 0 => cases hv; cases hl; exact h0
  | 1 => cases hv; cases hl; exact h1
  | 2 => cases hv; cases hl; exact h2
  | 3 => cases hv; cases hl; exact h3
  | 4 => cases hv; cases hl; exact h4
  | n + 5 => simp at hv
theorem flat_take_le (ls : List (List (BitVec 8))) (k : Nat) : (ls.take k).flatten.length ≤ ls.flatten.length := by
  conv => rhs; rw [← List.take_append_drop k ls, List.flatten_append, List.length_append]
  omega
theorem info_u8 : (Try.prog.info? 5).map (fun i => (i.zero, i.size, i.bytes)) = some (some (.int .u8 0), 1, 1) := by kernel_rfl
theorem SlB.at {w : World} {ad : Option Addr} {n cap : Nat} {l : List (BitVec 8)} (h : SlB w (.slice ad n cap) l) (j : Nat) (x : BitVec 8) (hj : l[j]? = some x) : ∃ b off, ad = some ⟨b, off, none⟩ ∧ b < w.heap.size ∧ w.cell? ⟨b, off + j, none⟩ = some (V8 x) := by
  rcases h with ⟨rfl, _⟩ | ⟨b, off, cap', hv, hb, hc⟩
  · simp at hj
  · cases hv
    exact ⟨b, off, rfl, hb, hc j x hj⟩
/-- A table of predicates, by slot. -/
def tabS : List (Tmp × (Value → World → Prop)) → Tmp → Value → World → Prop
  | [], _, _, _ => True
  | p :: l, d, v, w => if d = p.1 then p.2 v w else tabS l d v w
def Mono (φ : Value → World → Prop) : Prop := ∀ v w w', φ v w → Ext w w' → φ v w'
theorem tabS_mono : ∀ (l : List (Tmp × (Value → World → Prop))), (∀ p ∈ l, Mono p.2) → ∀ d v w w', tabS l d v w → Ext w w' → tabS l d v w'
  | [], _, _, _, _, _, _, _ => trivial
  | p :: l, h, d, v, w, w', h1, hx => by
    unfold tabS at h1 ⊢
    split
    · rename_i hd; rw [if_pos hd] at h1; exact h p (by simp) v w w' h1 hx
    · rename_i hd; rw [if_neg hd] at h1; exact tabS_mono l (fun q hq => h q (by simp [hq])) d v w w' h1 hx
theorem mono_eq (u : Value) : Mono (fun v _ => v = u) := fun _ _ _ h _ => h
theorem mono_SlB (l : List (BitVec 8)) : Mono (fun v w => SlB w v l) := fun _ _ _ h hx => h.ext hx
theorem owns_ext {w w' : World} {base E n : Nat} {v : Value} {xs : List Value} (h : w.ownsRow base E 1 v n xs) (hx : Ext w w') : w'.ownsRow base E 1 v n xs := by
  obtain ⟨h1, h2⟩ := h
  rcases h2 with ⟨rfl, rfl⟩ | ⟨g, cap, cur, rfl, hb, hg, a, b, c, ht⟩
  · exact ⟨h1, .inl ⟨rfl, rfl⟩⟩
  · exact ⟨h1, .inr ⟨g, cap, cur, rfl, hb, ext_heap hx hg, a, b, c, ht⟩⟩
theorem owns_cap {w : World} {base E n m cap : Nat} {ad : Option Addr} {xs : List Value} (h : w.ownsRow base E 1 (.slice ad m cap) n xs) : m ≤ cap := by
  obtain ⟨h1, h2⟩ := h
  rcases h2 with ⟨h3, _⟩ | ⟨g, cap', cur, h3, hb, hg, a, b, c, ht⟩
  · cases h3; exact Nat.le_refl _
  · cases h3; omega
theorem SlB.take {w : World} {ad : Option Addr} {m cap n cap' : Nat} {l : List (BitVec 8)} (h : SlB w (.slice ad m cap) l) (hn : n ≤ l.length) (hc : ad = none → cap' = 0) : SlB w (.slice ad n cap') (l.take n) := by
  have hl : (l.take n).length = n := by rw [List.length_take]; omega
  rcases h with ⟨rfl, h⟩ | ⟨b, off, cp, hv, hb, hc2⟩
  · have : n = 0 := by simpa using hn
    subst this
    refine .inl ⟨by simp, ?_⟩
    rcases h with h | ⟨a, c, h⟩
    · cases h; left; rw [hc rfl]
    · cases h; exact .inr ⟨_, _, rfl⟩
  · cases hv
    refine .inr ⟨b, off, cap', by rw [hl], hb, fun j x hj => hc2 j x ?_⟩
    rw [List.getElem?_take] at hj
    split at hj
    · exact hj
    · cases hj
theorem info_iu : ∃ iu, Try.prog.info? 5 = some iu ∧ iu.zero = some (.int .u8 0) ∧ iu.size = 1 ∧ iu.bytes = 1 := by
  have h := info_u8
  cases hq : Try.prog.info? 5 with
  | none => simp [hq] at h
  | some iu => simp [hq] at h; exact ⟨iu, rfl, h⟩
/-- The post of a function that returns a new slice of bytes, its own. -/
def RetO (l : List (BitVec 8)) (w : World) (e : Ending) (w' : World) : Prop := ∃ v, e = .returned v ∧ w'.ownsRow w.heap.size 5 1 v l.length (l.map V8) ∧ Ext w w'
theorem V8_ofInt (n : Int) : V8 (BitVec.ofInt 8 n) = .int .u8 (n % 256) := by unfold V8; rw [wI_ofInt8]
/-- A block with the bytes from o on put into it, behind k of them. -/
def xorTo (x p : List (BitVec 8)) (o : Nat) : Nat → List (BitVec 8)
  | 0 => x
  | k + 1 => (xorTo x p o k).set k ((xorTo x p o k).getD k 0 ^^^ p.getD (o + k) 0)
theorem xorTo_len (x p : List (BitVec 8)) (o : Nat) : ∀ k, (xorTo x p o k).length = x.length
  | 0 => rfl
  | k + 1 => by rw [xorTo, List.length_set]; exact xorTo_len x p o k
/-- The bytes, filled up to a multiple of 16. -/
def padF (bs : List (BitVec 8)) : List (BitVec 8) := bs ++ List.replicate ((16 - bs.length % 16) % 16) 0
theorem padF_len (bs : List (BitVec 8)) : (padF bs).length = 16 * ((bs.length + 15) / 16) := by
  unfold padF; rw [List.length_append, List.length_replicate]; omega
theorem padF_at (bs : List (BitVec 8)) (i : Nat) : (padF bs).getD i 0 = bs.getD i 0 := by
  unfold padF
  simp only [List.getD]
  by_cases h : i < bs.length
  · rw [List.getElem?_append_left h]
  · rw [List.getElem?_append_right (by omega), List.getElem?_replicate, List.getElem?_eq_none (l := bs) (by omega)]
    split <;> rfl
theorem xorTo_pad (x bs : List (BitVec 8)) (o : Nat) : ∀ k, xorTo x (padF bs) o k = xorTo x bs o k
  | 0 => rfl
  | k + 1 => by rw [xorTo, xorTo, xorTo_pad x bs o k, padF_at]
theorem set_getD (l : List (BitVec 8)) (i : Nat) : l.set i (l.getD i 0) = l := by
  refine List.ext_getElem? fun j => ?_
  rw [List.getElem?_set]
  split
  · rename_i h; subst h
    split
    · rename_i h; simp [List.getD, List.getElem?_eq_getElem h]
    · rename_i h; rw [List.getElem?_eq_none (by omega)]
  · rfl
theorem xor_z (x : BitVec 8) : x ^^^ 0 = x := by simp
/-- Behind the last byte nothing is put in. -/
theorem xorTo_end (x bs : List (BitVec 8)) (o r : Nat) (h : bs.length ≤ o + r) : ∀ k, r ≤ k → xorTo x bs o k = xorTo x bs o r
  | 0, hk => by
    obtain rfl : r = 0 := by omega
    rfl
  | k + 1, hk => by
    by_cases hr : r = k + 1
    · subst hr; rfl
    · have hz : bs.getD (o + k) 0 = 0 := by
        simp only [List.getD]; rw [List.getElem?_eq_none (by omega)]; rfl
      rw [xorTo, hz, xor_z, set_getD]
      exact xorTo_end x bs o r h k (by omega)
def sliceLen : Value → Nat
  | .slice _ n _ => n
  | _ => 0
theorem owns_empty (w : World) (base : Nat) (hb : base ≤ w.heap.size) : (w.alloc (.cells #[] 5)).ownsRow base 5 1 (.slice (some ⟨w.heap.size, 0, none⟩) 0 0) ([] : List (BitVec 8)).length (([] : List (BitVec 8)).map V8) :=
  ⟨rfl, .inr ⟨w.heap.size, 0, #[], rfl, hb, hp_new _ _, Nat.le_refl _, Nat.zero_le _, rfl, rfl⟩⟩
theorem tail_cell {W W' : World} {x y : Xtra} {d g i : Nat} {c : Value} (hs : W'.heap.size = W.heap.size) (hg : W.heap.size ≤ g) (h : (more W x).cell? ⟨g, i, none⟩ = some c) : (more W' ⟨x.blocks ++ y.blocks, d⟩).cell? ⟨g, i, none⟩ = some c := by
  have e : ∀ (V : World) (z : Xtra), V.heap.size ≤ g → (more V z).heap[g]? = z.blocks[g - V.heap.size]? := fun V z hv => by
    simp only [more]; rw [Array.getElem?_append_right hv]
  have hlt : g - W.heap.size < x.blocks.size := by
    have h2 : g < (more W x).heap.size := block_lt_of_cell h
    rw [more_size] at h2; omega
  have hh : (more W' ⟨x.blocks ++ y.blocks, d⟩).heap[g]? = (more W x).heap[g]? := by
    rw [e W' _ (by omega), e W _ hg, hs, Array.getElem?_append_left hlt]
  simp only [World.cell?] at h ⊢
  rw [hh]; exact h
theorem div_step (n k : Nat) : (n : Int) / 2 ^ (8 * k) / 256 = (n : Int) / 2 ^ (8 * (k + 1)) := by
  rw [show 8 * (k + 1) = 8 * k + 8 by omega, Int.pow_add, Int.ediv_ediv_of_nonneg (by exact Int.le_of_lt (Int.pow_pos (by decide)))]
  rfl
theorem owns_base {w : World} {base base' E n : Nat} {v : Value} {xs : List Value} (h : w.ownsRow base E 1 v n xs) (hb : base' ≤ base) : w.ownsRow base' E 1 v n xs := by
  obtain ⟨h1, h2⟩ := h
  rcases h2 with h2 | ⟨g, cap, cur, h3, hg, h4⟩
  · exact ⟨h1, .inl h2⟩
  · exact ⟨h1, .inr ⟨g, cap, cur, h3, Nat.le_trans hb hg, h4⟩⟩
theorem SlB.nil_cap {w : World} {n cap : Nat} {l : List (BitVec 8)} (h : SlB w (.slice none n cap) l) : cap = 0 := by
  rcases h with ⟨_, h | ⟨a, c, h⟩⟩ | ⟨b, off, c, h, _⟩
  · cases h; rfl
  · cases h
  · cases h
theorem take_snoc (l : List (BitVec 8)) (k : Nat) (y : BitVec 8) (h : l[k]? = some y) : l.take (k + 1) = l.take k ++ [y] := by
  rw [List.take_add_one, h]; rfl
theorem results_cell_tmp_row {fn : Func} {p q : Tmp} {ty : TypeId} (h : fn.results = #[.cell p ty, .tmp q]) (tmps : Array Value) (w : World) (g : Nat) (t : TypeId) (cs : Array Value) (fr : Nat × Nat) (d : TypeDesc)
    (hp : tmps.getD p undef = .pointer (some ⟨g, 0, none⟩)) (v : Value) (hv : tmps.getD q undef = v) (hg : w.heap[g]? = some (.cells cs t fr))
    (hu : P.underlying ty = some d) (hd : (match d with | .struct _ | .array _ _ => true | _ => false) = true) (hi : (P.info? ty).map (·.size) = some cs.size) :
    (results fn tmps).run P w = .ok (.tuple #[.agg cs, v]) w := by
  have hp' : tmps[p]?.getD undef = .pointer (some ⟨g, 0, none⟩) := by simpa using hp
  have hv' : tmps[q]?.getD undef = v := by simpa using hv
  simp [results, h, hp', hv', asAddr, run_loadVar_row w g t ty cs fr d hg hu hd hi]
theorem ret_row2 {fn : Func} {R : Ending → World → Prop} {a : Act} {w : World} {p q : Tmp} {ty : TypeId} (h : fn.results = #[.cell p ty, .tmp q]) (g : Nat) (t : TypeId) (cs : Array Value) (fr : Nat × Nat) (d : TypeDesc)
    (hp : a.tmps.getD p undef = .pointer (some ⟨g, 0, none⟩)) (v : Value) (hv : a.tmps.getD q undef = v) (hg : w.heap[g]? = some (.cells cs t fr))
    (hu : P.underlying ty = some d) (hd : (match d with | .struct _ | .array _ _ => true | _ => false) = true) (hi : (P.info? ty).map (·.size) = some cs.size)
    (hdf : a.defers = []) (hR : R (.returned (.tuple #[.agg cs, v])) w) : bodyPost P fn R .ret a w :=
  bodyPost_ret (results_cell_tmp_row h a.tmps w g t cs fr d hp v hv hg hu hd hi) hdf hR
theorem wpList_load_rowG {P : Program} {ops : Array Oper} {rest : List Oper} {o : Oper} {a : Act} {w : World} {Q : Exit → Act → World → Prop} (hgd : Region.wanted o (yielded ops a.tmps) = true) (ty : TypeId) (x : Operand) (ho : o.op = .load ty x)
    (g : Nat) (hx : a.eval x = .pointer (some ⟨g, 0, none⟩)) (t : TypeId) (cs : Array Value) (fr : Nat × Nat) (d : TypeDesc) (hg : w.heap[g]? = some (.cells cs t fr))
    (hu : P.underlying ty = some d) (hd : (match d with | .struct _ | .array _ _ => true | _ => false) = true) (hi : (P.info? ty).map (·.size) = some cs.size)
    (h : wpList P ops Q rest (a.put o.dst (.agg cs)) w) : wpList P ops Q (o :: rest) a w :=
  wpList_step fun _ hK => by rw [if_pos hgd]; exact wp_load_row ty x ho g hx t cs fr d hg hu hd hi (hK _ _ h)
/-- copy of a slice of bytes into a row that is known whole. -/
theorem wpList_cpS {ops : Array Oper} {rest : List Oper} {o : Oper} {a : Act} {w w' : World} {Q : Exit → Act → World → Prop} (hgd : o.guard = none) (d s : Operand) (dT sT : TypeId)
    (ho : o.op = .call { callee := .builtin .copy, args := #[d, s], argTypes := #[dT, sT] }) (elem : TypeId) (hu : P.underlying dT = some (.slice elem)) (hsz : (P.info? elem).map (·.size) = some 1)
    (g off dLen dCap : Nat) (hd : a.eval d = .slice (some ⟨g, off, none⟩) dLen dCap) (y : Value) (hs : a.eval s = y) (m : List (BitVec 8)) (hy : SlB w y m)
    (cur : List Value) (t : TypeId) (hg : w.heap[g]? = some (.cells cur.toArray t (0, 0)))
    (n : Nat) (hn : n = Nat.min m.length dLen) (hfit : off + n ≤ cur.length)
    (new : List Value) (hnew : cur.take off ++ ((m.map V8).take n ++ cur.drop (off + n)) = new) (hw : w.setRow g new.toArray = w')
    (h : wpList P ops Q rest (a.put o.dst (goInt n)) w') : wpList P ops Q (o :: rest) a w := by
  have hl : ((m.map V8).take n).length = n := by
    rw [List.length_take, List.length_map]; have := Nat.min_le_left m.length dLen; have h2 : Nat.min m.length dLen = min m.length dLen := rfl; omega
  have same : n = 0 → w' = w := by
    rintro rfl
    rw [← hw, ← hnew]
    simp only [List.take_zero, List.nil_append, Nat.add_zero, List.take_append_drop]
    unfold World.setRow
    congr 1
    refine Array.ext_getElem? fun j => ?_
    rw [Array.getElem?_modify]
    split
    · subst_vars; rw [hg]; rfl
    · rfl
  rcases hy with ⟨rfl, hv⟩ | ⟨b, o2, cap, rfl, hb, hc⟩
  · have hn0 : n = 0 := by rw [hn]; exact Nat.zero_min dLen
    have hw2 := same hn0
    subst hn0
    rw [hw2] at h
    rcases hv with rfl | ⟨ad, cap, rfl⟩
    · exact wpList_copy_nothing hgd d s dT sT ho elem hu hsz _ _ _ _ _ _ hd hs (Nat.zero_min dLen) h
    · exact wpList_copy_nothing hgd d s dT sT ho elem hu hsz _ _ _ _ _ _ hd hs (Nat.zero_min dLen) h
  · refine wpList_copy_own hgd d s dT sT ho elem hu hsz g off dLen dCap ⟨b, o2, none⟩ m.length cap hd hs cur.toArray t hg ((m.map V8).take n) (by rw [hl]; exact hn) ?_ (by simpa [hl] using hfit) ?_ ?_
    · intro j v hv
      rw [Addr.add_mid]
      rw [List.getElem?_take] at hv
      split at hv
      · rw [List.getElem?_map] at hv
        cases hm : m[j]? with
        | none => simp [hm] at hv
        | some z => simp [hm] at hv; subst hv; exact hc j z hm
      · cases hv
    · intro v hv
      exact mem_V8 m v (List.mem_of_mem_take hv)
    · rw [hl]
      have e : (cur.toArray.toList.take off ++ ((m.map V8).take n ++ cur.toArray.toList.drop (off + n))) = new := by simpa using hnew
      rw [e, hw]; exact h
end
end Go.Proofs.Ytfecopfofkdnpaa
