/- Texts of this proof, put together: Com, Lc, Late, Loc. -/
import Derived.Test.YtibncchobkaaiaaProg
import Derived.Test.YtibncchobkaaiaaF3
import Derived.Test.YtibncchobkaaiaaF2
import Derived.Test.YtibncchobkaaiaaF1
namespace Go.Proofs.Ytibncchobkaaiaa
open Go.RowKit
section
variable {P : Program}
theorem ret_bool {a b : Bool} (h : a = b) : Ending.returned (.bool a) = .returned (.bool b) := by rw [h]
theorem take_step {α : Type} {l m : List α} {k : Nat} {x : α} (h : l.take k = m.take k) (hl : l[k]? = some x) (hm : m[k]? = some x) : l.take (k + 1) = m.take (k + 1) := by
 rw [List.take_add_one, List.take_add_one, h, hl, hm]
theorem wI_ofInt8 (n : Int) : wI (BitVec.ofInt 8 n) = n % 256 := by
 unfold wI; rw [BitVec.toNat_ofInt]; omega
def Parts (w : World) (vs : List Value) (ls : List (List (BitVec 8))) : Prop := vs.length = ls.length ∧ ∀ (j : Nat) v l, vs[j]? = some v → ls[j]? = some l → SlB w v l
theorem Parts.ext {w w' : World} {vs : List Value} {ls : List (List (BitVec 8))} (h : Parts w vs ls) (hx : Ext w w') : Parts w' vs ls :=
 ⟨h.1, fun j v l h1 h2 => (h.2 j v l h1 h2).ext hx⟩
theorem parts5 {w : World} {v0 v1 v2 v3 v4 : Value} {l0 l1 l2 l3 l4 : List (BitVec 8)} (h0 : SlB w v0 l0) (h1 : SlB w v1 l1) (h2 : SlB w v2 l2) (h3 : SlB w v3 l3) (h4 : SlB w v4 l4) : Parts w [v0, v1, v2, v3, v4] [l0, l1, l2, l3, l4] := by
 refine ⟨rfl, fun j v l hv hl => ?_⟩
 match j with
 | 0 => cases hv; cases hl; exact h0
 | 1 => cases hv; cases hl; exact h1
 | 2 => cases hv; cases hl; exact h2
 | 3 => cases hv; cases hl; exact h3
 | 4 => cases hv; cases hl; exact h4
 | n + 5 => simp at hv
theorem flat_take_le (ls : List (List (BitVec 8))) (k : Nat) : (ls.take k).flatten.length ≤ ls.flatten.length := by
 conv => rhs; rw [← List.take_append_drop k ls, List.flatten_append, List.length_append]
 omega
theorem info_u8 : (Try.prog.info? 5).map (fun i => (i.zero, i.size, i.bytes)) = some (some (.int .u8 0), 1, 1) := by kernel_rfl
theorem SlB.at {w : World} {ad : Option Addr} {n cap : Nat} {l : List (BitVec 8)} (h : SlB w (.slice ad n cap) l) (j : Nat) (x : BitVec 8) (hj : l[j]? = some x) : ∃ b off, ad = some ⟨b, off, none⟩ ∧ b < w.heap.size ∧ w.cell? ⟨b, off + j, none⟩ = some (V8 x) := by
 rcases h with ⟨rfl, _⟩ | ⟨b, off, cap', hv, hb, hc⟩
 ·simp at hj
 ·cases hv
  exact ⟨b, off, rfl, hb, hc j x hj⟩
def tabS : List (Tmp × (Value → World → Prop)) → Tmp → Value → World → Prop
 | [], _, _, _ => True
 | p :: l, d, v, w => if d = p.1 then p.2 v w else tabS l d v w
def Mono (φ : Value → World → Prop) : Prop := ∀ v w w', φ v w → Ext w w' → φ v w'
theorem tabS_mono : ∀ (l : List (Tmp × (Value → World → Prop))), (∀ p ∈ l, Mono p.2) → ∀ d v w w', tabS l d v w → Ext w w' → tabS l d v w'
 | [], _, _, _, _, _, _, _ => trivial
 | p :: l, h, d, v, w, w', h1, hx => by
  unfold tabS at h1 ⊢
  split
  ·rename_i hd; rw [if_pos hd] at h1; exact h p (by simp) v w w' h1 hx
  ·rename_i hd; rw [if_neg hd] at h1; exact tabS_mono l (fun q hq => h q (by simp [hq])) d v w w' h1 hx
theorem mono_eq (u : Value) : Mono (fun v _ => v = u) := fun _ _ _ h _ => h
theorem mono_SlB (l : List (BitVec 8)) : Mono (fun v w => SlB w v l) := fun _ _ _ h hx => h.ext hx
theorem owns_ext {w w' : World} {base E n : Nat} {v : Value} {xs : List Value} (h : w.ownsRow base E 1 v n xs) (hx : Ext w w') : w'.ownsRow base E 1 v n xs := by
 obtain ⟨h1, h2⟩ := h
 rcases h2 with ⟨rfl, rfl⟩ | ⟨g, cap, cur, rfl, hb, hg, a, b, c, ht⟩
 ·exact ⟨h1, .inl ⟨rfl, rfl⟩⟩
 ·exact ⟨h1, .inr ⟨g, cap, cur, rfl, hb, ext_heap hx hg, a, b, c, ht⟩⟩
theorem owns_cap {w : World} {base E n m cap : Nat} {ad : Option Addr} {xs : List Value} (h : w.ownsRow base E 1 (.slice ad m cap) n xs) : m ≤ cap := by
 obtain ⟨h1, h2⟩ := h
 rcases h2 with ⟨h3, _⟩ | ⟨g, cap', cur, h3, hb, hg, a, b, c, ht⟩
 ·cases h3; exact Nat.le_refl _
 ·cases h3; omega
theorem SlB.take {w : World} {ad : Option Addr} {m cap n cap' : Nat} {l : List (BitVec 8)} (h : SlB w (.slice ad m cap) l) (hn : n ≤ l.length) (hc : ad = none → cap' = 0) : SlB w (.slice ad n cap') (l.take n) := by
 have hl : (l.take n).length = n := by rw [List.length_take]; omega
 rcases h with ⟨rfl, h⟩ | ⟨b, off, cp, hv, hb, hc2⟩
 ·have : n = 0 := by simpa using hn
  subst this
  refine .inl ⟨by simp, ?_⟩
  rcases h with h | ⟨a, c, h⟩
  ·cases h; left; rw [hc rfl]
  ·cases h; exact .inr ⟨_, _, rfl⟩
 ·cases hv
  refine .inr ⟨b, off, cap', by rw [hl], hb, fun j x hj => hc2 j x ?_⟩
  rw [List.getElem?_take] at hj
  split at hj
  ·exact hj
  ·cases hj
theorem info_iu : ∃ iu, Try.prog.info? 5 = some iu ∧ iu.zero = some (.int .u8 0) ∧ iu.size = 1 ∧ iu.bytes = 1 := by
 have h := info_u8
 cases hq : Try.prog.info? 5 with
 | none => simp [hq] at h
 | some iu => simp [hq] at h; exact ⟨iu, rfl, h⟩
def RetO (l : List (BitVec 8)) (w : World) (e : Ending) (w' : World) : Prop := ∃ v, e = .returned v ∧ w'.ownsRow w.heap.size 5 1 v l.length (l.map V8) ∧ Ext w w'
theorem V8_ofInt (n : Int) : V8 (BitVec.ofInt 8 n) = .int .u8 (n % 256) := by unfold V8; rw [wI_ofInt8]
def xorTo (x p : List (BitVec 8)) (o : Nat) : Nat → List (BitVec 8)
 | 0 => x
 | k + 1 => (xorTo x p o k).set k ((xorTo x p o k).getD k 0 ^^^ p.getD (o + k) 0)
theorem xorTo_len (x p : List (BitVec 8)) (o : Nat) : ∀ k, (xorTo x p o k).length = x.length
 | 0 => rfl
 | k + 1 => by rw [xorTo, List.length_set]; exact xorTo_len x p o k
def padF (bs : List (BitVec 8)) : List (BitVec 8) := bs ++ List.replicate ((16 - bs.length % 16) % 16) 0
theorem padF_len (bs : List (BitVec 8)) : (padF bs).length = 16 * ((bs.length + 15) / 16) := by
 unfold padF; rw [List.length_append, List.length_replicate]; omega
theorem padF_at (bs : List (BitVec 8)) (i : Nat) : (padF bs).getD i 0 = bs.getD i 0 := by
 unfold padF
 simp only [List.getD]
 by_cases h : i < bs.length
 ·rw [List.getElem?_append_left h]
 ·rw [List.getElem?_append_right (by omega), List.getElem?_replicate, List.getElem?_eq_none (l := bs) (by omega)]
  split <;> rfl
theorem xorTo_pad (x bs : List (BitVec 8)) (o : Nat) : ∀ k, xorTo x (padF bs) o k = xorTo x bs o k
 | 0 => rfl
 | k + 1 => by rw [xorTo, xorTo, xorTo_pad x bs o k, padF_at]
theorem set_getD (l : List (BitVec 8)) (i : Nat) : l.set i (l.getD i 0) = l := by
 refine List.ext_getElem? fun j => ?_
 rw [List.getElem?_set]
 split
 ·rename_i h; subst h
  split
  ·rename_i h; simp [List.getD, List.getElem?_eq_getElem h]
  ·rename_i h; rw [List.getElem?_eq_none (by omega)]
 ·rfl
theorem xor_z (x : BitVec 8) : x ^^^ 0 = x := by simp
theorem xorTo_end (x bs : List (BitVec 8)) (o r : Nat) (h : bs.length ≤ o + r) : ∀ k, r ≤ k → xorTo x bs o k = xorTo x bs o r
 | 0, hk => by
  obtain rfl : r = 0 := by omega
  rfl
 | k + 1, hk => by
  by_cases hr : r = k + 1
  ·subst hr; rfl
  ·have hz : bs.getD (o + k) 0 = 0 := by
    simp only [List.getD]; rw [List.getElem?_eq_none (by omega)]; rfl
   rw [xorTo, hz, xor_z, set_getD]
   exact xorTo_end x bs o r h k (by omega)
def sliceLen : Value → Nat
 | .slice _ n _ => n
 | _ => 0
theorem owns_empty (w : World) (base : Nat) (hb : base ≤ w.heap.size) : (w.alloc (.cells #[] 5)).ownsRow base 5 1 (.slice (some ⟨w.heap.size, 0, none⟩) 0 0) ([] : List (BitVec 8)).length (([] : List (BitVec 8)).map V8) :=
 ⟨rfl, .inr ⟨w.heap.size, 0, #[], rfl, hb, hp_new _ _, Nat.le_refl _, Nat.zero_le _, rfl, rfl⟩⟩
theorem tail_cell {W W' : World} {x y : Xtra} {d g i : Nat} {c : Value} (hs : W'.heap.size = W.heap.size) (hg : W.heap.size ≤ g) (h : (more W x).cell? ⟨g, i, none⟩ = some c) : (more W' ⟨x.blocks ++ y.blocks, d⟩).cell? ⟨g, i, none⟩ = some c := by
 have e : ∀ (V : World) (z : Xtra), V.heap.size ≤ g → (more V z).heap[g]? = z.blocks[g - V.heap.size]? := fun V z hv => by
  simp only [more]; rw [Array.getElem?_append_right hv]
 have hlt : g - W.heap.size < x.blocks.size := by
  have h2 : g < (more W x).heap.size := block_lt_of_cell h
  rw [more_size] at h2; omega
 have hh : (more W' ⟨x.blocks ++ y.blocks, d⟩).heap[g]? = (more W x).heap[g]? := by
  rw [e W' _ (by omega), e W _ hg, hs, Array.getElem?_append_left hlt]
 simp only [World.cell?] at h ⊢
 rw [hh]; exact h
theorem div_step (n k : Nat) : (n : Int) / 2 ^ (8 * k) / 256 = (n : Int) / 2 ^ (8 * (k + 1)) := by
 rw [show 8 * (k + 1) = 8 * k + 8 by omega, Int.pow_add, Int.ediv_ediv_of_nonneg (by exact Int.le_of_lt (Int.pow_pos (by decide)))]
 rfl
theorem owns_base {w : World} {base base' E n : Nat} {v : Value} {xs : List Value} (h : w.ownsRow base E 1 v n xs) (hb : base' ≤ base) : w.ownsRow base' E 1 v n xs := by
 obtain ⟨h1, h2⟩ := h
 rcases h2 with h2 | ⟨g, cap, cur, h3, hg, h4⟩
 ·exact ⟨h1, .inl h2⟩
 ·exact ⟨h1, .inr ⟨g, cap, cur, h3, Nat.le_trans hb hg, h4⟩⟩
theorem SlB.nil_cap {w : World} {n cap : Nat} {l : List (BitVec 8)} (h : SlB w (.slice none n cap) l) : cap = 0 := by
 rcases h with ⟨_, h | ⟨a, c, h⟩⟩ | ⟨b, off, c, h, _⟩
 ·cases h; rfl
 ·cases h
 ·cases h
theorem take_snoc (l : List (BitVec 8)) (k : Nat) (y : BitVec 8) (h : l[k]? = some y) : l.take (k + 1) = l.take k ++ [y] := by
 rw [List.take_add_one, h]; rfl
theorem results_cell_tmp_row {fn : Func} {p q : Tmp} {ty : TypeId} (h : fn.results = #[.cell p ty, .tmp q]) (tmps : Array Value) (w : World) (g : Nat) (t : TypeId) (cs : Array Value) (fr : Nat × Nat) (d : TypeDesc)
  (hp : tmps.getD p undef = .pointer (some ⟨g, 0, none⟩)) (v : Value) (hv : tmps.getD q undef = v) (hg : w.heap[g]? = some (.cells cs t fr))
  (hu : P.underlying ty = some d) (hd : (match d with | .struct _ | .array _ _ => true | _ => false) = true) (hi : (P.info? ty).map (·.size) = some cs.size) :
  (results fn tmps).run P w = .ok (.tuple #[.agg cs, v]) w := by
 have hp' : tmps[p]?.getD undef = .pointer (some ⟨g, 0, none⟩) := by simpa using hp
 have hv' : tmps[q]?.getD undef = v := by simpa using hv
 simp [results, h, hp', hv', asAddr, run_loadVar_row w g t ty cs fr d hg hu hd hi]
theorem ret_row2 {fn : Func} {R : Ending → World → Prop} {a : Act} {w : World} {p q : Tmp} {ty : TypeId} (h : fn.results = #[.cell p ty, .tmp q]) (g : Nat) (t : TypeId) (cs : Array Value) (fr : Nat × Nat) (d : TypeDesc)
  (hp : a.tmps.getD p undef = .pointer (some ⟨g, 0, none⟩)) (v : Value) (hv : a.tmps.getD q undef = v) (hg : w.heap[g]? = some (.cells cs t fr))
  (hu : P.underlying ty = some d) (hd : (match d with | .struct _ | .array _ _ => true | _ => false) = true) (hi : (P.info? ty).map (·.size) = some cs.size)
  (hdf : a.defers = []) (hR : R (.returned (.tuple #[.agg cs, v])) w) : bodyPost P fn R .ret a w :=
 bodyPost_ret (results_cell_tmp_row h a.tmps w g t cs fr d hp v hv hg hu hd hi) hdf hR
theorem wpList_cpS {ops : Array Oper} {rest : List Oper} {o : Oper} {a : Act} {w w' : World} {Q : Exit → Act → World → Prop} (hgd : o.guard = none) (d s : Operand) (dT sT : TypeId)
  (ho : o.op = .call { callee := .builtin .copy, args := #[d, s], argTypes := #[dT, sT] }) (elem : TypeId) (hu : P.underlying dT = some (.slice elem)) (hsz : (P.info? elem).map (·.size) = some 1)
  (g off dLen dCap : Nat) (hd : a.eval d = .slice (some ⟨g, off, none⟩) dLen dCap) (y : Value) (hs : a.eval s = y) (m : List (BitVec 8)) (hy : SlB w y m)
  (cur : List Value) (t : TypeId) (hg : w.heap[g]? = some (.cells cur.toArray t (0, 0)))
  (n : Nat) (hn : n = Nat.min m.length dLen) (hfit : off + n ≤ cur.length)
  (new : List Value) (hnew : cur.take off ++ ((m.map V8).take n ++ cur.drop (off + n)) = new) (hw : w.setRow g new.toArray = w')
  (h : wpList P ops Q rest (a.put o.dst (goInt n)) w') : wpList P ops Q (o :: rest) a w := by
 have hl : ((m.map V8).take n).length = n := by
  rw [List.length_take, List.length_map]; have := Nat.min_le_left m.length dLen; have h2 : Nat.min m.length dLen = min m.length dLen := rfl; omega
 have same : n = 0 → w' = w := by
  rintro rfl
  rw [← hw, ← hnew]
  simp only [List.take_zero, List.nil_append, Nat.add_zero, List.take_append_drop]
  unfold World.setRow
  congr 1
  refine Array.ext_getElem? fun j => ?_
  rw [Array.getElem?_modify]
  split
  ·subst_vars; rw [hg]; rfl
  ·rfl
 rcases hy with ⟨rfl, hv⟩ | ⟨b, o2, cap, rfl, hb, hc⟩
 ·have hn0 : n = 0 := by rw [hn]; exact Nat.zero_min dLen
  have hw2 := same hn0
  subst hn0
  rw [hw2] at h
  rcases hv with rfl | ⟨ad, cap, rfl⟩
  ·exact wpList_copy_nothing hgd d s dT sT ho elem hu hsz _ _ _ _ _ _ hd hs (Nat.zero_min dLen) h
  ·exact wpList_copy_nothing hgd d s dT sT ho elem hu hsz _ _ _ _ _ _ hd hs (Nat.zero_min dLen) h
 ·refine wpList_copy_own hgd d s dT sT ho elem hu hsz g off dLen dCap ⟨b, o2, none⟩ m.length cap hd hs cur.toArray t hg ((m.map V8).take n) (by rw [hl]; exact hn) ?_ (by simpa [hl] using hfit) ?_ ?_
  ·intro j v hv
   rw [Addr.add_mid]
   rw [List.getElem?_take] at hv
   split at hv
   ·rw [List.getElem?_map] at hv
    cases hm : m[j]? with
    | none => simp [hm] at hv
    | some z => simp [hm] at hv; subst hv; exact hc j z hm
   ·cases hv
  ·intro v hv
   exact mem_V8 m v (List.mem_of_mem_take hv)
  ·rw [hl]
   have e : (cur.toArray.toList.take off ++ ((m.map V8).take n ++ cur.toArray.toList.drop (off + n))) = new := by simpa using hnew
   rw [e, hw]; exact h
end
theorem setRow_same {w : World} {g : Nat} {cs : Array Value} {t : TypeId} {fr : Nat × Nat} (h : w.heap[g]? = some (.cells cs t fr)) : w.setRow g cs = w := by
 unfold World.setRow
 congr 1
 refine Array.ext_getElem? fun j => ?_
 rw [Array.getElem?_modify]
 split
 ·subst_vars; rw [h]; rfl
 ·rfl
theorem setRow_setRow (w : World) (g : Nat) (cs cs' : Array Value) : (w.setRow g cs).setRow g cs' = w.setRow g cs' := by
 unfold World.setRow
 congr 1
 refine Array.ext_getElem? fun j => ?_
 simp only [Array.getElem?_modify]
 split
 ·cases w.heap[j]? with
  | none => rfl
  | some o => cases o <;> rfl
 ·rfl
theorem setRow_size (w : World) (g : Nat) (cs : Array Value) : (w.setRow g cs).heap.size = w.heap.size := by simp [World.setRow]
theorem setRow_setCell {w : World} {g i : Nat} {cs : Array Value} {t : TypeId} (v : Value) (h : w.heap[g]? = some (.cells cs t (0, 0))) : w.setCell ⟨g, i, none⟩ v = w.setRow g (cs.setIfInBounds i v) := by
 unfold World.setRow World.setCell
 congr 1
 refine Array.ext_getElem? fun j => ?_
 simp only [Array.getElem?_modify]
 split
 ·rename_i e; subst e; rw [h]; rfl
 ·rfl
theorem ext_setRow2 {w w' : World} (h : Ext w w') {g : Nat} (hg : g < w.heap.size) (cs : Array Value) : Ext (w.setRow g cs) (w'.setRow g cs) := by
 obtain ⟨x, rfl⟩ := h
 exact ⟨x, setRow_more w x cs g hg⟩
abbrev Lc (w : World) (g : Nat) (T : TypeId) (cs : List Value) : Prop := w.heap[g]? = some (.cells cs.toArray T (0, 0))
theorem Lc.ext {w w' : World} {g T : Nat} {cs : List Value} (h : Lc w g T cs) (hx : Ext w w') : Lc w' g T cs := ext_heap hx h
theorem Lc.lt {w : World} {g T : Nat} {cs : List Value} (h : Lc w g T cs) : g < w.heap.size := (Array.getElem?_eq_some_iff.1 h).1
theorem Lc.new (w : World) (T : TypeId) (cs : List Value) : Lc (w.alloc (.cells cs.toArray T)) w.heap.size T cs := hp_new w _
theorem Lc.set {w : World} {g T : Nat} {cs : List Value} (h : Lc w g T cs) (ds : List Value) : Lc (w.setRow g ds.toArray) g T ds := setRow_heap w g _ ds.toArray T (0, 0) h
theorem Lc.other {w : World} {g b T : Nat} {cs : List Value} (h : Lc w b T cs) (hne : b ≠ g) (ds : Array Value) : Lc (w.setRow g ds) b T cs := (setRow_other w g b ds hne).trans h
theorem Lc.cell {w : World} {g T i : Nat} {cs : List Value} {v : Value} (h : Lc w g T cs) (hi : cs[i]? = some v) : w.cell? ⟨g, i, none⟩ = some v := by
 rw [cell_of_row w g i _ _ (0, 0) h]; simpa using hi
theorem Lc.range {w : World} {g T o : Nat} {cs ds : List Value} (h : Lc w g T cs) (hd : (cs.drop o).take ds.length = ds) : w.rangeAt g o ds := fun j v hv => by
 refine h.cell ?_
 have hj := (List.getElem?_eq_some_iff.1 hv).1
 rw [← hd, List.getElem?_take, if_pos hj, List.getElem?_drop] at hv
 exact hv
theorem Lc.setCell {w : World} {g T i : Nat} {cs : List Value} (h : Lc w g T cs) (v : Value) : w.setCell ⟨g, i, none⟩ v = w.setRow g (cs.set i v).toArray := by
 rw [setRow_setCell v h]; simp
theorem cell_setRow {w : World} {g b i : Nat} {ds : Array Value} (hne : b ≠ g) : (w.setRow g ds).cell? ⟨b, i, none⟩ = w.cell? ⟨b, i, none⟩ := by
 have h := setRow_other w g b ds hne
 simp only [World.cell?, h]
section
variable {P : Program}
theorem wpList_st_cell {ops : Array Oper} {rest : List Oper} {o : Oper} {a : Act} {w : World} {Q : Exit → Act → World → Prop} (hgd : o.guard = none) (hdst : o.dst = none) (ty : TypeId) (x y : Operand) (ho : o.op = .store ty x y)
  (g i : Nat) (v : Value) (hx : a.eval x = .pointer (some ⟨g, i, none⟩)) (hy : a.eval y = v) (h1 : v.oneCell' = true) (hi : (P.info? ty).map (·.size) = some 1)
  (t : TypeId) (old new : List Value) (hg : Lc w g t old) (hf : i < old.length) (hn : old.set i v = new)
  (h : wpList P ops Q rest a (w.setRow g new.toArray)) : wpList P ops Q (o :: rest) a w := by
 refine wpList_plain hgd fun K hK => ?_
 have hs := run_storeCells_at (P := P) g i t [v] 0 old.toArray w hg (by simp; omega) (fun u hu => by simp at hu; subst hu; exact h1)
 have hnew : (old.toArray.toList.take (i + 0) ++ [v] ++ old.toArray.toList.drop (i + 0 + [v].length)).toArray = new.toArray := by
  rw [← hn]; simp [List.set_eq_take_append_cons_drop, hf]
 rw [hnew] at hs
 have hv : (storeVar ty ⟨g, i, none⟩ v).run P w = .ok () (w.setRow g new.toArray) := by
  cases hq : P.info? ty with
  | none => simp [hq] at hi
  | some k =>
   have hz : k.size = 1 := by simpa [hq] using hi
   have hcl : v.cells = #[v] := by cases v <;> first | rfl | simp [Value.oneCell'] at h1
   simp [storeVar, sizeOf, typeInfo, hq, hz, hcl] at hs ⊢
   simpa using hs
 unfold Oper.wp execOp
 simp only [ho, hx, hy, Instr.storeAt, Instr.sureAddr, Sem.run_bind, Sem.run_pure, Result.andThen_ok, hv]
 show K (a.put o.dst undef) _
 rw [hdst]
 exact hK _ _ h
end
section
variable {P : Program}
theorem wpList_st_seg {ops : Array Oper} {rest : List Oper} {o : Oper} {a : Act} {w w' : World} {Q : Exit → Act → World → Prop} (hgd : o.guard = none) (hdst : o.dst = none) (ty : TypeId) (x y : Operand) (ho : o.op = .store ty x y)
  (g off : Nat) (cells : Array Value) (hx : a.eval x = .pointer (some ⟨g, off, none⟩)) (hy : a.eval y = .agg cells)
  (t : TypeId) (old : Array Value) (hg : w.heap[g]? = some (.cells old t (0, 0))) (hi : (P.info? ty).map (·.size) = some cells.size)
  (hfit : off + cells.size ≤ old.size) (h1 : cells.all (·.oneCell') = true) (new : Array Value)
  (hnew : (old.toList.take off ++ cells.toList ++ old.toList.drop (off + cells.size)).toArray = new) (hw : w.setRow g new = w')
  (h : wpList P ops Q rest a w') : wpList P ops Q (o :: rest) a w := by
 refine wpList_plain hgd fun K hK => ?_
 have hs := run_storeCells_at (P := P) g off t cells.toList 0 old w hg (by simpa using hfit) (fun v hv => (Array.all_eq_true_iff_forall_mem.1 h1) v (by simpa using hv))
 simp only [Nat.add_zero, Array.length_toList, hnew, hw] at hs
 have hv : (storeVar ty ⟨g, off, none⟩ (.agg cells)).run P w = .ok () w' := by
  cases hq : P.info? ty with
  | none => simp [hq] at hi
  | some i =>
   have hz : cells.size = i.size := by simp [hq] at hi; omega
   simp [storeVar, sizeOf, typeInfo, hq, Value.cells, hz, hs]
 unfold Oper.wp execOp
 simp only [ho, hx, hy, Instr.storeAt, Instr.sureAddr, Sem.run_bind, Sem.run_pure, Result.andThen_ok, hv]
 show K (a.put o.dst undef) w'
 rw [hdst]
 exact hK _ _ h
end
section
variable {P : Program} {ops : Array Oper}
def Zat (iS : Nat) (Z Z2 : Obj) (rem : List Nat) : Obj := if iS ∈ rem then Z else Z2
theorem ext_setRow {W w : World} {b : Nat} {cs : Array Value} (h : Ext W w) (hb : W.heap.size ≤ b) : Ext W (w.setRow b cs) := by
 have hB := h.below
 refine Ext.of_below ⟨hB.os, hB.tape, hB.output, by simp only [World.setRow, Array.size_modify]; exact hB.size, fun k hk => ?_⟩
 simp only [World.setRow, Array.getElem?_modify]
 rw [if_neg (by omega)]
 exact hB.block k hk
structure InvL (ops : Array Oper) (n iA dA iS : Nat) (Z Z2 : Obj) (W : World) (a0 A : Act) (rem : List Nat) (listed : Array Bool) (a : Act) (w : World) : Prop where
 head : HeadInv .any ops n listed
 nodup : rem.Nodup
 lt : ∀ j ∈ rem, j < n
 mem : ∀ j, j < n → (listed.getD j false = true ↔ j ∉ rem)
 size : a.tmps.size = a0.tmps.size
 defers : a.defers = a0.defers
 done : ∀ d, d ≠ dA → (∃ j o, j < n ∧ j ∉ rem ∧ ops[j]? = some o ∧ o.dst = some d) → a.tmps[d]? = A.tmps[d]?
 open_ : ∀ d, d ≠ dA → (∀ j o, j < n → j ∉ rem → ops[j]? = some o → o.dst ≠ some d) → a.tmps[d]? = a0.tmps[d]?
 ext : Ext W w
 made : iA < n → iA ∉ rem → ∃ b, W.heap.size ≤ b ∧ w.heap[b]? = some (Zat iS Z Z2 rem) ∧ a.tmps[dA]? = some (.pointer (some ⟨b, 0, none⟩))
theorem InvL.step {n iA dA iS : Nat} {Z Z2 : Obj} {W : World} {a0 A : Act} {rem : List Nat} {listed : Array Bool} {a : Act} {w w' : World} (inv : InvL ops n iA dA iS Z Z2 W a0 A rem listed a w)
  {i : Nat} {o : Oper} (hi : i ∈ Region.ready .any ops listed) (hin : i < n) (ho : ops[i]? = some o) (v : Value) (hext : Ext W w')
  (hv : ∀ d, o.dst = some d → d ≠ dA → d < a0.tmps.size → A.tmps[d]? = some v) (hsz : A.tmps.size = a0.tmps.size)
  (hm : iA < n → iA ∉ rem.erase i → ∃ b, W.heap.size ≤ b ∧ w'.heap[b]? = some (Zat iS Z Z2 (rem.erase i)) ∧ (a.put o.dst v).tmps[dA]? = some (.pointer (some ⟨b, 0, none⟩))) :
  InvL ops n iA dA iS Z Z2 W a0 A (rem.erase i) (listed.setIfInBounds i true) (a.put o.dst v) w' := by
 have hun := (mem_ready.1 hi).1
 have hirem : i ∈ rem := by
  rcases Classical.em (i ∈ rem) with h | h
  ·exact h
  ·have := (inv.mem i hin).2 h
   rw [getD_both hun] at this; cases this
 have hmem : ∀ j, j < n → (j ∉ rem.erase i ↔ j ∉ rem ∨ j = i) := fun j _ => by
  rw [inv.nodup.mem_erase_iff]
  constructor
  ·intro h; by_cases hj : j = i
   ·exact .inr hj
   ·exact .inl fun hm => h ⟨hj, hm⟩
  ·rintro (h | h) ⟨h1, h2⟩
   ·exact h h2
   ·exact h1 h
 have hlen : i < listed.size := by
  rcases Nat.lt_or_ge i listed.size with h | h
  ·exact h
  ·simp [Array.getElem?_eq_none h] at hun
 refine ⟨inv.head.set hi hin, inv.nodup.erase i, fun j hj => inv.lt j (List.mem_of_mem_erase hj), fun j hj => ?_, by rw [put_size, inv.size], by rw [put_defers, inv.defers], fun d hd h => ?_, fun d hd h => ?_, hext, hm⟩
 ·rw [hmem j hj]
  by_cases hji : i = j
  ·subst hji; simp [hlen]
  ·rw [getD_set_ne false hji, inv.mem j hj]
   exact ⟨fun h => .inl h, fun h => h.resolve_right fun e => hji e.symm⟩
 ·obtain ⟨j, oj, hj, hjr, hoj, hdj⟩ := h
  by_cases hod : o.dst = some d
  ·rw [hod, put_get, if_pos rfl]
   by_cases hlt : d < a.tmps.size
   ·rw [if_pos hlt, hv d hod hd (by rw [← inv.size]; exact hlt)]
   ·rw [if_neg hlt, Array.getElem?_eq_none (by rw [hsz, ← inv.size]; omega)]
  ·rw [put_other _ _ _ _ hod]
   refine inv.done d hd ⟨j, oj, hj, ?_, hoj, hdj⟩
   rcases (hmem j hj).1 hjr with h | h
   ·exact h
   ·subst h; rw [ho] at hoj; cases hoj; exact absurd hdj hod
 ·have hod : o.dst ≠ some d := h i o hin ((hmem i hin).2 (.inr rfl)) ho
  rw [put_other _ _ _ _ hod]
  exact inv.open_ d hd fun j oj hj hjr hoj => h j oj hj ((hmem j hj).2 (.inl hjr)) hoj
theorem InvL.base {n iA dA iS : Nat} {Z Z2 : Obj} {W : World} {x : Xtra} {a0 A : Act} {rem : List Nat} {listed : Array Bool} {a : Act} {w : World} (inv : InvL ops n iA dA iS Z Z2 (more W x) a0 A rem listed a w) : InvL ops n iA dA iS Z Z2 W a0 A rem listed a w :=
 ⟨inv.head, inv.nodup, inv.lt, inv.mem, inv.size, inv.defers, inv.done, inv.open_, (Ext.more W x).trans inv.ext, fun h1 h2 => by obtain ⟨b, h3, h4⟩ := inv.made h1 h2; exact ⟨b, by rw [more_size] at h3; omega, h4⟩⟩
end
abbrev Bk := Nat × TypeId × List Value
def Loc (w0 w : World) (bs : List Bk) : Prop := Ext w0 w ∧ (bs.map (·.1)).Nodup ∧ ∀ b ∈ bs, w0.heap.size ≤ b.1 ∧ Lc w b.1 b.2.1 b.2.2
theorem Loc.start (w : World) : Loc w w [] := ⟨Ext.refl w, List.nodup_nil, fun b hb => by cases hb⟩
theorem Loc.ext {w0 w w' : World} {bs : List Bk} (h : Loc w0 w bs) (hx : Ext w w') : Loc w0 w' bs := ⟨h.1.trans hx, h.2.1, fun b hb => ⟨(h.2.2 b hb).1, (h.2.2 b hb).2.ext hx⟩⟩
theorem Loc.at {w0 w : World} {bs : List Bk} (h : Loc w0 w bs) (i : Nat) {b : Bk} (hi : bs[i]? = some b) : Lc w b.1 b.2.1 b.2.2 := (h.2.2 b (List.mem_of_getElem? hi)).2
theorem Loc.le {w0 w : World} {bs : List Bk} (h : Loc w0 w bs) (i : Nat) {b : Bk} (hi : bs[i]? = some b) : w0.heap.size ≤ b.1 := (h.2.2 b (List.mem_of_getElem? hi)).1
theorem Loc.lt {w0 w : World} {bs : List Bk} (h : Loc w0 w bs) (i : Nat) {b : Bk} (hi : bs[i]? = some b) : b.1 < w.heap.size := (h.at i hi).lt
theorem Loc.new {w0 w : World} {bs : List Bk} (h : Loc w0 w bs) (T : TypeId) (cs : List Value) : Loc w0 (w.alloc (.cells cs.toArray T)) ((w.heap.size, T, cs) :: bs) := by
 refine ⟨h.1.trans (Ext.alloc _ _), ?_, ?_⟩
 ·rw [List.map_cons, List.nodup_cons]
  refine ⟨fun hm => ?_, h.2.1⟩
  obtain ⟨b, hb, he⟩ := List.mem_map.1 hm
  have := (h.2.2 b hb).2.lt
  rw [he] at this; omega
 ·intro b hb
  rcases List.mem_cons.1 hb with rfl | hb
  ·exact ⟨h.1.below.size, Lc.new w T cs⟩
  ·exact ⟨(h.2.2 b hb).1, (h.2.2 b hb).2.ext (Ext.alloc _ _)⟩
theorem nodup_get : ∀ {l : List Nat} (_ : l.Nodup) {i j : Nat} {x : Nat}, l[i]? = some x → l[j]? = some x → i = j
 | [], _, _, _, _, h, _ => by simp at h
 | y :: l, hn, 0, 0, _, _, _ => rfl
 | y :: l, hn, 0, j + 1, x, h, h2 => by
  have : y = x := by simpa using h
  subst this
  exact absurd (List.mem_of_getElem? (by simpa using h2)) (List.nodup_cons.1 hn).1
 | y :: l, hn, i + 1, 0, x, h, h2 => by
  have : y = x := by simpa using h2
  subst this
  exact absurd (List.mem_of_getElem? (by simpa using h)) (List.nodup_cons.1 hn).1
 | y :: l, hn, i + 1, j + 1, x, h, h2 => by exact congrArg (· + 1) (nodup_get (List.nodup_cons.1 hn).2 (i := i) (j := j) (x := x) (by simpa using h) (by simpa using h2))
theorem Loc.set {w0 w : World} {bs : List Bk} (h : Loc w0 w bs) (i : Nat) {g T : Nat} {cs : List Value} (hi : bs[i]? = some (g, T, cs)) (ds : List Value) : Loc w0 (w.setRow g ds.toArray) (bs.set i (g, T, ds)) := by
 have hmap : (bs.set i (g, T, ds)).map (·.1) = bs.map (·.1) := by
  refine List.ext_getElem? fun j => ?_
  rw [List.getElem?_map, List.getElem?_map, List.getElem?_set]
  split
  ·rename_i e; subst e
   have hl := (List.getElem?_eq_some_iff.1 hi).1
   rw [if_pos hl, hi]; rfl
  ·rfl
 have hle : w0.heap.size ≤ g := h.le i hi
 refine ⟨ext_setRow h.1 hle, by rw [hmap]; exact h.2.1, fun b hb => ?_⟩
 obtain ⟨j, hj⟩ := List.getElem?_of_mem hb
 rw [List.getElem?_set] at hj
 split at hj
 ·split at hj
  ·cases hj; exact ⟨hle, (h.at i hi : Lc w g T cs).set ds⟩
  ·cases hj
 ·rename_i hne
  have hbm := List.mem_of_getElem? hj
  refine ⟨(h.2.2 b hbm).1, (h.2.2 b hbm).2.other ?_ _⟩
  intro e
  have h1 : (bs.map (·.1))[i]? = some g := by rw [List.getElem?_map, hi]; rfl
  have h2 : (bs.map (·.1))[j]? = some g := by rw [List.getElem?_map, hj]; simp [e]
  exact hne (nodup_get h.2.1 h1 h2)
def Wrote (w w' : World) (g : Nat) : Prop := ∃ ds, w' = w.setRow g ds
theorem run_box_agg {P : Program} (T : TypeId) (cs : Array Value) (w : World) : (Instr.box T (.agg cs)).run P w = .ok (.pointer (some ⟨w.heap.size, 0, none⟩)) (w.alloc (.cells cs T)) := by
 simp [Instr.box, newVar, newRow, go_sem]
section
variable {P : Program} {ops : Array Oper} {rest : List Oper} {o : Oper} {a : Act} {w0 w : World} {Q : Exit → Act → World → Prop} {bs : List Bk}
theorem L_alloc (H : Kp (Loc w0 w bs)) (hg : o.guard = none) (t : TypeId) (_ : o.op = .alloc t) (cs : List Value)
  (hrun : ∀ (e : Operand → Value) (w : World), (execOp e o).run P w = .ok (.value (.pointer (some ⟨w.heap.size, 0, none⟩))) (w.alloc (.cells cs.toArray t)))
  (h : ∀ g w', Kp (g = w.heap.size) → Kp (Ext w w') → Kp (Loc w0 w' ((g, t, cs) :: bs)) → wpList P ops Q rest (a.put o.dst (.pointer (some ⟨g, 0, none⟩))) w') : wpList P ops Q (o :: rest) a w := by
 refine wpList_plain hg fun K hK => ?_
 unfold Oper.wp
 rw [hrun]
 exact hK _ _ (h _ _ (kp rfl) (kp (Ext.alloc _ _)) (kp (H.out.new t cs)))
theorem L_box (H : Kp (Loc w0 w bs)) (hg : o.guard = none) (t : TypeId) (x : Operand) (ho : o.op = .box t x) (cs : List Value) (hx : a.eval x = .agg cs.toArray)
  (h : ∀ g w', Kp (g = w.heap.size) → Kp (Ext w w') → Kp (Loc w0 w' ((g, t, cs) :: bs)) → wpList P ops Q rest (a.put o.dst (.pointer (some ⟨g, 0, none⟩))) w') : wpList P ops Q (o :: rest) a w := by
 refine wpList_plain hg fun K hK => ?_
 unfold Oper.wp execOp
 simp only [ho, hx, Sem.run_bind, Sem.run_pure, Result.andThen_ok, run_box_agg]
 exact hK _ _ (h _ _ (kp rfl) (kp (Ext.alloc _ _)) (kp (H.out.new t cs)))
theorem L_store (H : Kp (Loc w0 w bs)) (hgd : o.guard = none) (hdst : o.dst = none) (ty : TypeId) (x y : Operand) (ho : o.op = .store ty x y) (i : Nat) {g T : Nat} {old : List Value} (hi : bs[i]? = some (g, T, old))
  (hx : a.eval x = .pointer (some ⟨g, 0, none⟩)) (cs : List Value) (hy : a.eval y = .agg cs.toArray) (hz : (P.info? ty).map (·.size) = some cs.toArray.size) (hold : old.length = cs.length) (h1 : cs.toArray.all (·.oneCell') = true)
  (h : ∀ w', Kp (Wrote w w' g) → Kp (Loc w0 w' (bs.set i (g, T, cs))) → wpList P ops Q rest a w') : wpList P ops Q (o :: rest) a w :=
 wpList_st_row hgd hdst ty x y ho g cs.toArray hx hy T old.toArray (H.out.at i hi) hz (by simpa using hold) h1 rfl (h _ (kp ⟨_, rfl⟩) (kp (H.out.set i hi cs)))
theorem L_seg (H : Kp (Loc w0 w bs)) (hgd : o.guard = none) (hdst : o.dst = none) (ty : TypeId) (x y : Operand) (ho : o.op = .store ty x y) (i : Nat) {g T : Nat} {old : List Value} (hi : bs[i]? = some (g, T, old)) (off : Nat)
  (hx : a.eval x = .pointer (some ⟨g, off, none⟩)) (cs : List Value) (hy : a.eval y = .agg cs.toArray) (hz : (P.info? ty).map (·.size) = some cs.toArray.size) (hfit : off + cs.toArray.size ≤ old.toArray.size) (h1 : cs.toArray.all (·.oneCell') = true)
  (new : List Value) (hn : (old.take off ++ cs ++ old.drop (off + cs.length)).toArray = new.toArray)
  (h : ∀ w', Kp (Wrote w w' g) → Kp (Loc w0 w' (bs.set i (g, T, new))) → wpList P ops Q rest a w') : wpList P ops Q (o :: rest) a w :=
 wpList_st_seg hgd hdst ty x y ho g off cs.toArray hx hy T old.toArray (H.out.at i hi) hz hfit h1 new.toArray hn rfl (h _ (kp ⟨_, rfl⟩) (kp (H.out.set i hi new)))
theorem L_cell (H : Kp (Loc w0 w bs)) (hgd : o.guard = none) (hdst : o.dst = none) (ty : TypeId) (x y : Operand) (ho : o.op = .store ty x y) (i : Nat) {g T : Nat} {old : List Value} (hi : bs[i]? = some (g, T, old)) (off : Nat)
  (hx : a.eval x = .pointer (some ⟨g, off, none⟩)) (v : Value) (hy : a.eval y = v) (h1 : v.oneCell' = true) (hz : (P.info? ty).map (·.size) = some 1) (hfit : off < old.length)
  (new : List Value) (hn : old.set off v = new)
  (h : ∀ w', Kp (Wrote w w' g) → Kp (Loc w0 w' (bs.set i (g, T, new))) → wpList P ops Q rest a w') : wpList P ops Q (o :: rest) a w :=
 wpList_st_cell hgd hdst ty x y ho g off v hx hy h1 hz T old new (H.out.at i hi) hfit hn (h _ (kp ⟨_, rfl⟩) (kp (H.out.set i hi new)))
end
theorem run_load_cell {w0 w : World} {bs : List Bk} (H : Loc w0 w bs) (i : Nat) {g T : Nat} {cs : List Value} (hi : bs[i]? = some (g, T, cs)) (off : Nat) (v : Value) (hv : cs[off]? = some v) : w.cell? ⟨g, off, none⟩ = some v := (H.at i hi).cell hv
theorem owns_wrote {w w' : World} {base E sz n g : Nat} {v : Value} {xs : List Value} (h : w.ownsRow base E sz v n xs) (hw : Wrote w w' g) (hb : g < base) : w'.ownsRow base E sz v n xs := by
 obtain ⟨ds, rfl⟩ := hw
 obtain ⟨h1, h2 | ⟨b, cap, cur, h3, hg, hh, h4⟩⟩ := h
 ·exact ⟨h1, .inl h2⟩
 ·exact ⟨h1, .inr ⟨b, cap, cur, h3, hg, (setRow_other w g b ds (by omega)).trans hh, h4⟩⟩
end Go.Proofs.Ytibncchobkaaiaa
