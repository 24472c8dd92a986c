/- Texts of this proof, put together: Slices, Spine, Spine0, Eq. -/
import Derived.Test.YtibncchobkaaiaaF2
import Derived.Laws.AppendOwn
import Derived.Laws.AppendOwnNone
import Derived.OwnWalk
import Derived.Lib.ConvBytes
import Derived.ProofKit
import Derived.ChangeKeysEq
import Derived.Test.YtibncchobkaaiaaF1
namespace Go.Proofs.Ytibncchobkaaiaa
open Go.RowKit
def SlB (w : World) (v : Value) (l : List (BitVec 8)) : Prop :=
 (l = [] ∧ (v = .slice none 0 0 ∨ ∃ a cap, v = .slice (some a) 0 cap)) ∨ ∃ b off cap, v = .slice (some ⟨b, off, none⟩) l.length cap ∧ b < w.heap.size ∧ ∀ (j : Nat) x, l[j]? = some x → w.cell? ⟨b, off + j, none⟩ = some (V8 x)
theorem Ext.cell {w w' : World} (h : Ext w w') {b i : Nat} (hb : b < w.heap.size) : w'.cell? ⟨b, i, none⟩ = w.cell? ⟨b, i, none⟩ := by
 obtain ⟨x, rfl⟩ := h; exact more_cell w x b i hb
theorem Ext.size {w w' : World} (h : Ext w w') : w.heap.size ≤ w'.heap.size := by
 obtain ⟨x, rfl⟩ := h; rw [more_size]; omega
theorem SlB.ext {w w' : World} {v : Value} {l : List (BitVec 8)} (h : SlB w v l) (hx : Ext w w') : SlB w' v l := by
 rcases h with h | ⟨b, off, cap, hv, hb, hc⟩
 ·exact .inl h
 ·exact .inr ⟨b, off, cap, hv, Nat.lt_of_lt_of_le hb hx.size, fun j x hj => by rw [hx.cell hb]; exact hc j x hj⟩
theorem SlB.nil (w : World) : SlB w (.slice none 0 0) [] := .inl ⟨rfl, .inl rfl⟩
theorem SlB.form {w : World} {v : Value} {l : List (BitVec 8)} (h : SlB w v l) : ∃ a cap, v = .slice a l.length cap := by
 rcases h with ⟨rfl, rfl | ⟨a, cap, rfl⟩⟩ | ⟨b, off, cap, rfl, _, _⟩
 ·exact ⟨none, 0, rfl⟩
 ·exact ⟨_, cap, rfl⟩
 ·exact ⟨_, cap, rfl⟩
theorem SlB.of_owns {w : World} {base E : Nat} {v : Value} {n : Nat} {l : List (BitVec 8)} (h : w.ownsRow base E 1 v n (l.map V8)) : SlB w v l := by
 obtain ⟨h1, h2⟩ := h
 rcases h2 with ⟨rfl, rfl⟩ | ⟨g, cap, cur, rfl, _, hg, _, _, _, ht⟩
 ·have : l = [] := by simpa using h1
  exact .inl ⟨this, .inl rfl⟩
 ·have hn : n = l.length := by simpa using h1.symm
  subst hn
  refine .inr ⟨g, 0, cap, rfl, by rw [Array.getElem?_eq_some_iff] at hg; exact hg.1, fun j x hj => ?_⟩
  rw [cell_of_row w g (0 + j) cur E (0, 0) hg]
  have hlt : j < l.length := by rw [List.getElem?_eq_some_iff] at hj; exact hj.1
  have h3 : (cur.toList.take (l.length * 1))[j]? = some (V8 x) := by rw [ht]; simp [hj]
  rw [List.getElem?_take, if_pos (by omega)] at h3
  simpa using h3
theorem SlB.of_block {w : World} {b E : Nat} {l : List (BitVec 8)} {fr : Nat × Nat} {cap : Nat} (h : w.heap[b]? = some (.cells (l.map V8).toArray E fr)) : SlB w (.slice (some ⟨b, 0, none⟩) l.length cap) l := by
 refine .inr ⟨b, 0, cap, rfl, by rw [Array.getElem?_eq_some_iff] at h; exact h.1, fun j x hj => ?_⟩
 rw [cell_of_row w b (0 + j) _ E fr h]
 simp [hj]
def RetB (l : List (BitVec 8)) (w : World) (e : Ending) (w' : World) : Prop := ∃ v, e = .returned v ∧ SlB w' v l ∧ Ext w w'
theorem wpList_append_SlB {P : Program} {w : World} {ops : Array Oper} {rest : List Oper} {o : Oper} {a : Act} {Q : Exit → Act → World → Prop} (hgd : o.guard = none) (s x : Operand) (t : TypeId)
  (ho : o.op = .call { callee := .builtin .append, args := #[s, x], argTypes := #[t, t] })
  (base : Nat) (e : TypeId) (i : TypeInfo) (ht : P.underlying t = some (.slice e)) (hi : P.info? e = some i) (hz : i.zero = some (.int .u8 0)) (hsize : i.size = 1) (hby : i.bytes = 1)
  (v : Value) (l : List (BitVec 8)) (hs : a.eval s = v) (hown : w.ownsRow base e 1 v l.length (l.map V8)) (y : Value) (m : List (BitVec 8)) (hx : a.eval x = y) (hy : SlB w y m)
  (hlen : l.length + m.length ≤ 1000000) (hbase : base ≤ w.heap.size)
  (h : ∀ v' w', w'.ownsRow base e 1 v' (l ++ m).length ((l ++ m).map V8) → w.grownBy w' v.ownBlock → wpList P ops Q rest (a.put o.dst v') w') : wpList P ops Q (o :: rest) a w := by
 rcases hy with ⟨rfl, rfl | ⟨ad, cap, rfl⟩⟩ | ⟨b, off, cap, rfl, hb, hc⟩
 ·refine wpList_append_own_none hgd s x t ho base e i 1 ht hi v l.length (l.map V8) hs hown hx ?_
  exact h v w (by simpa using hown) ⟨rfl, rfl, rfl, Nat.le_refl _, fun _ _ _ => rfl⟩
 ·refine wpList_append_own w hgd s x t ho base e i (.int .u8 0) 1 1 ht hi hz hsize hby rfl (by decide) v l.length (l.map V8) hs hown ad 0 cap [] hx (by simp) (fun j u hj => by simp at hj) (fun u hu => by cases hu) (by simp only [maxLen]; simp at hlen; omega) (by simp at hlen; omega) hbase ?_
  intro v' w' h1 h2 _
  exact h v' w' (by simpa using h1) h2
 ·refine wpList_append_own w hgd s x t ho base e i (.int .u8 0) 1 1 ht hi hz hsize hby rfl (by decide) v l.length (l.map V8) hs hown ⟨b, off, none⟩ m.length cap (m.map V8) hx (by simp) ?_ (mem_V8 m) (by simp only [maxLen]; omega) (by omega) hbase ?_
  ·intro j u hj
   rw [Addr.add_mid]
   rw [List.getElem?_map] at hj
   cases hm : m[j]? with
   | none => simp [hm] at hj
   | some z => simp [hm] at hj; subst hj; exact hc j z hm
  ·intro v' w' h1 h2 _
   exact h v' w' (by simpa using h1) h2
theorem Ext.grown {w w1 w2 : World} {row : Option Nat} (h : Ext w w1) (hg : w1.grownBy w2 row) (hr : ∀ k, row = some k → w.heap.size ≤ k) : Ext w w2 :=
 Ext.of_below (Below.grown h.below hg h.size hr)
theorem owns_block {w : World} {base E n : Nat} {v : Value} {xs : List Value} (h : w.ownsRow base E 1 v n xs) : ∀ k, v.ownBlock = some k → base ≤ k := by
 intro k hk
 obtain ⟨_, h2⟩ := h
 rcases h2 with ⟨rfl, _⟩ | ⟨g, cap, cur, rfl, hb, _⟩
 ·cases hk
 ·have : g = k := by simpa [Value.ownBlock] using hk
  omega
theorem owns_nil (w : World) (base E : Nat) : w.ownsRow base E 1 (.slice none 0 0) ([] : List (BitVec 8)).length (([] : List (BitVec 8)).map V8) := ⟨rfl, .inl ⟨rfl, rfl⟩⟩
def strB (s : ByteArray) : List (BitVec 8) := s.data.toList.map fun b => BitVec.ofNat 8 b.toNat
theorem strB_len (s : ByteArray) : (strB s).length = s.size := by simp [strB]
theorem strB_at (s : ByteArray) (j : Nat) (x : BitVec 8) (h : (strB s)[j]? = some x) : j < s.size ∧ Value.int .u8 ((s.data.toList.getD j 0).toNat : Int) = V8 x := by
 have hj : j < s.size := by
  rw [← strB_len]; rw [List.getElem?_eq_some_iff] at h; exact h.1
 refine ⟨hj, ?_⟩
 unfold strB at h
 rw [List.getElem?_map] at h
 have hj' : j < s.data.toList.length := by simpa using hj
 rw [List.getElem?_eq_getElem hj'] at h
 have hx : BitVec.ofNat 8 (s.data.toList[j]).toNat = x := by simpa using h
 subst hx
 have hg : s.data.toList.getD j 0 = s.data.toList[j] := by simp [List.getD, List.getElem?_eq_getElem hj']
 rw [hg]
 have := (s.data.toList[j]).toNat_lt
 unfold V8 wI
 rw [BitVec.toNat_ofNat, Nat.mod_eq_of_lt (by simpa using this)]
theorem ext_bytesWorld (w : World) (e : TypeId) (s : ByteArray) : Ext w (Lib.bytesWorld w e s) :=
 Ext.of_below ⟨by simp [Lib.bytesWorld, World.freeze, World.alloc, World.drew, -World.alloc_eq, -World.drew_eq], by simp [Lib.bytesWorld, World.freeze, World.alloc, World.drew, -World.alloc_eq, -World.drew_eq], by simp [Lib.bytesWorld, World.freeze, World.alloc, World.drew, -World.alloc_eq, -World.drew_eq], by rw [Lib.bytesWorld_size]; omega, fun k hk => Lib.bytesWorld_at_old w e s k hk⟩
theorem wpList_strB {P : Program} {w : World} {ops : Array Oper} {rest : List Oper} {o : Oper} {a : Act} {Q : Exit → Act → World → Prop} (hgd : o.guard = none) (src dst e : TypeId) (x : Operand) (ho : o.op = .convert src dst x)
  (s : ByteArray) (hx : a.eval x = .string s) (hs : P.underlying src = some .string) (hd : P.underlying dst = some (.slice e)) (he : P.underlying e = some (.int .u8))
  (h : ∀ (b cap : Nat) (y : Xtra), Kp (SlB (more w y) (.slice (some ⟨b, 0, none⟩) s.size cap) (strB s)) → wpList P ops Q rest (a.put o.dst (.slice (some ⟨b, 0, none⟩) s.size cap)) (more w y)) : wpList P ops Q (o :: rest) a w := by
 refine wpList_plain hgd fun K hK => ?_
 have hrun := Lib.run_convert_string_bytes (P := P) w src dst e s hs hd he
 obtain ⟨y, hy⟩ := ext_bytesWorld w e s
 unfold Oper.wp
 simp only [execOp, ho, hx]
 simp only [Sem.run_bind, hrun, Result.andThen_ok, Sem.run_pure, Oper.upon_value]
 rw [hy]
 refine hK _ _ (h _ _ y (kp ?_))
 rw [← hy]
 refine .inr ⟨w.heap.size, 0, _, by rw [strB_len], by rw [Lib.bytesWorld_size]; omega, fun j z hj => ?_⟩
 obtain ⟨h1, h2⟩ := strB_at s j z hj
 rw [Nat.zero_add, Lib.bytesWorld_cell w e s j h1, h2]
section
variable {P : Program} {ops : Array Oper}
structure InvS (ops : Array Oper) (S : Tmp → Value → World → Prop) (n iA dA : Nat) (Z : Obj) (W : World) (a0 : Act) (rem : List Nat) (listed : Array Bool) (a : Act) (w : World) : Prop where
 head : HeadInv .any ops n listed
 nodup : rem.Nodup
 lt : ∀ j ∈ rem, j < n
 mem : ∀ j, j < n → (listed.getD j false = true ↔ j ∉ rem)
 size : a.tmps.size = a0.tmps.size
 defers : a.defers = a0.defers
 done : ∀ d, d ≠ dA → (∃ j o, j < n ∧ j ∉ rem ∧ ops[j]? = some o ∧ o.dst = some d) → ∃ v, a.tmps[d]? = some v ∧ S d v w
 open_ : ∀ d, d ≠ dA → (∀ j o, j < n → j ∉ rem → ops[j]? = some o → o.dst ≠ some d) → a.tmps[d]? = a0.tmps[d]?
 ext : Ext W w
 made : iA < n → iA ∉ rem → ∃ b, W.heap.size ≤ b ∧ w.heap[b]? = some Z ∧ a.tmps[dA]? = some (.pointer (some ⟨b, 0, none⟩))
theorem InvS.step {S : Tmp → Value → World → Prop} (hS : ∀ d v w w', S d v w → Ext w w' → S d v w') {n iA dA : Nat} {Z : Obj} {W : World} {a0 : Act} {rem : List Nat} {listed : Array Bool} {a : Act} {w w' : World} (inv : InvS ops S n iA dA Z W a0 rem listed a w)
  {i : Nat} {o : Oper} (hi : i ∈ Region.ready .any ops listed) (hin : i < n) (ho : ops[i]? = some o) (v : Value) (hext : Ext w w')
  (hsz : ∀ (j : Nat) o d, j < n → ops[j]? = some o → o.dst = some d → d < a0.tmps.size)
  (hv : ∀ d, o.dst = some d → d ≠ dA → S d v w')
  (hm : iA < n → iA ∉ rem.erase i → ∃ b, W.heap.size ≤ b ∧ w'.heap[b]? = some Z ∧ (a.put o.dst v).tmps[dA]? = some (.pointer (some ⟨b, 0, none⟩))) :
  InvS ops S n iA dA Z W a0 (rem.erase i) (listed.setIfInBounds i true) (a.put o.dst v) w' := by
 have hun := (mem_ready.1 hi).1
 have hirem : i ∈ rem := by
  rcases Classical.em (i ∈ rem) with h | h
  ·exact h
  ·have := (inv.mem i hin).2 h
   rw [getD_both hun] at this; cases this
 have hmem : ∀ j, j < n → (j ∉ rem.erase i ↔ j ∉ rem ∨ j = i) := fun j _ => by
  rw [inv.nodup.mem_erase_iff]
  constructor
  ·intro h; by_cases hj : j = i
   ·exact .inr hj
   ·exact .inl fun hm => h ⟨hj, hm⟩
  ·rintro (h | h) ⟨h1, h2⟩
   ·exact h h2
   ·exact h1 h
 have hlen : i < listed.size := by
  rcases Nat.lt_or_ge i listed.size with h | h
  ·exact h
  ·simp [Array.getElem?_eq_none h] at hun
 refine ⟨inv.head.set hi hin, inv.nodup.erase i, fun j hj => inv.lt j (List.mem_of_mem_erase hj), fun j hj => ?_, by rw [put_size, inv.size], by rw [put_defers, inv.defers], fun d hd h => ?_, fun d hd h => ?_, inv.ext.trans hext, hm⟩
 ·rw [hmem j hj]
  by_cases hji : i = j
  ·subst hji; simp [hlen]
  ·rw [getD_set_ne false hji, inv.mem j hj]
   exact ⟨fun h => .inl h, fun h => h.resolve_right fun e => hji e.symm⟩
 ·obtain ⟨j, oj, hj, hjr, hoj, hdj⟩ := h
  by_cases hod : o.dst = some d
  ·rw [hod, put_get, if_pos rfl]
   have hlt : d < a.tmps.size := by rw [inv.size]; exact hsz i o d hin ho hod
   exact ⟨v, by rw [if_pos hlt], hv d hod hd⟩
  ·rw [put_other _ _ _ _ hod]
   obtain ⟨u, hu1, hu2⟩ := inv.done d hd ⟨j, oj, hj, (by
    rcases (hmem j hj).1 hjr with h | h
    ·exact h
    ·subst h; rw [ho] at hoj; cases hoj; exact absurd hdj hod), hoj, hdj⟩
   exact ⟨u, hu1, hS d u w w' hu2 hext⟩
 ·have hod : o.dst ≠ some d := h i o hin ((hmem i hin).2 (.inr rfl)) ho
  rw [put_other _ _ _ _ hod]
  exact inv.open_ d hd fun j oj hj hjr hoj => h j oj hj ((hmem j hj).2 (.inl hjr)) hoj
def FinS (ops : Array Oper) (S : Tmp → Value → World → Prop) (n iA dA : Nat) (Z : Obj) (W : World) (a0 a' : Act) (w' : World) : Prop :=
 Ext W w' ∧ a'.tmps.size = a0.tmps.size ∧ a'.defers = a0.defers ∧ (∀ d, d ≠ dA → (∃ j o, j < n ∧ ops[j]? = some o ∧ o.dst = some d) → ∃ v, a'.tmps[d]? = some v ∧ S d v w') ∧ (∀ d, d ≠ dA → (∀ j o, j < n → ops[j]? = some o → o.dst ≠ some d) → a'.tmps[d]? = a0.tmps[d]?) ∧
 (iA < n → ∃ b, W.heap.size ≤ b ∧ w'.heap[b]? = some Z ∧ a'.tmps[dA]? = some (.pointer (some ⟨b, 0, none⟩)))
theorem flat_spine {S : Tmp → Value → World → Prop} (hS : ∀ d v w w', S d v w → Ext w w' → S d v w') {n iA dA : Nat} {Z : Obj} {W : World} {a0 : Act} {Q : Exit → Act → World → Prop} (hB : flatB ops n = true)
  (hsz : ∀ (j : Nat) o d, j < n → ops[j]? = some o → o.dst = some d → d < a0.tmps.size)
  (hq : ∀ i o, i < n → i ≠ iA → ops[i]? = some o → ∀ (b : Act) (w : World), b.tmps.size = a0.tmps.size → (∀ d ∈ o.looksAt ops, (∀ j o, j < n → ops[j]? = some o → o.dst ≠ some d) → b.tmps[d]? = a0.tmps[d]?) → Ext W w → (∀ d ∈ o.looksAt ops, (∃ j o, j < n ∧ ops[j]? = some o ∧ o.dst = some d) → ∃ v, b.tmps[d]? = some v ∧ S d v w) →
   ∀ K : Act → World → Prop, (∀ v w', (∀ d, o.dst = some d → S d v w') → Ext w w' → K (b.put o.dst v) w') → if Region.wanted o (yielded ops b.tmps) then o.wp P b w K Q else K (b.put o.dst undef) w)
  (hdA : ∀ i o, i < n → i ≠ iA → ops[i]? = some o → o.dst ≠ some dA ∧ dA ∉ o.looksAt ops)
  (hmk : ∀ o, iA < n → ops[iA]? = some o → o.dst = some dA ∧ o.guard = none ∧ dA < a0.tmps.size ∧ ∀ (e : Operand → Value) (w : World), (execOp e o).run P w = .ok (.value (.pointer (some ⟨w.heap.size, 0, none⟩))) (w.alloc Z))
  (ht : ∀ a' w', FinS ops S n iA dA Z W a0 a' w' → wpList P ops Q (ops.toList.drop n) a' w') :
  ∀ (f : Nat) (rem : List Nat) (listed : Array Bool) (a : Act) (w : World), rem.length = f → InvS ops S n iA dA Z W a0 rem listed a w → wpAny P .any ops Q (f + (ops.size - n)) listed a w := by
 simp only [flatB, Bool.and_eq_true, Bool.or_eq_true, decide_eq_true_eq] at hB
 obtain ⟨⟨⟨⟨hsel, hn⟩, hsc⟩, hseq⟩, hhd⟩ := hB
 have hselS := Region.noSelect_spec hsel
 intro f
 induction f with
 | zero =>
  intro rem listed a w hf inv
  have hnil : rem = [] := List.eq_nil_of_length_eq_zero hf
  subst hnil
  have hlisted : listed = (List.replicate n true ++ List.replicate (ops.size - n) false).toArray := by
   have hs := inv.head.size
   refine Array.ext (by simp [hs]; omega) fun j h1 h2 => ?_
   rcases Nat.lt_or_ge j n with hj | hj
   ·have := (inv.mem j hj).2 (by simp)
    simp [h1] at this
    simp [this, hj, List.getElem_append_left]
   ·have := inv.head.tail j hj (by rw [← hs]; exact h1)
    simp [h1] at this
    rw [this]
    simp only [List.getElem_toArray]
    rw [List.getElem_append_right (by simpa using hj)]
    simp
  have hfin : FinS ops S n iA dA Z W a0 a w :=
   ⟨inv.ext, inv.size, inv.defers, fun d hd ⟨j, o, hj, hoj, hdj⟩ => inv.done d hd ⟨j, o, hj, by simp, hoj, hdj⟩, fun d hd h => inv.open_ d hd fun j o hj _ hoj => h j o hj hoj, fun h => inv.made h (by simp)⟩
  have hl : (ops.toList.drop n).length = ops.size - n := by simp
  have := wpAny_of_seq (P := P) (md := .any) (Q' := Q) (ops := ops) (ops.toList.drop n) n listed a w (fun j => by simp [List.getElem?_drop]) (by rw [hl, hlisted]; exact hseq) (ht a w hfin)
  rw [hl] at this
  rw [Nat.zero_add]; exact this
 | succ f ih =>
  intro rem listed a w hf inv
  have hne : ∃ i, i ∈ rem := by
   cases rem with
   | nil => simp at hf
   | cons x l => exact ⟨x, by simp⟩
  have hpos : 0 < n := by obtain ⟨i, hi⟩ := hne; have := inv.lt i hi; omega
  -- the least one that is not listed is ready
  have hleast : ∀ k, (∃ i, i ≤ k ∧ i ∈ rem) → ∃ i ∈ rem, ∀ j ∈ rem, i ≤ j := by
   intro k
   induction k with
   | zero => rintro ⟨i, hi, him⟩; exact ⟨i, him, fun j _ => by omega⟩
   | succ k ihk =>
    rintro ⟨i, hi, him⟩
    rcases Classical.em (∃ i, i ≤ k ∧ i ∈ rem) with h | h
    ·exact ihk h
    ·refine ⟨i, him, fun j hj => ?_⟩
     rcases Nat.lt_or_ge j i with h' | h'
     ·exact absurd ⟨j, by omega, hj⟩ h
     ·exact h'
  obtain ⟨i9, hi9⟩ := hne
  obtain ⟨i0, hi0, hmin⟩ := hleast i9 ⟨i9, Nat.le_refl _, hi9⟩
  have hi0n := inv.lt i0 hi0
  have hi0u : listed.getD i0 false = false := by
   cases h : listed.getD i0 false with
   | false => rfl
   | true => exact absurd hi0 ((inv.mem i0 hi0n).1 h)
  have hi0s : i0 < listed.size := by rw [inv.head.size]; omega
  have hrow := fun i (hi : i < n) => List.all_eq_true.1 hhd i (List.mem_range.2 hi)
  have hready : i0 ∈ Region.ready .any ops listed := by
   have hr := hrow i0 hi0n
   cases ho : ops[i0]? with
   | none => simp [ho] at hr
   | some o =>
    simp only [ho, Bool.and_eq_true] at hr
    refine mem_ready.2 ⟨getD_in hi0s hi0u, o, ho, fun e he hb => ?_⟩
    have := Array.all_eq_true'.1 hr.1 e he
    simp [hb] at this
    refine (inv.mem e.on (by omega)).2 fun hm => ?_
    have := hmin _ hm; omega
  rw [show f + 1 + (ops.size - n) = (f + (ops.size - n)) + 1 by omega]
  refine ⟨fun h => (by rw [h] at hready; cases hready), fun i hi => ?_⟩
  have hin : i < n := by
   rcases Nat.lt_or_ge i n with h | h
   ·exact h
   ·rcases hsc with ⟨⟨hlt, hs⟩, hc⟩ | heq
    ·exact absurd hi (tail_waits hs hc hlt inv.head _ i0 rfl hi0n (getD_in hi0s hi0u) i h)
    ·obtain ⟨_, o, ho, _⟩ := mem_ready.1 hi
     have := (Array.getElem?_eq_some_iff.1 ho).1
     omega
  obtain ⟨hun, o, ho, hall⟩ := mem_ready.1 hi
  have hirem : i ∈ rem := by
   rcases Classical.em (i ∈ rem) with h | h
   ·exact h
   ·have := (inv.mem i hin).2 h
    rw [getD_both hun] at this; cases this
  have hlen : (rem.erase i).length = f := by rw [List.length_erase_of_mem hirem]; omega
  have hkeep : ∀ {w' : World}, Ext w w' → ∀ v, i ≠ iA → iA < n → iA ∉ rem.erase i → ∃ b, W.heap.size ≤ b ∧ w'.heap[b]? = some Z ∧ (a.put o.dst v).tmps[dA]? = some (.pointer (some ⟨b, 0, none⟩)) := by
   intro w' hext v hiA hlt hnr
   have hnr' : iA ∉ rem := fun hm => hnr ((inv.nodup.mem_erase_iff).2 ⟨fun e => hiA e.symm, hm⟩)
   obtain ⟨b, h1, h2, h3⟩ := inv.made hlt hnr'
   exact ⟨b, h1, ext_heap hext h2, by rw [put_other _ _ _ _ (hdA i o hin hiA ho).1]; exact h3⟩
  unfold wpOp
  simp only [ho]
  by_cases hiA : i = iA
  ·subst hiA
   obtain ⟨hd, hg, hlt, hrun⟩ := hmk o hin ho
   rw [if_pos (by simp [Region.wanted, hg])]
   refine .inl ?_
   unfold Oper.wp
   rw [hrun a.eval w]
   refine ih (rem.erase i) _ _ _ hlen (inv.step hS hi hin ho _ (Ext.alloc w Z) hsz (fun d hd' hne => absurd (by rw [hd] at hd'; exact (Option.some.inj hd').symm) hne) fun _ _ => ?_)
   refine ⟨w.heap.size, ?_, heap_alloc_new w Z, by rw [hd, put_get, if_pos rfl, if_pos (by rw [inv.size]; exact hlt)]⟩
   obtain ⟨x, hx⟩ := inv.ext
   rw [hx, more_size]; omega
  ·have hdne : ∀ d ∈ o.looksAt ops, d ≠ dA := fun d hd e => (hdA i o hin hiA ho).2 (e ▸ hd)
   have H := hq i o hin hiA ho a w inv.size (fun d hd h => inv.open_ d (hdne d hd) fun j o hj _ hoj => h j o hj hoj) inv.ext (fun d hd ⟨j, oj, hj, hoj, hdj⟩ => by
    have hr := hrow i hin
    simp only [ho, Bool.and_eq_true] at hr
    have h2 := List.all_eq_true.1 hr.2 d hd
    have h3 := List.all_eq_true.1 h2 j (List.mem_range.2 hj)
    simp only [hoj, hdj, Bool.or_eq_true] at h3
    have h4 : Region.waitsFor .any ops i j = true := by
     rcases h3 with h | h
     ·simp at h
     ·exact h
    obtain ⟨oi, hoi, e, he, hb, hon⟩ := Region.waitsFor_spec h4
    have : oi = o := Option.some.inj (hoi.symm.trans ho)
    subst this
    have := hall e he hb
    rw [hon] at this
    exact inv.done d (hdne d hd) ⟨j, oj, hj, (inv.mem j hj).1 this, hoj, hdj⟩)
    (wpAny P .any ops Q (f + (ops.size - n)) (listed.setIfInBounds i true))
    (fun v w' hv hext => ih (rem.erase i) _ _ _ hlen (inv.step hS hi hin ho v hext hsz (fun d hd _ => hv d hd) (hkeep hext v hiA)))
   split
   ·rename_i hw; rw [if_pos hw] at H; exact .inl H
   ·rename_i hw; rw [if_neg hw] at H; exact H
theorem invS_start {l : List Oper} {S : Tmp → Value → World → Prop} {n iA dA : Nat} {Z : Obj} {a : Act} {w : World} : InvS l.toArray S n iA dA Z w a (List.range n) (Array.replicate l.toArray.size false) a w.drew := by
 refine ⟨⟨by simp, fun j oj _ hl => (by rw [getD_replicate_false] at hl; cases hl), fun t _ ht => getD_in (by simpa using ht) (getD_replicate_false _ _)⟩, List.nodup_range, fun j hj => List.mem_range.1 hj, fun j hj => ?_, rfl, rfl, fun d _ h => ?_, fun _ _ _ => rfl, Ext.drew w, fun h hn' => ?_⟩
 ·rw [getD_replicate_false]; simp [hj]
 ·obtain ⟨j, o, hj, hjr, _⟩ := h; exact absurd (List.mem_range.2 hj) hjr
 ·exact absurd (List.mem_range.2 h) hn'
theorem InvS.base {S : Tmp → Value → World → Prop} {n iA dA : Nat} {Z : Obj} {W : World} {x : Xtra} {a0 : Act} {rem : List Nat} {listed : Array Bool} {a : Act} {w : World} (inv : InvS ops S n iA dA Z (more W x) a0 rem listed a w) : InvS ops S n iA dA Z W a0 rem listed a w :=
 ⟨inv.head, inv.nodup, inv.lt, inv.mem, inv.size, inv.defers, inv.done, inv.open_, (Ext.more W x).trans inv.ext, fun h1 h2 => by obtain ⟨b, h3, h4⟩ := inv.made h1 h2; exact ⟨b, by rw [more_size] at h3; omega, h4⟩⟩
def KS (S : Tmp → Value → World → Prop) (o : Oper) (a : Act) (w : World) (ex : Exit) (a' : Act) (w' : World) : Prop := ex = .normal ∧ ∃ v, a' = a.put o.dst v ∧ (∀ d, o.dst = some d → S d v w') ∧ Ext w w'
theorem put_inj {a : Act} {d : Tmp} {v u : Value} (hd : d < a.tmps.size) (h : a.put (some d) v = a.put (some d) u) : v = u := by
 have := congrArg (fun x : Act => x.tmps[d]?) h
 simp only [put_get, if_pos, hd] at this
 exact Option.some.inj this
theorem wp_transfer {S : Tmp → Value → World → Prop} {o : Oper} {a b : Act} {w : World} {K : Act → World → Prop} {Q : Exit → Act → World → Prop} (hE : execOp a.eval o = execOp b.eval o) (hd : ∀ d, o.dst = some d → d < a.tmps.size)
  (h : o.wp P a w (KS S o a w .normal) (KS S o a w)) (hk : ∀ v w', (∀ d, o.dst = some d → S d v w') → Ext w w' → K (b.put o.dst v) w') : o.wp P b w K Q := by
 have key : ∀ v w', KS S o a w .normal (a.put o.dst v) w' → K (b.put o.dst v) w' := by
  rintro v w' ⟨_, u, he, hs, hx⟩
  refine hk v w' (fun d hdd => ?_) hx
  rw [hdd] at he
  rw [put_inj (hd d hdd) he]
  exact hs d hdd
 unfold Oper.wp at *
 rw [← hE]
 generalize (execOp a.eval o).run P w = r at *
 cases r with
 | ok n w' =>
  cases n <;> simp only [Oper.upon] at h ⊢
  case value v => exact key v w' h
  case skip => exact key undef w' h
  case defer d =>
   exfalso
   obtain ⟨_, u, he, _, _⟩ := h
   have := congrArg Act.defers he
   rw [put_defers, put_defers] at this
   exact absurd (congrArg List.length this) (by simp)
  case enter f args =>
   refine Calls.mono h fun e w'' he => ?_
   cases e with
   | returned v => exact key v w'' he
   | panicked c => exact absurd he.1 (by intro h; cases h)
   | outgrown => obtain ⟨_, _, h1, _⟩ := he; cases h1
  case row r args => exact Rows.mono h fun v w'' he => key v w'' he
 | halt x w' =>
  cases x <;> simp only [Oper.upon] at h ⊢
  case panic v => exact absurd h.1 (by intro h; cases h)
def wpS (P : Program) (ops : Array Oper) (W : World) (S : Tmp → Value → World → Prop) (D : List Tmp) (fin : Act → Prop) : List Oper → Act → Prop
 | [], a => fin a
 | o :: l, a => (∀ w, Ext W w → (∀ d ∈ o.looksAt ops, d ∈ D → S d (a.tmps.getD d undef) w) → wpList P ops (KS S o a w) [o] a w) ∧ ∀ v, wpS P ops W S D fin l (a.put o.dst v)
theorem spine_of_walk {W : World} {S : Tmp → Value → World → Prop} {D : List Tmp} {fin : Act → Prop} {Q : Exit → Act → World → Prop} (hsel : ∀ (j : Nat) (o : Oper) cs b, ops[j]? = some o → o.op ≠ .select cs b) : ∀ (l : List Oper) (a : Act), (∀ o ∈ l, ∃ j : Nat, ops[j]? = some o) → (∀ o ∈ l, ∀ d, o.dst = some d → d < a.tmps.size) → topoB ops l = true →
  wpS P ops W S D fin l a → ∀ o ∈ l, ∀ (b : Act) (w : World), b.tmps.size = a.tmps.size → (∀ d ∈ o.looksAt ops, d ∉ dsts l → b.tmps[d]? = a.tmps[d]?) → Ext W w → (∀ d ∈ o.looksAt ops, d ∈ D → S d (b.tmps.getD d undef) w) →
   ∀ K : Act → World → Prop, (∀ v w', (∀ d, o.dst = some d → S d v w') → Ext w w' → K (b.put o.dst v) w') → if Region.wanted o (yielded ops b.tmps) then o.wp P b w K Q else K (b.put o.dst undef) w
 | [], _, _, _, _, _, o, ho => by cases ho
 | o :: l, a, hin, hlt, ht, h, o', ho' => by
  simp only [topoB, Bool.and_eq_true] at ht
  obtain ⟨⟨t1, t2⟩, t3⟩ := ht
  obtain ⟨h1, h2⟩ := h
  intro b w hb hag hext hSd K hK
  by_cases heq : o' ∈ l
  ·have hsame : ∀ d ∈ o'.looksAt ops, d ∉ dsts l → b.tmps[d]? = (a.put o.dst (b.tmps.getD (o.dst.getD 0) undef)).tmps[d]? := fun d hd hn => by
    cases hod : o.dst with
    | none => exact hag d hd (by simp only [dsts, List.filterMap_cons, hod]; exact hn)
    | some e =>
     have he := hlt o (by simp) e hod
     rw [put_get]
     by_cases hde : e = d
     ·subst hde
      rw [if_pos rfl, if_pos he]
      have heb : e < b.tmps.size := by rw [hb]; exact he
      simp [heb]
     ·rw [if_neg hde]
      refine hag d hd ?_
      simp only [dsts, List.filterMap_cons, hod, List.mem_cons, not_or]
      exact ⟨fun e' => hde e'.symm, hn⟩
   exact spine_of_walk hsel l _ (fun x hx => hin x (by simp [hx])) (fun x hx d hd => by rw [put_size]; exact hlt x (by simp [hx]) d hd) t3 (h2 (b.tmps.getD (o.dst.getD 0) undef)) o' heq b w (by rw [put_size]; exact hb) hsame hext hSd K hK
  ·have hoo : o' = o := by
    rcases List.mem_cons.1 ho' with h | h
    ·exact h
    ·exact absurd h heq
   subst hoo
   have hl : ∀ d ∈ o'.looksAt ops, a.tmps[d]? = b.tmps[d]? := fun d hd => by
    have := List.all_eq_true.1 t1 d hd
    exact (hag d hd (by simpa using this)).symm
   obtain ⟨j, hj⟩ := hin o' (by simp)
   obtain ⟨e1, e2⟩ := eval_same (ops := ops) hl (fun cs b => hsel j o' cs b hj)
   have H := h1 w hext fun d hd hD => by
    have := hSd d hd hD
    rw [Array.getD_eq_getD_getElem?] at this ⊢
    rw [hl d hd]; exact this
   unfold wpList at H
   rw [e2] at H
   split at H
   ·rename_i hw
    rw [if_pos hw]
    rcases H with H | ⟨_, _, _, hc, _⟩
    ·exact wp_transfer e1 (hlt o' (by simp)) (Oper.wp_mono (fun _ _ h => h) H) hK
    ·cases hc
   ·rename_i hw
    rw [if_neg hw]
    obtain ⟨_, u, he, hs, hx⟩ := H
    refine hK undef w (fun d hd => ?_) (Ext.refl w)
    rw [hd] at he
    rw [put_inj (hlt o' (by simp) d hd) he]
    exact hs d hd
theorem mem_dsts {l : List Oper} {d : Tmp} : d ∈ dsts l ↔ ∃ o ∈ l, o.dst = some d := by simp [dsts]
theorem region_spine {id : Nat} {Q : Exit → Act → World → Prop} {a : Act} {w : World} {l : List Oper} (S : Tmp → Value → World → Prop) (hS : ∀ d v w w', S d v w → Ext w w' → S d v w') (n iA dA : Nat) (Z : Obj) (hm : P.follows .mixedOrders = true)
  (hB : flatB l.toArray n = true) (hT : topoB l.toArray ((l.take n).eraseIdx iA) = true) (hF : freshB l.toArray n iA dA = true) (hD : ((l.take n).all fun o => match o.dst with | some d => decide (d < a.tmps.size) | none => true) = true)
  (hmk : ∀ o, l.toArray[iA]? = some o → o.dst = some dA ∧ o.guard = none ∧ dA < a.tmps.size ∧ ∀ (e : Operand → Value) (w : World), (execOp e o).run P w = .ok (.value (.pointer (some ⟨w.heap.size, 0, none⟩))) (w.alloc Z)) (hi : iA < n)
  (W : World) (hw : w = W ∨ ∃ x00, w = more W x00)
  (h : wpS P l.toArray W S (dsts ((l.take n).eraseIdx iA)) (fun a' => ∀ x1 x2, (∀ d ∈ dsts ((l.take n).eraseIdx iA), S d (a'.tmps.getD d undef) (more ((more W x1).alloc Z) x2)) → wpList P l.toArray Q (l.drop n) (a'.put (some dA) (.pointer (some ⟨W.heap.size + x1.blocks.size, 0, none⟩))) (more ((more W x1).alloc Z) x2)) ((l.take n).eraseIdx iA) a) :
  (Code.region id l.toArray true).wp P Q a w := by
 have hn := flatB_le hB
 have hmem : ∀ o, o ∈ (l.take n).eraseIdx iA → o ∈ l.take n := fun o ho => List.mem_of_mem_eraseIdx ho
 have hin : ∀ (i : Nat) (o : Oper), i < n → i ≠ iA → l.toArray[i]? = some o → o ∈ (l.take n).eraseIdx iA := fun i o hi hne ho => by
  have : (l.take n)[i]? = some o := by rw [List.getElem?_take, if_pos hi]; simpa using ho
  exact List.mem_eraseIdx_iff_getElem?.2 ⟨i, hne, this⟩
 have hout : ∀ o, o ∈ (l.take n).eraseIdx iA → ∃ j : Nat, j < n ∧ j ≠ iA ∧ l.toArray[j]? = some o := fun o ho => by
  obtain ⟨j, hne, hj⟩ := List.mem_eraseIdx_iff_getElem?.1 ho
  rw [List.getElem?_take] at hj
  split at hj
  ·rename_i hlt; exact ⟨j, hlt, hne, by simpa using hj⟩
  ·cases hj
 have hlt : ∀ o ∈ l.take n, ∀ d, o.dst = some d → d < a.tmps.size := fun o ho d hd => by
  have := List.all_eq_true.1 hD o ho
  rw [hd] at this; simpa using this
 have hfr := freshB_spec hF
 refine wp_region_any hm ?_
 have hwalk := fun o ho => spine_of_walk (P := P) (ops := l.toArray) (Q := Q) (Region.noSelect_spec (flatB_sel hB)) ((l.take n).eraseIdx iA) a (fun o' ho' => by
   obtain ⟨j, _, _, hj⟩ := hout o' ho'; exact ⟨j, hj⟩) (fun o' ho' => hlt o' (hmem o' ho')) hT h o ho
 have H := flat_spine (P := P) (ops := l.toArray) (S := S) hS (n := n) (iA := iA) (dA := dA) (Z := Z) (W := W) (a0 := a) (Q := Q) hB
  (fun j o d hj hoj hd => hlt o (by
   have : (l.take n)[j]? = some o := by rw [List.getElem?_take, if_pos hj]; simpa using hoj
   exact List.mem_of_getElem? this) d hd)
  (fun i o hi2 hne ho b w hb hop hext hdn K hK => by
   refine hwalk o (hin i o hi2 hne ho) b w hb (fun d hd hnd => hop d hd fun j oj hj hoj hdj => ?_) hext (fun d hd hdD => ?_) K hK
   ·by_cases hj' : j = iA
    ·subst hj'
     obtain ⟨q1, _⟩ := hmk oj hoj
     rw [q1] at hdj
     exact (hfr i o hi2 hne ho).2 (Option.some.inj hdj ▸ hd)
    ·exact hnd (mem_dsts.2 ⟨oj, hin j oj hj hj' hoj, hdj⟩)
   ·obtain ⟨oj, hoj, hdj⟩ := mem_dsts.1 hdD
    obtain ⟨j, hj, _, hj2⟩ := hout oj hoj
    obtain ⟨v, hv1, hv2⟩ := hdn d hd ⟨j, oj, hj, hj2, hdj⟩
    rw [Array.getD_eq_getD_getElem?, hv1]; exact hv2)
  hfr (fun o _ ho => hmk o ho)
  (by
   intro a' w' hf
   obtain ⟨⟨x, rfl⟩, h2, h3, h4, h5, h6⟩ := hf
   obtain ⟨b, hb1, hb2, hb3⟩ := h6 hi
   obtain ⟨x1, x2, e1, e2⟩ := more_split W x b Z hb1 hb2
   -- the walk's end, at the values that stand there
   have hend : ∀ (L : List Oper) (c : Act), c.tmps.size = a'.tmps.size → c.defers = a'.defers → (∀ o ∈ L, ∀ d, o.dst = some d → d < c.tmps.size) → (∀ d, d ≠ dA → d ∉ dsts L → c.tmps[d]? = a'.tmps[d]?) → (∀ d ∈ dsts L, d ≠ dA) → ∀ {D : List Tmp} {fin : Act → Prop}, wpS P l.toArray W S D fin L c → ∃ c', fin c' ∧ c'.tmps.size = a'.tmps.size ∧ c'.defers = a'.defers ∧ ∀ d, d ≠ dA → c'.tmps[d]? = a'.tmps[d]? := by
    intro L
    induction L with
    | nil => intro c hs hdf _ hag _ D fin hw; exact ⟨c, hw, hs, hdf, fun d hd => hag d hd (by simp [dsts])⟩
    | cons o L ih =>
     intro c hs hdf hlt2 hag hne2 D fin hw
     refine ih (c.put o.dst (a'.tmps.getD (o.dst.getD 0) undef)) (by rw [put_size]; exact hs) (by rw [put_defers]; exact hdf) (fun x hx d hd => by rw [put_size]; exact hlt2 x (by simp [hx]) d hd) (fun d hd hnd => ?_) (fun d hd => hne2 d (by
      obtain ⟨x, hx, hxd⟩ := mem_dsts.1 hd; exact mem_dsts.2 ⟨x, by simp [hx], hxd⟩)) (hw.2 _)
     cases hod : o.dst with
     | none => exact hag d hd (by simp only [dsts, List.filterMap_cons, hod]; exact hnd)
     | some e =>
      have he := hlt2 o (by simp) e hod
      rw [put_get]
      by_cases hde : e = d
      ·subst hde
       rw [if_pos rfl, if_pos he]
       have heb : e < a'.tmps.size := by rw [← hs]; exact he
       simp [heb]
      ·rw [if_neg hde]
       refine hag d hd ?_
       simp only [dsts, List.filterMap_cons, hod, List.mem_cons, not_or]
       exact ⟨fun e' => hde e'.symm, hnd⟩
   obtain ⟨c', hfin, hcs, hcd, hca⟩ := hend ((l.take n).eraseIdx iA) a h2.symm h3.symm (fun o ho => hlt o (hmem o ho)) (fun d hd hnd => (h5 d hd fun j oj hj hoj hdj => by
     by_cases hj' : j = iA
     ·subst hj'
      obtain ⟨q1, _⟩ := hmk oj hoj
      rw [q1] at hdj
      exact hd (Option.some.inj hdj).symm
     ·exact hnd (mem_dsts.2 ⟨oj, hin j oj hj hj' hoj, hdj⟩)).symm) (fun d hd => by
     obtain ⟨oj, hoj, hdj⟩ := mem_dsts.1 hd
     obtain ⟨j, hj, hne, hj2⟩ := hout oj hoj
     exact fun e => (hfr j oj hj hne hj2).1 (e ▸ hdj)) h
   have : a' = c'.put (some dA) (.pointer (some ⟨W.heap.size + x1.blocks.size, 0, none⟩)) := act_ext (by rw [put_defers, hcd]) fun d => by
    by_cases hd : d = dA
    ·subst hd
     rw [hb3, put_get, if_pos rfl, e1, if_pos]
     rw [hcs]; exact (Array.getElem?_eq_some_iff.1 hb3).1
    ·rw [← hca d hd, put_other _ _ _ _ (fun e => hd (Option.some.inj e).symm)]
   rw [this, e2]
   have hlist : l.toArray.toList.drop n = l.drop n := by simp
   rw [hlist]
   refine hfin x1 x2 fun d hd => ?_
   obtain ⟨oj, hoj, hdj⟩ := mem_dsts.1 hd
   obtain ⟨j, hj, hne, hj2⟩ := hout oj hoj
   have hdA : d ≠ dA := fun e => (hfr j oj hj hne hj2).1 (e ▸ hdj)
   obtain ⟨v, hv1, hv2⟩ := h4 d hdA ⟨j, oj, hj, hj2, hdj⟩
   rw [Array.getD_eq_getD_getElem?, hca d hdA, hv1, ← e2]; exact hv2)
  n (List.range n) (Array.replicate l.toArray.size false) a w.drew (by simp)
  (by
   rcases hw with rfl | ⟨x00, rfl⟩
   ·exact invS_start
   ·exact invS_start.base)
 rw [show n + (l.toArray.size - n) = l.toArray.size by omega] at H
 exact H
end
theorem kso {S : Tmp → Value → World → Prop} {o : Oper} {a b : Act} {w : World} {d : Tmp} {v : Value} (h1 : b = a.put o.dst v := by rfl) (h2 : o.dst = some d := by rfl) (h3 : S d v w := by rfl) : KS S o a w .normal b w := ⟨rfl, v, h1, fun d' hd => by rw [h2] at hd; cases hd; exact h3, Ext.refl w⟩
section
variable {P : Program} {ops : Array Oper}
theorem region_spine0 {id : Nat} {Q : Exit → Act → World → Prop} {a : Act} {w : World} {l : List Oper} (S : Tmp → Value → World → Prop) (hS : ∀ d v w w', S d v w → Ext w w' → S d v w') (n : Nat) (hm : P.follows .mixedOrders = true)
  (hB : flatB l.toArray n = true) (hT : topoB l.toArray (l.take n) = true) (hF : freshB l.toArray n 1000 100000 = true) (hN : n ≤ 1000) (hA5 : a.tmps.size ≤ 100000) (hD : ((l.take n).all fun o => match o.dst with | some d => decide (d < a.tmps.size) | none => true) = true)
  (W : World) (hw : w = W ∨ ∃ x00, w = more W x00)
  (h : wpS P l.toArray W S (dsts (l.take n)) (fun a' => ∀ x1, (∀ d ∈ dsts (l.take n), S d (a'.tmps.getD d undef) (more W x1)) → wpList P l.toArray Q (l.drop n) a' (more W x1)) (l.take n) a) :
  (Code.region id l.toArray true).wp P Q a w := by
 have hn := flatB_le hB
 have hmem : ∀ o, o ∈ l.take n → o ∈ l.take n := fun o ho => ho
 have hin : ∀ (i : Nat) (o : Oper), i < n → l.toArray[i]? = some o → o ∈ l.take n := fun i o hi ho => by
  have : (l.take n)[i]? = some o := by rw [List.getElem?_take, if_pos hi]; simpa using ho
  exact List.mem_of_getElem? this
 have hout : ∀ o, o ∈ l.take n → ∃ j : Nat, j < n ∧ l.toArray[j]? = some o := fun o ho => by
  obtain ⟨j, hj⟩ := List.getElem?_of_mem ho
  rw [List.getElem?_take] at hj
  split at hj
  ·rename_i hlt; exact ⟨j, hlt, by simpa using hj⟩
  ·cases hj
 have hlt : ∀ o ∈ l.take n, ∀ d, o.dst = some d → d < a.tmps.size := fun o ho d hd => by
  have := List.all_eq_true.1 hD o ho
  rw [hd] at this; simpa using this
 have hfr := freshB_spec hF
 refine wp_region_any hm ?_
 have hwalk := fun o ho => spine_of_walk (P := P) (ops := l.toArray) (Q := Q) (Region.noSelect_spec (flatB_sel hB)) (l.take n) a (fun o' ho' => by
   obtain ⟨j, _, hj⟩ := hout o' ho'; exact ⟨j, hj⟩) hlt hT h o ho
 have H := flat_spine (P := P) (ops := l.toArray) (S := S) hS (n := n) (iA := 1000) (dA := 100000) (Z := .cells #[] 0) (W := W) (a0 := a) (Q := Q) hB
  (fun j o d hj hoj hd => hlt o (hin j o hj hoj) d hd)
  (fun i o hi2 hne ho b w hb hop hext hdn K hK => by
   refine hwalk o (hin i o hi2 ho) b w hb (fun d hd hnd => hop d hd fun j oj hj hoj hdj => hnd (mem_dsts.2 ⟨oj, hin j oj hj hoj, hdj⟩)) hext (fun d hd hdD => ?_) K hK
   obtain ⟨oj, hoj, hdj⟩ := mem_dsts.1 hdD
   obtain ⟨j, hj, hj2⟩ := hout oj hoj
   obtain ⟨v, hv1, hv2⟩ := hdn d hd ⟨j, oj, hj, hj2, hdj⟩
   rw [Array.getD_eq_getD_getElem?, hv1]; exact hv2)
  hfr (fun o hlt' _ => absurd hlt' (by omega))
  (by
   intro a' w' hf
   obtain ⟨⟨x, rfl⟩, h2, h3, h4, h5, _⟩ := hf
   have hend : ∀ (L : List Oper) (c : Act), c.tmps.size = a'.tmps.size → c.defers = a'.defers → (∀ o ∈ L, ∀ d, o.dst = some d → d < c.tmps.size) → (∀ d, d < a'.tmps.size → d ∉ dsts L → c.tmps[d]? = a'.tmps[d]?) → ∀ {D : List Tmp} {fin : Act → Prop}, wpS P l.toArray W S D fin L c → ∃ c', fin c' ∧ c'.tmps.size = a'.tmps.size ∧ c'.defers = a'.defers ∧ ∀ d, d < a'.tmps.size → c'.tmps[d]? = a'.tmps[d]? := by
    intro L
    induction L with
    | nil => intro c hs hdf _ hag D fin hw; exact ⟨c, hw, hs, hdf, fun d hd => hag d hd (by simp [dsts])⟩
    | cons o L ih =>
     intro c hs hdf hlt2 hag D fin hw
     refine ih (c.put o.dst (a'.tmps.getD (o.dst.getD 0) undef)) (by rw [put_size]; exact hs) (by rw [put_defers]; exact hdf) (fun x hx d hd => by rw [put_size]; exact hlt2 x (by simp [hx]) d hd) (fun d hd hnd => ?_) (hw.2 _)
     cases hod : o.dst with
     | none => exact hag d hd (by simp only [dsts, List.filterMap_cons, hod]; exact hnd)
     | some e =>
      have he := hlt2 o (by simp) e hod
      rw [put_get]
      by_cases hde : e = d
      ·subst hde
       rw [if_pos rfl, if_pos he]
       have heb : e < a'.tmps.size := by rw [← hs]; exact he
       simp [heb]
      ·rw [if_neg hde]
       refine hag d hd ?_
       simp only [dsts, List.filterMap_cons, hod, List.mem_cons, not_or]
       exact ⟨fun e' => hde e'.symm, hnd⟩
   obtain ⟨c', hfin, hcs, hcd, hca⟩ := hend (l.take n) a h2.symm h3.symm hlt (fun d hd hnd => (h5 d (by rw [h2] at hd; omega) fun j oj hj hoj hdj => hnd (mem_dsts.2 ⟨oj, hin j oj hj hoj, hdj⟩)).symm) h
   have : a' = c' := act_ext hcd.symm fun d => by
    by_cases hd : d < a'.tmps.size
    ·exact (hca d hd).symm
    ·rw [Array.getElem?_eq_none (by omega), Array.getElem?_eq_none (by omega)]
   rw [this]
   have hlist : l.toArray.toList.drop n = l.drop n := by simp
   rw [hlist]
   refine hfin x fun d hd => ?_
   obtain ⟨oj, hoj, hdj⟩ := mem_dsts.1 hd
   obtain ⟨j, hj, hj2⟩ := hout oj hoj
   have hdl := hlt oj hoj d hdj
   obtain ⟨v, hv1, hv2⟩ := h4 d (Nat.ne_of_lt (Nat.lt_of_lt_of_le hdl hA5)) ⟨j, oj, hj, hj2, hdj⟩
   rw [Array.getD_eq_getD_getElem?, ← this, hv1]; exact hv2)
  n (List.range n) (Array.replicate l.toArray.size false) a w.drew (by simp)
  (by
   rcases hw with rfl | ⟨x00, rfl⟩
   ·exact invS_start
   ·exact invS_start.base)
 rw [show n + (l.toArray.size - n) = l.toArray.size by omega] at H
 exact H
end
section
variable {P : Program}
theorem isAgg_int (w : World) {E : TypeId} {k : IntKind} (hE : P.underlying E = some (.int k)) : (isAgg E).run P w = .ok false w := by
 unfold isAgg; rw [Sem.run_bind, run_underlying hE w]; rfl
theorem eqItems_ints {m : Nat} (w : World) (d : Nat) {E : TypeId} {k : IntKind} (hE : P.underlying E = some (.int k)) (l l' : List (BitVec m)) (h : l.length = l'.length) :
  ∀ (c s : Nat), s + c = l.length →
  (Op.eqItems (d + 1) E 1 (l.map fun x => Value.int k (wI x)).toArray (l'.map fun x => Value.int k (wI x)).toArray (List.range' s c)).run P w = .ok (l.drop s == l'.drop s) w := by
 intro c
 induction c with
 | zero =>
  intro s hs
  have e1 : l.drop s = [] := List.drop_of_length_le (by omega)
  have e2 : l'.drop s = [] := List.drop_of_length_le (by omega)
  rw [e1, e2]; simp [Op.eqItems]
 | succ c ih =>
  intro s hs
  have h1 : s < l.length := by omega
  have h2 : s < l'.length := by omega
  rw [List.drop_eq_getElem_cons h1, List.drop_eq_getElem_cons h2, List.range'_succ]
  have p1 : (part E (l.map fun x => Value.int k (wI x)).toArray (s * 1)).run P w = .ok (.int k (wI l[s])) w := by
   simp [part, isAgg_int w hE, h1]
  have p2 : (part E (l'.map fun x => Value.int k (wI x)).toArray (s * 1)).run P w = .ok (.int k (wI l'[s])) w := by
   simp [part, isAgg_int w hE, h2]
  simp only [Op.eqItems, Sem.run_bind, p1, p2, Result.andThen_ok, run_equalIn_int w d E k k (wI l[s]) (wI l'[s]) hE, wI_beq, Sem.run_ite]
  cases hb : (l[s] == l'[s]) with
  | false => simp only [Bool.not_false, if_true, List.cons_beq_cons, hb, Bool.false_and]; rfl
  | true => simp only [Bool.not_true, Bool.false_eq_true, if_false, List.cons_beq_cons, hb, Bool.true_and]; exact ih (s + 1) (by omega)
theorem run_eq_ints {m : Nat} (w : World) {T E n : Nat} {k : IntKind} (hT : P.underlying T = some (.array n E)) (hE : P.underlying E = some (.int k)) (hs : (P.info? E).map (·.size) = some 1)
  (l l' : List (BitVec m)) (h : l.length = n) (h' : l'.length = n) (d : Nat) :
  (Op.equalIn (d + 2) T (.agg (l.map fun x => Value.int k (wI x)).toArray) (.agg (l'.map fun x => Value.int k (wI x)).toArray)).run P w = .ok (l == l') w := by
 cases hq : P.info? E with
 | none => simp [hq] at hs
 | some j =>
  have hj : j.size = 1 := by simpa [hq] using hs
  have hc : P.cellsOf E = 1 := by simp [Program.cellsOf, hq, hj]
  rw [run_equalIn_array w (d + 1) _ _ hT hq, hc, List.range_eq_range']
  have := eqItems_ints (P := P) w d hE l l' (by omega) n 0 (by omega)
  simpa using this
end
end Go.Proofs.Ytibncchobkaaiaa
