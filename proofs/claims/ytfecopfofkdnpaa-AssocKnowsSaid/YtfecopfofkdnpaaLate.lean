/- A region that draws its order, all of whose operations are quiet but two: one makes a variable, and one stores a row into it. The store may come up at any time behind what it waits for. -/
import Derived.Test.YtfecopfofkdnpaaFlat
namespace Go.Proofs.Ytfecopfofkdnpaa
open Go.RowKit
section
variable {P : Program} {ops : Array Oper}

/-- What the new block holds: as long as the store is to come, Z. -/
def Zat (iS : Nat) (Z Z2 : Obj) (rem : List Nat) : Obj := if iS ∈ rem then Z else Z2
theorem ext_setRow {W w : World} {b : Nat} {cs : Array Value} (h : Ext W w) (hb : W.heap.size ≤ b) : Ext W (w.setRow b cs) := by
  have hB := h.below
  refine Ext.of_below ⟨hB.os, hB.tape, hB.output, by simp only [World.setRow, Array.size_modify]; exact hB.size, fun k hk => ?_⟩
  simp only [World.setRow, Array.getElem?_modify]
  rw [if_neg (by omega)]
  exact hB.block k hk

structure InvL (ops : Array Oper) (n iA dA iS : Nat) (Z Z2 : Obj) (W : World) (a0 A : Act) (rem : List Nat) (listed : Array Bool) (a : Act) (w : World) : Prop where
  head : HeadInv .any ops n listed
  nodup : rem.Nodup
  lt : ∀ j ∈ rem, j < n
  mem : ∀ j, j < n → (listed.getD j false = true ↔ j ∉ rem)
  size : a.tmps.size = a0.tmps.size
  defers : a.defers = a0.defers
  done : ∀ d, d ≠ dA → (∃ j o, j < n ∧ j ∉ rem ∧ ops[j]? = some o ∧ o.dst = some d) → a.tmps[d]? = A.tmps[d]?
  open_ : ∀ d, d ≠ dA → (∀ j o, j < n → j ∉ rem → ops[j]? = some o → o.dst ≠ some d) → a.tmps[d]? = a0.tmps[d]?
  ext : Ext W w
  made : iA < n → iA ∉ rem → ∃ b, W.heap.size ≤ b ∧ w.heap[b]? = some (Zat iS Z Z2 rem) ∧ a.tmps[dA]? = some (.pointer (some ⟨b, 0, none⟩))

theorem InvL.step {n iA dA iS : Nat} {Z Z2 : Obj} {W : World} {a0 A : Act} {rem : List Nat} {listed : Array Bool} {a : Act} {w w' : World} (inv : InvL ops n iA dA iS Z Z2 W a0 A rem listed a w)
    {i : Nat} {o : Oper} (hi : i ∈ Region.ready .any ops listed) (hin : i < n) (ho : ops[i]? = some o) (v : Value) (hext : Ext W w')
    (hv : ∀ d, o.dst = some d → d ≠ dA → d < a0.tmps.size → A.tmps[d]? = some v) (hsz : A.tmps.size = a0.tmps.size)
    (hm : iA < n → iA ∉ rem.erase i → ∃ b, W.heap.size ≤ b ∧ w'.heap[b]? = some (Zat iS Z Z2 (rem.erase i)) ∧ (a.put o.dst v).tmps[dA]? = some (.pointer (some ⟨b, 0, none⟩))) :
    InvL ops n iA dA iS Z Z2 W a0 A (rem.erase i) (listed.setIfInBounds i true) (a.put o.dst v) w' := by
  have hun := (mem_ready.1 hi).1
  have hirem : i ∈ rem := by
    rcases Classical.em (i ∈ rem) with h | h
    · exact h
    · have := (inv.mem i hin).2 h
      rw [getD_both hun] at this; cases this
  have hmem : ∀ j, j < n → (j ∉ rem.erase i ↔ j ∉ rem ∨ j = i) := fun j _ => by
    rw [inv.nodup.mem_erase_iff]
    constructor
    · intro h; by_cases hj : j = i
      · exact .inr hj
      · exact .inl fun hm => h ⟨hj, hm⟩
    · rintro (h | h) ⟨h1, h2⟩
      · exact h h2
      · exact h1 h
  have hlen : i < listed.size := by
    rcases Nat.lt_or_ge i listed.size with h | h
    · exact h
    · simp [Array.getElem?_eq_none h] at hun
  refine ⟨inv.head.set hi hin, inv.nodup.erase i, fun j hj => inv.lt j (List.mem_of_mem_erase hj), fun j hj => ?_, by rw [put_size, inv.size], by rw [put_defers, inv.defers], fun d hd h => ?_, fun d hd h => ?_, hext, hm⟩
  · rw [hmem j hj]
    by_cases hji : i = j
    · subst hji; simp [hlen]
    · rw [getD_set_ne false hji, inv.mem j hj]
      exact ⟨fun h => .inl h, fun h => h.resolve_right fun e => hji e.symm⟩
  · obtain ⟨j, oj, hj, hjr, hoj, hdj⟩ := h
    by_cases hod : o.dst = some d
    · rw [hod, put_get, if_pos rfl]
      by_cases hlt : d < a.tmps.size
      · rw [if_pos hlt, hv d hod hd (by rw [← inv.size]; exact hlt)]
      · rw [if_neg hlt, Array.getElem?_eq_none (by rw [hsz, ← inv.size]; omega)]
    · rw [put_other _ _ _ _ hod]
      refine inv.done d hd ⟨j, oj, hj, ?_, hoj, hdj⟩
      rcases (hmem j hj).1 hjr with h | h
      · exact h
      · subst h; rw [ho] at hoj; cases hoj; exact absurd hdj hod
  · have hod : o.dst ≠ some d := h i o hin ((hmem i hin).2 (.inr rfl)) ho
    rw [put_other _ _ _ _ hod]
    exact inv.open_ d hd fun j oj hj hjr hoj => h j oj hj ((hmem j hj).2 (.inl hjr)) hoj

theorem flat_late {n iA dA iS : Nat} {Z Z2 : Obj} {W : World} {a0 A : Act} {Q : Exit → Act → World → Prop} (hn0 : n = ops.size) (hne : iS ≠ iA) (hB : flatB ops n = true)
    (hA : A.tmps.size = a0.tmps.size ∧ A.defers = a0.defers ∧ ∀ d, (∀ j o, j < n → ops[j]? = some o → o.dst ≠ some d) → A.tmps[d]? = a0.tmps[d]?)
    (hq : ∀ i o, i < n → i ≠ iA → i ≠ iS → ops[i]? = some o → ∀ x0, FlatAt P ops (Cx W x0) A o)
    (hdA : ∀ i o, i < n → i ≠ iA → i ≠ iS → ops[i]? = some o → o.dst ≠ some dA ∧ dA ∉ o.looksAt ops)
    (hmk : ∀ o, iA < n → ops[iA]? = some o → o.dst = some dA ∧ o.guard = none ∧ dA < a0.tmps.size ∧ ∀ (e : Operand → Value) (w : World), (execOp e o).run P w = .ok (.value (.pointer (some ⟨w.heap.size, 0, none⟩))) (w.alloc Z))
    (hin1 : iA < n) (hst1 : iS < n)
    (hst : ∀ o, ops[iS]? = some o → o.dst = none ∧ o.guard = none ∧ Region.waitsFor .any ops iS iA = true ∧ ∀ (a : Act) (w : World) (b : Nat), (∀ d ∈ o.looksAt ops, d ≠ dA → a.tmps[d]? = A.tmps[d]?) → a.tmps[dA]? = some (.pointer (some ⟨b, 0, none⟩)) → w.heap[b]? = some Z → ∃ cs, (execOp a.eval o).run P w = .ok .skip (w.setRow b cs) ∧ (w.setRow b cs).heap[b]? = some Z2)
    (ht : ∀ a' w', Fin n iA dA Z2 W A a' w' → wpList P ops Q (ops.toList.drop n) a' w') :
    ∀ (f : Nat) (rem : List Nat) (listed : Array Bool) (a : Act) (w : World), rem.length = f → InvL ops n iA dA iS Z Z2 W a0 A rem listed a w → wpAny P .any ops Q (f + (ops.size - n)) listed a w := by
  simp only [flatB, Bool.and_eq_true, Bool.or_eq_true, decide_eq_true_eq] at hB
  obtain ⟨⟨⟨⟨hsel, hn⟩, hsc⟩, hseq⟩, hhd⟩ := hB
  have hselS := Region.noSelect_spec hsel
  intro f
  induction f with
  | zero =>
    intro rem listed a w hf inv
    have hnil : rem = [] := List.eq_nil_of_length_eq_zero hf
    subst hnil
    have hlisted : listed = (List.replicate n true ++ List.replicate (ops.size - n) false).toArray := by
      have hs := inv.head.size
      refine Array.ext (by simp [hs]; omega) fun j h1 h2 => ?_
      rcases Nat.lt_or_ge j n with hj | hj
      · have := (inv.mem j hj).2 (by simp)
        simp [h1] at this
        simp [this, hj, List.getElem_append_left]
      · have := inv.head.tail j hj (by rw [← hs]; exact h1)
        simp [h1] at this
        rw [this]
        simp only [List.getElem_toArray]
        rw [List.getElem_append_right (by simpa using hj)]
        simp
    have hfin : Fin n iA dA Z2 W A a w := by
      refine ⟨inv.ext, by rw [inv.size, hA.1], by rw [inv.defers, hA.2.1], fun d hd => ?_, fun h => by have := inv.made h (by simp); simpa [Zat] using this⟩
      rcases Classical.em (∃ j o, j < n ∧ ops[j]? = some o ∧ o.dst = some d) with ⟨j, o, hj, hoj, hdj⟩ | hno
      · exact inv.done d hd ⟨j, o, hj, by simp, hoj, hdj⟩
      · have h2 : ∀ j o, j < n → ops[j]? = some o → o.dst ≠ some d := fun j o hj hoj hdj => hno ⟨j, o, hj, hoj, hdj⟩
        rw [inv.open_ d hd fun j o hj _ hoj => h2 j o hj hoj, hA.2.2 d h2]
    have hl : (ops.toList.drop n).length = ops.size - n := by simp
    have := wpAny_of_seq (P := P) (md := .any) (Q' := Q) (ops := ops) (ops.toList.drop n) n listed a w (fun j => by simp [List.getElem?_drop]) (by rw [hl, hlisted]; exact hseq) (ht a w hfin)
    rw [hl] at this
    rw [Nat.zero_add]; exact this
  | succ f ih =>
    intro rem listed a w hf inv
    have hne : ∃ i, i ∈ rem := by
      cases rem with
      | nil => simp at hf
      | cons x l => exact ⟨x, by simp⟩
    have hpos : 0 < n := by obtain ⟨i, hi⟩ := hne; have := inv.lt i hi; omega
    -- the least one that is not listed is ready
    have hleast : ∀ k, (∃ i, i ≤ k ∧ i ∈ rem) → ∃ i ∈ rem, ∀ j ∈ rem, i ≤ j := by
      intro k
      induction k with
      | zero => rintro ⟨i, hi, him⟩; exact ⟨i, him, fun j _ => by omega⟩
      | succ k ihk =>
        rintro ⟨i, hi, him⟩
        rcases Classical.em (∃ i, i ≤ k ∧ i ∈ rem) with h | h
        · exact ihk h
        · refine ⟨i, him, fun j hj => ?_⟩
          rcases Nat.lt_or_ge j i with h' | h'
          · exact absurd ⟨j, by omega, hj⟩ h
          · exact h'
    obtain ⟨i9, hi9⟩ := hne
    obtain ⟨i0, hi0, hmin⟩ := hleast i9 ⟨i9, Nat.le_refl _, hi9⟩
    have hi0n := inv.lt i0 hi0
    have hi0u : listed.getD i0 false = false := by
      cases h : listed.getD i0 false with
      | false => rfl
      | true => exact absurd hi0 ((inv.mem i0 hi0n).1 h)
    have hi0s : i0 < listed.size := by rw [inv.head.size]; omega
    have hrow := fun i (hi : i < n) => List.all_eq_true.1 hhd i (List.mem_range.2 hi)
    have hready : i0 ∈ Region.ready .any ops listed := by
      have hr := hrow i0 hi0n
      cases ho : ops[i0]? with
      | none => simp [ho] at hr
      | some o =>
        simp only [ho, Bool.and_eq_true] at hr
        refine mem_ready.2 ⟨getD_in hi0s hi0u, o, ho, fun e he hb => ?_⟩
        have := Array.all_eq_true'.1 hr.1 e he
        simp [hb] at this
        refine (inv.mem e.on (by omega)).2 fun hm => ?_
        have := hmin _ hm; omega
    rw [show f + 1 + (ops.size - n) = (f + (ops.size - n)) + 1 by omega]
    refine ⟨fun h => (by rw [h] at hready; cases hready), fun i hi => ?_⟩
    have hin : i < n := by
      rcases Nat.lt_or_ge i n with h | h
      · exact h
      · rcases hsc with ⟨⟨hlt, hs⟩, hc⟩ | heq
        · exact absurd hi (tail_waits hs hc hlt inv.head _ i0 rfl hi0n (getD_in hi0s hi0u) i h)
        · obtain ⟨_, o, ho, _⟩ := mem_ready.1 hi
          have := (Array.getElem?_eq_some_iff.1 ho).1
          omega
    obtain ⟨hun, o, ho, hall⟩ := mem_ready.1 hi
    have hirem : i ∈ rem := by
      rcases Classical.em (i ∈ rem) with h | h
      · exact h
      · have := (inv.mem i hin).2 h
        rw [getD_both hun] at this; cases this
    have hlen : (rem.erase i).length = f := by rw [List.length_erase_of_mem hirem]; omega
    have hkeep : ∀ {w' : World}, Ext w w' → ∀ v, i ≠ iA → i ≠ iS → iA < n → iA ∉ rem.erase i → ∃ b, W.heap.size ≤ b ∧ w'.heap[b]? = some (Zat iS Z Z2 (rem.erase i)) ∧ (a.put o.dst v).tmps[dA]? = some (.pointer (some ⟨b, 0, none⟩)) := by
      intro w' hext v hiA hiS hlt hnr
      have hz : Zat iS Z Z2 (rem.erase i) = Zat iS Z Z2 rem := by
        have hiff : iS ∈ rem.erase i ↔ iS ∈ rem := by
          rw [inv.nodup.mem_erase_iff]
          exact ⟨fun h => h.2, fun h => ⟨fun e => hiS e.symm, h⟩⟩
        unfold Zat
        by_cases h : iS ∈ rem
        · rw [if_pos h, if_pos (hiff.2 h)]
        · rw [if_neg h, if_neg (fun h' => h (hiff.1 h'))]
      rw [hz]
      have hnr' : iA ∉ rem := fun hm => hnr ((inv.nodup.mem_erase_iff).2 ⟨fun e => hiA e.symm, hm⟩)
      obtain ⟨b, h1, h2, h3⟩ := inv.made hlt hnr'
      exact ⟨b, h1, ext_heap hext h2, by rw [put_other _ _ _ _ (hdA i o hin hiA hiS ho).1]; exact h3⟩
    unfold wpOp
    simp only [ho]
    have hlg : ∀ d ∈ o.looksAt ops, d ≠ dA → a.tmps[d]? = A.tmps[d]? := fun d hd hdne => by
      have hr := hrow i hin
      simp only [ho, Bool.and_eq_true] at hr
      have h2 := List.all_eq_true.1 hr.2 d hd
      rcases Classical.em (∃ j oj, j < n ∧ ops[j]? = some oj ∧ oj.dst = some d) with ⟨j, oj, hj, hoj, hdj⟩ | hno
      · have h3 := List.all_eq_true.1 h2 j (List.mem_range.2 hj)
        simp only [hoj, hdj, Bool.or_eq_true] at h3
        have h4 : Region.waitsFor .any ops i j = true := by
          rcases h3 with h | h
          · simp at h
          · exact h
        obtain ⟨oi, hoi, e, he, hb, hon⟩ := Region.waitsFor_spec h4
        have : oi = o := Option.some.inj (hoi.symm.trans ho)
        subst this
        have := hall e he hb
        rw [hon] at this
        exact inv.done d hdne ⟨j, oj, hj, (inv.mem j hj).1 this, hoj, hdj⟩
      · have h3 : ∀ j o, j < n → ops[j]? = some o → o.dst ≠ some d := fun j oj hj hoj hdj => hno ⟨j, oj, hj, hoj, hdj⟩
        rw [inv.open_ d hdne fun j oj hj _ hoj => h3 j oj hj hoj, hA.2.2 d h3]
    by_cases hiA : i = iA
    · subst hiA
      obtain ⟨hd, hg, hlt, hrun⟩ := hmk o hin ho
      rw [if_pos (by simp [Region.wanted, hg])]
      refine .inl ?_
      unfold Oper.wp
      rw [hrun a.eval w]
      refine ih (rem.erase i) _ _ _ hlen (inv.step hi hin ho _ (inv.ext.trans (Ext.alloc w Z)) (fun d hd' hne => absurd (by rw [hd] at hd'; exact (Option.some.inj hd').symm) hne) hA.1 fun _ _ => ?_)
      have hz : Zat iS Z Z2 (rem.erase i) = Z := by
        have h1 : iS ∈ rem := by
          rcases Classical.em (iS ∈ rem) with h | h
          · exact h
          · exfalso
            have hlst : iS < n := by
              exact hst1
            have h2 := (inv.mem iS hlst).2 h
            obtain ⟨os, hos⟩ : ∃ os, ops[iS]? = some os := ⟨ops[iS]'(by omega), by simp⟩
            have h4 := (hst os hos).2.2.1
            obtain ⟨oi, hoi, e, he, hb, hon⟩ := Region.waitsFor_spec h4
            have h5 := inv.head.closed iS oi hoi h2 e he hb
            rw [hon] at h5
            rw [getD_both hun] at h5; cases h5
        unfold Zat
        rw [if_pos ((inv.nodup.mem_erase_iff).2 ⟨hne, h1⟩)]
      rw [hz]
      refine ⟨w.heap.size, ?_, heap_alloc_new w Z, by rw [hd, put_get, if_pos rfl, if_pos (by rw [inv.size]; exact hlt)]⟩
      obtain ⟨x, hx⟩ := inv.ext
      rw [hx, more_size]; omega
    · by_cases hiS : i = iS
      · subst hiS
        obtain ⟨hd, hg, hwf, hrun⟩ := hst o ho
        have hiAr : iA ∉ rem := by
          obtain ⟨oi, hoi, e, he, hb, hon⟩ := Region.waitsFor_spec hwf
          have : oi = o := Option.some.inj (hoi.symm.trans ho)
          subst this
          have := hall e he hb
          rw [hon] at this
          exact (inv.mem iA hin1).1 this
        obtain ⟨b, h1, h2, h3⟩ := inv.made hin1 hiAr
        rw [show Zat i Z Z2 rem = Z by unfold Zat; rw [if_pos hirem]] at h2
        obtain ⟨cs, hr, hz2⟩ := hrun a w b hlg h3 h2
        rw [if_pos (by simp [Region.wanted, hg])]
        refine .inl ?_
        unfold Oper.wp
        rw [hr]
        simp only [Oper.upon]
        refine ih (rem.erase i) _ _ _ hlen (inv.step hi hin ho undef (ext_setRow inv.ext h1) (fun d hd' => by rw [hd] at hd'; cases hd') hA.1 fun _ _ => ⟨b, h1, ?_, ?_⟩)
        · rw [show Zat i Z Z2 (rem.erase i) = Z2 by unfold Zat; rw [if_neg (inv.nodup.not_mem_erase)]]; exact hz2
        · rw [hd]; exact h3
      have hl : ∀ d ∈ o.looksAt ops, a.tmps[d]? = A.tmps[d]? := fun d hd => hlg d hd fun e => (hdA i o hin hiA hiS ho).2 (e ▸ hd)
      obtain ⟨e1, e2⟩ := eval_same (ops := ops) hl (fun cs b => hselS i o cs b ho)
      have hE := inv.ext
      obtain ⟨x, hx⟩ := inv.ext
      obtain ⟨v, hv, hcase⟩ := hq i o hin hiA hiS ho x
      rw [e2]
      have hstep : ∀ w', Ext w w' → wpAny P .any ops Q (f + (ops.size - n)) (listed.setIfInBounds i true) (a.put o.dst v) w' := fun w' hext =>
        ih (rem.erase i) _ _ _ hlen (inv.step hi hin ho v (hE.trans hext) (fun d hd _ hlt => hv d hd (by rw [hA.1]; exact hlt)) hA.1 (hkeep hext v hiA hiS))
      rcases hcase with ⟨hw, hqa⟩ | ⟨hw, hvu⟩
      · rw [if_pos hw]
        refine .inl ?_
        have h3 := hqa w (cx_of_ext (by rw [hx]; exact Ext.refl _))
        unfold Oper.quietAt at h3
        rw [← e1] at h3
        unfold Oper.wp
        generalize (execOp a.eval o).run P w = r at *
        cases r with
        | ok nx w' =>
          cases nx <;> simp only [Oper.quietUpon] at h3 <;> simp only [Oper.upon]
          case value u => obtain ⟨q1, q2⟩ := h3; rw [q1, q2]; exact hstep w (Ext.refl w)
          case skip => obtain ⟨q1, q2⟩ := h3; rw [q1, ← q2]; exact hstep w (Ext.refl w)
          case enter fn args =>
            obtain ⟨q1, hc⟩ := h3
            rw [q1]
            exact hc.mono fun e w'' ⟨he, hw''⟩ => by subst he; exact hstep w'' (by have := ext_of_cx hw''; rw [← hx] at this; exact this)
        | halt x' w' => simp only [Oper.quietUpon] at h3
      · rw [if_neg (by rw [hw]; exact Bool.false_ne_true)]
        rw [← hvu]; exact hstep w (Ext.refl w)

theorem invL_start {l : List Oper} {n iA dA iS : Nat} {Z Z2 : Obj} {a A : Act} {w : World} : InvL l.toArray n iA dA iS Z Z2 w a A (List.range n) (Array.replicate l.toArray.size false) a w.drew := by
  refine ⟨⟨by simp, fun j oj _ hl => (by rw [getD_replicate_false] at hl; cases hl), fun t _ ht => getD_in (by simpa using ht) (getD_replicate_false _ _)⟩, List.nodup_range, fun j hj => List.mem_range.1 hj, fun j hj => ?_, rfl, rfl, fun d _ h => ?_, fun _ _ _ => rfl, Ext.drew w, fun h hn' => ?_⟩
  · rw [getD_replicate_false]; simp [hj]
  · obtain ⟨j, o, hj, hjr, _⟩ := h; exact absurd (List.mem_range.2 hj) hjr
  · exact absurd (List.mem_range.2 h) hn'
theorem InvL.base {n iA dA iS : Nat} {Z Z2 : Obj} {W : World} {x : Xtra} {a0 A : Act} {rem : List Nat} {listed : Array Bool} {a : Act} {w : World} (inv : InvL ops n iA dA iS Z Z2 (more W x) a0 A rem listed a w) : InvL ops n iA dA iS Z Z2 W a0 A rem listed a w :=
  ⟨inv.head, inv.nodup, inv.lt, inv.mem, inv.size, inv.defers, inv.done, inv.open_, (Ext.more W x).trans inv.ext, fun h1 h2 => by obtain ⟨b, h3, h4⟩ := inv.made h1 h2; exact ⟨b, by rw [more_size] at h3; omega, h4⟩⟩

theorem mem_erase2 {l : List Oper} {iA iS i : Nat} {o : Oper} (hlt : iA < iS) (h1 : i ≠ iA) (h2 : i ≠ iS) (h : l[i]? = some o) : o ∈ (l.eraseIdx iS).eraseIdx iA := by
  refine List.mem_eraseIdx_iff_getElem?.2 ?_
  rcases Nat.lt_or_ge i iS with h3 | h3
  · exact ⟨i, h1, by rw [List.getElem?_eraseIdx_of_lt h3]; exact h⟩
  · refine ⟨i - 1, by omega, ?_⟩
    rw [List.getElem?_eraseIdx_of_ge (by omega), show i - 1 + 1 = i by omega]; exact h

theorem region_late {id : Nat} {Q : Exit → Act → World → Prop} {a : Act} {w : World} {l : List Oper} (iA dA iS sS : Nat) (ty t : TypeId) (old cells : Array Value) (hm : P.follows .mixedOrders = true)
    (hB : flatB l.toArray l.length = true) (hT : topoB l.toArray ((l.eraseIdx iS).eraseIdx iA) = true) (hF : ((List.range l.length).all fun i => match l.toArray[i]? with
      | some o => i == iA || i == iS || (o.dst != some dA && !(o.looksAt l.toArray).contains dA)
      | none => true) = true)
    (hmk : ∀ o, l.toArray[iA]? = some o → o.dst = some dA ∧ o.guard = none ∧ dA < a.tmps.size ∧ ∀ (e : Operand → Value) (w : World), (execOp e o).run P w = .ok (.value (.pointer (some ⟨w.heap.size, 0, none⟩))) (w.alloc (.cells old t)))
    (hop : ∀ o, l.toArray[iS]? = some o → o.dst = none ∧ o.guard = none ∧ o.op = .store ty (.tmp dA) (.tmp sS) ∧ sS ∈ o.looksAt l.toArray)
    (hwf : Region.waitsFor .any l.toArray iS iA = true) (hlt : iA < iS) (hiS : iS < l.length) (hsd : sS ≠ dA)
    (hsz : (P.info? ty).map (·.size) = some cells.size) (hold : old.size = cells.size) (h1 : cells.all (·.oneCell') = true)
    (W : World) (hw : w = W ∨ ∃ x00, w = more W x00)
    (h : ∃ A, (∀ x0, wpQuiet P l.toArray (Cx W x0) (fun a' => a' = A) ((l.eraseIdx iS).eraseIdx iA) a) ∧ A.tmps[sS]? = some (.agg cells) ∧
      ∀ x1 x2, wpList P l.toArray Q [] (A.put (some dA) (.pointer (some ⟨W.heap.size + x1.blocks.size, 0, none⟩))) (more ((more W x1).alloc (.cells cells t)) x2)) : (Code.region id l.toArray true).wp P Q a w := by
  obtain ⟨A, h, hS, ht⟩ := h
  have hmem : ∀ o, o ∈ (l.eraseIdx iS).eraseIdx iA → o ∈ l := fun o ho => List.mem_of_mem_eraseIdx (List.mem_of_mem_eraseIdx ho)
  have hk := quiet_keep ((l.eraseIdx iS).eraseIdx iA) a (h default)
  have hsz0 : l.toArray.size = l.length := by simp
  have hA : A.tmps.size = a.tmps.size ∧ A.defers = a.defers ∧ ∀ d, (∀ (j : Nat) o, j < l.length → l.toArray[j]? = some o → o.dst ≠ some d) → A.tmps[d]? = a.tmps[d]? := by
    refine ⟨hk.1, hk.2.1, fun d hd => hk.2.2 d fun hm => ?_⟩
    simp only [dsts, List.mem_filterMap] at hm
    obtain ⟨o, ho, hod⟩ := hm
    obtain ⟨j, hj⟩ := List.getElem?_of_mem (hmem o ho)
    exact hd j o (by rw [List.getElem?_eq_some_iff] at hj; exact hj.1) (by simpa using hj) hod
  refine wp_region_any hm ?_
  have H := flat_late (P := P) (ops := l.toArray) (n := l.length) (iA := iA) (dA := dA) (iS := iS) (Z := .cells old t) (Z2 := .cells cells t) (W := W) (a0 := a) (A := A) (Q := Q) hsz0.symm (by omega) hB hA
    (fun i o hi hne hne2 ho x0 => flat_of_walk (Region.noSelect_spec (flatB_sel hB)) ((l.eraseIdx iS).eraseIdx iA) a (fun o' ho' => by
      obtain ⟨j, hj⟩ := List.getElem?_of_mem (hmem o' ho'); exact ⟨j, by simpa using hj⟩) hT (h x0) o (mem_erase2 hlt hne hne2 (by simpa using ho)))
    (fun i o hi hne hne2 ho => by
      have := List.all_eq_true.1 hF i (List.mem_range.2 hi)
      simp only [ho, Bool.or_eq_true, beq_iff_eq, Bool.and_eq_true, bne_iff_ne] at this
      rcases this with (h | h) | h
      · exact absurd h hne
      · exact absurd h hne2
      · exact ⟨h.1, by simpa using h.2⟩)
    (fun o _ ho => hmk o ho) (by omega) hiS
    (fun o ho => by
      obtain ⟨h1', h2', h3', h4'⟩ := hop o ho
      refine ⟨h1', h2', hwf, fun a' w' b hl hp hz => ⟨cells, ?_, ?_⟩⟩
      · have hs : a'.tmps[sS]? = some (.agg cells) := by rw [hl sS h4' hsd]; exact hS
        have hv := run_storeVar_row (P := P) w' b t ty old cells hz hsz hold h1
        unfold execOp
        have e1 : a'.eval (.tmp dA) = .pointer (some ⟨b, 0, none⟩) := by simp [Act.eval, hp]
        have e2 : a'.eval (.tmp sS) = .agg cells := by simp [Act.eval, hs]
        simp only [h3', e1, e2, Instr.storeAt, Instr.sureAddr, Sem.run_bind, Sem.run_pure, Result.andThen_ok, hv]
      · simp only [World.setRow, Array.getElem?_modify, if_pos, hz, Option.map_some])
    (by
      intro a' w' hf
      have hd0 : l.toArray.toList.drop l.length = [] := by simp
      rw [hd0]
      obtain ⟨⟨x, rfl⟩, h2, h3, h4, h5⟩ := hf
      obtain ⟨b, hb1, hb2, hb3⟩ := h5 (by omega)
      obtain ⟨x1, x2, e1, e2⟩ := more_split W x b (.cells cells t) hb1 hb2
      have : a' = A.put (some dA) (.pointer (some ⟨W.heap.size + x1.blocks.size, 0, none⟩)) := act_ext (by rw [put_defers, h3]) fun d => by
        by_cases hd : d = dA
        · subst hd
          rw [hb3, put_get, if_pos rfl, e1, if_pos]
          rw [← h2]; exact (Array.getElem?_eq_some_iff.1 hb3).1
        · rw [h4 d hd, put_other _ _ _ _ (fun e => hd (Option.some.inj e).symm)]
      rw [this, e2]; exact ht x1 x2)
    l.length (List.range l.length) (Array.replicate l.toArray.size false) a w.drew (by simp)
    (by
      rcases hw with rfl | ⟨x00, rfl⟩
      · exact invL_start
      · exact invL_start.base)
  rw [show l.length + (l.toArray.size - l.length) = l.toArray.size by simp] at H
  exact H
end
end Go.Proofs.Ytfecopfofkdnpaa
