/- Texts of this proof, put together: FreeN, Sid. -/
import Derived.Test.YtibncchobkaaiaaC10
import Derived.Test.YtibncchobkaaiaaC27
import Derived.Test.YtibncchobkaaiaaC28
import Derived.Test.YtibncchobkaaiaaC1
namespace Go.Proofs.Ytibncchobkaaiaa
open Go.RowKit
def TrN (T B : Nat) (w w' : World) : Prop := Ext w w' ∨ ∃ g cs ds, B ≤ g ∧ Lc w g T cs ∧ w' = w.setRow g (ds : List Value).toArray
section
variable {P : Program} {ops : Array Oper}
structure InvN (ops : Array Oper) (S : Tmp → Value → World → Prop) (iA iS dA T : Nat) (c0 c1 : List Value) (n : Nat) (W : World) (a0 : Act) (rem : List Nat) (listed : Array Bool) (a : Act) (w : World) : Prop where
 head : HeadInv .any ops n listed
 nodup : rem.Nodup
 lt : ∀ j ∈ rem, j < n
 mem : ∀ j, j < n → (listed.getD j false = true ↔ j ∉ rem)
 size : a.tmps.size = a0.tmps.size
 defers : a.defers = a0.defers
 done : ∀ d, (∃ j o, j < n ∧ j ∉ rem ∧ ops[j]? = some o ∧ o.dst = some d) → ∃ v, a.tmps[d]? = some v ∧ S d v w
 open_ : ∀ d, (∀ j o, j < n → j ∉ rem → ops[j]? = some o → o.dst ≠ some d) → a.tmps[d]? = a0.tmps[d]?
 ext : Ext W w
 var : iA ∉ rem → ∃ g, a.tmps[dA]? = some (.pointer (some ⟨g, 0, none⟩)) ∧ W.heap.size ≤ g ∧ Lc w g T (if iS ∈ rem then c0 else c1)
 pre : iS ∉ rem → iA ∉ rem
theorem InvN.step {S : Tmp → Value → World → Prop} {iA iS dA T : Nat} {c0 c1 : List Value} {n : Nat} {W : World} (hS : ∀ d v w w', S d v w → TrN T W.heap.size w w' → S d v w') {a0 : Act} {rem : List Nat} {listed : Array Bool} {a : Act} {w w' : World} (inv : InvN ops S iA iS dA T c0 c1 n W a0 rem listed a w)
  {i : Nat} {o : Oper} (hi : i ∈ Region.ready .any ops listed) (hin : i < n) (ho : ops[i]? = some o) (v : Value) (htr : TrN T W.heap.size w w') (hext : Ext W w')
  (hsz : ∀ (j : Nat) o d, j < n → ops[j]? = some o → o.dst = some d → d < a0.tmps.size)
  (hv : ∀ d, o.dst = some d → S d v w')
  (hvar : iA ∉ rem.erase i → ∃ g, (a.put o.dst v).tmps[dA]? = some (.pointer (some ⟨g, 0, none⟩)) ∧ W.heap.size ≤ g ∧ Lc w' g T (if iS ∈ rem.erase i then c0 else c1)) (hpre : iS ∉ rem.erase i → iA ∉ rem.erase i) :
  InvN ops S iA iS dA T c0 c1 n W a0 (rem.erase i) (listed.setIfInBounds i true) (a.put o.dst v) w' := by
 have hun := (mem_ready.1 hi).1
 have hirem : i ∈ rem := by
  rcases Classical.em (i ∈ rem) with h | h
  ·exact h
  ·have := (inv.mem i hin).2 h
   rw [getD_both hun] at this; cases this
 have hmem : ∀ j, j < n → (j ∉ rem.erase i ↔ j ∉ rem ∨ j = i) := fun j _ => by
  rw [inv.nodup.mem_erase_iff]
  constructor
  ·intro h; by_cases hj : j = i
   ·exact .inr hj
   ·exact .inl fun hm => h ⟨hj, hm⟩
  ·rintro (h | h) ⟨h1, h2⟩
   ·exact h h2
   ·exact h1 h
 have hlen : i < listed.size := by
  rcases Nat.lt_or_ge i listed.size with h | h
  ·exact h
  ·simp [Array.getElem?_eq_none h] at hun
 refine ⟨inv.head.set hi hin, inv.nodup.erase i, fun j hj => inv.lt j (List.mem_of_mem_erase hj), fun j hj => ?_, by rw [put_size, inv.size], by rw [put_defers, inv.defers], fun d h => ?_, fun d h => ?_, hext, hvar, hpre⟩
 ·rw [hmem j hj]
  by_cases hji : i = j
  ·subst hji; simp [hlen]
  ·rw [getD_set_ne false hji, inv.mem j hj]
   exact ⟨fun h => .inl h, fun h => h.resolve_right fun e => hji e.symm⟩
 ·obtain ⟨j, oj, hj, hjr, hoj, hdj⟩ := h
  by_cases hod : o.dst = some d
  ·rw [hod, put_get, if_pos rfl]
   have hlt : d < a.tmps.size := by rw [inv.size]; exact hsz i o d hin ho hod
   exact ⟨v, by rw [if_pos hlt], hv d hod⟩
  ·rw [put_other _ _ _ _ hod]
   obtain ⟨u, hu1, hu2⟩ := inv.done d ⟨j, oj, hj, (by
    rcases (hmem j hj).1 hjr with h | h
    ·exact h
    ·subst h; rw [ho] at hoj; cases hoj; exact absurd hdj hod), hoj, hdj⟩
   exact ⟨u, hu1, hS d u w w' hu2 htr⟩
 ·have hod : o.dst ≠ some d := h i o hin ((hmem i hin).2 (.inr rfl)) ho
  rw [put_other _ _ _ _ hod]
  exact inv.open_ d fun j oj hj hjr hoj => h j oj hj ((hmem j hj).2 (.inl hjr)) hoj
def FinN (ops : Array Oper) (S : Tmp → Value → World → Prop) (dA T : Nat) (c1 : List Value) (n : Nat) (W : World) (a0 a' : Act) (w' : World) : Prop :=
 Ext W w' ∧ a'.tmps.size = a0.tmps.size ∧ a'.defers = a0.defers ∧ (∀ d, (∃ j o, j < n ∧ ops[j]? = some o ∧ o.dst = some d) → ∃ v, a'.tmps[d]? = some v ∧ S d v w') ∧ (∀ d, (∀ j o, j < n → ops[j]? = some o → o.dst ≠ some d) → a'.tmps[d]? = a0.tmps[d]?) ∧
 ∃ g, a'.tmps[dA]? = some (.pointer (some ⟨g, 0, none⟩)) ∧ W.heap.size ≤ g ∧ Lc w' g T c1
theorem flat_freeN {S : Tmp → Value → World → Prop} {iA iS dA dV T : Nat} {c0 c1 : List Value} {n : Nat} {W : World} (hS : ∀ d v w w', S d v w → TrN T W.heap.size w w' → S d v w') (hSA : ∀ v w, S dA v w) {a0 : Act} {Q : Exit → Act → World → Prop} (hB : flatB ops n = true)
  (hAn : iA < n) (hSn : iS < n) (hAS : iA ≠ iS) (hA : ∀ o, ops[iA]? = some o → o.guard = none ∧ o.dst = some dA ∧ ∀ (b : Act) (w : World), (execOp b.eval o).run P w = .ok (.value (.pointer (some ⟨w.heap.size, 0, none⟩))) (w.alloc (.cells c0.toArray T)))
  (hwS : Region.waitsFor .any ops iS iA = true) (hVp : ∃ j o, j < n ∧ ops[j]? = some o ∧ o.dst = some dV)
  (hSt : ∀ o, ops[iS]? = some o → o.guard = none ∧ o.dst = none ∧ dV ∈ o.looksAt ops ∧ ∀ (b : Act) (w : World) (g : Nat) (v : Value), b.tmps[dA]? = some (.pointer (some ⟨g, 0, none⟩)) → b.tmps[dV]? = some v → S dV v w → Lc w g T c0 → (execOp b.eval o).run P w = .ok .skip (w.setRow g c1.toArray))
  (hdA : ∀ i o, i < n → i ≠ iA → ops[i]? = some o → o.dst ≠ some dA)
  (hsz : ∀ (j : Nat) o d, j < n → ops[j]? = some o → o.dst = some d → d < a0.tmps.size)
  (hq : ∀ i o, i < n → i ≠ iA → i ≠ iS → ops[i]? = some o → ∀ (b : Act) (w : World), b.tmps.size = a0.tmps.size → (∀ d ∈ o.looksAt ops, (∀ j o, j < n → ops[j]? = some o → o.dst ≠ some d) → b.tmps[d]? = a0.tmps[d]?) → Ext W w → (∀ d ∈ o.looksAt ops, (∃ j o, j < n ∧ ops[j]? = some o ∧ o.dst = some d) → ∃ v, b.tmps[d]? = some v ∧ S d v w) →
   ∀ K : Act → World → Prop, (∀ v w', (∀ d, o.dst = some d → S d v w') → Ext w w' → K (b.put o.dst v) w') → if Region.wanted o (yielded ops b.tmps) then o.wp P b w K Q else K (b.put o.dst undef) w)
  (ht : ∀ a' w', FinN ops S dA T c1 n W a0 a' w' → wpList P ops Q (ops.toList.drop n) a' w') :
  ∀ (f : Nat) (rem : List Nat) (listed : Array Bool) (a : Act) (w : World), rem.length = f → InvN ops S iA iS dA T c0 c1 n W a0 rem listed a w → wpAny P .any ops Q (f + (ops.size - n)) listed a w := by
 simp only [flatB, Bool.and_eq_true, Bool.or_eq_true, decide_eq_true_eq] at hB
 obtain ⟨⟨⟨⟨hsel, hn⟩, hsc⟩, hseq⟩, hhd⟩ := hB
 intro f
 induction f with
 | zero =>
  intro rem listed a w hf inv
  have hnil : rem = [] := List.eq_nil_of_length_eq_zero hf
  subst hnil
  have hlisted : listed = (List.replicate n true ++ List.replicate (ops.size - n) false).toArray := by
   have hs := inv.head.size
   refine Array.ext (by simp [hs]; omega) fun j h1 h2 => ?_
   rcases Nat.lt_or_ge j n with hj | hj
   ·have := (inv.mem j hj).2 (by simp)
    simp [h1] at this
    simp [this, hj, List.getElem_append_left]
   ·have := inv.head.tail j hj (by rw [← hs]; exact h1)
    simp [h1] at this
    rw [this]
    simp only [List.getElem_toArray]
    rw [List.getElem_append_right (by simpa using hj)]
    simp
  have hfin : FinN ops S dA T c1 n W a0 a w :=
   ⟨inv.ext, inv.size, inv.defers, fun d ⟨j, o, hj, hoj, hdj⟩ => inv.done d ⟨j, o, hj, by simp, hoj, hdj⟩, fun d h => inv.open_ d fun j o hj _ hoj => h j o hj hoj, by simpa using inv.var (by simp)⟩
  have hl : (ops.toList.drop n).length = ops.size - n := by simp
  have := wpAny_of_seq (P := P) (md := .any) (Q' := Q) (ops := ops) (ops.toList.drop n) n listed a w (fun j => by simp [List.getElem?_drop]) (by rw [hl, hlisted]; exact hseq) (ht a w hfin)
  rw [hl] at this
  rw [Nat.zero_add]; exact this
 | succ f ih =>
  intro rem listed a w hf inv
  have hne : ∃ i, i ∈ rem := by
   cases rem with
   | nil => simp at hf
   | cons x l => exact ⟨x, by simp⟩
  have hpos : 0 < n := by obtain ⟨i, hi⟩ := hne; have := inv.lt i hi; omega
  have hleast : ∀ k, (∃ i, i ≤ k ∧ i ∈ rem) → ∃ i ∈ rem, ∀ j ∈ rem, i ≤ j := by
   intro k
   induction k with
   | zero => rintro ⟨i, hi, him⟩; exact ⟨i, him, fun j _ => by omega⟩
   | succ k ihk =>
    rintro ⟨i, hi, him⟩
    rcases Classical.em (∃ i, i ≤ k ∧ i ∈ rem) with h | h
    ·exact ihk h
    ·refine ⟨i, him, fun j hj => ?_⟩
     rcases Nat.lt_or_ge j i with h' | h'
     ·exact absurd ⟨j, by omega, hj⟩ h
     ·exact h'
  obtain ⟨i9, hi9⟩ := hne
  obtain ⟨i0, hi0, hmin⟩ := hleast i9 ⟨i9, Nat.le_refl _, hi9⟩
  have hi0n := inv.lt i0 hi0
  have hi0u : listed.getD i0 false = false := by
   cases h : listed.getD i0 false with
   | false => rfl
   | true => exact absurd hi0 ((inv.mem i0 hi0n).1 h)
  have hi0s : i0 < listed.size := by rw [inv.head.size]; omega
  have hrow := fun i (hi : i < n) => List.all_eq_true.1 hhd i (List.mem_range.2 hi)
  have hready : i0 ∈ Region.ready .any ops listed := by
   have hr := hrow i0 hi0n
   cases ho : ops[i0]? with
   | none => simp [ho] at hr
   | some o =>
    simp only [ho, Bool.and_eq_true] at hr
    refine mem_ready.2 ⟨getD_in hi0s hi0u, o, ho, fun e he hb => ?_⟩
    have := Array.all_eq_true'.1 hr.1 e he
    simp [hb] at this
    refine (inv.mem e.on (by omega)).2 fun hm => ?_
    have := hmin _ hm; omega
  rw [show f + 1 + (ops.size - n) = (f + (ops.size - n)) + 1 by omega]
  refine ⟨fun h => (by rw [h] at hready; cases hready), fun i hi => ?_⟩
  have hin : i < n := by
   rcases Nat.lt_or_ge i n with h | h
   ·exact h
   ·rcases hsc with ⟨⟨hlt, hs⟩, hc⟩ | heq
    ·exact absurd hi (tail_waits hs hc hlt inv.head _ i0 rfl hi0n (getD_in hi0s hi0u) i h)
    ·obtain ⟨_, o, ho, _⟩ := mem_ready.1 hi
     have := (Array.getElem?_eq_some_iff.1 ho).1
     omega
  obtain ⟨hun, o, ho, hall⟩ := mem_ready.1 hi
  have hirem : i ∈ rem := by
   rcases Classical.em (i ∈ rem) with h | h
   ·exact h
   ·have := (inv.mem i hin).2 h
    rw [getD_both hun] at this; cases this
  have hlen : (rem.erase i).length = f := by rw [List.length_erase_of_mem hirem]; omega
  have hlg : ∀ d ∈ o.looksAt ops, (∃ j oj, j < n ∧ ops[j]? = some oj ∧ oj.dst = some d) → ∃ v, a.tmps[d]? = some v ∧ S d v w := fun d hd ⟨j, oj, hj, hoj, hdj⟩ => by
   have hr := hrow i hin
   simp only [ho, Bool.and_eq_true] at hr
   have h2 := List.all_eq_true.1 hr.2 d hd
   have h3 := List.all_eq_true.1 h2 j (List.mem_range.2 hj)
   simp only [hoj, hdj, Bool.or_eq_true] at h3
   have h4 : Region.waitsFor .any ops i j = true := by
    rcases h3 with h | h
    ·simp at h
    ·exact h
   obtain ⟨oi, hoi, e, he, hb, hon⟩ := Region.waitsFor_spec h4
   have : oi = o := Option.some.inj (hoi.symm.trans ho)
   subst this
   have := hall e he hb
   rw [hon] at this
   exact inv.done d ⟨j, oj, hj, (inv.mem j hj).1 this, hoj, hdj⟩
  have hopn : ∀ d ∈ o.looksAt ops, (∀ j o, j < n → ops[j]? = some o → o.dst ≠ some d) → a.tmps[d]? = a0.tmps[d]? := fun d _ h => inv.open_ d fun j o hj _ hoj => h j o hj hoj
  unfold wpOp
  simp only [ho]
  have hmemE : ∀ j, j ∈ rem.erase i ↔ j ≠ i ∧ j ∈ rem := fun j => inv.nodup.mem_erase_iff
  have hwt : ∀ j, j < n → Region.waitsFor .any ops i j = true → j ∉ rem := fun j hj hw => by
   obtain ⟨oi, hoi, e, he, hb, hon⟩ := Region.waitsFor_spec hw
   rw [ho] at hoi
   have : o = oi := Option.some.inj hoi
   subst this
   have := hall e he hb
   rw [hon] at this
   exact (inv.mem j hj).1 this
  by_cases hiA : i = iA
  ·subst hiA
   obtain ⟨hg, hd, hrun⟩ := hA o ho
   have hSr : iS ∈ rem := Classical.byContradiction fun z => inv.pre z hirem
   rw [if_pos (by simp [Region.wanted, hg])]
   refine .inl ?_
   unfold Oper.wp
   rw [hrun a w]
   simp only [Oper.upon]
   refine ih (rem.erase i) _ _ _ hlen (inv.step hS hi hin ho _ (.inl (Ext.alloc w _)) (inv.ext.trans (Ext.alloc w _)) hsz (fun d hd' => ?_) (fun _ => ?_) (fun z => ?_))
   ·rw [hd] at hd'; cases hd'; exact hSA _ _
   ·refine ⟨w.heap.size, ?_, inv.ext.size, ?_⟩
    ·rw [hd, put_get, if_pos rfl, if_pos (by rw [inv.size]; exact hsz i o dA hin ho hd)]
    ·rw [if_pos ((hmemE iS).2 ⟨fun e => hAS e.symm, hSr⟩)]
     exact hp_new w _
   ·exact absurd ((hmemE iS).2 ⟨fun e => hAS e.symm, hSr⟩) z
  by_cases hiS : i = iS
  ·subst hiS
   obtain ⟨hg, hd, hVl, hrun⟩ := hSt o ho
   have hAr : iA ∉ rem := hwt iA hAn hwS
   obtain ⟨g, hv1, hv2, hv3⟩ := inv.var hAr
   rw [if_pos hirem] at hv3
   obtain ⟨v, hvv, hvS⟩ := hlg dV hVl hVp
   rw [if_pos (by simp [Region.wanted, hg])]
   refine .inl ?_
   unfold Oper.wp
   rw [hrun a w g v hv1 hvv hvS hv3]
   simp only [Oper.upon]
   have hxx : Ext W (w.setRow g c1.toArray) := (Out.set (G := [g]) (by simp) w c1.toArray).ext inv.ext (fun g' hg' => by obtain rfl := List.mem_singleton.1 hg'; exact hv2)
   refine ih (rem.erase i) _ _ _ hlen (inv.step hS hi hin ho undef (.inr ⟨g, c0, c1, hv2, hv3, rfl⟩) hxx hsz (fun d hd' => by rw [hd] at hd'; cases hd') (fun _ => ?_) (fun _ z => hAr ((hmemE iA).1 z).2))
   refine ⟨g, by rw [hd]; exact hv1, hv2, ?_⟩
   rw [if_neg (fun z => ((hmemE i).1 z).1 rfl)]
   exact hv3.set _
  ·have H := hq i o hin hiA hiS ho a w inv.size hopn inv.ext hlg
    (wpAny P .any ops Q (f + (ops.size - n)) (listed.setIfInBounds i true))
    (fun v w' hv hext => ih (rem.erase i) _ _ _ hlen (inv.step hS hi hin ho v (.inl hext) (inv.ext.trans hext) hsz hv (fun z => by
     obtain ⟨g, h1, h2, h3⟩ := inv.var (fun y => z ((hmemE iA).2 ⟨fun e => hiA e.symm, y⟩))
     refine ⟨g, by rw [put_other _ _ _ _ (hdA i o hin hiA ho)]; exact h1, h2, ?_⟩
     have e : (iS ∈ rem.erase i) = (iS ∈ rem) := propext ⟨fun y => ((hmemE iS).1 y).2, fun y => (hmemE iS).2 ⟨fun e => hiS e.symm, y⟩⟩
     simp only [e]
     exact h3.ext hext) (fun z y => inv.pre (fun x => z ((hmemE iS).2 ⟨fun e => hiS e.symm, x⟩)) ((hmemE iA).1 y).2)))
   split
   ·rename_i hw; rw [if_pos hw] at H; exact .inl H
   ·rename_i hw; rw [if_neg hw] at H; exact H
def wpN (P : Program) (ops : Array Oper) (W : World) (S : Tmp → Value → World → Prop) (iA iS : Nat) (D : List Tmp) (fin : Act → Prop) : Nat → List Oper → Act → Prop
 | _, [], a => fin a
 | k, o :: l, a => ((k == iA || k == iS) = false → ∀ w, Ext W w → (∀ d ∈ o.looksAt ops, d ∈ D → S d (a.tmps.getD d undef) w) → wpList P ops (KS S o a w) [o] a w) ∧ ∀ v, wpN P ops W S iA iS D fin (k + 1) l (a.put o.dst v)
theorem free_of_walkN {W : World} {S : Tmp → Value → World → Prop} {iA iS : Nat} {D : List Tmp} {fin : Act → Prop} {Q : Exit → Act → World → Prop} (hsel : ∀ (j : Nat) (o : Oper) cs b, ops[j]? = some o → o.op ≠ .select cs b) : ∀ (l : List Oper) (k : Nat) (a : Act), (∀ o ∈ l, ∃ j : Nat, ops[j]? = some o) → (∀ o ∈ l, ∀ d, o.dst = some d → d < a.tmps.size) → topoB ops l = true →
  wpN P ops W S iA iS D fin k l a → ∀ (j : Nat) o, l[j]? = some o → ∀ (b : Act) (w : World), b.tmps.size = a.tmps.size → (∀ d ∈ o.looksAt ops, d ∉ dsts l → b.tmps[d]? = a.tmps[d]?) → Ext W w → (∀ d ∈ o.looksAt ops, d ∈ D → S d (b.tmps.getD d undef) w) → (k + j == iA || k + j == iS) = false →
   ∀ K : Act → World → Prop, (∀ v w', (∀ d, o.dst = some d → S d v w') → Ext w w' → K (b.put o.dst v) w') → if Region.wanted o (yielded ops b.tmps) then o.wp P b w K Q else K (b.put o.dst undef) w
 | [], _, _, _, _, _, _, j, o, ho => by simp at ho
 | o :: l, k, a, hin, hlt, ht, h, 0, o', ho' => by
  have hoo : o = o' := by simpa using ho'
  subst hoo
  simp only [topoB, Bool.and_eq_true] at ht
  obtain ⟨⟨t1, t2⟩, t3⟩ := ht
  intro b w hb hag hext hSd hne
  have hl : ∀ d ∈ o.looksAt ops, a.tmps[d]? = b.tmps[d]? := fun d hd => by
   have := List.all_eq_true.1 t1 d hd
   exact (hag d hd (by simpa using this)).symm
  obtain ⟨j, hj⟩ := hin o (by simp)
  obtain ⟨e1, e2⟩ := eval_same (ops := ops) hl (fun cs b => hsel j o cs b hj)
  have hSa : ∀ d ∈ o.looksAt ops, d ∈ D → S d (a.tmps.getD d undef) w := fun d hd hD => by
   have := hSd d hd hD
   rw [Array.getD_eq_getD_getElem?] at this ⊢
   rw [hl d hd]; exact this
  unfold wpN at h
  rw [Nat.add_zero] at hne
  intro K hK
  have H := h.1 hne w hext hSa
  unfold wpList at H
  rw [e2] at H
  split at H
  ·rename_i hw
   rw [if_pos hw]
   rcases H with H | ⟨_, _, _, hc, _⟩
   ·exact wp_transfer e1 (hlt o (by simp)) (Oper.wp_mono (fun _ _ h => h) H) hK
   ·cases hc
  ·rename_i hw
   rw [if_neg hw]
   obtain ⟨_, u, he, hs, hx⟩ := H
   refine hK undef w (fun d hd => ?_) (Ext.refl w)
   rw [hd] at he
   rw [put_inj (hlt o (by simp) d hd) he]
   exact hs d hd
 | o :: l, k, a, hin, hlt, ht, h, j + 1, o', ho' => by
  simp only [topoB, Bool.and_eq_true] at ht
  obtain ⟨⟨t1, t2⟩, t3⟩ := ht
  intro b w hb hag hext hSd hne
  rw [show k + (j + 1) = (k + 1) + j by omega] at hne
  unfold wpN at h
  have hoj : l[j]? = some o' := by simpa using ho'
  have hsame : ∀ c : Act, c = a.put o.dst (b.tmps.getD (o.dst.getD 0) undef) → ∀ d ∈ o'.looksAt ops, d ∉ dsts l → b.tmps[d]? = c.tmps[d]? := fun c hc d hd hn => by
   subst hc
   ·cases hod : o.dst with
    | none => exact hag d hd (by simp only [dsts, List.filterMap_cons, hod]; exact hn)
    | some e =>
     have he := hlt o (by simp) e hod
     rw [put_get]
     by_cases hde : e = d
     ·subst hde
      rw [if_pos rfl, if_pos he]
      have heb : e < b.tmps.size := by rw [hb]; exact he
      simp [heb]
     ·rw [if_neg hde]
      refine hag d hd ?_
      simp only [dsts, List.filterMap_cons, hod, List.mem_cons, not_or]
      exact ⟨fun e' => hde e'.symm, hn⟩
  exact free_of_walkN hsel l (k + 1) _ (fun x hx => hin x (by simp [hx])) (fun x hx d hd => by rw [put_size]; exact hlt x (by simp [hx]) d hd) t3 (h.2 (b.tmps.getD (o.dst.getD 0) undef)) j o' hoj b w (by rw [put_size]; exact hb) (hsame _ rfl) hext hSd hne
theorem region_freeN {id : Nat} {Q : Exit → Act → World → Prop} {a : Act} {w0 W : World} {bs : List Bk} {l : List Oper} (H : Kp (Loc w0 W bs)) (S : Tmp → Value → World → Prop) (iA iS dA dV T : Nat) (c0 c1 : List Value) (n : Nat) (hS : ∀ d v w w', S d v w → TrN T W.heap.size w w' → S d v w') (hSA : ∀ v w, S dA v w) (hSV : ∀ v w, S dV v w → v = .agg c1.toArray) (hm : P.follows .mixedOrders = true)
  (hB : flatB l.toArray n = true) (hT : topoB l.toArray (l.take n) = true) (hD : ((l.take n).all fun o => match o.dst with | some d => decide (d < a.tmps.size) | none => true) = true)
  (oA oS : Oper) (hoA : l.toArray[iA]? = some oA) (hoS : l.toArray[iS]? = some oS) (hAn : iA < n) (hSn : iS < n) (hAS : iA ≠ iS) (hgA : oA.guard = none) (hA2 : oA.op = .alloc T) (hA3 : oA.dst = some dA) (hz : ∀ w, (zeroValue T).run P w = .ok (.agg c0.toArray) w)
  (hS1 : oS.guard = none) (hS2 : oS.dst = none) (hS3 : oS.op = .store T (.tmp dA) (.tmp dV)) (hVl : (oS.looksAt l.toArray).contains dV = true) (hVd : (dsts (l.take n)).contains dV = true) (hwS : Region.waitsFor .any l.toArray iS iA = true) (hsz : (P.info? T).map (·.size) = some c1.toArray.size) (hlen : c0.length = c1.length) (hone : c1.toArray.all (·.oneCell') = true)
  (hdA : ((List.range n).all fun i => i == iA || match l.toArray[i]? with | some o => !(o.dst == some dA) | none => true) = true)
  (h : wpN P l.toArray W S iA iS (dsts (l.take n)) (fun a' => ∀ w', Kp (Ext W w') → (∀ d ∈ dsts (l.take n), S d (a'.tmps.getD d undef) w') → (∃ g, a'.tmps.getD dA undef = .pointer (some ⟨g, 0, none⟩) ∧ W.heap.size ≤ g ∧ Lc w' g T c1 ∧ Kp (Loc w0 w' ((g, T, c1) :: bs))) → wpList P l.toArray Q (l.drop n) a' w') 0 (l.take n) a) :
  (Code.region id l.toArray true).wp P Q a W := by
 have hn := flatB_le hB
 have hidx : ∀ (i : Nat) (o : Oper), i < n → l.toArray[i]? = some o → (l.take n)[i]? = some o := fun i o hi ho => by
  rw [List.getElem?_take, if_pos hi]; simpa using ho
 have hinl : ∀ (i : Nat) (o : Oper), i < n → l.toArray[i]? = some o → o ∈ l.take n := fun i o hi ho => List.mem_of_getElem? (hidx i o hi ho)
 have hout : ∀ o, o ∈ l.take n → ∃ j : Nat, j < n ∧ l.toArray[j]? = some o := fun o ho => by
  obtain ⟨j, hj⟩ := List.getElem?_of_mem ho
  rw [List.getElem?_take] at hj
  split at hj
  ·rename_i hlt; exact ⟨j, hlt, by simpa using hj⟩
  ·cases hj
 have hlt : ∀ o ∈ l.take n, ∀ d, o.dst = some d → d < a.tmps.size := fun o ho d hd => by
  have := List.all_eq_true.1 hD o ho
  rw [hd] at this; simpa using this
 have hwalk := free_of_walkN (P := P) (ops := l.toArray) (Q := Q) (Region.noSelect_spec (flatB_sel hB)) (l.take n) 0 a (fun o' ho' => by
   obtain ⟨j, _, hj⟩ := hout o' ho'; exact ⟨j, hj⟩) hlt hT h
 have hSd : ∀ (b : Act) (w : World) (o : Oper), (∀ d ∈ o.looksAt l.toArray, (∃ j o, j < n ∧ l.toArray[j]? = some o ∧ o.dst = some d) → ∃ v, b.tmps[d]? = some v ∧ S d v w) → ∀ d ∈ o.looksAt l.toArray, d ∈ dsts (l.take n) → S d (b.tmps.getD d undef) w := fun b w o hdn d hd hdD => by
  obtain ⟨oj, hoj, hdj⟩ := mem_dsts.1 hdD
  obtain ⟨j, hj, hj2⟩ := hout oj hoj
  obtain ⟨v, hv1, hv2⟩ := hdn d hd ⟨j, oj, hj, hj2, hdj⟩
  rw [Array.getD_eq_getD_getElem?, hv1]; exact hv2
 refine wp_region_any hm ?_
 have HF := flat_freeN (P := P) (ops := l.toArray) (S := S) (iA := iA) (iS := iS) (dA := dA) (dV := dV) (T := T) (c0 := c0) (c1 := c1) (n := n) (W := W) (a0 := a) (Q := Q) hS hSA hB hAn hSn hAS
  (fun o ho => by
   rw [hoA] at ho; cases ho
   refine ⟨hgA, hA3, fun b w => ?_⟩
   unfold execOp
   simp only [hA2, Instr.alloc, newVar, Sem.run_bind, hz, Result.andThen_ok]
   rfl)
  hwS (by
   obtain ⟨oj, hoj, hdj⟩ := mem_dsts.1 (List.contains_iff_mem.1 hVd)
   obtain ⟨j, hj, hj2⟩ := hout oj hoj
   exact ⟨j, oj, hj, hj2, hdj⟩)
  (fun o ho => by
   rw [hoS] at ho; cases ho
   refine ⟨hS1, hS2, List.contains_iff_mem.1 hVl, fun b w g v h1 h2 h3 h4 => ?_⟩
   have hv := hSV v w h3
   subst hv
   exact run_sto T (.tmp dA) (.tmp dV) hS3 (by simp [Act.eval, h1]) (by simp [Act.eval, h2]) h4 hsz hlen hone)
  (fun i o hi hne ho hd => by
   have := List.all_eq_true.1 hdA i (List.mem_range.2 hi)
   simp [ho, hd, hne] at this)
  (fun j o d hj hoj hd => hlt o (hinl j o hj hoj) d hd)
  (fun i o hi2 hnA hnS ho b w hb hop hext hdn K hK => by
   have h1 := hwalk i o (hidx i o hi2 ho) b w hb (fun d hd hnd => hop d hd fun j oj hj hoj hdj => hnd (mem_dsts.2 ⟨oj, hinl j oj hj hoj, hdj⟩)) hext (hSd b w o hdn) (by rw [Nat.zero_add]; simp [hnA, hnS])
   exact h1 K hK)
  (by
   intro a' w' hf
   obtain ⟨ho, h2, h3, h4, h5, g, hg1, hg2, hg3⟩ := hf
   have hend : ∀ (L : List Oper) (k : Nat) (c : Act), c.tmps.size = a'.tmps.size → c.defers = a'.defers → (∀ o ∈ L, ∀ d, o.dst = some d → d < c.tmps.size) → (∀ d, d < a'.tmps.size → d ∉ dsts L → c.tmps[d]? = a'.tmps[d]?) → ∀ {D : List Tmp} {fin : Act → Prop}, wpN P l.toArray W S iA iS D fin k L c → ∃ c', fin c' ∧ c'.tmps.size = a'.tmps.size ∧ c'.defers = a'.defers ∧ ∀ d, d < a'.tmps.size → c'.tmps[d]? = a'.tmps[d]? := by
    intro L
    induction L with
    | nil => intro k c hs hdf _ hag D fin hw; exact ⟨c, hw, hs, hdf, fun d hd => hag d hd (by simp [dsts])⟩
    | cons o L ih =>
     intro k c hs hdf hlt2 hag D fin hw
     unfold wpN at hw
     refine ih (k + 1) (c.put o.dst (a'.tmps.getD (o.dst.getD 0) undef)) (by rw [put_size]; exact hs) (by rw [put_defers]; exact hdf) (fun x hx d hd => by rw [put_size]; exact hlt2 x (by simp [hx]) d hd) (fun d hd hnd => ?_) (hw.2 _)
     cases hod : o.dst with
     | none => exact hag d hd (by simp only [dsts, List.filterMap_cons, hod]; exact hnd)
     | some e =>
      have he := hlt2 o (by simp) e hod
      rw [put_get]
      by_cases hde : e = d
      ·subst hde
       rw [if_pos rfl, if_pos he]
       have heb : e < a'.tmps.size := by rw [← hs]; exact he
       simp [heb]
      ·rw [if_neg hde]
       refine hag d hd ?_
       simp only [dsts, List.filterMap_cons, hod, List.mem_cons, not_or]
       exact ⟨fun e' => hde e'.symm, hnd⟩
   obtain ⟨c', hfin, hcs, hcd, hca⟩ := hend (l.take n) 0 a h2.symm h3.symm hlt (fun d hd hnd => (h5 d fun j oj hj hoj hdj => hnd (mem_dsts.2 ⟨oj, hinl j oj hj hoj, hdj⟩)).symm) h
   have : a' = c' := act_ext hcd.symm fun d => by
    by_cases hd : d < a'.tmps.size
    ·exact (hca d hd).symm
    ·rw [Array.getElem?_eq_none (by omega), Array.getElem?_eq_none (by omega)]
   rw [this]
   have hlist : l.toArray.toList.drop n = l.drop n := by simp
   rw [hlist]
   refine hfin w' (kp ho) (fun d hd => ?_) ⟨g, ?_, hg2, hg3, kp ⟨H.out.1.trans ho, ?_, fun b hb => ?_⟩⟩
   obtain ⟨oj, hoj, hdj⟩ := mem_dsts.1 hd
   obtain ⟨j, hj, hj2⟩ := hout oj hoj
   obtain ⟨v, hv1, hv2⟩ := h4 d ⟨j, oj, hj, hj2, hdj⟩
   rw [Array.getD_eq_getD_getElem?, ← this, hv1]; exact hv2
   ·rw [Array.getD_eq_getD_getElem?, ← this, hg1]; rfl
   ·rw [List.map_cons, List.nodup_cons]
    refine ⟨fun hm => ?_, H.out.2.1⟩
    obtain ⟨b, hb, e⟩ := List.mem_map.1 hm
    have := (H.out.2.2 b hb).2.lt
    have e : b.1 = g := e
    omega
   ·rcases List.mem_cons.1 hb with rfl | hb
    ·exact ⟨Nat.le_trans H.out.1.size hg2, hg3⟩
    ·exact ⟨(H.out.2.2 b hb).1, (H.out.2.2 b hb).2.ext ho⟩)
  n (List.range n) (Array.replicate l.toArray.size false) a W.drew (by simp)
  (by
   refine ⟨⟨by simp, fun j oj _ hl => (by rw [getD_replicate_false] at hl; cases hl), fun t _ ht => getD_in (by simpa using ht) (getD_replicate_false _ _)⟩, List.nodup_range, fun j hj => List.mem_range.1 hj, fun j hj => ?_, rfl, rfl, fun d h => ?_, fun _ _ => rfl, Ext.drew W, fun z => absurd (List.mem_range.2 hAn) z, fun z => absurd (List.mem_range.2 hSn) z⟩
   ·rw [getD_replicate_false]; simp [hj]
   ·obtain ⟨j, o, hj, hjr, _⟩ := h; exact absurd (List.mem_range.2 hj) hjr)
 rw [show n + (l.toArray.size - n) = l.toArray.size by omega] at HF
 exact HF
end
end Go.Proofs.Ytibncchobkaaiaa
namespace Go.Proofs.Ytibncchobkaaiaa
open Go.RowKit
def MonoN (T B : Nat) (φ : Value → World → Prop) : Prop := ∀ v w w', φ v w → TrN T B w w' → φ v w'
theorem tabS_trn (T B : Nat) : ∀ (l : List (Tmp × (Value → World → Prop))), (∀ p ∈ l, MonoN T B p.2) → ∀ d v w w', tabS l d v w → TrN T B w w' → tabS l d v w'
 | [], _, _, _, _, _, _, _ => trivial
 | p :: l, h, d, v, w, w', h1, hx => by
  unfold tabS at h1 ⊢
  split
  ·rename_i hd; rw [if_pos hd] at h1; exact h p (by simp) v w w' h1 hx
  ·rename_i hd; rw [if_neg hd] at h1; exact tabS_trn T B l (fun q hq => h q (by simp [hq])) d v w w' h1 hx
theorem monoN_eq (T B : Nat) (u : Value) : MonoN T B (fun v _ => v = u) := fun _ _ _ h _ => h
theorem SlBB.trn {B B' : Nat} {w w' : World} {v : Value} {ls : List By} (h : SlBB B' w v ls) (ht : TrN 32 B w w') : SlBB B' w' v ls := by
 rcases ht with hx | ⟨g, cs, ds, hb, hl, rfl⟩
 ·exact h.ext hx
 ·obtain ⟨vs, h1, h2, h3⟩ := h
  exact ⟨vs, owns_wroteT h1 ⟨_, rfl⟩ hl (by decide), h2, fun j u l hu hl2 => owns_wroteT (h3 j u l hu hl2) ⟨_, rfl⟩ hl (by decide)⟩
def TupR (B : Nat) (r : Res) (v : Value) (w : World) : Prop := ∃ u, v = .tuple #[.agg (cat (partsF r.1)).toArray, u, .int .i64 r.2.2] ∧ SlBB B w u r.2.1
theorem monoN_TupR (B B' : Nat) (r : Res) : MonoN 32 B (TupR B' r) := fun _ _ _ ⟨u, h1, h2⟩ ht => ⟨u, h1, h2.trn ht⟩
theorem monoN_SlBB (B B' : Nat) (ls : List By) : MonoN 32 B (fun v w => SlBB B' w v ls) := fun _ _ _ h ht => h.trn ht
def partsP (p : Pr) : List Lf := [Lf.v p.one, Lf.v p.two, Lf.v p.master, Lf.v p.otherK, Lf.v p.mine, Lf.v p.his, Lf.i .i64 p.gid, Lf.v p.gkey]
def parts2 (s : Fw × Fw) : List Lf := partsF s.1 ++ partsF s.2
theorem run_buildA {P : Program} (t : TypeId) (parts : Array (Nat × Value)) (w : World) (zs : List Lf) (hz : (zeroValue t).run P w = .ok (.agg (cat zs).toArray) w) (n : Nat) (E : TypeId) (hu : P.underlying t = some (.array n E)) (k : Nat) (hk : (sizeOf E).run P w = .ok k w)
  (new : List Lf) (hf : Instr.fill (fun i => some (i * k, k)) (cat zs).toArray parts.toList = some (cat new).toArray) : (Instr.build t parts).run P w = .ok (.agg (cat new).toArray) w := by
 unfold Instr.build
 simp only [Sem.run_bind, hz, Result.andThen_ok, run_underlying hu, hk, Value.cells, hf, Sem.run_pure]
theorem build_2 (s t : Fw) (w : World) : (Instr.build 55 #[(0, .agg (cat (partsF s)).toArray), (1, .agg (cat (partsF t)).toArray)]).run Try.prog w = .ok (.agg (cat (parts2 (s, t))).toArray) w := by
 refine run_buildA _ _ w (parts2 (fw0, fw0)) (by kernel_rfl) 2 _ Try.underlying55 131 (by kernel_rfl) _ ?_
 show Instr.fill _ _ [_, _] = _
 rw [fill_cat _ _ 0 _ _ 0 0 16 (partsF s) rfl (by kernel_rfl) (by kernel_rfl) (by kernel_rfl) (parts2 (s, fw0)) (by kernel_rfl), fill_cat _ _ 1 _ _ 131 16 16 (partsF t) rfl (by kernel_rfl) (by kernel_rfl) (by kernel_rfl) (parts2 (s, t)) (by kernel_rfl)]
 rfl
def SidR (p : Pr) (w : World) (e : Ending) (w' : World) : Prop := e = .returned (.tuple #[.agg (cat (parts2 (sidesF p))).toArray, .bool (sidesB p)]) ∧ Ext w w'
theorem sidR {p : Pr} {s1 s2 : Fw} {b : Bool} {w w' : World} (hs : sidesF p = (s1, s2)) (hb : sidesB p = b) (hx : Ext w w') : SidR p w (.returned (.tuple #[.agg (cat (parts2 (s1, s2))).toArray, .bool b])) w' := ⟨by rw [hs, hb], hx⟩
theorem newF_err (role : Int) (own peer : Vc 6) (master nonce : Vc 16) (gid : Int) (gkey : Vc 16) : (newF role own peer master nonce gid gkey).2 = if newB role own peer gid then 2 else 0 := by
 unfold newF; split <;> rfl
set_option maxRecDepth 4000 in
set_option maxHeartbeats 1600000 in
theorem sides_any (p : Pr) (w : World) : Calls Try.prog 25 #[.agg (cat (partsP p)).toArray] w (SidR p w) := by
 have H := kp (Loc.start w)
 have HN1 := kp (new_any 1 p.one p.two p.master p.mine p.gid p.gkey)
 have HN2 := kp (new_any 2 p.two p.one p.otherK p.his p.gid p.gkey)
 have HE1 := kp (newF_err 1 p.one p.two p.master p.mine p.gid p.gkey)
 have HE2 := kp (newF_err 2 p.two p.one p.otherK p.his p.gid p.gkey)
 have HS := kp (show sidesF p = ((newF 1 p.one p.two p.master p.mine p.gid p.gkey).1, (newF 2 p.two p.one p.otherK p.his p.gid p.gkey).1) from rfl)
 have HB := kp (show sidesB p = (!newB 1 p.one p.two p.gid && !newB 2 p.two p.one p.gid) from rfl)
 generalize newF 1 p.one p.two p.master p.mine p.gid p.gkey = r1 at *
 generalize newF 2 p.two p.one p.otherK p.his p.gid p.gkey = r2 at *
 obtain ⟨s1, e1⟩ := r1
 obtain ⟨s2, e2⟩ := r2
 go_enter Try.func25, Try.ntmps25
 generalize h3 : (Code.region 3 _ _ : Code) = R3
 go_wp2_with (first | ((with_reducible show wpList _ _ _ (Oper.mk (some 1) (Op.box 48 _) _ _ _ _ :: _) _ _); (refine L_box H rfl 48 _ rfl (cat (partsP p)) rfl ?_); clear H; intro g1 w1 HGg1 HEg1 H; simp only [Act.put, sbA, szA, ssA]) | ((with_reducible show wpList _ _ _ (Oper.mk (some 2) (Op.alloc 55) _ _ _ _ :: _) _ _); (refine L_alloc H rfl 55 rfl (cat (parts2 (fw0, fw0))) (fun _ _ => by kernel_rfl) ?_); clear H; intro g2 w2 HGg2 HEg2 H; simp only [Act.put, sbA, szA, ssA]) | ((with_reducible refine isLd 23 ?_); (first | (refine L_fv H rfl 23 _ rfl 1 rfl _ rfl _ rfl rfl Try.underlying23 rfl (by kernel_rfl) ?_) | (refine L_fv H rfl 23 _ rfl 2 rfl _ rfl _ rfl rfl Try.underlying23 rfl (by kernel_rfl) ?_)); simp only [Act.put, sbA, szA, ssA]) | ((with_reducible refine isLd 25 ?_); (first | (refine L_fv H rfl 25 _ rfl 1 rfl _ rfl _ rfl rfl Try.underlying25 rfl (by kernel_rfl) ?_) | (refine L_fv H rfl 25 _ rfl 2 rfl _ rfl _ rfl rfl Try.underlying25 rfl (by kernel_rfl) ?_)); simp only [Act.put, sbA, szA, ssA]) | ((with_reducible refine isLd 26 ?_); (first | (refine L_fv H rfl 26 _ rfl 1 rfl _ rfl _ rfl rfl Try.underlying26 rfl (by kernel_rfl) ?_) | (refine L_fv H rfl 26 _ rfl 2 rfl _ rfl _ rfl rfl Try.underlying26 rfl (by kernel_rfl) ?_)); simp only [Act.put, sbA, szA, ssA]) | ((with_reducible refine isLd 30 ?_); (first | (refine L_fg H rfl 30 _ rfl 1 rfl _ rfl _ rfl (partsG p.gid p.gkey) rfl Try.underlying30 rfl (by kernel_rfl) ?_) | (refine L_fg H rfl 30 _ rfl 2 rfl _ rfl _ rfl (partsG p.gid p.gkey) rfl Try.underlying30 rfl (by kernel_rfl) ?_)); simp only [Act.put, sbA, szA, ssA]) | (go_at_call 20; (first | with_reducible refine (HN1.out _).mono ?_ | with_reducible refine (HN2.out _).mono ?_); rintro e wa ⟨rfl, hx⟩; have H2 := kp (H.out.ext hx); have HXC := kp hx; clear H hx; have H := H2; clear H2) | ((with_reducible show wpList _ _ _ (Oper.mk (some 4) (Op.alloc 32) _ _ _ _ :: _) _ _); (refine L_alloc H rfl 32 rfl (cat (partsF fw0)) (fun _ _ => by kernel_rfl) ?_); clear H; intro g4 w4 HGg4 HEg4 H; simp only [Act.put, sbA, szA, ssA]) | ((with_reducible show wpList _ _ _ (Oper.mk (some 6) (Op.alloc 32) _ _ _ _ :: _) _ _); (refine L_alloc H rfl 32 rfl (cat (partsF fw0)) (fun _ _ => by kernel_rfl) ?_); clear H; intro g6 w6 HGg6 HEg6 H; simp only [Act.put, sbA, szA, ssA]) | ((with_reducible show wpList _ _ _ (Oper.mk none (Op.store 32 (.tmp 4) _) _ _ _ _ :: _) _ _); ((with_reducible refine isSt 32 ?_); refine L_sa H rfl rfl 32 _ _ rfl 0 rfl rfl (partsF s1) rfl rfl (by kernel_rfl) ?_; clear H; intro wp HWwp H; simp only [szA] at H)) | ((with_reducible refine isSt 32 ?_); refine L_sa H rfl rfl 32 _ _ rfl 0 rfl rfl (partsF s2) rfl rfl (by kernel_rfl) ?_; clear H; intro wq HWwq H; simp only [szA] at H))
 have HBS := kp (build_2 s1 s2)
 cases hb1 : newB 1 p.one p.two p.gid <;> cases hb2 : newB 2 p.two p.one p.gid
 all_goals
  rw [hb1] at HE1 HB
  rw [hb2] at HE2 HB
  obtain rfl : e1 = _ := HE1.out
  obtain rfl : e2 = _ := HE2.out
  clear HE1 HE2 hb1 hb2
  simp only [if_true, if_false, Bool.false_eq_true]
  subst h3
  go_wp2_with (first | ((with_reducible show wpList _ _ _ (Oper.mk (some 36) _ _ _ _ _ :: _) _ _); refine L_fa H rfl 32 _ rfl 1 rfl rfl Try.underlying32 rfl (by kernel_rfl) ?_; simp only [Act.put, sbA, szA, ssA]) | ((with_reducible show wpList _ _ _ (Oper.mk (some 37) _ _ _ _ _ :: _) _ _); refine L_fa H rfl 32 _ rfl 0 rfl rfl Try.underlying32 rfl (by kernel_rfl) ?_; simp only [Act.put, sbA, szA, ssA]) | ((with_reducible show wpList _ _ _ (Oper.mk (some 38) (Op.build _ _) _ _ _ _ :: _) _ _); (refine L_bd rfl 55 _ rfl #[(0, .agg (cat (partsF s1)).toArray), (1, .agg (cat (partsF s2)).toArray)] (by kernel_rfl) (cat (parts2 (s1, s2))) HBS.out ?_); simp only [Act.put, sbA, szA, ssA]) | ((with_reducible refine isSt 55 ?_); refine L_sa H rfl rfl 55 _ _ rfl 2 rfl rfl (parts2 (s1, s2)) rfl rfl (by kernel_rfl) ?_; clear H; intro wz HWwz H; simp only [ssA, szA] at H))
  (exact ret_f2 H Try.results25 2 rfl rfl _ rfl Try.underlying55 rfl (by kernel_rfl) rfl (sidR HS.out HB.out H.out.1))
def sampleP : Pr := ⟨⟨2#8 :: List.replicate 5 0#8, rfl⟩, ⟨4#8 :: List.replicate 5 0#8, rfl⟩, ⟨1#8 :: List.replicate 15 0#8, rfl⟩, ⟨1#8 :: List.replicate 15 0#8, rfl⟩, ⟨5#8 :: List.replicate 15 0#8, rfl⟩, ⟨6#8 :: List.replicate 15 0#8, rfl⟩, 2, ⟨9#8 :: List.replicate 15 0#8, rfl⟩⟩
theorem sample_ok : sampleP.Ok := ⟨by decide, .inl rfl⟩
set_option maxHeartbeats 1600000 in
theorem sample_any (w : World) : Calls Try.prog 24 #[] w fun e w' => e = .returned (.agg (cat (partsP sampleP)).toArray) ∧ Ext w w' := by
 have H := kp (Loc.start w)
 go_enter Try.func24, Try.ntmps24
 go_wp2_with (first | ((with_reducible show wpList _ _ _ (Oper.mk (some 0) (Op.alloc 48) _ _ _ _ :: _) _ _); (refine L_alloc H rfl 48 rfl (cat ([Lf.v (zv 6), Lf.v (zv 6), Lf.v (zv 16), Lf.v (zv 16), Lf.v (zv 16), Lf.v (zv 16), Lf.i .i64 0, Lf.v (zv 16)])) (fun _ _ => by kernel_rfl) ?_); clear H; intro g0 w0 HGg0 HEg0 H; simp only [Act.put, sbA, szA]) | ((with_reducible show wpList _ _ _ (Oper.mk (some 1) (Op.build _ _) _ _ _ _ :: _) _ _); (refine L_bd rfl 23 _ rfl #[(0, .int .u8 2)] (by kernel_rfl) (sampleP.one.1.map V8) (fun _ => by kernel_rfl) ?_); simp only [Act.put, sbA, szA, ssA]) | ((with_reducible show wpList _ _ _ (Oper.mk (some 2) (Op.build _ _) _ _ _ _ :: _) _ _); (refine L_bd rfl 23 _ rfl #[(0, .int .u8 4)] (by kernel_rfl) (sampleP.two.1.map V8) (fun _ => by kernel_rfl) ?_); simp only [Act.put, sbA, szA, ssA]) | ((with_reducible show wpList _ _ _ (Oper.mk (some 3) (Op.build _ _) _ _ _ _ :: _) _ _); (refine L_bd rfl 25 _ rfl #[(0, .int .u8 1)] (by kernel_rfl) (sampleP.master.1.map V8) (fun _ => by kernel_rfl) ?_); simp only [Act.put, sbA, szA, ssA]) | ((with_reducible show wpList _ _ _ (Oper.mk (some 4) (Op.build _ _) _ _ _ _ :: _) _ _); (refine L_bd rfl 25 _ rfl #[(0, .int .u8 1)] (by kernel_rfl) (sampleP.otherK.1.map V8) (fun _ => by kernel_rfl) ?_); simp only [Act.put, sbA, szA, ssA]) | ((with_reducible show wpList _ _ _ (Oper.mk (some 5) (Op.build _ _) _ _ _ _ :: _) _ _); (refine L_bd rfl 26 _ rfl #[(0, .int .u8 5)] (by kernel_rfl) (sampleP.mine.1.map V8) (fun _ => by kernel_rfl) ?_); simp only [Act.put, sbA, szA, ssA]) | ((with_reducible show wpList _ _ _ (Oper.mk (some 6) (Op.build _ _) _ _ _ _ :: _) _ _); (refine L_bd rfl 26 _ rfl #[(0, .int .u8 6)] (by kernel_rfl) (sampleP.his.1.map V8) (fun _ => by kernel_rfl) ?_); simp only [Act.put, sbA, szA, ssA]) | ((with_reducible show wpList _ _ _ (Oper.mk (some 7) (Op.build _ _) _ _ _ _ :: _) _ _); (refine L_bd rfl 25 _ rfl #[(0, .int .u8 9)] (by kernel_rfl) (sampleP.gkey.1.map V8) (fun _ => by kernel_rfl) ?_); simp only [Act.put, sbA, szA, ssA]) | ((with_reducible show wpList _ _ _ (Oper.mk (some 8) (Op.build _ _) _ _ _ _ :: _) _ _); (refine L_bd rfl 30 _ rfl #[(0, .int .i64 2), (1, .agg (sampleP.gkey.1.map V8).toArray)] (by kernel_rfl) (cat (partsG 2 sampleP.gkey)) (fun _ => by kernel_rfl) ?_); simp only [Act.put, sbA, szA, ssA]) | ((with_reducible show wpList _ _ _ (Oper.mk (some 9) (Op.build _ _) _ _ _ _ :: _) _ _); (refine L_bd rfl 48 _ rfl #[(0, .agg (sampleP.one.1.map V8).toArray), (1, .agg (sampleP.two.1.map V8).toArray), (2, .agg (sampleP.master.1.map V8).toArray), (3, .agg (sampleP.otherK.1.map V8).toArray), (4, .agg (sampleP.mine.1.map V8).toArray), (5, .agg (sampleP.his.1.map V8).toArray), (6, .agg (cat (partsG 2 sampleP.gkey)).toArray)] (by kernel_rfl) (cat (partsP sampleP)) (fun _ => by kernel_rfl) ?_); simp only [Act.put, sbA, szA, ssA]) | ((with_reducible refine isSt 48 ?_); refine L_sa H rfl rfl 48 _ _ rfl 0 rfl rfl (partsP sampleP) rfl rfl (by kernel_rfl) ?_; clear H; intro wz HWwz H; simp only [szA] at H))
 (exact ret_f1 H Try.results24 0 rfl rfl Try.underlying48 rfl (by kernel_rfl) rfl (⟨rfl, H.out.1⟩))
set_option maxRecDepth 4000 in
set_option maxHeartbeats 1600000 in
theorem together_yes (s1 s2 : Fw) (k : Ks) (gi : Int) (gk x1 x2 : Vc 16) (w : World) : Calls Try.prog 28 #[.agg (cat (parts2 ({ s1 with stage := 4, inst := 1, pair := k, gid := gi, gkey := gk, other := x2, mine := x1 }, { s2 with stage := 4, inst := 1, pair := k, gid := gi, gkey := gk, other := x1, mine := x2 }))).toArray] w fun e w' => e = .returned (.bool true) ∧ Ext w w' := by
 have H := kp (Loc.start w)
 go_enter Try.func28, Try.ntmps28
 go_wp2_with (first | ((with_reducible show wpList _ _ _ (Oper.mk (some 1) (Op.box 55 _) _ _ _ _ :: _) _ _); (refine L_box H rfl 55 _ rfl (cat (parts2 ({ s1 with stage := 4, inst := 1, pair := k, gid := gi, gkey := gk, other := x2, mine := x1 }, { s2 with stage := 4, inst := 1, pair := k, gid := gi, gkey := gk, other := x1, mine := x2 }))) rfl ?_); clear H; intro g1 w1 HGg1 HEg1 H; simp only [Act.put, sbA, szA, ssA]) | ((with_reducible refine isLd 5 ?_); (refine L_f1 H rfl 5 _ rfl 0 rfl _ rfl _ rfl _ rfl Try.underlying5 rfl ?_); simp only [Act.put, sbA, szA, ssA]) | ((with_reducible refine isLd 3 ?_); (refine L_f1 H rfl 3 _ rfl 0 rfl _ rfl _ rfl _ rfl Try.underlying3 rfl ?_); simp only [Act.put, sbA, szA, ssA]) | ((with_reducible refine isLd 28 ?_); refine L_fg H rfl 28 _ rfl 0 rfl _ rfl _ rfl (partsK k) rfl Try.underlying28 rfl (by kernel_rfl) ?_; simp only [Act.put, sbA, szA, ssA]) | ((with_reducible refine isLd 30 ?_); refine L_fg H rfl 30 _ rfl 0 rfl _ rfl _ rfl (partsG gi gk) rfl Try.underlying30 rfl (by kernel_rfl) ?_; simp only [Act.put, sbA, szA, ssA]) | ((with_reducible refine isLd 26 ?_); (refine L_fv H rfl 26 _ rfl 0 rfl _ rfl _ rfl rfl Try.underlying26 rfl (by kernel_rfl) ?_); simp only [Act.put, sbA, szA, ssA]) | (((with_reducible show wpList _ _ _ (Oper.mk _ (Op.binOp _ 26 _ _ _) _ _ _ _ :: _) _ _); (refine wpList_eq2 rfl 26 _ _ _ rfl _ _ _ rfl rfl Try.eqGuardType26 (eqV_in _ Try.underlying26 _ _ 9998) ?_); simp only [Act.put, sbA, szA, ssA]); simp only [decide_true]) | (((with_reducible show wpList _ _ _ (Oper.mk _ (Op.binOp _ 28 _ _ _) _ _ _ _ :: _) _ _); (refine wpList_eq2 rfl 28 _ _ _ rfl _ _ _ rfl rfl Try.eqGuardType28 (eqK_in _ _ _ 9997) ?_); simp only [Act.put, sbA, szA, ssA]); simp only [decide_true]) | (((with_reducible show wpList _ _ _ (Oper.mk _ (Op.binOp _ 30 _ _ _) _ _ _ _ :: _) _ _); (refine wpList_eq2 rfl 30 _ _ _ rfl _ _ _ rfl rfl Try.eqGuardType30 (eqG_in _ _ _ _ _ 9997) ?_); simp only [Act.put, sbA, szA, ssA]); simp only [decide_true, beq_self_eq_true, Bool.and_self]))
 all_goals go_ret
 all_goals exact ⟨rfl, H.out.1⟩
end Go.Proofs.Ytibncchobkaaiaa
