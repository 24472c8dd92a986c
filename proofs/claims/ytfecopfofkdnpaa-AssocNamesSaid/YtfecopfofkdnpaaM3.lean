/- Texts of this proof, put together: FreeE, Aid1, Val5, Used5, Val5b, Alw, All1, Enc. -/
import Derived.Test.YtfecopfofkdnpaaM2
import Derived.Test.YtfecopfofkdnpaaM1
import Derived.Test.YtfecopfofkdnpaaS1
import Derived.Test.YtfecopfofkdnpaaS2
import Derived.Test.YtfecopfofkdnpaaS3
import Derived.Test.YtfecopfofkdnpaaS4
import Derived.Test.YtfecopfofkdnpaaS5
import Derived.Test.YtfecopfofkdnpaaS6
import Derived.Test.YtfecopfofkdnpaaS7
import Derived.Test.YtfecopfofkdnpaaS8
import Derived.Test.YtfecopfofkdnpaaS9
import Derived.Test.YtfecopfofkdnpaaS10
import Derived.Test.YtfecopfofkdnpaaS11
import Derived.Test.YtfecopfofkdnpaaS12
import Derived.Test.YtfecopfofkdnpaaS13
import Derived.Test.YtfecopfofkdnpaaS14
import Derived.Test.YtfecopfofkdnpaaS15
import Derived.Test.YtfecopfofkdnpaaS16
import Derived.Test.YtfecopfofkdnpaaS17
import Derived.Test.YtfecopfofkdnpaaS18
import Derived.Test.YtfecopfofkdnpaaS19
import Derived.Test.YtfecopfofkdnpaaS20
import Derived.Test.YtfecopfofkdnpaaS21
import Derived.Test.YtfecopfofkdnpaaS22
import Derived.Test.YtfecopfofkdnpaaS23
import Derived.Test.YtfecopfofkdnpaaS24
import Derived.Test.YtfecopfofkdnpaaS25
import Derived.Test.YtfecopfofkdnpaaS26
import Derived.Test.YtfecopfofkdnpaaS27
import Derived.Test.YtfecopfofkdnpaaS28
import Derived.Test.YtfecopfofkdnpaaS29
import Derived.Test.YtfecopfofkdnpaaS30
namespace Go.Proofs.Ytfecopfofkdnpaa
open Go.RowKit
def TrE (T B : Nat) (w w' : World) : Prop := Ext w w' ∨ ∃ g cs ds, B ≤ g ∧ Lc w g T cs ∧ w' = w.setRow g (ds : List Value).toArray
section
variable {P : Program} {ops : Array Oper}
structure InvE (ops : Array Oper) (S : Tmp → Value → World → Prop) (iA iS dA dV T : Nat) (c0 : List Value) (n : Nat) (W : World) (a0 : Act) (rem : List Nat) (listed : Array Bool) (a : Act) (w : World) : Prop where
 head : HeadInv .any ops n listed
 nodup : rem.Nodup
 lt : ∀ j ∈ rem, j < n
 mem : ∀ j, j < n → (listed.getD j false = true ↔ j ∉ rem)
 size : a.tmps.size = a0.tmps.size
 defers : a.defers = a0.defers
 done : ∀ d, (∃ j o, j < n ∧ j ∉ rem ∧ ops[j]? = some o ∧ o.dst = some d) → ∃ v, a.tmps[d]? = some v ∧ S d v w
 open_ : ∀ d, (∀ j o, j < n → j ∉ rem → ops[j]? = some o → o.dst ≠ some d) → a.tmps[d]? = a0.tmps[d]?
 ext : Ext W w
 var : iA ∉ rem → ∃ g, a.tmps[dA]? = some (.pointer (some ⟨g, 0, none⟩)) ∧ W.heap.size ≤ g ∧ (if iS ∈ rem then Lc w g T c0 else ∃ cs : List Value, a.tmps[dV]? = some (.agg cs.toArray) ∧ Lc w g T cs)
 pre : iS ∉ rem → iA ∉ rem ∧ ∀ j o, j < n → ops[j]? = some o → o.dst = some dV → j ∉ rem
theorem InvE.step {S : Tmp → Value → World → Prop} {iA iS dA dV T : Nat} {c0 : List Value} {n : Nat} {W : World} (hS : ∀ d v w w', S d v w → TrE T W.heap.size w w' → S d v w') {a0 : Act} {rem : List Nat} {listed : Array Bool} {a : Act} {w w' : World} (inv : InvE ops S iA iS dA dV T c0 n W a0 rem listed a w)
  {i : Nat} {o : Oper} (hi : i ∈ Region.ready .any ops listed) (hin : i < n) (ho : ops[i]? = some o) (v : Value) (htr : TrE T W.heap.size w w') (hext : Ext W w')
  (hsz : ∀ (j : Nat) o d, j < n → ops[j]? = some o → o.dst = some d → d < a0.tmps.size)
  (hv : ∀ d, o.dst = some d → S d v w')
  (hvar : iA ∉ rem.erase i → ∃ g, (a.put o.dst v).tmps[dA]? = some (.pointer (some ⟨g, 0, none⟩)) ∧ W.heap.size ≤ g ∧ (if iS ∈ rem.erase i then Lc w' g T c0 else ∃ cs : List Value, (a.put o.dst v).tmps[dV]? = some (.agg cs.toArray) ∧ Lc w' g T cs)) (hpre : iS ∉ rem.erase i → iA ∉ rem.erase i ∧ ∀ j o, j < n → ops[j]? = some o → o.dst = some dV → j ∉ rem.erase i) :
  InvE ops S iA iS dA dV T c0 n W a0 (rem.erase i) (listed.setIfInBounds i true) (a.put o.dst v) w' := by
 have hun := (mem_ready.1 hi).1
 have hirem : i ∈ rem := by
  rcases Classical.em (i ∈ rem) with h | h
  ·exact h
  ·have := (inv.mem i hin).2 h
   rw [getD_both hun] at this; cases this
 have hmem : ∀ j, j < n → (j ∉ rem.erase i ↔ j ∉ rem ∨ j = i) := fun j _ => by
  rw [inv.nodup.mem_erase_iff]
  constructor
  ·intro h; by_cases hj : j = i
   ·exact .inr hj
   ·exact .inl fun hm => h ⟨hj, hm⟩
  ·rintro (h | h) ⟨h1, h2⟩
   ·exact h h2
   ·exact h1 h
 have hlen : i < listed.size := by
  rcases Nat.lt_or_ge i listed.size with h | h
  ·exact h
  ·simp [Array.getElem?_eq_none h] at hun
 refine ⟨inv.head.set hi hin, inv.nodup.erase i, fun j hj => inv.lt j (List.mem_of_mem_erase hj), fun j hj => ?_, by rw [put_size, inv.size], by rw [put_defers, inv.defers], fun d h => ?_, fun d h => ?_, hext, hvar, hpre⟩
 ·rw [hmem j hj]
  by_cases hji : i = j
  ·subst hji; simp [hlen]
  ·rw [getD_set_ne false hji, inv.mem j hj]
   exact ⟨fun h => .inl h, fun h => h.resolve_right fun e => hji e.symm⟩
 ·obtain ⟨j, oj, hj, hjr, hoj, hdj⟩ := h
  by_cases hod : o.dst = some d
  ·rw [hod, put_get, if_pos rfl]
   have hlt : d < a.tmps.size := by rw [inv.size]; exact hsz i o d hin ho hod
   exact ⟨v, by rw [if_pos hlt], hv d hod⟩
  ·rw [put_other _ _ _ _ hod]
   obtain ⟨u, hu1, hu2⟩ := inv.done d ⟨j, oj, hj, (by
    rcases (hmem j hj).1 hjr with h | h
    ·exact h
    ·subst h; rw [ho] at hoj; cases hoj; exact absurd hdj hod), hoj, hdj⟩
   exact ⟨u, hu1, hS d u w w' hu2 htr⟩
 ·have hod : o.dst ≠ some d := h i o hin ((hmem i hin).2 (.inr rfl)) ho
  rw [put_other _ _ _ _ hod]
  exact inv.open_ d fun j oj hj hjr hoj => h j oj hj ((hmem j hj).2 (.inl hjr)) hoj
def FinE (ops : Array Oper) (S : Tmp → Value → World → Prop) (dA dV T : Nat) (n : Nat) (W : World) (a0 a' : Act) (w' : World) : Prop :=
 Ext W w' ∧ a'.tmps.size = a0.tmps.size ∧ a'.defers = a0.defers ∧ (∀ d, (∃ j o, j < n ∧ ops[j]? = some o ∧ o.dst = some d) → ∃ v, a'.tmps[d]? = some v ∧ S d v w') ∧ (∀ d, (∀ j o, j < n → ops[j]? = some o → o.dst ≠ some d) → a'.tmps[d]? = a0.tmps[d]?) ∧
 ∃ g cs, a'.tmps[dA]? = some (.pointer (some ⟨g, 0, none⟩)) ∧ W.heap.size ≤ g ∧ a'.tmps[dV]? = some (.agg (cs : List Value).toArray) ∧ Lc w' g T cs
theorem flat_freeE {S : Tmp → Value → World → Prop} {iA iS dA dV T : Nat} {c0 : List Value} {n : Nat} {W : World} (hS : ∀ d v w w', S d v w → TrE T W.heap.size w w' → S d v w') (hSA : ∀ v w, S dA v w) {a0 : Act} {Q : Exit → Act → World → Prop} (hB : flatB ops n = true)
  (hAn : iA < n) (hSn : iS < n) (hAS : iA ≠ iS) (hA : ∀ o, ops[iA]? = some o → o.guard = none ∧ o.dst = some dA ∧ ∀ (b : Act) (w : World), (execOp b.eval o).run P w = .ok (.value (.pointer (some ⟨w.heap.size, 0, none⟩))) (w.alloc (.cells c0.toArray T)))
  (hwS : Region.waitsFor .any ops iS iA = true) (hVp : ∃ j o, j < n ∧ ops[j]? = some o ∧ o.dst = some dV)
  (hSt : ∀ o, ops[iS]? = some o → o.guard = none ∧ o.dst = none ∧ dV ∈ o.looksAt ops ∧ ∀ (b : Act) (w : World) (g : Nat) (v : Value), b.tmps[dA]? = some (.pointer (some ⟨g, 0, none⟩)) → b.tmps[dV]? = some v → S dV v w → Lc w g T c0 → ∃ cs : List Value, v = .agg cs.toArray ∧ (execOp b.eval o).run P w = .ok .skip (w.setRow g cs.toArray))
  (hdA : ∀ i o, i < n → i ≠ iA → ops[i]? = some o → o.dst ≠ some dA)
  (hsz : ∀ (j : Nat) o d, j < n → ops[j]? = some o → o.dst = some d → d < a0.tmps.size)
  (hq : ∀ i o, i < n → i ≠ iA → i ≠ iS → ops[i]? = some o → ∀ (b : Act) (w : World), b.tmps.size = a0.tmps.size → (∀ d ∈ o.looksAt ops, (∀ j o, j < n → ops[j]? = some o → o.dst ≠ some d) → b.tmps[d]? = a0.tmps[d]?) → Ext W w → (∀ d ∈ o.looksAt ops, (∃ j o, j < n ∧ ops[j]? = some o ∧ o.dst = some d) → ∃ v, b.tmps[d]? = some v ∧ S d v w) →
   ∀ K : Act → World → Prop, (∀ v w', (∀ d, o.dst = some d → S d v w') → Ext w w' → K (b.put o.dst v) w') → if Region.wanted o (yielded ops b.tmps) then o.wp P b w K Q else K (b.put o.dst undef) w)
  (ht : ∀ a' w', FinE ops S dA dV T n W a0 a' w' → wpList P ops Q (ops.toList.drop n) a' w') :
  ∀ (f : Nat) (rem : List Nat) (listed : Array Bool) (a : Act) (w : World), rem.length = f → InvE ops S iA iS dA dV T c0 n W a0 rem listed a w → wpAny P .any ops Q (f + (ops.size - n)) listed a w := by
 simp only [flatB, Bool.and_eq_true, Bool.or_eq_true, decide_eq_true_eq] at hB
 obtain ⟨⟨⟨⟨hsel, hn⟩, hsc⟩, hseq⟩, hhd⟩ := hB
 intro f
 induction f with
 | zero =>
  intro rem listed a w hf inv
  have hnil : rem = [] := List.eq_nil_of_length_eq_zero hf
  subst hnil
  have hlisted : listed = (List.replicate n true ++ List.replicate (ops.size - n) false).toArray := by
   have hs := inv.head.size
   refine Array.ext (by simp [hs]; omega) fun j h1 h2 => ?_
   rcases Nat.lt_or_ge j n with hj | hj
   ·have := (inv.mem j hj).2 (by simp)
    simp [h1] at this
    simp [this, hj, List.getElem_append_left]
   ·have := inv.head.tail j hj (by rw [← hs]; exact h1)
    simp [h1] at this
    rw [this]
    simp only [List.getElem_toArray]
    rw [List.getElem_append_right (by simpa using hj)]
    simp
  have hfin : FinE ops S dA dV T n W a0 a w :=
   ⟨inv.ext, inv.size, inv.defers, fun d ⟨j, o, hj, hoj, hdj⟩ => inv.done d ⟨j, o, hj, by simp, hoj, hdj⟩, fun d h => inv.open_ d fun j o hj _ hoj => h j o hj hoj, by obtain ⟨g, h1, h2, h3⟩ := inv.var (by simp); rw [if_neg (by simp)] at h3; obtain ⟨cs, h4, h5⟩ := h3; exact ⟨g, cs, h1, h2, h4, h5⟩⟩
  have hl : (ops.toList.drop n).length = ops.size - n := by simp
  have := wpAny_of_seq (P := P) (md := .any) (Q' := Q) (ops := ops) (ops.toList.drop n) n listed a w (fun j => by simp [List.getElem?_drop]) (by rw [hl, hlisted]; exact hseq) (ht a w hfin)
  rw [hl] at this
  rw [Nat.zero_add]; exact this
 | succ f ih =>
  intro rem listed a w hf inv
  have hne : ∃ i, i ∈ rem := by
   cases rem with
   | nil => simp at hf
   | cons x l => exact ⟨x, by simp⟩
  have hpos : 0 < n := by obtain ⟨i, hi⟩ := hne; have := inv.lt i hi; omega
  have hleast : ∀ k, (∃ i, i ≤ k ∧ i ∈ rem) → ∃ i ∈ rem, ∀ j ∈ rem, i ≤ j := by
   intro k
   induction k with
   | zero => rintro ⟨i, hi, him⟩; exact ⟨i, him, fun j _ => by omega⟩
   | succ k ihk =>
    rintro ⟨i, hi, him⟩
    rcases Classical.em (∃ i, i ≤ k ∧ i ∈ rem) with h | h
    ·exact ihk h
    ·refine ⟨i, him, fun j hj => ?_⟩
     rcases Nat.lt_or_ge j i with h' | h'
     ·exact absurd ⟨j, by omega, hj⟩ h
     ·exact h'
  obtain ⟨i9, hi9⟩ := hne
  obtain ⟨i0, hi0, hmin⟩ := hleast i9 ⟨i9, Nat.le_refl _, hi9⟩
  have hi0n := inv.lt i0 hi0
  have hi0u : listed.getD i0 false = false := by
   cases h : listed.getD i0 false with
   | false => rfl
   | true => exact absurd hi0 ((inv.mem i0 hi0n).1 h)
  have hi0s : i0 < listed.size := by rw [inv.head.size]; omega
  have hrow := fun i (hi : i < n) => List.all_eq_true.1 hhd i (List.mem_range.2 hi)
  have hready : i0 ∈ Region.ready .any ops listed := by
   have hr := hrow i0 hi0n
   cases ho : ops[i0]? with
   | none => simp [ho] at hr
   | some o =>
    simp only [ho, Bool.and_eq_true] at hr
    refine mem_ready.2 ⟨getD_in hi0s hi0u, o, ho, fun e he hb => ?_⟩
    have := Array.all_eq_true'.1 hr.1 e he
    simp [hb] at this
    refine (inv.mem e.on (by omega)).2 fun hm => ?_
    have := hmin _ hm; omega
  rw [show f + 1 + (ops.size - n) = (f + (ops.size - n)) + 1 by omega]
  refine ⟨fun h => (by rw [h] at hready; cases hready), fun i hi => ?_⟩
  have hin : i < n := by
   rcases Nat.lt_or_ge i n with h | h
   ·exact h
   ·rcases hsc with ⟨⟨hlt, hs⟩, hc⟩ | heq
    ·exact absurd hi (tail_waits hs hc hlt inv.head _ i0 rfl hi0n (getD_in hi0s hi0u) i h)
    ·obtain ⟨_, o, ho, _⟩ := mem_ready.1 hi
     have := (Array.getElem?_eq_some_iff.1 ho).1
     omega
  obtain ⟨hun, o, ho, hall⟩ := mem_ready.1 hi
  have hirem : i ∈ rem := by
   rcases Classical.em (i ∈ rem) with h | h
   ·exact h
   ·have := (inv.mem i hin).2 h
    rw [getD_both hun] at this; cases this
  have hlen : (rem.erase i).length = f := by rw [List.length_erase_of_mem hirem]; omega
  have hlg : ∀ d ∈ o.looksAt ops, (∃ j oj, j < n ∧ ops[j]? = some oj ∧ oj.dst = some d) → ∃ v, a.tmps[d]? = some v ∧ S d v w := fun d hd ⟨j, oj, hj, hoj, hdj⟩ => by
   have hr := hrow i hin
   simp only [ho, Bool.and_eq_true] at hr
   have h2 := List.all_eq_true.1 hr.2 d hd
   have h3 := List.all_eq_true.1 h2 j (List.mem_range.2 hj)
   simp only [hoj, hdj, Bool.or_eq_true] at h3
   have h4 : Region.waitsFor .any ops i j = true := by
    rcases h3 with h | h
    ·simp at h
    ·exact h
   obtain ⟨oi, hoi, e, he, hb, hon⟩ := Region.waitsFor_spec h4
   have : oi = o := Option.some.inj (hoi.symm.trans ho)
   subst this
   have := hall e he hb
   rw [hon] at this
   exact inv.done d ⟨j, oj, hj, (inv.mem j hj).1 this, hoj, hdj⟩
  have hopn : ∀ d ∈ o.looksAt ops, (∀ j o, j < n → ops[j]? = some o → o.dst ≠ some d) → a.tmps[d]? = a0.tmps[d]? := fun d _ h => inv.open_ d fun j o hj _ hoj => h j o hj hoj
  unfold wpOp
  simp only [ho]
  have hmemE : ∀ j, j ∈ rem.erase i ↔ j ≠ i ∧ j ∈ rem := fun j => inv.nodup.mem_erase_iff
  have hwt : ∀ j, j < n → Region.waitsFor .any ops i j = true → j ∉ rem := fun j hj hw => by
   obtain ⟨oi, hoi, e, he, hb, hon⟩ := Region.waitsFor_spec hw
   rw [ho] at hoi
   have : o = oi := Option.some.inj hoi
   subst this
   have := hall e he hb
   rw [hon] at this
   exact (inv.mem j hj).1 this
  by_cases hiA : i = iA
  ·subst hiA
   obtain ⟨hg, hd, hrun⟩ := hA o ho
   have hSr : iS ∈ rem := Classical.byContradiction fun z => (inv.pre z).1 hirem
   rw [if_pos (by simp [Region.wanted, hg])]
   refine .inl ?_
   unfold Oper.wp
   rw [hrun a w]
   simp only [Oper.upon]
   refine ih (rem.erase i) _ _ _ hlen (inv.step hS hi hin ho _ (.inl (Ext.alloc w _)) (inv.ext.trans (Ext.alloc w _)) hsz (fun d hd' => ?_) (fun _ => ?_) (fun z => ?_))
   ·rw [hd] at hd'; cases hd'; exact hSA _ _
   ·refine ⟨w.heap.size, ?_, inv.ext.size, ?_⟩
    ·rw [hd, put_get, if_pos rfl, if_pos (by rw [inv.size]; exact hsz i o dA hin ho hd)]
    ·rw [if_pos ((hmemE iS).2 ⟨fun e => hAS e.symm, hSr⟩)]
     exact hp_new w _
   ·exact absurd ((hmemE iS).2 ⟨fun e => hAS e.symm, hSr⟩) z
  by_cases hiS : i = iS
  ·subst hiS
   obtain ⟨hg, hd, hVl, hrun⟩ := hSt o ho
   have hAr : iA ∉ rem := hwt iA hAn hwS
   obtain ⟨g, hv1, hv2, hv3⟩ := inv.var hAr
   rw [if_pos hirem] at hv3
   obtain ⟨v, hvv, hvS⟩ := hlg dV hVl hVp
   rw [if_pos (by simp [Region.wanted, hg])]
   refine .inl ?_
   obtain ⟨cs, rfl, hrn⟩ := hrun a w g v hv1 hvv hvS hv3
   unfold Oper.wp
   rw [hrn]
   simp only [Oper.upon]
   have hxx : Ext W (w.setRow g cs.toArray) := (Out.set (G := [g]) (by simp) w cs.toArray).ext inv.ext (fun g' hg' => by obtain rfl := List.mem_singleton.1 hg'; exact hv2)
   refine ih (rem.erase i) _ _ _ hlen (inv.step hS hi hin ho undef (.inr ⟨g, c0, cs, hv2, hv3, rfl⟩) hxx hsz (fun d hd' => by rw [hd] at hd'; cases hd') (fun _ => ?_) (fun _ => ⟨fun z => hAr ((hmemE iA).1 z).2, fun j oj hj hoj hdj z => ?_⟩))
   ·refine ⟨g, by rw [hd]; exact hv1, hv2, ?_⟩
    rw [if_neg (fun z => ((hmemE i).1 z).1 rfl)]
    exact ⟨cs, by rw [hd]; exact hvv, hv3.set _⟩
   ·have hr := hrow i hin
    simp only [ho, Bool.and_eq_true] at hr
    have h2 := List.all_eq_true.1 hr.2 dV hVl
    have h3 := List.all_eq_true.1 h2 j (List.mem_range.2 hj)
    simp only [hoj, hdj, Bool.or_eq_true] at h3
    have h4 : Region.waitsFor .any ops i j = true := by
     rcases h3 with h | h
     ·simp at h
     ·exact h
    exact hwt j hj h4 ((hmemE j).1 z).2
  ·have H := hq i o hin hiA hiS ho a w inv.size hopn inv.ext hlg
    (wpAny P .any ops Q (f + (ops.size - n)) (listed.setIfInBounds i true))
    (fun v w' hv hext => ih (rem.erase i) _ _ _ hlen (inv.step hS hi hin ho v (.inl hext) (inv.ext.trans hext) hsz hv (fun z => by
     obtain ⟨g, h1, h2, h3⟩ := inv.var (fun y => z ((hmemE iA).2 ⟨fun e => hiA e.symm, y⟩))
     refine ⟨g, by rw [put_other _ _ _ _ (hdA i o hin hiA ho)]; exact h1, h2, ?_⟩
     have e : (iS ∈ rem.erase i) = (iS ∈ rem) := propext ⟨fun y => ((hmemE iS).1 y).2, fun y => (hmemE iS).2 ⟨fun e => hiS e.symm, y⟩⟩
     simp only [e]
     by_cases hin2 : iS ∈ rem
     ·rw [if_pos hin2] at h3 ⊢
      exact h3.ext hext
     ·rw [if_neg hin2] at h3 ⊢
      obtain ⟨cs, q1, q2⟩ := h3
      refine ⟨cs, ?_, q2.ext hext⟩
      rw [put_other _ _ _ _ (fun hd => (inv.pre hin2).2 i o hin ho hd hirem)]
      exact q1) (fun z => ⟨fun y => (inv.pre (fun x => z ((hmemE iS).2 ⟨fun e => hiS e.symm, x⟩))).1 ((hmemE iA).1 y).2, fun j oj hj hoj hdj y => (inv.pre (fun x => z ((hmemE iS).2 ⟨fun e => hiS e.symm, x⟩))).2 j oj hj hoj hdj ((hmemE j).1 y).2⟩)))
   split
   ·rename_i hw; rw [if_pos hw] at H; exact .inl H
   ·rename_i hw; rw [if_neg hw] at H; exact H
def wpE (P : Program) (ops : Array Oper) (W : World) (S : Tmp → Value → World → Prop) (iA iS : Nat) (D : List Tmp) (fin : Act → Prop) : Nat → List Oper → Act → Prop
 | _, [], a => fin a
 | k, o :: l, a => ((k == iA || k == iS) = false → ∀ w, Ext W w → (∀ d ∈ o.looksAt ops, d ∈ D → S d (a.tmps.getD d undef) w) → wpList P ops (KS S o a w) [o] a w) ∧ ∀ v, wpE P ops W S iA iS D fin (k + 1) l (a.put o.dst v)
theorem free_of_walkE {W : World} {S : Tmp → Value → World → Prop} {iA iS : Nat} {D : List Tmp} {fin : Act → Prop} {Q : Exit → Act → World → Prop} (hsel : ∀ (j : Nat) (o : Oper) cs b, ops[j]? = some o → o.op ≠ .select cs b) : ∀ (l : List Oper) (k : Nat) (a : Act), (∀ o ∈ l, ∃ j : Nat, ops[j]? = some o) → (∀ o ∈ l, ∀ d, o.dst = some d → d < a.tmps.size) → topoB ops l = true →
  wpE P ops W S iA iS D fin k l a → ∀ (j : Nat) o, l[j]? = some o → ∀ (b : Act) (w : World), b.tmps.size = a.tmps.size → (∀ d ∈ o.looksAt ops, d ∉ dsts l → b.tmps[d]? = a.tmps[d]?) → Ext W w → (∀ d ∈ o.looksAt ops, d ∈ D → S d (b.tmps.getD d undef) w) → (k + j == iA || k + j == iS) = false →
   ∀ K : Act → World → Prop, (∀ v w', (∀ d, o.dst = some d → S d v w') → Ext w w' → K (b.put o.dst v) w') → if Region.wanted o (yielded ops b.tmps) then o.wp P b w K Q else K (b.put o.dst undef) w
 | [], _, _, _, _, _, _, j, o, ho => by simp at ho
 | o :: l, k, a, hin, hlt, ht, h, 0, o', ho' => by
  have hoo : o = o' := by simpa using ho'
  subst hoo
  simp only [topoB, Bool.and_eq_true] at ht
  obtain ⟨⟨t1, t2⟩, t3⟩ := ht
  intro b w hb hag hext hSd hne
  have hl : ∀ d ∈ o.looksAt ops, a.tmps[d]? = b.tmps[d]? := fun d hd => by
   have := List.all_eq_true.1 t1 d hd
   exact (hag d hd (by simpa using this)).symm
  obtain ⟨j, hj⟩ := hin o (by simp)
  obtain ⟨e1, e2⟩ := eval_same (ops := ops) hl (fun cs b => hsel j o cs b hj)
  have hSa : ∀ d ∈ o.looksAt ops, d ∈ D → S d (a.tmps.getD d undef) w := fun d hd hD => by
   have := hSd d hd hD
   rw [Array.getD_eq_getD_getElem?] at this ⊢
   rw [hl d hd]; exact this
  unfold wpE at h
  rw [Nat.add_zero] at hne
  intro K hK
  have H := h.1 hne w hext hSa
  unfold wpList at H
  rw [e2] at H
  split at H
  ·rename_i hw
   rw [if_pos hw]
   rcases H with H | ⟨_, _, _, hc, _⟩
   ·exact wp_transfer e1 (hlt o (by simp)) (Oper.wp_mono (fun _ _ h => h) H) hK
   ·cases hc
  ·rename_i hw
   rw [if_neg hw]
   obtain ⟨_, u, he, hs, hx⟩ := H
   refine hK undef w (fun d hd => ?_) (Ext.refl w)
   rw [hd] at he
   rw [put_inj (hlt o (by simp) d hd) he]
   exact hs d hd
 | o :: l, k, a, hin, hlt, ht, h, j + 1, o', ho' => by
  simp only [topoB, Bool.and_eq_true] at ht
  obtain ⟨⟨t1, t2⟩, t3⟩ := ht
  intro b w hb hag hext hSd hne
  rw [show k + (j + 1) = (k + 1) + j by omega] at hne
  unfold wpE at h
  have hoj : l[j]? = some o' := by simpa using ho'
  have hsame : ∀ c : Act, c = a.put o.dst (b.tmps.getD (o.dst.getD 0) undef) → ∀ d ∈ o'.looksAt ops, d ∉ dsts l → b.tmps[d]? = c.tmps[d]? := fun c hc d hd hn => by
   subst hc
   ·cases hod : o.dst with
    | none => exact hag d hd (by simp only [dsts, List.filterMap_cons, hod]; exact hn)
    | some e =>
     have he := hlt o (by simp) e hod
     rw [put_get]
     by_cases hde : e = d
     ·subst hde
      rw [if_pos rfl, if_pos he]
      have heb : e < b.tmps.size := by rw [hb]; exact he
      simp [heb]
     ·rw [if_neg hde]
      refine hag d hd ?_
      simp only [dsts, List.filterMap_cons, hod, List.mem_cons, not_or]
      exact ⟨fun e' => hde e'.symm, hn⟩
  exact free_of_walkE hsel l (k + 1) _ (fun x hx => hin x (by simp [hx])) (fun x hx d hd => by rw [put_size]; exact hlt x (by simp [hx]) d hd) t3 (h.2 (b.tmps.getD (o.dst.getD 0) undef)) j o' hoj b w (by rw [put_size]; exact hb) (hsame _ rfl) hext hSd hne
theorem region_freeE {id : Nat} {Q : Exit → Act → World → Prop} {a : Act} {w0 W : World} {bs : List Bk} {l : List Oper} (H : Kp (Loc w0 W bs)) (S : Tmp → Value → World → Prop) (iA iS dA dV T : Nat) (c0 : List Value) (n : Nat) (hS : ∀ d v w w', S d v w → TrE T W.heap.size w w' → S d v w') (hSA : ∀ v w, S dA v w) (hSV : ∀ v w, S dV v w → ∃ cs : List Value, v = .agg cs.toArray ∧ c0.length = cs.length ∧ cs.toArray.all (·.oneCell') = true) (hm : P.follows .mixedOrders = true)
  (hB : flatB l.toArray n = true) (hT : topoB l.toArray (l.take n) = true) (hD : ((l.take n).all fun o => match o.dst with | some d => decide (d < a.tmps.size) | none => true) = true)
  (oA oS : Oper) (hoA : l.toArray[iA]? = some oA) (hoS : l.toArray[iS]? = some oS) (hAn : iA < n) (hSn : iS < n) (hAS : iA ≠ iS) (hgA : oA.guard = none) (hA2 : oA.op = .alloc T) (hA3 : oA.dst = some dA) (hz : ∀ w, (zeroValue T).run P w = .ok (.agg c0.toArray) w)
  (hS1 : oS.guard = none) (hS2 : oS.dst = none) (hS3 : oS.op = .store T (.tmp dA) (.tmp dV)) (hVl : (oS.looksAt l.toArray).contains dV = true) (hVd : (dsts (l.take n)).contains dV = true) (hwS : Region.waitsFor .any l.toArray iS iA = true) (hsz : (P.info? T).map (·.size) = some c0.toArray.size)
  (hdA : ((List.range n).all fun i => i == iA || match l.toArray[i]? with | some o => !(o.dst == some dA) | none => true) = true)
  (h : wpE P l.toArray W S iA iS (dsts (l.take n)) (fun a' => ∀ w', Kp (Ext W w') → (∀ d ∈ dsts (l.take n), S d (a'.tmps.getD d undef) w') → (∃ g cs, a'.tmps.getD dA undef = .pointer (some ⟨g, 0, none⟩) ∧ W.heap.size ≤ g ∧ a'.tmps.getD dV undef = .agg cs.toArray ∧ Kp (Loc w0 w' ((g, T, cs) :: bs))) → wpList P l.toArray Q (l.drop n) a' w') 0 (l.take n) a) :
  (Code.region id l.toArray true).wp P Q a W := by
 have hn := flatB_le hB
 have hidx : ∀ (i : Nat) (o : Oper), i < n → l.toArray[i]? = some o → (l.take n)[i]? = some o := fun i o hi ho => by
  rw [List.getElem?_take, if_pos hi]; simpa using ho
 have hinl : ∀ (i : Nat) (o : Oper), i < n → l.toArray[i]? = some o → o ∈ l.take n := fun i o hi ho => List.mem_of_getElem? (hidx i o hi ho)
 have hout : ∀ o, o ∈ l.take n → ∃ j : Nat, j < n ∧ l.toArray[j]? = some o := fun o ho => by
  obtain ⟨j, hj⟩ := List.getElem?_of_mem ho
  rw [List.getElem?_take] at hj
  split at hj
  ·rename_i hlt; exact ⟨j, hlt, by simpa using hj⟩
  ·cases hj
 have hlt : ∀ o ∈ l.take n, ∀ d, o.dst = some d → d < a.tmps.size := fun o ho d hd => by
  have := List.all_eq_true.1 hD o ho
  rw [hd] at this; simpa using this
 have hwalk := free_of_walkE (P := P) (ops := l.toArray) (Q := Q) (Region.noSelect_spec (flatB_sel hB)) (l.take n) 0 a (fun o' ho' => by
   obtain ⟨j, _, hj⟩ := hout o' ho'; exact ⟨j, hj⟩) hlt hT h
 have hSd : ∀ (b : Act) (w : World) (o : Oper), (∀ d ∈ o.looksAt l.toArray, (∃ j o, j < n ∧ l.toArray[j]? = some o ∧ o.dst = some d) → ∃ v, b.tmps[d]? = some v ∧ S d v w) → ∀ d ∈ o.looksAt l.toArray, d ∈ dsts (l.take n) → S d (b.tmps.getD d undef) w := fun b w o hdn d hd hdD => by
  obtain ⟨oj, hoj, hdj⟩ := mem_dsts.1 hdD
  obtain ⟨j, hj, hj2⟩ := hout oj hoj
  obtain ⟨v, hv1, hv2⟩ := hdn d hd ⟨j, oj, hj, hj2, hdj⟩
  rw [Array.getD_eq_getD_getElem?, hv1]; exact hv2
 refine wp_region_any hm ?_
 have HF := flat_freeE (P := P) (ops := l.toArray) (S := S) (iA := iA) (iS := iS) (dA := dA) (dV := dV) (T := T) (c0 := c0) (n := n) (W := W) (a0 := a) (Q := Q) hS hSA hB hAn hSn hAS
  (fun o ho => by
   rw [hoA] at ho; cases ho
   refine ⟨hgA, hA3, fun b w => ?_⟩
   unfold execOp
   simp only [hA2, Instr.alloc, newVar, Sem.run_bind, hz, Result.andThen_ok]
   rfl)
  hwS (by
   obtain ⟨oj, hoj, hdj⟩ := mem_dsts.1 (List.contains_iff_mem.1 hVd)
   obtain ⟨j, hj, hj2⟩ := hout oj hoj
   exact ⟨j, oj, hj, hj2, hdj⟩)
  (fun o ho => by
   rw [hoS] at ho; cases ho
   refine ⟨hS1, hS2, List.contains_iff_mem.1 hVl, fun b w g v h1 h2 h3 h4 => ?_⟩
   obtain ⟨cs, rfl, hlen, hone⟩ := hSV v w h3
   exact ⟨cs, rfl, run_sto T (.tmp dA) (.tmp dV) hS3 (by simp [Act.eval, h1]) (by simp [Act.eval, h2]) h4 (by rw [hsz, List.size_toArray, List.size_toArray, hlen]) hlen hone⟩)
  (fun i o hi hne ho hd => by
   have := List.all_eq_true.1 hdA i (List.mem_range.2 hi)
   simp [ho, hd, hne] at this)
  (fun j o d hj hoj hd => hlt o (hinl j o hj hoj) d hd)
  (fun i o hi2 hnA hnS ho b w hb hop hext hdn K hK => by
   have h1 := hwalk i o (hidx i o hi2 ho) b w hb (fun d hd hnd => hop d hd fun j oj hj hoj hdj => hnd (mem_dsts.2 ⟨oj, hinl j oj hj hoj, hdj⟩)) hext (hSd b w o hdn) (by rw [Nat.zero_add]; simp [hnA, hnS])
   exact h1 K hK)
  (by
   intro a' w' hf
   obtain ⟨ho, h2, h3, h4, h5, g, cs, hg1, hg2, hgv, hg3⟩ := hf
   have hend : ∀ (L : List Oper) (k : Nat) (c : Act), c.tmps.size = a'.tmps.size → c.defers = a'.defers → (∀ o ∈ L, ∀ d, o.dst = some d → d < c.tmps.size) → (∀ d, d < a'.tmps.size → d ∉ dsts L → c.tmps[d]? = a'.tmps[d]?) → ∀ {D : List Tmp} {fin : Act → Prop}, wpE P l.toArray W S iA iS D fin k L c → ∃ c', fin c' ∧ c'.tmps.size = a'.tmps.size ∧ c'.defers = a'.defers ∧ ∀ d, d < a'.tmps.size → c'.tmps[d]? = a'.tmps[d]? := by
    intro L
    induction L with
    | nil => intro k c hs hdf _ hag D fin hw; exact ⟨c, hw, hs, hdf, fun d hd => hag d hd (by simp [dsts])⟩
    | cons o L ih =>
     intro k c hs hdf hlt2 hag D fin hw
     unfold wpE at hw
     refine ih (k + 1) (c.put o.dst (a'.tmps.getD (o.dst.getD 0) undef)) (by rw [put_size]; exact hs) (by rw [put_defers]; exact hdf) (fun x hx d hd => by rw [put_size]; exact hlt2 x (by simp [hx]) d hd) (fun d hd hnd => ?_) (hw.2 _)
     cases hod : o.dst with
     | none => exact hag d hd (by simp only [dsts, List.filterMap_cons, hod]; exact hnd)
     | some e =>
      have he := hlt2 o (by simp) e hod
      rw [put_get]
      by_cases hde : e = d
      ·subst hde
       rw [if_pos rfl, if_pos he]
       have heb : e < a'.tmps.size := by rw [← hs]; exact he
       simp [heb]
      ·rw [if_neg hde]
       refine hag d hd ?_
       simp only [dsts, List.filterMap_cons, hod, List.mem_cons, not_or]
       exact ⟨fun e' => hde e'.symm, hnd⟩
   obtain ⟨c', hfin, hcs, hcd, hca⟩ := hend (l.take n) 0 a h2.symm h3.symm hlt (fun d hd hnd => (h5 d fun j oj hj hoj hdj => hnd (mem_dsts.2 ⟨oj, hinl j oj hj hoj, hdj⟩)).symm) h
   have : a' = c' := act_ext hcd.symm fun d => by
    by_cases hd : d < a'.tmps.size
    ·exact (hca d hd).symm
    ·rw [Array.getElem?_eq_none (by omega), Array.getElem?_eq_none (by omega)]
   rw [this]
   have hlist : l.toArray.toList.drop n = l.drop n := by simp
   rw [hlist]
   refine hfin w' (kp ho) (fun d hd => ?_) ⟨g, cs, ?_, hg2, ?_, kp ⟨H.out.1.trans ho, ?_, fun b hb => ?_⟩⟩
   obtain ⟨oj, hoj, hdj⟩ := mem_dsts.1 hd
   obtain ⟨j, hj, hj2⟩ := hout oj hoj
   obtain ⟨v, hv1, hv2⟩ := h4 d ⟨j, oj, hj, hj2, hdj⟩
   rw [Array.getD_eq_getD_getElem?, ← this, hv1]; exact hv2
   ·rw [Array.getD_eq_getD_getElem?, ← this, hg1]; rfl
   ·rw [Array.getD_eq_getD_getElem?, ← this, hgv]; rfl
   ·rw [List.map_cons, List.nodup_cons]
    refine ⟨fun hm => ?_, H.out.2.1⟩
    obtain ⟨b, hb, e⟩ := List.mem_map.1 hm
    have := (H.out.2.2 b hb).2.lt
    have e : b.1 = g := e
    omega
   ·rcases List.mem_cons.1 hb with rfl | hb
    ·exact ⟨Nat.le_trans H.out.1.size hg2, hg3⟩
    ·exact ⟨(H.out.2.2 b hb).1, (H.out.2.2 b hb).2.ext ho⟩)
  n (List.range n) (Array.replicate l.toArray.size false) a W.drew (by simp)
  (by
   refine ⟨⟨by simp, fun j oj _ hl => (by rw [getD_replicate_false] at hl; cases hl), fun t _ ht => getD_in (by simpa using ht) (getD_replicate_false _ _)⟩, List.nodup_range, fun j hj => List.mem_range.1 hj, fun j hj => ?_, rfl, rfl, fun d h => ?_, fun _ _ => rfl, Ext.drew W, fun z => absurd (List.mem_range.2 hAn) z, fun z => absurd (List.mem_range.2 hSn) z⟩
   ·rw [getD_replicate_false]; simp [hj]
   ·obtain ⟨j, o, hj, hjr, _⟩ := h; exact absurd (List.mem_range.2 hj) hjr)
 rw [show n + (l.toArray.size - n) = l.toArray.size by omega] at HF
 exact HF
end
def MonoE (T B : Nat) (φ : Value → World → Prop) : Prop := ∀ v w w', φ v w → TrE T B w w' → φ v w'
theorem tabS_trE (T B : Nat) : ∀ (l : List (Tmp × (Value → World → Prop))), (∀ p ∈ l, MonoE T B p.2) → ∀ d v w w', tabS l d v w → TrE T B w w' → tabS l d v w'
 | [], _, _, _, _, _, _, _ => trivial
 | p :: l, h, d, v, w, w', h1, hx => by
  unfold tabS at h1 ⊢
  split
  ·rename_i hd; rw [if_pos hd] at h1; exact h p (by simp) v w w' h1 hx
  ·rename_i hd; rw [if_neg hd] at h1; exact tabS_trE T B l (fun q hq => h q (by simp [hq])) d v w w' h1 hx
theorem monoE_eq (T B : Nat) (u : Value) : MonoE T B (fun v _ => v = u) := fun _ _ _ h _ => h
theorem owns_trE {T B B' E sz n : Nat} {v : Value} {xs : List Value} {w w' : World} (h : w.ownsRow B' E sz v n xs) (ht : TrE T B w w') (hne : E ≠ T) : w'.ownsRow B' E sz v n xs := by
 rcases ht with hx | ⟨g, cs, ds, hb, hl, rfl⟩
 ·exact ownsT_ext h hx
 ·exact owns_wroteT h ⟨_, rfl⟩ hl hne
theorem frs_trE {T B B' : Nat} {outs : List Fm} {v : Value} {w w' : World} (h : FrS B' outs v w) (ht : TrE T B w w') (h1 : 31 ≠ T) (h2 : 5 ≠ T) : FrS B' outs v w' := by
 obtain ⟨vs, q1, q2, q3⟩ := h
 exact ⟨vs, q1, owns_trE q2 ht h1, fun p hp => owns_trE (q3 p hp) ht h2⟩
def AsV (B : Nat) (a : As) (r : Rs) (v : Value) (w : World) : Prop := ∃ (aN : As) (hN : aN.own.length = 6) (ad : Option Addr) (n c : Nat), aN = (if r.2.2 = 0 then a else as0) ∧ v = .agg (cat (partsA aN hN ad n c)).toArray ∧ OwE B w (.slice ad n c) r.1
def DoV (B : Nat) (a : As) (r : Rs) (v : Value) (w : World) : Prop := ∃ u vo, v = .tuple #[u, vo, .int .i64 r.2.2] ∧ AsV B a r u w ∧ FrS B r.2.1 vo w
theorem asV_trE {B B' : Nat} {a : As} {r : Rs} {v : Value} {w w' : World} (h : AsV B a r v w) (ht : TrE 26 B' w w') : AsV B a r v w' := by
 obtain ⟨aN, hN, ad, n, c, h1, h2, h3⟩ := h
 exact ⟨aN, hN, ad, n, c, h1, h2, owns_trE h3 ht (by decide)⟩
theorem monoE_AsV (B B' : Nat) (a : As) (r : Rs) : MonoE 26 B' (AsV B a r) := fun _ _ _ h ht => asV_trE h ht
theorem monoE_FrS (B B' : Nat) (o : List Fm) : MonoE 26 B' (FrS B o) := fun _ _ _ h ht => frs_trE h ht (by decide) (by decide)
theorem monoE_DoV (B B' : Nat) (a : As) (r : Rs) : MonoE 26 B' (DoV B a r) := fun _ _ _ ⟨u, vo, h1, h2, h3⟩ ht => ⟨u, vo, h1, asV_trE h2 ht, frs_trE h3 ht (by decide) (by decide)⟩
theorem doV_of {a : As} {r : Rs} {w w' : World} {e : Ending} {B : Nat} (ha : a.own.length = 6) (h : HanR a r w e w') (hB : B ≤ w.heap.size) : ∃ v, e = .returned v ∧ DoV B a r v w' ∧ Ext w w' := by
 obtain ⟨aN, hN, ad, n, c, vo, E, h1, rfl, rfl, h2, h3, h4⟩ := hanG ha h
 exact ⟨_, rfl, ⟨_, _, rfl, ⟨aN, hN, ad, n, c, h1, rfl, owns_weak h2 hB⟩, h3.weak hB⟩, h4⟩
theorem asV_one {B : Nat} {a : As} {r : Rs} {v : Value} {w : World} (h : AsV B a r v w) : ∃ cs : List Value, v = .agg cs.toArray ∧ (cat (partsA as0 rfl none 0 0)).length = cs.length ∧ cs.toArray.all (·.oneCell') = true := by
 obtain ⟨aN, hN, ad, n, c, h1, h2, h3⟩ := h
 exact ⟨_, h2, by rw [cat_len, cat_len]; rfl, by simpa using cat_one (partsA aN hN ad n c)⟩
theorem StepOk.mono {a : As} {l : List En} {r : Rs} {p q : En → Prop} (h : StepOk a l r p) (hpq : ∀ e, p e → q e) : StepOk a l r q := ⟨h.ok, h.l6, fun e he h2 => (h.kept e he h2).imp id fun x => ⟨x.1, hpq e x.2⟩⟩
def allowR (k s : Int) (mem has : Bool) : Bool := if k = 2 then mem else if subsB s then true else if s = 13 then mem else has
theorem allow_r (a : As) (l : List En) (h : Hd) : allowF a l h = (validA a l && validH h && addrF a h && allowR h.kind h.sub ((findE a l h.a2).1.state == 2) (findE a l h.a2).2) := rfl
theorem findE_len (a : As) (l : List En) (hl : ∀ x ∈ l, x.addr.length = 6) (t : List (BitVec 8)) : (findE a l t).1.addr.length = 6 := by
 unfold findE
 split
 ·rcases findI_cases l t with c | ⟨i, hi, c⟩
  ·rename_i h; rw [c] at h; simp at h
  ·rw [c]
   show (enAt l i).addr.length = 6
   rw [enAt_get hi]; exact hl _ (List.getElem_mem hi)
 ·rfl
theorem checkF_good {h : Hd} (e : validH h = true) : checkF h = 0 := by simp [checkF, e]
theorem checkF_bad {h : Hd} (e : validH h = false) : checkF h = 8 := by simp [checkF, e]
set_option maxHeartbeats 6400000 in
theorem allowed_any (a : As) (ha : a.own.length = 6) (v : Value) (l : List En) (hl : ∀ x ∈ l, x.addr.length = 6) (hn : l.length ≤ 100000) (h : Hd) (ok : h.Ok) (u : Value) (w : World) (hs : SlT 11 cellsE w v l) :
  Calls Try.prog 18 #[.agg (cellsA a v).toArray, .agg (cellsF h u).toArray] w fun e w' => e = .returned (.bool (allowF a l h)) ∧ Ext w w' := by
 have HSL := kp hs
 have HCH := kp (fun w' hx => check_any a ha v l hl hn w' (HSL.out.ext hx))
 have HFI := kp (fun w' hx => find_any a ha v l hl hn h.a2 ok.l2 w' (HSL.out.ext hx))
 have HHC := kp (checkH_any h ok)
 have HAD := kp (addressed_any a v ha h ok)
 have H := kp (Loc.start w)
 have HZA := kp (sizeAs (a := a) v ha)
 have HZH := kp (sizeHl ok)
 have HZ2 := kp (sizeA8 ok.l2)
 have HPH := kp (cF_head ok u)
 have HP2 := kp (cF_a2 ok u)
 have HC0 := kp (show (cellsF h u)[0]? = some (.int .u8 h.kind) by rw [cF_at ok u 0 (by decide)]; rfl)
 have HC1 := kp (show (cellsF h u)[1]? = some (.int .u8 h.sub) by rw [cF_at ok u 1 (by decide)]; rfl)
 have HXL := kp (findE_len a l hl h.a2)
 have HAW := kp (allow_r a l h)
 have HOE := kp one_cellsE
 clear hs hl hn ha ok
 generalize hq : findE a l h.a2 = q at *
 obtain ⟨x, fd⟩ := q
 clear hq
 have HZX := kp (sizeEa HXL.out)
 have HLE := kp (show (cellsE en0).length = (cellsE x).length by rw [cellsE_len HXL.out]; rfl)
 have H6 := kp (cE6 HXL.out)
 go_enter Try.func18, Try.ntmps18
 generalize h1 : (Code.region 1 _ _ : Code) = R1
 go_wp2_with (first | ((with_reducible refine isBx 2 26 ?_); (with_reducible refine L_box H rfl 26 _ rfl (cellsA a v) rfl ?_); clear H; intro g2 w2 HGg2 HEg2 H; simp only [pA]) | ((with_reducible refine isBx 3 31 ?_); (with_reducible refine L_box H rfl 31 _ rfl (cellsF h u) rfl ?_); clear H; intro g3 w3 HGg3 HEg3 H; simp only [pA]))
 subst h1
 refine wp_cut [7, 8, 9, 10, 11, 12, 13, 14, 15, 16, 17, 18, 19, 20, 21, 22] (fun vs w' => Kp (Loc w w' [(g3, 31, cellsF h u), (g2, 26, cellsA a v)]) ∧ vs 22 = .bool (!(validA a l && validH h && addrF a h))) ?_ ?_
 ·cases hv : validA a l with
  | false =>
   have HCC := kp (chk_bad hv)
   clear hv
   rw [HCC.out] at HCH
   go_wp2_with (first | ((with_reducible refine isLd 26 ?_); (first | (refine L_load H rfl 26 _ rfl 0 rfl rfl Try.underlying26 rfl (HZA.out) ?_) | (refine L_load H rfl 26 _ rfl 1 rfl rfl Try.underlying26 rfl (HZA.out) ?_) | (refine L_load H rfl 26 _ rfl 2 rfl rfl Try.underlying26 rfl (HZA.out) ?_) | (refine L_load H rfl 26 _ rfl 3 rfl rfl Try.underlying26 rfl (HZA.out) ?_) | (refine L_load H rfl 26 _ rfl 4 rfl rfl Try.underlying26 rfl (HZA.out) ?_) | (refine L_load H rfl 26 _ rfl 5 rfl rfl Try.underlying26 rfl (HZA.out) ?_)); simp only [pA]) | (go_at_call 20; refine (HCH.out _ H.out.1).mono ?_; rintro e wa ⟨rfl, hx⟩; replace H := kp (H.out.ext hx); have HXC := kp hx; clear hx))
   exact CutP.of rfl (by kernel_rfl) ⟨H, rfl⟩
  | true =>
   have HCC := kp (chk_good hv)
   clear hv
   rw [HCC.out] at HCH
   cases hv2 : validH h with
   | false =>
    have HCD := kp (checkF_bad hv2)
    clear hv2
    rw [HCD.out] at HHC
    go_wp2_with (first | ((with_reducible refine isLd 26 ?_); (first | (refine L_load H rfl 26 _ rfl 0 rfl rfl Try.underlying26 rfl (HZA.out) ?_) | (refine L_load H rfl 26 _ rfl 1 rfl rfl Try.underlying26 rfl (HZA.out) ?_) | (refine L_load H rfl 26 _ rfl 2 rfl rfl Try.underlying26 rfl (HZA.out) ?_) | (refine L_load H rfl 26 _ rfl 3 rfl rfl Try.underlying26 rfl (HZA.out) ?_) | (refine L_load H rfl 26 _ rfl 4 rfl rfl Try.underlying26 rfl (HZA.out) ?_) | (refine L_load H rfl 26 _ rfl 5 rfl rfl Try.underlying26 rfl (HZA.out) ?_)); simp only [pA]) | (go_at_call 20; refine (HCH.out _ H.out.1).mono ?_; rintro e wa ⟨rfl, hx⟩; replace H := kp (H.out.ext hx); have HXC := kp hx; clear hx) | ((with_reducible show wpList _ _ _ (Oper.mk (some 12) _ _ _ _ _ :: _) _ _); refine L_subG H (by kernel_rfl) 28 _ rfl 0 rfl (0) rfl (cellsH h) (HPH.out) Try.underlying28 rfl (HZH.out) ?_; simp only [pA]) | (go_at_call 27; refine (HHC.out _).mono ?_; rintro e wa ⟨rfl, hx⟩; replace H := kp (H.out.ext hx); have HXC := kp hx; clear hx))
    exact CutP.of rfl (by kernel_rfl) ⟨H, rfl⟩
   | true =>
    have HCD := kp (checkF_good hv2)
    clear hv2
    rw [HCD.out] at HHC
    go_wp2_with (first | ((with_reducible refine isLd 26 ?_); (refine wpList_load_rowG (by kernel_rfl) 26 _ rfl (g2) rfl 26 (cellsA a v).toArray (0, 0) _ (H.out.at 1 rfl) Try.underlying26 rfl (HZA.out) ?_); simp only [pA]) | ((with_reducible refine isLd 28 ?_); (first | (refine L_subG H (by kernel_rfl) 28 _ rfl 0 rfl (0) rfl (cellsH h) (HPH.out) Try.underlying28 rfl (HZH.out) ?_) | (refine L_subG H (by kernel_rfl) 28 _ rfl 1 rfl (0) rfl (cellsH h) (HPH.out) Try.underlying28 rfl (HZH.out) ?_) | (refine L_subG H (by kernel_rfl) 28 _ rfl 2 rfl (0) rfl (cellsH h) (HPH.out) Try.underlying28 rfl (HZH.out) ?_) | (refine L_subG H (by kernel_rfl) 28 _ rfl 3 rfl (0) rfl (cellsH h) (HPH.out) Try.underlying28 rfl (HZH.out) ?_) | (refine L_subG H (by kernel_rfl) 28 _ rfl 4 rfl (0) rfl (cellsH h) (HPH.out) Try.underlying28 rfl (HZH.out) ?_) | (refine L_subG H (by kernel_rfl) 28 _ rfl 5 rfl (0) rfl (cellsH h) (HPH.out) Try.underlying28 rfl (HZH.out) ?_)); simp only [pA]) | (go_at_call 20; refine (HCH.out _ H.out.1).mono ?_; rintro e wa ⟨rfl, hx⟩; replace H := kp (H.out.ext hx); have HXC := kp hx; clear hx) | (go_at_call 27; refine (HHC.out _).mono ?_; rintro e wa ⟨rfl, hx⟩; replace H := kp (H.out.ext hx); have HXC := kp hx; clear hx) | (go_at_call 48; refine (HAD.out _).mono ?_; rintro e wa ⟨rfl, hx⟩; replace H := kp (H.out.ext hx); have HXC := kp hx; clear hx))
    exact CutP.of rfl (by kernel_rfl) ⟨H, by simp⟩
 rintro vs w4 ⟨H, e22⟩
 simp only [putMany, List.setIfInBounds_toArray, List.set_cons_zero, List.set_cons_succ]
 rw [e22]
 clear e22
 cases hb : (validA a l && validH h && addrF a h) with
 | false =>
  have HK := kp (show allowF a l h = false by rw [HAW.out, hb]; rfl)
  clear hb
  go_wp2_with fail
  go_ret
  exact ⟨congrArg (fun z => Ending.returned (.bool z)) HK.out.symm, H.out.1⟩
 | true =>
  have HK := kp (show allowF a l h = allowR h.kind h.sub (x.state == 2) fd by rw [HAW.out, hb]; rfl)
  clear hb
  have HRR := kp (show allowR h.kind h.sub (x.state == 2) fd = (if h.kind = 2 then (x.state == 2) else if (h.sub == 11 || h.sub == 12 || h.sub == 4 || h.sub == 5 || h.sub == 8) then true else if h.sub = 13 then (x.state == 2) else fd) from rfl)
  go_wp2_with (first | ((with_reducible refine isLd 26 ?_); (refine wpList_load_rowG (by kernel_rfl) 26 _ rfl (g2) rfl 26 (cellsA a v).toArray (0, 0) _ (H.out.at 1 rfl) Try.underlying26 rfl (HZA.out) ?_); simp only [pA]) | ((with_reducible refine isLd 23 ?_); (first | (refine L_subG H (by kernel_rfl) 23 _ rfl 0 rfl (16) rfl (h.a2.map V8) (HP2.out) Try.underlying23 rfl (HZ2.out) ?_) | (refine L_subG H (by kernel_rfl) 23 _ rfl 1 rfl (16) rfl (h.a2.map V8) (HP2.out) Try.underlying23 rfl (HZ2.out) ?_) | (refine L_subG H (by kernel_rfl) 23 _ rfl 2 rfl (16) rfl (h.a2.map V8) (HP2.out) Try.underlying23 rfl (HZ2.out) ?_) | (refine L_subG H (by kernel_rfl) 23 _ rfl 3 rfl (16) rfl (h.a2.map V8) (HP2.out) Try.underlying23 rfl (HZ2.out) ?_) | (refine L_subG H (by kernel_rfl) 23 _ rfl 4 rfl (16) rfl (h.a2.map V8) (HP2.out) Try.underlying23 rfl (HZ2.out) ?_) | (refine L_subG H (by kernel_rfl) 23 _ rfl 5 rfl (16) rfl (h.a2.map V8) (HP2.out) Try.underlying23 rfl (HZ2.out) ?_)); simp only [pA]) | (go_at_call 12; refine (HFI.out _ H.out.1).mono ?_; rintro e wa ⟨rfl, hx⟩; replace H := kp (H.out.ext hx); have HXC := kp hx; clear hx) | ((with_reducible refine isAl 5 39 ?_); (with_reducible refine L_alloc H rfl 39 rfl (cellsE en0) (fun _ _ => by kernel_rfl) ?_); clear H; intro g5 w5 HGg5 HEg5 H; simp only [pA]) | (((with_reducible refine isSt 39 ?_); (first | (refine L_store H rfl rfl 39 _ _ rfl 0 rfl rfl (cellsE x) rfl (HZX.out) (HLE.out) (HOE.out _) ?_; clear H; intro w6 HWw6 H; simp only [szA] at H) | (refine L_store H rfl rfl 39 _ _ rfl 1 rfl rfl (cellsE x) rfl (HZX.out) (HLE.out) (HOE.out _) ?_; clear H; intro w6 HWw6 H; simp only [ssA, szA] at H) | (refine L_store H rfl rfl 39 _ _ rfl 2 rfl rfl (cellsE x) rfl (HZX.out) (HLE.out) (HOE.out _) ?_; clear H; intro w6 HWw6 H; simp only [ssA, szA] at H) | (refine L_store H rfl rfl 39 _ _ rfl 3 rfl rfl (cellsE x) rfl (HZX.out) (HLE.out) (HOE.out _) ?_; clear H; intro w6 HWw6 H; simp only [ssA, szA] at H) | (refine L_store H rfl rfl 39 _ _ rfl 4 rfl rfl (cellsE x) rfl (HZX.out) (HLE.out) (HOE.out _) ?_; clear H; intro w6 HWw6 H; simp only [ssA, szA] at H) | (refine L_store H rfl rfl 39 _ _ rfl 5 rfl rfl (cellsE x) rfl (HZX.out) (HLE.out) (HOE.out _) ?_; clear H; intro w6 HWw6 H; simp only [ssA, szA] at H))); have hc0 := run_load_cell H.out 1 rfl _ _ HC0.out; have hc1 := run_load_cell H.out 1 rfl _ _ HC1.out; have hc6 := run_load_cell H.out 0 rfl _ _ H6.out))
  all_goals (go_ret; exact ⟨congrArg (fun z => Ending.returned (.bool z)) (by rw [HK.out, HRR.out]; first | (simp [*]; done) | simp_all), H.out.1⟩)
theorem L_appT8 {w0 w : World} {bs : List Bk} {ops : Array Oper} {rest : List Oper} {o : Oper} {a : Act} {Q : Exit → Act → World → Prop} (H : Kp (Loc w0 w bs)) (hgd : o.guard = none) (s x : Operand)
  (ho : o.op = .call { callee := .builtin .append, args := #[s, x], argTypes := #[29, 29] })
  (base : Nat) (hb0 : w0.heap.size ≤ base) (hbase : base ≤ w.heap.size) (v : Value) (l : List (BitVec 8)) (hs : a.eval s = v) (hown : OwB base w v l) (hty : ∀ b ∈ bs, 5 ≠ b.2.1)
  (vx : Value) (m : List (BitVec 8)) (hx : a.eval x = vx) (hsl : SlB w vx m) (hlen : l.length + m.length ≤ 1000000)
  (h : ∀ v' w', Kp (OwB base w' v' (l ++ m)) → Kp (Loc w0 w' bs) → wpList Try.prog ops Q rest (a.put o.dst v') w') : wpList Try.prog ops Q (o :: rest) a w :=
 L_appB2 H hgd s x ho base hb0 hbase v l hs hown (fun g hg => by
  obtain ⟨b, hb, rfl⟩ := List.mem_map.1 hg
  exact sep_ty hown (H.out.2.2 b hb).2 (hty b hb)) vx m hx hsl hlen (fun v' w' h1 _ h2 => h v' w' h1 h2)
theorem slb_part {w : World} {g T : Nat} {ps : List Lf} (h : Lc w g T (cat ps)) {off i : Nat} {l : By} (hl : l.length = 6) (hf : fat ps off = some i) (hp : nth ps i = some (Lf.v ⟨l, hl⟩)) : SlB w (.slice (some ⟨g, off, none⟩) 6 6) l := by
 refine .inr ⟨g, off, 6, by rw [hl], h.lt, fun j x hx => ?_⟩
 have h1 := cat_part hf hp
 have hj := (List.getElem?_eq_some_iff.1 hx).1
 refine h.cell ?_
 have h2 : ((l.map V8))[j]? = some (V8 x) := by rw [List.getElem?_map, hx]; rfl
 have h3 : (Lf.v ⟨l, hl⟩).cs = l.map V8 := rfl
 rw [← h3, ← h1, List.getElem?_take] at h2
 split at h2
 ·rw [List.getElem?_drop] at h2; exact h2
 ·cases h2
end Go.Proofs.Ytfecopfofkdnpaa
