/- Texts of this proof, put together: FreeG, Hdl. -/
import Derived.Test.YtibncchobkaaiaaF5
import Derived.Test.YtibncchobkaaiaaF15
import Derived.Test.YtibncchobkaaiaaF17
import Derived.WideKeyRuns
import Derived.Test.YtibncchobkaaiaaF1
namespace Go.Proofs.Ytibncchobkaaiaa
open Go.RowKit
section
variable {P : Program} {ops : Array Oper}
structure InvGo (ops : Array Oper) (S : Tmp → Value → Prop) (Sx : List Nat → World → Prop) (n : Nat) (a0 : Act) (rem : List Nat) (listed : Array Bool) (a : Act) (w : World) : Prop where
 head : HeadInv .any ops n listed
 nodup : rem.Nodup
 lt : ∀ j ∈ rem, j < n
 mem : ∀ j, j < n → (listed.getD j false = true ↔ j ∉ rem)
 size : a.tmps.size = a0.tmps.size
 defers : a.defers = a0.defers
 done : ∀ d, (∃ j o, j < n ∧ j ∉ rem ∧ ops[j]? = some o ∧ o.dst = some d) → ∃ v, a.tmps[d]? = some v ∧ S d v
 open_ : ∀ d, (∀ j o, j < n → j ∉ rem → ops[j]? = some o → o.dst ≠ some d) → a.tmps[d]? = a0.tmps[d]?
 now : Sx rem w
theorem InvGo.step {S : Tmp → Value → Prop} {Sx : List Nat → World → Prop} {n : Nat} {a0 : Act} {rem : List Nat} {listed : Array Bool} {a : Act} {w w' : World} (inv : InvGo ops S Sx n a0 rem listed a w)
  {i : Nat} {o : Oper} (hi : i ∈ Region.ready .any ops listed) (hin : i < n) (ho : ops[i]? = some o) (v : Value)
  (hsz : ∀ (j : Nat) o d, j < n → ops[j]? = some o → o.dst = some d → d < a0.tmps.size)
  (hv : ∀ d, o.dst = some d → S d v)
  (hnow : Sx (rem.erase i) w') :
  InvGo ops S Sx n a0 (rem.erase i) (listed.setIfInBounds i true) (a.put o.dst v) w' := by
 have hun := (mem_ready.1 hi).1
 have hirem : i ∈ rem := by
  rcases Classical.em (i ∈ rem) with h | h
  ·exact h
  ·have := (inv.mem i hin).2 h
   rw [getD_both hun] at this; cases this
 have hmem : ∀ j, j < n → (j ∉ rem.erase i ↔ j ∉ rem ∨ j = i) := fun j _ => by
  rw [inv.nodup.mem_erase_iff]
  constructor
  ·intro h; by_cases hj : j = i
   ·exact .inr hj
   ·exact .inl fun hm => h ⟨hj, hm⟩
  ·rintro (h | h) ⟨h1, h2⟩
   ·exact h h2
   ·exact h1 h
 have hlen : i < listed.size := by
  rcases Nat.lt_or_ge i listed.size with h | h
  ·exact h
  ·simp [Array.getElem?_eq_none h] at hun
 refine ⟨inv.head.set hi hin, inv.nodup.erase i, fun j hj => inv.lt j (List.mem_of_mem_erase hj), fun j hj => ?_, by rw [put_size, inv.size], by rw [put_defers, inv.defers], fun d h => ?_, fun d h => ?_, hnow⟩
 ·rw [hmem j hj]
  by_cases hji : i = j
  ·subst hji; simp [hlen]
  ·rw [getD_set_ne false hji, inv.mem j hj]
   exact ⟨fun h => .inl h, fun h => h.resolve_right fun e => hji e.symm⟩
 ·obtain ⟨j, oj, hj, hjr, hoj, hdj⟩ := h
  by_cases hod : o.dst = some d
  ·rw [hod, put_get, if_pos rfl]
   have hlt : d < a.tmps.size := by rw [inv.size]; exact hsz i o d hin ho hod
   exact ⟨v, by rw [if_pos hlt], hv d hod⟩
  ·rw [put_other _ _ _ _ hod]
   obtain ⟨u, hu1, hu2⟩ := inv.done d ⟨j, oj, hj, (by
    rcases (hmem j hj).1 hjr with h | h
    ·exact h
    ·subst h; rw [ho] at hoj; cases hoj; exact absurd hdj hod), hoj, hdj⟩
   exact ⟨u, hu1, hu2⟩
 ·have hod : o.dst ≠ some d := h i o hin ((hmem i hin).2 (.inr rfl)) ho
  rw [put_other _ _ _ _ hod]
  exact inv.open_ d fun j oj hj hjr hoj => h j oj hj ((hmem j hj).2 (.inl hjr)) hoj
def FinGo (ops : Array Oper) (S : Tmp → Value → Prop) (Sx : List Nat → World → Prop) (n : Nat) (a0 a' : Act) (w' : World) : Prop :=
 a'.tmps.size = a0.tmps.size ∧ a'.defers = a0.defers ∧ (∀ d, (∃ j o, j < n ∧ ops[j]? = some o ∧ o.dst = some d) → ∃ v, a'.tmps[d]? = some v ∧ S d v) ∧ (∀ d, (∀ j o, j < n → ops[j]? = some o → o.dst ≠ some d) → a'.tmps[d]? = a0.tmps[d]?) ∧ Sx [] w'
theorem flat_freeGo {S : Tmp → Value → Prop} {Sx : List Nat → World → Prop} {n : Nat} {a0 : Act} {Q : Exit → Act → World → Prop} (hB : flatB ops n = true)
  (hsz : ∀ (j : Nat) o d, j < n → ops[j]? = some o → o.dst = some d → d < a0.tmps.size)
  (hq : ∀ i o, i < n → ops[i]? = some o → ∀ (rem : List Nat), rem.Nodup → i ∈ rem → (∀ j, j < n → Region.waitsFor .any ops i j = true → j ∉ rem) → ∀ (b : Act) (w : World), b.tmps.size = a0.tmps.size → (∀ d ∈ o.looksAt ops, (∀ j o, j < n → ops[j]? = some o → o.dst ≠ some d) → b.tmps[d]? = a0.tmps[d]?) → (∀ d ∈ o.looksAt ops, (∃ j o, j < n ∧ ops[j]? = some o ∧ o.dst = some d) → ∃ v, b.tmps[d]? = some v ∧ S d v) → Sx rem w →
   ∀ K : Act → World → Prop, (∀ v w', (∀ d, o.dst = some d → S d v) → Sx (rem.erase i) w' → K (b.put o.dst v) w') → if Region.wanted o (yielded ops b.tmps) then o.wp P b w K Q else K (b.put o.dst undef) w)
  (ht : ∀ a' w', FinGo ops S Sx n a0 a' w' → wpList P ops Q (ops.toList.drop n) a' w') :
  ∀ (f : Nat) (rem : List Nat) (listed : Array Bool) (a : Act) (w : World), rem.length = f → InvGo ops S Sx n a0 rem listed a w → wpAny P .any ops Q (f + (ops.size - n)) listed a w := by
 simp only [flatB, Bool.and_eq_true, Bool.or_eq_true, decide_eq_true_eq] at hB
 obtain ⟨⟨⟨⟨hsel, hn⟩, hsc⟩, hseq⟩, hhd⟩ := hB
 intro f
 induction f with
 | zero =>
  intro rem listed a w hf inv
  have hnil : rem = [] := List.eq_nil_of_length_eq_zero hf
  subst hnil
  have hlisted : listed = (List.replicate n true ++ List.replicate (ops.size - n) false).toArray := by
   have hs := inv.head.size
   refine Array.ext (by simp [hs]; omega) fun j h1 h2 => ?_
   rcases Nat.lt_or_ge j n with hj | hj
   ·have := (inv.mem j hj).2 (by simp)
    simp [h1] at this
    simp [this, hj, List.getElem_append_left]
   ·have := inv.head.tail j hj (by rw [← hs]; exact h1)
    simp [h1] at this
    rw [this]
    simp only [List.getElem_toArray]
    rw [List.getElem_append_right (by simpa using hj)]
    simp
  have hfin : FinGo ops S Sx n a0 a w :=
   ⟨inv.size, inv.defers, fun d ⟨j, o, hj, hoj, hdj⟩ => inv.done d ⟨j, o, hj, by simp, hoj, hdj⟩, fun d h => inv.open_ d fun j o hj _ hoj => h j o hj hoj, inv.now⟩
  have hl : (ops.toList.drop n).length = ops.size - n := by simp
  have := wpAny_of_seq (P := P) (md := .any) (Q' := Q) (ops := ops) (ops.toList.drop n) n listed a w (fun j => by simp [List.getElem?_drop]) (by rw [hl, hlisted]; exact hseq) (ht a w hfin)
  rw [hl] at this
  rw [Nat.zero_add]; exact this
 | succ f ih =>
  intro rem listed a w hf inv
  have hne : ∃ i, i ∈ rem := by
   cases rem with
   | nil => simp at hf
   | cons x l => exact ⟨x, by simp⟩
  have hpos : 0 < n := by obtain ⟨i, hi⟩ := hne; have := inv.lt i hi; omega
  have hleast : ∀ k, (∃ i, i ≤ k ∧ i ∈ rem) → ∃ i ∈ rem, ∀ j ∈ rem, i ≤ j := by
   intro k
   induction k with
   | zero => rintro ⟨i, hi, him⟩; exact ⟨i, him, fun j _ => by omega⟩
   | succ k ihk =>
    rintro ⟨i, hi, him⟩
    rcases Classical.em (∃ i, i ≤ k ∧ i ∈ rem) with h | h
    ·exact ihk h
    ·refine ⟨i, him, fun j hj => ?_⟩
     rcases Nat.lt_or_ge j i with h' | h'
     ·exact absurd ⟨j, by omega, hj⟩ h
     ·exact h'
  obtain ⟨i9, hi9⟩ := hne
  obtain ⟨i0, hi0, hmin⟩ := hleast i9 ⟨i9, Nat.le_refl _, hi9⟩
  have hi0n := inv.lt i0 hi0
  have hi0u : listed.getD i0 false = false := by
   cases h : listed.getD i0 false with
   | false => rfl
   | true => exact absurd hi0 ((inv.mem i0 hi0n).1 h)
  have hi0s : i0 < listed.size := by rw [inv.head.size]; omega
  have hrow := fun i (hi : i < n) => List.all_eq_true.1 hhd i (List.mem_range.2 hi)
  have hready : i0 ∈ Region.ready .any ops listed := by
   have hr := hrow i0 hi0n
   cases ho : ops[i0]? with
   | none => simp [ho] at hr
   | some o =>
    simp only [ho, Bool.and_eq_true] at hr
    refine mem_ready.2 ⟨getD_in hi0s hi0u, o, ho, fun e he hb => ?_⟩
    have := Array.all_eq_true'.1 hr.1 e he
    simp [hb] at this
    refine (inv.mem e.on (by omega)).2 fun hm => ?_
    have := hmin _ hm; omega
  rw [show f + 1 + (ops.size - n) = (f + (ops.size - n)) + 1 by omega]
  refine ⟨fun h => (by rw [h] at hready; cases hready), fun i hi => ?_⟩
  have hin : i < n := by
   rcases Nat.lt_or_ge i n with h | h
   ·exact h
   ·rcases hsc with ⟨⟨hlt, hs⟩, hc⟩ | heq
    ·exact absurd hi (tail_waits hs hc hlt inv.head _ i0 rfl hi0n (getD_in hi0s hi0u) i h)
    ·obtain ⟨_, o, ho, _⟩ := mem_ready.1 hi
     have := (Array.getElem?_eq_some_iff.1 ho).1
     omega
  obtain ⟨hun, o, ho, hall⟩ := mem_ready.1 hi
  have hirem : i ∈ rem := by
   rcases Classical.em (i ∈ rem) with h | h
   ·exact h
   ·have := (inv.mem i hin).2 h
    rw [getD_both hun] at this; cases this
  have hlen : (rem.erase i).length = f := by rw [List.length_erase_of_mem hirem]; omega
  have hlg : ∀ d ∈ o.looksAt ops, (∃ j oj, j < n ∧ ops[j]? = some oj ∧ oj.dst = some d) → ∃ v, a.tmps[d]? = some v ∧ S d v := fun d hd ⟨j, oj, hj, hoj, hdj⟩ => by
   have hr := hrow i hin
   simp only [ho, Bool.and_eq_true] at hr
   have h2 := List.all_eq_true.1 hr.2 d hd
   have h3 := List.all_eq_true.1 h2 j (List.mem_range.2 hj)
   simp only [hoj, hdj, Bool.or_eq_true] at h3
   have h4 : Region.waitsFor .any ops i j = true := by
    rcases h3 with h | h
    ·simp at h
    ·exact h
   obtain ⟨oi, hoi, e, he, hb, hon⟩ := Region.waitsFor_spec h4
   have : oi = o := Option.some.inj (hoi.symm.trans ho)
   subst this
   have := hall e he hb
   rw [hon] at this
   exact inv.done d ⟨j, oj, hj, (inv.mem j hj).1 this, hoj, hdj⟩
  have hopn : ∀ d ∈ o.looksAt ops, (∀ j o, j < n → ops[j]? = some o → o.dst ≠ some d) → a.tmps[d]? = a0.tmps[d]? := fun d _ h => inv.open_ d fun j o hj _ hoj => h j o hj hoj
  unfold wpOp
  simp only [ho]
  have hwt : ∀ j, j < n → Region.waitsFor .any ops i j = true → j ∉ rem := fun j hj hw => by
   obtain ⟨oi, hoi, e, he, hb, hon⟩ := Region.waitsFor_spec hw
   rw [ho] at hoi
   have : o = oi := Option.some.inj hoi
   subst this
   have := hall e he hb
   rw [hon] at this
   exact (inv.mem j hj).1 this
  have H := hq i o hin ho rem inv.nodup hirem hwt a w inv.size hopn hlg inv.now
    (wpAny P .any ops Q (f + (ops.size - n)) (listed.setIfInBounds i true))
    (fun v w' hv hnow => ih (rem.erase i) _ _ _ hlen (inv.step hi hin ho v hsz hv hnow))
  split
  ·rename_i hw; rw [if_pos hw] at H; exact .inl H
  ·rename_i hw; rw [if_neg hw] at H; exact H
def KGo (S : Tmp → Value → Prop) (Sn : World → Prop) (o : Oper) (a : Act) (ex : Exit) (a' : Act) (w' : World) : Prop := ex = .normal ∧ ∃ v, a' = a.put o.dst v ∧ (∀ d, o.dst = some d → S d v) ∧ Sn w'
theorem wp_transferGo {S : Tmp → Value → Prop} {Sn : World → Prop} {o : Oper} {a b : Act} {w : World} {K : Act → World → Prop} {Q : Exit → Act → World → Prop} (hE : execOp a.eval o = execOp b.eval o) (hd : ∀ d, o.dst = some d → d < a.tmps.size)
  (h : o.wp P a w (KGo S Sn o a .normal) (KGo S Sn o a)) (hk : ∀ v w', (∀ d, o.dst = some d → S d v) → Sn w' → K (b.put o.dst v) w') : o.wp P b w K Q := by
 have key : ∀ v w', KGo S Sn o a .normal (a.put o.dst v) w' → K (b.put o.dst v) w' := by
  rintro v w' ⟨_, u, he, hs, hx⟩
  refine hk v w' (fun d hdd => ?_) hx
  rw [hdd] at he
  rw [put_inj (hd d hdd) he]
  exact hs d hdd
 unfold Oper.wp at *
 rw [← hE]
 generalize (execOp a.eval o).run P w = r at *
 cases r with
 | ok n w' =>
  cases n <;> simp only [Oper.upon] at h ⊢
  case value v => exact key v w' h
  case skip => exact key undef w' h
  case defer d =>
   exfalso
   obtain ⟨_, u, he, _, _⟩ := h
   have := congrArg Act.defers he
   rw [put_defers, put_defers] at this
   exact absurd (congrArg List.length this) (by simp)
  case enter f args =>
   refine Calls.mono h fun e w'' he => ?_
   cases e with
   | returned v => exact key v w'' he
   | panicked c => exact absurd he.1 (by intro h; cases h)
   | outgrown => obtain ⟨_, _, h1, _⟩ := he; cases h1
  case row r args => exact Rows.mono h fun v w'' he => key v w'' he
 | halt x w' =>
  cases x <;> simp only [Oper.upon] at h ⊢
  case panic v => exact absurd h.1 (by intro h; cases h)
def wpGo (P : Program) (ops : Array Oper) (n : Nat) (S : Tmp → Value → Prop) (Sx : List Nat → World → Prop) (D : List Tmp) (fin : Act → Prop) : Nat → List Oper → Act → Prop
 | _, [], a => fin a
 | k, o :: l, a => (∀ rem w, rem.Nodup → k ∈ rem → (∀ j, j < n → Region.waitsFor .any ops k j = true → j ∉ rem) → (∀ d ∈ o.looksAt ops, d ∈ D → S d (a.tmps.getD d undef)) → Sx rem w → wpList P ops (KGo S (Sx (rem.erase k)) o a) [o] a w) ∧ ∀ v, wpGo P ops n S Sx D fin (k + 1) l (a.put o.dst v)
theorem free_of_walkGo {n : Nat} {S : Tmp → Value → Prop} {Sx : List Nat → World → Prop} {D : List Tmp} {fin : Act → Prop} {Q : Exit → Act → World → Prop} (hsel : ∀ (j : Nat) (o : Oper) cs b, ops[j]? = some o → o.op ≠ .select cs b) : ∀ (l : List Oper) (k : Nat) (a : Act), (∀ o ∈ l, ∃ j : Nat, ops[j]? = some o) → (∀ o ∈ l, ∀ d, o.dst = some d → d < a.tmps.size) → topoB ops l = true →
  wpGo P ops n S Sx D fin k l a → ∀ (j : Nat) o, l[j]? = some o → ∀ (b : Act) (rem : List Nat) (w : World), b.tmps.size = a.tmps.size → (∀ d ∈ o.looksAt ops, d ∉ dsts l → b.tmps[d]? = a.tmps[d]?) → rem.Nodup → k + j ∈ rem → (∀ i, i < n → Region.waitsFor .any ops (k + j) i = true → i ∉ rem) → (∀ d ∈ o.looksAt ops, d ∈ D → S d (b.tmps.getD d undef)) → Sx rem w →
   ∀ K : Act → World → Prop, (∀ v w', (∀ d, o.dst = some d → S d v) → Sx (rem.erase (k + j)) w' → K (b.put o.dst v) w') → if Region.wanted o (yielded ops b.tmps) then o.wp P b w K Q else K (b.put o.dst undef) w
 | [], _, _, _, _, _, _, j, o, ho => by simp at ho
 | o :: l, k, a, hin, hlt, ht, h, 0, o', ho' => by
  have hoo : o = o' := by simpa using ho'
  subst hoo
  simp only [topoB, Bool.and_eq_true] at ht
  obtain ⟨⟨t1, t2⟩, t3⟩ := ht
  intro b rem w hb hag hnd hkm hwt hSd hnow
  have hl : ∀ d ∈ o.looksAt ops, a.tmps[d]? = b.tmps[d]? := fun d hd => by
   have := List.all_eq_true.1 t1 d hd
   exact (hag d hd (by simpa using this)).symm
  obtain ⟨j, hj⟩ := hin o (by simp)
  obtain ⟨e1, e2⟩ := eval_same (ops := ops) hl (fun cs b => hsel j o cs b hj)
  have hSa : ∀ d ∈ o.looksAt ops, d ∈ D → S d (a.tmps.getD d undef) := fun d hd hD => by
   have := hSd d hd hD
   rw [Array.getD_eq_getD_getElem?] at this ⊢
   rw [hl d hd]; exact this
  unfold wpGo at h
  rw [Nat.add_zero]
  rw [Nat.add_zero] at hkm hwt
  intro K hK
  have H := h.1 rem w hnd hkm hwt hSa hnow
  unfold wpList at H
  rw [e2] at H
  split at H
  ·rename_i hw
   rw [if_pos hw]
   rcases H with H | ⟨_, _, _, hc, _⟩
   ·exact wp_transferGo e1 (hlt o (by simp)) (Oper.wp_mono (fun _ _ h => h) H) hK
   ·cases hc
  ·rename_i hw
   rw [if_neg hw]
   obtain ⟨_, u, he, hs, hx⟩ := H
   refine hK undef w (fun d hd => ?_) hx
   rw [hd] at he
   rw [put_inj (hlt o (by simp) d hd) he]
   exact hs d hd
 | o :: l, k, a, hin, hlt, ht, h, j + 1, o', ho' => by
  simp only [topoB, Bool.and_eq_true] at ht
  obtain ⟨⟨t1, t2⟩, t3⟩ := ht
  intro b rem w hb hag hnd hkm hwt hSd hnow
  rw [show k + (j + 1) = (k + 1) + j by omega] at hkm hwt ⊢
  unfold wpGo at h
  have hoj : l[j]? = some o' := by simpa using ho'
  have hsame : ∀ c : Act, c = a.put o.dst (b.tmps.getD (o.dst.getD 0) undef) → ∀ d ∈ o'.looksAt ops, d ∉ dsts l → b.tmps[d]? = c.tmps[d]? := fun c hc d hd hn => by
   subst hc
   ·cases hod : o.dst with
    | none => exact hag d hd (by simp only [dsts, List.filterMap_cons, hod]; exact hn)
    | some e =>
     have he := hlt o (by simp) e hod
     rw [put_get]
     by_cases hde : e = d
     ·subst hde
      rw [if_pos rfl, if_pos he]
      have heb : e < b.tmps.size := by rw [hb]; exact he
      simp [heb]
     ·rw [if_neg hde]
      refine hag d hd ?_
      simp only [dsts, List.filterMap_cons, hod, List.mem_cons, not_or]
      exact ⟨fun e' => hde e'.symm, hn⟩
  exact free_of_walkGo hsel l (k + 1) _ (fun x hx => hin x (by simp [hx])) (fun x hx d hd => by rw [put_size]; exact hlt x (by simp [hx]) d hd) t3 (h.2 (b.tmps.getD (o.dst.getD 0) undef)) j o' hoj b rem w (by rw [put_size]; exact hb) (hsame _ rfl) hnd hkm hwt hSd hnow
theorem region_freeGo {id : Nat} {Q : Exit → Act → World → Prop} {a : Act} {W : World} {l : List Oper} (S : Tmp → Value → Prop) (Sx : List Nat → World → Prop) (n : Nat) (hm : P.follows .mixedOrders = true)
  (hB : flatB l.toArray n = true) (hT : topoB l.toArray (l.take n) = true) (hD : ((l.take n).all fun o => match o.dst with | some d => decide (d < a.tmps.size) | none => true) = true) (h0 : Sx (List.range n) W.drew)
  (h : wpGo P l.toArray n S Sx (dsts (l.take n)) (fun a' => ∀ w', Sx [] w' → (∀ d ∈ dsts (l.take n), S d (a'.tmps.getD d undef)) → wpList P l.toArray Q (l.drop n) a' w') 0 (l.take n) a) :
  (Code.region id l.toArray true).wp P Q a W := by
 have hn := flatB_le hB
 have hidx : ∀ (i : Nat) (o : Oper), i < n → l.toArray[i]? = some o → (l.take n)[i]? = some o := fun i o hi ho => by
  rw [List.getElem?_take, if_pos hi]; simpa using ho
 have hinl : ∀ (i : Nat) (o : Oper), i < n → l.toArray[i]? = some o → o ∈ l.take n := fun i o hi ho => List.mem_of_getElem? (hidx i o hi ho)
 have hout : ∀ o, o ∈ l.take n → ∃ j : Nat, j < n ∧ l.toArray[j]? = some o := fun o ho => by
  obtain ⟨j, hj⟩ := List.getElem?_of_mem ho
  rw [List.getElem?_take] at hj
  split at hj
  ·rename_i hlt; exact ⟨j, hlt, by simpa using hj⟩
  ·cases hj
 have hlt : ∀ o ∈ l.take n, ∀ d, o.dst = some d → d < a.tmps.size := fun o ho d hd => by
  have := List.all_eq_true.1 hD o ho
  rw [hd] at this; simpa using this
 have hwalk := free_of_walkGo (P := P) (ops := l.toArray) (n := n) (Q := Q) (Region.noSelect_spec (flatB_sel hB)) (l.take n) 0 a (fun o' ho' => by
   obtain ⟨j, _, hj⟩ := hout o' ho'; exact ⟨j, hj⟩) hlt hT h
 have hSd : ∀ (b : Act) (o : Oper), (∀ d ∈ o.looksAt l.toArray, (∃ j o, j < n ∧ l.toArray[j]? = some o ∧ o.dst = some d) → ∃ v, b.tmps[d]? = some v ∧ S d v) → ∀ d ∈ o.looksAt l.toArray, d ∈ dsts (l.take n) → S d (b.tmps.getD d undef) := fun b o hdn d hd hdD => by
  obtain ⟨oj, hoj, hdj⟩ := mem_dsts.1 hdD
  obtain ⟨j, hj, hj2⟩ := hout oj hoj
  obtain ⟨v, hv1, hv2⟩ := hdn d hd ⟨j, oj, hj, hj2, hdj⟩
  rw [Array.getD_eq_getD_getElem?, hv1]; exact hv2
 refine wp_region_any hm ?_
 have HF := flat_freeGo (P := P) (ops := l.toArray) (S := S) (Sx := Sx) (n := n) (a0 := a) (Q := Q) hB
  (fun j o d hj hoj hd => hlt o (hinl j o hj hoj) d hd)
  (fun i o hi2 ho rem hnd him hwt b w hb hop hdn hnow K hK => by
   have h1 := hwalk i o (hidx i o hi2 ho) b rem w hb (fun d hd hnd => hop d hd fun j oj hj hoj hdj => hnd (mem_dsts.2 ⟨oj, hinl j oj hj hoj, hdj⟩)) hnd (by rw [Nat.zero_add]; exact him) (by rw [Nat.zero_add]; exact hwt) (hSd b o hdn) hnow
   rw [Nat.zero_add] at h1
   exact h1 K hK)
  (by
   intro a' w' hf
   obtain ⟨h2, h3, h4, h5, h6⟩ := hf
   have hend : ∀ (L : List Oper) (k : Nat) (c : Act), c.tmps.size = a'.tmps.size → c.defers = a'.defers → (∀ o ∈ L, ∀ d, o.dst = some d → d < c.tmps.size) → (∀ d, d < a'.tmps.size → d ∉ dsts L → c.tmps[d]? = a'.tmps[d]?) → ∀ {D : List Tmp} {fin : Act → Prop}, wpGo P l.toArray n S Sx D fin k L c → ∃ c', fin c' ∧ c'.tmps.size = a'.tmps.size ∧ c'.defers = a'.defers ∧ ∀ d, d < a'.tmps.size → c'.tmps[d]? = a'.tmps[d]? := by
    intro L
    induction L with
    | nil => intro k c hs hdf _ hag D fin hw; exact ⟨c, hw, hs, hdf, fun d hd => hag d hd (by simp [dsts])⟩
    | cons o L ih =>
     intro k c hs hdf hlt2 hag D fin hw
     unfold wpGo at hw
     refine ih (k + 1) (c.put o.dst (a'.tmps.getD (o.dst.getD 0) undef)) (by rw [put_size]; exact hs) (by rw [put_defers]; exact hdf) (fun x hx d hd => by rw [put_size]; exact hlt2 x (by simp [hx]) d hd) (fun d hd hnd => ?_) (hw.2 _)
     cases hod : o.dst with
     | none => exact hag d hd (by simp only [dsts, List.filterMap_cons, hod]; exact hnd)
     | some e =>
      have he := hlt2 o (by simp) e hod
      rw [put_get]
      by_cases hde : e = d
      ·subst hde
       rw [if_pos rfl, if_pos he]
       have heb : e < a'.tmps.size := by rw [← hs]; exact he
       simp [heb]
      ·rw [if_neg hde]
       refine hag d hd ?_
       simp only [dsts, List.filterMap_cons, hod, List.mem_cons, not_or]
       exact ⟨fun e' => hde e'.symm, hnd⟩
   obtain ⟨c', hfin, hcs, hcd, hca⟩ := hend (l.take n) 0 a h2.symm h3.symm hlt (fun d hd hnd => (h5 d fun j oj hj hoj hdj => hnd (mem_dsts.2 ⟨oj, hinl j oj hj hoj, hdj⟩)).symm) h
   have : a' = c' := act_ext hcd.symm fun d => by
    by_cases hd : d < a'.tmps.size
    ·exact (hca d hd).symm
    ·rw [Array.getElem?_eq_none (by omega), Array.getElem?_eq_none (by omega)]
   rw [this]
   have hlist : l.toArray.toList.drop n = l.drop n := by simp
   rw [hlist]
   refine hfin w' h6 fun d hd => ?_
   obtain ⟨oj, hoj, hdj⟩ := mem_dsts.1 hd
   obtain ⟨j, hj, hj2⟩ := hout oj hoj
   obtain ⟨v, hv1, hv2⟩ := h4 d ⟨j, oj, hj, hj2, hdj⟩
   rw [Array.getD_eq_getD_getElem?, ← this, hv1]; exact hv2)
  n (List.range n) (Array.replicate l.toArray.size false) a W.drew (by simp)
  (by
   refine ⟨⟨by simp, fun j oj _ hl => (by rw [getD_replicate_false] at hl; cases hl), fun t _ ht => getD_in (by simpa using ht) (getD_replicate_false _ _)⟩, List.nodup_range, fun j hj => List.mem_range.1 hj, fun j hj => ?_, rfl, rfl, fun d h => ?_, fun _ _ => rfl, h0⟩
   ·rw [getD_replicate_false]; simp [hj]
   ·obtain ⟨j, o, hj, hjr, _⟩ := h; exact absurd (List.mem_range.2 hj) hjr)
 rw [show n + (l.toArray.size - n) = l.toArray.size by omega] at HF
 exact HF
end
abbrev Pl := Int × Int × Int
def plV (q : Pl) : Value := .agg (cat [Lf.i .u8 q.1, Lf.i .u8 q.2.1, Lf.i .u8 q.2.2]).toArray
theorem fields87 : (Try.prog.fieldsOf 87).toList.map (fun f => (f.type, f.offset)) = [(5, 0), (5, 1), (5, 2)] := by kernel_rfl
theorem eqPl_in (w : World) (q r : Pl) (d : Nat) : (Op.equalIn (d + 2) 87 (plV q) (plV r)).run Try.prog w = .ok (decide (q = r)) w := by
 unfold plV
 rw [run_equalIn_struct w (d + 1) 87 _ _ (by kernel_rfl) (by kernel_rfl)]
 rw [eqFields_by (fun o => if o = 0 then q.1 == r.1 else if o = 1 then q.2.1 == r.2.1 else q.2.2 == r.2.2) fields87 (by kernel_rfl) (fun p hp => ?_)]
 ·refine congrArg (fun z => Result.ok z w) (Bool.eq_iff_iff.2 ?_)
  obtain ⟨a, b, c⟩ := q
  obtain ⟨a', b', c'⟩ := r
  simp
 simp only [List.mem_cons, List.not_mem_nil, or_false] at hp
 rcases hp with rfl | rfl | rfl
 ·exact ⟨_, _, part_f1 w Try.underlying5 rfl (i := 0) rfl rfl, part_f1 w Try.underlying5 rfl (i := 0) rfl rfl, run_equalIn_int w d 5 _ _ _ _ Try.underlying5⟩
 ·exact ⟨_, _, part_f1 w Try.underlying5 rfl (i := 1) rfl rfl, part_f1 w Try.underlying5 rfl (i := 1) rfl rfl, run_equalIn_int w d 5 _ _ _ _ Try.underlying5⟩
 ·exact ⟨_, _, part_f1 w Try.underlying5 rfl (i := 2) rfl rfl, part_f1 w Try.underlying5 rfl (i := 2) rfl rfl, run_equalIn_int w d 5 _ _ _ _ Try.underlying5⟩
abbrev En3 := Pl × Nat × Nat
def fnV (f : Nat) : Value := .func (.func f) #[] #[]
def mkE (x : En3) : MapEntry := ⟨plV x.1, fnV x.2.1, x.2.2⟩
def findQ (q : Pl) : List En3 → Nat → Option (Nat × Value)
 | [], _ => none
 | x :: l, i => if q = x.1 then some (i, fnV x.2.1) else findQ q l (i + 1)
theorem run_findQ (q : Pl) (l : List En3) (w : World) : (Instr.findKey 87 (plV q) (l.map mkE)).run Try.prog w = .ok (findQ q l 0) w := by
 rw [run_findKey_eq w (by kernel_rfl)]
 have h : ∀ (l : List En3) (i : Nat), (Instr.findAsking 87 (plV q) (l.map mkE) i).run Try.prog w = .ok (findQ q l i) w := by
  intro l
  induction l with
  | nil => intro i; rfl
  | cons x l ih =>
   intro i
   have he : (Op.equal 87 (plV q) (plV x.1)).run Try.prog w = .ok (decide (q = x.1)) w := eqPl_in w q x.1 9998
   simp only [List.map_cons, Instr.findAsking, mkE, Sem.run_bind, he, Result.andThen_ok]
   unfold findQ
   by_cases c : q = x.1
   ·simp [c]
   ·simp only [c, decide_false, if_false, Bool.false_eq_true]; exact ih (i + 1)
 exact h l 0
def hk : List (Nat × Pl × Nat) := [(2, (1, 1, 2), 51), (4, (1, 3, 4), 52), (6, (2, 0, 1), 53), (8, (2, 2, 1), 53), (10, (2, 2, 3), 54), (12, (2, 4, 3), 54)]
theorem hk_key : ∀ a ∈ hk, ∀ b ∈ hk, a.2.1 = b.2.1 → a = b := by decide
theorem hk_idx : ∀ a ∈ hk, ∀ b ∈ hk, a.1 = b.1 → a = b := by decide
theorem hk_pos : ∀ a ∈ hk, a.1 ≠ 0 := by decide
structure Hes (rem : List Nat) (l : List En3) : Prop where
 mem : ∀ x ∈ l, ∃ q ∈ hk, q.1 ∉ rem ∧ x.1 = q.2.1 ∧ x.2.1 = q.2.2
 all : ∀ q ∈ hk, q.1 ∉ rem → ∃ x ∈ l, x.1 = q.2.1
def Sx (W : World) (rem : List Nat) (w : World) : Prop := rem.Nodup ∧ ((0 ∈ rem ∧ w = W ∧ ∀ q ∈ hk, q.1 ∈ rem) ∨ (0 ∉ rem ∧ Ext W w ∧ ∃ l, w.heap[W.heap.size]? = some (.map (l.map mkE).toArray (l.map mkE).length) ∧ Hes rem l))
theorem sx_step {W w : World} {rem : List Nat} {k : Nat} (h : Sx W rem w) (h0 : k ≠ 0) (hq : ∀ q ∈ hk, q.1 ≠ k) : Sx W (rem.erase k) w := by
 obtain ⟨hn, h⟩ := h
 have hm : ∀ j, j ≠ k → (j ∈ rem.erase k ↔ j ∈ rem) := fun j hj => by rw [hn.mem_erase_iff]; exact ⟨fun z => z.2, fun z => ⟨hj, z⟩⟩
 refine ⟨hn.erase k, ?_⟩
 rcases h with ⟨a, b, c⟩ | ⟨a, b, l, c, d⟩
 ·exact .inl ⟨(hm 0 (by omega)).2 a, b, fun q hq' => (hm _ (hq q hq')).2 (c q hq')⟩
 ·refine .inr ⟨fun z => a ((hm 0 (by omega)).1 z), b, l, c, fun x hx => ?_, fun q hq' hr => d.all q hq' fun z => hr ((hm _ (hq q hq')).2 z)⟩
  obtain ⟨q, h1, h2, h3⟩ := d.mem x hx
  exact ⟨q, h1, fun z => h2 ((hm _ (hq q h1)).1 z), h3⟩
theorem sx_make {W w : World} {rem : List Nat} (h : Sx W rem w) (h0 : 0 ∈ rem) : w.heap.size = W.heap.size ∧ Sx W (rem.erase 0) (w.alloc (.map #[] 0)) := by
 obtain ⟨hn, h⟩ := h
 rcases h with ⟨a, b, c⟩ | ⟨a, _⟩
 ·subst b
  refine ⟨rfl, hn.erase 0, .inr ⟨fun z => (hn.mem_erase_iff.1 z).1 rfl, Ext.alloc w _, [], hp_new w _, ⟨(fun x hx => by cases hx), fun q hq hr => ?_⟩⟩⟩
  exact absurd (hn.mem_erase_iff.2 ⟨hk_pos q hq, c q hq⟩) hr
 ·exact absurd h0 a
theorem sx_ins {W w : World} {rem : List Nat} {q : Nat × Pl × Nat} (h : Sx W rem w) (hq : q ∈ hk) (hr : q.1 ∈ rem) (h0 : 0 ∉ rem) : ∃ l, w.heap[W.heap.size]? = some (.map (l.map mkE).toArray (l.map mkE).length) ∧ findQ q.2.1 l 0 = none ∧
  Sx W (rem.erase q.1) (setM w W.heap.size (.map ((l ++ [(q.2.1, q.2.2, (l.map mkE).length)]).map mkE).toArray ((l ++ [(q.2.1, q.2.2, (l.map mkE).length)]).map mkE).length)) := by
 obtain ⟨hn, h⟩ := h
 rcases h with ⟨a, _⟩ | ⟨a, b, l, c, d⟩
 ·exact absurd a h0
 refine ⟨l, c, ?_, hn.erase _, .inr ⟨fun z => h0 (hn.mem_erase_iff.1 z).2, b.setM (Nat.le_refl _) _, l ++ [(q.2.1, q.2.2, (l.map mkE).length)], ?_, ⟨?_, ?_⟩⟩⟩
 ·have h9 : ∀ (l2 : List En3) i, (∀ x ∈ l2, x ∈ l) → findQ q.2.1 l2 i = none := by
   intro l2
   induction l2 with
   | nil => intro i _; rfl
   | cons x l2 ih =>
    intro i hs
    unfold findQ
    rw [if_neg, ih _ fun y hy => hs y (by simp [hy])]
    intro e
    obtain ⟨q2, g1, g2, g3, g4⟩ := d.mem x (hs x (by simp))
    exact g2 (by rw [← hk_key q hq q2 g1 (e.trans g3)]; exact hr)
  exact h9 l 0 fun _ h => h
 ·unfold setM
  have := (Array.getElem?_eq_some_iff.1 c).1
  simp [this]
 ·intro x hx
  rcases List.mem_append.1 hx with hx | hx
  ·obtain ⟨q2, g1, g2, g3⟩ := d.mem x hx
   exact ⟨q2, g1, fun z => g2 (hn.mem_erase_iff.1 z).2, g3⟩
  ·obtain rfl := List.mem_singleton.1 hx
   exact ⟨q, hq, fun z => (hn.mem_erase_iff.1 z).1 rfl, rfl, rfl⟩
 ·intro q2 g1 g2
  by_cases e : q2 = q
  ·subst e; exact ⟨(q2.2.1, q2.2.2, (l.map mkE).length), List.mem_append_right _ (by simp), rfl⟩
  ·obtain ⟨x, hx, e2⟩ := d.all q2 g1 (fun z => g2 (hn.mem_erase_iff.2 ⟨fun e3 => e (hk_idx q2 g1 q hq e3), z⟩))
   exact ⟨x, List.mem_append_left _ hx, e2⟩
def hndF (q : Pl) : Option Nat := (hk.find? fun x => decide (q = x.2.1)).map (·.2.2)
theorem findQ_full {l : List En3} (h : Hes [] l) (q : Pl) : (findQ q l 0).map (·.2) = (hndF q).map fnV := by
 have h1 : ∀ (l2 : List En3) i, (∀ x ∈ l2, x ∈ l) → (findQ q l2 i).map (·.2) = if ∃ x ∈ l2, q = x.1 then (hndF q).map fnV else none := by
  intro l2
  induction l2 with
  | nil => intro i _; rfl
  | cons x l2 ih =>
   intro i hs
   unfold findQ
   by_cases c : q = x.1
   ·rw [if_pos c, if_pos ⟨x, by simp, c⟩]
    obtain ⟨q2, g1, _, g3, g4⟩ := h.mem x (hs x (by simp))
    have hf : hndF q = some q2.2.2 := by
     unfold hndF
     cases hc : hk.find? fun y => decide (q = y.2.1) with
     | none => exact absurd (List.find?_eq_none.1 hc q2 g1) (by simp [c, g3])
     | some y =>
      have y1 := List.find?_some hc
      have y2 := List.mem_of_find?_eq_some hc
      rw [hk_key y y2 q2 g1 (by rw [← g3, ← c]; exact (of_decide_eq_true y1).symm)]
      rfl
    rw [hf, ← g4]; rfl
   ·rw [if_neg c, ih _ fun y hy => hs y (by simp [hy])]
    congr 1
    refine propext ⟨fun ⟨y, hy, e⟩ => ⟨y, by simp [hy], e⟩, fun ⟨y, hy, e⟩ => ?_⟩
    rcases List.mem_cons.1 hy with rfl | hy
    ·exact absurd e c
    ·exact ⟨y, hy, e⟩
 rw [h1 l 0 fun _ h => h]
 split
 ·rfl
 ·rename_i hn
  unfold hndF
  cases hc : hk.find? fun y => decide (q = y.2.1) with
  | none => rfl
  | some y =>
   have y1 := List.find?_some hc
   have y2 := List.mem_of_find?_eq_some hc
   obtain ⟨x, hx, e⟩ := h.all y y2 (by simp)
   exact absurd ⟨x, hx, (of_decide_eq_true y1).trans e.symm⟩ hn
section
variable {P : Program} {ops : Array Oper} {o : Oper} {a : Act} {w : World} {S : Tmp → Value → Prop} {Sn : World → Prop}
theorem G_one (hg : o.guard = none) (v : Value) (w' : World) (hr : (execOp a.eval o).run P w = .ok (.value v) w') (hS : ∀ d, o.dst = some d → S d v) (hn : Sn w') : wpList P ops (KGo S Sn o a) [o] a w := by
 refine wpList_plain hg fun K hK => ?_
 unfold Oper.wp
 rw [hr]
 exact hK _ _ ⟨rfl, v, rfl, hS, hn⟩
theorem G_skip (hg : o.guard = none) (hd : o.dst = none) (w' : World) (hr : (execOp a.eval o).run P w = .ok .skip w') (hn : Sn w') : wpList P ops (KGo S Sn o a) [o] a w := by
 refine wpList_plain hg fun K hK => ?_
 unfold Oper.wp
 rw [hr]
 simp only [Oper.upon]
 have := hK a w' ⟨rfl, undef, by rw [hd]; rfl, (fun d h => by rw [hd] at h; cases h), hn⟩
 rw [hd]; exact this
theorem G_mk (hg : o.guard = none) (t : TypeId) (ho : o.op = .makeMap t none) (hS : ∀ d, o.dst = some d → S d (.map (some w.heap.size))) (hn : Sn (w.alloc (.map #[] 0))) : wpList P ops (KGo S Sn o a) [o] a w :=
 G_one hg _ _ (by unfold execOp; simp only [ho, Option.map_none, Sem.run_bind, run_makeMap, Result.andThen_ok, Sem.run_pure]) hS hn
theorem G_bd (hg : o.guard = none) (t : TypeId) (ps : Array (Nat × Operand)) (ho : o.op = .build t ps) (vs : Array (Nat × Value)) (hv : (ps.map fun p => (p.1, a.eval p.2)) = vs) (v : Value) (hr : (Instr.build t vs).run P w = .ok v w) (hS : ∀ d, o.dst = some d → S d v) (hn : Sn w) : wpList P ops (KGo S Sn o a) [o] a w :=
 G_one hg v w (by unfold execOp; simp only [ho, hv, Sem.run_bind, hr, Result.andThen_ok, Sem.run_pure]) hS hn
theorem G_ins (hg : o.guard = none) (hd : o.dst = none) (t : TypeId) (x y z : Operand) (ho : o.op = .insert t x y z) (K E : TypeId) (hu : P.underlying t = some (.map K E)) {m : Nat} {es : List MapEntry} (hm : w.heap[m]? = some (.map es.toArray es.length)) (hx : a.eval x = .map (some m)) (k v : Value) (hy : a.eval y = k) (hz : a.eval z = v)
  (hc : (Instr.checkKey false 10000 K k).run P w = .ok () w) (hf : (Instr.findKey K k es).run P w = .ok none w) (es2 : List MapEntry) (he : es ++ [⟨k, v, es.length⟩] = es2) (hn : Sn (setM w m (.map es2.toArray es2.length))) : wpList P ops (KGo S Sn o a) [o] a w := by
 subst he
 refine G_skip hg hd _ ?_ hn
 unfold execOp
 simp only [ho, hx, hy, hz, Instr.mapUpdate, Sem.run_bind, run_underlying hu, Result.andThen_ok, MapKept.run_getObj_map hm, hc, hf, MapKept.run_setObj_map _ hm, Sem.run_pure]
 simp [setM]
end
def HMap (v : Value) (w : World) : Prop := ∃ m l, v = .map (some m) ∧ w.heap[m]? = some (.map (l.map mkE).toArray (l.map mkE).length) ∧ Hes [] l
theorem checkPl (q : Pl) (e : Bool) (w : World) : (Instr.checkKey e 10000 87 (plV q)).run Try.prog w = .ok () w := by kernel_rfl
theorem buildPl (q : Pl) (w : World) : (Instr.build 87 #[(0, .int .u8 q.1), (1, .int .u8 q.2.1), (2, .int .u8 q.2.2)]).run Try.prog w = .ok (plV q) w := by kernel_rfl
theorem handlers_any (w : World) : Calls Try.prog 34 #[] w fun e w' => ∃ v, e = .returned v ∧ HMap v w' ∧ Ext w w' := by
 go_enter Try.func34, Try.ntmps34
 go_wp2_with fail
 refine region_freeGo (fun d v => (d = 1 → v = .map (some w.drew.heap.size)) ∧ (d = 2 → v = plV (1, 1, 2)) ∧ (d = 3 → v = plV (1, 3, 4)) ∧ (d = 4 → v = plV (2, 0, 1)) ∧ (d = 5 → v = plV (2, 2, 1)) ∧ (d = 6 → v = plV (2, 2, 3)) ∧ (d = 7 → v = plV (2, 4, 3))) (Sx w.drew) 13 (by kernel_rfl) (by kernel_rfl) (by kernel_rfl) (by kernel_rfl) ⟨List.nodup_range, .inl ⟨by decide, rfl, by decide⟩⟩ ?_
 simp only [List.take_succ_cons, List.take_zero]
 refine ⟨fun rem wv hn hm hw hS hx => ?_, fun v1 => ?_⟩
 ·exact G_mk rfl _ rfl (fun d hd => by cases hd; simp [(sx_make hx hm).1]) (sx_make hx hm).2
 simp only [pA]
 refine ⟨fun rem wv hn hm hw hS hx => ?_, fun v2 => ?_⟩
 ·exact G_bd rfl _ _ rfl _ (by kernel_rfl) (plV (1, 1, 2)) (buildPl (1, 1, 2) _) (fun d hd => by cases hd; simp) (sx_step hx (by decide) (by decide))
 simp only [pA]
 refine ⟨fun rem wv hn hm hw hS hx => ?_, fun v20 => ?_⟩
 ·have h0 : 0 ∉ rem := hw 0 (by decide) (by kernel_rfl)
  obtain rfl : v1 = .map (some w.drew.heap.size) := (hS 1 (by decide) (by decide)).1 rfl
  obtain rfl : v2 = plV (1, 1, 2) := (hS 2 (by decide) (by decide)).2.1 rfl
  obtain ⟨l, h1, h2, h3⟩ := sx_ins (q := (2, (1, 1, 2), 51)) hx (by decide) hm h0
  exact G_ins rfl rfl 84 _ _ _ rfl _ _ Try.underlying84 h1 rfl (plV (1, 1, 2)) (fnV 51) rfl rfl (checkPl _ _ _) (by rw [run_findQ, h2]) _ (by simp [mkE]) h3
 refine ⟨fun rem wv hn hm hw hS hx => ?_, fun v3 => ?_⟩
 ·exact G_bd rfl _ _ rfl _ (by kernel_rfl) (plV (1, 3, 4)) (buildPl (1, 3, 4) _) (fun d hd => by cases hd; simp) (sx_step hx (by decide) (by decide))
 simp only [pA]
 refine ⟨fun rem wv hn hm hw hS hx => ?_, fun v21 => ?_⟩
 ·have h0 : 0 ∉ rem := hw 0 (by decide) (by kernel_rfl)
  obtain rfl : v1 = .map (some w.drew.heap.size) := (hS 1 (by decide) (by decide)).1 rfl
  obtain rfl : v3 = plV (1, 3, 4) := (hS 3 (by decide) (by decide)).2.2.1 rfl
  obtain ⟨l, h1, h2, h3⟩ := sx_ins (q := (4, (1, 3, 4), 52)) hx (by decide) hm h0
  exact G_ins rfl rfl 84 _ _ _ rfl _ _ Try.underlying84 h1 rfl (plV (1, 3, 4)) (fnV 52) rfl rfl (checkPl _ _ _) (by rw [run_findQ, h2]) _ (by simp [mkE]) h3
 refine ⟨fun rem wv hn hm hw hS hx => ?_, fun v4 => ?_⟩
 ·exact G_bd rfl _ _ rfl _ (by kernel_rfl) (plV (2, 0, 1)) (buildPl (2, 0, 1) _) (fun d hd => by cases hd; simp) (sx_step hx (by decide) (by decide))
 simp only [pA]
 refine ⟨fun rem wv hn hm hw hS hx => ?_, fun v22 => ?_⟩
 ·have h0 : 0 ∉ rem := hw 0 (by decide) (by kernel_rfl)
  obtain rfl : v1 = .map (some w.drew.heap.size) := (hS 1 (by decide) (by decide)).1 rfl
  obtain rfl : v4 = plV (2, 0, 1) := (hS 4 (by decide) (by decide)).2.2.2.1 rfl
  obtain ⟨l, h1, h2, h3⟩ := sx_ins (q := (6, (2, 0, 1), 53)) hx (by decide) hm h0
  exact G_ins rfl rfl 84 _ _ _ rfl _ _ Try.underlying84 h1 rfl (plV (2, 0, 1)) (fnV 53) rfl rfl (checkPl _ _ _) (by rw [run_findQ, h2]) _ (by simp [mkE]) h3
 refine ⟨fun rem wv hn hm hw hS hx => ?_, fun v5 => ?_⟩
 ·exact G_bd rfl _ _ rfl _ (by kernel_rfl) (plV (2, 2, 1)) (buildPl (2, 2, 1) _) (fun d hd => by cases hd; simp) (sx_step hx (by decide) (by decide))
 simp only [pA]
 refine ⟨fun rem wv hn hm hw hS hx => ?_, fun v23 => ?_⟩
 ·have h0 : 0 ∉ rem := hw 0 (by decide) (by kernel_rfl)
  obtain rfl : v1 = .map (some w.drew.heap.size) := (hS 1 (by decide) (by decide)).1 rfl
  obtain rfl : v5 = plV (2, 2, 1) := (hS 5 (by decide) (by decide)).2.2.2.2.1 rfl
  obtain ⟨l, h1, h2, h3⟩ := sx_ins (q := (8, (2, 2, 1), 53)) hx (by decide) hm h0
  exact G_ins rfl rfl 84 _ _ _ rfl _ _ Try.underlying84 h1 rfl (plV (2, 2, 1)) (fnV 53) rfl rfl (checkPl _ _ _) (by rw [run_findQ, h2]) _ (by simp [mkE]) h3
 refine ⟨fun rem wv hn hm hw hS hx => ?_, fun v6 => ?_⟩
 ·exact G_bd rfl _ _ rfl _ (by kernel_rfl) (plV (2, 2, 3)) (buildPl (2, 2, 3) _) (fun d hd => by cases hd; simp) (sx_step hx (by decide) (by decide))
 simp only [pA]
 refine ⟨fun rem wv hn hm hw hS hx => ?_, fun v24 => ?_⟩
 ·have h0 : 0 ∉ rem := hw 0 (by decide) (by kernel_rfl)
  obtain rfl : v1 = .map (some w.drew.heap.size) := (hS 1 (by decide) (by decide)).1 rfl
  obtain rfl : v6 = plV (2, 2, 3) := (hS 6 (by decide) (by decide)).2.2.2.2.2.1 rfl
  obtain ⟨l, h1, h2, h3⟩ := sx_ins (q := (10, (2, 2, 3), 54)) hx (by decide) hm h0
  exact G_ins rfl rfl 84 _ _ _ rfl _ _ Try.underlying84 h1 rfl (plV (2, 2, 3)) (fnV 54) rfl rfl (checkPl _ _ _) (by rw [run_findQ, h2]) _ (by simp [mkE]) h3
 refine ⟨fun rem wv hn hm hw hS hx => ?_, fun v7 => ?_⟩
 ·exact G_bd rfl _ _ rfl _ (by kernel_rfl) (plV (2, 4, 3)) (buildPl (2, 4, 3) _) (fun d hd => by cases hd; simp) (sx_step hx (by decide) (by decide))
 simp only [pA]
 refine ⟨fun rem wv hn hm hw hS hx => ?_, fun v25 => ?_⟩
 ·have h0 : 0 ∉ rem := hw 0 (by decide) (by kernel_rfl)
  obtain rfl : v1 = .map (some w.drew.heap.size) := (hS 1 (by decide) (by decide)).1 rfl
  obtain rfl : v7 = plV (2, 4, 3) := (hS 7 (by decide) (by decide)).2.2.2.2.2.2 rfl
  obtain ⟨l, h1, h2, h3⟩ := sx_ins (q := (12, (2, 4, 3), 54)) hx (by decide) hm h0
  exact G_ins rfl rfl 84 _ _ _ rfl _ _ Try.underlying84 h1 rfl (plV (2, 4, 3)) (fnV 54) rfl rfl (checkPl _ _ _) (by rw [run_findQ, h2]) _ (by simp [mkE]) h3
 intro w2 hx hS
 obtain rfl : v1 = .map (some w.drew.heap.size) := (hS 1 (by decide)).1 rfl
 clear hS
 obtain ⟨hn, ⟨ha, _⟩ | ⟨_, hxx, l, hl, hf⟩⟩ := hx
 ·cases ha
 have HX := kp ((Ext.drew w).trans hxx)
 have HH := kp hl
 have HF := kp hf
 clear hxx hl hf hn
 go_wp2_with fail
 go_ret
 exact ⟨_, rfl, ⟨_, l, rfl, HH.out, HF.out⟩, HX.out⟩
end Go.Proofs.Ytibncchobkaaiaa
