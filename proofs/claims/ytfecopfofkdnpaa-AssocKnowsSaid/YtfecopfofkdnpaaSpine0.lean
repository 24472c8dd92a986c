/- The region law with predicates (XSpine), where no variable is made in the head. -/
import Derived.Test.YtfecopfofkdnpaaSpine
namespace Go.Proofs.Ytfecopfofkdnpaa
open Go.RowKit
section
variable {P : Program} {ops : Array Oper}
/-- The same, no variable made. -/
theorem region_spine0 {id : Nat} {Q : Exit → Act → World → Prop} {a : Act} {w : World} {l : List Oper} (S : Tmp → Value → World → Prop) (hS : ∀ d v w w', S d v w → Ext w w' → S d v w') (n : Nat) (hm : P.follows .mixedOrders = true)
    (hB : flatB l.toArray n = true) (hT : topoB l.toArray (l.take n) = true) (hF : freshB l.toArray n 1000 100000 = true) (hN : n ≤ 1000) (hA5 : a.tmps.size ≤ 100000) (hD : ((l.take n).all fun o => match o.dst with | some d => decide (d < a.tmps.size) | none => true) = true)
    (W : World) (hw : w = W ∨ ∃ x00, w = more W x00)
    (h : wpS P l.toArray W S (dsts (l.take n)) (fun a' => ∀ x1, (∀ d ∈ dsts (l.take n), S d (a'.tmps.getD d undef) (more W x1)) → wpList P l.toArray Q (l.drop n) a' (more W x1)) (l.take n) a) :
    (Code.region id l.toArray true).wp P Q a w := by
  have hn := flatB_le hB
  have hmem : ∀ o, o ∈ l.take n → o ∈ l.take n := fun o ho => ho
  have hin : ∀ (i : Nat) (o : Oper), i < n → l.toArray[i]? = some o → o ∈ l.take n := fun i o hi ho => by
    have : (l.take n)[i]? = some o := by rw [List.getElem?_take, if_pos hi]; simpa using ho
    exact List.mem_of_getElem? this
  have hout : ∀ o, o ∈ l.take n → ∃ j : Nat, j < n ∧ l.toArray[j]? = some o := fun o ho => by
    obtain ⟨j, hj⟩ := List.getElem?_of_mem ho
    rw [List.getElem?_take] at hj
    split at hj
    · rename_i hlt; exact ⟨j, hlt, by simpa using hj⟩
    · cases hj
  have hlt : ∀ o ∈ l.take n, ∀ d, o.dst = some d → d < a.tmps.size := fun o ho d hd => by
    have := List.all_eq_true.1 hD o ho
    rw [hd] at this; simpa using this
  have hfr := freshB_spec hF
  refine wp_region_any hm ?_
  have hwalk := fun o ho => spine_of_walk (P := P) (ops := l.toArray) (Q := Q) (Region.noSelect_spec (flatB_sel hB)) (l.take n) a (fun o' ho' => by
      obtain ⟨j, _, hj⟩ := hout o' ho'; exact ⟨j, hj⟩) hlt hT h o ho
  have H := flat_spine (P := P) (ops := l.toArray) (S := S) hS (n := n) (iA := 1000) (dA := 100000) (Z := .cells #[] 0) (W := W) (a0 := a) (Q := Q) hB
    (fun j o d hj hoj hd => hlt o (hin j o hj hoj) d hd)
    (fun i o hi2 hne ho b w hb hop hext hdn K hK => by
      refine hwalk o (hin i o hi2 ho) b w hb (fun d hd hnd => hop d hd fun j oj hj hoj hdj => hnd (mem_dsts.2 ⟨oj, hin j oj hj hoj, hdj⟩)) hext (fun d hd hdD => ?_) K hK
      obtain ⟨oj, hoj, hdj⟩ := mem_dsts.1 hdD
      obtain ⟨j, hj, hj2⟩ := hout oj hoj
      obtain ⟨v, hv1, hv2⟩ := hdn d hd ⟨j, oj, hj, hj2, hdj⟩
      rw [Array.getD_eq_getD_getElem?, hv1]; exact hv2)
    hfr (fun o hlt' _ => absurd hlt' (by omega))
    (by
      intro a' w' hf
      obtain ⟨⟨x, rfl⟩, h2, h3, h4, h5, _⟩ := hf
      have hend : ∀ (L : List Oper) (c : Act), c.tmps.size = a'.tmps.size → c.defers = a'.defers → (∀ o ∈ L, ∀ d, o.dst = some d → d < c.tmps.size) → (∀ d, d < a'.tmps.size → d ∉ dsts L → c.tmps[d]? = a'.tmps[d]?) → ∀ {D : List Tmp} {fin : Act → Prop}, wpS P l.toArray W S D fin L c → ∃ c', fin c' ∧ c'.tmps.size = a'.tmps.size ∧ c'.defers = a'.defers ∧ ∀ d, d < a'.tmps.size → c'.tmps[d]? = a'.tmps[d]? := by
        intro L
        induction L with
        | nil => intro c hs hdf _ hag D fin hw; exact ⟨c, hw, hs, hdf, fun d hd => hag d hd (by simp [dsts])⟩
        | cons o L ih =>
          intro c hs hdf hlt2 hag D fin hw
          refine ih (c.put o.dst (a'.tmps.getD (o.dst.getD 0) undef)) (by rw [put_size]; exact hs) (by rw [put_defers]; exact hdf) (fun x hx d hd => by rw [put_size]; exact hlt2 x (by simp [hx]) d hd) (fun d hd hnd => ?_) (hw.2 _)
          cases hod : o.dst with
          | none => exact hag d hd (by simp only [dsts, List.filterMap_cons, hod]; exact hnd)
          | some e =>
            have he := hlt2 o (by simp) e hod
            rw [put_get]
            by_cases hde : e = d
            · subst hde
              rw [if_pos rfl, if_pos he]
              have heb : e < a'.tmps.size := by rw [← hs]; exact he
              simp [heb]
            · rw [if_neg hde]
              refine hag d hd ?_
              simp only [dsts, List.filterMap_cons, hod, List.mem_cons, not_or]
              exact ⟨fun e' => hde e'.symm, hnd⟩
      obtain ⟨c', hfin, hcs, hcd, hca⟩ := hend (l.take n) a h2.symm h3.symm hlt (fun d hd hnd => (h5 d (by rw [h2] at hd; omega) fun j oj hj hoj hdj => hnd (mem_dsts.2 ⟨oj, hin j oj hj hoj, hdj⟩)).symm) h
      have : a' = c' := act_ext hcd.symm fun d => by
        by_cases hd : d < a'.tmps.size
        · exact (hca d hd).symm
        · rw [Array.getElem?_eq_none (by omega), Array.getElem?_eq_none (by omega)]
      rw [this]
      have hlist : l.toArray.toList.drop n = l.drop n := by simp
      rw [hlist]
      refine hfin x fun d hd => ?_
      obtain ⟨oj, hoj, hdj⟩ := mem_dsts.1 hd
      obtain ⟨j, hj, hj2⟩ := hout oj hoj
      have hdl := hlt oj hoj d hdj
      obtain ⟨v, hv1, hv2⟩ := h4 d (Nat.ne_of_lt (Nat.lt_of_lt_of_le hdl hA5)) ⟨j, oj, hj, hj2, hdj⟩
      rw [Array.getD_eq_getD_getElem?, ← this, hv1]; exact hv2)
    n (List.range n) (Array.replicate l.toArray.size false) a w.drew (by simp)
    (by
      rcases hw with rfl | ⟨x00, rfl⟩
      · exact invS_start
      · exact invS_start.base)
  rw [show n + (l.toArray.size - n) = l.toArray.size by omega] at H
  exact H
end
end Go.Proofs.Ytfecopfofkdnpaa
