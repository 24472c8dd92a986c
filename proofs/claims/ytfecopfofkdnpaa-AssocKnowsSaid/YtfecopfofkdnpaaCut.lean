/- A cut in a walk: code that ends normally and changes only some slots: the walk goes on once, whatever ways led there. -/
import Derived.Test.YtfecopfofkdnpaaLoc
namespace Go.Proofs.Ytfecopfofkdnpaa
open Go.RowKit
def putMany (vs : Tmp → Value) : List Tmp → Array Value → Array Value
  | [], t => t
  | d :: l, t => putMany vs l (t.setIfInBounds d (vs d))
/-- What holds at the end of the code before a cut (a name, so that the walk's simp does not look inside). -/
def CutP (D : List Tmp) (R : (Tmp → Value) → World → Prop) (a : Act) (ex : Exit) (a' : Act) (w' : World) : Prop :=
  ex = .normal ∧ a'.defers = a.defers ∧ a'.tmps = putMany (fun d => a'.tmps.getD d undef) D a.tmps ∧ R (fun d => a'.tmps.getD d undef) w'
theorem CutP.of {D : List Tmp} {R : (Tmp → Value) → World → Prop} {a a' : Act} {w' : World} (hd : a'.defers = a.defers) (ht : a'.tmps = putMany (fun d => a'.tmps.getD d undef) D a.tmps) (hr : R (fun d => a'.tmps.getD d undef) w') : CutP D R a .normal a' w' := ⟨rfl, hd, ht, hr⟩
theorem wp_cut {P : Program} {c : Code} {Q : Exit → Act → World → Prop} {a : Act} {w : World} (D : List Tmp) (R : (Tmp → Value) → World → Prop)
    (h1 : c.wp P (CutP D R a) a w)
    (h2 : ∀ vs w', R vs w' → Q .normal ⟨putMany vs D a.tmps, a.defers⟩ w') : c.wp P Q a w :=
  Code.wp_mono (fun e a' w' ⟨he, hd, ht, hr⟩ => by
    subst he
    have h := h2 _ _ hr
    have e : a' = ⟨putMany (fun d => a'.tmps.getD d undef) D a.tmps, a.defers⟩ := by
      cases a' with
      | mk t d => simp only at hd ht; rw [← hd]; congr 1
    rw [e]
    exact h) h1
/-- The same, where the code may leave otherwise, too. -/
theorem wp_cutX {P : Program} {c : Code} {Q : Exit → Act → World → Prop} {a : Act} {w : World} (D : List Tmp) (R : (Tmp → Value) → World → Prop)
    (h1 : c.wp P (fun ex a' w' => (ex ≠ .normal ∧ Q ex a' w') ∨ (ex = .normal ∧ a'.defers = a.defers ∧ a'.tmps = putMany (fun d => a'.tmps.getD d undef) D a.tmps ∧ R (fun d => a'.tmps.getD d undef) w')) a w)
    (h2 : ∀ vs w', R vs w' → Q .normal ⟨putMany vs D a.tmps, a.defers⟩ w') : c.wp P Q a w :=
  Code.wp_mono (fun e a' w' h => by
    rcases h with ⟨_, h⟩ | ⟨he, hd, ht, hr⟩
    · exact h
    subst he
    have h := h2 _ _ hr
    have e : a' = ⟨putMany (fun d => a'.tmps.getD d undef) D a.tmps, a.defers⟩ := by
      cases a' with
      | mk t d => simp only at hd ht; rw [← hd]; congr 1
    rw [e]
    exact h) h1
end Go.Proofs.Ytfecopfofkdnpaa
