/- Plain facts of chapter 30: searching, finding, allowing. -/
import Derived.Test.YtfecopfofkdnpaaPl30
namespace Go.Proofs.Ytfecopfofkdnpaa
open Go.RowKit
def sortedF (l : List En) : Prop := ∀ k, k + 1 < l.length → numF (enAt l k).addr < numF (enAt l (k + 1)).addr
theorem sorted_lt {l : List En} (h : sortedF l) : ∀ {i j : Nat}, i < j → j < l.length → numF (enAt l i).addr < numF (enAt l j).addr := by
  intro i j hij hj
  induction j with
  | zero => omega
  | succ j ih =>
    by_cases c : i = j
    · subst c; exact h i hj
    · exact Nat.lt_trans (ih (by omega) (by omega)) (h j hj)
theorem sorted_of_all {own : List (BitVec 8)} {l : List En} (h : allAt own l = true) : sortedF l := by
  intro k hk
  have := List.all_eq_true.1 h (k + 1) (List.mem_range.2 hk)
  simp only [okAt, ordAt, Bool.and_eq_true, Bool.or_eq_true, decide_eq_true_eq, beq_iff_eq, Nat.add_sub_cancel] at this
  rcases this.1.2 with c | c
  · omega
  · exact c
theorem sorted_of_valid {a : As} {l : List En} (h : validA a l = true) : sortedF l := by
  simp only [validA, Bool.and_eq_true] at h
  exact sorted_of_all h.1.2
def PlaceP (l : List En) (t : List (BitVec 8)) (i : Nat) (found : Bool) : Prop :=
  i ≤ l.length ∧ found = (decide (i < l.length) && decide (numF (enAt l i).addr = numF t)) ∧ (sortedF l → (∀ k, k < i → numF (enAt l k).addr < numF t) ∧ ∀ k, i ≤ k → k < l.length → numF t ≤ numF (enAt l k).addr)
def hasAddr (t : List (BitVec 8)) (e : En) : Bool := e.addr == t
def findI (l : List En) (t : List (BitVec 8)) : Int := match l.findIdx? (hasAddr t) with | some i => i | none => -1
theorem enAt_get {l : List En} {k : Nat} (h : k < l.length) : enAt l k = l[k] := by simp [enAt, List.getD_eq_getElem?_getD, List.getElem?_eq_getElem h]
theorem findI_none {l : List En} {t : List (BitVec 8)} (h : ∀ k, k < l.length → (enAt l k).addr ≠ t) : findI l t = -1 := by
  unfold findI
  rw [List.findIdx?_eq_none_iff.2]
  intro e he
  obtain ⟨k, hk, rfl⟩ := List.getElem_of_mem he
  have := h k hk
  rw [enAt_get hk] at this
  simpa [hasAddr] using this
theorem findI_some {l : List En} {t : List (BitVec 8)} {i : Nat} (hi : i < l.length) (he : (enAt l i).addr = t) (h : ∀ k, k < i → (enAt l k).addr ≠ t) : findI l t = i := by
  unfold findI
  have : l.findIdx? (hasAddr t) = some i := by
    rw [List.findIdx?_eq_some_iff_getElem]
    refine ⟨hi, ?_, fun j hj => ?_⟩
    · rw [← enAt_get hi]; simp [hasAddr, he]
    · have := h j hj
      rw [enAt_get (by omega)] at this
      simpa [hasAddr] using this
  rw [this]
theorem findI_cases (l : List En) (t : List (BitVec 8)) : findI l t = -1 ∨ ∃ i : Nat, i < l.length ∧ findI l t = i := by
  unfold findI
  cases h : l.findIdx? (hasAddr t) with
  | none => exact .inl rfl
  | some i =>
    rw [List.findIdx?_eq_some_iff_getElem] at h
    obtain ⟨hi, _⟩ := h
    exact .inr ⟨i, hi, rfl⟩
theorem holder_cases (l : List En) (aid : Int) : holderF l aid = -1 ∨ ∃ i : Nat, i < l.length ∧ holderF l aid = i := by
  unfold holderF
  cases h : l.findIdx? (isHeld aid) with
  | none => exact .inl rfl
  | some i =>
    rw [List.findIdx?_eq_some_iff_getElem] at h
    obtain ⟨hi, _⟩ := h
    exact .inr ⟨i, hi, rfl⟩
theorem place_find {l : List En} {t : List (BitVec 8)} {i : Nat} {found : Bool} (h : PlaceP l t i found) (hs : sortedF l) (hl : ∀ e ∈ l, e.addr.length = 6) (ht : t.length = 6) : found = decide (0 ≤ findI l t) ∧ (found = true → findI l t = i ∧ i < l.length) := by
  obtain ⟨h1, h2, h3⟩ := h
  obtain ⟨h4, h5⟩ := h3 hs
  have hlen : ∀ k, k < l.length → (enAt l k).addr.length = 6 := fun k hk => by rw [enAt_get hk]; exact hl _ (List.getElem_mem hk)
  cases hf : found with
  | true =>
    rw [hf] at h2
    have h2' : i < l.length ∧ numF (enAt l i).addr = numF t := by simpa using h2.symm
    have : findI l t = i := findI_some h2'.1 (num_inj (by rw [hlen i h2'.1, ht]) h2'.2) fun k hk e => by
      have := h4 k hk; rw [e] at this; omega
    rw [this]
    exact ⟨by simp, fun _ => ⟨rfl, h2'.1⟩⟩
  | false =>
    rw [hf] at h2
    have hno : findI l t = -1 := findI_none fun k hk e => by
      have hki : i ≤ k := by
        rcases Nat.lt_or_ge k i with c | c
        · have := h4 k c; rw [e] at this; omega
        · exact c
      have hil : i < l.length := by omega
      have hne : numF (enAt l i).addr ≠ numF t := fun c => by simp [hil, c] at h2
      rcases Nat.lt_or_eq_of_le hki with c | c
      · have q1 := sorted_lt hs c hk
        have q2 := h5 i (Nat.le_refl _) hil
        rw [e] at q1; omega
      · subst c; exact hne (by rw [e])
    rw [hno]
    exact ⟨by simp, fun c => by cases c⟩
def findE (a : As) (l : List En) (t : List (BitVec 8)) : En × Bool := if validA a l && decide (0 ≤ findI l t) then (enAt l (findI l t).toNat, true) else (en0, false)
def byE (a : As) (l : List En) (aid : Int) : En × Bool := if validA a l && decide (0 ≤ holderF l aid) then (enAt l (holderF l aid).toNat, true) else (en0, false)
def subsB (s : Int) : Bool := s == 11 || s == 12 || s == 4 || s == 5 || s == 8
def allowF (a : As) (l : List En) (h : Hd) : Bool := validA a l && validH h && addrF a h && (if h.kind = 2 then (findE a l h.a2).1.state == 2 else if subsB h.sub then true else if h.sub = 13 then (findE a l h.a2).1.state == 2 else (findE a l h.a2).2)
def memF (l : List En) (t : List (BitVec 8)) : Bool := decide (0 ≤ findI l t) && (enAt l (findI l t).toNat).state == 2
def allow30F (a : As) (l : List En) (h : Hd) : Bool := valid30F a l && valid5F h && addrF a h && (if h.kind = 2 then memF l h.a2 else if subsB h.sub then true else if h.sub = 13 then memF l h.a2 else decide (0 ≤ findI l h.a2))
theorem allow_eq (a : As) (l : List En) (h : Hd) (ok : h.Ok) : allow30F a l h = allowF a l h := by
  unfold allow30F allowF
  rw [valid30_eq, valid5_eq h ok]
  cases hv : validA a l with
  | false => simp
  | true =>
    have : memF l h.a2 = ((findE a l h.a2).1.state == 2) ∧ decide (0 ≤ findI l h.a2) = (findE a l h.a2).2 := by
      unfold memF findE
      rw [hv]
      by_cases c : 0 ≤ findI l h.a2
      · simp [c]
      · simp [c, en0]
    rw [this.1, this.2]
end Go.Proofs.Ytfecopfofkdnpaa
