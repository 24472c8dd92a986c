/- Plain facts of chapter 30: two ways to say that a header is valid, numbers of addresses, the walk over the stations. -/
import Derived.Test.YtfecopfofkdnpaaHdK
namespace Go.Proofs.Ytfecopfofkdnpaa
open Go.RowKit
def subs5 (k : Int) : List Int := if k = 0 then [0, 1, 2, 3, 4, 5, 8, 10, 11, 12, 13] else if k = 1 then [8, 9, 10, 11, 12, 13] else if k = 2 then [0, 4, 8, 12] else []
def known5F (k s : Int) : Bool := decide (s ∈ subs5 k)
def used1 (h : Hd) : Hd := ⟨h.kind, h.sub, (h.kind == 2) && h.toDs, (h.kind == 2) && h.fromDs, false, false, h.sleep, h.mdata, false, h.dur, h.a1, zero6, zero6, zero6, 0, 0, 0, 0, false, false⟩
def used2 (h : Hd) : Hd := { used1 h with a2 := if 1 < addrsF (used1 h) then h.a2 else zero6, a3 := if 2 < addrsF (used1 h) then h.a3 else zero6, a4 := if 3 < addrsF (used1 h) then h.a4 else zero6 }
def used3 (h : Hd) : Hd := if h.kind = 1 then used2 h else { used2 h with more := h.more, retry := h.retry, prot := h.prot, seq := h.seq, frag := h.frag }
def usedF (h : Hd) : Hd := if qosF h then { used3 h with tid := h.tid, ack := h.ack, amsdu := h.amsdu, eosp := h.eosp } else used3 h
def groups5 (h : Hd) : Bool := !(groupF h.a2 || (groupF h.a1 && (h.more || decide (0 < h.frag))))
def odd5 (h : Hd) : Bool := !null5F h || (!h.more && !h.prot && !h.amsdu && h.frag == 0)
def valid5F (h : Hd) : Bool := known5F h.kind h.sub && decide (h = usedF h) && rangesF h && groups5 h && odd5 h
theorem kn0 : ∀ s : _root_.Fin 256, (knownF 0 (s.val : Int)).2 = known5F 0 (s.val : Int) := by decide +kernel
theorem kn1 : ∀ s : _root_.Fin 256, (knownF 1 (s.val : Int)).2 = known5F 1 (s.val : Int) := by decide +kernel
theorem kn2 : ∀ s : _root_.Fin 256, (knownF 2 (s.val : Int)).2 = known5F 2 (s.val : Int) := by decide +kernel
theorem known_eq (k s : Int) (h0 : 0 ≤ s) (h1 : s < 256) : (knownF k s).2 = known5F k s := by
  have hs : ((s.toNat : Nat) : Int) = s := Int.toNat_of_nonneg h0
  by_cases hk0 : k = 0
  · have := kn0 ⟨s.toNat, by omega⟩
    rw [hk0, ← hs]; exact this
  by_cases hk1 : k = 1
  · have := kn1 ⟨s.toNat, by omega⟩
    rw [hk1, ← hs]; exact this
  by_cases hk2 : k = 2
  · have := kn2 ⟨s.toNat, by omega⟩
    rw [hk2, ← hs]; exact this
  · simp [knownF, known5F, subs5, hk0, hk1, hk2]
theorem valid_k0 (h : Hd) (hk : h.kind = 0) : (h = usedF h) ↔ (restF h = zeroHd) := by
  obtain ⟨k, s, b1, b2, b3, b4, b5, b6, b7, du, a1, a2, a3, a4, sq, fr, ti, ac, am, eo⟩ := h
  dsimp only at hk
  subst hk
  simp [usedF, used3, used2, used1, qosF, addrsF, restF, rest3, rest2, rest1, zA, addrsN, placesN, bothF, knownF, zeroHd]
theorem valid_k1 (h : Hd) (hk : h.kind = 1) : (h = usedF h) ↔ (restF h = zeroHd) := by
  obtain ⟨k, s, b1, b2, b3, b4, b5, b6, b7, du, a1, a2, a3, a4, sq, fr, ti, ac, am, eo⟩ := h
  dsimp only at hk
  subst hk
  by_cases hs : s = 12 ∨ s = 13
  · simp [usedF, used3, used2, used1, qosF, addrsF, restF, rest3, rest2, rest1, zA, addrsN, placesN, bothF, knownF, zeroHd, hs]
  · simp [usedF, used3, used2, used1, qosF, addrsF, restF, rest3, rest2, rest1, zA, addrsN, placesN, bothF, knownF, zeroHd, hs]
theorem valid_k2 (h : Hd) (hk : h.kind = 2) (hs : h.sub ∈ ([0, 4, 8, 12] : List Int)) : (h = usedF h) ↔ (restF h = zeroHd) := by
  obtain ⟨k, s, b1, b2, b3, b4, b5, b6, b7, du, a1, a2, a3, a4, sq, fr, ti, ac, am, eo⟩ := h
  dsimp only at hk hs
  subst hk
  have e0 : bits .and .u8 0 8 = 0 := by decide +kernel
  have e4 : bits .and .u8 4 8 = 0 := by decide +kernel
  have e8 : bits .and .u8 8 8 = 8 := by decide +kernel
  have e12 : bits .and .u8 12 8 = 8 := by decide +kernel
  simp only [List.mem_cons, List.not_mem_nil, or_false] at hs
  rcases hs with rfl | rfl | rfl | rfl <;> cases b1 <;> cases b2 <;>
    simp [usedF, used3, used2, used1, qosF, addrsF, restF, rest3, rest2, rest1, zA, addrsN, placesN, bothF, knownF, zeroHd, e0, e4, e8, e12]
theorem null_eq (h : Hd) (hs : h.kind = 2 → h.sub ∈ ([0, 4, 8, 12] : List Int)) : nullF h = null5F h := by
  unfold nullF null5F
  by_cases hk : h.kind = 2
  · have hs := hs hk
    simp only [List.mem_cons, List.not_mem_nil, or_false] at hs
    rcases hs with hs | hs | hs | hs <;> rw [hs, hk] <;> decide +kernel
  · have : (h.kind == 2) = false := beq_eq_false_iff_ne.2 hk
    rw [this]; rfl
theorem valid5_eq (h : Hd) (ok : h.Ok) : valid5F h = validH h := by
  unfold valid5F validH
  rw [known_eq h.kind h.sub ok.s0 ok.s1]
  by_cases hk : known5F h.kind h.sub = true
  · by_cases hr : rangesF h = true
    · have hm : h.sub ∈ subs5 h.kind := by simpa [known5F] using hk
      have hkk : h.kind = 0 ∨ h.kind = 1 ∨ h.kind = 2 := by
        unfold subs5 at hm
        split at hm
        · exact .inl ‹_›
        · split at hm
          · exact .inr (.inl ‹_›)
          · split at hm
            · exact .inr (.inr ‹_›)
            · simp at hm
      have h2 : h.kind = 2 → h.sub ∈ ([0, 4, 8, 12] : List Int) := fun e => by simpa [subs5, e] using hm
      have hu : (h = usedF h) ↔ (restF h = zeroHd) := by
        rcases hkk with e | e | e
        · exact valid_k0 h e
        · exact valid_k1 h e
        · exact valid_k2 h e (h2 e)
      have hn := null_eq h h2
      have hf : 0 ≤ h.frag := by
        simp only [rangesF, inF, Bool.and_eq_true, decide_eq_true_eq] at hr; omega
      rw [hk, hr, decide_eq_decide.2 hu]
      have hg : groups5 h = groupsF h := by
        unfold groups5 groupsF wholeF
        have : decide (0 < h.frag) = !(h.frag == 0) := by
          refine Bool.eq_iff_iff.2 ?_; simp; omega
        rw [this]
        cases groupF h.a1 <;> cases groupF h.a2 <;> cases h.more <;> cases (h.frag == 0) <;> rfl
      have ho : odd5 h = !oddF h := by
        unfold odd5 oddF wholeF
        rw [hn]
        cases null5F h <;> cases h.more <;> cases h.prot <;> cases h.amsdu <;> cases (h.frag == 0) <;> rfl
      rw [hg, ho]
    · have hr2 : rangesF h = false := by simpa using hr
      simp [hr2]
  · have hk2 : known5F h.kind h.sub = false := by simpa using hk
    simp [hk2]
/-! Numbers of addresses. -/
def numF (l : List (BitVec 8)) : Nat := l.foldl (fun n x => n * 256 + x.toNat) 0
theorem num_snoc (l : List (BitVec 8)) (x : BitVec 8) : numF (l ++ [x]) = numF l * 256 + x.toNat := by simp [numF, List.foldl_append]
theorem num_from (m : List (BitVec 8)) : ∀ n, m.foldl (fun n x => n * 256 + x.toNat) n = n * 256 ^ m.length + numF m := by
  induction m with
  | nil => intro n; simp [numF]
  | cons x m ih =>
    intro n
    have h1 := ih (n * 256 + x.toNat)
    have h2 := ih (0 * 256 + x.toNat)
    simp only [numF, List.foldl_cons, List.length_cons] at h1 h2 ⊢
    rw [h1, h2, Nat.pow_succ]
    simp only [Nat.zero_mul, Nat.zero_add]
    rw [Nat.add_mul, Nat.mul_assoc, Nat.mul_comm 256]; omega
theorem num_append (l m : List (BitVec 8)) : numF (l ++ m) = numF l * 256 ^ m.length + numF m := by
  show (l ++ m).foldl _ 0 = _
  rw [List.foldl_append]; exact num_from m _
theorem num_cons (x : BitVec 8) (m : List (BitVec 8)) : numF (x :: m) = x.toNat * 256 ^ m.length + numF m := by
  rw [show x :: m = [x] ++ m from rfl, num_append]; simp [numF]
theorem num_lt_pow : ∀ l : List (BitVec 8), numF l < 256 ^ l.length
  | [] => by simp [numF]
  | x :: m => by
    have := num_lt_pow m
    have hx : x.toNat < 256 := x.isLt
    rw [num_cons, List.length_cons, Nat.pow_succ]
    have : (x.toNat + 1) * 256 ^ m.length ≤ 256 * 256 ^ m.length := Nat.mul_le_mul_right _ hx
    rw [Nat.add_mul, Nat.one_mul] at this
    rw [Nat.mul_comm (256 ^ m.length)]
    omega
theorem num_inj : ∀ {l m : List (BitVec 8)}, l.length = m.length → numF l = numF m → l = m
  | [], [], _, _ => rfl
  | [], _ :: _, h, _ => by simp at h
  | _ :: _, [], h, _ => by simp at h
  | x :: l, y :: m, h, e => by
    have hl : l.length = m.length := by simpa using h
    rw [num_cons, num_cons, hl] at e
    have h1 := num_lt_pow l
    have h2 := num_lt_pow m
    rw [hl] at h1
    have hxy : x.toNat = y.toNat := by
      rcases Nat.lt_trichotomy x.toNat y.toNat with c | c | c
      · exfalso
        have : (x.toNat + 1) * 256 ^ m.length ≤ y.toNat * 256 ^ m.length := Nat.mul_le_mul_right _ c
        rw [Nat.add_mul, Nat.one_mul] at this; omega
      · exact c
      · exfalso
        have : (y.toNat + 1) * 256 ^ m.length ≤ x.toNat * 256 ^ m.length := Nat.mul_le_mul_right _ c
        rw [Nat.add_mul, Nat.one_mul] at this; omega
    rw [hxy] at e
    rw [BitVec.eq_of_toNat_eq hxy, num_inj hl (by omega)]
theorem num_lt {l m : List (BitVec 8)} (h : l.length = m.length) (k : Nat) (he : l.take k = m.take k) {x y : BitVec 8} (hx : l[k]? = some x) (hy : m[k]? = some y) (hlt : x.toNat < y.toNat) : numF l < numF m := by
  obtain ⟨h1, rfl⟩ := List.getElem?_eq_some_iff.1 hx
  obtain ⟨h2, rfl⟩ := List.getElem?_eq_some_iff.1 hy
  rw [← List.take_append_drop k l, ← List.take_append_drop k m, he, num_append, num_append, List.drop_eq_getElem_cons h1, List.drop_eq_getElem_cons h2, num_cons, num_cons]
  have hl : (l.drop (k + 1)).length = (m.drop (k + 1)).length := by simp [h]
  have h3 := num_lt_pow (l.drop (k + 1))
  rw [List.length_cons, List.length_cons, hl]
  rw [hl] at h3
  have : (l[k].toNat + 1) * 256 ^ (m.drop (k + 1)).length ≤ m[k].toNat * 256 ^ (m.drop (k + 1)).length := Nat.mul_le_mul_right _ hlt
  rw [Nat.add_mul, Nat.one_mul] at this
  omega
def cmpF (a b : List (BitVec 8)) : Int := if numF a < numF b then -1 else if numF b < numF a then 1 else 0
theorem cmp_neg {a b : List (BitVec 8)} : cmpF a b < 0 ↔ numF a < numF b := by unfold cmpF; split <;> (try split) <;> omega
theorem cmp_ge {a b : List (BitVec 8)} : 0 ≤ cmpF a b ↔ numF b ≤ numF a := by unfold cmpF; split <;> (try split) <;> omega
theorem cmp_zero {a b : List (BitVec 8)} : cmpF a b = 0 ↔ numF a = numF b := by unfold cmpF; split <;> (try split) <;> omega
/-! The stations. -/
def en0 : En := ⟨zero6, 0, 0, 0, 0, 0⟩
def enAt (l : List En) (k : Nat) : En := l.getD k en0
theorem enAt_some {l : List En} {k : Nat} {e : En} (h : l[k]? = some e) : enAt l k = e := by simp [enAt, h]
def entF (e : En) : Bool := !groupF e.addr && inF e.seen 0 1099511627776 && (if e.state = 1 then e.aid == 0 && e.caps == 0 && e.listen == 0 else e.state == 2 && inF e.aid 1 255 && inF e.caps 0 65535 && inF e.listen 0 65535)
def headF (a : As) (n : Nat) : Bool := !groupF a.own && inF a.caps 0 65535 && inF a.limit 1 255 && inF a.idle 1 1073741824 && decide (n ≤ 64)
def membersF (l : List En) : Nat := l.countP (fun e => e.state == 2)
def heldF (l : List En) : List Bool := l.foldl (fun h s => h.set s.aid.toNat (s.state == 2)) (List.replicate 256 false)
theorem held_len (l : List En) : (heldF l).length = 256 := by
  unfold heldF
  generalize hb : List.replicate 256 false = b
  have : b.length = 256 := by rw [← hb]; exact List.length_replicate
  clear hb
  induction l generalizing b with
  | nil => exact this
  | cons s l ih => exact ih _ (by simpa using this)
theorem held_nil : heldF [] = List.replicate 256 false := by unfold heldF; rfl
theorem held_snoc (l : List En) (e : En) : heldF (l ++ [e]) = (heldF l).set e.aid.toNat (e.state == 2) := by unfold heldF; rw [List.foldl_append]; rfl
def ordAt (l : List En) (k : Nat) : Bool := k == 0 || decide (numF (enAt l (k - 1)).addr < numF (enAt l k).addr)
def okAt (own : List (BitVec 8)) (l : List En) (k : Nat) : Bool := entF (enAt l k) && (enAt l k).addr != own && ordAt l k && !(heldF (l.take k)).getD (enAt l k).aid.toNat false
def allAt (own : List (BitVec 8)) (l : List En) : Bool := (List.range l.length).all (okAt own l)
def validA (a : As) (l : List En) : Bool := headF a l.length && allAt a.own l && decide ((membersF l : Int) ≤ a.limit)
def isHeld (aid : Int) (e : En) : Bool := e.state == 2 && e.aid == aid
def holderF (l : List En) (aid : Int) : Int := match l.findIdx? (isHeld aid) with | some i => i | none => -1
def ok30At (own : List (BitVec 8)) (l : List En) (k : Nat) : Bool := entF (enAt l k) && (enAt l k).addr != own && ordAt l k && ((enAt l k).state != 2 || holderF l (enAt l k).aid == k)
def all30 (own : List (BitVec 8)) (l : List En) : Bool := (List.range l.length).all (ok30At own l)
def valid30F (a : As) (l : List En) : Bool := headF a l.length && decide ((membersF l : Int) ≤ a.limit) && all30 a.own l
theorem ent_cases {e : En} (h : entF e = true) : (e.state = 1 ∧ e.aid = 0) ∨ (e.state = 2 ∧ 1 ≤ e.aid ∧ e.aid ≤ 255) := by
  unfold entF at h
  by_cases h1 : e.state = 1
  · simp [h1] at h; exact .inl ⟨h1, h.2.1.1⟩
  · simp [h1, inF] at h; exact .inr ⟨h.2.1.1.1, h.2.1.1.2.1, h.2.1.1.2.2⟩
theorem held_iff (l : List En) (n : Nat) (hE : ∀ k, k < n → entF (enAt l k) = true) (hn : n ≤ l.length) : ∀ k, k ≤ n → ∀ x : Nat, x < 256 → ((heldF (l.take k)).getD x false = true ↔ ∃ j, j < k ∧ (enAt l j).state = 2 ∧ (enAt l j).aid = x) := by
  intro k
  induction k with
  | zero =>
    intro _ x hx
    rw [List.take_zero, held_nil, List.getD_eq_getElem?_getD, List.getElem?_replicate, if_pos hx]
    simp
  | succ k ih =>
    intro hk x hx
    have ih := ih (by omega) x hx
    have hkl : k < l.length := by omega
    have he : l[k]? = some (enAt l k) := by simp [enAt, List.getD_eq_getElem?_getD, List.getElem?_eq_getElem hkl]
    rw [List.take_add_one, he, Option.toList_some, held_snoc]
    have hc := ent_cases (hE k (by omega))
    rw [List.getD_eq_getElem?_getD, List.getElem?_set, held_len]
    by_cases hx2 : (enAt l k).aid.toNat = x
    · rw [if_pos hx2, if_pos (by omega)]
      simp only [Option.getD_some, beq_iff_eq]
      constructor
      · intro h2
        refine ⟨k, by omega, h2, ?_⟩
        rcases hc with c | c <;> omega
      · rintro ⟨j, hj, h2, h3⟩
        rcases hc with c | c
        · exfalso
          have hcj := ent_cases (hE j (by omega))
          rcases hcj with d | d <;> omega
        · exact c.1
    · rw [if_neg hx2, ← List.getD_eq_getElem?_getD, ih]
      constructor
      · rintro ⟨j, hj, h2⟩; exact ⟨j, by omega, h2⟩
      · rintro ⟨j, hj, h2, h3⟩
        refine ⟨j, ?_, h2, h3⟩
        rcases Nat.lt_succ_iff_lt_or_eq.1 hj with c | c
        · exact c
        · exfalso; subst c; apply hx2; rw [h3]; omega
theorem holder_eq_iff (l : List En) (aid : Int) (k : Nat) (hk : k < l.length) (h : isHeld aid (enAt l k) = true) : holderF l aid = k ↔ ∀ j, j < k → isHeld aid (enAt l j) = false := by
  unfold holderF
  cases hf : l.findIdx? (isHeld aid) with
  | none =>
    exfalso
    rw [List.findIdx?_eq_none_iff] at hf
    have := hf (enAt l k) (by simp only [enAt, List.getD_eq_getElem?_getD, List.getElem?_eq_getElem hk, Option.getD_some]; exact List.getElem_mem hk)
    rw [this] at h; cases h
  | some i =>
    rw [List.findIdx?_eq_some_iff_getElem] at hf
    obtain ⟨hi, h1, h2⟩ := hf
    have hat : ∀ j (hj : j < l.length), enAt l j = l[j] := fun j hj => by simp [enAt, List.getD_eq_getElem?_getD, List.getElem?_eq_getElem hj]
    constructor
    · intro e j hj
      have e : (i : Int) = k := e
      have e : i = k := by omega
      have := h2 j (by omega)
      rw [hat j (by omega)]; simpa using this
    · intro hall
      have : i = k := by
        rcases Nat.lt_trichotomy i k with c | c | c
        · have := hall i c; rw [hat i hi, h1] at this; cases this
        · exact c
        · have := h2 k c; rw [← hat k hk, h] at this; simp at this
      simp [this]
theorem all_eq (own : List (BitVec 8)) (l : List En) : allAt own l = all30 own l := by
  refine Bool.eq_iff_iff.2 ?_
  unfold allAt all30
  rw [List.all_eq_true, List.all_eq_true]
  have key : (∀ k, k < l.length → entF (enAt l k) = true) → ∀ k, k < l.length → ((!(heldF (l.take k)).getD (enAt l k).aid.toNat false) = true ↔ ((enAt l k).state != 2 || holderF l (enAt l k).aid == (k : Int)) = true) := by
    intro hE k hk
    have hc := ent_cases (hE k hk)
    have h1 := held_iff l l.length hE (Nat.le_refl _) k (by omega) (enAt l k).aid.toNat (by rcases hc with c | c <;> omega)
    have h1' : (!(heldF (l.take k)).getD (enAt l k).aid.toNat false) = true ↔ ¬ ∃ j, j < k ∧ (enAt l j).state = 2 ∧ (enAt l j).aid = ((enAt l k).aid.toNat : Int) := by
      rw [← h1]; simp
    rw [h1']
    rcases hc with c | c
    · constructor
      · intro _; simp [c.1]
      · rintro _ ⟨j, hj, h2, h3⟩
        have hcj := ent_cases (hE j (by omega))
        rcases hcj with d | d <;> omega
    · have hh := holder_eq_iff l (enAt l k).aid k hk (by simp [isHeld, c.1])
      have e2 : ((enAt l k).state != 2 || holderF l (enAt l k).aid == (k : Int)) = true ↔ holderF l (enAt l k).aid = (k : Int) := by simp [c.1]
      rw [e2, hh]
      constructor
      · intro hno j hj
        rw [Bool.eq_false_iff]
        intro ht
        simp only [isHeld, Bool.and_eq_true, beq_iff_eq] at ht
        exact hno ⟨j, hj, ht.1, by omega⟩
      · rintro hno ⟨j, hj, h2, h3⟩
        have := hno j hj
        have ht : isHeld (enAt l k).aid (enAt l j) = true := by
          simp only [isHeld, Bool.and_eq_true, beq_iff_eq]; exact ⟨h2, by omega⟩
        rw [ht] at this; cases this
  constructor
  · intro h k hk
    have h' : ∀ k, k < l.length → okAt own l k = true := fun k hk => h k (List.mem_range.2 hk)
    have hE : ∀ k, k < l.length → entF (enAt l k) = true := fun k hk => by
      have := h' k hk; simp only [okAt, Bool.and_eq_true] at this; exact this.1.1.1
    have hk := List.mem_range.1 hk
    have := h' k hk
    unfold okAt at this; unfold ok30At
    rw [Bool.and_eq_true] at this ⊢
    exact ⟨this.1, (key hE k hk).1 this.2⟩
  · intro h k hk
    have h' : ∀ k, k < l.length → ok30At own l k = true := fun k hk => h k (List.mem_range.2 hk)
    have hE : ∀ k, k < l.length → entF (enAt l k) = true := fun k hk => by
      have := h' k hk; simp only [ok30At, Bool.and_eq_true] at this; exact this.1.1.1
    have hk := List.mem_range.1 hk
    have := h' k hk
    unfold ok30At at this; unfold okAt
    rw [Bool.and_eq_true] at this ⊢
    exact ⟨this.1, (key hE k hk).2 this.2⟩
theorem valid30_eq (a : As) (l : List En) : valid30F a l = validA a l := by
  unfold valid30F validA
  rw [all_eq]
  cases headF a l.length <;> cases decide ((membersF l : Int) ≤ a.limit) <;> cases all30 a.own l <;> rfl
end Go.Proofs.Ytfecopfofkdnpaa
