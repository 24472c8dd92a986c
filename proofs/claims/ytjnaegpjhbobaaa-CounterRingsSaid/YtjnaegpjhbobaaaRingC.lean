/- counter.at, counter.with, counter.Drop, counter.Install, counter.Receive. -/
import Derived.Test.YtjnaegpjhbobaaaCheckRing
import Derived.Test.YtjnaegpjhbobaaaLc
import Derived.Test.YtjnaegpjhbobaaaLaw24a
namespace Go.Proofs.Ytjnaegpjhbobaaa
open Go.RowKit
abbrev Keys16 := List (List (BitVec 8))
/-- The slice's block is a row that may be written. -/
def RowP (base : Nat) (w : World) (ad : Option Addr) (ks : Keys16) : Prop := ks ≠ [] → 0 < base → ∀ a, ad = some a → ∃ cur t, w.heap[a.block]? = some (.cells cur t (0, 0))
theorem RowP.keep {base : Nat} {w w' : World} {ad : Option Addr} {ks : Keys16} (h : RowP base w ad ks) (hk : ks ≠ [] → ∀ a, ad = some a → a.block < w.heap.size → w'.heap[a.block]? = w.heap[a.block]?) : RowP base w' ad ks := fun hn h0 a ha => by
  obtain ⟨cur, t, hc⟩ := h hn h0 a ha
  exact ⟨cur, t, (hk hn a ha (Array.getElem?_eq_some_iff.1 hc).1).trans hc⟩
/-- A slice of keys, its length and capacity in order, its block not below base. -/
def PastV (base : Nat) (w : World) (u : Value) (ks : Keys16) : Prop := ∃ ad n c, u = .slice ad n c ∧ n = ks.length ∧ n ≤ c ∧ SlY w u ks ∧ (∀ a, ad = some a → base ≤ a.block) ∧ RowP base w ad ks
theorem PastV.sly {base : Nat} {w : World} {u : Value} {ks : Keys16} (h : PastV base w u ks) : SlY w u ks := by obtain ⟨_, _, _, _, _, _, h, _⟩ := h; exact h
theorem PastV.ext {base : Nat} {w w' : World} {u : Value} {ks : Keys16} (h : PastV base w u ks) (hx : Ext w w') : PastV base w' u ks := by
  obtain ⟨ad, n, c, h1, h2, h3, h4, h5⟩ := h
  exact ⟨ad, n, c, h1, h2, h3, h4.ext hx, h5.1, h5.2.keep fun _ a _ hl => by obtain ⟨x, rfl⟩ := hx; exact more_heap _ _ _ hl⟩
theorem PastV.base {base base' : Nat} {w : World} {u : Value} {ks : Keys16} (h : PastV base w u ks) (hb : base' ≤ base) : PastV base' w u ks := by
  obtain ⟨ad, n, c, h1, h2, h3, h4, h5⟩ := h
  exact ⟨ad, n, c, h1, h2, h3, h4, fun a ha => Nat.le_trans hb (h5.1 a ha), fun hn h0 => h5.2 hn (Nat.lt_of_lt_of_le h0 hb)⟩
theorem PastV.nil (base : Nat) (w : World) : PastV base w (.slice none 0 0) [] := ⟨none, 0, 0, rfl, rfl, Nat.le_refl _, SlY.nil w, fun a h => (by cases h), fun h => absurd rfl h⟩
theorem PastV.of_owns {base : Nat} {w : World} {u : Value} {ks : Keys16} (h0 : ∀ k ∈ ks, k.length = 16) (h : w.ownsRow base 45 16 u ks.length (flatK ks)) : PastV base w u ks := by
  have hy := SlY.of_owns h0 h
  obtain ⟨ad, c, rfl⟩ := hy.form
  refine ⟨ad, _, c, rfl, rfl, owns_capS h, hy, fun a ha => ?_, fun _ _ a ha => ?_⟩
  · subst ha
    refine owns_blockS h a.block ?_
    obtain ⟨_, ⟨h, _⟩ | ⟨g, cap, cur, h, _⟩⟩ := h
    · cases h
    · cases h; rfl
  · subst ha
    obtain ⟨_, ⟨h, _⟩ | ⟨g, cap, cur, h, _, hg, _⟩⟩ := h
    · cases h
    · cases h; exact ⟨cur, _, hg⟩
theorem SlY.setRow {w : World} {g : Nat} {ad : Option Addr} {n c : Nat} {ks : Keys16} (ds : Array Value) (h : SlY w (.slice ad n c) ks) (hb : ∀ a, ad = some a → a.block ≠ g) : SlY (w.setRow g ds) (.slice ad n c) ks := by
  obtain ⟨h0, h | ⟨b, off, cap, h1, h2, h3⟩⟩ := h
  · exact ⟨h0, .inl h⟩
  · cases h1
    exact ⟨h0, .inr ⟨b, off, _, rfl, by rw [setRow_size]; exact h2, fun j k hk => range_setRow (h3 j k hk) (hb _ rfl)⟩⟩
theorem PastV.setRow {base g : Nat} {w : World} {u : Value} {ks : Keys16} (ds : Array Value) (h : PastV base w u ks) (hb : g < base) : PastV base (w.setRow g ds) u ks := by
  obtain ⟨ad, n, c, rfl, h2, h3, h4, h5⟩ := h
  exact ⟨ad, n, c, rfl, h2, h3, h4.setRow ds (fun a ha => by have := h5.1 a ha; omega), h5.1, h5.2.keep fun _ a ha _ => setRow_other w g a.block ds (by have := h5.1 a ha; omega)⟩
theorem owns_setRowS {w : World} {base E sz n g : Nat} {v : Value} {xs : List Value} (ds : Array Value) (h : w.ownsRow base E sz v n xs) (hb : g < base) : (w.setRow g ds).ownsRow base E sz v n xs := by
  obtain ⟨h1, h2 | ⟨b, cap, cur, h3, hg, hh, h4⟩⟩ := h
  · exact ⟨h1, .inl h2⟩
  · exact ⟨h1, .inr ⟨b, cap, cur, h3, hg, (setRow_other w g b ds (by omega)).trans hh, h4⟩⟩
theorem owns_baseS {w : World} {base base' E sz n : Nat} {v : Value} {xs : List Value} (h : w.ownsRow base E sz v n xs) (hb : base' ≤ base) : w.ownsRow base' E sz v n xs := by
  obtain ⟨h1, h2 | ⟨b, cap, cur, h3, hg, hh⟩⟩ := h
  · exact ⟨h1, .inl h2⟩
  · exact ⟨h1, .inr ⟨b, cap, cur, h3, Nat.le_trans hb hg, hh⟩⟩
def atF (l : List Slot) (ks : Keys16) (slot : Int) : Int := if checkRingF l ks = 8 then 8 else if slot < 0 ∨ 3 < slot then 2 else 0
theorem checkRingF_cases (l : List Slot) (ks : Keys16) : checkRingF l ks = 8 ∨ checkRingF l ks = 0 := by unfold checkRingF; split <;> simp
theorem cellsR_slots (l : List Slot) (v : Value) (j : Nat) (s : Slot) (hl : Ring4 l) (hj : l[j]? = some s) : ((cellsR l v).drop (j * 36)).take 36 = cellsS s := by
  have h := cellsSs_at l hl.2 j s hj
  have hjl := (List.getElem?_eq_some_iff.1 hj).1
  have h4 := hl.1
  have h144 := cellsSs_four l hl
  rw [cellsR, List.drop_append, List.take_append, h]
  simp only [List.length_drop, h144]
  rw [show 36 - (144 - j * 36) = 0 by omega]; simp
set_option maxHeartbeats 800000 in
theorem at_any (l : List Slot) (hl : Ring4 l) (v : Value) (ks : Keys16) (b : Nat) (hn2 : ks.length ≤ 1000) (slot : Int) (w : World) (hs : PastV b w v ks) :
    Calls Try.prog 42 #[.agg (cellsR l v).toArray, .int .i64 slot] w fun e w' => e = .returned (.int .i64 (atF l ks slot)) ∧ Ext w w' := by
  obtain ⟨ad, n, c, rfl, rfl, hcap, hs, _⟩ := hs
  have HC := kp (fun w' h => checkRing_any l hl ad ks.length c ks rfl hn2 hcap w' h)
  have HS := kp (hs.ext (Ext.alloc w (.cells (cellsR l (.slice ad ks.length c)).toArray 51)))
  have HP := kp (hp_new w (.cells (cellsR l (.slice ad ks.length c)).toArray 51))
  have HZ := kp (sizeR l (.slice ad ks.length c) hl)
  clear hs hl
  generalize cellsR l (.slice ad ks.length c) = cr at *
  go_enter Try.func42, Try.ntmps42
  go_wp2_with ((with_reducible show wpList _ _ _ (Oper.mk _ (Op.load 51 _) _ _ _ _ :: _) _ _); (with_reducible refine wpList_load_row rfl 51 _ rfl (w.heap.size) rfl 51 (cr.toArray) (0, 0) _ (HP.out) Try.underlying51 rfl (HZ.out) ?_); simp only [Act.put, List.setIfInBounds_toArray, List.set_cons_zero, List.set_cons_succ])
  refine (HC.out _ HS.out).mono ?_
  rintro e w1 ⟨rfl, hx⟩
  have HX := kp ((Ext.alloc _ _).trans hx)
  clear hx
  rcases checkRingF_cases l ks with h | h
  · have HF := kp (show atF l ks slot = 8 by simp [atF, h])
    rw [h]
    clear h
    go_wp2_with fail
    go_ret
    exact ⟨by rw [HF.out]; rfl, HX.out⟩
  · rw [h]
    by_cases h1 : slot < 0
    · have HF := kp (show atF l ks slot = 2 by simp [atF, h, h1])
      clear h
      go_wp2_with fail
      go_ret
      exact ⟨by rw [HF.out]; rfl, HX.out⟩
    by_cases h2 : 3 < slot
    · have HF := kp (show atF l ks slot = 2 by simp [atF, h, h2])
      clear h
      go_wp2_with fail
      go_ret
      exact ⟨by rw [HF.out]; rfl, HX.out⟩
    · have HF := kp (show atF l ks slot = 0 by simp [atF, h, h1, h2])
      clear h
      go_wp2_with fail
      go_ret
      exact ⟨by rw [HF.out]; rfl, HX.out⟩
def setCtr (s : Slot) (a : Int) (m : List Win) : Slot := ⟨s.used, s.key, a, m⟩
theorem ring_set (l : List Slot) (hl : Ring4 l) (k : Nat) (s : Slot) (h : s.Ok) : Ring4 (l.set k s) :=
  ⟨by rw [List.length_set]; exact hl.1, fun q hq => by rcases List.mem_or_eq_of_mem_set hq with hq | rfl; exact hl.2 q hq; exact h⟩
theorem cellsSs_seg : ∀ (l : List Slot), (∀ s ∈ l, s.Ok) → ∀ (k : Nat) (s t : Slot), l[k]? = some s → (cellsSs l).take (k * 36) ++ cellsS t ++ (cellsSs l).drop (k * 36 + 36) = cellsSs (l.set k t)
  | [], _, k, s, t, h => by simp at h
  | q :: l, hl, 0, s, t, h => by
    have h1 := cellsS_len q (hl q (by simp))
    simp [cellsSs, h1]
  | q :: l, hl, k + 1, s, t, h => by
    have h1 := cellsS_len q (hl q (by simp))
    have h2 := cellsSs_seg l (fun r hr => hl r (by simp [hr])) k s t (by simpa using h)
    simp only [List.set_cons_succ, cellsSs, List.flatMap_cons] at h2 ⊢
    rw [← h2, List.take_append, List.drop_append, h1, List.take_of_length_le (by omega), List.drop_of_length_le (by omega), show (k + 1) * 36 - 36 = k * 36 by omega, show (k + 1) * 36 + 36 - 36 = k * 36 + 36 by omega]
    simp
theorem cellsR_seg (l : List Slot) (v : Value) (hl : Ring4 l) (k : Nat) (s t : Slot) (h : l[k]? = some s) : (cellsR l v).take (k * 36) ++ cellsS t ++ (cellsR l v).drop (k * 36 + 36) = cellsR (l.set k t) v := by
  have hk := (List.getElem?_eq_some_iff.1 h).1
  rw [hl.1] at hk
  have h144 := cellsSs_four l hl
  rw [cellsR, cellsR, ← cellsSs_seg l hl.2 k s t h, List.take_append_of_le_length (by rw [h144]; omega), List.drop_append_of_le_length (by rw [h144]; omega)]
  simp
theorem cellsR_ctr (l : List Slot) (v : Value) (hl : Ring4 l) (k : Nat) (s : Slot) (a : Int) (m : List Win) (hm : m.length = 9) (h : l[k]? = some s) : (cellsR l v).take (k * 36 + 17) ++ cellsC a m ++ (cellsR l v).drop (k * 36 + 17 + (cellsC a m).length) = cellsR (l.set k (setCtr s a m)) v := by
  have hk := (List.getElem?_eq_some_iff.1 h).1
  have hs := hl.2 s (List.mem_of_getElem? h)
  have hlen := cellsR_len l v hl
  rw [hl.1] at hk
  rw [← cellsR_seg l v hl k s (setCtr s a m) h]
  have e : (cellsR l v).take (k * 36 + 17) = (cellsR l v).take (k * 36) ++ (Value.bool s.used :: s.key.map V8) := by
    have h36 := cellsR_slots l v k s hl h
    have h17 : ((cellsR l v).drop (k * 36)).take 17 = (cellsS s).take 17 := by rw [← h36, List.take_take]; rfl
    rw [List.take_add, h17]
    congr 1
    simp [cellsS, hs.1]
  rw [e, cellsC_len, hm]
  simp [setCtr, cellsS]
theorem sizePast : (Try.prog.info? 49).map (·.size) = some 1 := by kernel_rfl
abbrev nilV : Value := .slice none 0 0
abbrev zeroR : List Value := cellsR zeroSs nilV
theorem slot_oneP {b : Nat} {w : World} {u : Value} {ks : Keys16} (h : PastV b w u ks) : u.oneCell' = true := by obtain ⟨_, _, _, rfl, _⟩ := h; rfl
set_option maxHeartbeats 1600000 in
theorem with_any (l : List Slot) (hl : Ring4 l) (v : Value) (ks : Keys16) (b : Nat) (hn2 : ks.length ≤ 1000) (k : Nat) (s : Slot) (hk : l[k]? = some s) (a : Int) (m : List Win) (hm : m.length = 9) (w : World) (hs : PastV b w v ks) :
    Calls Try.prog 46 #[.agg (cellsR l v).toArray, .int .i64 k, .agg (cellsC a m).toArray] w fun e w' => ∃ u, e = .returned (.agg (cellsR (l.set k (setCtr s a m)) u).toArray) ∧ w'.ownsRow w.heap.size 45 16 u ks.length (flatK ks) ∧ Ext w w' := by
  have HT := kp (fun w' (h : PastV b w' v ks) => twin_any l hl v ks hn2 w' h.sly)
  have HZ := kp (fun u => sizeR l u hl)
  have hrs : Ring4 (l.set k (setCtr s a m)) := ring_set l hl k _ ⟨(hl.2 s (List.mem_of_getElem? hk)).1, hm⟩
  have HZ2 := kp (fun u => sizeR (l.set k (setCtr s a m)) u hrs)
  have HEQ := kp (fun u => show (cellsR l v).toArray.size = (cellsR l u).toArray.size by rw [List.size_toArray, List.size_toArray, cellsR_len l u hl, cellsR_len l v hl])
  have HEQ2 := kp (fun u => show zeroR.toArray.size = (cellsR (l.set k (setCtr s a m)) u).toArray.size by rw [List.size_toArray, List.size_toArray, cellsR_len _ u hrs]; rfl)
  have HO := kp (fun u (h : u.oneCell' = true) => one_cellsR l u h)
  have HO2 := kp (fun u (h : u.oneCell' = true) => one_cellsR (l.set k (setCtr s a m)) u h)
  have HSG := kp (fun u => congrArg List.toArray (cellsR_ctr l u hl k s a m hm hk))
  have HFT := kp (fun u => show k * 36 + 17 + (cellsC a m).toArray.size ≤ (cellsR l u).toArray.size by
    have := (List.getElem?_eq_some_iff.1 hk).1
    rw [hl.1] at this
    rw [List.size_toArray, List.size_toArray, cellsR_len l u hl, cellsC_len, hm]; omega)
  have HZC := kp (sizeC a m hm)
  have HOC := kp (all_cellsC a m)
  have HS := kp hs
  have hk4 : (k : Int) < 4 := by
    have := (List.getElem?_eq_some_iff.1 hk).1
    rw [hl.1] at this; omega
  clear hs hl hk hm hrs
  generalize hcm : cellsC a m = cm at *
  go_enter Try.func46, Try.ntmps46
  generalize h2 : (Code.region 2 _ _ : Code) = R2
  generalize h3 : (Code.region 3 _ _ : Code) = R3
  go_wp2_with (first | ((with_reducible show wpList _ _ _ (Oper.mk _ (Op.alloc 51) _ _ _ _ :: _) _ _); (with_reducible refine wpList_alZ rfl 51 rfl (zeroR) (fun _ _ => by kernel_rfl) ?_); simp only [Act.put, List.setIfInBounds_toArray, List.set_cons_zero, List.set_cons_succ, World.size_alloc]) | ((with_reducible show wpList _ _ _ (Oper.mk _ (Op.load 51 _) _ _ _ _ :: _) _ _); (with_reducible refine wpList_load_row rfl 51 _ rfl (w.heap.size) rfl 51 ((cellsR l v).toArray) (0, 0) _ (hp_alloc (hp_alloc (hp_new _ _))) Try.underlying51 rfl (HZ.out _) ?_); simp only [Act.put, List.setIfInBounds_toArray, List.set_cons_zero, List.set_cons_succ]))
  refine (HT.out _ (HS.out.ext (((Ext.alloc _ _).trans (Ext.alloc _ _)).trans (Ext.alloc _ _)))).mono ?_
  rintro e w1 ⟨u, rfl, ho, hx⟩
  have HG := kp (show Lc w1 w.heap.size 51 (cellsR l v) from ext_heap hx (hp_alloc (hp_alloc (hp_new _ _))))
  have HC := kp (show Lc w1 (w.heap.size + 1) 29 cm from ext_heap hx (hp_alloc (hp_at _ _ _ (by simp))))
  have HR := kp (show Lc w1 (w.heap.size + 1 + 1) 51 zeroR from ext_heap hx (hp_at _ _ _ (by simp)))
  have HX := kp (show Ext w w1 from (((Ext.alloc _ _).trans (Ext.alloc _ _)).trans (Ext.alloc _ _)).trans hx)
  have HOW := kp (show w1.ownsRow (w.heap.size + 3) 45 16 u ks.length (flatK ks) by simpa using ho)
  have HU := kp (slot_oneP (PastV.of_owns HS.out.sly.1 HOW.out))
  clear hx ho
  go_wp2_with ((with_reducible show wpList _ _ _ (Oper.mk none (Op.store 51 _ _) _ _ _ _ :: _) _ _); with_reducible refine wpList_st_row rfl rfl 51 _ _ rfl (w.heap.size) ((cellsR l u).toArray) rfl rfl 51 (_) (HG.out) (HZ.out _) (HEQ.out _) (HO.out _ HU.out) rfl ?_)
  have HG2 := kp (HG.out.set (cellsR l u))
  have HC2 := kp (HC.out.other (show w.heap.size + 1 ≠ w.heap.size by omega) (cellsR l u).toArray)
  have HR2 := kp (HR.out.other (show w.heap.size + 1 + 1 ≠ w.heap.size by omega) (cellsR l u).toArray)
  have HX2 := kp (ext_setRow (cs := (cellsR l u).toArray) HX.out (Nat.le_refl _))
  have HOW2 := kp (owns_setRowS (cellsR l u).toArray HOW.out (show w.heap.size < _ by omega))
  clear HG HC HR HX HOW HT HS
  generalize w1.setRow w.heap.size (cellsR l u).toArray = w2 at *
  subst h2
  go_wp2_with (first | ((with_reducible show wpList _ _ _ (Oper.mk _ (Op.load 29 _) _ _ _ _ :: _) _ _); (with_reducible refine wpList_load_row rfl 29 _ rfl (w.heap.size + 1) rfl 29 (cm.toArray) (0, 0) _ (HC2.out) Try.underlying29 rfl (HZC.out) ?_); simp only [Act.put, List.setIfInBounds_toArray, List.set_cons_zero, List.set_cons_succ]) | ((with_reducible show wpList _ _ _ (Oper.mk none (Op.store 29 _ _) _ _ _ _ :: _) _ _); refine wpList_st_seg rfl rfl 29 _ _ rfl (w.heap.size) (k * 36 + 17) (cm).toArray rfl rfl _ (cellsR l u).toArray (HG2.out) (HZC.out) (HFT.out _) (HOC.out) (cellsR (l.set k (setCtr s a m)) u).toArray (HSG.out _) rfl ?_))
  have HG3 := kp (HG2.out.set (cellsR (l.set k (setCtr s a m)) u))
  have HR3 := kp (HR2.out.other (show w.heap.size + 1 + 1 ≠ w.heap.size by omega) (cellsR (l.set k (setCtr s a m)) u).toArray)
  have HX3 := kp (ext_setRow (cs := (cellsR (l.set k (setCtr s a m)) u).toArray) HX2.out (Nat.le_refl _))
  have HOW3 := kp (owns_setRowS (cellsR (l.set k (setCtr s a m)) u).toArray HOW2.out (show w.heap.size < _ by omega))
  clear HG2 HC2 HR2 HX2 HOW2
  generalize w2.setRow w.heap.size (cellsR (l.set k (setCtr s a m)) u).toArray = w3 at *
  subst h3
  go_wp2_with (first | ((with_reducible show wpList _ _ _ (Oper.mk _ (Op.load 51 _) _ _ _ _ :: _) _ _); (with_reducible refine wpList_load_row rfl 51 _ rfl (w.heap.size) rfl 51 ((cellsR (l.set k (setCtr s a m)) u).toArray) (0, 0) _ (HG3.out) Try.underlying51 rfl (HZ2.out _) ?_); simp only [Act.put, List.setIfInBounds_toArray, List.set_cons_zero, List.set_cons_succ]) | ((with_reducible show wpList _ _ _ (Oper.mk none (Op.store 51 _ _) _ _ _ _ :: _) _ _); with_reducible refine wpList_st_row rfl rfl 51 _ _ rfl (w.heap.size + 1 + 1) ((cellsR (l.set k (setCtr s a m)) u).toArray) rfl rfl 51 (_) (HR3.out) (HZ2.out _) (HEQ2.out _) (HO2.out _ HU.out) rfl ?_))
  exact ret_row Try.results46 (w.heap.size + 1 + 1) 51 ((cellsR (l.set k (setCtr s a m)) u).toArray) (0, 0) _ rfl (HR3.out.set _) Try.underlying51 rfl (HZ2.out _) rfl ⟨_, rfl, owns_baseS (owns_setRowS _ HOW3.out (show w.heap.size + 1 + 1 < _ by omega)) (by omega), ext_setRow HX3.out (by omega)⟩
end Go.Proofs.Ytjnaegpjhbobaaa
