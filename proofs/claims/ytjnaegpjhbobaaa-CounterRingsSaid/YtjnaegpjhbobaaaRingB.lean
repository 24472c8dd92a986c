/- Install's closure, slices.ContainsFunc over slots. -/
import Derived.Test.YtjnaegpjhbobaaaRing
import Derived.Test.YtjnaegpjhbobaaaSlT
namespace Go.Proofs.Ytjnaegpjhbobaaa
open Go.RowKit
def heldB (s : Slot) (k : List (BitVec 8)) : Bool := s.used && s.key == k
theorem range_key {w : World} {g : Nat} {s : Slot} {t : TypeId} (h : w.heap[g]? = some (.cells (cellsS s).toArray t (0, 0))) : w.rangeAt g 1 (s.key.map V8) := fun j v hv => by
  have hj := (List.getElem?_eq_some_iff.1 hv).1
  rw [cell_of_row w g _ _ t (0, 0) h]
  rw [List.getElem?_toArray, cellsS, show 1 + j = j + 1 by omega, List.getElem?_cons_succ, List.getElem?_append_left hj]; exact hv
set_option maxHeartbeats 1600000 in
theorem held_any (s : Slot) (hs : s.Ok) (k : List (BitVec 8)) (hk : k.length = 16) (g : Nat) (w : World) (hg : w.heap[g]? = some (.cells (k.map V8).toArray 45 (0, 0))) :
    Calls Try.prog 43 #[.agg (cellsS s).toArray, .pointer (some ⟨g, 0, none⟩)] w fun e w' => e = .returned (.bool (heldB s k)) ∧ Ext w w' := by
  have hc0 : (cellsS s)[0]? = some (.bool s.used) := rfl
  have HE := kp (show heldB s k = (s.used && s.key == k) from rfl)
  have HR := kp (range_key (hp_new w (.cells (cellsS s).toArray 47)))
  have HQ := kp (sizeKl s.key hs.1)
  have HK := kp (sizeKy k hk)
  have HG := kp (hp_alloc (o' := .cells (cellsS s).toArray 47) hg)
  have heq := fun w => eqKey w s.key k hs.1 hk
  generalize cellsS s = cs at *
  generalize heldB s k = hd at *
  generalize s.key = q at *
  generalize s.used = us at *
  generalize (q == k) = bq at *
  clear hs hk hg
  cases us
  case false =>
    go_enter Try.func43, Try.ntmps43
    go_wp2_with fail
    go_ret
    exact ⟨by rw [HE.out]; rfl, Ext.alloc _ _⟩
  case true =>
    go_enter Try.func43, Try.ntmps43
    go_wp2_with (first | ((with_reducible show wpList _ _ _ (Oper.mk _ (Op.load 45 _) _ _ _ _ :: _) _ _); (with_reducible refine wpList_load_midG (by kernel_rfl) 45 _ rfl (w.heap.size) (1) rfl (q.map V8) _ (HR.out) Try.underlying45 rfl (HQ.out) ?_); simp only [Act.put, List.setIfInBounds_toArray, List.set_cons_zero, List.set_cons_succ]) | ((with_reducible show wpList _ _ _ (Oper.mk _ (Op.load 45 _) _ _ _ _ :: _) _ _); (with_reducible refine wpList_load_rowG (by kernel_rfl) 45 _ rfl (g) rfl 45 ((k.map V8).toArray) (0, 0) _ (HG.out) Try.underlying45 rfl (HK.out) ?_); simp only [Act.put, List.setIfInBounds_toArray, List.set_cons_zero, List.set_cons_succ]))
    go_ret
    exact ⟨by rw [HE.out]; rfl, Ext.alloc _ _⟩
theorem size47 : (Try.prog.info? 47).map (·.size) = some 36 := by kernel_rfl
theorem sizeSl (s : Slot) (h : s.Ok) : (Try.prog.info? 47).map (·.size) = some (cellsS s).length := by rw [size47, cellsS_len s h]
def heldIn (l : List Slot) (k : List (BitVec 8)) : Bool := l.any fun s => heldB s k
theorem heldIn_take (l : List Slot) (j : Nat) (s : Slot) (k : List (BitVec 8)) (h : l[j]? = some s) (h0 : heldIn (l.take j) k = false) (h1 : heldB s k = false) : heldIn (l.take (j + 1)) k = false := by
  unfold heldIn at h0 ⊢; rw [List.take_add_one, h, Option.toList_some, List.any_append, h0]; simp [h1]
set_option maxHeartbeats 1600000 in
theorem indexHeld_any (b o c n : Nat) (l : List Slot) (hn : n = l.length) (hok : ∀ s ∈ l, s.Ok) (hl : n ≤ 1000) (k : List (BitVec 8)) (hk : k.length = 16) (g : Nat) (w : World) (hg : w.heap[g]? = some (.cells (k.map V8).toArray 45 (0, 0))) (hb : b < w.heap.size)
    (hc : ∀ (j : Nat) s, l[j]? = some s → w.rangeAt b (o + j * 36) (cellsS s)) :
    Calls Try.prog 56 #[.slice (some ⟨b, o, none⟩) n c, .func (.func 43) #[] #[.pointer (some ⟨g, 0, none⟩)]] w (RetIdx (heldIn l k) w) := by
  have HC := kp hc
  have HN := kp hn
  have HB := kp hb
  have HD := kp (fun s hs w' hg' => held_any s hs k hk g w' hg')
  have HG := kp hg
  have HOK := kp hok
  clear hc hn hb hg hk hok
  go_enter Try.func56, Try.ntmps56
  go_wp2_with fail
  go_loopw [8] (fun i wr => ∃ (j : Nat), j ≤ n ∧ i = .int .i64 j ∧ Kp (heldIn (l.take j) k = false) ∧ Kp (Ext w wr)) (fun i _ => n - (intOf i).toNat)
  case atStart => exact ⟨0, by omega, rfl, kp rfl, kp (Ext.refl _)⟩
  case round =>
    obtain ⟨j, hj, rfl, HT, HX⟩ := hrel
    by_cases hlt : j < n
    · obtain ⟨s, hs⟩ : ∃ s, l[j]? = some s := ⟨l[j]'(by rw [← HN.out]; omega), by simp⟩
      have HR := kp (rangeAt_ext (HC.out j s hs) HB.out HX.out)
      have HZ := kp (sizeSl s (HOK.out s (List.mem_of_getElem? hs)))
      have HDD := kp (HD.out s (HOK.out s (List.mem_of_getElem? hs)) wr (ext_heap HX.out HG.out))
      have HY := kp hs
      clear hs
      go_wp2_with ((with_reducible show wpList _ _ _ (Oper.mk _ (Op.load 47 _) _ _ _ _ :: _) _ _); (with_reducible refine wpList_load_mid rfl 47 _ rfl (b) (o + j * 36) rfl (cellsS s) _ (HR.out) Try.underlying47 rfl (HZ.out) ?_); simp only [Act.put, List.setIfInBounds_toArray, List.set_cons_zero, List.set_cons_succ])
      refine HDD.out.mono ?_
      rintro e w' ⟨rfl, hx⟩
      have HX2 := kp (HX.out.trans hx)
      clear hx
      cases hh : heldB s k with
      | false =>
        have HO := kp (heldIn_take l j s k HY.out HT.out hh)
        clear hh
        go_wp2_with fail
        go_roundw
        case rel => exact ⟨j + 1, by omega, by go_num, HO, HX2⟩
        case measure => simp [intOf]; omega
      | true =>
        have HO := kp (show heldIn l k = true by unfold heldIn; rw [List.any_eq_true]; exact ⟨s, List.mem_of_getElem? HY.out, hh⟩)
        clear hh
        go_wp2_with fail
        go_ret
        exact ⟨(j : Int), rfl, by rw [HO.out]; simp, HX2.out⟩
    · obtain rfl : j = n := by omega
      have HO := kp (show heldIn l k = false by
        have h := HT.out
        rwa [List.take_of_length_le (by rw [HN.out]; exact Nat.le_refl _)] at h)
      go_wp2_with fail
      go_ret
      exact ⟨-1, rfl, by rw [HO.out]; rfl, HX.out⟩
set_option maxHeartbeats 800000 in
theorem containsHeld_any (b o c n : Nat) (l : List Slot) (hn : n = l.length) (hok : ∀ s ∈ l, s.Ok) (hl : n ≤ 1000) (k : List (BitVec 8)) (hk : k.length = 16) (g : Nat) (w : World) (hg : w.heap[g]? = some (.cells (k.map V8).toArray 45 (0, 0))) (hb : b < w.heap.size)
    (hc : ∀ (j : Nat) s, l[j]? = some s → w.rangeAt b (o + j * 36) (cellsS s)) :
    Calls Try.prog 45 #[.slice (some ⟨b, o, none⟩) n c, .func (.func 43) #[] #[.pointer (some ⟨g, 0, none⟩)]] w fun e w' => e = .returned (.bool (heldIn l k)) ∧ Ext w w' := by
  have HI := kp (indexHeld_any b o c n l hn hok hl k hk g w hg hb hc)
  clear hc hn hb hg hk hok hl
  go_enter Try.func45, Try.ntmps45
  go_wp2_with fail
  refine HI.out.mono ?_
  rintro e w' ⟨r, rfl, hr, hx⟩
  have HR := kp hr
  have HX := kp hx
  clear hr hx
  go_wp2_with fail
  go_ret
  exact ⟨by rw [← HR.out]; rfl, HX.out⟩
end Go.Proofs.Ytjnaegpjhbobaaa
