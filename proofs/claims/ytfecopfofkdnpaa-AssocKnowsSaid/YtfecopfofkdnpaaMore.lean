/- 'w.more x': the world w with further blocks behind its own and another count of draws. What a call leaves that writes nothing that was there. -/
import Derived.Test.YtfecopfofkdnpaaBase
import Derived.Deep.QuietTactic
import Derived.Laws.Rows
import Derived.Deep.MidRow
namespace Go.Proofs.Ytfecopfofkdnpaa
open Go.RowKit

/-- Further blocks, and a count of draws. -/
structure Xtra where
  blocks : Array Obj
  draws : Nat
instance : Inhabited Xtra := ⟨⟨#[], 0⟩⟩
/-- w, behind whose blocks the blocks of x lie, its count of draws set to that of x. -/
def more (w : World) (x : Xtra) : World := { w with heap := w.heap ++ x.blocks, drawn := x.draws }

section
variable (w : World) (x y : Xtra)
theorem more_size : (more w x).heap.size = w.heap.size + x.blocks.size := by simp [more]
theorem more_heap (n : Nat) (h : n < w.heap.size) : (more w x).heap[n]? = w.heap[n]? := by
  simp [more, Array.getElem?_append_left h]
theorem more_cell (n i : Nat) (h : n < w.heap.size) : (more w x).cell? ⟨n, i, none⟩ = w.cell? ⟨n, i, none⟩ :=
  World.cell?_of_block (w := w) (more_heap w x n h)
theorem more_frozen (n i : Nat) (h : n < w.heap.size) : (more w x).frozen? ⟨n, i, none⟩ = w.frozen? ⟨n, i, none⟩ :=
  World.frozen?_of_block (w := w) (more_heap w x n h)
theorem more_setCell (n i : Nat) (v : Value) (h : n < w.heap.size) : (more w x).setCell ⟨n, i, none⟩ v = more (w.setCell ⟨n, i, none⟩ v) x := by
  unfold more World.setCell
  congr 1
  refine Array.ext_getElem? fun j => ?_
  by_cases hj : j < w.heap.size
  · rw [Array.getElem?_append_left (by simpa using hj)]
    simp only [Array.getElem?_modify]
    rw [Array.getElem?_append_left hj]
  · rw [Array.getElem?_append_right (by simpa using hj)]
    simp only [Array.getElem?_modify, Array.size_modify]
    rw [if_neg (by omega), Array.getElem?_append_right (by omega)]
theorem more_more : more (more w x) y = more w ⟨x.blocks ++ y.blocks, y.draws⟩ := by simp [more, Array.append_assoc]
theorem more_drew : (more w x).drew = more w ⟨x.blocks, x.draws + 1⟩ := rfl
theorem more_drewN (n : Nat) : (more w x).drewN n = more w ⟨x.blocks, x.draws + n⟩ := rfl
theorem drew_more : w.drew = more w ⟨#[], w.drawn + 1⟩ := by
  show World.mk w.heap w.tape (w.drawn + 1) w.os w.output = World.mk (w.heap ++ #[]) w.tape (w.drawn + 1) w.os w.output
  rw [Array.append_empty]
theorem drewN_more (n : Nat) : w.drewN n = more w ⟨#[], w.drawn + n⟩ := by
  show World.mk w.heap w.tape (w.drawn + n) w.os w.output = World.mk (w.heap ++ #[]) w.tape (w.drawn + n) w.os w.output
  rw [Array.append_empty]
theorem more_self : w = more w ⟨#[], w.drawn⟩ := by simp [more]
theorem alloc_more (o : Obj) : w.alloc o = more w ⟨#[o], w.drawn⟩ := by
  show World.mk (w.heap.push o) w.tape w.drawn w.os w.output = World.mk (w.heap ++ #[o]) w.tape w.drawn w.os w.output
  rw [Array.push_eq_append]
theorem more_tape : (more w x).tape = w.tape := rfl
theorem more_os : (more w x).os = w.os := rfl
theorem more_output : (more w x).output = w.output := rfl
end
attribute [simp] more_size
attribute [go_sem] more_size more_cell more_frozen more_setCell more_more more_drew more_drewN more_tape more_heap

theorem ar_lt_0_1 (n b : Nat) : n < n + 1 + b := by omega
theorem ar_le_0_1 (n b : Nat) : n ≤ n + 1 + b := by omega
theorem ar_le_1_1 (n b : Nat) : n + 1 ≤ n + 1 + b := by omega
theorem ar_lt_0_2 (n b : Nat) : n < n + 1 + 1 + b := by omega
theorem ar_lt_1_2 (n b : Nat) : n + 1 < n + 1 + 1 + b := by omega
theorem ar_le_0_2 (n b : Nat) : n ≤ n + 1 + 1 + b := by omega
theorem ar_le_1_2 (n b : Nat) : n + 1 ≤ n + 1 + 1 + b := by omega
theorem ar_le_2_2 (n b : Nat) : n + 1 + 1 ≤ n + 1 + 1 + b := by omega
theorem ar_lt_0_3 (n b : Nat) : n < n + 1 + 1 + 1 + b := by omega
theorem ar_lt_1_3 (n b : Nat) : n + 1 < n + 1 + 1 + 1 + b := by omega
theorem ar_lt_2_3 (n b : Nat) : n + 1 + 1 < n + 1 + 1 + 1 + b := by omega
theorem ar_le_0_3 (n b : Nat) : n ≤ n + 1 + 1 + 1 + b := by omega
theorem ar_le_1_3 (n b : Nat) : n + 1 ≤ n + 1 + 1 + 1 + b := by omega
theorem ar_le_2_3 (n b : Nat) : n + 1 + 1 ≤ n + 1 + 1 + 1 + b := by omega
theorem ar_le_3_3 (n b : Nat) : n + 1 + 1 + 1 ≤ n + 1 + 1 + 1 + b := by omega
theorem ar_lt_0_4 (n b : Nat) : n < n + 1 + 1 + 1 + 1 + b := by omega
theorem ar_lt_1_4 (n b : Nat) : n + 1 < n + 1 + 1 + 1 + 1 + b := by omega
theorem ar_lt_2_4 (n b : Nat) : n + 1 + 1 < n + 1 + 1 + 1 + 1 + b := by omega
theorem ar_lt_3_4 (n b : Nat) : n + 1 + 1 + 1 < n + 1 + 1 + 1 + 1 + b := by omega
theorem ar_le_0_4 (n b : Nat) : n ≤ n + 1 + 1 + 1 + 1 + b := by omega
theorem ar_le_1_4 (n b : Nat) : n + 1 ≤ n + 1 + 1 + 1 + 1 + b := by omega
theorem ar_le_2_4 (n b : Nat) : n + 1 + 1 ≤ n + 1 + 1 + 1 + 1 + b := by omega
theorem ar_le_3_4 (n b : Nat) : n + 1 + 1 + 1 ≤ n + 1 + 1 + 1 + 1 + b := by omega
theorem ar_le_4_4 (n b : Nat) : n + 1 + 1 + 1 + 1 ≤ n + 1 + 1 + 1 + 1 + b := by omega
theorem ar_lt_0_5 (n b : Nat) : n < n + 1 + 1 + 1 + 1 + 1 + b := by omega
theorem ar_lt_1_5 (n b : Nat) : n + 1 < n + 1 + 1 + 1 + 1 + 1 + b := by omega
theorem ar_lt_2_5 (n b : Nat) : n + 1 + 1 < n + 1 + 1 + 1 + 1 + 1 + b := by omega
theorem ar_lt_3_5 (n b : Nat) : n + 1 + 1 + 1 < n + 1 + 1 + 1 + 1 + 1 + b := by omega
theorem ar_lt_4_5 (n b : Nat) : n + 1 + 1 + 1 + 1 < n + 1 + 1 + 1 + 1 + 1 + b := by omega
theorem ar_le_0_5 (n b : Nat) : n ≤ n + 1 + 1 + 1 + 1 + 1 + b := by omega
theorem ar_le_1_5 (n b : Nat) : n + 1 ≤ n + 1 + 1 + 1 + 1 + 1 + b := by omega
theorem ar_le_2_5 (n b : Nat) : n + 1 + 1 ≤ n + 1 + 1 + 1 + 1 + 1 + b := by omega
theorem ar_le_3_5 (n b : Nat) : n + 1 + 1 + 1 ≤ n + 1 + 1 + 1 + 1 + 1 + b := by omega
theorem ar_le_4_5 (n b : Nat) : n + 1 + 1 + 1 + 1 ≤ n + 1 + 1 + 1 + 1 + 1 + b := by omega
theorem ar_le_5_5 (n b : Nat) : n + 1 + 1 + 1 + 1 + 1 ≤ n + 1 + 1 + 1 + 1 + 1 + b := by omega
theorem ar_lt_0_6 (n b : Nat) : n < n + 1 + 1 + 1 + 1 + 1 + 1 + b := by omega
theorem ar_lt_1_6 (n b : Nat) : n + 1 < n + 1 + 1 + 1 + 1 + 1 + 1 + b := by omega
theorem ar_lt_2_6 (n b : Nat) : n + 1 + 1 < n + 1 + 1 + 1 + 1 + 1 + 1 + b := by omega
theorem ar_lt_3_6 (n b : Nat) : n + 1 + 1 + 1 < n + 1 + 1 + 1 + 1 + 1 + 1 + b := by omega
theorem ar_lt_4_6 (n b : Nat) : n + 1 + 1 + 1 + 1 < n + 1 + 1 + 1 + 1 + 1 + 1 + b := by omega
theorem ar_lt_5_6 (n b : Nat) : n + 1 + 1 + 1 + 1 + 1 < n + 1 + 1 + 1 + 1 + 1 + 1 + b := by omega
theorem ar_le_0_6 (n b : Nat) : n ≤ n + 1 + 1 + 1 + 1 + 1 + 1 + b := by omega
theorem ar_le_1_6 (n b : Nat) : n + 1 ≤ n + 1 + 1 + 1 + 1 + 1 + 1 + b := by omega
theorem ar_le_2_6 (n b : Nat) : n + 1 + 1 ≤ n + 1 + 1 + 1 + 1 + 1 + 1 + b := by omega
theorem ar_le_3_6 (n b : Nat) : n + 1 + 1 + 1 ≤ n + 1 + 1 + 1 + 1 + 1 + 1 + b := by omega
theorem ar_le_4_6 (n b : Nat) : n + 1 + 1 + 1 + 1 ≤ n + 1 + 1 + 1 + 1 + 1 + 1 + b := by omega
theorem ar_le_5_6 (n b : Nat) : n + 1 + 1 + 1 + 1 + 1 ≤ n + 1 + 1 + 1 + 1 + 1 + 1 + b := by omega
theorem ar_le_6_6 (n b : Nat) : n + 1 + 1 + 1 + 1 + 1 + 1 ≤ n + 1 + 1 + 1 + 1 + 1 + 1 + b := by omega
theorem ar_lt_0_1_1 (n b c : Nat) : n < n + 1 + b + 1 + c := by omega
theorem ar_lt_0_1_2 (n b c : Nat) : n < n + 1 + b + 1 + 1 + c := by omega
theorem ar_lt_0_1_3 (n b c : Nat) : n < n + 1 + b + 1 + 1 + 1 + c := by omega
theorem ar_lt_0_2_1 (n b c : Nat) : n < n + 1 + 1 + b + 1 + c := by omega
theorem ar_lt_1_2_1 (n b c : Nat) : n + 1 < n + 1 + 1 + b + 1 + c := by omega
theorem ar_lt_0_2_2 (n b c : Nat) : n < n + 1 + 1 + b + 1 + 1 + c := by omega
theorem ar_lt_1_2_2 (n b c : Nat) : n + 1 < n + 1 + 1 + b + 1 + 1 + c := by omega
theorem ar_lt_0_2_3 (n b c : Nat) : n < n + 1 + 1 + b + 1 + 1 + 1 + c := by omega
theorem ar_lt_1_2_3 (n b c : Nat) : n + 1 < n + 1 + 1 + b + 1 + 1 + 1 + c := by omega
theorem ar_lt_0_3_1 (n b c : Nat) : n < n + 1 + 1 + 1 + b + 1 + c := by omega
theorem ar_lt_1_3_1 (n b c : Nat) : n + 1 < n + 1 + 1 + 1 + b + 1 + c := by omega
theorem ar_lt_2_3_1 (n b c : Nat) : n + 1 + 1 < n + 1 + 1 + 1 + b + 1 + c := by omega
theorem ar_lt_0_3_2 (n b c : Nat) : n < n + 1 + 1 + 1 + b + 1 + 1 + c := by omega
theorem ar_lt_1_3_2 (n b c : Nat) : n + 1 < n + 1 + 1 + 1 + b + 1 + 1 + c := by omega
theorem ar_lt_2_3_2 (n b c : Nat) : n + 1 + 1 < n + 1 + 1 + 1 + b + 1 + 1 + c := by omega
theorem ar_lt_0_3_3 (n b c : Nat) : n < n + 1 + 1 + 1 + b + 1 + 1 + 1 + c := by omega
theorem ar_lt_1_3_3 (n b c : Nat) : n + 1 < n + 1 + 1 + 1 + b + 1 + 1 + 1 + c := by omega
theorem ar_lt_2_3_3 (n b c : Nat) : n + 1 + 1 < n + 1 + 1 + 1 + b + 1 + 1 + 1 + c := by omega
theorem ar_lt_0_4_1 (n b c : Nat) : n < n + 1 + 1 + 1 + 1 + b + 1 + c := by omega
theorem ar_lt_1_4_1 (n b c : Nat) : n + 1 < n + 1 + 1 + 1 + 1 + b + 1 + c := by omega
theorem ar_lt_2_4_1 (n b c : Nat) : n + 1 + 1 < n + 1 + 1 + 1 + 1 + b + 1 + c := by omega
theorem ar_lt_3_4_1 (n b c : Nat) : n + 1 + 1 + 1 < n + 1 + 1 + 1 + 1 + b + 1 + c := by omega
theorem ar_lt_0_4_2 (n b c : Nat) : n < n + 1 + 1 + 1 + 1 + b + 1 + 1 + c := by omega
theorem ar_lt_1_4_2 (n b c : Nat) : n + 1 < n + 1 + 1 + 1 + 1 + b + 1 + 1 + c := by omega
theorem ar_lt_2_4_2 (n b c : Nat) : n + 1 + 1 < n + 1 + 1 + 1 + 1 + b + 1 + 1 + c := by omega
theorem ar_lt_3_4_2 (n b c : Nat) : n + 1 + 1 + 1 < n + 1 + 1 + 1 + 1 + b + 1 + 1 + c := by omega
theorem ar_lt_0_4_3 (n b c : Nat) : n < n + 1 + 1 + 1 + 1 + b + 1 + 1 + 1 + c := by omega
theorem ar_lt_1_4_3 (n b c : Nat) : n + 1 < n + 1 + 1 + 1 + 1 + b + 1 + 1 + 1 + c := by omega
theorem ar_lt_2_4_3 (n b c : Nat) : n + 1 + 1 < n + 1 + 1 + 1 + 1 + b + 1 + 1 + 1 + c := by omega
theorem ar_lt_3_4_3 (n b c : Nat) : n + 1 + 1 + 1 < n + 1 + 1 + 1 + 1 + b + 1 + 1 + 1 + c := by omega
theorem ar_lt_0_5_1 (n b c : Nat) : n < n + 1 + 1 + 1 + 1 + 1 + b + 1 + c := by omega
theorem ar_lt_1_5_1 (n b c : Nat) : n + 1 < n + 1 + 1 + 1 + 1 + 1 + b + 1 + c := by omega
theorem ar_lt_2_5_1 (n b c : Nat) : n + 1 + 1 < n + 1 + 1 + 1 + 1 + 1 + b + 1 + c := by omega
theorem ar_lt_3_5_1 (n b c : Nat) : n + 1 + 1 + 1 < n + 1 + 1 + 1 + 1 + 1 + b + 1 + c := by omega
theorem ar_lt_4_5_1 (n b c : Nat) : n + 1 + 1 + 1 + 1 < n + 1 + 1 + 1 + 1 + 1 + b + 1 + c := by omega
theorem ar_lt_0_5_2 (n b c : Nat) : n < n + 1 + 1 + 1 + 1 + 1 + b + 1 + 1 + c := by omega
theorem ar_lt_1_5_2 (n b c : Nat) : n + 1 < n + 1 + 1 + 1 + 1 + 1 + b + 1 + 1 + c := by omega
theorem ar_lt_2_5_2 (n b c : Nat) : n + 1 + 1 < n + 1 + 1 + 1 + 1 + 1 + b + 1 + 1 + c := by omega
theorem ar_lt_3_5_2 (n b c : Nat) : n + 1 + 1 + 1 < n + 1 + 1 + 1 + 1 + 1 + b + 1 + 1 + c := by omega
theorem ar_lt_4_5_2 (n b c : Nat) : n + 1 + 1 + 1 + 1 < n + 1 + 1 + 1 + 1 + 1 + b + 1 + 1 + c := by omega
theorem ar_lt_0_5_3 (n b c : Nat) : n < n + 1 + 1 + 1 + 1 + 1 + b + 1 + 1 + 1 + c := by omega
theorem ar_lt_1_5_3 (n b c : Nat) : n + 1 < n + 1 + 1 + 1 + 1 + 1 + b + 1 + 1 + 1 + c := by omega
theorem ar_lt_2_5_3 (n b c : Nat) : n + 1 + 1 < n + 1 + 1 + 1 + 1 + 1 + b + 1 + 1 + 1 + c := by omega
theorem ar_lt_3_5_3 (n b c : Nat) : n + 1 + 1 + 1 < n + 1 + 1 + 1 + 1 + 1 + b + 1 + 1 + 1 + c := by omega
theorem ar_lt_4_5_3 (n b c : Nat) : n + 1 + 1 + 1 + 1 < n + 1 + 1 + 1 + 1 + 1 + b + 1 + 1 + 1 + c := by omega
attribute [simp] ar_lt_0_1 ar_le_0_1 ar_le_1_1 ar_lt_0_2 ar_lt_1_2 ar_le_0_2 ar_le_1_2 ar_le_2_2 ar_lt_0_3 ar_lt_1_3 ar_lt_2_3 ar_le_0_3 ar_le_1_3 ar_le_2_3 ar_le_3_3 ar_lt_0_4 ar_lt_1_4 ar_lt_2_4 ar_lt_3_4 ar_le_0_4 ar_le_1_4 ar_le_2_4 ar_le_3_4 ar_le_4_4 ar_lt_0_5 ar_lt_1_5 ar_lt_2_5 ar_lt_3_5 ar_lt_4_5 ar_le_0_5 ar_le_1_5 ar_le_2_5 ar_le_3_5 ar_le_4_5 ar_le_5_5 ar_lt_0_6 ar_lt_1_6 ar_lt_2_6 ar_lt_3_6 ar_lt_4_6 ar_lt_5_6 ar_le_0_6 ar_le_1_6 ar_le_2_6 ar_le_3_6 ar_le_4_6 ar_le_5_6 ar_le_6_6 ar_lt_0_1_1 ar_lt_0_1_2 ar_lt_0_1_3 ar_lt_0_2_1 ar_lt_1_2_1 ar_lt_0_2_2 ar_lt_1_2_2 ar_lt_0_2_3 ar_lt_1_2_3 ar_lt_0_3_1 ar_lt_1_3_1 ar_lt_2_3_1 ar_lt_0_3_2 ar_lt_1_3_2 ar_lt_2_3_2 ar_lt_0_3_3 ar_lt_1_3_3 ar_lt_2_3_3 ar_lt_0_4_1 ar_lt_1_4_1 ar_lt_2_4_1 ar_lt_3_4_1 ar_lt_0_4_2 ar_lt_1_4_2 ar_lt_2_4_2 ar_lt_3_4_2 ar_lt_0_4_3 ar_lt_1_4_3 ar_lt_2_4_3 ar_lt_3_4_3 ar_lt_0_5_1 ar_lt_1_5_1 ar_lt_2_5_1 ar_lt_3_5_1 ar_lt_4_5_1 ar_lt_0_5_2 ar_lt_1_5_2 ar_lt_2_5_2 ar_lt_3_5_2 ar_lt_4_5_2 ar_lt_0_5_3 ar_lt_1_5_3 ar_lt_2_5_3 ar_lt_3_5_3 ar_lt_4_5_3

/-- w' is w with further blocks. -/
def Ext (w w' : World) : Prop := ∃ x, w' = more w x
theorem Ext.refl (w : World) : Ext w w := ⟨_, more_self w⟩
theorem Ext.drew (w : World) : Ext w w.drew := ⟨_, drew_more w⟩
theorem Ext.drewN (w : World) (n : Nat) : Ext w (w.drewN n) := ⟨_, drewN_more w n⟩
theorem Ext.alloc (w : World) (o : Obj) : Ext w (w.alloc o) := ⟨_, alloc_more w o⟩
theorem Ext.more (w : World) (x : Xtra) : Ext w (more w x) := ⟨x, rfl⟩
theorem Ext.trans {a b c : World} (h : Ext a b) (k : Ext b c) : Ext a c := by
  obtain ⟨x, rfl⟩ := h; obtain ⟨y, rfl⟩ := k; exact ⟨_, more_more _ _ _⟩
theorem Ext.below {w w' : World} (h : Ext w w') : Below w.heap.size w w' := by
  obtain ⟨x, rfl⟩ := h
  exact ⟨rfl, rfl, rfl, by rw [more_size]; omega, fun k hk => more_heap w x k hk⟩
theorem Ext.of_below {w w' : World} (h : Below w.heap.size w w') : Ext w w' := by
  refine ⟨⟨w'.heap.extract w.heap.size w'.heap.size, w'.drawn⟩, ?_⟩
  have hh : w'.heap = w.heap ++ w'.heap.extract w.heap.size w'.heap.size := by
    refine Array.ext_getElem? fun j => ?_
    by_cases hj : j < w.heap.size
    · rw [Array.getElem?_append_left hj, h.block j hj]
    · rw [Array.getElem?_append_right (by omega), Array.getElem?_extract]
      split
      · congr 1; omega
      · rw [Array.getElem?_eq_none (by omega)]
  have h1 := h.os
  have h2 := h.tape
  have h3 := h.output
  clear h
  obtain ⟨H, T, D, O, U⟩ := w'
  obtain ⟨H', T', D', O', U'⟩ := w
  dsimp only at h1 h2 h3 hh
  subst h1 h2 h3
  show World.mk H _ D _ _ = World.mk (H' ++ H.extract H'.size H.size) _ D _ _
  rw [← hh]

end Go.Proofs.Ytfecopfofkdnpaa
