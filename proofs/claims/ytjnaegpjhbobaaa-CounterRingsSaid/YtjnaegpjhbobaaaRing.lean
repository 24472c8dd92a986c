/- Rings: their cells; hotspotref24.Great, counter.Twin. -/
import Derived.Test.YtjnaegpjhbobaaaKeysB
namespace Go.Proofs.Ytjnaegpjhbobaaa
open Go.RowKit

structure Slot where
  used : Bool
  key : List (BitVec 8)
  last : Int
  wins : List Win
def Slot.Ok (s : Slot) : Prop := s.key.length = 16 ∧ s.wins.length = 9
def cellsS (s : Slot) : List Value := .bool s.used :: (s.key.map V8 ++ cellsC s.last s.wins)
def cellsSs (l : List Slot) : List Value := l.flatMap cellsS
def cellsR (l : List Slot) (v : Value) : List Value := cellsSs l ++ [v]
theorem cellsS_len (s : Slot) (h : s.Ok) : (cellsS s).length = 36 := by
  simp only [cellsS, List.length_cons, List.length_append, List.length_map, cellsC_len, h.1, h.2]
theorem cellsSs_len : ∀ (l : List Slot), (∀ s ∈ l, s.Ok) → (cellsSs l).length = l.length * 36
  | [], _ => rfl
  | s :: l, h => by
    have h1 := cellsSs_len l (fun q hq => h q (by simp [hq]))
    have h2 := cellsS_len s (h s (by simp))
    simp only [cellsSs, List.flatMap_cons, List.length_append, List.length_cons] at h1 ⊢
    omega
/-- A ring of 4 slots. -/
def Ring4 (l : List Slot) : Prop := l.length = 4 ∧ ∀ s ∈ l, s.Ok
theorem cellsSs_four (l : List Slot) (h : Ring4 l) : (cellsSs l).length = 144 := by rw [cellsSs_len l h.2, h.1]
theorem cellsR_len (l : List Slot) (v : Value) (h : Ring4 l) : (cellsR l v).length = 145 := by rw [cellsR, List.length_append, cellsSs_four l h]; rfl
theorem cellsR_past (l : List Slot) (v : Value) (h : Ring4 l) : (cellsR l v)[144]? = some v := by
  rw [cellsR, List.getElem?_append_right (by rw [cellsSs_four l h]; exact Nat.le_refl _), cellsSs_four l h]; rfl
theorem cellsR_set (l : List Slot) (v u : Value) (h : Ring4 l) : (cellsR l v).set 144 u = cellsR l u := by
  rw [cellsR, List.set_append_right _ _ (by rw [cellsSs_four l h]; exact Nat.le_refl _), cellsSs_four l h]; rfl
theorem one_cellsC (a : Int) (l : List Win) : ∀ v ∈ cellsC a l, v.oneCell' = true := by
  intro v hv
  have h := Array.all_eq_true_iff_forall_mem.1 (all_cellsC a l) v (by simpa using hv)
  exact h
theorem one_cellsS (s : Slot) : ∀ v ∈ cellsS s, v.oneCell' = true := by
  intro v hv
  simp only [cellsS, List.mem_cons, List.mem_append] at hv
  rcases hv with rfl | hv | hv
  · rfl
  · exact mem_V8 _ v hv
  · exact one_cellsC _ _ v hv
theorem one_cellsR (l : List Slot) (v : Value) (hv : v.oneCell' = true) : ((cellsR l v).toArray.all (·.oneCell')) = true := by
  refine all_oneCell_toArray fun u hu => ?_
  simp only [cellsR, cellsSs, List.mem_append, List.mem_flatMap, List.mem_singleton] at hu
  rcases hu with ⟨s, _, hu⟩ | rfl
  · exact one_cellsS s u hu
  · exact hv
theorem size51 : (Try.prog.info? 51).map (·.size) = some 145 := by kernel_rfl
theorem sizeR (l : List Slot) (v : Value) (h : Ring4 l) : (Try.prog.info? 51).map (·.size) = some (cellsR l v).toArray.size := by
  rw [size51, List.size_toArray, cellsR_len l v h]
theorem wpList_alR {P : Program} {ops : Array Oper} {rest : List Oper} {o : Oper} {a : Act} {w : World} {Q : Exit → Act → World → Prop} (hg : o.guard = none) (t : TypeId) (_ : o.op = .alloc t) (ob : Obj)
    (hrun : ∀ (e : Operand → Value) (w : World), (execOp e o).run P w = .ok (.value (.pointer (some ⟨w.heap.size, 0, none⟩))) (w.alloc ob))
    (h : wpList P ops Q rest (a.put o.dst (.pointer (some ⟨w.heap.size, 0, none⟩))) (w.alloc ob)) : wpList P ops Q (o :: rest) a w := by
  refine wpList_plain hg fun K hK => ?_
  unfold Oper.wp
  rw [hrun]
  exact hK _ _ h
def s0 : Slot := ⟨false, List.replicate 16 0#8, 0, zeroWs⟩
def zeroSs : List Slot := [s0, s0, s0, s0]
theorem ring_zero : Ring4 zeroSs := ⟨rfl, by intro s hs; simp [zeroSs] at hs; subst hs; exact ⟨rfl, rfl⟩⟩

set_option maxHeartbeats 800000 in
theorem great_any (l : List Slot) (hl : Ring4 l) (ad : Option Addr) (n c : Nat) (w : World) :
    Calls Try.prog 17 #[.agg (cellsR l (.slice ad n c)).toArray] w fun e w' => e = .returned (.bool (decide (40 < (n : Int)))) ∧ Ext w w' := by
  have hc := cellsR_past l (.slice ad n c) hl
  generalize cellsR l (.slice ad n c) = cs at *
  clear hl
  go_enter Try.func17, Try.ntmps17
  go_wp2_with fail
  go_ret
  exact ⟨rfl, Ext.alloc _ _⟩

/-- What is owned behind the base stays owned, whatever is written below it. -/
theorem owns_tail {W W' : World} {x : Xtra} {base base' E sz n : Nat} {v : Value} {xs : List Value} (h : (more W x).ownsRow base E sz v n xs) (hb : W.heap.size ≤ base) (hs : W'.heap.size = W.heap.size) (hb' : base' ≤ base) : (more W' x).ownsRow base' E sz v n xs := by
  obtain ⟨h1, h2 | ⟨g, cap, cur, h3, hg, hh, h4⟩⟩ := h
  · exact ⟨h1, .inl h2⟩
  · refine ⟨h1, .inr ⟨g, cap, cur, h3, Nat.le_trans hb' hg, ?_, h4⟩⟩
    have e : ∀ (V : World), V.heap.size ≤ g → (more V x).heap[g]? = x.blocks[g - V.heap.size]? := fun V hv => by
      simp only [more]; rw [Array.getElem?_append_right hv]
    rw [e W (by omega)] at hh
    rw [e W' (by omega), hs]; exact hh
set_option maxHeartbeats 1600000 in
theorem twin_any (l : List Slot) (hl : Ring4 l) (v : Value) (ks : List (List (BitVec 8))) (hn : ks.length ≤ 1000) (w : World) (hs : SlY w v ks) :
    Calls Try.prog 26 #[.agg (cellsR l v).toArray] w fun e w' => ∃ u, e = .returned (.agg (cellsR l u).toArray) ∧ w'.ownsRow w.heap.size 45 16 u ks.length (flatK ks) ∧ Ext w w' := by
  have hc := cellsR_past l v hl
  have HC := kp (fun u => cellsR_set l v u hl)
  have HZ := kp (fun u => sizeR l u hl)
  have HEQ := kp (fun u => show (cellsR zeroSs (.slice none 0 0)).toArray.size = (cellsR l u).toArray.size by rw [List.size_toArray, List.size_toArray, cellsR_len l u hl]; rfl)
  have HO := kp (fun ad n c => one_cellsR l (.slice ad n c) rfl)
  obtain ⟨ad, cap, rfl⟩ := hs.form
  have HCL := kp (fun w' h => cloneK_any (.slice ad ks.length cap) ks hn w' h)
  have HS := kp hs
  clear hs
  go_enter Try.func26, Try.ntmps26
  generalize h2 : (Code.region 2 _ _ : Code) = R2
  go_wp2_with (first | ((with_reducible refine wpList_alR rfl 51 rfl (.cells (cellsR zeroSs (.slice none 0 0)).toArray 51) (fun _ _ => by kernel_rfl) ?_); simp only [Act.put, List.setIfInBounds_toArray, List.set_cons_zero, List.set_cons_succ, World.size_alloc]))
  refine (HCL.out _ (HS.out.ext ((Ext.alloc _ _).trans (Ext.alloc _ _)))).mono ?_
  rintro e w' ⟨u, rfl, ho, x, rfl⟩
  have HOW := kp ho
  obtain ⟨a2, c2, rfl⟩ : ∃ a2 c2, u = .slice a2 ks.length c2 := by
    obtain ⟨_, ⟨h, h2⟩ | ⟨g, cp, cu, h, _⟩⟩ := ho
    · exact ⟨none, 0, by rw [h, h2]⟩
    · exact ⟨_, _, h⟩
  clear ho
  go_wp2_with fail
  rw [HC.out]
  subst h2
  go_wp2_with (first | ((with_reducible show wpList _ _ _ (Oper.mk _ (Op.load 51 _) _ _ _ _ :: _) _ _); (with_reducible refine wpList_load_row rfl 51 _ rfl (w.heap.size) rfl 51 ((cellsR l (.slice a2 ks.length c2)).toArray) (0, 0) _ (hp_more (hp_alloc (hp_new _ _))) Try.underlying51 rfl (HZ.out _) ?_); simp only [Act.put, List.setIfInBounds_toArray, List.set_cons_zero, List.set_cons_succ]) | ((with_reducible show wpList _ _ _ (Oper.mk none (Op.store 51 _ _) _ _ _ _ :: _) _ _); with_reducible refine wpList_st_row rfl rfl 51 _ _ rfl (w.heap.size + 1) ((cellsR l (.slice a2 ks.length c2)).toArray) rfl rfl 51 ((cellsR zeroSs (.slice none 0 0)).toArray) (hp_more (hp_at _ _ _ (by simp))) (HZ.out _) (HEQ.out _) (HO.out _ _ _) (by rewrite [setRow_more _ _ _ _ (by first | assumption | (simp <;> omega)), setRow_at _ _ _ _ _ _ (by simp <;> omega)]; rfl) ?_))
  exact ret_row Try.results26 (w.heap.size + 1) 51 ((cellsR l (.slice a2 ks.length c2)).toArray) (0, 0) _ rfl (hp_more (hp_at _ _ _ (by simp))) Try.underlying51 rfl (HZ.out _) rfl ⟨_, rfl, owns_tail HOW.out (Nat.le_refl _) (by simp) (by simp), ((Ext.alloc _ _).trans (Ext.alloc _ _)).trans (Ext.more _ _)⟩
end Go.Proofs.Ytjnaegpjhbobaaa
