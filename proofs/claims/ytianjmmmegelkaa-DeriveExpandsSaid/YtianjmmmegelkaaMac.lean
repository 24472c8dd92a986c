/- The contract of derive.Mac. -/
import Derived.Test.YtianjmmmegelkaaDerive
import Derived.Test.YtianjmmmegelkaaCipher
import Derived.Test.YtianjmmmegelkaaSpine
namespace Go.Proofs.Ytianjmmmegelkaa
open Go.RowKit

theorem SlB.at {w : World} {ad : Option Addr} {n cap : Nat} {l : List (BitVec 8)} (h : SlB w (.slice ad n cap) l) (j : Nat) (x : BitVec 8) (hj : l[j]? = some x) : ∃ b off, ad = some ⟨b, off, none⟩ ∧ b < w.heap.size ∧ w.cell? ⟨b, off + j, none⟩ = some (V8 x) := by
  rcases h with ⟨rfl, _⟩ | ⟨b, off, cap', hv, hb, hc⟩
  · simp at hj
  · cases hv
    exact ⟨b, off, rfl, hb, hc j x hj⟩
/-- The first block: a mark, and the length in eight bytes. -/
def lenB (n k : Nat) : BitVec 8 := BitVec.ofInt 8 ((n : Int) / 2 ^ (8 * k))
theorem lenB_int (n k : Nat) : V8 (lenB n k) = .int .u8 ((n : Int) / 2 ^ (8 * k) % 256) := by unfold V8 lenB; rw [wI_ofInt8]
def z16 : Array Value := ((List.replicate 16 (0 : BitVec 8)).map V8).toArray
theorem z16_size (l : List (BitVec 8)) (h : l.length = 16) : z16.size = (l.map V8).toArray.size := by simp [z16, h]
def macHdTo (n : Nat) : Nat → List (BitVec 8)
  | 0 => [3, 0, 0, 0, 0, 0, 0, 0, 0, 0, 0, 0, 0, 0, 0, 0]
  | k + 1 => (macHdTo n k).set (1 + k) (lenB n k)
theorem macHdTo_len (n : Nat) : ∀ k, (macHdTo n k).length = 16
  | 0 => rfl
  | k + 1 => by rw [macHdTo, List.length_set]; exact macHdTo_len n k
theorem encF_len (ks bs : List (BitVec 8)) : (encF ks bs).length = 16 := by simp [encF, joinF_len]
/-- The chain behind k bytes. -/
def macTo (ks bs : List (BitVec 8)) : Nat → List (BitVec 8)
  | 0 => encF ks (macHdTo bs.length 8)
  | k + 1 => if k % 16 = 15 ∨ k + 1 = bs.length then encF ks ((macTo ks bs k).set (k % 16) ((macTo ks bs k).getD (k % 16) 0 ^^^ bs.getD k 0)) else (macTo ks bs k).set (k % 16) ((macTo ks bs k).getD (k % 16) 0 ^^^ bs.getD k 0)
theorem macTo_len (ks bs : List (BitVec 8)) : ∀ k, (macTo ks bs k).length = 16
  | 0 => encF_len _ _
  | k + 1 => by
    rw [macTo]
    split
    · exact encF_len _ _
    · rw [List.length_set]; exact macTo_len ks bs k
def macF (ks bs : List (BitVec 8)) : List (BitVec 8) := macTo ks bs bs.length
theorem macF_len (ks bs : List (BitVec 8)) : (macF ks bs).length = 16 := macTo_len ks bs _
theorem sizeK (l : List (BitVec 8)) (h : l.length = 16) : (Try.prog.info? 29).map (·.size) = some (l.map V8).toArray.size := by rw [size29]; simp [h]
theorem sizeB (l : List (BitVec 8)) (h : l.length = 16) : (Try.prog.info? 31).map (·.size) = some (l.map V8).toArray.size := by rw [size31]; simp [h]

set_option maxHeartbeats 3200000 in
theorem mac_any (ks bs : List (BitVec 8)) (hk : ks.length = 16) (hn : bs.length ≤ 1000000000) (v : Value) (w : World) (hs : SlB w v bs) :
    Calls Try.prog 14 #[.agg (ks.map V8).toArray, v] w fun e w' => e = .returned (.agg ((macF ks bs).map V8).toArray) ∧ Ext w w' := by
  obtain ⟨ad, cap, rfl⟩ := hs.form
  have HS0 := kp hs
  obtain ⟨n, hnn⟩ : ∃ n, n = bs.length := ⟨_, rfl⟩
  rw [← hnn] at hn ⊢
  have HN := kp hnn
  have HK := kp (sizeK ks hk)
  have HEN := kp (fun (xs : List (BitVec 8)) (hx : xs.length = 16) (w : World) => encrypt_any ks xs hk hx w)
  clear hs hnn hk
  go_enter Try.func14, Try.ntmps14
  go_wp2_with fail
  go_loopw [10] (fun i wr => ∃ (k : Nat) (x : Xtra), k ≤ 8 ∧ i = .int .i64 k ∧ wr = more (((w.alloc (.cells (ks.map V8).toArray 29)).alloc (.cells z16 31)).alloc (.cells ((macHdTo n k).map V8).toArray 31)) x) (fun i _ => 8 - (intOf i).toNat)
  case atStart => exact ⟨0, _, by omega, rfl, by rw [← more_self]; rfl⟩
  case round =>
    obtain ⟨k, x, hk, rfl, rfl⟩ := hrel
    by_cases hlt : k < 8
    · obtain ⟨y, hy⟩ : ∃ y, (macHdTo n k)[1 + k]? = some y := ⟨(macHdTo n k)[1 + k]'(by rw [macHdTo_len]; omega), by simp⟩
      have HL := kp (lenB_int n k)
      go_wp2_with fail
      go_roundw
      case rel => exact ⟨k + 1, _, by omega, by go_num, by rw [macHdTo, List.map_set, HL.out]⟩
      case measure => simp [intOf]; omega
    · obtain rfl : k = 8 := by omega
      have HC := kp (sizeB (macHdTo n 8) (macHdTo_len n 8))
      have HC0 := kp (sizeB (macTo ks bs 0) (macTo_len ks bs 0))
      have HCC := kp (show ((macHdTo n 8).map V8).toArray.size = ((macTo ks bs 0).map V8).toArray.size by simp [macHdTo_len, macTo_len])
      have HE0 := kp (HEN.out (macHdTo n 8) (macHdTo_len n 8))
      rw [show encF ks (macHdTo n 8) = macTo ks bs 0 by rw [macTo, HN.out]] at HE0
      generalize macHdTo n 8 = hd at *
      have HZ := kp (z16_size (macTo ks bs n) (macTo_len ks bs n))
      go_wp2_with (first | ((with_reducible show wpList _ _ _ (Oper.mk _ (Op.load 29 _) _ _ _ _ :: _) _ _); (with_reducible refine wpList_load_row rfl 29 _ rfl (w.heap.size) rfl 29 ((ks.map V8).toArray) (0, 0) _ (hp_more (hp_alloc (hp_alloc (hp_new _ _)))) Try.underlying29 rfl (HK.out) ?_); simp only [Act.put, List.setIfInBounds_toArray, List.set_cons_zero, List.set_cons_succ]) | ((with_reducible show wpList _ _ _ (Oper.mk _ (Op.load 31 _) _ _ _ _ :: _) _ _); (with_reducible refine wpList_load_row rfl 31 _ rfl (w.heap.size + 1 + 1) rfl 31 ((hd.map V8).toArray) (0, 0) _ (hp_more (hp_at _ _ _ (by simp))) Try.underlying31 rfl (HC.out) ?_); simp only [Act.put, List.setIfInBounds_toArray, List.set_cons_zero, List.set_cons_succ]) | ((with_reducible show wpList _ _ _ (Oper.mk none (Op.store 31 _ _) _ _ _ _ :: _) _ _); with_reducible refine wpList_st_row rfl rfl 31 _ _ rfl (w.heap.size + 1 + 1) (((macTo ks bs 0).map V8).toArray) rfl rfl 31 (_) (hp_more (hp_at _ _ _ (by simp))) (HC0.out) (HCC.out) (all_V8 _) (by rewrite [setRow_more _ _ _ _ (by simp <;> omega), setRow_at _ _ _ _ _ _ (by simp <;> omega)]; rfl) ?_) | (go_at_call 22; refine (HE0.out _).mono ?_; rintro e w' ⟨rfl, xe, rfl⟩; rw [more_more]))
      go_loopw [28] (fun i wr => ∃ (k : Nat) (x : Xtra), k ≤ n ∧ i = .int .i64 k ∧ wr = more (((w.alloc (.cells (ks.map V8).toArray 29)).alloc (.cells z16 31)).alloc (.cells ((macTo ks bs k).map V8).toArray 31)) x) (fun i _ => n - (intOf i).toNat)
      case atStart => exact ⟨0, _, by omega, rfl, rfl⟩
      case round =>
        obtain ⟨k, x, hk, rfl, rfl⟩ := hrel
        by_cases hlt : k < n
        · obtain ⟨y, hy⟩ : ∃ y, bs[k]? = some y := ⟨bs[k]'(by rw [← HN.out]; omega), by simp⟩
          obtain ⟨b, off, rfl, hb, hcell⟩ := HS0.out.at k y hy
          have hb1 : b < w.heap.size + 1 := by omega
          have hb2 : b < w.heap.size + 1 + 1 := by omega
          have hb3 : b < w.heap.size + 1 + 1 + 1 := by omega
          have hm16 : k % 16 < 16 := by omega
          obtain ⟨z, hz⟩ : ∃ z, (macTo ks bs k)[k % 16]? = some z := ⟨(macTo ks bs k)[k % 16]'(by rw [macTo_len]; omega), by simp⟩
          have HX := kp (show (macTo ks bs k).set (k % 16) ((macTo ks bs k).getD (k % 16) 0 ^^^ bs.getD k 0) = (macTo ks bs k).set (k % 16) (z ^^^ y) by simp [List.getD, hz, hy])
          have HXL := kp (show ((macTo ks bs k).set (k % 16) (z ^^^ y)).length = 16 by rw [List.length_set]; exact macTo_len ks bs k)
          clear hy
          have HM := kp (show ((macTo ks bs k).map V8).set (k % 16) (V8 (z ^^^ y)) = ((macTo ks bs k).set (k % 16) (z ^^^ y)).map V8 by rw [List.map_set])
          have HB1 := kp (show (Try.prog.info? 31).map (·.size) = some (((macTo ks bs k).map V8).set (k % 16) (V8 (z ^^^ y))).toArray.size by rw [HM.out]; exact sizeB _ HXL.out)
          have HB2 := kp (sizeB (encF ks ((macTo ks bs k).set (k % 16) (z ^^^ y))) (encF_len _ _))
          have HBB := kp (show (((macTo ks bs k).map V8).set (k % 16) (V8 (z ^^^ y))).toArray.size = ((encF ks ((macTo ks bs k).set (k % 16) (z ^^^ y))).map V8).toArray.size by rw [HM.out]; simp [encF_len, macTo_len])
          have HE1 := kp (HEN.out ((macTo ks bs k).set (k % 16) (z ^^^ y)) HXL.out)
          rw [← HM.out] at HE1
          by_cases h15 : k % 16 = 15
          · have HN1 := kp (show macTo ks bs (k + 1) = encF ks ((macTo ks bs k).set (k % 16) (z ^^^ y)) by rw [macTo, if_pos (.inl h15), HX.out])
            have hq : ((k : Int) % 16 == 15) = true := by simp; omega
            clear h15
            go_wp2_with (first | ((with_reducible show wpList _ _ _ (Oper.mk _ (Op.load 29 _) _ _ _ _ :: _) _ _); (with_reducible refine wpList_load_row rfl 29 _ rfl (w.heap.size) rfl 29 ((ks.map V8).toArray) (0, 0) _ (hp_more (hp_alloc (hp_alloc (hp_new _ _)))) Try.underlying29 rfl (HK.out) ?_); simp only [Act.put, List.setIfInBounds_toArray, List.set_cons_zero, List.set_cons_succ]) | ((with_reducible show wpList _ _ _ (Oper.mk _ (Op.load 31 _) _ _ _ _ :: _) _ _); (with_reducible refine wpList_load_row rfl 31 _ rfl (w.heap.size + 1 + 1) rfl 31 ((((macTo ks bs k).map V8).set (k % 16) (V8 (z ^^^ y))).toArray) (0, 0) _ (hp_more (hp_at _ _ _ (by simp))) Try.underlying31 rfl (HB1.out) ?_); simp only [Act.put, List.setIfInBounds_toArray, List.set_cons_zero, List.set_cons_succ]) | ((with_reducible show wpList _ _ _ (Oper.mk none (Op.store 31 _ _) _ _ _ _ :: _) _ _); with_reducible refine wpList_st_row rfl rfl 31 _ _ rfl (w.heap.size + 1 + 1) (((encF ks ((macTo ks bs k).set (k % 16) (z ^^^ y))).map V8).toArray) rfl rfl 31 (_) (hp_more (hp_at _ _ _ (by simp))) (HB2.out) (HBB.out) (all_V8 _) (by rewrite [setRow_more _ _ _ _ (by simp <;> omega), setRow_at _ _ _ _ _ _ (by simp <;> omega)]; rfl) ?_) | (go_at_call 22; refine (HE1.out _).mono ?_; rintro e w' ⟨rfl, xe2, rfl⟩; rw [more_more]))
            go_roundw
            case rel => exact ⟨k + 1, _, by omega, by go_num, by rw [HN1.out]⟩
            case measure => simp [intOf]; omega
          · by_cases hl1 : k + 1 = n
            · have HN1 := kp (show macTo ks bs (k + 1) = encF ks ((macTo ks bs k).set (k % 16) (z ^^^ y)) by rw [macTo, if_pos (.inr (by rw [← HN.out]; exact hl1)), HX.out])
              have hq : ((k : Int) % 16 == 15) = false := by simp; omega
              have hq2 : ((k : Int) == (n : Int) - 1) = true := by simp; omega
              clear h15 hl1
              go_wp2_with (first | ((with_reducible show wpList _ _ _ (Oper.mk _ (Op.load 29 _) _ _ _ _ :: _) _ _); (with_reducible refine wpList_load_row rfl 29 _ rfl (w.heap.size) rfl 29 ((ks.map V8).toArray) (0, 0) _ (hp_more (hp_alloc (hp_alloc (hp_new _ _)))) Try.underlying29 rfl (HK.out) ?_); simp only [Act.put, List.setIfInBounds_toArray, List.set_cons_zero, List.set_cons_succ]) | ((with_reducible show wpList _ _ _ (Oper.mk _ (Op.load 31 _) _ _ _ _ :: _) _ _); (with_reducible refine wpList_load_row rfl 31 _ rfl (w.heap.size + 1 + 1) rfl 31 ((((macTo ks bs k).map V8).set (k % 16) (V8 (z ^^^ y))).toArray) (0, 0) _ (hp_more (hp_at _ _ _ (by simp))) Try.underlying31 rfl (HB1.out) ?_); simp only [Act.put, List.setIfInBounds_toArray, List.set_cons_zero, List.set_cons_succ]) | ((with_reducible show wpList _ _ _ (Oper.mk none (Op.store 31 _ _) _ _ _ _ :: _) _ _); with_reducible refine wpList_st_row rfl rfl 31 _ _ rfl (w.heap.size + 1 + 1) (((encF ks ((macTo ks bs k).set (k % 16) (z ^^^ y))).map V8).toArray) rfl rfl 31 (_) (hp_more (hp_at _ _ _ (by simp))) (HB2.out) (HBB.out) (all_V8 _) (by rewrite [setRow_more _ _ _ _ (by simp <;> omega), setRow_at _ _ _ _ _ _ (by simp <;> omega)]; rfl) ?_) | (go_at_call 22; refine (HE1.out _).mono ?_; rintro e w' ⟨rfl, xe2, rfl⟩; rw [more_more]))
              go_roundw
              case rel => exact ⟨k + 1, _, by omega, by go_num, by rw [HN1.out]⟩
              case measure => simp [intOf]; omega
            · have HN1 := kp (show macTo ks bs (k + 1) = ((macTo ks bs k).set (k % 16) (z ^^^ y)) by rw [macTo, if_neg (by rw [← HN.out]; omega), HX.out])
              have hq : ((k : Int) % 16 == 15) = false := by simp; omega
              have hq2 : ((k : Int) == (n : Int) - 1) = false := by simp; omega
              clear h15 hl1
              go_wp2_with fail
              go_roundw
              case rel => exact ⟨k + 1, _, by omega, by go_num, by rw [HN1.out, HM.out]⟩
              case measure => simp [intOf]; omega
        · obtain rfl : k = n := by omega
          have HB := kp (sizeB (macTo ks bs k) (macTo_len ks bs k))
          have HF := kp (show macF ks bs = macTo ks bs k by rw [HN.out]; rfl)
          go_wp2_with (first | ((with_reducible show wpList _ _ _ (Oper.mk _ (Op.load 31 _) _ _ _ _ :: _) _ _); (with_reducible refine wpList_load_row rfl 31 _ rfl (w.heap.size + 1 + 1) rfl 31 (((macTo ks bs k).map V8).toArray) (0, 0) _ (hp_more (hp_at _ _ _ (by simp))) Try.underlying31 rfl (HB.out) ?_); simp only [Act.put, List.setIfInBounds_toArray, List.set_cons_zero, List.set_cons_succ]) | ((with_reducible show wpList _ _ _ (Oper.mk none (Op.store 31 _ _) _ _ _ _ :: _) _ _); with_reducible refine wpList_st_row rfl rfl 31 _ _ rfl (w.heap.size + 1) (((macTo ks bs k).map V8).toArray) rfl rfl 31 (_) (hp_more (hp_alloc (hp_at _ _ _ (by simp)))) (HB.out) (HZ.out) (all_V8 _) (by rewrite [setRow_more _ _ _ _ (by simp <;> omega), setRow_past _ _ _ _ (by simp <;> omega), setRow_at _ _ _ _ _ _ (by simp <;> omega)]; rfl) ?_))
          exact ret_row Try.results14 (w.heap.size + 1) 31 (((macTo ks bs k).map V8).toArray) (0, 0) _ rfl (hp_more (hp_alloc (hp_at _ _ _ (by simp)))) Try.underlying31 rfl (HB.out) rfl ⟨by rw [HF.out], (((Ext.alloc _ _).trans (Ext.alloc _ _)).trans (Ext.alloc _ _)).trans (Ext.more _ _)⟩
end Go.Proofs.Ytianjmmmegelkaa
