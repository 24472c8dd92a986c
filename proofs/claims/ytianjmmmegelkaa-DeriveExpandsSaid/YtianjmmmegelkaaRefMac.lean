/- The contract of hotspotref23.Mac. -/
import Derived.Test.YtianjmmmegelkaaPlain23
import Derived.Test.YtianjmmmegelkaaRef23
import Derived.Test.YtianjmmmegelkaaRef21b
namespace Go.Proofs.Ytianjmmmegelkaa
open Go.RowKit

def sliceLen : Value → Nat
  | .slice _ n _ => n
  | _ => 0
theorem owns_empty (w : World) (base : Nat) (hb : base ≤ w.heap.size) : (w.alloc (.cells #[] 5)).ownsRow base 5 1 (.slice (some ⟨w.heap.size, 0, none⟩) 0 0) ([] : List (BitVec 8)).length (([] : List (BitVec 8)).map V8) :=
  ⟨rfl, .inr ⟨w.heap.size, 0, #[], rfl, hb, hp_new _ _, Nat.le_refl _, Nat.zero_le _, rfl, rfl⟩⟩
theorem tail_cell {W W' : World} {x y : Xtra} {d g i : Nat} {c : Value} (hs : W'.heap.size = W.heap.size) (hg : W.heap.size ≤ g) (h : (more W x).cell? ⟨g, i, none⟩ = some c) : (more W' ⟨x.blocks ++ y.blocks, d⟩).cell? ⟨g, i, none⟩ = some c := by
  have e : ∀ (V : World) (z : Xtra), V.heap.size ≤ g → (more V z).heap[g]? = z.blocks[g - V.heap.size]? := fun V z hv => by
    simp only [more]; rw [Array.getElem?_append_right hv]
  have hlt : g - W.heap.size < x.blocks.size := by
    have h2 : g < (more W x).heap.size := block_lt_of_cell h
    rw [more_size] at h2; omega
  have hh : (more W' ⟨x.blocks ++ y.blocks, d⟩).heap[g]? = (more W x).heap[g]? := by
    rw [e W' _ (by omega), e W _ hg, hs, Array.getElem?_append_left hlt]
  simp only [World.cell?] at h ⊢
  rw [hh]; exact h
theorem div_step (n k : Nat) : (n : Int) / 2 ^ (8 * k) / 256 = (n : Int) / 2 ^ (8 * (k + 1)) := by
  rw [show 8 * (k + 1) = 8 * k + 8 by omega, Int.pow_add, Int.ediv_ediv_of_nonneg (by exact Int.le_of_lt (Int.pow_pos (by decide)))]
  rfl
set_option maxHeartbeats 3200000 in
theorem rmac_any (ks bs : List (BitVec 8)) (hk : ks.length = 16) (hn : bs.length ≤ 100000) (v : Value) (w : World) (hs : SlB w v bs) :
    Calls Try.prog 15 #[.agg (ks.map V8).toArray, v] w fun e w' => e = .returned (.agg ((macF ks bs).map V8).toArray) ∧ Ext w w' := by
  obtain ⟨iu, hiu, hu⟩ := info_iu
  have HIU := kp hiu
  have HU := kp hu
  obtain ⟨ad, cap, rfl⟩ := hs.form
  have HS0 := kp hs
  obtain ⟨n, hnn⟩ : ∃ n, n = bs.length := ⟨_, rfl⟩
  rw [← hnn] at hn ⊢
  have HN := kp hnn
  have HK := kp (sizeK ks hk)
  have HEN := kp (fun (xs : List (BitVec 8)) (hx : xs.length = 16) (w : World) => rencrypt_any ks xs hk hx w)
  clear hiu hu hs hnn hk
  go_enter Try.func15, Try.ntmps15
  go_wp2_with fail
  go_loopw [6, 7] (fun c i wr => ∃ (k : Nat) (x : Xtra), k ≤ 8 ∧ c = .int .i64 ((n : Int) / 2 ^ (8 * k)) ∧ i = .int .i64 ((k : Int) + 1) ∧ wr = more (((w.alloc (.cells (ks.map V8).toArray 29)).alloc (.cells z16 31)).alloc (.cells ((macHdTo n k).map V8).toArray 31)) x) (fun _ i _ => 9 - (intOf i).toNat)
  case atStart => exact ⟨0, _, by omega, by simp, rfl, by rw [← more_self]; rfl⟩
  case round =>
    obtain ⟨k, x, hk, rfl, rfl, rfl⟩ := hrel
    by_cases hlt : k < 8
    · obtain ⟨y, hy⟩ : ∃ y, (macHdTo n k)[k + 1]? = some y := ⟨(macHdTo n k)[k + 1]'(by rw [macHdTo_len]; omega), by simp⟩
      have HL := kp (lenB_int n k)
      have HD := kp (div_step n k)
      have hq0 : 0 ≤ (n : Int) / 2 ^ (8 * k) := Int.ediv_nonneg (by omega) (Int.le_of_lt (Int.pow_pos (by decide)))
      have hq1 : (n : Int) / 2 ^ (8 * k) ≤ 100000 := by
        have := Int.ediv_le_self (a := (n : Int)) (2 ^ (8 * k)) (by omega)
        omega
      generalize (n : Int) / 2 ^ (8 * k) = q at *
      have hk8 : (k : Int) + 1 ≤ 8 := by omega
      go_wp2_with fail
      go_roundw
      case rel => exact ⟨k + 1, _, by omega, by rw [← HD.out], by go_num, by rw [macHdTo, List.map_set, HL.out, Nat.add_comm 1 k]⟩
      case measure => simp [intOf]; omega
    · obtain rfl : k = 8 := by omega
      have HHD := kp (show macTo ks bs 0 = encF ks (macHdTo n 8) by rw [macTo, HN.out])
      have HHL := kp (macHdTo_len n 8)
      generalize macHdTo n 8 = hd at *
      have HX0 := kp (show Ext w (((w.alloc (.cells (ks.map V8).toArray 29)).alloc (.cells z16 31)).alloc (.cells (hd.map V8).toArray 31)) from ((Ext.alloc _ _).trans (Ext.alloc _ _)).trans (Ext.alloc _ _))
      have HOE := kp (owns_empty (more (((w.alloc (.cells (ks.map V8).toArray 29)).alloc (.cells z16 31)).alloc (.cells (hd.map V8).toArray 31)) x) (w.heap.size + 1 + 1 + 1) (by simp))
      simp only [more_size, World.size_alloc] at HOE
      have HSB := kp (HS0.out.ext (HX0.out.trans ((Ext.more _ x).trans (Ext.alloc _ (.cells #[] 5)))))
      rw [← HN.out] at HSB
      have HLE := kp (show ([] : List (BitVec 8)).length + bs.length ≤ 1000000 by rw [← HN.out]; simp; omega)
      go_wp2_with (at_builtin; refine wpList_append_SlB rfl _ _ 22 rfl (w.heap.size + 1 + 1 + 1) 5 iu Try.underlying22 HIU.out HU.out.1 HU.out.2.1 HU.out.2.2 _ _ rfl (HOE.out) _ (bs) rfl (HSB.out) (HLE.out) (by simp <;> omega) ?_; intro v2 w2 ho2 hg2)
      have HO2 := kp (show w2.ownsRow (w.heap.size + 1 + 1 + 1) 5 1 v2 (bs ++ List.replicate 0 0).length ((bs ++ List.replicate 0 0).map V8) by simpa using ho2)
      have HX2 := kp (((Ext.more (((w.alloc (.cells (ks.map V8).toArray 29)).alloc (.cells z16 31)).alloc (.cells (hd.map V8).toArray 31)) x).trans (Ext.alloc _ (.cells #[] 5))).grown hg2 (fun q hq => by have := owns_block HOE.out q hq; simpa using this))
      clear ho2 hg2 HOE HSB HLE
      obtain ⟨P, hP⟩ : ∃ P, P = (16 - n % 16) % 16 := ⟨_, rfl⟩
      have HP := kp hP
      have hP15 : P ≤ 15 := by omega
      clear hP
      go_loopw [8] (fun v wr => ∃ k : Nat, k ≤ P ∧ Kp (wr.ownsRow (w.heap.size + 1 + 1 + 1) 5 1 v (bs ++ List.replicate k 0).length ((bs ++ List.replicate k 0).map V8)) ∧ Kp (Ext (((w.alloc (.cells (ks.map V8).toArray 29)).alloc (.cells z16 31)).alloc (.cells (hd.map V8).toArray 31)) wr)) (fun v _ => n + P - sliceLen v)
      case atStart => exact ⟨0, by omega, HO2, HX2⟩
      case round =>
        obtain ⟨k, hkP, HO, HX⟩ := hrel
        have hlen : (bs ++ List.replicate k (0 : BitVec 8)).length = n + k := by rw [List.length_append, List.length_replicate, ← HN.out]
        obtain ⟨av, cv, hvf⟩ := (SlB.of_owns HO.out).form
        rw [hlen] at hvf
        subst hvf
        by_cases hlt : k < P
        · have hne : (((n : Int) + (k : Int)) % 16 != 0) = true := by have := HP.out; simp; omega
          have hsz : w.heap.size + 1 + 1 + 1 ≤ wr.heap.size := by have := HX.out.size; simpa using this
          have HOA := kp (owns_ext HO.out (Ext.alloc wr (.cells #[.int .u8 0] 5)))
          have HSA := kp (show SlB (wr.alloc (.cells #[.int .u8 0] 5)) (.slice (some ⟨wr.heap.size, 0, none⟩) 1 1) [0#8] from SlB.of_block (hp_new wr _))
          have HLE := kp (show (bs ++ List.replicate k (0 : BitVec 8)).length + [0#8].length ≤ 1000000 by rw [hlen]; simp; omega)
          clear hlen
          go_wp2_with (at_builtin; refine wpList_append_SlB rfl _ _ 22 rfl (w.heap.size + 1 + 1 + 1) 5 iu Try.underlying22 HIU.out HU.out.1 HU.out.2.1 HU.out.2.2 _ _ rfl (HOA.out) _ ([0#8]) rfl (HSA.out) (HLE.out) (by simp <;> omega) ?_; intro v3 w3 ho3 hg3)
          have HX3 := kp ((HX.out.trans (Ext.alloc _ _)).grown hg3 (fun q hq => by have := owns_block HOA.out q hq; simpa using this))
          have HO3 := kp (show w3.ownsRow (w.heap.size + 1 + 1 + 1) 5 1 v3 (bs ++ List.replicate (k + 1) 0).length ((bs ++ List.replicate (k + 1) 0).map V8) by
            have h := ho3
            rw [List.append_assoc, show [0#8] = [(0 : BitVec 8)] from rfl, ← List.replicate_succ'] at h
            exact h)
          have hlen3 : sliceLen v3 = n + k + 1 := by
            obtain ⟨a9, c9, h9⟩ := (SlB.of_owns HO3.out).form
            rw [h9]
            show (bs ++ List.replicate (k + 1) (0 : BitVec 8)).length = _
            rw [List.length_append, List.length_replicate, ← HN.out]; omega
          clear ho3 hg3
          go_roundw
          case rel => exact ⟨k + 1, by omega, HO3, HX3⟩
          case measure => rw [hlen3]; simp [sliceLen]; omega
        · obtain rfl : k = P := by omega
          have hne : (((n : Int) + (k : Int)) % 16 != 0) = false := by have := HP.out; simp; omega
          obtain ⟨x2, hx2⟩ := HX.out
          subst hx2
          obtain ⟨p, hp⟩ : ∃ p, bs ++ List.replicate k (0 : BitVec 8) = p := ⟨_, rfl⟩
          have HPF := kp (show padF bs = p by rw [← hp, padF, ← HN.out, ← HP.out])
          have HPL := kp (show p.length = n + k by rw [← hp]; exact hlen)
          obtain ⟨m, hm⟩ : ∃ m, m = (n + 15) / 16 := ⟨_, rfl⟩
          have HM := kp hm
          have hnk : n + k = 16 * m := by have := HP.out; omega
          rw [hp] at HO
          have HCELL := kp (fun (j : Nat) (y : BitVec 8) (hj : p[j]? = some y) => show ∃ g, av = some ⟨g, 0, none⟩ ∧ w.heap.size + 1 + 1 + 1 ≤ g ∧ (more (((w.alloc (.cells (ks.map V8).toArray 29)).alloc (.cells z16 31)).alloc (.cells (hd.map V8).toArray 31)) x2).cell? ⟨g, 0 + j, none⟩ = some (V8 y) from by
            obtain ⟨b, off, hav, hb, hc⟩ := (SlB.of_owns HO.out).at j y hj
            obtain ⟨_, h2⟩ := HO.out
            rcases h2 with ⟨h3, h4⟩ | ⟨g, c4, cur, h3, hbg, _⟩
            · simp only [Value.slice.injEq] at h3; rw [hav] at h3; cases h3.1
            · simp only [Value.slice.injEq] at h3
              have hg := h3.1
              rw [hav] at hg
              cases hg
              exact ⟨b, hav, hbg, hc⟩)
          clear hm hp hlen HO2 HX2 HX0
          have HR0 := kp (show rmacTo ks bs 0 = encF ks hd by rw [rmacTo, ← HN.out]; rw [macTo, ← HN.out] at HHD; exact HHD.out)
          have HE0 := kp (HEN.out hd HHL.out)
          rw [← HR0.out] at HE0
          have HB0 := kp (sizeB hd HHL.out)
          have HB1 := kp (sizeB (rmacTo ks bs 0) (rmacTo_len ks bs 0))
          have HBB := kp (show (hd.map V8).toArray.size = ((rmacTo ks bs 0).map V8).toArray.size by simp [HHL.out, rmacTo_len])
          go_wp2_with (first | ((with_reducible show wpList _ _ _ (Oper.mk _ (Op.load 29 _) _ _ _ _ :: _) _ _); (with_reducible refine wpList_load_row rfl 29 _ rfl (w.heap.size) rfl 29 ((ks.map V8).toArray) (0, 0) _ (hp_more (hp_alloc (hp_alloc (hp_new _ _)))) Try.underlying29 rfl (HK.out) ?_); simp only [Act.put, List.setIfInBounds_toArray, List.set_cons_zero, List.set_cons_succ]) | ((with_reducible show wpList _ _ _ (Oper.mk _ (Op.load 31 _) _ _ _ _ :: _) _ _); (with_reducible refine wpList_load_row rfl 31 _ rfl (w.heap.size + 1 + 1) rfl 31 ((hd.map V8).toArray) (0, 0) _ (hp_more (hp_at _ _ _ (by simp))) Try.underlying31 rfl (HB0.out) ?_); simp only [Act.put, List.setIfInBounds_toArray, List.set_cons_zero, List.set_cons_succ]) | ((with_reducible show wpList _ _ _ (Oper.mk none (Op.store 31 _ _) _ _ _ _ :: _) _ _); with_reducible refine wpList_st_row rfl rfl 31 _ _ rfl (w.heap.size + 1 + 1) (((rmacTo ks bs 0).map V8).toArray) rfl rfl 31 (_) (hp_more (hp_at _ _ _ (by simp))) (HB1.out) (HBB.out) (all_V8 _) (by rewrite [setRow_more _ _ _ _ (by simp <;> omega), setRow_at _ _ _ _ _ _ (by simp <;> omega)]; rfl) ?_) | (go_at_call 25; refine (HE0.out _).mono ?_; rintro e w' ⟨rfl, xe, rfl⟩; rw [more_more]))
          go_loopw [9] (fun i wr => ∃ (j : Nat) (x : Xtra), j ≤ m ∧ i = .int .i64 ((16 * j : Nat) : Int) ∧ wr = more (((w.alloc (.cells (ks.map V8).toArray 29)).alloc (.cells z16 31)).alloc (.cells ((rmacTo ks bs j).map V8).toArray 31)) ⟨x2.blocks ++ x.blocks, x.draws⟩) (fun i _ => 16 * m + 16 - (intOf i).toNat)
          case atStart => exact ⟨0, _, by omega, rfl, rfl⟩
          case round =>
            obtain ⟨j, x5, hjm, rfl, rfl⟩ := hrel
            by_cases hjlt : j < m
            · have hlt9 : ((16 * j : Nat) : Int) < ((n + k : Nat) : Int) := by omega
              have HRL := kp (rmacTo_len ks bs j)
              have HR1 := kp (show rmacTo ks bs (j + 1) = encF ks (xorTo (rmacTo ks bs j) p (16 * j) 16) by rw [rmacTo, HPF.out])
              generalize rmacTo ks bs j = r0 at *
              go_wp2_with fail
              go_loopw [10] (fun i wr => ∃ (t : Nat) (x : Xtra), t ≤ 16 ∧ i = .int .i64 t ∧ wr = more (((w.alloc (.cells (ks.map V8).toArray 29)).alloc (.cells z16 31)).alloc (.cells ((xorTo r0 p (16 * j) t).map V8).toArray 31)) ⟨x2.blocks ++ x.blocks, x.draws⟩) (fun i _ => 16 - (intOf i).toNat)
              case atStart => exact ⟨0, _, by omega, rfl, rfl⟩
              case round =>
                obtain ⟨t, x6, ht, rfl, rfl⟩ := hrel
                by_cases htlt : t < 16
                · obtain ⟨y, hy⟩ : ∃ y, p[16 * j + t]? = some y := ⟨p[16 * j + t]'(by rw [HPL.out]; omega), by simp⟩
                  obtain ⟨g, hav, hg, hcell0⟩ := HCELL.out _ y hy
                  subst hav
                  have hcell : ∀ (Y : Array Obj) (d : Nat), (more (((w.alloc (.cells (ks.map V8).toArray 29)).alloc (.cells z16 31)).alloc (.cells ((xorTo r0 p (16 * j) t).map V8).toArray 31)) ⟨x2.blocks ++ Y, d⟩).cell? ⟨g, 16 * j + t, none⟩ = some (V8 y) := fun Y d => by
                    have h := tail_cell (W' := (((w.alloc (.cells (ks.map V8).toArray 29)).alloc (.cells z16 31)).alloc (.cells ((xorTo r0 p (16 * j) t).map V8).toArray 31))) (y := ⟨Y, d⟩) (d := d) (by simp) (by simpa using hg) hcell0
                    rwa [Nat.zero_add] at h
                  have hglt : g < w.heap.size + 1 + 1 + 1 + (x2.blocks.size + x6.blocks.size) := by
                    have h2 := block_lt_of_cell hcell0
                    simp only [more_size, World.size_alloc] at h2
                    omega
                  clear hcell0
                  obtain ⟨z, hz⟩ : ∃ z, (xorTo r0 p (16 * j) t)[t]? = some z := ⟨(xorTo r0 p (16 * j) t)[t]'(by rw [xorTo_len, HRL.out]; omega), by simp⟩
                  have HX1 := kp (show xorTo r0 p (16 * j) (t + 1) = (xorTo r0 p (16 * j) t).set t (z ^^^ y) by rw [xorTo]; simp [List.getD, hz, hy])
                  clear hy
                  go_wp2_with fail
                  refine region_f 12 (by kernel_rfl) (by kernel_rfl) (by kernel_rfl) (by kernel_rfl) (by decide) (Nat.le_of_ble_eq_true (by kernel_rfl)) ?_
                  apply Exists.intro
                  refine ⟨fun xz2 => ?_, fun xq2 => ?_⟩
                  · simp only [List.take_succ_cons, List.take_zero]
                    unfold Cx
                    repeat (go_big_quiet_step (fail))
                    exact wpQuiet_nil rfl
                  simp only [List.drop_succ_cons, List.drop_zero]
                  go_wp2_with fail
                  go_roundw
                  case rel => exact ⟨t + 1, ⟨x6.blocks ++ xq2.blocks, xq2.draws⟩, by omega, by go_num, by rw [HX1.out, List.map_set]⟩
                  case measure => simp [intOf]; omega
                · obtain rfl : t = 16 := by omega
                  have HXL := kp (show (xorTo r0 p (16 * j) 16).length = 16 by rw [xorTo_len, HRL.out])
                  have HE1 := kp (HEN.out (xorTo r0 p (16 * j) 16) HXL.out)
                  rw [← HR1.out] at HE1
                  have HB2 := kp (sizeB (xorTo r0 p (16 * j) 16) HXL.out)
                  have HB3 := kp (sizeB (rmacTo ks bs (j + 1)) (rmacTo_len ks bs (j + 1)))
                  have HB4 := kp (show ((xorTo r0 p (16 * j) 16).map V8).toArray.size = ((rmacTo ks bs (j + 1)).map V8).toArray.size by simp [HXL.out, rmacTo_len])
                  go_wp2_with (first | ((with_reducible show wpList _ _ _ (Oper.mk _ (Op.load 29 _) _ _ _ _ :: _) _ _); (with_reducible refine wpList_load_row rfl 29 _ rfl (w.heap.size) rfl 29 ((ks.map V8).toArray) (0, 0) _ (hp_more (hp_alloc (hp_alloc (hp_new _ _)))) Try.underlying29 rfl (HK.out) ?_); simp only [Act.put, List.setIfInBounds_toArray, List.set_cons_zero, List.set_cons_succ]) | ((with_reducible show wpList _ _ _ (Oper.mk _ (Op.load 31 _) _ _ _ _ :: _) _ _); (with_reducible refine wpList_load_row rfl 31 _ rfl (w.heap.size + 1 + 1) rfl 31 (((xorTo r0 p (16 * j) 16).map V8).toArray) (0, 0) _ (hp_more (hp_at _ _ _ (by simp))) Try.underlying31 rfl (HB2.out) ?_); simp only [Act.put, List.setIfInBounds_toArray, List.set_cons_zero, List.set_cons_succ]) | ((with_reducible show wpList _ _ _ (Oper.mk none (Op.store 31 _ _) _ _ _ _ :: _) _ _); with_reducible refine wpList_st_row rfl rfl 31 _ _ rfl (w.heap.size + 1 + 1) (((rmacTo ks bs (j + 1)).map V8).toArray) rfl rfl 31 (_) (hp_more (hp_at _ _ _ (by simp))) (HB3.out) (HB4.out) (all_V8 _) (by rewrite [setRow_more _ _ _ _ (by simp <;> omega), setRow_at _ _ _ _ _ _ (by simp <;> omega)]; rfl) ?_) | (go_at_call 25; refine (HE1.out _).mono ?_; rintro e w' ⟨rfl, xe, rfl⟩; rw [more_more]))
                  go_roundw
                  case rel => exact ⟨j + 1, ⟨x6.blocks ++ xe.blocks, xe.draws⟩, by omega, by go_num, rfl⟩
                  case measure => simp [intOf]; omega
            · obtain rfl : j = m := by omega
              have hlt9 : ¬ ((16 * j : Nat) : Int) < ((n + k : Nat) : Int) := by omega
              have HB5 := kp (sizeB (rmacTo ks bs j) (rmacTo_len ks bs j))
              have HZ5 := kp (z16_size (rmacTo ks bs j) (rmacTo_len ks bs j))
              have HF := kp (show macF ks bs = rmacTo ks bs j by rw [HM.out, HN.out, rmac_mac])
              go_wp2_with (first | ((with_reducible show wpList _ _ _ (Oper.mk _ (Op.load 31 _) _ _ _ _ :: _) _ _); (with_reducible refine wpList_load_row rfl 31 _ rfl (w.heap.size + 1 + 1) rfl 31 (((rmacTo ks bs j).map V8).toArray) (0, 0) _ (hp_more (hp_at _ _ _ (by simp))) Try.underlying31 rfl (HB5.out) ?_); simp only [Act.put, List.setIfInBounds_toArray, List.set_cons_zero, List.set_cons_succ]) | ((with_reducible show wpList _ _ _ (Oper.mk none (Op.store 31 _ _) _ _ _ _ :: _) _ _); with_reducible refine wpList_st_row rfl rfl 31 _ _ rfl (w.heap.size + 1) (((rmacTo ks bs j).map V8).toArray) rfl rfl 31 (_) (hp_more (hp_alloc (hp_at _ _ _ (by simp)))) (HB5.out) (HZ5.out) (all_V8 _) (by rewrite [setRow_more _ _ _ _ (by simp <;> omega), setRow_past _ _ _ _ (by simp <;> omega), setRow_at _ _ _ _ _ _ (by simp <;> omega)]; rfl) ?_))
              exact ret_row Try.results15 (w.heap.size + 1) 31 (((rmacTo ks bs j).map V8).toArray) (0, 0) _ rfl (hp_more (hp_alloc (hp_at _ _ _ (by simp)))) Try.underlying31 rfl (HB5.out) rfl ⟨by rw [HF.out], (((Ext.alloc _ _).trans (Ext.alloc _ _)).trans (Ext.alloc _ _)).trans (Ext.more _ _)⟩
end Go.Proofs.Ytianjmmmegelkaa
