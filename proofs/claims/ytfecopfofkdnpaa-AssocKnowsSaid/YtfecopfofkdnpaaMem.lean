/- How many stations are associated (both ways), and who holds an identifier. -/
import Derived.Test.YtfecopfofkdnpaaEnt
namespace Go.Proofs.Ytfecopfofkdnpaa
open Go.RowKit
theorem mem_take (l : List En) (j : Nat) (x : En) (h : l[j]? = some x) : membersF (l.take (j + 1)) = membersF (l.take j) + if x.state == 2 then 1 else 0 := by
  unfold membersF
  rw [List.take_add_one, h, Option.toList_some, List.countP_append, List.countP_singleton]
theorem mem_le (l : List En) : membersF l ≤ l.length := List.countP_le_length
theorem holder_take (l : List En) (aid : Int) (j : Nat) (x : En) (h : l[j]? = some x) (hT : ∀ k, k < j → isHeld aid (enAt l k) = false) (hx : isHeld aid x = false) : ∀ k, k < j + 1 → isHeld aid (enAt l k) = false := by
  intro k hk
  rcases Nat.lt_succ_iff_lt_or_eq.1 hk with c | c
  · exact hT k c
  · subst c; rw [enAt_some h]; exact hx
theorem holder_none (l : List En) (aid : Int) (hT : ∀ k, k < l.length → isHeld aid (enAt l k) = false) : holderF l aid = -1 := by
  rcases holder_cases l aid with c | ⟨i, hi, c⟩
  · exact c
  · exfalso
    unfold holderF at c
    cases hf : l.findIdx? (isHeld aid) with
    | none => rw [hf] at c; simp at c
    | some k =>
      rw [List.findIdx?_eq_some_iff_getElem] at hf
      obtain ⟨h1, h2, _⟩ := hf
      have := hT k h1
      rw [enAt_get h1, h2] at this; cases this
set_option maxHeartbeats 1600000 in
theorem members30_any (v : Value) (l : List En) (hl : ∀ x ∈ l, x.addr.length = 6) (hn : l.length ≤ 100000) (w : World) (hs : SlT 11 cellsE w v l) :
    Calls Try.prog 46 #[v] w fun e w' => e = .returned (.int .i64 (membersF l)) ∧ Ext w w' := by
  obtain ⟨ad, n, c, rfl, hnl, hcap, hat⟩ := hs; have HAT := kp hat; have HNL := kp hnl; have HLK := kp hl; have H := kp (Loc.start w); have hn2 : n ≤ 100000 := by omega
  clear hat hl hnl hcap hn
  go_enter Try.func46, Try.ntmps46
  go_wp2_with fail
  go_loopw [4, 3] (fun i m wr => ∃ j : Nat, j ≤ n ∧ i = .int .i64 j ∧ m = .int .i64 (membersF (l.take j)) ∧ Kp (Loc w wr [])) (fun i _ _ => n - (intOf i).toNat)
  case atStart => exact ⟨0, by omega, rfl, rfl, H⟩
  case round =>
    obtain ⟨j, hj, rfl, rfl, H⟩ := hrel
    by_cases hlt : j < n
    · obtain ⟨x, hx⟩ : ∃ x, l[j]? = some x := ⟨l[j]'(by rw [← HNL.out]; omega), by simp⟩
      obtain ⟨b, off, rfl, hb, hr⟩ := HAT.out j x hx; have HB := kp hb; have HR := kp hr; have HX := kp hx; have HXK := kp (HLK.out x (List.mem_of_getElem? hx)); clear hb hr hx
      have HR3 := rangeAt_ext HR.out HB.out H.out.1
      have hc6 := HR3 6 _ (cE6 HXK.out)
      clear HR3
      have HML := kp (mem_le (l.take j))
      have HMT := kp (mem_take l j x HX.out)
      have HJL := kp (show (l.take j).length ≤ j from List.length_take_le _ _)
      generalize hm : membersF (l.take j) = m at *
      have hmj : m ≤ 100000 := by have h1 := HML.out; have h2 := HJL.out; omega
      by_cases h2 : x.state = 2
      · have hb2 : (x.state == 2) = true := by simp [h2]
        rw [hb2] at HMT
        clear h2
        go_wp2_with fail
        go_roundw
        case rel => exact ⟨j + 1, by omega, by go_num, by rw [HMT.out]; go_num, H⟩
        case measure => simp [intOf]; omega
      · have hb2 : (x.state == 2) = false := by simp [h2]
        rw [hb2] at HMT
        clear h2
        go_wp2_with fail
        go_roundw
        case rel => exact ⟨j + 1, by omega, by go_num, by rw [HMT.out]; rfl, H⟩
        case measure => simp [intOf]; omega
    · obtain rfl : j = n := by omega
      go_wp2_with fail
      go_ret
      exact ⟨congrArg (fun z => Ending.returned (.int .i64 (membersF z))) (List.take_of_length_le (by rw [HNL.out]; exact Nat.le_refl _)), H.out.1⟩
set_option maxHeartbeats 1600000 in
theorem members_any (a : As) (ha : a.own.length = 6) (v : Value) (l : List En) (hl : ∀ x ∈ l, x.addr.length = 6) (hn : l.length ≤ 100000) (w : World) (hs : SlT 11 cellsE w v l) :
    Calls Try.prog 55 #[.agg (cellsA a v).toArray] w fun e w' => e = .returned (.int .i64 (membersF l)) ∧ Ext w w' := by
  obtain ⟨ad, n, c, rfl, hnl, hcap, hat⟩ := hs; have HAT := kp hat; have HNL := kp hnl; have HLK := kp hl; have H := kp (Loc.start w); have hn2 : n ≤ 100000 := by omega
  have HC9 := kp (cA9 (a := a) (.slice ad n c) ha)
  have HZE0 := kp (show (Try.prog.info? 39).map (·.size) = some (cellsE en0).length by kernel_rfl)
  have HOE := kp one_cellsE
  clear hat hl hnl hcap hn ha
  go_enter Try.func55, Try.ntmps55
  go_wp2_with (first | (((with_reducible show wpList _ _ _ (Oper.mk (some 1) (Op.box 26 _) _ _ _ _ :: _) _ _); (with_reducible refine L_box H rfl 26 _ rfl (cellsA a (.slice ad n c)) rfl ?_); clear H; intro g1 w1 HGg1 HEg1 H; simp only [Act.put, List.setIfInBounds_toArray, List.set_cons_zero, List.set_cons_succ]); have hc9 := run_load_cell H.out 0 rfl _ _ HC9.out))
  clear hc9
  go_loopw [8, 2] (fun i m wr => ∃ j : Nat, j ≤ n ∧ i = .int .i64 j ∧ m = .int .i64 (membersF (l.take j)) ∧ Kp (Loc w wr [(g1, 26, cellsA a (.slice ad n c))])) (fun i _ _ => n - (intOf i).toNat)
  case atStart => exact ⟨0, by omega, rfl, rfl, H⟩
  case round =>
    obtain ⟨j, hj, rfl, rfl, H⟩ := hrel
    by_cases hlt : j < n
    · obtain ⟨x, hx⟩ : ∃ x, l[j]? = some x := ⟨l[j]'(by rw [← HNL.out]; omega), by simp⟩
      obtain ⟨b, off, rfl, hb, hr⟩ := HAT.out j x hx; have HB := kp hb; have HR := kp hr; have HX := kp hx; have HXK := kp (HLK.out x (List.mem_of_getElem? hx)); clear hb hr hx
      have HR3 := kp (rangeAt_ext HR.out HB.out H.out.1)
      have HZX := kp (sizeE HXK.out)
      have HZXa := kp (sizeEa HXK.out)
      have HLE := kp (show (cellsE en0).length = (cellsE x).length by rw [cellsE_len HXK.out]; rfl)
      have H6 := kp (cE6 HXK.out)
      have HML := kp (mem_le (l.take j))
      have HMT := kp (mem_take l j x HX.out)
      have HJL := kp (show (l.take j).length ≤ j from List.length_take_le _ _)
      generalize hm : membersF (l.take j) = m at *
      have hmj : m ≤ 100000 := by have h1 := HML.out; have h2 := HJL.out; omega
      by_cases h2 : x.state = 2
      · have hb2 : (x.state == 2) = true := by simp [h2]
        rw [hb2] at HMT
        clear h2
        go_wp2_with (first | ((with_reducible show wpList _ _ _ (Oper.mk _ (Op.load 39 _) _ _ _ _ :: _) _ _); (refine wpList_load_midG (by kernel_rfl) 39 _ rfl (b) (off + j * 11) rfl (cellsE x) _ (HR3.out) Try.underlying39 rfl (HZX.out) ?_); simp only [Act.put, List.setIfInBounds_toArray, List.set_cons_zero, List.set_cons_succ]) | ((with_reducible show wpList _ _ _ (Oper.mk (some 4) (Op.alloc 39) _ _ _ _ :: _) _ _); (with_reducible refine L_alloc H rfl 39 rfl (cellsE en0) (fun _ _ => by kernel_rfl) ?_); clear H; intro g4 w4 HGg4 HEg4 H; simp only [Act.put, List.setIfInBounds_toArray, List.set_cons_zero, List.set_cons_succ]) | (((with_reducible show wpList _ _ _ (Oper.mk none (Op.store 39 _ _) _ _ _ _ :: _) _ _); (first | (refine L_store H rfl rfl 39 _ _ rfl 0 rfl rfl (cellsE x) rfl (HZXa.out) (HLE.out) (HOE.out _) ?_; clear H; intro w5 HWw5 H; simp only [List.set_cons_zero] at H) | (refine L_store H rfl rfl 39 _ _ rfl 1 rfl rfl (cellsE x) rfl (HZXa.out) (HLE.out) (HOE.out _) ?_; clear H; intro w5 HWw5 H; simp only [List.set_cons_succ, List.set_cons_zero] at H) | (refine L_store H rfl rfl 39 _ _ rfl 2 rfl rfl (cellsE x) rfl (HZXa.out) (HLE.out) (HOE.out _) ?_; clear H; intro w5 HWw5 H; simp only [List.set_cons_succ, List.set_cons_zero] at H) | (refine L_store H rfl rfl 39 _ _ rfl 3 rfl rfl (cellsE x) rfl (HZXa.out) (HLE.out) (HOE.out _) ?_; clear H; intro w5 HWw5 H; simp only [List.set_cons_succ, List.set_cons_zero] at H) | (refine L_store H rfl rfl 39 _ _ rfl 4 rfl rfl (cellsE x) rfl (HZXa.out) (HLE.out) (HOE.out _) ?_; clear H; intro w5 HWw5 H; simp only [List.set_cons_succ, List.set_cons_zero] at H) | (refine L_store H rfl rfl 39 _ _ rfl 5 rfl rfl (cellsE x) rfl (HZXa.out) (HLE.out) (HOE.out _) ?_; clear H; intro w5 HWw5 H; simp only [List.set_cons_succ, List.set_cons_zero] at H))); have hc6 := run_load_cell H.out 0 rfl _ _ H6.out))
        go_roundw
        case rel => exact ⟨j + 1, by omega, by go_num, by rw [HMT.out]; go_num, kp H.out.tl⟩
        case measure => simp [intOf]; omega
      · have hb2 : (x.state == 2) = false := by simp [h2]
        rw [hb2] at HMT
        clear h2
        go_wp2_with (first | ((with_reducible show wpList _ _ _ (Oper.mk _ (Op.load 39 _) _ _ _ _ :: _) _ _); (refine wpList_load_midG (by kernel_rfl) 39 _ rfl (b) (off + j * 11) rfl (cellsE x) _ (HR3.out) Try.underlying39 rfl (HZX.out) ?_); simp only [Act.put, List.setIfInBounds_toArray, List.set_cons_zero, List.set_cons_succ]) | ((with_reducible show wpList _ _ _ (Oper.mk (some 4) (Op.alloc 39) _ _ _ _ :: _) _ _); (with_reducible refine L_alloc H rfl 39 rfl (cellsE en0) (fun _ _ => by kernel_rfl) ?_); clear H; intro g4 w4 HGg4 HEg4 H; simp only [Act.put, List.setIfInBounds_toArray, List.set_cons_zero, List.set_cons_succ]) | (((with_reducible show wpList _ _ _ (Oper.mk none (Op.store 39 _ _) _ _ _ _ :: _) _ _); (first | (refine L_store H rfl rfl 39 _ _ rfl 0 rfl rfl (cellsE x) rfl (HZXa.out) (HLE.out) (HOE.out _) ?_; clear H; intro w5 HWw5 H; simp only [List.set_cons_zero] at H) | (refine L_store H rfl rfl 39 _ _ rfl 1 rfl rfl (cellsE x) rfl (HZXa.out) (HLE.out) (HOE.out _) ?_; clear H; intro w5 HWw5 H; simp only [List.set_cons_succ, List.set_cons_zero] at H) | (refine L_store H rfl rfl 39 _ _ rfl 2 rfl rfl (cellsE x) rfl (HZXa.out) (HLE.out) (HOE.out _) ?_; clear H; intro w5 HWw5 H; simp only [List.set_cons_succ, List.set_cons_zero] at H) | (refine L_store H rfl rfl 39 _ _ rfl 3 rfl rfl (cellsE x) rfl (HZXa.out) (HLE.out) (HOE.out _) ?_; clear H; intro w5 HWw5 H; simp only [List.set_cons_succ, List.set_cons_zero] at H) | (refine L_store H rfl rfl 39 _ _ rfl 4 rfl rfl (cellsE x) rfl (HZXa.out) (HLE.out) (HOE.out _) ?_; clear H; intro w5 HWw5 H; simp only [List.set_cons_succ, List.set_cons_zero] at H) | (refine L_store H rfl rfl 39 _ _ rfl 5 rfl rfl (cellsE x) rfl (HZXa.out) (HLE.out) (HOE.out _) ?_; clear H; intro w5 HWw5 H; simp only [List.set_cons_succ, List.set_cons_zero] at H))); have hc6 := run_load_cell H.out 0 rfl _ _ H6.out))
        go_roundw
        case rel => exact ⟨j + 1, by omega, by go_num, by rw [HMT.out]; rfl, kp H.out.tl⟩
        case measure => simp [intOf]; omega
    · obtain rfl : j = n := by omega
      go_wp2_with fail
      go_ret
      exact ⟨congrArg (fun z => Ending.returned (.int .i64 (membersF z))) (List.take_of_length_le (by rw [HNL.out]; exact Nat.le_refl _)), H.out.1⟩
set_option maxHeartbeats 1600000 in
theorem holder_any (v : Value) (l : List En) (hl : ∀ x ∈ l, x.addr.length = 6) (hn : l.length ≤ 100000) (aid : Int) (w : World) (hs : SlT 11 cellsE w v l) :
    Calls Try.prog 16 #[v, .int .i64 aid] w fun e w' => e = .returned (.int .i64 (holderF l aid)) ∧ Ext w w' := by
  obtain ⟨ad, n, c, rfl, hnl, hcap, hat⟩ := hs; have HAT := kp hat; have HNL := kp hnl; have HLK := kp hl; have H := kp (Loc.start w); have hn2 : n ≤ 100000 := by omega
  clear hat hl hnl hcap hn
  go_enter Try.func16, Try.ntmps16
  go_wp2_with fail
  go_loopw [5] (fun i wr => ∃ j : Nat, j ≤ n ∧ i = .int .i64 j ∧ Kp (∀ k, k < j → isHeld aid (enAt l k) = false) ∧ Kp (Loc w wr [])) (fun i _ => n - (intOf i).toNat)
  case atStart => exact ⟨0, by omega, rfl, kp (fun k hk => by omega), H⟩
  case round =>
    obtain ⟨j, hj, rfl, HT, H⟩ := hrel
    by_cases hlt : j < n
    · obtain ⟨x, hx⟩ : ∃ x, l[j]? = some x := ⟨l[j]'(by rw [← HNL.out]; omega), by simp⟩
      obtain ⟨b, off, rfl, hb, hr⟩ := HAT.out j x hx; have HB := kp hb; have HR := kp hr; have HX := kp hx; have HXK := kp (HLK.out x (List.mem_of_getElem? hx)); clear hb hr hx
      have HR3 := rangeAt_ext HR.out HB.out H.out.1
      have hc6 := HR3 6 _ (cE6 HXK.out)
      have hc7 := HR3 7 _ (cE7 HXK.out)
      clear HR3
      cases hh : isHeld aid x with
      | true =>
        have HO := kp ((holder_eq_iff l aid j (by rw [← HNL.out]; omega) (by rw [enAt_some HX.out]; exact hh)).2 HT.out)
        have hh2 := hh
        simp only [isHeld, Bool.and_eq_true, beq_iff_eq] at hh2
        have hb1 : (x.state == 2) = true := by simp [hh2.1]
        have hb2 : (x.aid == aid) = true := by simp [hh2.2]
        clear hh hh2
        go_wp2_with fail
        go_ret
        exact ⟨congrArg (fun z => Ending.returned (.int .i64 z)) HO.out.symm, H.out.1⟩
      | false =>
        have HO := kp (holder_take l aid j x HX.out HT.out hh)
        simp only [isHeld] at hh
        by_cases c2 : x.state = 2
        · have hb1 : (x.state == 2) = true := by simp [c2]
          have hb2 : (x.aid == aid) = false := by rw [hb1] at hh; simpa using hh
          clear hh c2
          go_wp2_with fail
          go_roundw
          case rel => exact ⟨j + 1, by omega, by go_num, HO, H⟩
          case measure => simp [intOf]; omega
        · have hb1 : (x.state == 2) = false := by simp [c2]
          clear hh c2
          go_wp2_with fail
          go_roundw
          case rel => exact ⟨j + 1, by omega, by go_num, HO, H⟩
          case measure => simp [intOf]; omega
    · obtain rfl : j = n := by omega
      have HO := kp (holder_none l aid (fun k hk => HT.out k (by rw [HNL.out]; exact hk)))
      go_wp2_with fail
      go_ret
      exact ⟨congrArg (fun z => Ending.returned (.int .i64 z)) HO.out.symm, H.out.1⟩
end Go.Proofs.Ytfecopfofkdnpaa
