/- Lists of used numbers: '==', has, append, the literals; operations of a script, opened. -/
import Derived.Test.YtjnaegpjhbobaaaPlain24d
import Derived.Test.YtjnaegpjhbobaaaLaw24f
namespace Go.Proofs.Ytjnaegpjhbobaaa
open Go.RowKit
def cellsU (u : Usd) : List Value := u.key.map V8 ++ [.int .i64 u.tid, .int .i64 u.num]
theorem cellsU_len (u : Usd) (h : u.key.length = 16) : (cellsU u).length = 18 := by simp [cellsU, h]
theorem size69 : (Try.prog.info? 69).map (·.size) = some 18 := by kernel_rfl
theorem sizeU (u : Usd) (h : u.key.length = 16) : (Try.prog.info? 69).map (·.size) = some (cellsU u).length := by rw [size69, cellsU_len u h]
theorem sizeUa (u : Usd) (h : u.key.length = 16) : (Try.prog.info? 69).map (·.size) = some (cellsU u).toArray.size := by rw [List.size_toArray]; exact sizeU u h
theorem one_cellsU (u : Usd) : ∀ v ∈ cellsU u, v.oneCell' = true := by
  intro v hv
  simp only [cellsU, List.mem_append, List.mem_cons, List.not_mem_nil, or_false] at hv
  rcases hv with hv | rfl | rfl
  · exact mem_V8 _ v hv
  · rfl
  · rfl
theorem fields69 : Try.prog.fieldsOf 69 = #[{ name := "Key", type := 45, offset := 0, embedded := false, tag := "", pkgPath := "", byteOffset := 0 }, { name := "Tid", type := 3, offset := 16, embedded := false, tag := "", pkgPath := "", byteOffset := 16 }, { name := "Number", type := 3, offset := 17, embedded := false, tag := "", pkgPath := "", byteOffset := 24 }] := by kernel_rfl
theorem usd_key (u : Usd) (h : u.key.length = 16) : (cellsU u).toArray.extract 0 16 = (u.key.map V8).toArray := by
  apply Array.ext'
  simp only [List.extract_toArray, List.extract_eq_take_drop, cellsU, List.drop_zero]
  rw [List.take_append_of_le_length (by simp [h]), List.take_of_length_le (by simp [h])]
theorem usd_at (u : Usd) (h : u.key.length = 16) : (cellsU u).toArray[16]? = some (.int .i64 u.tid) ∧ (cellsU u).toArray[17]? = some (.int .i64 u.num) := by
  simp [cellsU, h]
theorem eqUsdIn (w : World) (s t : Usd) (hs : s.key.length = 16) (ht : t.key.length = 16) : (Op.equalIn 10000 69 (.agg (cellsU s).toArray) (.agg (cellsU t).toArray)).run Try.prog w = .ok (usdEq s t) w := by
  obtain ⟨ik, hik⟩ := info_ex 45 (by kernel_rfl)
  rw [run_equalIn_struct w 9999 69 _ _ (by kernel_rfl) (by kernel_rfl), fields69]
  rw [eqFields_all w 9999 (fun f => if f.offset = 0 then s.key == t.key else if f.offset = 16 then s.tid == t.tid else s.num == t.num) _ (by decide) fun f hf => ?_]
  · simp [usdEq]
  simp only [List.mem_cons, List.not_mem_nil, or_false] at hf
  rcases hf with rfl | rfl | rfl
  · refine ⟨_, _, part_arr w Try.underlying45 hik _ _, part_arr w Try.underlying45 hik _ _, ?_⟩
    rw [show Try.prog.cellsOf 45 = 16 by kernel_rfl, Nat.zero_add, usd_key s hs, usd_key t ht]
    exact (run_eq_ints (P := Try.prog) w Try.underlying45 Try.underlying5 sizeU8 s.key t.key hs ht 9997).trans (by simp)
  · exact ⟨_, _, part_int w Try.underlying3 (usd_at s hs).1, part_int w Try.underlying3 (usd_at t ht).1, (run_equalIn_int w 9998 3 .i64 .i64 s.tid t.tid Try.underlying3).trans (by simp)⟩
  · exact ⟨_, _, part_int w Try.underlying3 (usd_at s hs).2, part_int w Try.underlying3 (usd_at t ht).2, (run_equalIn_int w 9998 3 .i64 .i64 s.num t.num Try.underlying3).trans (by simp)⟩
theorem eqUsd (w : World) (s t : Usd) (hs : s.key.length = 16) (ht : t.key.length = 16) : (binOp .eql 69 (.agg (cellsU s).toArray) (.agg (cellsU t).toArray)).run Try.prog w = .ok (.bool (usdEq s t)) w := by
  rw [run_eql_struct, eqUsdIn w s t hs ht]; rfl
theorem hasF_take (l : List Usd) (j : Nat) (x u : Usd) (h : l[j]? = some x) (h0 : hasF (l.take j) u = false) (h1 : usdEq x u = false) : hasF (l.take (j + 1)) u = false := by
  unfold hasF at h0 ⊢; rw [List.take_add_one, h, Option.toList_some, List.any_append, h0]; simp [h1]
set_option maxHeartbeats 1600000 in
theorem has_any (v : Value) (l : List Usd) (hl : ∀ x ∈ l, x.key.length = 16) (hn : l.length ≤ 100000) (u : Usd) (hu : u.key.length = 16) (w : World) (hs : SlT 18 cellsU w v l) :
    Calls Try.prog 25 #[v, .agg (cellsU u).toArray] w fun e w' => e = .returned (.bool (hasF l u)) ∧ Ext w w' := by
  obtain ⟨ad, n, c, rfl, hnl, hcap, hat⟩ := hs
  have HAT := kp hat
  have HNL := kp hnl
  have HLK := kp hl
  have HUK := kp hu
  have HZU := kp (sizeUa u hu)
  have H := kp (Loc.start w)
  have hn2 : n ≤ 100000 := by omega
  clear hat hl hu hnl hcap hn
  go_enter Try.func25, Try.ntmps25
  go_wp2_with (first | ((with_reducible show wpList _ _ _ (Oper.mk (some 3) (Op.box 69 _) _ _ _ _ :: _) _ _); (with_reducible refine L_box H rfl 69 _ rfl (cellsU u) rfl ?_); clear H; intro g3 w3 HGg3 HEg3 H; simp only [Act.put, List.setIfInBounds_toArray, List.set_cons_zero, List.set_cons_succ]))
  go_loopw [5] (fun i wr => ∃ j : Nat, j ≤ n ∧ i = .int .i64 j ∧ Kp (hasF (l.take j) u = false) ∧ Kp (Loc w wr [(g3, 69, cellsU u)])) (fun i _ => n - (intOf i).toNat)
  case atStart => exact ⟨0, by omega, rfl, kp rfl, H⟩
  case round =>
    obtain ⟨j, hj, rfl, HT, H⟩ := hrel
    by_cases hlt : j < n
    · obtain ⟨x, hx⟩ : ∃ x, l[j]? = some x := ⟨l[j]'(by rw [← HNL.out]; omega), by simp⟩
      obtain ⟨b, off, rfl, hb, hr⟩ := HAT.out j x hx
      have HB := kp hb
      have HR := kp hr
      have HX := kp hx
      have HXK := kp (HLK.out x (List.mem_of_getElem? hx))
      have HZX := kp (sizeU x HXK.out)
      have heq := fun w => eqUsd w x u HXK.out HUK.out
      clear hb hr hx
      cases he : usdEq x u with
      | false =>
        rw [he] at heq
        have HO := kp (hasF_take l j x u HX.out HT.out he)
        clear he
        go_wp2_with fail
        refine region_free H (tabS [(12, fun zv _ => zv = .slice (some ⟨b, off, none⟩) n c), (13, fun zv _ => zv = .int .i64 j), (14, fun zv _ => zv = .pointer (some ⟨b, off + j * 18, none⟩)), (15, fun zv _ => zv = .agg (cellsU x).toArray), (16, fun zv _ => zv = .agg (cellsU u).toArray), (17, fun zv _ => zv = .bool false)]) [] (tabS_out _ _ (by simp only [List.forall_mem_cons]; exact ⟨mono_eqO _ _, mono_eqO _ _, mono_eqO _ _, mono_eqO _ _, mono_eqO _ _, mono_eqO _ _, by simp⟩)) 6 (by kernel_rfl) (by kernel_rfl) (by kernel_rfl) (by kernel_rfl) [] [] rfl rfl (by decide) (by decide) (by decide) trivial ?_
        simp only [List.take_succ_cons, List.take_zero]
        refine ⟨fun wv12 hov12 hSv12 => ?_, fun v12 => ?_⟩
        · clear hSv12
          clear hov12
          go_wp2_with fail
          exact ⟨rfl, _, rfl, fun d hd => by cases hd; exact rfl, Ext.refl _⟩
        simp only [Act.put, List.setIfInBounds_toArray, List.set_cons_zero, List.set_cons_succ]
        refine ⟨fun wv13 hov13 hSv13 => ?_, fun v13 => ?_⟩
        · clear hSv13
          clear hov13
          go_wp2_with fail
          exact ⟨rfl, _, rfl, fun d hd => by cases hd; exact rfl, Ext.refl _⟩
        simp only [Act.put, List.setIfInBounds_toArray, List.set_cons_zero, List.set_cons_succ]
        refine ⟨fun wv14 hov14 hSv14 => ?_, fun v14 => ?_⟩
        · obtain rfl : v12 = .slice (some ⟨b, off, none⟩) n c := hSv14 12 (by decide) (by decide)
          obtain rfl : v13 = .int .i64 j := hSv14 13 (by decide) (by decide)
          clear hSv14
          clear hov14
          go_wp2_with fail
          exact ⟨rfl, _, rfl, fun d hd => by cases hd; exact rfl, Ext.refl _⟩
        simp only [Act.put, List.setIfInBounds_toArray, List.set_cons_zero, List.set_cons_succ]
        refine ⟨fun wv15 hov15 hSv15 => ?_, fun v15 => ?_⟩
        · obtain rfl : v14 = .pointer (some ⟨b, off + j * 18, none⟩) := hSv15 14 (by decide) (by decide)
          clear hSv15
          have H := kp (H.out.keep [0] (St := []) trivial hov15 (by decide) (by kernel_rfl))
          have HOX := kp hov15
          clear hov15
          have HR3 := kp (rangeAt_ext HR.out HB.out H.out.1)
          go_wp2_with ((with_reducible show wpList _ _ _ (Oper.mk _ (Op.load 69 _) _ _ _ _ :: _) _ _); (with_reducible refine wpList_load_mid rfl 69 _ rfl (b) (off + j * 18) rfl (cellsU x) _ (HR3.out) Try.underlying69 rfl (HZX.out) ?_); simp only [Act.put, List.setIfInBounds_toArray, List.set_cons_zero, List.set_cons_succ])
          exact ⟨rfl, _, rfl, fun d hd => by cases hd; exact rfl, Ext.refl _⟩
        simp only [Act.put, List.setIfInBounds_toArray, List.set_cons_zero, List.set_cons_succ]
        refine ⟨fun wv16 hov16 hSv16 => ?_, fun v16 => ?_⟩
        · clear hSv16
          have H := kp (H.out.keep [0] (St := []) trivial hov16 (by decide) (by kernel_rfl))
          have HOX := kp hov16
          clear hov16
          go_wp2_with ((with_reducible show wpList _ _ _ (Oper.mk _ (Op.load 69 _) _ _ _ _ :: _) _ _); (first | (refine L_load H rfl 69 _ rfl 0 rfl rfl Try.underlying69 rfl (HZU.out) ?_) | (refine L_load H rfl 69 _ rfl 1 rfl rfl Try.underlying69 rfl (HZU.out) ?_) | (refine L_load H rfl 69 _ rfl 2 rfl rfl Try.underlying69 rfl (HZU.out) ?_) | (refine L_load H rfl 69 _ rfl 3 rfl rfl Try.underlying69 rfl (HZU.out) ?_) | (refine L_load H rfl 69 _ rfl 4 rfl rfl Try.underlying69 rfl (HZU.out) ?_) | (refine L_load H rfl 69 _ rfl 5 rfl rfl Try.underlying69 rfl (HZU.out) ?_)); simp only [Act.put, List.setIfInBounds_toArray, List.set_cons_zero, List.set_cons_succ])
          exact ⟨rfl, _, rfl, fun d hd => by cases hd; exact rfl, Ext.refl _⟩
        simp only [Act.put, List.setIfInBounds_toArray, List.set_cons_zero, List.set_cons_succ]
        refine ⟨fun wv17 hov17 hSv17 => ?_, fun v17 => ?_⟩
        · obtain rfl : v15 = .agg (cellsU x).toArray := hSv17 15 (by decide) (by decide)
          obtain rfl : v16 = .agg (cellsU u).toArray := hSv17 16 (by decide) (by decide)
          clear hSv17
          clear hov17
          go_wp2_with fail
          exact ⟨rfl, _, rfl, fun d hd => by cases hd; exact rfl, Ext.refl _⟩
        simp only [Act.put, List.setIfInBounds_toArray, List.set_cons_zero, List.set_cons_succ]
        clear H
        intro wn HOX H hfin
        obtain rfl : v12 = .slice (some ⟨b, off, none⟩) n c := hfin 12 (by decide)
        obtain rfl : v13 = .int .i64 j := hfin 13 (by decide)
        obtain rfl : v14 = .pointer (some ⟨b, off + j * 18, none⟩) := hfin 14 (by decide)
        obtain rfl : v15 = .agg (cellsU x).toArray := hfin 15 (by decide)
        obtain rfl : v16 = .agg (cellsU u).toArray := hfin 16 (by decide)
        obtain rfl : v17 = .bool false := hfin 17 (by decide)
        clear hfin
        simp only [List.drop_succ_cons, List.drop_zero]
        simp only [applyS] at H
        have HXN := kp (HOX.out.ext (Ext.refl wr) (fun g hg => by cases hg))
        go_wp2_with fail
        go_roundw
        case rel => exact ⟨j + 1, by omega, by go_num, HO, H⟩
        case measure => simp [intOf]; omega
      | true =>
        rw [he] at heq
        have HO := kp (show hasF l u = true by unfold hasF; rw [List.any_eq_true]; exact ⟨x, List.mem_of_getElem? HX.out, he⟩)
        clear he
        go_wp2_with fail
        refine region_free H (tabS [(12, fun zv _ => zv = .slice (some ⟨b, off, none⟩) n c), (13, fun zv _ => zv = .int .i64 j), (14, fun zv _ => zv = .pointer (some ⟨b, off + j * 18, none⟩)), (15, fun zv _ => zv = .agg (cellsU x).toArray), (16, fun zv _ => zv = .agg (cellsU u).toArray), (17, fun zv _ => zv = .bool true)]) [] (tabS_out _ _ (by simp only [List.forall_mem_cons]; exact ⟨mono_eqO _ _, mono_eqO _ _, mono_eqO _ _, mono_eqO _ _, mono_eqO _ _, mono_eqO _ _, by simp⟩)) 6 (by kernel_rfl) (by kernel_rfl) (by kernel_rfl) (by kernel_rfl) [] [] rfl rfl (by decide) (by decide) (by decide) trivial ?_
        simp only [List.take_succ_cons, List.take_zero]
        refine ⟨fun wv12 hov12 hSv12 => ?_, fun v12 => ?_⟩
        · clear hSv12
          clear hov12
          go_wp2_with fail
          exact ⟨rfl, _, rfl, fun d hd => by cases hd; exact rfl, Ext.refl _⟩
        simp only [Act.put, List.setIfInBounds_toArray, List.set_cons_zero, List.set_cons_succ]
        refine ⟨fun wv13 hov13 hSv13 => ?_, fun v13 => ?_⟩
        · clear hSv13
          clear hov13
          go_wp2_with fail
          exact ⟨rfl, _, rfl, fun d hd => by cases hd; exact rfl, Ext.refl _⟩
        simp only [Act.put, List.setIfInBounds_toArray, List.set_cons_zero, List.set_cons_succ]
        refine ⟨fun wv14 hov14 hSv14 => ?_, fun v14 => ?_⟩
        · obtain rfl : v12 = .slice (some ⟨b, off, none⟩) n c := hSv14 12 (by decide) (by decide)
          obtain rfl : v13 = .int .i64 j := hSv14 13 (by decide) (by decide)
          clear hSv14
          clear hov14
          go_wp2_with fail
          exact ⟨rfl, _, rfl, fun d hd => by cases hd; exact rfl, Ext.refl _⟩
        simp only [Act.put, List.setIfInBounds_toArray, List.set_cons_zero, List.set_cons_succ]
        refine ⟨fun wv15 hov15 hSv15 => ?_, fun v15 => ?_⟩
        · obtain rfl : v14 = .pointer (some ⟨b, off + j * 18, none⟩) := hSv15 14 (by decide) (by decide)
          clear hSv15
          have H := kp (H.out.keep [0] (St := []) trivial hov15 (by decide) (by kernel_rfl))
          have HOX := kp hov15
          clear hov15
          have HR3 := kp (rangeAt_ext HR.out HB.out H.out.1)
          go_wp2_with ((with_reducible show wpList _ _ _ (Oper.mk _ (Op.load 69 _) _ _ _ _ :: _) _ _); (with_reducible refine wpList_load_mid rfl 69 _ rfl (b) (off + j * 18) rfl (cellsU x) _ (HR3.out) Try.underlying69 rfl (HZX.out) ?_); simp only [Act.put, List.setIfInBounds_toArray, List.set_cons_zero, List.set_cons_succ])
          exact ⟨rfl, _, rfl, fun d hd => by cases hd; exact rfl, Ext.refl _⟩
        simp only [Act.put, List.setIfInBounds_toArray, List.set_cons_zero, List.set_cons_succ]
        refine ⟨fun wv16 hov16 hSv16 => ?_, fun v16 => ?_⟩
        · clear hSv16
          have H := kp (H.out.keep [0] (St := []) trivial hov16 (by decide) (by kernel_rfl))
          have HOX := kp hov16
          clear hov16
          go_wp2_with ((with_reducible show wpList _ _ _ (Oper.mk _ (Op.load 69 _) _ _ _ _ :: _) _ _); (first | (refine L_load H rfl 69 _ rfl 0 rfl rfl Try.underlying69 rfl (HZU.out) ?_) | (refine L_load H rfl 69 _ rfl 1 rfl rfl Try.underlying69 rfl (HZU.out) ?_) | (refine L_load H rfl 69 _ rfl 2 rfl rfl Try.underlying69 rfl (HZU.out) ?_) | (refine L_load H rfl 69 _ rfl 3 rfl rfl Try.underlying69 rfl (HZU.out) ?_) | (refine L_load H rfl 69 _ rfl 4 rfl rfl Try.underlying69 rfl (HZU.out) ?_) | (refine L_load H rfl 69 _ rfl 5 rfl rfl Try.underlying69 rfl (HZU.out) ?_)); simp only [Act.put, List.setIfInBounds_toArray, List.set_cons_zero, List.set_cons_succ])
          exact ⟨rfl, _, rfl, fun d hd => by cases hd; exact rfl, Ext.refl _⟩
        simp only [Act.put, List.setIfInBounds_toArray, List.set_cons_zero, List.set_cons_succ]
        refine ⟨fun wv17 hov17 hSv17 => ?_, fun v17 => ?_⟩
        · obtain rfl : v15 = .agg (cellsU x).toArray := hSv17 15 (by decide) (by decide)
          obtain rfl : v16 = .agg (cellsU u).toArray := hSv17 16 (by decide) (by decide)
          clear hSv17
          clear hov17
          go_wp2_with fail
          exact ⟨rfl, _, rfl, fun d hd => by cases hd; exact rfl, Ext.refl _⟩
        simp only [Act.put, List.setIfInBounds_toArray, List.set_cons_zero, List.set_cons_succ]
        clear H
        intro wn HOX H hfin
        obtain rfl : v12 = .slice (some ⟨b, off, none⟩) n c := hfin 12 (by decide)
        obtain rfl : v13 = .int .i64 j := hfin 13 (by decide)
        obtain rfl : v14 = .pointer (some ⟨b, off + j * 18, none⟩) := hfin 14 (by decide)
        obtain rfl : v15 = .agg (cellsU x).toArray := hfin 15 (by decide)
        obtain rfl : v16 = .agg (cellsU u).toArray := hfin 16 (by decide)
        obtain rfl : v17 = .bool true := hfin 17 (by decide)
        clear hfin
        simp only [List.drop_succ_cons, List.drop_zero]
        simp only [applyS] at H
        have HXN := kp (HOX.out.ext (Ext.refl wr) (fun g hg => by cases hg))
        go_wp2_with fail
        go_ret
        exact ⟨congrArg (fun z => Ending.returned (.bool z)) HO.out.symm, H.out.1⟩
    · obtain rfl : j = n := by omega
      have HO := kp (show hasF l u = false by
        have h := HT.out
        rwa [List.take_of_length_le (by rw [HNL.out]; exact Nat.le_refl _)] at h)
      go_wp2_with fail
      go_ret
      exact ⟨congrArg (fun z => Ending.returned (.bool z)) HO.out.symm, H.out.1⟩
/-- An operation of a script. -/
structure Op24 where
  kind : BitVec 8
  slot : Int
  tid : Int
  num : Int
  key : List (BitVec 8)
def cellsO (o : Op24) : List Value := V8 o.kind :: .int .i64 o.slot :: .int .i64 o.tid :: .int .i64 o.num :: o.key.map V8
theorem cellsO_len (o : Op24) (h : o.key.length = 16) : (cellsO o).length = 20 := by simp [cellsO, h]
theorem size67 : (Try.prog.info? 67).map (·.size) = some 20 := by kernel_rfl
theorem Tr.op {H : Type} {enc : TypeId × Value → H} {w : World} {base : Nat} {cs : List Value} (h : Tr enc Try.prog w base 67 cs) : ∃ o : Op24, o.key.length = 16 ∧ cs = cellsO o := by
  have hl := h.len Try.underlying67 20 (by kernel_rfl)
  obtain ⟨n, h0, wn⟩ := (h.field Try.underlying67 0 5 0 1 rfl (by kernel_rfl)).int Try.underlying5
  obtain ⟨a, h1, _⟩ := (h.field Try.underlying67 1 3 1 1 rfl (by kernel_rfl)).int Try.underlying3
  obtain ⟨b, h2, _⟩ := (h.field Try.underlying67 2 3 2 1 rfl (by kernel_rfl)).int Try.underlying3
  obtain ⟨c, h3, _⟩ := (h.field Try.underlying67 3 3 3 1 rfl (by kernel_rfl)).int Try.underlying3
  obtain ⟨k, hk, h4⟩ := (h.field Try.underlying67 4 45 4 16 rfl (by kernel_rfl)).bytes Try.underlying45 Try.underlying5 (by kernel_rfl) (by kernel_rfl)
  obtain ⟨x, rfl⟩ := bv_of_wf (m := 8) .u8 (.inl ⟨rfl, rfl⟩) wn
  have e0 := cut1 h0
  have e1 := cut1 h1
  have e2 := cut1 h2
  have e3 := cut1 h3
  match cs, hl with
  | c0 :: c1 :: c2 :: c3 :: rest, hl =>
    simp at e0 e1 e2 e3 hl
    have e4 : rest = k.map V8 := by
      have : rest.take 16 = k.map V8 := by simpa using h4
      rwa [List.take_of_length_le (by omega)] at this
    exact ⟨⟨x, a, b, c, k⟩, hk, by rw [e0, e1, e2, e3, e4]; rfl⟩
set_option maxRecDepth 10000 in
theorem open_ops {H : Type} {enc : TypeId × Value → H} {w : World} {r : Reach} {b0 base : Nat} {v : Value} {d : DataW H} {p : List MemPlace}
    (hv : Value.okWide Try.prog w r b0 64 v) (h : DataW.Trod enc Try.prog w base (fun _ => true) true 64 v d p) : ∃ ops : List Op24, (∀ o ∈ ops, o.key.length = 16) ∧ SlT 20 cellsO w v ops ∧ ops.length ≤ 9223372036854775807 := by
  obtain ⟨a, ln, cp, rfl⟩ := WideShapes.okWide_slice Try.underlying64 hv
  obtain ⟨ad, len, cap, h1, h2, h3, h4, h5⟩ := (Tr.of h).slice Try.underlying64 (by rw [show Try.prog.cellsOf 67 = 20 by kernel_rfl]; decide)
  simp only [show Try.prog.cellsOf 67 = 20 by kernel_rfl] at h5
  simp [Value.cells] at h1
  obtain ⟨rfl, rfl, rfl⟩ := h1
  have key : ∀ k, k ≤ ln → ∃ l : List Op24, l.length = k ∧ (∀ q ∈ l, q.key.length = 16) ∧ ∀ (j : Nat) q, l[j]? = some q → ∃ b off, a = some ⟨b, off, none⟩ ∧ b < w.heap.size ∧ w.rangeAt b (off + j * 20) (cellsO q) := by
    intro k
    induction k with
    | zero => intro _; exact ⟨[], rfl, fun q hq => (by cases hq), fun j x hj => by simp at hj⟩
    | succ k ih =>
      intro hk
      obtain ⟨l, hl, h16, hL⟩ := ih (by omega)
      obtain ⟨b, off, es, ha, hb, hel, ht, hr⟩ := h5 k (by omega)
      obtain ⟨q, hq16, rfl⟩ := ht.op
      refine ⟨l ++ [q], by simp [hl], fun x hx => by rcases List.mem_append.1 hx with hx | hx; exact h16 x hx; simp at hx; rw [hx]; exact hq16, fun j y hy => ?_⟩
      by_cases hj : j < l.length
      · rw [List.getElem?_append_left hj] at hy; exact hL j y hy
      · rw [List.getElem?_append_right (by omega)] at hy
        have hj0 : j - l.length = 0 := by
          have := (List.getElem?_eq_some_iff.1 hy).1
          simp at this; omega
        rw [hj0] at hy
        have : q = y := by simpa using hy
        subst this
        obtain rfl : j = k := by omega
        exact ⟨b, off, ha, hb, hr⟩
  obtain ⟨l, hl, h16, hL⟩ := key ln (Nat.le_refl _)
  exact ⟨l, h16, ⟨a, ln, cp, rfl, hl.symm, h2, hL⟩, by unfold maxLen at h3; omega⟩
end Go.Proofs.Ytjnaegpjhbobaaa
