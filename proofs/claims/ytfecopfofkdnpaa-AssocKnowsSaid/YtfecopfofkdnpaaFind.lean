/- Find of both, ByAid. -/
import Derived.Test.YtfecopfofkdnpaaPlace
namespace Go.Proofs.Ytfecopfofkdnpaa
open Go.RowKit
theorem run_box_int {P : Program} (T : TypeId) (k : IntKind) (n : Int) (w : World) : (Instr.box T (.int k n)).run P w = .ok (.pointer (some ⟨w.heap.size, 0, none⟩)) (w.alloc (.cells #[.int k n] T)) := by
  simp [Instr.box, newVar, newRow, go_sem]
theorem L_boxI {P : Program} {ops : Array Oper} {rest : List Oper} {o : Oper} {a : Act} {w0 w : World} {Q : Exit → Act → World → Prop} {bs : List Bk} (H : Kp (Loc w0 w bs)) (hg : o.guard = none) (t : TypeId) (x : Operand) (ho : o.op = .box t x) (k : IntKind) (n : Int) (hx : a.eval x = .int k n)
    (h : ∀ g w', Kp (g = w.heap.size) → Kp (Ext w w') → Kp (Loc w0 w' ((g, t, [.int k n]) :: bs)) → wpList P ops Q rest (a.put o.dst (.pointer (some ⟨g, 0, none⟩))) w') : wpList P ops Q (o :: rest) a w := by
  refine wpList_plain hg fun K hK => ?_
  unfold Oper.wp execOp
  simp only [ho, hx, Sem.run_bind, Sem.run_pure, Result.andThen_ok, run_box_int]
  exact hK _ _ (h _ _ (kp rfl) (kp (Ext.alloc _ _)) (kp (H.out.new t [.int k n])))
theorem en0_len : en0.addr.length = 6 := rfl
theorem findE_bad {a : As} {l : List En} {t : List (BitVec 8)} (h : validA a l = false) : findE a l t = (en0, false) := by simp [findE, h]
theorem byE_bad {a : As} {l : List En} {aid : Int} (h : validA a l = false) : byE a l aid = (en0, false) := by simp [byE, h]
theorem findE_of {a : As} {l : List En} {t : List (BitVec 8)} {i : Nat} {found : Bool} (hv : validA a l = true) (hl : ∀ e ∈ l, e.addr.length = 6) (ht : t.length = 6) (h : PlaceP l t i found) : findE a l t = (if found then (enAt l i, true) else (en0, false)) ∧ (found = true → i < l.length) := by
  obtain ⟨h1, h2⟩ := place_find h (sorted_of_valid hv) hl ht
  unfold findE
  cases found with
  | true =>
    obtain ⟨h3, h4⟩ := h2 rfl
    rw [hv, ← h1, h3]
    exact ⟨by simp, fun _ => h4⟩
  | false =>
    rw [hv, ← h1]
    exact ⟨by simp, fun h => by cases h⟩
theorem byE_no {a : As} {l : List En} {aid : Int} (h : holderF l aid = -1) : byE a l aid = (en0, false) := by simp [byE, h]
theorem byE_yes {a : As} {l : List En} {aid : Int} {i : Nat} (hv : validA a l = true) (h : holderF l aid = i) : byE a l aid = (enAt l i, true) := by simp [byE, hv, h]
set_option maxHeartbeats 6400000 in
theorem find_any (a : As) (ha : a.own.length = 6) (v : Value) (l : List En) (hl : ∀ x ∈ l, x.addr.length = 6) (hn : l.length ≤ 100000) (t : List (BitVec 8)) (ht : t.length = 6) (w : World) (hs : SlT 11 cellsE w v l) :
    Calls Try.prog 12 #[.agg (cellsA a v).toArray, .agg (t.map V8).toArray] w fun e w' => e = .returned (.tuple #[.agg (cellsE (findE a l t).1).toArray, .bool (findE a l t).2]) ∧ Ext w w' := by
  have HSL := kp hs
  have HCH := kp (fun w' hx => check_any a ha v l hl hn w' (HSL.out.ext hx))
  have HPL := kp (fun w' hx => place_any a ha v l hl hn t ht w' (HSL.out.ext hx))
  obtain ⟨ad, n, c, rfl, hnl, hcap, hat⟩ := hs
  have HAT := kp hat; have HNL := kp hnl; have HLK := kp hl; have H := kp (Loc.start w); have hn2 : n ≤ 100000 := by omega
  have HTK := kp ht
  have HC9 := kp (cA9 (a := a) (.slice ad n c) ha)
  have HZA := kp (sizeAs (a := a) (.slice ad n c) ha)
  have HZT := kp (sizeA8a ht)
  have HZE0 := kp (show (Try.prog.info? 39).map (·.size) = some (cellsE en0).toArray.size by kernel_rfl)
  have HOE := kp one_cellsE
  clear hat hl hnl hcap hn ht ha
  go_enter Try.func12, Try.ntmps12
  generalize h2 : ((Code.region 2 _ _ : Code).seq _) = C2
  go_wp2_with (first | ((with_reducible show wpList _ _ _ (Oper.mk (some 2) (Op.box 26 _) _ _ _ _ :: _) _ _); (with_reducible refine L_box H rfl 26 _ rfl (cellsA a (.slice ad n c)) rfl ?_); clear H; intro g2 w2 HGg2 HEg2 H; simp only [Act.put, List.setIfInBounds_toArray, List.set_cons_zero, List.set_cons_succ]) | ((with_reducible show wpList _ _ _ (Oper.mk (some 3) (Op.box 23 _) _ _ _ _ :: _) _ _); (with_reducible refine L_box H rfl 23 _ rfl (t.map V8) rfl ?_); clear H; intro g3 w3 HGg3 HEg3 H; simp only [Act.put, List.setIfInBounds_toArray, List.set_cons_zero, List.set_cons_succ]) | ((with_reducible show wpList _ _ _ (Oper.mk (some 4) (Op.alloc 39) _ _ _ _ :: _) _ _); (with_reducible refine L_alloc H rfl 39 rfl (cellsE en0) (fun _ _ => by kernel_rfl) ?_); clear H; intro g4 w4 HGg4 HEg4 H; simp only [Act.put, List.setIfInBounds_toArray, List.set_cons_zero, List.set_cons_succ]) | ((with_reducible show wpList _ _ _ (Oper.mk _ (Op.load 26 _) _ _ _ _ :: _) _ _); (refine wpList_load_rowG (by kernel_rfl) 26 _ rfl (g2) rfl 26 (cellsA a (.slice ad n c)).toArray (0, 0) _ (H.out.at 2 rfl) Try.underlying26 rfl (HZA.out) ?_); simp only [Act.put, List.setIfInBounds_toArray, List.set_cons_zero, List.set_cons_succ]) | ((with_reducible show wpList _ _ _ (Oper.mk _ (Op.load 23 _) _ _ _ _ :: _) _ _); (refine wpList_load_rowG (by kernel_rfl) 23 _ rfl (g3) rfl 23 (t.map V8).toArray (0, 0) _ (H.out.at 1 rfl) Try.underlying23 rfl (HZT.out) ?_); simp only [Act.put, List.setIfInBounds_toArray, List.set_cons_zero, List.set_cons_succ]) | (go_at_call 41; refine (HPL.out _ H.out.1).mono ?_; rintro e wa ⟨i, found, hp, rfl, hx⟩; have HPP := kp hp; clear hp; have H2 := kp (H.out.ext hx); have HXC := kp hx; clear H hx; have H := H2; clear H2))
  subst h2
  cases hv : validA a l with
  | false =>
    have HCC := kp (chk_bad hv)
    have HF := kp (findE_bad (t := t) hv)
    clear hv
    rw [HCC.out] at HCH
    go_wp2_with (first | ((with_reducible show wpList _ _ _ (Oper.mk _ (Op.load 26 _) _ _ _ _ :: _) _ _); (refine wpList_load_rowG (by kernel_rfl) 26 _ rfl (g2) rfl 26 (cellsA a (.slice ad n c)).toArray (0, 0) _ (H.out.at 2 rfl) Try.underlying26 rfl (HZA.out) ?_); simp only [Act.put, List.setIfInBounds_toArray, List.set_cons_zero, List.set_cons_succ]) | (go_at_call 20; refine (HCH.out _ H.out.1).mono ?_; rintro e wa ⟨rfl, hx⟩; have H2 := kp (H.out.ext hx); have HXC := kp hx; clear H hx; have H := H2; clear H2) | ((with_reducible show wpList _ _ _ (Oper.mk (some 21) (Op.build 39 _) _ _ _ _ :: _) _ _); (refine L_bd (by kernel_rfl) 39 _ rfl (#[]) (by kernel_rfl) (cellsE en0) (fun _ => by kernel_rfl) ?_); simp only [Act.put, List.setIfInBounds_toArray, List.set_cons_zero, List.set_cons_succ]) | ((with_reducible show wpList _ _ _ (Oper.mk none (Op.store 39 _ _) _ _ _ _ :: _) _ _); (first | (refine L_store H rfl rfl 39 _ _ rfl 0 rfl rfl (cellsE en0) rfl (HZE0.out) (rfl) (HOE.out _) ?_; clear H; intro w9 HWw9 H; simp only [List.set_cons_zero] at H) | (refine L_store H rfl rfl 39 _ _ rfl 1 rfl rfl (cellsE en0) rfl (HZE0.out) (rfl) (HOE.out _) ?_; clear H; intro w9 HWw9 H; simp only [List.set_cons_succ, List.set_cons_zero] at H) | (refine L_store H rfl rfl 39 _ _ rfl 2 rfl rfl (cellsE en0) rfl (HZE0.out) (rfl) (HOE.out _) ?_; clear H; intro w9 HWw9 H; simp only [List.set_cons_succ, List.set_cons_zero] at H) | (refine L_store H rfl rfl 39 _ _ rfl 3 rfl rfl (cellsE en0) rfl (HZE0.out) (rfl) (HOE.out _) ?_; clear H; intro w9 HWw9 H; simp only [List.set_cons_succ, List.set_cons_zero] at H) | (refine L_store H rfl rfl 39 _ _ rfl 4 rfl rfl (cellsE en0) rfl (HZE0.out) (rfl) (HOE.out _) ?_; clear H; intro w9 HWw9 H; simp only [List.set_cons_succ, List.set_cons_zero] at H) | (refine L_store H rfl rfl 39 _ _ rfl 5 rfl rfl (cellsE en0) rfl (HZE0.out) (rfl) (HOE.out _) ?_; clear H; intro w9 HWw9 H; simp only [List.set_cons_succ, List.set_cons_zero] at H))))
    rw [HF.out]
    exact ret_row2 Try.results12 _ _ _ (0, 0) _ rfl _ rfl (H.out.at 0 rfl) Try.underlying39 rfl (HZE0.out) rfl ⟨rfl, H.out.1⟩
  | true =>
    have HCC := kp (chk_good hv)
    have HF := kp (findE_of hv HLK.out HTK.out HPP.out)
    clear hv
    rw [HCC.out] at HCH
    cases found with
    | false =>
      have HF := kp HF.out.1
      go_wp2_with (first | ((with_reducible show wpList _ _ _ (Oper.mk _ (Op.load 26 _) _ _ _ _ :: _) _ _); (refine wpList_load_rowG (by kernel_rfl) 26 _ rfl (g2) rfl 26 (cellsA a (.slice ad n c)).toArray (0, 0) _ (H.out.at 2 rfl) Try.underlying26 rfl (HZA.out) ?_); simp only [Act.put, List.setIfInBounds_toArray, List.set_cons_zero, List.set_cons_succ]) | (go_at_call 20; refine (HCH.out _ H.out.1).mono ?_; rintro e wa ⟨rfl, hx⟩; have H2 := kp (H.out.ext hx); have HXC := kp hx; clear H hx; have H := H2; clear H2) | ((with_reducible show wpList _ _ _ (Oper.mk (some 21) (Op.build 39 _) _ _ _ _ :: _) _ _); (refine L_bd (by kernel_rfl) 39 _ rfl (#[]) (by kernel_rfl) (cellsE en0) (fun _ => by kernel_rfl) ?_); simp only [Act.put, List.setIfInBounds_toArray, List.set_cons_zero, List.set_cons_succ]) | ((with_reducible show wpList _ _ _ (Oper.mk none (Op.store 39 _ _) _ _ _ _ :: _) _ _); (first | (refine L_store H rfl rfl 39 _ _ rfl 0 rfl rfl (cellsE en0) rfl (HZE0.out) (rfl) (HOE.out _) ?_; clear H; intro w9 HWw9 H; simp only [List.set_cons_zero] at H) | (refine L_store H rfl rfl 39 _ _ rfl 1 rfl rfl (cellsE en0) rfl (HZE0.out) (rfl) (HOE.out _) ?_; clear H; intro w9 HWw9 H; simp only [List.set_cons_succ, List.set_cons_zero] at H) | (refine L_store H rfl rfl 39 _ _ rfl 2 rfl rfl (cellsE en0) rfl (HZE0.out) (rfl) (HOE.out _) ?_; clear H; intro w9 HWw9 H; simp only [List.set_cons_succ, List.set_cons_zero] at H) | (refine L_store H rfl rfl 39 _ _ rfl 3 rfl rfl (cellsE en0) rfl (HZE0.out) (rfl) (HOE.out _) ?_; clear H; intro w9 HWw9 H; simp only [List.set_cons_succ, List.set_cons_zero] at H) | (refine L_store H rfl rfl 39 _ _ rfl 4 rfl rfl (cellsE en0) rfl (HZE0.out) (rfl) (HOE.out _) ?_; clear H; intro w9 HWw9 H; simp only [List.set_cons_succ, List.set_cons_zero] at H) | (refine L_store H rfl rfl 39 _ _ rfl 5 rfl rfl (cellsE en0) rfl (HZE0.out) (rfl) (HOE.out _) ?_; clear H; intro w9 HWw9 H; simp only [List.set_cons_succ, List.set_cons_zero] at H))))
      rw [show findE a l t = (en0, false) from HF.out]
      exact ret_row2 Try.results12 _ _ _ (0, 0) _ rfl _ rfl (H.out.at 0 rfl) Try.underlying39 rfl (HZE0.out) rfl ⟨rfl, H.out.1⟩
    | true =>
      have HIL := kp (HF.out.2 rfl)
      have HF := kp HF.out.1
      obtain ⟨x, hx⟩ : ∃ x, l[i]? = some x := ⟨l[i]'HIL.out, by simp⟩
      obtain ⟨b, off, rfl, hb, hr⟩ := HAT.out i x hx
      have HB := kp hb
      have HR := kp hr
      have HXA := kp (enAt_some hx)
      have HXK := kp (HLK.out x (List.mem_of_getElem? hx))
      have hin : i < n := by rw [HNL.out]; exact HIL.out
      clear hb hr hx
      have HZX := kp (sizeE HXK.out)
      have HZXa := kp (sizeEa HXK.out)
      have HLE := kp (show (cellsE en0).length = (cellsE x).length by rw [cellsE_len HXK.out]; rfl)
      go_wp2_with (first | ((with_reducible show wpList _ _ _ (Oper.mk _ (Op.load 26 _) _ _ _ _ :: _) _ _); (refine wpList_load_rowG (by kernel_rfl) 26 _ rfl (g2) rfl 26 (cellsA a (.slice (some ⟨b, off, none⟩) n c)).toArray (0, 0) _ (H.out.at 2 rfl) Try.underlying26 rfl (HZA.out) ?_); simp only [Act.put, List.setIfInBounds_toArray, List.set_cons_zero, List.set_cons_succ]) | (go_at_call 20; refine (HCH.out _ H.out.1).mono ?_; rintro e wa ⟨rfl, hx⟩; have H2 := kp (H.out.ext hx); have HXC := kp hx; clear H hx; have H := H2; clear H2; have hc9 := run_load_cell H.out 2 rfl _ _ HC9.out; have HR3 := kp (rangeAt_ext HR.out HB.out H.out.1)) | ((with_reducible show wpList _ _ _ (Oper.mk _ (Op.load 39 _) _ _ _ _ :: _) _ _); (refine wpList_load_midG (by kernel_rfl) 39 _ rfl (b) (off + i * 11) rfl (cellsE x) _ (HR3.out) Try.underlying39 rfl (HZX.out) ?_); simp only [Act.put, List.setIfInBounds_toArray, List.set_cons_zero, List.set_cons_succ]) | ((with_reducible show wpList _ _ _ (Oper.mk none (Op.store 39 _ _) _ _ _ _ :: _) _ _); (first | (refine L_store H rfl rfl 39 _ _ rfl 0 rfl rfl (cellsE x) rfl (HZXa.out) (HLE.out) (HOE.out _) ?_; clear H; intro w9 HWw9 H; simp only [List.set_cons_zero] at H) | (refine L_store H rfl rfl 39 _ _ rfl 1 rfl rfl (cellsE x) rfl (HZXa.out) (HLE.out) (HOE.out _) ?_; clear H; intro w9 HWw9 H; simp only [List.set_cons_succ, List.set_cons_zero] at H) | (refine L_store H rfl rfl 39 _ _ rfl 2 rfl rfl (cellsE x) rfl (HZXa.out) (HLE.out) (HOE.out _) ?_; clear H; intro w9 HWw9 H; simp only [List.set_cons_succ, List.set_cons_zero] at H) | (refine L_store H rfl rfl 39 _ _ rfl 3 rfl rfl (cellsE x) rfl (HZXa.out) (HLE.out) (HOE.out _) ?_; clear H; intro w9 HWw9 H; simp only [List.set_cons_succ, List.set_cons_zero] at H) | (refine L_store H rfl rfl 39 _ _ rfl 4 rfl rfl (cellsE x) rfl (HZXa.out) (HLE.out) (HOE.out _) ?_; clear H; intro w9 HWw9 H; simp only [List.set_cons_succ, List.set_cons_zero] at H) | (refine L_store H rfl rfl 39 _ _ rfl 5 rfl rfl (cellsE x) rfl (HZXa.out) (HLE.out) (HOE.out _) ?_; clear H; intro w9 HWw9 H; simp only [List.set_cons_succ, List.set_cons_zero] at H))))
      rw [show findE a l t = (enAt l i, true) from HF.out, HXA.out]
      exact ret_row2 Try.results12 _ _ _ (0, 0) _ rfl _ rfl (H.out.at 0 rfl) Try.underlying39 rfl (HZXa.out) rfl ⟨rfl, H.out.1⟩
set_option maxHeartbeats 6400000 in
theorem find30_any (a : As) (ha : a.own.length = 6) (v : Value) (l : List En) (hl : ∀ x ∈ l, x.addr.length = 6) (hn : l.length ≤ 100000) (t : List (BitVec 8)) (ht : t.length = 6) (w : World) (hs : SlT 11 cellsE w v l) :
    Calls Try.prog 15 #[.agg (cellsA a v).toArray, .agg (t.map V8).toArray] w fun e w' => e = .returned (.int .i64 (findI l t)) ∧ Ext w w' := by
  obtain ⟨ad, n, c, rfl, hnl, hcap, hat⟩ := hs
  have HAT := kp hat; have HNL := kp hnl; have HLK := kp hl; have H := kp (Loc.start w); have hn2 : n ≤ 100000 := by omega
  have HTK := kp ht
  have HC9 := kp (cA9 (a := a) (.slice ad n c) ha)
  have HZT := kp (sizeA8a ht)
  clear hat hl hnl hcap hn ht ha
  go_enter Try.func15, Try.ntmps15
  go_wp2_with (first | ((with_reducible show wpList _ _ _ (Oper.mk (some 2) (Op.box 26 _) _ _ _ _ :: _) _ _); (with_reducible refine L_box H rfl 26 _ rfl (cellsA a (.slice ad n c)) rfl ?_); clear H; intro g2 w2 HGg2 HEg2 H; simp only [Act.put, List.setIfInBounds_toArray, List.set_cons_zero, List.set_cons_succ]) | ((with_reducible show wpList _ _ _ (Oper.mk (some 3) (Op.box 23 _) _ _ _ _ :: _) _ _); (with_reducible refine L_box H rfl 23 _ rfl (t.map V8) rfl ?_); clear H; intro g3 w3 HGg3 HEg3 H; simp only [Act.put, List.setIfInBounds_toArray, List.set_cons_zero, List.set_cons_succ]))
  go_loopw [5] (fun i wr => ∃ j : Nat, j ≤ n ∧ i = .int .i64 j ∧ Kp (∀ k, k < j → (enAt l k).addr ≠ t) ∧ Kp (Loc w wr [(g3, 23, t.map V8), (g2, 26, cellsA a (.slice ad n c))])) (fun i _ => n - (intOf i).toNat)
  case atStart => exact ⟨0, by omega, rfl, kp (fun k hk => by omega), H⟩
  case round =>
    obtain ⟨j, hj, rfl, HT, H⟩ := hrel
    have hc9 := run_load_cell H.out 1 rfl _ _ HC9.out
    by_cases hlt : j < n
    · go_wp2_with fail
      clear hc9
      obtain ⟨x, hx⟩ : ∃ x, l[j]? = some x := ⟨l[j]'(by rw [← HNL.out]; omega), by simp⟩
      obtain ⟨b, off, rfl, hb, hr⟩ := HAT.out j x hx; have HB := kp hb; have HR := kp hr; have HX := kp hx; have HXK := kp (HLK.out x (List.mem_of_getElem? hx)); clear hb hr hx
      have HZX := kp (sizeA8 HXK.out)
      have HRX := kp (show w.rangeAt b (off + j * 11) (x.addr.map V8) from fun i v hv => HR.out i v (by
        have h6 := HXK.out
        rw [cellsE, List.getElem?_append_left (by rw [List.length_map, h6]; have := (List.getElem?_eq_some_iff.1 hv).1; rw [List.length_map, h6] at this; exact this)]
        exact hv))
      have heq := fun w => eqAddr x.addr t HXK.out HTK.out w
      have HJL := kp (show j < l.length by rw [← HNL.out]; exact hlt)
      cases ho : (x.addr == t) with
      | true =>
        rw [ho] at heq
        have HK := kp (findI_some (t := t) HJL.out (by rw [enAt_some HX.out]; simpa using ho) HT.out)
        clear ho
        refine region_free H (tabS [(13, fun zv _ => zv = .pointer (some ⟨g2, 9, none⟩)), (14, fun zv _ => zv = .slice (some ⟨b, off, none⟩) n c), (15, fun zv _ => zv = .int .i64 j), (16, fun zv _ => zv = .pointer (some ⟨b, off + j * 11, none⟩)), (17, fun zv _ => zv = .pointer (some ⟨b, off + j * 11, none⟩)), (18, fun zv _ => zv = .agg (x.addr.map V8).toArray), (19, fun zv _ => zv = .agg (t.map V8).toArray), (20, fun zv _ => zv = .bool true)]) [] (tabS_out _ _ (by simp only [List.forall_mem_cons]; exact ⟨mono_eqO _ _, mono_eqO _ _, mono_eqO _ _, mono_eqO _ _, mono_eqO _ _, mono_eqO _ _, mono_eqO _ _, mono_eqO _ _, by simp⟩)) 8 (by kernel_rfl) (by kernel_rfl) (by kernel_rfl) (by kernel_rfl) [] [] rfl rfl (by decide) (by decide) (by decide) trivial ?_
        simp only [List.take_succ_cons, List.take_zero]
        refine ⟨fun wv13 hov13 hSv13 => ?_, fun v13 => ?_⟩
        · clear hSv13
          clear hov13
          go_wp2_with fail
          exact ⟨rfl, _, rfl, fun d hd => by cases hd; exact rfl, Ext.refl _⟩
        simp only [Act.put, List.setIfInBounds_toArray, List.set_cons_zero, List.set_cons_succ]
        refine ⟨fun wv14 hov14 hSv14 => ?_, fun v14 => ?_⟩
        · obtain rfl : v13 = .pointer (some ⟨g2, 9, none⟩) := hSv14 13 (by decide) (by decide)
          clear hSv14
          have H := kp (H.out.keep [0, 1] (St := []) trivial hov14 (by decide) (by kernel_rfl))
          have HOX := kp hov14
          clear hov14
          have hc := run_load_cell H.out 1 rfl _ _ HC9.out
          go_wp2_with fail
          exact ⟨rfl, _, rfl, fun d hd => by cases hd; exact rfl, Ext.refl _⟩
        simp only [Act.put, List.setIfInBounds_toArray, List.set_cons_zero, List.set_cons_succ]
        refine ⟨fun wv15 hov15 hSv15 => ?_, fun v15 => ?_⟩
        · clear hSv15
          clear hov15
          go_wp2_with fail
          exact ⟨rfl, _, rfl, fun d hd => by cases hd; exact rfl, Ext.refl _⟩
        simp only [Act.put, List.setIfInBounds_toArray, List.set_cons_zero, List.set_cons_succ]
        refine ⟨fun wv16 hov16 hSv16 => ?_, fun v16 => ?_⟩
        · obtain rfl : v14 = .slice (some ⟨b, off, none⟩) n c := hSv16 14 (by decide) (by decide)
          obtain rfl : v15 = .int .i64 j := hSv16 15 (by decide) (by decide)
          clear hSv16
          clear hov16
          go_wp2_with fail
          exact ⟨rfl, _, rfl, fun d hd => by cases hd; exact rfl, Ext.refl _⟩
        simp only [Act.put, List.setIfInBounds_toArray, List.set_cons_zero, List.set_cons_succ]
        refine ⟨fun wv17 hov17 hSv17 => ?_, fun v17 => ?_⟩
        · obtain rfl : v16 = .pointer (some ⟨b, off + j * 11, none⟩) := hSv17 16 (by decide) (by decide)
          clear hSv17
          clear hov17
          go_wp2_with fail
          exact ⟨rfl, _, rfl, fun d hd => by cases hd; exact rfl, Ext.refl _⟩
        simp only [Act.put, List.setIfInBounds_toArray, List.set_cons_zero, List.set_cons_succ]
        refine ⟨fun wv18 hov18 hSv18 => ?_, fun v18 => ?_⟩
        · obtain rfl : v17 = .pointer (some ⟨b, off + j * 11, none⟩) := hSv18 17 (by decide) (by decide)
          clear hSv18
          have H := kp (H.out.keep [0, 1] (St := []) trivial hov18 (by decide) (by kernel_rfl))
          have HOX := kp hov18
          clear hov18
          go_wp2_with ((with_reducible show wpList _ _ _ (Oper.mk _ (Op.load 23 _) _ _ _ _ :: _) _ _); (refine wpList_load_midG (by kernel_rfl) 23 _ rfl (b) (off + j * 11) rfl (x.addr.map V8) _ ((rangeAt_ext HRX.out HB.out H.out.1)) Try.underlying23 rfl (HZX.out) ?_); simp only [Act.put, List.setIfInBounds_toArray, List.set_cons_zero, List.set_cons_succ])
          exact ⟨rfl, _, rfl, fun d hd => by cases hd; exact rfl, Ext.refl _⟩
        simp only [Act.put, List.setIfInBounds_toArray, List.set_cons_zero, List.set_cons_succ]
        refine ⟨fun wv19 hov19 hSv19 => ?_, fun v19 => ?_⟩
        · clear hSv19
          have H := kp (H.out.keep [0, 1] (St := []) trivial hov19 (by decide) (by kernel_rfl))
          have HOX := kp hov19
          clear hov19
          go_wp2_with ((with_reducible show wpList _ _ _ (Oper.mk _ (Op.load 23 _) _ _ _ _ :: _) _ _); (refine wpList_load_rowG (by kernel_rfl) 23 _ rfl (g3) rfl 23 (t.map V8).toArray (0, 0) _ (H.out.at 0 rfl) Try.underlying23 rfl (HZT.out) ?_); simp only [Act.put, List.setIfInBounds_toArray, List.set_cons_zero, List.set_cons_succ])
          exact ⟨rfl, _, rfl, fun d hd => by cases hd; exact rfl, Ext.refl _⟩
        simp only [Act.put, List.setIfInBounds_toArray, List.set_cons_zero, List.set_cons_succ]
        refine ⟨fun wv20 hov20 hSv20 => ?_, fun v20 => ?_⟩
        · obtain rfl : v18 = .agg (x.addr.map V8).toArray := hSv20 18 (by decide) (by decide)
          obtain rfl : v19 = .agg (t.map V8).toArray := hSv20 19 (by decide) (by decide)
          clear hSv20
          clear hov20
          go_wp2_with fail
          exact ⟨rfl, _, rfl, fun d hd => by cases hd; exact rfl, Ext.refl _⟩
        simp only [Act.put, List.setIfInBounds_toArray, List.set_cons_zero, List.set_cons_succ]
        clear H
        intro w7 HOX H hfin
        obtain rfl : v13 = .pointer (some ⟨g2, 9, none⟩) := hfin 13 (by decide)
        obtain rfl : v14 = .slice (some ⟨b, off, none⟩) n c := hfin 14 (by decide)
        obtain rfl : v15 = .int .i64 j := hfin 15 (by decide)
        obtain rfl : v16 = .pointer (some ⟨b, off + j * 11, none⟩) := hfin 16 (by decide)
        obtain rfl : v17 = .pointer (some ⟨b, off + j * 11, none⟩) := hfin 17 (by decide)
        obtain rfl : v18 = .agg (x.addr.map V8).toArray := hfin 18 (by decide)
        obtain rfl : v19 = .agg (t.map V8).toArray := hfin 19 (by decide)
        obtain rfl : v20 = .bool true := hfin 20 (by decide)
        clear hfin
        simp only [List.drop_succ_cons, List.drop_zero]
        simp only [applyS] at H
        have HXN := kp (HOX.out.ext (Ext.refl wr) (fun g hg => by cases hg))
        clear heq
        go_wp2_with fail
        go_ret
        exact ⟨congrArg (fun z => Ending.returned (.int .i64 z)) HK.out.symm, H.out.1⟩
      | false =>
        rw [ho] at heq
        have HK := kp (show ∀ k, k < j + 1 → (enAt l k).addr ≠ t from fun k hk => by
          rcases Nat.lt_succ_iff_lt_or_eq.1 hk with q | q
          · exact HT.out k q
          · subst q; rw [enAt_some HX.out]; simpa using ho)
        clear ho
        refine region_free H (tabS [(13, fun zv _ => zv = .pointer (some ⟨g2, 9, none⟩)), (14, fun zv _ => zv = .slice (some ⟨b, off, none⟩) n c), (15, fun zv _ => zv = .int .i64 j), (16, fun zv _ => zv = .pointer (some ⟨b, off + j * 11, none⟩)), (17, fun zv _ => zv = .pointer (some ⟨b, off + j * 11, none⟩)), (18, fun zv _ => zv = .agg (x.addr.map V8).toArray), (19, fun zv _ => zv = .agg (t.map V8).toArray), (20, fun zv _ => zv = .bool false)]) [] (tabS_out _ _ (by simp only [List.forall_mem_cons]; exact ⟨mono_eqO _ _, mono_eqO _ _, mono_eqO _ _, mono_eqO _ _, mono_eqO _ _, mono_eqO _ _, mono_eqO _ _, mono_eqO _ _, by simp⟩)) 8 (by kernel_rfl) (by kernel_rfl) (by kernel_rfl) (by kernel_rfl) [] [] rfl rfl (by decide) (by decide) (by decide) trivial ?_
        simp only [List.take_succ_cons, List.take_zero]
        refine ⟨fun wv13 hov13 hSv13 => ?_, fun v13 => ?_⟩
        · clear hSv13
          clear hov13
          go_wp2_with fail
          exact ⟨rfl, _, rfl, fun d hd => by cases hd; exact rfl, Ext.refl _⟩
        simp only [Act.put, List.setIfInBounds_toArray, List.set_cons_zero, List.set_cons_succ]
        refine ⟨fun wv14 hov14 hSv14 => ?_, fun v14 => ?_⟩
        · obtain rfl : v13 = .pointer (some ⟨g2, 9, none⟩) := hSv14 13 (by decide) (by decide)
          clear hSv14
          have H := kp (H.out.keep [0, 1] (St := []) trivial hov14 (by decide) (by kernel_rfl))
          have HOX := kp hov14
          clear hov14
          have hc := run_load_cell H.out 1 rfl _ _ HC9.out
          go_wp2_with fail
          exact ⟨rfl, _, rfl, fun d hd => by cases hd; exact rfl, Ext.refl _⟩
        simp only [Act.put, List.setIfInBounds_toArray, List.set_cons_zero, List.set_cons_succ]
        refine ⟨fun wv15 hov15 hSv15 => ?_, fun v15 => ?_⟩
        · clear hSv15
          clear hov15
          go_wp2_with fail
          exact ⟨rfl, _, rfl, fun d hd => by cases hd; exact rfl, Ext.refl _⟩
        simp only [Act.put, List.setIfInBounds_toArray, List.set_cons_zero, List.set_cons_succ]
        refine ⟨fun wv16 hov16 hSv16 => ?_, fun v16 => ?_⟩
        · obtain rfl : v14 = .slice (some ⟨b, off, none⟩) n c := hSv16 14 (by decide) (by decide)
          obtain rfl : v15 = .int .i64 j := hSv16 15 (by decide) (by decide)
          clear hSv16
          clear hov16
          go_wp2_with fail
          exact ⟨rfl, _, rfl, fun d hd => by cases hd; exact rfl, Ext.refl _⟩
        simp only [Act.put, List.setIfInBounds_toArray, List.set_cons_zero, List.set_cons_succ]
        refine ⟨fun wv17 hov17 hSv17 => ?_, fun v17 => ?_⟩
        · obtain rfl : v16 = .pointer (some ⟨b, off + j * 11, none⟩) := hSv17 16 (by decide) (by decide)
          clear hSv17
          clear hov17
          go_wp2_with fail
          exact ⟨rfl, _, rfl, fun d hd => by cases hd; exact rfl, Ext.refl _⟩
        simp only [Act.put, List.setIfInBounds_toArray, List.set_cons_zero, List.set_cons_succ]
        refine ⟨fun wv18 hov18 hSv18 => ?_, fun v18 => ?_⟩
        · obtain rfl : v17 = .pointer (some ⟨b, off + j * 11, none⟩) := hSv18 17 (by decide) (by decide)
          clear hSv18
          have H := kp (H.out.keep [0, 1] (St := []) trivial hov18 (by decide) (by kernel_rfl))
          have HOX := kp hov18
          clear hov18
          go_wp2_with ((with_reducible show wpList _ _ _ (Oper.mk _ (Op.load 23 _) _ _ _ _ :: _) _ _); (refine wpList_load_midG (by kernel_rfl) 23 _ rfl (b) (off + j * 11) rfl (x.addr.map V8) _ ((rangeAt_ext HRX.out HB.out H.out.1)) Try.underlying23 rfl (HZX.out) ?_); simp only [Act.put, List.setIfInBounds_toArray, List.set_cons_zero, List.set_cons_succ])
          exact ⟨rfl, _, rfl, fun d hd => by cases hd; exact rfl, Ext.refl _⟩
        simp only [Act.put, List.setIfInBounds_toArray, List.set_cons_zero, List.set_cons_succ]
        refine ⟨fun wv19 hov19 hSv19 => ?_, fun v19 => ?_⟩
        · clear hSv19
          have H := kp (H.out.keep [0, 1] (St := []) trivial hov19 (by decide) (by kernel_rfl))
          have HOX := kp hov19
          clear hov19
          go_wp2_with ((with_reducible show wpList _ _ _ (Oper.mk _ (Op.load 23 _) _ _ _ _ :: _) _ _); (refine wpList_load_rowG (by kernel_rfl) 23 _ rfl (g3) rfl 23 (t.map V8).toArray (0, 0) _ (H.out.at 0 rfl) Try.underlying23 rfl (HZT.out) ?_); simp only [Act.put, List.setIfInBounds_toArray, List.set_cons_zero, List.set_cons_succ])
          exact ⟨rfl, _, rfl, fun d hd => by cases hd; exact rfl, Ext.refl _⟩
        simp only [Act.put, List.setIfInBounds_toArray, List.set_cons_zero, List.set_cons_succ]
        refine ⟨fun wv20 hov20 hSv20 => ?_, fun v20 => ?_⟩
        · obtain rfl : v18 = .agg (x.addr.map V8).toArray := hSv20 18 (by decide) (by decide)
          obtain rfl : v19 = .agg (t.map V8).toArray := hSv20 19 (by decide) (by decide)
          clear hSv20
          clear hov20
          go_wp2_with fail
          exact ⟨rfl, _, rfl, fun d hd => by cases hd; exact rfl, Ext.refl _⟩
        simp only [Act.put, List.setIfInBounds_toArray, List.set_cons_zero, List.set_cons_succ]
        clear H
        intro w7 HOX H hfin
        obtain rfl : v13 = .pointer (some ⟨g2, 9, none⟩) := hfin 13 (by decide)
        obtain rfl : v14 = .slice (some ⟨b, off, none⟩) n c := hfin 14 (by decide)
        obtain rfl : v15 = .int .i64 j := hfin 15 (by decide)
        obtain rfl : v16 = .pointer (some ⟨b, off + j * 11, none⟩) := hfin 16 (by decide)
        obtain rfl : v17 = .pointer (some ⟨b, off + j * 11, none⟩) := hfin 17 (by decide)
        obtain rfl : v18 = .agg (x.addr.map V8).toArray := hfin 18 (by decide)
        obtain rfl : v19 = .agg (t.map V8).toArray := hfin 19 (by decide)
        obtain rfl : v20 = .bool false := hfin 20 (by decide)
        clear hfin
        simp only [List.drop_succ_cons, List.drop_zero]
        simp only [applyS] at H
        have HXN := kp (HOX.out.ext (Ext.refl wr) (fun g hg => by cases hg))
        clear heq
        go_wp2_with fail
        go_roundw
        case rel => exact ⟨j + 1, by omega, by go_num, HK, H⟩
        case measure => simp [intOf]; omega
    · obtain rfl : j = n := by omega
      have HK := kp (findI_none (t := t) (l := l) fun k hk => HT.out k (by rw [HNL.out]; exact hk))
      go_wp2_with fail
      go_ret
      exact ⟨congrArg (fun z => Ending.returned (.int .i64 z)) HK.out.symm, H.out.1⟩
theorem byAidF_any (s : En) (hs : s.addr.length = 6) (aid : Int) (g : Nat) (w : World) (hg : Lc w g 3 [.int .i64 aid]) :
    Calls Try.prog 43 #[.agg (cellsE s).toArray, .pointer (some ⟨g, 0, none⟩)] w fun e w' => e = .returned (.bool (isHeld aid s)) ∧ Ext w w' := by
  have H := kp (Loc.start w)
  have HG := kp hg
  have H6 := kp (cE6 hs)
  have H7 := kp (cE7 hs)
  have HII := kp (show isHeld aid s = (s.state == 2 && s.aid == aid) from rfl)
  clear hs hg
  go_enter Try.func43, Try.ntmps43
  go_wp2_with (first | (((with_reducible show wpList _ _ _ (Oper.mk (some 2) (Op.box 39 _) _ _ _ _ :: _) _ _); (with_reducible refine L_box H rfl 39 _ rfl (cellsE s) rfl ?_); clear H; intro g2 w2 HGg2 HEg2 H; simp only [Act.put, List.setIfInBounds_toArray, List.set_cons_zero, List.set_cons_succ]); have hc6 := run_load_cell H.out 0 rfl _ _ H6.out; have hc7 := run_load_cell H.out 0 rfl _ _ H7.out; have hca := (HG.out.ext H.out.1).cell (show [Value.int .i64 aid][0]? = _ from rfl)))
  all_goals (go_ret; exact ⟨congrArg (fun z => Ending.returned (.bool z)) (by rw [HII.out]; simp [*]), H.out.1⟩)
set_option maxHeartbeats 6400000 in
theorem index_any (v : Value) (l : List En) (hl : ∀ x ∈ l, x.addr.length = 6) (hn : l.length ≤ 100000) (aid : Int) (g : Nat) (w : World) (hs : SlT 11 cellsE w v l) (hg : Lc w g 3 [.int .i64 aid]) :
    Calls Try.prog 42 #[v, .func (.func 43) #[] #[.pointer (some ⟨g, 0, none⟩)]] w fun e w' => e = .returned (.int .i64 (holderF l aid)) ∧ Ext w w' := by
  obtain ⟨ad, n, c, rfl, hnl, hcap, hat⟩ := hs
  have HAT := kp hat; have HNL := kp hnl; have HLK := kp hl; have H := kp (Loc.start w); have hn2 : n ≤ 100000 := by omega
  have HG := kp hg
  clear hat hl hnl hcap hn hg
  go_enter Try.func42, Try.ntmps42
  go_wp2_with fail
  go_loopw [8] (fun i wr => ∃ j : Nat, j ≤ n ∧ i = .int .i64 j ∧ Kp (∀ k, k < j → isHeld aid (enAt l k) = false) ∧ Kp (Loc w wr [])) (fun i _ => n - (intOf i).toNat)
  case atStart => exact ⟨0, by omega, rfl, kp (fun k hk => by omega), H⟩
  case round =>
    obtain ⟨j, hj, rfl, HT, H⟩ := hrel
    by_cases hlt : j < n
    · obtain ⟨x, hx⟩ : ∃ x, l[j]? = some x := ⟨l[j]'(by rw [← HNL.out]; omega), by simp⟩
      obtain ⟨b, off, rfl, hb, hr⟩ := HAT.out j x hx; have HB := kp hb; have HR := kp hr; have HX := kp hx; have HXK := kp (HLK.out x (List.mem_of_getElem? hx)); clear hb hr hx
      have HZX := kp (sizeE HXK.out)
      have HR3 := kp (rangeAt_ext HR.out HB.out H.out.1)
      have HBY := kp (fun w' hx => byAidF_any x HXK.out aid g w' (HG.out.ext hx))
      have HJL := kp (show j < l.length by rw [← HNL.out]; exact hlt)
      cases hh : isHeld aid x with
      | true =>
        rw [hh] at HBY
        have HO := kp ((holder_eq_iff l aid j HJL.out (by rw [enAt_some HX.out]; exact hh)).2 HT.out)
        clear hh
        go_wp2_with (first | ((with_reducible show wpList _ _ _ (Oper.mk _ (Op.load 39 _) _ _ _ _ :: _) _ _); (refine wpList_load_midG (by kernel_rfl) 39 _ rfl (b) (off + j * 11) rfl (cellsE x) _ (HR3.out) Try.underlying39 rfl (HZX.out) ?_); simp only [Act.put, List.setIfInBounds_toArray, List.set_cons_zero, List.set_cons_succ]) | (go_at_call 43; refine (HBY.out _ H.out.1).mono ?_; rintro e wa ⟨rfl, hx⟩; have H2 := kp (H.out.ext hx); have HXC := kp hx; clear H hx; have H := H2; clear H2))
        go_ret
        exact ⟨congrArg (fun z => Ending.returned (.int .i64 z)) HO.out.symm, H.out.1⟩
      | false =>
        rw [hh] at HBY
        have HO := kp (holder_take l aid j x HX.out HT.out hh)
        clear hh
        go_wp2_with (first | ((with_reducible show wpList _ _ _ (Oper.mk _ (Op.load 39 _) _ _ _ _ :: _) _ _); (refine wpList_load_midG (by kernel_rfl) 39 _ rfl (b) (off + j * 11) rfl (cellsE x) _ (HR3.out) Try.underlying39 rfl (HZX.out) ?_); simp only [Act.put, List.setIfInBounds_toArray, List.set_cons_zero, List.set_cons_succ]) | (go_at_call 43; refine (HBY.out _ H.out.1).mono ?_; rintro e wa ⟨rfl, hx⟩; have H2 := kp (H.out.ext hx); have HXC := kp hx; clear H hx; have H := H2; clear H2))
        go_roundw
        case rel => exact ⟨j + 1, by omega, by go_num, HO, H⟩
        case measure => simp [intOf]; omega
    · obtain rfl : j = n := by omega
      have HO := kp (holder_none l aid (fun k hk => HT.out k (by rw [HNL.out]; exact hk)))
      go_wp2_with fail
      go_ret
      exact ⟨congrArg (fun z => Ending.returned (.int .i64 z)) HO.out.symm, H.out.1⟩
set_option maxHeartbeats 6400000 in
theorem byAid_any (a : As) (ha : a.own.length = 6) (v : Value) (l : List En) (hl : ∀ x ∈ l, x.addr.length = 6) (hn : l.length ≤ 100000) (aid : Int) (w : World) (hs : SlT 11 cellsE w v l) :
    Calls Try.prog 13 #[.agg (cellsA a v).toArray, .int .i64 aid] w fun e w' => e = .returned (.tuple #[.agg (cellsE (byE a l aid).1).toArray, .bool (byE a l aid).2]) ∧ Ext w w' := by
  have HSL := kp hs
  have HCH := kp (fun w' hx => check_any a ha v l hl hn w' (HSL.out.ext hx))
  have HIX := kp (fun g w' hx hg => index_any v l hl hn aid g w' (HSL.out.ext hx) hg)
  obtain ⟨ad, n, c, rfl, hnl, hcap, hat⟩ := hs
  have HAT := kp hat; have HNL := kp hnl; have HLK := kp hl; have H := kp (Loc.start w); have hn2 : n ≤ 100000 := by omega
  have HC9 := kp (cA9 (a := a) (.slice ad n c) ha)
  have HZA := kp (sizeAs (a := a) (.slice ad n c) ha)
  have HZE0 := kp (show (Try.prog.info? 39).map (·.size) = some (cellsE en0).toArray.size by kernel_rfl)
  have HOE := kp one_cellsE
  clear hat hl hnl hcap hn ha
  go_enter Try.func13, Try.ntmps13
  generalize h2 : ((Code.region 2 _ _ : Code).seq _) = C2
  go_wp2_with (first | ((with_reducible show wpList _ _ _ (Oper.mk (some 2) (Op.box 26 _) _ _ _ _ :: _) _ _); (with_reducible refine L_box H rfl 26 _ rfl (cellsA a (.slice ad n c)) rfl ?_); clear H; intro g2 w2 HGg2 HEg2 H; simp only [Act.put, List.setIfInBounds_toArray, List.set_cons_zero, List.set_cons_succ]) | ((with_reducible show wpList _ _ _ (Oper.mk (some 3) (Op.box 3 _) _ _ _ _ :: _) _ _); (with_reducible refine L_boxI H rfl 3 _ rfl _ _ rfl ?_); clear H; intro g3 w3 HGg3 HEg3 H; simp only [Act.put, List.setIfInBounds_toArray, List.set_cons_zero, List.set_cons_succ]) | (((with_reducible show wpList _ _ _ (Oper.mk (some 4) (Op.alloc 39) _ _ _ _ :: _) _ _); (with_reducible refine L_alloc H rfl 39 rfl (cellsE en0) (fun _ _ => by kernel_rfl) ?_); clear H; intro g4 w4 HGg4 HEg4 H; simp only [Act.put, List.setIfInBounds_toArray, List.set_cons_zero, List.set_cons_succ]); have hc9 := run_load_cell H.out 2 rfl _ _ HC9.out) | (go_at_call 42; refine (HIX.out g3 _ H.out.1 (H.out.at 1 rfl)).mono ?_; rintro e wa ⟨rfl, hx⟩; have H2 := kp (H.out.ext hx); have HXC := kp hx; clear H hx; have H := H2; clear H2))
  clear hc9
  subst h2
  cases hv : validA a l with
  | false =>
    have HCC := kp (chk_bad hv)
    have HF := kp (byE_bad (aid := aid) hv)
    clear hv
    rw [HCC.out] at HCH
    go_wp2_with (first | ((with_reducible show wpList _ _ _ (Oper.mk _ (Op.load 26 _) _ _ _ _ :: _) _ _); (refine wpList_load_rowG (by kernel_rfl) 26 _ rfl (g2) rfl 26 (cellsA a (.slice ad n c)).toArray (0, 0) _ (H.out.at 2 rfl) Try.underlying26 rfl (HZA.out) ?_); simp only [Act.put, List.setIfInBounds_toArray, List.set_cons_zero, List.set_cons_succ]) | (go_at_call 20; refine (HCH.out _ H.out.1).mono ?_; rintro e wa ⟨rfl, hx⟩; have H2 := kp (H.out.ext hx); have HXC := kp hx; clear H hx; have H := H2; clear H2) | ((with_reducible show wpList _ _ _ (Oper.mk (some 18) (Op.build 39 _) _ _ _ _ :: _) _ _); (refine L_bd (by kernel_rfl) 39 _ rfl (#[]) (by kernel_rfl) (cellsE en0) (fun _ => by kernel_rfl) ?_); simp only [Act.put, List.setIfInBounds_toArray, List.set_cons_zero, List.set_cons_succ]) | ((with_reducible show wpList _ _ _ (Oper.mk none (Op.store 39 _ _) _ _ _ _ :: _) _ _); (first | (refine L_store H rfl rfl 39 _ _ rfl 0 rfl rfl (cellsE en0) rfl (HZE0.out) (rfl) (HOE.out _) ?_; clear H; intro w9 HWw9 H; simp only [List.set_cons_zero] at H) | (refine L_store H rfl rfl 39 _ _ rfl 1 rfl rfl (cellsE en0) rfl (HZE0.out) (rfl) (HOE.out _) ?_; clear H; intro w9 HWw9 H; simp only [List.set_cons_succ, List.set_cons_zero] at H) | (refine L_store H rfl rfl 39 _ _ rfl 2 rfl rfl (cellsE en0) rfl (HZE0.out) (rfl) (HOE.out _) ?_; clear H; intro w9 HWw9 H; simp only [List.set_cons_succ, List.set_cons_zero] at H) | (refine L_store H rfl rfl 39 _ _ rfl 3 rfl rfl (cellsE en0) rfl (HZE0.out) (rfl) (HOE.out _) ?_; clear H; intro w9 HWw9 H; simp only [List.set_cons_succ, List.set_cons_zero] at H) | (refine L_store H rfl rfl 39 _ _ rfl 4 rfl rfl (cellsE en0) rfl (HZE0.out) (rfl) (HOE.out _) ?_; clear H; intro w9 HWw9 H; simp only [List.set_cons_succ, List.set_cons_zero] at H) | (refine L_store H rfl rfl 39 _ _ rfl 5 rfl rfl (cellsE en0) rfl (HZE0.out) (rfl) (HOE.out _) ?_; clear H; intro w9 HWw9 H; simp only [List.set_cons_succ, List.set_cons_zero] at H))))
    rw [HF.out]
    exact ret_row2 Try.results13 _ _ _ (0, 0) _ rfl _ rfl (H.out.at 0 rfl) Try.underlying39 rfl (HZE0.out) rfl ⟨rfl, H.out.1⟩
  | true =>
    have HCC := kp (chk_good hv)
    have HV := kp hv
    clear hv
    rw [HCC.out] at HCH
    rcases holder_cases l aid with hd | ⟨i, hi, hd⟩
    · have HF := kp (byE_no (a := a) hd)
      have hd0 : ¬ 0 ≤ holderF l aid := by rw [hd]; decide
      have hd1 : holderF l aid < 0 := by rw [hd]; decide
      clear hd
      go_wp2_with (first | ((with_reducible show wpList _ _ _ (Oper.mk _ (Op.load 26 _) _ _ _ _ :: _) _ _); (refine wpList_load_rowG (by kernel_rfl) 26 _ rfl (g2) rfl 26 (cellsA a (.slice ad n c)).toArray (0, 0) _ (H.out.at 2 rfl) Try.underlying26 rfl (HZA.out) ?_); simp only [Act.put, List.setIfInBounds_toArray, List.set_cons_zero, List.set_cons_succ]) | (go_at_call 20; refine (HCH.out _ H.out.1).mono ?_; rintro e wa ⟨rfl, hx⟩; have H2 := kp (H.out.ext hx); have HXC := kp hx; clear H hx; have H := H2; clear H2) | ((with_reducible show wpList _ _ _ (Oper.mk (some 18) (Op.build 39 _) _ _ _ _ :: _) _ _); (refine L_bd (by kernel_rfl) 39 _ rfl (#[]) (by kernel_rfl) (cellsE en0) (fun _ => by kernel_rfl) ?_); simp only [Act.put, List.setIfInBounds_toArray, List.set_cons_zero, List.set_cons_succ]) | ((with_reducible show wpList _ _ _ (Oper.mk none (Op.store 39 _ _) _ _ _ _ :: _) _ _); (first | (refine L_store H rfl rfl 39 _ _ rfl 0 rfl rfl (cellsE en0) rfl (HZE0.out) (rfl) (HOE.out _) ?_; clear H; intro w9 HWw9 H; simp only [List.set_cons_zero] at H) | (refine L_store H rfl rfl 39 _ _ rfl 1 rfl rfl (cellsE en0) rfl (HZE0.out) (rfl) (HOE.out _) ?_; clear H; intro w9 HWw9 H; simp only [List.set_cons_succ, List.set_cons_zero] at H) | (refine L_store H rfl rfl 39 _ _ rfl 2 rfl rfl (cellsE en0) rfl (HZE0.out) (rfl) (HOE.out _) ?_; clear H; intro w9 HWw9 H; simp only [List.set_cons_succ, List.set_cons_zero] at H) | (refine L_store H rfl rfl 39 _ _ rfl 3 rfl rfl (cellsE en0) rfl (HZE0.out) (rfl) (HOE.out _) ?_; clear H; intro w9 HWw9 H; simp only [List.set_cons_succ, List.set_cons_zero] at H) | (refine L_store H rfl rfl 39 _ _ rfl 4 rfl rfl (cellsE en0) rfl (HZE0.out) (rfl) (HOE.out _) ?_; clear H; intro w9 HWw9 H; simp only [List.set_cons_succ, List.set_cons_zero] at H) | (refine L_store H rfl rfl 39 _ _ rfl 5 rfl rfl (cellsE en0) rfl (HZE0.out) (rfl) (HOE.out _) ?_; clear H; intro w9 HWw9 H; simp only [List.set_cons_succ, List.set_cons_zero] at H))))
      rw [HF.out]
      exact ret_row2 Try.results13 _ _ _ (0, 0) _ rfl _ rfl (H.out.at 0 rfl) Try.underlying39 rfl (HZE0.out) rfl ⟨rfl, H.out.1⟩
    · have HF := kp (byE_yes HV.out hd)
      rw [hd]
      clear hd
      obtain ⟨x, hx⟩ : ∃ x, l[i]? = some x := ⟨l[i]'hi, by simp⟩
      obtain ⟨b, off, rfl, hb, hr⟩ := HAT.out i x hx
      have HB := kp hb
      have HR := kp hr
      have HXA := kp (enAt_some hx)
      have HXK := kp (HLK.out x (List.mem_of_getElem? hx))
      have hin : i < n := by rw [HNL.out]; exact hi
      clear hb hr hx hi
      have HZX := kp (sizeE HXK.out)
      have HZXa := kp (sizeEa HXK.out)
      have HLE := kp (show (cellsE en0).length = (cellsE x).length by rw [cellsE_len HXK.out]; rfl)
      go_wp2_with (first | ((with_reducible show wpList _ _ _ (Oper.mk _ (Op.load 26 _) _ _ _ _ :: _) _ _); (refine wpList_load_rowG (by kernel_rfl) 26 _ rfl (g2) rfl 26 (cellsA a (.slice (some ⟨b, off, none⟩) n c)).toArray (0, 0) _ (H.out.at 2 rfl) Try.underlying26 rfl (HZA.out) ?_); simp only [Act.put, List.setIfInBounds_toArray, List.set_cons_zero, List.set_cons_succ]) | (go_at_call 20; refine (HCH.out _ H.out.1).mono ?_; rintro e wa ⟨rfl, hx⟩; have H2 := kp (H.out.ext hx); have HXC := kp hx; clear H hx; have H := H2; clear H2; have hc9 := run_load_cell H.out 2 rfl _ _ HC9.out; have HR3 := kp (rangeAt_ext HR.out HB.out H.out.1)) | ((with_reducible show wpList _ _ _ (Oper.mk _ (Op.load 39 _) _ _ _ _ :: _) _ _); (refine wpList_load_midG (by kernel_rfl) 39 _ rfl (b) (off + i * 11) rfl (cellsE x) _ (HR3.out) Try.underlying39 rfl (HZX.out) ?_); simp only [Act.put, List.setIfInBounds_toArray, List.set_cons_zero, List.set_cons_succ]) | ((with_reducible show wpList _ _ _ (Oper.mk none (Op.store 39 _ _) _ _ _ _ :: _) _ _); (first | (refine L_store H rfl rfl 39 _ _ rfl 0 rfl rfl (cellsE x) rfl (HZXa.out) (HLE.out) (HOE.out _) ?_; clear H; intro w9 HWw9 H; simp only [List.set_cons_zero] at H) | (refine L_store H rfl rfl 39 _ _ rfl 1 rfl rfl (cellsE x) rfl (HZXa.out) (HLE.out) (HOE.out _) ?_; clear H; intro w9 HWw9 H; simp only [List.set_cons_succ, List.set_cons_zero] at H) | (refine L_store H rfl rfl 39 _ _ rfl 2 rfl rfl (cellsE x) rfl (HZXa.out) (HLE.out) (HOE.out _) ?_; clear H; intro w9 HWw9 H; simp only [List.set_cons_succ, List.set_cons_zero] at H) | (refine L_store H rfl rfl 39 _ _ rfl 3 rfl rfl (cellsE x) rfl (HZXa.out) (HLE.out) (HOE.out _) ?_; clear H; intro w9 HWw9 H; simp only [List.set_cons_succ, List.set_cons_zero] at H) | (refine L_store H rfl rfl 39 _ _ rfl 4 rfl rfl (cellsE x) rfl (HZXa.out) (HLE.out) (HOE.out _) ?_; clear H; intro w9 HWw9 H; simp only [List.set_cons_succ, List.set_cons_zero] at H) | (refine L_store H rfl rfl 39 _ _ rfl 5 rfl rfl (cellsE x) rfl (HZXa.out) (HLE.out) (HOE.out _) ?_; clear H; intro w9 HWw9 H; simp only [List.set_cons_succ, List.set_cons_zero] at H))))
      rw [HF.out, HXA.out]
      exact ret_row2 Try.results13 _ _ _ (0, 0) _ rfl _ rfl (H.out.at 0 rfl) Try.underlying39 rfl (HZXa.out) rfl ⟨rfl, H.out.1⟩
end Go.Proofs.Ytfecopfofkdnpaa
