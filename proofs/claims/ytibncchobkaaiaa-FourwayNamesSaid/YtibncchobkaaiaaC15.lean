/- Texts of this proof, put together: ChS, MapF. -/
import Derived.Test.YtibncchobkaaiaaC13
import Derived.BigGuardPart
import Derived.Test.YtibncchobkaaiaaC12
import Derived.MapKept
import Derived.Test.YtibncchobkaaiaaC1
namespace Go.Proofs.Ytibncchobkaaiaa
open Go.RowKit
set_option maxRecDepth 10000 in
set_option maxHeartbeats 3200000 in
theorem validSup_any (s : Fw) (w : World) :
  Calls Try.prog 39 #[.agg (cat (partsF s)).toArray] w fun e w' => e = .returned (.bool (validSupF s)) ∧ Ext w w' := by
 have H := kp (Loc.start w)
 have HV := kp (show validSupF s = if badS1 s then false else if badS2 s then false else (!idleB s || freshS s) from rfl)
 go_enter Try.func39, Try.ntmps39
 generalize h2 : (Code.region 2 _ _ : Code) = R2
 generalize h4 : (Code.region 4 _ _ : Code) = R4
 go_wp2_with ((with_reducible show wpList _ _ _ (Oper.mk (some 1) (Op.box 32 _) _ _ _ _ :: _) _ _); (refine L_box H rfl 32 _ rfl (cat (partsF s)) rfl ?_); clear H; intro g1 w1 HGg1 HEg1 H; simp only [Act.put, sbA, szA, ssA])
 refine region_free H (tabS [(5, fun vQ _ => vQ = .pointer (some ⟨g1, 1, none⟩)), (6, fun vQ _ => vQ = .int .u8 s.stage), (7, fun vQ _ => vQ = .bool (s.stage == 4)), (8, fun vQ _ => vQ = .pointer (some ⟨g1, 1, none⟩)), (9, fun vQ _ => vQ = .int .u8 s.stage), (10, fun vQ _ => vQ = .bool (s.stage == 0)), (3, fun vQ _ => vQ = .bool (s.stage == 4)), (4, fun vQ _ => vQ = .bool (s.stage == 0))]) [] (tabS_out _ _ (by simp only [List.forall_mem_cons]; exact ⟨mono_eqO _ _, mono_eqO _ _, mono_eqO _ _, mono_eqO _ _, mono_eqO _ _, mono_eqO _ _, mono_eqO _ _, mono_eqO _ _, by simp⟩)) 8 (by kernel_rfl) (by kernel_rfl) (by kernel_rfl) (by kernel_rfl) [] [] rfl rfl (by decide) (by decide) (by decide) trivial ?_
 simp only [List.take_succ_cons, List.take_zero]
 refine ⟨fun w_ o_ S_ => ?_, fun v5 => ?_⟩
 ·clear S_
  clear o_
  go_wp2_with fail
  exact kso rfl rfl rfl
 simp only [Act.put, sbA, szA, ssA]
 refine ⟨fun w_ o_ S_ => ?_, fun v6 => ?_⟩
 ·obtain rfl : v5 = .pointer (some ⟨g1, 1, none⟩) := hsR S_ 5 rfl
  clear S_
  have H := kp (H.out.keep [0] (St := []) trivial o_ (by decide) (by kernel_rfl))
  have HOX := kp o_
  clear o_
  go_wp2_with ((with_reducible refine isLd 5 ?_); (refine L_f1 H rfl 5 _ rfl 0 rfl _ rfl _ rfl _ rfl Try.underlying5 rfl ?_); simp only [Act.put, sbA, szA, ssA])
  exact kso rfl rfl rfl
 simp only [Act.put, sbA, szA, ssA]
 refine ⟨fun w_ o_ S_ => ?_, fun v7 => ?_⟩
 ·obtain rfl : v6 = .int .u8 s.stage := hsR S_ 6 rfl
  clear S_
  have H := kp (H.out.keep [0] (St := []) trivial o_ (by decide) (by kernel_rfl))
  have HOX := kp o_
  clear o_
  go_wp2_with fail
  exact kso rfl rfl rfl
 simp only [Act.put, sbA, szA, ssA]
 refine ⟨fun w_ o_ S_ => ?_, fun v8 => ?_⟩
 ·clear S_
  clear o_
  go_wp2_with fail
  exact kso rfl rfl rfl
 simp only [Act.put, sbA, szA, ssA]
 refine ⟨fun w_ o_ S_ => ?_, fun v9 => ?_⟩
 ·obtain rfl : v8 = .pointer (some ⟨g1, 1, none⟩) := hsR S_ 8 rfl
  clear S_
  have H := kp (H.out.keep [0] (St := []) trivial o_ (by decide) (by kernel_rfl))
  have HOX := kp o_
  clear o_
  go_wp2_with ((with_reducible refine isLd 5 ?_); (refine L_f1 H rfl 5 _ rfl 0 rfl _ rfl _ rfl _ rfl Try.underlying5 rfl ?_); simp only [Act.put, sbA, szA, ssA])
  exact kso rfl rfl rfl
 simp only [Act.put, sbA, szA, ssA]
 refine ⟨fun w_ o_ S_ => ?_, fun v10 => ?_⟩
 ·obtain rfl : v9 = .int .u8 s.stage := hsR S_ 9 rfl
  clear S_
  have H := kp (H.out.keep [0] (St := []) trivial o_ (by decide) (by kernel_rfl))
  have HOX := kp o_
  clear o_
  go_wp2_with fail
  exact kso rfl rfl rfl
 simp only [Act.put, sbA, szA, ssA]
 refine ⟨fun w_ o_ S_ => ?_, fun v3 => ?_⟩
 ·obtain rfl : v7 = .bool (s.stage == 4) := hsR S_ 7 rfl
  clear S_ o_
  go_wp2_with fail
  exact kso rfl rfl rfl
 simp only [Act.put, sbA, szA, ssA]
 refine ⟨fun w_ o_ S_ => ?_, fun v4 => ?_⟩
 ·obtain rfl : v10 = .bool (s.stage == 0) := hsR S_ 10 rfl
  clear S_ o_
  go_wp2_with fail
  exact kso rfl rfl rfl
 simp only [Act.put, sbA, szA, ssA]
 clear H
 intro w2 HOX H hfin
 obtain rfl : v5 = .pointer (some ⟨g1, 1, none⟩) := hfin 5 (by decide)
 obtain rfl : v6 = .int .u8 s.stage := hfin 6 (by decide)
 obtain rfl : v7 = .bool (s.stage == 4) := hfin 7 (by decide)
 obtain rfl : v8 = .pointer (some ⟨g1, 1, none⟩) := hfin 8 (by decide)
 obtain rfl : v9 = .int .u8 s.stage := hfin 9 (by decide)
 obtain rfl : v10 = .bool (s.stage == 0) := hfin 10 (by decide)
 obtain rfl : v3 = .bool (s.stage == 4) := hfin 3 (by decide)
 obtain rfl : v4 = .bool (s.stage == 0) := hfin 4 (by decide)
 clear hfin
 simp only [List.drop_succ_cons, List.drop_zero]
 simp only [applyS] at H
 have HXN := kp (HOX.out.ext (Ext.refl w1) (fun g hg => by cases hg))
 go_wp2_with fail
 subst h2
 refine wp_cut (3 :: 4 :: 11 :: 12 :: 13 :: 14 :: 15 :: 16 :: 17 :: 18 :: 19 :: 20 :: 21 :: 22 :: 23 :: 24 :: 25 :: 26 :: 27 :: 28 :: 29 :: 30 :: 31 :: 32 :: 33 :: 34 :: 35 :: 36 :: 37 :: 38 :: 39 :: 40 :: 41 :: 42 :: 43 :: 44 :: 45 :: 46 :: 47 :: 48 :: 49 :: 50 :: []) (fun vs w' => Kp (Loc w w' [(g1, 32, cat (partsF s))]) ∧ vs 50 = .bool (badS1 s) ∧ vs 3 = .bool (doneB s) ∧ vs 4 = .bool (idleB s)) ?_ ?_
 ·go_wp2_with (first | ((with_reducible refine isLd 5 ?_); (refine L_f1 H rfl 5 _ rfl 0 rfl _ rfl _ rfl _ rfl Try.underlying5 rfl ?_); simp only [Act.put, sbA, szA, ssA]) | ((with_reducible refine isLd 3 ?_); (refine L_f1 H rfl 3 _ rfl 0 rfl _ rfl _ rfl _ rfl Try.underlying3 rfl ?_); simp only [Act.put, sbA, szA, ssA]))
  all_goals exact CutP.of rfl (by kernel_rfl) ⟨H, by show Value.bool _ = Value.bool _; simp [badS1, doneB, idleB, *] <;> omega, by show Value.bool _ = Value.bool _; simp [doneB, *], by show Value.bool _ = Value.bool _; simp [idleB, *]⟩
 rintro vs w3 ⟨H, e50, e3, e4⟩
 simp only [putMany, List.setIfInBounds_toArray, List.set_cons_zero, List.set_cons_succ]
 rw [e50, e3, e4]
 clear e50 e3 e4
 cases hb : badS1 s with
 | true =>
  rw [hb] at HV
  clear hb
  go_wp2_with fail
  go_ret
  exact ⟨by rw [HV.out]; rfl, H.out.1⟩
 | false =>
  rw [hb] at HV
  clear hb
  go_wp2_with fail
  subst h4
  refine wp_cut (3 :: 51 :: 52 :: 53 :: 54 :: 55 :: 56 :: 57 :: 58 :: 59 :: 60 :: 61 :: 62 :: 63 :: 64 :: 65 :: 66 :: 67 :: 68 :: 69 :: 70 :: 71 :: 72 :: 73 :: []) (fun vs w' => Kp (Loc w w' [(g1, 32, cat (partsF s))]) ∧ vs 73 = .bool (badS2 s)) ?_ ?_
  ·go_wp2_with (first | ((with_reducible refine isLd 3 ?_); (refine L_f1 H rfl 3 _ rfl 0 rfl _ rfl _ rfl _ rfl Try.underlying3 rfl ?_); simp only [Act.put, sbA, szA, ssA]) | ((with_reducible refine isLd 30 ?_); (refine L_fg H rfl 30 _ rfl 0 rfl _ rfl _ rfl (partsG s.gid s.gkey) rfl Try.underlying30 rfl (by kernel_rfl) ?_); simp only [Act.put, sbA, szA, ssA]) | ((with_reducible show wpList _ _ _ (Oper.mk _ (Op.build 30 _) _ _ _ _ :: _) _ _); (refine L_bd rfl 30 _ rfl #[] (by kernel_rfl) (cat (partsG 0 (zv 16))) (fun _ => by kernel_rfl) ?_); simp only [Act.put, sbA, szA, ssA]) | ((with_reducible show wpList _ _ _ (Oper.mk _ (Op.binOp _ 30 _ _ _) _ _ _ _ :: _) _ _); (refine wpList_ne2 rfl 30 _ _ _ rfl _ _ _ rfl rfl Try.eqGuardType30 (eqG_in _ _ _ _ _ 9997) ?_); simp only [Act.put, sbA, szA, ssA]))
   all_goals exact CutP.of rfl (by kernel_rfl) ⟨H, by show Value.bool _ = Value.bool _; simp [badS2, gidB, *]⟩
  rintro vs w6 ⟨H, e73⟩
  simp only [putMany, List.setIfInBounds_toArray, List.set_cons_zero, List.set_cons_succ]
  rw [e73]
  clear e73
  cases hb : badS2 s with
  | true =>
   rw [hb] at HV
   clear hb
   go_wp2_with fail
   go_ret
   exact ⟨by rw [HV.out]; rfl, H.out.1⟩
  | false =>
   rw [hb] at HV
   clear hb
   go_wp2_with (first | ((with_reducible refine isLd 26 ?_); (refine L_fv H rfl 26 _ rfl 0 rfl _ rfl _ rfl rfl Try.underlying26 rfl (by kernel_rfl) ?_); simp only [Act.put, sbA, szA, ssA]) | ((with_reducible show wpList _ _ _ (Oper.mk _ (Op.build 26 _) _ _ _ _ :: _) _ _); (refine L_bd rfl 26 _ rfl #[] (by kernel_rfl) ((zv 16).1.map V8) (fun _ => by kernel_rfl) ?_); simp only [Act.put, sbA, szA, ssA]) | ((with_reducible show wpList _ _ _ (Oper.mk _ (Op.binOp _ 26 _ _ _) _ _ _ _ :: _) _ _); (refine wpList_eq2 rfl 26 _ _ _ rfl _ _ _ rfl rfl Try.eqGuardType26 (eqV_in _ Try.underlying26 _ _ 9998) ?_); simp only [Act.put, sbA, szA, ssA]) | ((with_reducible refine isLd 28 ?_); (refine L_fg H rfl 28 _ rfl 0 rfl _ rfl _ rfl (partsK s.pair) rfl Try.underlying28 rfl (by kernel_rfl) ?_); simp only [Act.put, sbA, szA, ssA]) | ((with_reducible show wpList _ _ _ (Oper.mk _ (Op.build 28 _) _ _ _ _ :: _) _ _); (refine L_bd rfl 28 _ rfl #[] (by kernel_rfl) (cat (partsK ks0)) (fun _ => by kernel_rfl) ?_); simp only [Act.put, sbA, szA, ssA]) | ((with_reducible show wpList _ _ _ (Oper.mk _ (Op.binOp _ 28 _ _ _) _ _ _ _ :: _) _ _); (refine wpList_eq2 rfl 28 _ _ _ rfl _ _ _ rfl rfl Try.eqGuardType28 (eqK_in _ _ _ 9997) ?_); simp only [Act.put, sbA, szA, ssA]))
   all_goals go_ret
   all_goals exact ⟨by rw [HV.out]; simp [freshS, *], H.out.1⟩
end Go.Proofs.Ytibncchobkaaiaa
namespace Go.Proofs.Ytibncchobkaaiaa
open Go.RowKit
def setM (w : World) (m : Nat) (o : Obj) : World := { w with heap := w.heap.setIfInBounds m o }
def Mp (w0 w : World) (m : Nat) (es : List MapEntry) : Prop := w0.heap.size ≤ m ∧ w.heap[m]? = some (.map es.toArray es.length)
theorem setM_other {w : World} {m b : Nat} (o : Obj) (h : b ≠ m) : (setM w m o).heap[b]? = w.heap[b]? := by
 unfold setM
 simp only [Array.getElem?_setIfInBounds]
 rw [if_neg (fun e => h e.symm)]
theorem Ext.setM {w0 w : World} {m : Nat} (h : Ext w0 w) (hm : w0.heap.size ≤ m) (o : Obj) : Ext w0 (setM w m o) := by
 have hb := h.below
 refine Ext.of_below ⟨hb.os, hb.tape, hb.output, ?_, fun k hk => ?_⟩
 ·show w0.heap.size ≤ (w.heap.setIfInBounds m o).size
  rw [Array.size_setIfInBounds]; exact hb.size
 ·rw [setM_other o (by omega)]; exact hb.block k hk
theorem Loc.setM {w0 w : World} {bs : List Bk} {m : Nat} {es : List MapEntry} (h : Loc w0 w bs) (hm : Mp w0 w m es) (o : Obj) : Loc w0 (setM w m o) bs := by
 refine ⟨h.1.setM hm.1 o, h.2.1, fun b hb => ⟨(h.2.2 b hb).1, ?_⟩⟩
 have h2 := (h.2.2 b hb).2
 refine (setM_other o ?_).trans h2
 intro e
 have h3 := hm.2
 rw [← e, h2] at h3
 cases h3
theorem Mp.ext {w0 w w' : World} {m : Nat} {es : List MapEntry} (h : Mp w0 w m es) (hx : Ext w w') : Mp w0 w' m es := by
 refine ⟨h.1, ?_⟩
 obtain ⟨x, rfl⟩ := hx
 rw [more_heap w x m (Array.getElem?_eq_some_iff.1 h.2).1]; exact h.2
section
variable {P : Program} {ops : Array Oper} {rest : List Oper} {o : Oper} {a : Act} {w0 w : World} {Q : Exit → Act → World → Prop} {bs : List Bk}
theorem L_mk0 (H : Kp (Loc w0 w bs)) (hg : o.guard = none) (t : TypeId) (ho : o.op = .makeMap t none)
  (h : ∀ m w', Kp (Ext w w') → Kp (Mp w0 w' m []) → Kp (Loc w0 w' bs) → wpList P ops Q rest (a.put o.dst (.map (some m))) w') : wpList P ops Q (o :: rest) a w := by
 refine wpList_plain hg fun K hK => ?_
 unfold Oper.wp execOp
 simp only [ho, Option.map_none, Sem.run_bind, run_makeMap, Result.andThen_ok, Sem.run_pure]
 exact hK _ _ (h _ _ (kp (Ext.alloc w _)) (kp ⟨H.out.1.below.size, hp_new w _⟩) (kp (H.out.ext (Ext.alloc w _))))
theorem L_ins (H : Kp (Loc w0 w bs)) (hg : o.guard = none) (hd : o.dst = none) (t : TypeId) (x y z : Operand) (ho : o.op = .insert t x y z) (K E : TypeId) (hu : P.underlying t = some (.map K E)) {m : Nat} {es : List MapEntry} (HM : Kp (Mp w0 w m es)) (hx : a.eval x = .map (some m)) (k v : Value) (hy : a.eval y = k) (hz : a.eval z = v)
  (hc : ∀ w, (Instr.checkKey false 10000 K k).run P w = .ok () w) (hf : ∀ w, (Instr.findKey K k es).run P w = .ok none w)
  (h : ∀ w', Kp (Mp w0 w' m (es ++ [⟨k, v, es.length⟩])) → Kp (Loc w0 w' bs) → wpList P ops Q rest a w') : wpList P ops Q (o :: rest) a w := by
 refine wpList_plain hg fun K2 hK => ?_
 unfold Oper.wp execOp
 have hm := HM.out.2
 have hl := (Array.getElem?_eq_some_iff.1 hm).1
 simp only [ho, hx, hy, hz, Instr.mapUpdate, Sem.run_bind, run_underlying hu, Result.andThen_ok, MapKept.run_getObj_map hm, hc, hf, MapKept.run_setObj_map _ hm, Sem.run_pure]
 show K2 (a.put o.dst undef) _
 rw [hd]
 refine hK _ _ (h _ (kp ⟨HM.out.1, ?_⟩) (kp (H.out.setM HM.out _)))
 simp [hl]
theorem L_lk (hg : o.guard = none) (t : TypeId) (x y : Operand) (c : Bool) (ho : o.op = .lookup t x y c) (K E : TypeId) (hu : P.underlying t = some (.map K E)) {m : Nat} {es : List MapEntry} (HM : Kp (Mp w0 w m es)) (hx : a.eval x = .map (some m)) (k : Value) (hy : a.eval y = k)
  (hc : ∀ b w, (Instr.checkKey b 10000 K k).run P w = .ok () w) (r : Option (Nat × Value)) (hf : ∀ w, (Instr.findKey K k es).run P w = .ok r w) (z : Value) (hz : ∀ w, (zeroValue E).run P w = .ok z w) (u : Value) (hv : (if c then .tuple #[(r.map (·.2)).getD z, .bool r.isSome] else (r.map (·.2)).getD z) = u)
  (h : wpList P ops Q rest (a.put o.dst u) w) : wpList P ops Q (o :: rest) a w := by
 refine wpList_plain hg fun K2 hK => ?_
 unfold Oper.wp execOp
 have hm := HM.out.2
 subst hv
 cases r with
 | none =>
  simp only [ho, hx, hy, Instr.lookup, Sem.run_bind, run_underlying hu, Result.andThen_ok, MapKept.run_getObj_map hm, hc, hf, hz, Sem.run_pure]
  exact hK _ _ h
 | some q =>
  obtain ⟨i, v⟩ := q
  simp only [ho, hx, hy, Instr.lookup, Sem.run_bind, run_underlying hu, Result.andThen_ok, MapKept.run_getObj_map hm, hc, hf, Sem.run_pure]
  exact hK _ _ h
end
theorem find_u8 {K : TypeId} (hK : Try.prog.underlying K = some (.int .u8)) (r : Int) (es : List (Int × Value)) (w : World) : ∀ n : Nat → Nat, (Instr.findKey K (.int .u8 r) (es.zipIdx.map fun p => ⟨.int .u8 p.1.1, p.1.2, n p.2⟩)).run Try.prog w = .ok ((es.zipIdx.find? fun p => r == p.1.1).map fun p => (p.2, p.1.2)) w := by
 intro n
 have h : ∀ (es : List (Int × Value)) (i j : Nat), Instr.findNow (.int .u8) (.int .u8 r) ((es.zipIdx j).map fun p => ⟨.int .u8 p.1.1, p.1.2, n p.2⟩) i = some (((es.zipIdx i).find? fun p => r == p.1.1).map fun p => (p.2, p.1.2)) := by
  intro es
  induction es with
  | nil => intro i j; rfl
  | cons e es ih =>
   intro i j
   simp only [List.zipIdx_cons, List.map_cons, Instr.findNow, Instr.sameNow, if_true, List.find?_cons]
   cases hq : (r == e.1) with
   | true => rfl
   | false => simp only; rw [ih]
 unfold Instr.findKey
 rw [Sem.run_bind, run_underlying hK w, Result.andThen_ok, h]
 rfl
end Go.Proofs.Ytibncchobkaaiaa
