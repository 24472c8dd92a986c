/- Texts of this proof, put together: ChS, MapF, CheckF, MsgO. -/
import Derived.Test.YtibncchobkaaiaaF12
import Derived.BigGuardPart
import Derived.Test.YtibncchobkaaiaaF11
import Derived.MapKept
import Derived.Test.YtibncchobkaaiaaF14
import Derived.Test.YtibncchobkaaiaaF1
namespace Go.Proofs.Ytibncchobkaaiaa
open Go.RowKit
set_option maxRecDepth 10000 in
set_option maxHeartbeats 3200000 in
theorem validSup_any (s : Fw) (w : World) :
  Calls Try.prog 39 #[.agg (cat (partsF s)).toArray] w fun e w' => e = .returned (.bool (validSupF s)) ∧ Ext w w' := by
 have H := kp (Loc.start w)
 have HV := kp (show validSupF s = if badS1 s then false else if badS2 s then false else (!idleB s || freshS s) from rfl)
 go_enter Try.func39, Try.ntmps39
 generalize h2 : (Code.region 2 _ _ : Code) = R2
 generalize h4 : (Code.region 4 _ _ : Code) = R4
 go_wp2_with ((with_reducible refine isBx 1 32 ?_); (refine L_box H rfl 32 _ rfl (cat (partsF s)) rfl ?_); clear H; intro g1 w1 HGg1 HEg1 H; simp only [pA])
 refine region_free H (tabS [(5, fun vQ _ => vQ = .pointer (some ⟨g1, 1, none⟩)), (6, fun vQ _ => vQ = .int .u8 s.stage), (7, fun vQ _ => vQ = .bool (s.stage == 4)), (8, fun vQ _ => vQ = .pointer (some ⟨g1, 1, none⟩)), (9, fun vQ _ => vQ = .int .u8 s.stage), (10, fun vQ _ => vQ = .bool (s.stage == 0)), (3, fun vQ _ => vQ = .bool (s.stage == 4)), (4, fun vQ _ => vQ = .bool (s.stage == 0))]) [] (tabS_out _ _ (by simp only [List.forall_mem_cons, mono_eqO, true_and]; simp)) 8 (by kernel_rfl) (by kernel_rfl) (by kernel_rfl) (by kernel_rfl) [] [] rfl rfl (by decide) (by decide) (by decide) trivial ?_
 simp only [List.take_succ_cons, List.take_zero]
 refine ⟨fun w_ o_ S_ => ?_, fun v5 => ?_⟩
 ·clear S_
  clear o_
  go_wp2_with fail
  exact kso
 simp only [pA]
 refine ⟨fun w_ o_ S_ => ?_, fun v6 => ?_⟩
 ·obtain rfl : v5 = .pointer (some ⟨g1, 1, none⟩) := hsR S_ 5 rfl
  clear S_
  have H := kp (kK [0] H o_)
  have HOX := kp o_
  clear o_
  go_wp2_with ((with_reducible refine isLd 5 ?_); (refine L_f1 H rfl 5 _ rfl 0 rfl _ rfl _ rfl _ rfl Try.underlying5 rfl ?_); simp only [pA])
  exact kso
 simp only [pA]
 refine ⟨fun w_ o_ S_ => ?_, fun v7 => ?_⟩
 ·obtain rfl : v6 = .int .u8 s.stage := hsR S_ 6 rfl
  clear S_
  have H := kp (kK [0] H o_)
  have HOX := kp o_
  clear o_
  go_wp2_with fail
  exact kso
 simp only [pA]
 refine ⟨fun w_ o_ S_ => ?_, fun v8 => ?_⟩
 ·clear S_
  clear o_
  go_wp2_with fail
  exact kso
 simp only [pA]
 refine ⟨fun w_ o_ S_ => ?_, fun v9 => ?_⟩
 ·obtain rfl : v8 = .pointer (some ⟨g1, 1, none⟩) := hsR S_ 8 rfl
  clear S_
  have H := kp (kK [0] H o_)
  have HOX := kp o_
  clear o_
  go_wp2_with ((with_reducible refine isLd 5 ?_); (refine L_f1 H rfl 5 _ rfl 0 rfl _ rfl _ rfl _ rfl Try.underlying5 rfl ?_); simp only [pA])
  exact kso
 simp only [pA]
 refine ⟨fun w_ o_ S_ => ?_, fun v10 => ?_⟩
 ·obtain rfl : v9 = .int .u8 s.stage := hsR S_ 9 rfl
  clear S_
  have H := kp (kK [0] H o_)
  have HOX := kp o_
  clear o_
  go_wp2_with fail
  exact kso
 simp only [pA]
 refine ⟨fun w_ o_ S_ => ?_, fun v3 => ?_⟩
 ·obtain rfl : v7 = .bool (s.stage == 4) := hsR S_ 7 rfl
  clear S_ o_
  go_wp2_with fail
  exact kso
 simp only [pA]
 refine ⟨fun w_ o_ S_ => ?_, fun v4 => ?_⟩
 ·obtain rfl : v10 = .bool (s.stage == 0) := hsR S_ 10 rfl
  clear S_ o_
  go_wp2_with fail
  exact kso
 simp only [pA]
 clear H
 intro w2 HOX H hfin
 obtain rfl : v5 = .pointer (some ⟨g1, 1, none⟩) := hfin 5 (by decide)
 obtain rfl : v6 = .int .u8 s.stage := hfin 6 (by decide)
 obtain rfl : v7 = .bool (s.stage == 4) := hfin 7 (by decide)
 obtain rfl : v8 = .pointer (some ⟨g1, 1, none⟩) := hfin 8 (by decide)
 obtain rfl : v9 = .int .u8 s.stage := hfin 9 (by decide)
 obtain rfl : v10 = .bool (s.stage == 0) := hfin 10 (by decide)
 obtain rfl : v3 = .bool (s.stage == 4) := hfin 3 (by decide)
 obtain rfl : v4 = .bool (s.stage == 0) := hfin 4 (by decide)
 clear hfin
 simp only [List.drop_succ_cons, List.drop_zero]
 simp only [applyS] at H
 have HXN := kp (HOX.out.ext (Ext.refl w1) (fun g hg => by cases hg))
 go_wp2_with fail
 subst h2
 refine wp_cut (3 :: 4 :: 11 :: 12 :: 13 :: 14 :: 15 :: 16 :: 17 :: 18 :: 19 :: 20 :: 21 :: 22 :: 23 :: 24 :: 25 :: 26 :: 27 :: 28 :: 29 :: 30 :: 31 :: 32 :: 33 :: 34 :: 35 :: 36 :: 37 :: 38 :: 39 :: 40 :: 41 :: 42 :: 43 :: 44 :: 45 :: 46 :: 47 :: 48 :: 49 :: 50 :: []) (fun vs w' => Kp (Loc w w' [(g1, 32, cat (partsF s))]) ∧ vs 50 = .bool (badS1 s) ∧ vs 3 = .bool (doneB s) ∧ vs 4 = .bool (idleB s)) ?_ ?_
 ·go_wp2_with (first | ((with_reducible refine isLd 5 ?_); (refine L_f1 H rfl 5 _ rfl 0 rfl _ rfl _ rfl _ rfl Try.underlying5 rfl ?_); simp only [pA]) | ((with_reducible refine isLd 3 ?_); (refine L_f1 H rfl 3 _ rfl 0 rfl _ rfl _ rfl _ rfl Try.underlying3 rfl ?_); simp only [pA]))
  all_goals exact CutP.of rfl (by kernel_rfl) ⟨H, by show Value.bool _ = Value.bool _; simp [badS1, doneB, idleB, *] <;> omega, by show Value.bool _ = Value.bool _; simp [doneB, *], by show Value.bool _ = Value.bool _; simp [idleB, *]⟩
 rintro vs w3 ⟨H, e50, e3, e4⟩
 simp only [putMany, List.setIfInBounds_toArray, List.set_cons_zero, List.set_cons_succ]
 rw [e50, e3, e4]
 clear e50 e3 e4
 cases hb : badS1 s with
 | true =>
  rw [hb] at HV
  clear hb
  go_wp2_with fail
  go_ret
  exact ⟨by rw [HV.out]; rfl, H.out.1⟩
 | false =>
  rw [hb] at HV
  clear hb
  go_wp2_with fail
  subst h4
  refine wp_cut (3 :: 51 :: 52 :: 53 :: 54 :: 55 :: 56 :: 57 :: 58 :: 59 :: 60 :: 61 :: 62 :: 63 :: 64 :: 65 :: 66 :: 67 :: 68 :: 69 :: 70 :: 71 :: 72 :: 73 :: []) (fun vs w' => Kp (Loc w w' [(g1, 32, cat (partsF s))]) ∧ vs 73 = .bool (badS2 s)) ?_ ?_
  ·go_wp2_with (first | ((with_reducible refine isLd 3 ?_); (refine L_f1 H rfl 3 _ rfl 0 rfl _ rfl _ rfl _ rfl Try.underlying3 rfl ?_); simp only [pA]) | ((with_reducible refine isLd 30 ?_); (refine L_fg H rfl 30 _ rfl 0 rfl _ rfl _ rfl (partsG s.gid s.gkey) rfl Try.underlying30 rfl (by kernel_rfl) ?_); simp only [pA]) | ((with_reducible show wpList _ _ _ (Oper.mk _ (Op.build 30 _) _ _ _ _ :: _) _ _); (refine L_bd rfl 30 _ rfl #[] (by kernel_rfl) (cat (partsG 0 (zv 16))) (fun _ => by kernel_rfl) ?_); simp only [pA]) | ((with_reducible show wpList _ _ _ (Oper.mk _ (Op.binOp _ 30 _ _ _) _ _ _ _ :: _) _ _); (refine wpList_ne2 rfl 30 _ _ _ rfl _ _ _ rfl rfl Try.eqGuardType30 (eqG_in _ _ _ _ _ 9997) ?_); simp only [pA]))
   all_goals exact CutP.of rfl (by kernel_rfl) ⟨H, by show Value.bool _ = Value.bool _; simp [badS2, gidB, *]⟩
  rintro vs w6 ⟨H, e73⟩
  simp only [putMany, List.setIfInBounds_toArray, List.set_cons_zero, List.set_cons_succ]
  rw [e73]
  clear e73
  cases hb : badS2 s with
  | true =>
   rw [hb] at HV
   clear hb
   go_wp2_with fail
   go_ret
   exact ⟨by rw [HV.out]; rfl, H.out.1⟩
  | false =>
   rw [hb] at HV
   clear hb
   go_wp2_with (first | ((with_reducible refine isLd 26 ?_); (refine L_fv H rfl 26 _ rfl 0 rfl _ rfl _ rfl rfl Try.underlying26 rfl (by kernel_rfl) ?_); simp only [pA]) | ((with_reducible show wpList _ _ _ (Oper.mk _ (Op.build 26 _) _ _ _ _ :: _) _ _); (refine L_bd rfl 26 _ rfl #[] (by kernel_rfl) ((zv 16).1.map V8) (fun _ => by kernel_rfl) ?_); simp only [pA]) | ((with_reducible show wpList _ _ _ (Oper.mk _ (Op.binOp _ 26 _ _ _) _ _ _ _ :: _) _ _); (refine wpList_eq2 rfl 26 _ _ _ rfl _ _ _ rfl rfl Try.eqGuardType26 (eqV_in _ Try.underlying26 _ _ 9998) ?_); simp only [pA]) | ((with_reducible refine isLd 28 ?_); (refine L_fg H rfl 28 _ rfl 0 rfl _ rfl _ rfl (partsK s.pair) rfl Try.underlying28 rfl (by kernel_rfl) ?_); simp only [pA]) | ((with_reducible show wpList _ _ _ (Oper.mk _ (Op.build 28 _) _ _ _ _ :: _) _ _); (refine L_bd rfl 28 _ rfl #[] (by kernel_rfl) (cat (partsK ks0)) (fun _ => by kernel_rfl) ?_); simp only [pA]) | ((with_reducible show wpList _ _ _ (Oper.mk _ (Op.binOp _ 28 _ _ _) _ _ _ _ :: _) _ _); (refine wpList_eq2 rfl 28 _ _ _ rfl _ _ _ rfl rfl Try.eqGuardType28 (eqK_in _ _ _ 9997) ?_); simp only [pA]))
   all_goals go_ret
   all_goals exact ⟨by rw [HV.out]; simp [freshS, *], H.out.1⟩
def setM (w : World) (m : Nat) (o : Obj) : World := { w with heap := w.heap.setIfInBounds m o }
def Mp (w0 w : World) (m : Nat) (es : List MapEntry) : Prop := w0.heap.size ≤ m ∧ w.heap[m]? = some (.map es.toArray es.length)
theorem setM_other {w : World} {m b : Nat} (o : Obj) (h : b ≠ m) : (setM w m o).heap[b]? = w.heap[b]? := by
 unfold setM
 simp only [Array.getElem?_setIfInBounds]
 rw [if_neg (fun e => h e.symm)]
theorem Ext.setM {w0 w : World} {m : Nat} (h : Ext w0 w) (hm : w0.heap.size ≤ m) (o : Obj) : Ext w0 (setM w m o) := by
 have hb := h.below
 refine Ext.of_below ⟨hb.os, hb.tape, hb.output, ?_, fun k hk => ?_⟩
 ·show w0.heap.size ≤ (w.heap.setIfInBounds m o).size
  rw [Array.size_setIfInBounds]; exact hb.size
 ·rw [setM_other o (by omega)]; exact hb.block k hk
theorem Loc.setM {w0 w : World} {bs : List Bk} {m : Nat} {es : List MapEntry} (h : Loc w0 w bs) (hm : Mp w0 w m es) (o : Obj) : Loc w0 (setM w m o) bs := by
 refine ⟨h.1.setM hm.1 o, h.2.1, fun b hb => ⟨(h.2.2 b hb).1, ?_⟩⟩
 have h2 := (h.2.2 b hb).2
 refine (setM_other o ?_).trans h2
 intro e
 have h3 := hm.2
 rw [← e, h2] at h3
 cases h3
theorem Mp.ext {w0 w w' : World} {m : Nat} {es : List MapEntry} (h : Mp w0 w m es) (hx : Ext w w') : Mp w0 w' m es := by
 refine ⟨h.1, ?_⟩
 obtain ⟨x, rfl⟩ := hx
 rw [more_heap w x m (Array.getElem?_eq_some_iff.1 h.2).1]; exact h.2
section
variable {P : Program} {ops : Array Oper} {rest : List Oper} {o : Oper} {a : Act} {w0 w : World} {Q : Exit → Act → World → Prop} {bs : List Bk}
theorem L_mk0 (H : Kp (Loc w0 w bs)) (hg : o.guard = none) (t : TypeId) (ho : o.op = .makeMap t none)
  (h : ∀ m w', Kp (Ext w w') → Kp (Mp w0 w' m []) → Kp (Loc w0 w' bs) → wpList P ops Q rest (a.put o.dst (.map (some m))) w') : wpList P ops Q (o :: rest) a w := by
 refine wpList_plain hg fun K hK => ?_
 unfold Oper.wp execOp
 simp only [ho, Option.map_none, Sem.run_bind, run_makeMap, Result.andThen_ok, Sem.run_pure]
 exact hK _ _ (h _ _ (kp (Ext.alloc w _)) (kp ⟨H.out.1.below.size, hp_new w _⟩) (kp (H.out.ext (Ext.alloc w _))))
theorem L_ins (H : Kp (Loc w0 w bs)) (hg : o.guard = none) (hd : o.dst = none) (t : TypeId) (x y z : Operand) (ho : o.op = .insert t x y z) (K E : TypeId) (hu : P.underlying t = some (.map K E)) {m : Nat} {es : List MapEntry} (HM : Kp (Mp w0 w m es)) (hx : a.eval x = .map (some m)) (k v : Value) (hy : a.eval y = k) (hz : a.eval z = v)
  (hc : ∀ w, (Instr.checkKey false 10000 K k).run P w = .ok () w) (hf : ∀ w, (Instr.findKey K k es).run P w = .ok none w)
  (h : ∀ w', Kp (Mp w0 w' m (es ++ [⟨k, v, es.length⟩])) → Kp (Loc w0 w' bs) → wpList P ops Q rest a w') : wpList P ops Q (o :: rest) a w := by
 refine wpList_plain hg fun K2 hK => ?_
 unfold Oper.wp execOp
 have hm := HM.out.2
 have hl := (Array.getElem?_eq_some_iff.1 hm).1
 simp only [ho, hx, hy, hz, Instr.mapUpdate, Sem.run_bind, run_underlying hu, Result.andThen_ok, MapKept.run_getObj_map hm, hc, hf, MapKept.run_setObj_map _ hm, Sem.run_pure]
 show K2 (a.put o.dst undef) _
 rw [hd]
 refine hK _ _ (h _ (kp ⟨HM.out.1, ?_⟩) (kp (H.out.setM HM.out _)))
 simp [hl]
theorem L_lk (hg : o.guard = none) (t : TypeId) (x y : Operand) (c : Bool) (ho : o.op = .lookup t x y c) (K E : TypeId) (hu : P.underlying t = some (.map K E)) {m : Nat} {es : List MapEntry} (HM : Kp (Mp w0 w m es)) (hx : a.eval x = .map (some m)) (k : Value) (hy : a.eval y = k)
  (hc : ∀ b w, (Instr.checkKey b 10000 K k).run P w = .ok () w) (r : Option (Nat × Value)) (hf : ∀ w, (Instr.findKey K k es).run P w = .ok r w) (z : Value) (hz : ∀ w, (zeroValue E).run P w = .ok z w) (u : Value) (hv : (if c then .tuple #[(r.map (·.2)).getD z, .bool r.isSome] else (r.map (·.2)).getD z) = u)
  (h : wpList P ops Q rest (a.put o.dst u) w) : wpList P ops Q (o :: rest) a w := by
 refine wpList_plain hg fun K2 hK => ?_
 unfold Oper.wp execOp
 have hm := HM.out.2
 subst hv
 cases r with
 | none =>
  simp only [ho, hx, hy, Instr.lookup, Sem.run_bind, run_underlying hu, Result.andThen_ok, MapKept.run_getObj_map hm, hc, hf, hz, Sem.run_pure]
  exact hK _ _ h
 | some q =>
  obtain ⟨i, v⟩ := q
  simp only [ho, hx, hy, Instr.lookup, Sem.run_bind, run_underlying hu, Result.andThen_ok, MapKept.run_getObj_map hm, hc, hf, Sem.run_pure]
  exact hK _ _ h
end
theorem find_u8 {K : TypeId} (hK : Try.prog.underlying K = some (.int .u8)) (r : Int) (es : List (Int × Value)) (w : World) : ∀ n : Nat → Nat, (Instr.findKey K (.int .u8 r) (es.zipIdx.map fun p => ⟨.int .u8 p.1.1, p.1.2, n p.2⟩)).run Try.prog w = .ok ((es.zipIdx.find? fun p => r == p.1.1).map fun p => (p.2, p.1.2)) w := by
 intro n
 have h : ∀ (es : List (Int × Value)) (i j : Nat), Instr.findNow (.int .u8) (.int .u8 r) ((es.zipIdx j).map fun p => ⟨.int .u8 p.1.1, p.1.2, n p.2⟩) i = some (((es.zipIdx i).find? fun p => r == p.1.1).map fun p => (p.2, p.1.2)) := by
  intro es
  induction es with
  | nil => intro i j; rfl
  | cons e es ih =>
   intro i j
   simp only [List.zipIdx_cons, List.map_cons, Instr.findNow, Instr.sameNow, if_true, List.find?_cons]
   cases hq : (r == e.1) with
   | true => rfl
   | false => simp only; rw [ih]
 unfold Instr.findKey
 rw [Sem.run_bind, run_underlying hK w, Result.andThen_ok, h]
 rfl
def roleFn (r : Int) : Value := if r = 1 then .func (.func 38) #[] #[] else if r = 2 then .func (.func 39) #[] #[] else .nilFunc
theorem roleFn_1 {r : Int} (h : r = 1) : roleFn r = .func (.func 38) #[] #[] := by simp [roleFn, h]
theorem roleFn_2 {r : Int} (h : r = 2) : roleFn r = .func (.func 39) #[] #[] := by simp [roleFn, h]
theorem roleFn_n {r : Int} (h : r ≠ 1) (h2 : r ≠ 2) : roleFn r = .nilFunc := by simp [roleFn, h, h2]
def roleM : List MapEntry := [⟨.int .u8 1, .func (.func 38) #[] #[], 0⟩, ⟨.int .u8 2, .func (.func 39) #[] #[], 1⟩]
def roleR (r : Int) : Option (Nat × Value) := if r = 1 then some (0, Value.func (.func 38) #[] #[]) else if r = 2 then some (1, Value.func (.func 39) #[] #[]) else none
theorem role_find (r : Int) (w : World) : (Instr.findKey 5 (.int .u8 r) roleM).run Try.prog w = .ok (roleR r) w := by
 have h := find_u8 (K := 5) Try.underlying5 r [(1, Value.func (.func 38) #[] #[]), (2, Value.func (.func 39) #[] #[])] w id
 refine h.trans ?_
 unfold roleR
 by_cases h1 : r = 1
 ·subst h1; rfl
 ·by_cases h2 : r = 2
  ·subst h2; rfl
  ·simp [h1, h2, List.zipIdx]
theorem role_look (r : Int) : (if false then Value.tuple #[((roleR r).map (·.2)).getD .nilFunc, .bool (roleR r).isSome] else ((roleR r).map (·.2)).getD .nilFunc) = roleFn r := by
 unfold roleR roleFn
 by_cases h1 : r = 1
 ·subst h1; rfl
 ·by_cases h2 : r = 2
  ·subst h2; rfl
  ·simp [h1, h2]
def bad1 (s : Fw) : Bool := decide (s.own = s.peer) || !(s.inst == oneI (s.stage == 4)) || !validF s
def bad2 (s : Fw) : Bool := needsB s && !decide (s.pair = keysF s s.other)
theorem check_eq (s : Fw) : checkE s = if bad1 s then 8 else if bad2 s then 8 else 0 := by
 unfold checkE checkB bad1 bad2
 cases decide (s.own = s.peer) <;> cases (s.inst == oneI (s.stage == 4)) <;> cases validF s <;> cases needsB s <;> cases decide (s.pair = keysF s s.other) <;> rfl
theorem path2 (A C : Bool) : A = true ∨ (A = false ∧ C = true) ∨ (A = false ∧ C = false) := by cases A <;> cases C <;> simp
set_option maxRecDepth 10000 in
set_option maxHeartbeats 3200000 in
theorem check_any (s : Fw) (w : World) :
  Calls Try.prog 17 #[.agg (cat (partsF s)).toArray] w fun e w' => e = .returned (.int .i64 (checkE s)) ∧ Ext w w' := by
 have H := kp (Loc.start w)
 have HON := kp one_any
 have HVA := kp validAuth_any
 have HVS := kp validSup_any
 have HKE := kp keys_any
 have HC := kp (check_eq s)
 have HB1 := kp (show bad1 s = (decide (s.own = s.peer) || s.inst != oneI (s.stage == 4) || !validF s) from rfl)
 have HRF := kp (role_find s.role)
 have HRL := kp (role_look s.role)
 go_enter Try.func17, Try.ntmps17
 generalize h2 : (Code.region 2 _ _ : Code) = R2
 generalize h4 : (Code.region 4 _ _ : Code) = R4
 generalize h5 : (Code.region 5 _ _ : Code) = R5
 go_wp2_with (first | ((with_reducible refine isBx 1 32 ?_); (refine L_box H rfl 32 _ rfl (cat (partsF s)) rfl ?_); clear H; intro g1 w1 HGg1 HEg1 H; simp only [pA]) | ((with_reducible show wpList _ _ _ (Oper.mk _ (Op.makeMap _ _) _ _ _ _ :: _) _ _); refine L_mk0 H rfl _ rfl ?_; clear H; intro m wm HEm HM H; simp only [pA]) | ((with_reducible show wpList _ _ _ (Oper.mk none (Op.insert _ _ _ _) _ _ _ _ :: _) _ _); refine L_ins H rfl rfl _ _ _ _ rfl _ _ Try.underlying95 HM rfl _ _ rfl rfl (fun _ => by kernel_rfl) (fun _ => by kernel_rfl) ?_; clear H HM; intro wi HM H) | ((with_reducible refine isLd 5 ?_); (refine L_f1 H rfl 5 _ rfl 0 rfl _ rfl _ rfl _ rfl Try.underlying5 rfl ?_); simp only [pA]) | ((with_reducible show wpList _ _ _ (Oper.mk _ (Op.lookup _ _ _ _) _ _ _ _ :: _) _ _); refine L_lk rfl _ _ _ _ rfl _ _ Try.underlying95 HM rfl _ rfl (fun _ _ => by kernel_rfl) (roleR s.role) HRF.out .nilFunc (fun _ => by kernel_rfl) (roleFn s.role) HRL.out ?_; simp only [pA]))
 subst h2
 refine wp_cut (3 :: 9 :: 10 :: 11 :: 12 :: 13 :: 14 :: 15 :: 16 :: 17 :: 18 :: 19 :: 20 :: 21 :: 22 :: 23 :: 24 :: 25 :: 26 :: 27 :: 28 :: 29 :: 30 :: 31 :: 32 :: []) (fun vs w' => Kp (Loc w w' [(g1, 32, cat (partsF s))]) ∧ vs 32 = .bool (bad1 s)) ?_ ?_
 ·by_cases r1 : s.role = 1
  ·have HVF := kp (show validF s = validAuthF s by simp [validF, r1])
   rw [roleFn_1 r1]
   clear r1
   have HP := kp (path2 (decide (s.own = s.peer)) (s.inst != oneI (s.stage == 4)))
   rcases HP.out with h1 | ⟨h1, h2⟩ | ⟨h1, h2⟩
   all_goals
    refine region_z H 24 (by kernel_rfl) (by kernel_rfl) (by kernel_rfl) (by kernel_rfl) (by decide) (Nat.le_of_ble_eq_true (by kernel_rfl)) ?_
    apply Exists.intro
    refine ⟨fun xz2 => ?_, fun wz2 HXZ H => ?_⟩
    ·simp only [List.take_succ_cons, List.take_zero]
     unfold Cx
     repeat (first | ((with_reducible show wpQuiet _ _ _ _ (Oper.mk _ (Op.load 3 _) _ _ _ _ :: _) _); go_big_quiet_want; (refine qz_1 H 3 _ rfl 0 rfl _ rfl _ rfl _ rfl Try.underlying3 rfl ?_); simp only [pA]; go_big_quiet_on) | ((with_reducible show wpQuiet _ _ _ _ (Oper.mk _ (Op.load 5 _) _ _ _ _ :: _) _); go_big_quiet_want; (refine qz_1 H 5 _ rfl 0 rfl _ rfl _ rfl _ rfl Try.underlying5 rfl ?_); simp only [pA]; go_big_quiet_on) | ((with_reducible show wpQuiet _ _ _ _ (Oper.mk _ (Op.load 23 _) _ _ _ _ :: _) _); go_big_quiet_want; (refine qz_v H 23 _ rfl 0 rfl _ rfl _ rfl rfl Try.underlying23 rfl (by kernel_rfl) ?_); simp only [pA]; go_big_quiet_on) | ((with_reducible show wpQuiet _ _ _ _ (Oper.mk _ (Op.load 32 _) _ _ _ _ :: _) _); go_big_quiet_want; (refine qz_a H 32 _ rfl 0 rfl rfl Try.underlying32 rfl (by kernel_rfl) ?_); simp only [pA]; go_big_quiet_on) | ((with_reducible show wpQuiet _ _ _ _ (Oper.mk _ (Op.binOp _ 23 _ _ _) _ _ _ _ :: _) _); go_big_quiet_want; (refine qz_eq 23 _ _ _ rfl _ _ _ rfl rfl Try.eqGuardType23 (fun _ => eqV_in _ Try.underlying23 _ _ 9998) ?_); simp only [pA]; go_big_quiet_on) | ((with_reducible show wpQuiet _ _ _ _ (Oper.mk _ (Op.binOp _ 94 _ _ _) _ _ _ _ :: _) _); go_big_quiet_want; refine qz_b .eql 94 94 _ _ rfl (.func (.func 38) #[] #[]) .nilFunc (.bool false) rfl rfl (fun _ => by kernel_rfl) (fun _ => by kernel_rfl) ?_; simp only [pA]; go_big_quiet_on) | go_big_quiet_step ((first | (go_at_call 40; exact Calls.cx_of_same (HON.out _ _)) | exact Calls.cx_of (HVA.out _ _))))
     exact wpQuiet_nil rfl
    simp only [List.drop_succ_cons, List.drop_zero]
    go_wp2_with fail
    exact CutP.of rfl (by kernel_rfl) ⟨H, by show Value.bool _ = Value.bool _; rw [HB1.out, HVF.out]; simp only [*, Bool.true_or, Bool.or_true, Bool.false_or, Bool.or_false]⟩
  ·by_cases r2 : s.role = 2
   ·have HVF := kp (show validF s = validSupF s by simp [validF, r2])
    rw [roleFn_2 r2]
    clear r1 r2
    have HP := kp (path2 (decide (s.own = s.peer)) (s.inst != oneI (s.stage == 4)))
    rcases HP.out with h1 | ⟨h1, h2⟩ | ⟨h1, h2⟩
    all_goals
     refine region_z H 24 (by kernel_rfl) (by kernel_rfl) (by kernel_rfl) (by kernel_rfl) (by decide) (Nat.le_of_ble_eq_true (by kernel_rfl)) ?_
     apply Exists.intro
     refine ⟨fun xz3 => ?_, fun wz3 HXZ H => ?_⟩
     ·simp only [List.take_succ_cons, List.take_zero]
      unfold Cx
      repeat (first | ((with_reducible show wpQuiet _ _ _ _ (Oper.mk _ (Op.load 3 _) _ _ _ _ :: _) _); go_big_quiet_want; (refine qz_1 H 3 _ rfl 0 rfl _ rfl _ rfl _ rfl Try.underlying3 rfl ?_); simp only [pA]; go_big_quiet_on) | ((with_reducible show wpQuiet _ _ _ _ (Oper.mk _ (Op.load 5 _) _ _ _ _ :: _) _); go_big_quiet_want; (refine qz_1 H 5 _ rfl 0 rfl _ rfl _ rfl _ rfl Try.underlying5 rfl ?_); simp only [pA]; go_big_quiet_on) | ((with_reducible show wpQuiet _ _ _ _ (Oper.mk _ (Op.load 23 _) _ _ _ _ :: _) _); go_big_quiet_want; (refine qz_v H 23 _ rfl 0 rfl _ rfl _ rfl rfl Try.underlying23 rfl (by kernel_rfl) ?_); simp only [pA]; go_big_quiet_on) | ((with_reducible show wpQuiet _ _ _ _ (Oper.mk _ (Op.load 32 _) _ _ _ _ :: _) _); go_big_quiet_want; (refine qz_a H 32 _ rfl 0 rfl rfl Try.underlying32 rfl (by kernel_rfl) ?_); simp only [pA]; go_big_quiet_on) | ((with_reducible show wpQuiet _ _ _ _ (Oper.mk _ (Op.binOp _ 23 _ _ _) _ _ _ _ :: _) _); go_big_quiet_want; (refine qz_eq 23 _ _ _ rfl _ _ _ rfl rfl Try.eqGuardType23 (fun _ => eqV_in _ Try.underlying23 _ _ 9998) ?_); simp only [pA]; go_big_quiet_on) | ((with_reducible show wpQuiet _ _ _ _ (Oper.mk _ (Op.binOp _ 94 _ _ _) _ _ _ _ :: _) _); go_big_quiet_want; refine qz_b .eql 94 94 _ _ rfl (.func (.func 39) #[] #[]) .nilFunc (.bool false) rfl rfl (fun _ => by kernel_rfl) (fun _ => by kernel_rfl) ?_; simp only [pA]; go_big_quiet_on) | go_big_quiet_step ((first | (go_at_call 40; exact Calls.cx_of_same (HON.out _ _)) | exact Calls.cx_of (HVS.out _ _))))
      exact wpQuiet_nil rfl
     simp only [List.drop_succ_cons, List.drop_zero]
     go_wp2_with fail
     exact CutP.of rfl (by kernel_rfl) ⟨H, by show Value.bool _ = Value.bool _; rw [HB1.out, HVF.out]; simp only [*, Bool.true_or, Bool.or_true, Bool.false_or, Bool.or_false]⟩
   ·have HVF := kp (show validF s = false by simp [validF, r1, r2])
    rw [roleFn_n r1 r2]
    clear r1 r2
    refine region_z H 24 (by kernel_rfl) (by kernel_rfl) (by kernel_rfl) (by kernel_rfl) (by decide) (Nat.le_of_ble_eq_true (by kernel_rfl)) ?_
    apply Exists.intro
    refine ⟨fun xz4 => ?_, fun wz4 HXZ H => ?_⟩
    ·simp only [List.take_succ_cons, List.take_zero]
     unfold Cx
     repeat (first | ((with_reducible show wpQuiet _ _ _ _ (Oper.mk _ (Op.binOp _ 94 _ _ _) _ _ _ _ :: _) _); go_big_quiet_want; refine qz_b .eql 94 94 _ _ rfl (.nilFunc) .nilFunc (.bool true) rfl rfl (fun _ => by kernel_rfl) (fun _ => by kernel_rfl) ?_; simp only [pA]; go_big_quiet_on) | go_big_quiet_step (fail))
     exact wpQuiet_nil rfl
    simp only [List.drop_succ_cons, List.drop_zero]
    go_wp2_with fail
    exact CutP.of rfl (by kernel_rfl) ⟨H, by show Value.bool _ = Value.bool _; rw [HB1.out, HVF.out]; simp only [*, Bool.or_true, Bool.not_false]⟩
 rintro vs w3 ⟨H, e32⟩
 simp only [putMany, List.setIfInBounds_toArray, List.set_cons_zero, List.set_cons_succ]
 rw [e32]
 clear e32
 cases hb : bad1 s with
 | true =>
  rw [hb] at HC
  clear hb
  go_wp2_with fail
  go_ret
  exact ⟨by rw [HC.out]; rfl, H.out.1⟩
 | false =>
  rw [hb] at HC
  clear hb
  have HB2 := kp (show bad2 s = (needsB s && !decide (s.pair = keysF s s.other)) from rfl)
  go_wp2_with fail
  subst h4
  refine wp_cut (33 :: 34 :: 35 :: 36 :: 37 :: 38 :: 39 :: 40 :: 41 :: 42 :: 43 :: 44 :: 45 :: 46 :: 47 :: 48 :: 49 :: 50 :: 51 :: []) (fun vs w' => Kp (Loc w w' [(g1, 32, cat (partsF s))]) ∧ vs 51 = .bool (needsB s)) ?_ ?_
  ·go_wp2_with (first | ((with_reducible refine isLd 28 ?_); (refine L_fg H rfl 28 _ rfl 0 rfl _ rfl _ rfl (partsK s.pair) rfl Try.underlying28 rfl (by kernel_rfl) ?_); simp only [pA]) | ((with_reducible show wpList _ _ _ (Oper.mk _ (Op.build 28 _) _ _ _ _ :: _) _ _); (refine L_bd rfl 28 _ rfl #[] (by kernel_rfl) (cat (partsK ks0)) (fun _ => by kernel_rfl) ?_); simp only [pA]) | ((with_reducible show wpList _ _ _ (Oper.mk _ (Op.binOp _ 28 _ _ _) _ _ _ _ :: _) _ _); (refine wpList_ne2 rfl 28 _ _ _ rfl _ _ _ rfl rfl Try.eqGuardType28 (eqK_in _ _ _ 9997) ?_); simp only [pA]) | ((with_reducible refine isLd 5 ?_); (refine L_f1 H rfl 5 _ rfl 0 rfl _ rfl _ rfl _ rfl Try.underlying5 rfl ?_); simp only [pA]))
   all_goals exact CutP.of rfl (by kernel_rfl) ⟨H, by show Value.bool _ = Value.bool _; simp [needsB, *]⟩
  rintro vs w5 ⟨H, e51⟩
  simp only [putMany, List.setIfInBounds_toArray, List.set_cons_zero, List.set_cons_succ]
  rw [e51]
  clear e51
  cases hb : needsB s with
  | false =>
   rw [hb] at HB2
   clear hb
   go_wp2_with fail
   go_ret
   exact ⟨by rw [HC.out, HB2.out]; rfl, H.out.1⟩
  | true =>
   rw [hb] at HB2
   clear hb
   go_wp2_with fail
   subst h5
   refine region_z H 7 (by kernel_rfl) (by kernel_rfl) (by kernel_rfl) (by kernel_rfl) (by decide) (Nat.le_of_ble_eq_true (by kernel_rfl)) ?_
   apply Exists.intro
   refine ⟨fun xz5 => ?_, fun wz5 HXZ H => ?_⟩
   ·simp only [List.take_succ_cons, List.take_zero]
    unfold Cx
    repeat (first | ((with_reducible show wpQuiet _ _ _ _ (Oper.mk _ (Op.load 28 _) _ _ _ _ :: _) _); go_big_quiet_want; (refine qz_g H 28 _ rfl 0 rfl _ rfl _ rfl (partsK s.pair) rfl Try.underlying28 rfl (by kernel_rfl) ?_); simp only [pA]; go_big_quiet_on) | ((with_reducible show wpQuiet _ _ _ _ (Oper.mk _ (Op.load 32 _) _ _ _ _ :: _) _); go_big_quiet_want; (refine qz_a H 32 _ rfl 0 rfl rfl Try.underlying32 rfl (by kernel_rfl) ?_); simp only [pA]; go_big_quiet_on) | ((with_reducible show wpQuiet _ _ _ _ (Oper.mk _ (Op.load 26 _) _ _ _ _ :: _) _); go_big_quiet_want; (refine qz_v H 26 _ rfl 0 rfl _ rfl _ rfl rfl Try.underlying26 rfl (by kernel_rfl) ?_); simp only [pA]; go_big_quiet_on) | ((with_reducible show wpQuiet _ _ _ _ (Oper.mk _ (Op.binOp _ 28 _ _ _) _ _ _ _ :: _) _); go_big_quiet_want; (refine qz_ne 28 _ _ _ rfl _ _ _ rfl rfl Try.eqGuardType28 (fun _ => eqK_in _ _ _ 9997) ?_); simp only [pA]; go_big_quiet_on) | go_big_quiet_step (exact Calls.cx_of (HKE.out _ _ _)))
    exact wpQuiet_nil rfl
   simp only [List.drop_succ_cons, List.drop_zero]
   cases hq : decide (s.pair = keysF s s.other) with
   | true =>
    rw [hq] at HB2
    clear hq
    go_wp2_with fail
    go_ret
    exact ⟨by rw [HC.out, HB2.out]; rfl, H.out.1⟩
   | false =>
    rw [hq] at HB2
    clear hq
    go_wp2_with fail
    go_ret
    exact ⟨by rw [HC.out, HB2.out]; rfl, H.out.1⟩
theorem checked_eq (s : Fw) (now : Int) : checkedF s now = if checkE s ≠ 0 then 8 else if now < 0 ∨ 1099511627776 < now then 2 else 0 := by
 unfold checkedF checkE timeB
 cases checkB s
 ·rfl
 ·simp only [if_true, ne_eq, not_true_eq_false, if_false]
  by_cases h1 : 0 ≤ now <;> by_cases h2 : now ≤ 1099511627776 <;> simp [h1, h2] <;> omega
set_option maxHeartbeats 3200000 in
theorem checked_any (s : Fw) (now : Int) (w : World) :
  Calls Try.prog 29 #[.agg (cat (partsF s)).toArray, .int .i64 now] w fun e w' => e = .returned (.int .i64 (checkedF s now)) ∧ Ext w w' := by
 have H := kp (Loc.start w)
 have HC := kp (check_any s)
 have HE := kp (checked_eq s now)
 have H8 := kp (show checkE s = 0 ∨ checkE s = 8 by unfold checkE; cases checkB s <;> simp)
 go_enter Try.func29, Try.ntmps29
 go_wp2_with (first | ((with_reducible refine isBx 2 32 ?_); (refine L_box H rfl 32 _ rfl (cat (partsF s)) rfl ?_); clear H; intro g2 w2 HGg2 HEg2 H; simp only [pA]) | ((with_reducible refine isLd 32 ?_); (refine L_fa H rfl 32 _ rfl 0 rfl rfl Try.underlying32 rfl (by kernel_rfl) ?_); simp only [pA]) | (go_at_call 17; refine (HC.out _).mono ?_; rintro e wa ⟨rfl, hx⟩; replace H := kp (H.out.ext hx); have HXC := kp hx; clear hx))
 all_goals go_ret
 all_goals (refine ⟨congrArg (fun z => Ending.returned (.int .i64 z)) ?_, H.out.1⟩; rw [HE.out]; rcases H8.out with h8 | h8 <;> simp_all <;> omega)
theorem openM_no {k : By} {kind count : Int} {nonce data : By} (h : openOk k (coverN kind count nonce).1 (coverA kind count nonce) data = false) : openM k kind count nonce data = none := by simp [openM, h]
theorem openM_yes {k : By} {kind count : Int} {nonce data : By} (h : openOk k (coverN kind count nonce).1 (coverA kind count nonce) data = true) (hd : data.length = 25) : openM k kind count nonce data = if wI ((openB k (coverN kind count nonce).1 data).getD 0 0) = 2 ∨ wI ((openB k (coverN kind count nonce).1 data).getD 0 0) = 3 then some (wI ((openB k (coverN kind count nonce).1 data).getD 0 0), fit 16 ((openB k (coverN kind count nonce).1 data).drop 1)) else none := by
 simp [openM, h, openB_len, hd]
theorem wI_range {m : Nat} (x : BitVec m) : 0 ≤ wI x ∧ wI x < 2 ^ m := by unfold wI; have := x.isLt; constructor; omega; exact_mod_cast this
def OpR (r : Option (Int × Vc 16)) (w : World) (e : Ending) (w' : World) : Prop := e = .returned (.tuple #[.agg (cat (partsG (r.getD (0, zv 16)).1 (r.getD (0, zv 16)).2)).toArray, .bool r.isSome]) ∧ Ext w w'
set_option maxRecDepth 4000 in
set_option maxHeartbeats 1600000 in
theorem mopen_any (k : Vc 16) (kind count : Int) (hk : 0 ≤ kind) (hk1 : kind < 256) (nonce : Vc 16) (ad : Option Addr) (n c : Nat) (data : By) (hd : data.length = 25) (w : World) (hs : SlB w (.slice ad n c) data) (hcap : CapOk (.slice ad n c)) :
  Calls Try.prog 69 #[.agg (cat (partsM kind count nonce ad n c)).toArray, .agg (k.1.map V8).toArray] w (OpR (openM k.1 kind count nonce.1 data) w) := by
 have H := kp (Loc.start w)
 have HS := kp hs
 have HCP := kp hcap
 have HCV := kp (fun w hs => cover_any kind count hk hk1 nonce ad n c data (by omega) w hs)
 have HAL := kp (show (coverA kind count nonce.1).length ≤ 256 by unfold coverA; rw [List.length_take]; omega)
 have HSE := kp (fun va w h1 h2 => open_any k.1 (coverN kind count nonce.1).1 k.2 (coverN kind count nonce.1).2 va (.slice ad n c) (coverA kind count nonce.1) data HAL.out (by omega) (by omega) w h1 h2 HCP.out)
 have HN := kp (fun h => openM_no (k := k.1) (kind := kind) (count := count) (nonce := nonce.1) (data := data) h)
 have HY := kp (fun h => openM_yes (k := k.1) (kind := kind) (count := count) (nonce := nonce.1) (data := data) h hd)
 have HBL := kp (show (openB k.1 (coverN kind count nonce.1).1 data).length = 17 by rw [openB_len]; omega)
 clear hk hk1 hs hcap hd
 cases hok : openOk k.1 (coverN kind count nonce.1).1 (coverA kind count nonce.1) data with
 | false =>
  have HR := kp (HN.out hok)
  simp only [hok, Bool.false_eq_true, if_false] at HSE
  clear hok HN HY HBL
  generalize openM k.1 kind count nonce.1 data = r at *
  go_enter Try.func69, Try.ntmps69
  go_wp2_with (first | ((with_reducible refine isSt 30 ?_); (refine L_sn H rfl rfl 30 _ _ rfl 1 rfl rfl rfl rfl (by kernel_rfl) ?_)) | ((with_reducible refine isLd 30 ?_); (refine L_fa H rfl 30 _ rfl 1 rfl rfl Try.underlying30 rfl (by kernel_rfl) ?_); simp only [pA]) | ((with_reducible refine isBx 2 78 ?_); (refine L_box H rfl 78 _ rfl (cat (partsM kind count nonce ad n c)) rfl ?_); clear H; intro g2 w2 HGg2 HEg2 H; simp only [pA]) | ((with_reducible refine isBx 3 25 ?_); (refine L_box H rfl 25 _ rfl (cat ([Lf.v k])) rfl ?_); clear H; intro g3 w3 HGg3 HEg3 H; simp only [pA]) | ((with_reducible refine isAl 4 30 ?_); (refine L_alloc H rfl 30 rfl (cat (partsG 0 (zv 16))) (fun _ _ => by kernel_rfl) ?_); clear H; intro g4 w4 HGg4 HEg4 H; simp only [pA]) | ((with_reducible refine isLd 78 ?_); (refine L_fa H rfl 78 _ rfl 2 rfl rfl Try.underlying78 rfl (by kernel_rfl) ?_); simp only [pA]) | (go_at_call 63; refine (HCV.out _ (HS.out.ext H.out.1)).mono ?_; rintro e wa ⟨va, rfl, hs, hx, hn⟩; have HSA := kp hs; clear hs hn; replace H := kp (H.out.ext hx); have HXC := kp hx; clear hx) | ((with_reducible refine isAl 6 107 ?_); (refine L_alloc H rfl 107 rfl (cat ([Lf.v (zv 13)])) (fun _ _ => by kernel_rfl) ?_); clear H; intro g6 w6 HGg6 HEg6 H; simp only [pA]) | ((with_reducible refine isSt 107 ?_); (refine L_sv H rfl rfl 107 _ _ rfl 0 rfl _ rfl _ rfl (Lf.v (coverN kind count nonce.1)) rfl rfl rfl (by kernel_rfl) ([Lf.v (coverN kind count nonce.1)]) rfl ?_; clear H; intro w7 HWw7 H; simp only [szA] at H)) | ((with_reducible refine isLd 25 ?_); (refine L_fv H rfl 25 _ rfl 2 rfl _ rfl _ rfl rfl Try.underlying25 rfl (by kernel_rfl) ?_); simp only [pA]) | ((with_reducible refine isLd 107 ?_); (refine L_fv H rfl 107 _ rfl 0 rfl _ rfl _ rfl rfl Try.underlying107 rfl (by kernel_rfl) ?_); simp only [pA]) | ((with_reducible refine isLd 33 ?_); (refine L_f1 H rfl 33 _ rfl 3 rfl _ rfl _ rfl _ rfl Try.underlying33 rfl ?_); simp only [pA]) | (go_at_call 83; have HLT4 := kp (show g4 < w7.heap.size from H.out.lt 1 rfl); have HSW := kp (HSA.out.past HEg6.out HWw7.out (by have := HGg6.out; omega)); refine (HSE.out _ _ HSW.out (HS.out.ext H.out.1)).mono ?_; rintro e wb ⟨v, rfl, ho, hx⟩; have HO := kp ho; clear ho; replace H := kp (H.out.ext hx); have HXC := kp hx; clear hx))
  (exact ret_f2 H Try.results69 1 rfl rfl _ rfl Try.underlying30 rfl (by kernel_rfl) rfl (⟨by rw [HR.out]; rfl, H.out.1⟩))
 | true =>
  have HR := kp (HY.out hok)
  simp only [hok, if_true] at HSE
  clear hok HN HY
  generalize openM k.1 kind count nonce.1 data = r at *
  generalize hE : openB k.1 (coverN kind count nonce.1).1 data = E at *
  clear hE
  obtain ⟨x0, hx0⟩ : ∃ x, E[0]? = some x := ⟨E[0]'(by rw [HBL.out]; decide), by simp⟩
  have HX0 := kp hx0
  have HR := kp (show r = if wI x0 = 2 ∨ wI x0 = 3 then some (wI x0, fit 16 (E.drop 1)) else none by rw [HR.out, List.getD_eq_getElem?_getD, hx0]; rfl)
  have HX8 := kp (wI_range x0)
  clear hx0
  go_enter Try.func69, Try.ntmps69
  generalize h3 : (Code.region 3 _ _ : Code) = R3
  generalize h5 : (Code.region 5 _ _ : Code) = R5
  generalize h6 : (Code.region 6 _ _ : Code) = R6
  generalize h7 : (Code.region 7 _ _ : Code) = R7
  go_wp2_with (first | ((with_reducible refine isBx 2 78 ?_); (refine L_box H rfl 78 _ rfl (cat (partsM kind count nonce ad n c)) rfl ?_); clear H; intro g2 w2 HGg2 HEg2 H; simp only [pA]) | ((with_reducible refine isBx 3 25 ?_); (refine L_box H rfl 25 _ rfl (cat ([Lf.v k])) rfl ?_); clear H; intro g3 w3 HGg3 HEg3 H; simp only [pA]) | ((with_reducible refine isAl 4 30 ?_); (refine L_alloc H rfl 30 rfl (cat (partsG 0 (zv 16))) (fun _ _ => by kernel_rfl) ?_); clear H; intro g4 w4 HGg4 HEg4 H; simp only [pA]) | ((with_reducible refine isLd 78 ?_); (refine L_fa H rfl 78 _ rfl 2 rfl rfl Try.underlying78 rfl (by kernel_rfl) ?_); simp only [pA]) | (go_at_call 63; refine (HCV.out _ (HS.out.ext H.out.1)).mono ?_; rintro e wa ⟨va, rfl, hs, hx, hn⟩; have HSA := kp hs; clear hs hn; replace H := kp (H.out.ext hx); have HXC := kp hx; clear hx) | ((with_reducible refine isAl 6 107 ?_); (refine L_alloc H rfl 107 rfl (cat ([Lf.v (zv 13)])) (fun _ _ => by kernel_rfl) ?_); clear H; intro g6 w6 HGg6 HEg6 H; simp only [pA]) | ((with_reducible refine isSt 107 ?_); (refine L_sv H rfl rfl 107 _ _ rfl 0 rfl _ rfl _ rfl (Lf.v (coverN kind count nonce.1)) rfl rfl rfl (by kernel_rfl) ([Lf.v (coverN kind count nonce.1)]) rfl ?_; clear H; intro w7 HWw7 H; simp only [szA] at H)) | ((with_reducible refine isLd 25 ?_); (refine L_fv H rfl 25 _ rfl 2 rfl _ rfl _ rfl rfl Try.underlying25 rfl (by kernel_rfl) ?_); simp only [pA]) | ((with_reducible refine isLd 107 ?_); (refine L_fv H rfl 107 _ rfl 0 rfl _ rfl _ rfl rfl Try.underlying107 rfl (by kernel_rfl) ?_); simp only [pA]) | ((with_reducible refine isLd 33 ?_); (refine L_f1 H rfl 33 _ rfl 3 rfl _ rfl _ rfl _ rfl Try.underlying33 rfl ?_); simp only [pA]) | (go_at_call 83; have HLT4 := kp (show g4 < w7.heap.size from H.out.lt 1 rfl); have HSW := kp (HSA.out.past HEg6.out HWw7.out (by have := HGg6.out; omega)); refine (HSE.out _ _ HSW.out (HS.out.ext H.out.1)).mono ?_; rintro e wb ⟨v, rfl, ho, hx⟩; have HO := kp ho; clear ho; replace H := kp (H.out.ext hx); have HXC := kp hx; clear hx))
  obtain ⟨av, cv, hvf⟩ := (SlB.of_owns HO.out).form
  obtain ⟨ge, oe, rfl⟩ : ∃ b o, av = some ⟨b, o, none⟩ := by
   have h5 := SlB.of_owns HO.out
   rw [hvf] at h5
   exact h5.ne (by intro e; have := HBL.out; rw [e] at this; exact absurd this (by decide))
  have HNE := kp (show ge ≠ g4 by rw [hvf] at HO; have q1 := owns_block HO.out ge rfl; have q2 := HLT4.out; omega)
  rw [HBL.out] at hvf
  subst hvf
  have HSE0 := kp (SlB.of_owns HO.out)
  have hc0 : wb.cell? ⟨ge, oe, none⟩ = some (.int .u8 (wI x0)) := by
   obtain ⟨b2, o2, e2, _, h3⟩ := HSE0.out.at 0 x0 HX0.out
   cases e2; exact h3
  subst h3
  have h8 := HX8.out.1
  have h9 := HX8.out.2
  go_wp2_with (first | ((with_reducible refine isSt 30 ?_); (refine L_sn H rfl rfl 30 _ _ rfl 1 rfl rfl rfl rfl (by kernel_rfl) ?_)) | ((with_reducible refine isLd 30 ?_); (refine L_fa H rfl 30 _ rfl 1 rfl rfl Try.underlying30 rfl (by kernel_rfl) ?_); simp only [pA]))
  ·rename wI x0 < 2 => hlt
   have HR2 := kp (show r = none by rw [HR.out, if_neg (by omega)])
   (exact ret_f2 H Try.results69 1 rfl rfl _ rfl Try.underlying30 rfl (by kernel_rfl) rfl (⟨by rw [HR2.out]; rfl, H.out.1⟩))
  ·rename 3 < wI x0 => hlt
   have HR2 := kp (show r = none by rw [HR.out, if_neg (by omega)])
   (exact ret_f2 H Try.results69 1 rfl rfl _ rfl Try.underlying30 rfl (by kernel_rfl) rfl (⟨by rw [HR2.out]; rfl, H.out.1⟩))
  ·have HR2 := kp (show r = some (wI x0, fit 16 (E.drop 1)) by rw [HR.out, if_pos (by omega)])
   subst h5
   go_wp2_with ((with_reducible refine isSt 3 ?_); (refine L_s1 H rfl rfl 3 _ _ rfl 1 rfl _ rfl _ rfl _ rfl rfl rfl rfl (by kernel_rfl) (partsG (wI x0) (zv 16)) rfl ?_; clear H; intro wc HWwc H; simp only [ssA, szA] at H))
   have HC1 := kp (show ∀ c', SlB wc (.slice (some ⟨ge, oe + 1, none⟩) 16 c') (E.drop 1) from fun c' => (HSE0.out.wrote HWwc.out HNE.out).from 1 16 c' (by rw [HBL.out]) (by decide))
   have hcap : 17 ≤ cv := owns_cap HO.out
   subst h6
   refine region_free H (tabS [(49, fun vQ _ => vQ = .pointer (some ⟨g4, 1, none⟩)), (50, fun vQ _ => vQ = .slice (some ⟨g4, 1, none⟩) 16 16), (51, fun vQ _ => vQ = .slice (some ⟨ge, oe, none⟩) 17 cv), (52, fun vQ _ => vQ = .slice (some ⟨ge, oe + 1, none⟩) 16 (cv - 1))]) [] (tabS_out _ _ (by simp only [List.forall_mem_cons, mono_eqO, true_and]; simp)) 4 (by kernel_rfl) (by kernel_rfl) (by kernel_rfl) (by kernel_rfl) [] [] rfl rfl (by decide) (by decide) (by decide) trivial ?_
   simp only [List.take_succ_cons, List.take_zero]
   refine ⟨fun w_ o_ S_ => ?_, fun v49 => ?_⟩
   ·clear S_
    clear o_
    go_wp2_with fail
    exact kso
   simp only [pA]
   refine ⟨fun w_ o_ S_ => ?_, fun v50 => ?_⟩
   ·obtain rfl : v49 = .pointer (some ⟨g4, 1, none⟩) := hsR S_ 49 rfl
    clear S_ o_
    go_wp2_with fail
    exact kso
   simp only [pA]
   refine ⟨fun w_ o_ S_ => ?_, fun v51 => ?_⟩
   ·clear S_
    clear o_
    go_wp2_with fail
    exact kso
   simp only [pA]
   refine ⟨fun w_ o_ S_ => ?_, fun v52 => ?_⟩
   ·obtain rfl : v51 = .slice (some ⟨ge, oe, none⟩) 17 cv := hsR S_ 51 rfl
    clear S_ o_
    go_wp2_with fail
    exact kso
   simp only [pA]
   clear H
   intro wd HOX H hfin
   obtain rfl : v49 = .pointer (some ⟨g4, 1, none⟩) := hfin 49 (by decide)
   obtain rfl : v50 = .slice (some ⟨g4, 1, none⟩) 16 16 := hfin 50 (by decide)
   obtain rfl : v51 = .slice (some ⟨ge, oe, none⟩) 17 cv := hfin 51 (by decide)
   obtain rfl : v52 = .slice (some ⟨ge, oe + 1, none⟩) 16 (cv - 1) := hfin 52 (by decide)
   clear hfin
   simp only [List.drop_succ_cons, List.drop_zero]
   simp only [applyS] at H
   have HXN := kp (HOX.out.ext (Ext.refl wc) (fun g hg => by cases hg))
   have HS2 := kp ((HC1.out (cv - 1)).ext HXN.out)
   go_wp2_with ((with_reducible show wpList _ _ _ (Oper.mk _ (Op.call { callee := .builtin .copy, args := _, argTypes := _ }) _ _ _ _ :: _) _ _); (refine L_cpV H rfl _ _ 33 33 rfl 5 Try.underlying33 size5 1 rfl _ _ _ rfl _ rfl _ rfl _ rfl _ (HS2.out) (partsG (wI x0) (fit 16 (E.drop 1))) rfl ?_; clear H; intro we HWwe H; simp only [ssA, szA] at H); simp only [pA])
   subst h7
   go_wp2_with (first | ((with_reducible refine isSt 30 ?_); (refine L_sn H rfl rfl 30 _ _ rfl 1 rfl rfl rfl rfl (by kernel_rfl) ?_)) | ((with_reducible refine isLd 30 ?_); (refine L_fa H rfl 30 _ rfl 1 rfl rfl Try.underlying30 rfl (by kernel_rfl) ?_); simp only [pA]))
   (exact ret_f2 H Try.results69 1 rfl rfl _ rfl Try.underlying30 rfl (by kernel_rfl) rfl (⟨by rw [HR2.out]; rfl, H.out.1⟩))
end Go.Proofs.Ytibncchobkaaiaa
