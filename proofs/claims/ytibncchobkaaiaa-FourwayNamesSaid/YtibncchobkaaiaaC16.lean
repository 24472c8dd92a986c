/- Texts of this proof, put together: CheckF. -/
import Derived.Test.YtibncchobkaaiaaC14
import Derived.Test.YtibncchobkaaiaaC15
import Derived.Test.YtibncchobkaaiaaC1
namespace Go.Proofs.Ytibncchobkaaiaa
open Go.RowKit
def roleFn (r : Int) : Value := if r = 1 then .func (.func 38) #[] #[] else if r = 2 then .func (.func 39) #[] #[] else .nilFunc
theorem roleFn_1 {r : Int} (h : r = 1) : roleFn r = .func (.func 38) #[] #[] := by simp [roleFn, h]
theorem roleFn_2 {r : Int} (h : r = 2) : roleFn r = .func (.func 39) #[] #[] := by simp [roleFn, h]
theorem roleFn_n {r : Int} (h : r ≠ 1) (h2 : r ≠ 2) : roleFn r = .nilFunc := by simp [roleFn, h, h2]
def roleM : List MapEntry := [⟨.int .u8 1, .func (.func 38) #[] #[], 0⟩, ⟨.int .u8 2, .func (.func 39) #[] #[], 1⟩]
def roleR (r : Int) : Option (Nat × Value) := if r = 1 then some (0, Value.func (.func 38) #[] #[]) else if r = 2 then some (1, Value.func (.func 39) #[] #[]) else none
theorem role_find (r : Int) (w : World) : (Instr.findKey 5 (.int .u8 r) roleM).run Try.prog w = .ok (roleR r) w := by
 have h := find_u8 (K := 5) Try.underlying5 r [(1, Value.func (.func 38) #[] #[]), (2, Value.func (.func 39) #[] #[])] w id
 refine h.trans ?_
 unfold roleR
 by_cases h1 : r = 1
 ·subst h1; rfl
 ·by_cases h2 : r = 2
  ·subst h2; rfl
  ·simp [h1, h2, List.zipIdx]
theorem role_look (r : Int) : (if false then Value.tuple #[((roleR r).map (·.2)).getD .nilFunc, .bool (roleR r).isSome] else ((roleR r).map (·.2)).getD .nilFunc) = roleFn r := by
 unfold roleR roleFn
 by_cases h1 : r = 1
 ·subst h1; rfl
 ·by_cases h2 : r = 2
  ·subst h2; rfl
  ·simp [h1, h2]
def bad1 (s : Fw) : Bool := decide (s.own = s.peer) || !(s.inst == oneI (s.stage == 4)) || !validF s
def bad2 (s : Fw) : Bool := needsB s && !decide (s.pair = keysF s s.other)
theorem check_eq (s : Fw) : checkE s = if bad1 s then 8 else if bad2 s then 8 else 0 := by
 unfold checkE checkB bad1 bad2
 cases decide (s.own = s.peer) <;> cases (s.inst == oneI (s.stage == 4)) <;> cases validF s <;> cases needsB s <;> cases decide (s.pair = keysF s s.other) <;> rfl
set_option maxRecDepth 10000 in
set_option maxHeartbeats 3200000 in
theorem check_any (s : Fw) (w : World) :
  Calls Try.prog 17 #[.agg (cat (partsF s)).toArray] w fun e w' => e = .returned (.int .i64 (checkE s)) ∧ Ext w w' := by
 have H := kp (Loc.start w)
 have HON := kp one_any
 have HVA := kp validAuth_any
 have HVS := kp validSup_any
 have HKE := kp keys_any
 have HC := kp (check_eq s)
 have HRF := kp (role_find s.role)
 have HRL := kp (role_look s.role)
 go_enter Try.func17, Try.ntmps17
 generalize h2 : (Code.region 2 _ _ : Code) = R2
 generalize h4 : (Code.region 4 _ _ : Code) = R4
 generalize h5 : (Code.region 5 _ _ : Code) = R5
 go_wp2_with (first | ((with_reducible show wpList _ _ _ (Oper.mk (some 1) (Op.box 32 _) _ _ _ _ :: _) _ _); (refine L_box H rfl 32 _ rfl (cat (partsF s)) rfl ?_); clear H; intro g1 w1 HGg1 HEg1 H; simp only [Act.put, sbA, szA, ssA]) | ((with_reducible show wpList _ _ _ (Oper.mk _ (Op.makeMap _ _) _ _ _ _ :: _) _ _); refine L_mk0 H rfl _ rfl ?_; clear H; intro m wm HEm HM H; simp only [Act.put, sbA, szA, ssA]) | ((with_reducible show wpList _ _ _ (Oper.mk none (Op.insert _ _ _ _) _ _ _ _ :: _) _ _); refine L_ins H rfl rfl _ _ _ _ rfl _ _ Try.underlying95 HM rfl _ _ rfl rfl (fun _ => by kernel_rfl) (fun _ => by kernel_rfl) ?_; clear H HM; intro wi HM H) | ((with_reducible refine isLd 5 ?_); (refine L_f1 H rfl 5 _ rfl 0 rfl _ rfl _ rfl _ rfl Try.underlying5 rfl ?_); simp only [Act.put, sbA, szA, ssA]) | ((with_reducible show wpList _ _ _ (Oper.mk _ (Op.lookup _ _ _ _) _ _ _ _ :: _) _ _); refine L_lk rfl _ _ _ _ rfl _ _ Try.underlying95 HM rfl _ rfl (fun _ _ => by kernel_rfl) (roleR s.role) HRF.out .nilFunc (fun _ => by kernel_rfl) (roleFn s.role) HRL.out ?_; simp only [Act.put, sbA, szA, ssA]))
 subst h2
 refine wp_cut (3 :: 9 :: 10 :: 11 :: 12 :: 13 :: 14 :: 15 :: 16 :: 17 :: 18 :: 19 :: 20 :: 21 :: 22 :: 23 :: 24 :: 25 :: 26 :: 27 :: 28 :: 29 :: 30 :: 31 :: 32 :: []) (fun vs w' => Kp (Loc w w' [(g1, 32, cat (partsF s))]) ∧ vs 32 = .bool (bad1 s)) ?_ ?_
 ·by_cases r1 : s.role = 1
  ·have HVF := kp (show validF s = validAuthF s by simp [validF, r1])
   rw [roleFn_1 r1]
   clear r1
   cases hx1 : (decide (s.own = s.peer)) with
   | true =>
    have HX1 := kp hx1
    clear hx1
    refine region_free H (tabS [(9, fun vQ _ => vQ = .func (.func 38) #[] #[]), (10, fun vQ _ => vQ = .bool false), (11, fun vQ _ => vQ = .bool false), (12, fun vQ _ => vQ = .pointer (some ⟨g1, 2, none⟩)), (13, fun vQ _ => vQ = .agg (s.own.1.map V8).toArray), (14, fun vQ _ => vQ = .pointer (some ⟨g1, 8, none⟩)), (15, fun vQ _ => vQ = .agg (s.peer.1.map V8).toArray), (16, fun vQ _ => vQ = .bool true), (17, fun vQ _ => vQ = .bool true), (18, fun vQ _ => vQ = .bool true), (19, fun vQ _ => vQ = undef), (20, fun vQ _ => vQ = undef), (21, fun vQ _ => vQ = undef), (22, fun vQ _ => vQ = undef), (23, fun vQ _ => vQ = undef), (24, fun vQ _ => vQ = undef), (25, fun vQ _ => vQ = undef), (26, fun vQ _ => vQ = .bool true), (27, fun vQ _ => vQ = .bool true), (28, fun vQ _ => vQ = undef), (29, fun vQ _ => vQ = undef), (30, fun vQ _ => vQ = undef), (31, fun vQ _ => vQ = undef), (32, fun vQ _ => vQ = .bool true)]) [] (tabS_out _ _ (by simp only [List.forall_mem_cons]; exact ⟨mono_eqO _ _, mono_eqO _ _, mono_eqO _ _, mono_eqO _ _, mono_eqO _ _, mono_eqO _ _, mono_eqO _ _, mono_eqO _ _, mono_eqO _ _, mono_eqO _ _, mono_eqO _ _, mono_eqO _ _, mono_eqO _ _, mono_eqO _ _, mono_eqO _ _, mono_eqO _ _, mono_eqO _ _, mono_eqO _ _, mono_eqO _ _, mono_eqO _ _, mono_eqO _ _, mono_eqO _ _, mono_eqO _ _, mono_eqO _ _, by simp⟩)) 24 (by kernel_rfl) (by kernel_rfl) (by kernel_rfl) (by kernel_rfl) [] [] rfl rfl (by decide) (by decide) (by decide) trivial ?_
    simp only [List.take_succ_cons, List.take_zero]
    refine ⟨fun w_ o_ S_ => ?_, fun v9 => ?_⟩
    ·clear S_
     clear o_
     go_wp2_with fail
     exact kso rfl rfl rfl
    simp only [Act.put, sbA, szA, ssA]
    refine ⟨fun w_ o_ S_ => ?_, fun v10 => ?_⟩
    ·obtain rfl : v9 = .func (.func 38) #[] #[] := hsR S_ 9 rfl
     clear S_
     have H := kp (H.out.keep [0] (St := []) trivial o_ (by decide) (by kernel_rfl))
     have HOX := kp o_
     clear o_
     refine wpList_bin (by kernel_rfl) .eql 94 94 _ _ rfl (.func (.func 38) #[] #[]) .nilFunc (.bool false) rfl rfl (by kernel_rfl) (by kernel_rfl) ?_
     go_wp2_with fail
     exact kso rfl rfl rfl
    simp only [Act.put, sbA, szA, ssA]
    refine ⟨fun w_ o_ S_ => ?_, fun v11 => ?_⟩
    ·obtain rfl : v10 = .bool false := hsR S_ 10 rfl
     clear S_ o_
     go_wp2_with fail
     exact kso rfl rfl rfl
    simp only [Act.put, sbA, szA, ssA]
    refine ⟨fun w_ o_ S_ => ?_, fun v12 => ?_⟩
    ·obtain rfl : v11 = .bool false := hsR S_ 11 rfl
     clear S_ o_
     go_wp2_with fail
     exact kso rfl rfl rfl
    simp only [Act.put, sbA, szA, ssA]
    refine ⟨fun w_ o_ S_ => ?_, fun v13 => ?_⟩
    ·obtain rfl : v11 = .bool false := hsR S_ 11 rfl
     obtain rfl : v12 = .pointer (some ⟨g1, 2, none⟩) := hsR S_ 12 rfl
     clear S_
     have H := kp (H.out.keep [0] (St := []) trivial o_ (by decide) (by kernel_rfl))
     have HOX := kp o_
     clear o_
     go_wp2_with ((with_reducible refine isLd 23 ?_); (refine L_fv H rfl 23 _ rfl 0 rfl _ rfl _ rfl rfl Try.underlying23 rfl (by kernel_rfl) ?_); simp only [Act.put, sbA, szA, ssA])
     exact kso rfl rfl rfl
    simp only [Act.put, sbA, szA, ssA]
    refine ⟨fun w_ o_ S_ => ?_, fun v14 => ?_⟩
    ·obtain rfl : v11 = .bool false := hsR S_ 11 rfl
     clear S_ o_
     go_wp2_with fail
     exact kso rfl rfl rfl
    simp only [Act.put, sbA, szA, ssA]
    refine ⟨fun w_ o_ S_ => ?_, fun v15 => ?_⟩
    ·obtain rfl : v11 = .bool false := hsR S_ 11 rfl
     obtain rfl : v14 = .pointer (some ⟨g1, 8, none⟩) := hsR S_ 14 rfl
     clear S_
     have H := kp (H.out.keep [0] (St := []) trivial o_ (by decide) (by kernel_rfl))
     have HOX := kp o_
     clear o_
     go_wp2_with ((with_reducible refine isLd 23 ?_); (refine L_fv H rfl 23 _ rfl 0 rfl _ rfl _ rfl rfl Try.underlying23 rfl (by kernel_rfl) ?_); simp only [Act.put, sbA, szA, ssA])
     exact kso rfl rfl rfl
    simp only [Act.put, sbA, szA, ssA]
    refine ⟨fun w_ o_ S_ => ?_, fun v16 => ?_⟩
    ·obtain rfl : v11 = .bool false := hsR S_ 11 rfl
     obtain rfl : v13 = .agg (s.own.1.map V8).toArray := hsR S_ 13 rfl
     obtain rfl : v15 = .agg (s.peer.1.map V8).toArray := hsR S_ 15 rfl
     clear S_
     have H := kp (H.out.keep [0] (St := []) trivial o_ (by decide) (by kernel_rfl))
     have HOX := kp o_
     clear o_
     go_wp2_with ((with_reducible show wpList _ _ _ (Oper.mk _ (Op.binOp _ 23 _ _ _) _ _ _ _ :: _) _ _); (refine wpList_eq2 rfl 23 _ _ _ rfl _ _ _ rfl rfl Try.eqGuardType23 (eqV_in _ Try.underlying23 _ _ 9998) ?_); simp only [Act.put, sbA, szA, ssA])
     exact ⟨rfl, _, rfl, fun d hd => by cases hd; exact (congrArg Value.bool HX1.out), Ext.refl _⟩
    simp only [Act.put, sbA, szA, ssA]
    refine ⟨fun w_ o_ S_ => ?_, fun v17 => ?_⟩
    ·obtain rfl : v11 = .bool false := hsR S_ 11 rfl
     obtain rfl : v16 = .bool true := hsR S_ 16 rfl
     clear S_ o_
     go_wp2_with fail
     exact kso rfl rfl rfl
    simp only [Act.put, sbA, szA, ssA]
    refine ⟨fun w_ o_ S_ => ?_, fun v18 => ?_⟩
    ·obtain rfl : v17 = .bool true := hsR S_ 17 rfl
     clear S_ o_
     go_wp2_with fail
     exact kso rfl rfl rfl
    simp only [Act.put, sbA, szA, ssA]
    refine ⟨fun w_ o_ S_ => ?_, fun v19 => ?_⟩
    ·obtain rfl : v18 = .bool true := hsR S_ 18 rfl
     clear S_ o_
     go_wp2_with fail
     exact kso rfl rfl rfl
    simp only [Act.put, sbA, szA, ssA]
    refine ⟨fun w_ o_ S_ => ?_, fun v20 => ?_⟩
    ·obtain rfl : v18 = .bool true := hsR S_ 18 rfl
     clear S_ o_
     go_wp2_with fail
     exact kso rfl rfl rfl
    simp only [Act.put, sbA, szA, ssA]
    refine ⟨fun w_ o_ S_ => ?_, fun v21 => ?_⟩
    ·obtain rfl : v18 = .bool true := hsR S_ 18 rfl
     clear S_ o_
     go_wp2_with fail
     exact kso rfl rfl rfl
    simp only [Act.put, sbA, szA, ssA]
    refine ⟨fun w_ o_ S_ => ?_, fun v22 => ?_⟩
    ·obtain rfl : v18 = .bool true := hsR S_ 18 rfl
     clear S_ o_
     go_wp2_with fail
     exact kso rfl rfl rfl
    simp only [Act.put, sbA, szA, ssA]
    refine ⟨fun w_ o_ S_ => ?_, fun v23 => ?_⟩
    ·obtain rfl : v18 = .bool true := hsR S_ 18 rfl
     clear S_ o_
     go_wp2_with fail
     exact kso rfl rfl rfl
    simp only [Act.put, sbA, szA, ssA]
    refine ⟨fun w_ o_ S_ => ?_, fun v24 => ?_⟩
    ·obtain rfl : v18 = .bool true := hsR S_ 18 rfl
     clear S_ o_
     go_wp2_with fail
     exact kso rfl rfl rfl
    simp only [Act.put, sbA, szA, ssA]
    refine ⟨fun w_ o_ S_ => ?_, fun v25 => ?_⟩
    ·obtain rfl : v18 = .bool true := hsR S_ 18 rfl
     clear S_ o_
     go_wp2_with fail
     exact kso rfl rfl rfl
    simp only [Act.put, sbA, szA, ssA]
    refine ⟨fun w_ o_ S_ => ?_, fun v26 => ?_⟩
    ·obtain rfl : v18 = .bool true := hsR S_ 18 rfl
     obtain rfl : v25 = undef := hsR S_ 25 rfl
     clear S_ o_
     go_wp2_with fail
     exact kso rfl rfl rfl
    simp only [Act.put, sbA, szA, ssA]
    refine ⟨fun w_ o_ S_ => ?_, fun v27 => ?_⟩
    ·obtain rfl : v26 = .bool true := hsR S_ 26 rfl
     clear S_ o_
     go_wp2_with fail
     exact kso rfl rfl rfl
    simp only [Act.put, sbA, szA, ssA]
    refine ⟨fun w_ o_ S_ => ?_, fun v28 => ?_⟩
    ·obtain rfl : v27 = .bool true := hsR S_ 27 rfl
     clear S_ o_
     go_wp2_with fail
     exact kso rfl rfl rfl
    simp only [Act.put, sbA, szA, ssA]
    refine ⟨fun w_ o_ S_ => ?_, fun v29 => ?_⟩
    ·obtain rfl : v27 = .bool true := hsR S_ 27 rfl
     clear S_ o_
     go_wp2_with fail
     exact kso rfl rfl rfl
    simp only [Act.put, sbA, szA, ssA]
    refine ⟨fun w_ o_ S_ => ?_, fun v30 => ?_⟩
    ·obtain rfl : v27 = .bool true := hsR S_ 27 rfl
     clear S_ o_
     go_wp2_with fail
     exact kso rfl rfl rfl
    simp only [Act.put, sbA, szA, ssA]
    refine ⟨fun w_ o_ S_ => ?_, fun v31 => ?_⟩
    ·obtain rfl : v27 = .bool true := hsR S_ 27 rfl
     clear S_ o_
     go_wp2_with fail
     exact kso rfl rfl rfl
    simp only [Act.put, sbA, szA, ssA]
    refine ⟨fun w_ o_ S_ => ?_, fun v32 => ?_⟩
    ·obtain rfl : v27 = .bool true := hsR S_ 27 rfl
     obtain rfl : v31 = undef := hsR S_ 31 rfl
     clear S_ o_
     go_wp2_with fail
     exact kso rfl rfl rfl
    simp only [Act.put, sbA, szA, ssA]
    clear H
    intro w4 HOX H hfin
    obtain rfl : v9 = .func (.func 38) #[] #[] := hfin 9 (by decide)
    obtain rfl : v10 = .bool false := hfin 10 (by decide)
    obtain rfl : v11 = .bool false := hfin 11 (by decide)
    obtain rfl : v12 = .pointer (some ⟨g1, 2, none⟩) := hfin 12 (by decide)
    obtain rfl : v13 = .agg (s.own.1.map V8).toArray := hfin 13 (by decide)
    obtain rfl : v14 = .pointer (some ⟨g1, 8, none⟩) := hfin 14 (by decide)
    obtain rfl : v15 = .agg (s.peer.1.map V8).toArray := hfin 15 (by decide)
    obtain rfl : v16 = .bool true := hfin 16 (by decide)
    obtain rfl : v17 = .bool true := hfin 17 (by decide)
    obtain rfl : v18 = .bool true := hfin 18 (by decide)
    obtain rfl : v19 = undef := hfin 19 (by decide)
    obtain rfl : v20 = undef := hfin 20 (by decide)
    obtain rfl : v21 = undef := hfin 21 (by decide)
    obtain rfl : v22 = undef := hfin 22 (by decide)
    obtain rfl : v23 = undef := hfin 23 (by decide)
    obtain rfl : v24 = undef := hfin 24 (by decide)
    obtain rfl : v25 = undef := hfin 25 (by decide)
    obtain rfl : v26 = .bool true := hfin 26 (by decide)
    obtain rfl : v27 = .bool true := hfin 27 (by decide)
    obtain rfl : v28 = undef := hfin 28 (by decide)
    obtain rfl : v29 = undef := hfin 29 (by decide)
    obtain rfl : v30 = undef := hfin 30 (by decide)
    obtain rfl : v31 = undef := hfin 31 (by decide)
    obtain rfl : v32 = .bool true := hfin 32 (by decide)
    clear hfin
    simp only [List.drop_succ_cons, List.drop_zero]
    simp only [applyS] at H
    have HXN := kp (HOX.out.ext (Ext.refl wi) (fun g hg => by cases hg))
    go_wp2_with fail
    exact CutP.of rfl (by kernel_rfl) ⟨H, by show Value.bool _ = Value.bool _; simp [bad1, HVF.out, HX1.out]⟩
   | false =>
    have HX1 := kp hx1
    clear hx1
    cases hx2 : (s.inst == (oneI (s.stage == 4))) with
    | true =>
     have HX2 := kp hx2
     clear hx2
     refine region_free H (tabS [(9, fun vQ _ => vQ = .func (.func 38) #[] #[]), (10, fun vQ _ => vQ = .bool false), (11, fun vQ _ => vQ = .bool false), (12, fun vQ _ => vQ = .pointer (some ⟨g1, 2, none⟩)), (13, fun vQ _ => vQ = .agg (s.own.1.map V8).toArray), (14, fun vQ _ => vQ = .pointer (some ⟨g1, 8, none⟩)), (15, fun vQ _ => vQ = .agg (s.peer.1.map V8).toArray), (16, fun vQ _ => vQ = .bool false), (17, fun vQ _ => vQ = .bool false), (18, fun vQ _ => vQ = .bool false), (19, fun vQ _ => vQ = .pointer (some ⟨g1, 130, none⟩)), (20, fun vQ _ => vQ = .int .i64 s.inst), (21, fun vQ _ => vQ = .pointer (some ⟨g1, 1, none⟩)), (22, fun vQ _ => vQ = .int .u8 s.stage), (23, fun vQ _ => vQ = .bool (s.stage == 4)), (24, fun vQ _ => vQ = .int .i64 (oneI (s.stage == 4))), (25, fun vQ _ => vQ = .bool false), (26, fun vQ _ => vQ = .bool false), (27, fun vQ _ => vQ = .bool false), (28, fun vQ _ => vQ = .func (.func 38) #[] #[]), (29, fun vQ _ => vQ = .agg (cat (partsF s)).toArray), (30, fun vQ _ => vQ = .bool (validAuthF s)), (31, fun vQ _ => vQ = .bool (!validAuthF s)), (32, fun vQ _ => vQ = .bool (!validAuthF s))]) [] (tabS_out _ _ (by simp only [List.forall_mem_cons]; exact ⟨mono_eqO _ _, mono_eqO _ _, mono_eqO _ _, mono_eqO _ _, mono_eqO _ _, mono_eqO _ _, mono_eqO _ _, mono_eqO _ _, mono_eqO _ _, mono_eqO _ _, mono_eqO _ _, mono_eqO _ _, mono_eqO _ _, mono_eqO _ _, mono_eqO _ _, mono_eqO _ _, mono_eqO _ _, mono_eqO _ _, mono_eqO _ _, mono_eqO _ _, mono_eqO _ _, mono_eqO _ _, mono_eqO _ _, mono_eqO _ _, by simp⟩)) 24 (by kernel_rfl) (by kernel_rfl) (by kernel_rfl) (by kernel_rfl) [] [] rfl rfl (by decide) (by decide) (by decide) trivial ?_
     simp only [List.take_succ_cons, List.take_zero]
     refine ⟨fun w_ o_ S_ => ?_, fun v9 => ?_⟩
     ·clear S_
      clear o_
      go_wp2_with fail
      exact kso rfl rfl rfl
     simp only [Act.put, sbA, szA, ssA]
     refine ⟨fun w_ o_ S_ => ?_, fun v10 => ?_⟩
     ·obtain rfl : v9 = .func (.func 38) #[] #[] := hsR S_ 9 rfl
      clear S_
      have H := kp (H.out.keep [0] (St := []) trivial o_ (by decide) (by kernel_rfl))
      have HOX := kp o_
      clear o_
      refine wpList_bin (by kernel_rfl) .eql 94 94 _ _ rfl (.func (.func 38) #[] #[]) .nilFunc (.bool false) rfl rfl (by kernel_rfl) (by kernel_rfl) ?_
      go_wp2_with fail
      exact kso rfl rfl rfl
     simp only [Act.put, sbA, szA, ssA]
     refine ⟨fun w_ o_ S_ => ?_, fun v11 => ?_⟩
     ·obtain rfl : v10 = .bool false := hsR S_ 10 rfl
      clear S_ o_
      go_wp2_with fail
      exact kso rfl rfl rfl
     simp only [Act.put, sbA, szA, ssA]
     refine ⟨fun w_ o_ S_ => ?_, fun v12 => ?_⟩
     ·obtain rfl : v11 = .bool false := hsR S_ 11 rfl
      clear S_ o_
      go_wp2_with fail
      exact kso rfl rfl rfl
     simp only [Act.put, sbA, szA, ssA]
     refine ⟨fun w_ o_ S_ => ?_, fun v13 => ?_⟩
     ·obtain rfl : v11 = .bool false := hsR S_ 11 rfl
      obtain rfl : v12 = .pointer (some ⟨g1, 2, none⟩) := hsR S_ 12 rfl
      clear S_
      have H := kp (H.out.keep [0] (St := []) trivial o_ (by decide) (by kernel_rfl))
      have HOX := kp o_
      clear o_
      go_wp2_with ((with_reducible refine isLd 23 ?_); (refine L_fv H rfl 23 _ rfl 0 rfl _ rfl _ rfl rfl Try.underlying23 rfl (by kernel_rfl) ?_); simp only [Act.put, sbA, szA, ssA])
      exact kso rfl rfl rfl
     simp only [Act.put, sbA, szA, ssA]
     refine ⟨fun w_ o_ S_ => ?_, fun v14 => ?_⟩
     ·obtain rfl : v11 = .bool false := hsR S_ 11 rfl
      clear S_ o_
      go_wp2_with fail
      exact kso rfl rfl rfl
     simp only [Act.put, sbA, szA, ssA]
     refine ⟨fun w_ o_ S_ => ?_, fun v15 => ?_⟩
     ·obtain rfl : v11 = .bool false := hsR S_ 11 rfl
      obtain rfl : v14 = .pointer (some ⟨g1, 8, none⟩) := hsR S_ 14 rfl
      clear S_
      have H := kp (H.out.keep [0] (St := []) trivial o_ (by decide) (by kernel_rfl))
      have HOX := kp o_
      clear o_
      go_wp2_with ((with_reducible refine isLd 23 ?_); (refine L_fv H rfl 23 _ rfl 0 rfl _ rfl _ rfl rfl Try.underlying23 rfl (by kernel_rfl) ?_); simp only [Act.put, sbA, szA, ssA])
      exact kso rfl rfl rfl
     simp only [Act.put, sbA, szA, ssA]
     refine ⟨fun w_ o_ S_ => ?_, fun v16 => ?_⟩
     ·obtain rfl : v11 = .bool false := hsR S_ 11 rfl
      obtain rfl : v13 = .agg (s.own.1.map V8).toArray := hsR S_ 13 rfl
      obtain rfl : v15 = .agg (s.peer.1.map V8).toArray := hsR S_ 15 rfl
      clear S_
      have H := kp (H.out.keep [0] (St := []) trivial o_ (by decide) (by kernel_rfl))
      have HOX := kp o_
      clear o_
      go_wp2_with ((with_reducible show wpList _ _ _ (Oper.mk _ (Op.binOp _ 23 _ _ _) _ _ _ _ :: _) _ _); (refine wpList_eq2 rfl 23 _ _ _ rfl _ _ _ rfl rfl Try.eqGuardType23 (eqV_in _ Try.underlying23 _ _ 9998) ?_); simp only [Act.put, sbA, szA, ssA])
      exact ⟨rfl, _, rfl, fun d hd => by cases hd; exact (congrArg Value.bool HX1.out), Ext.refl _⟩
     simp only [Act.put, sbA, szA, ssA]
     refine ⟨fun w_ o_ S_ => ?_, fun v17 => ?_⟩
     ·obtain rfl : v11 = .bool false := hsR S_ 11 rfl
      obtain rfl : v16 = .bool false := hsR S_ 16 rfl
      clear S_ o_
      go_wp2_with fail
      exact kso rfl rfl rfl
     simp only [Act.put, sbA, szA, ssA]
     refine ⟨fun w_ o_ S_ => ?_, fun v18 => ?_⟩
     ·obtain rfl : v17 = .bool false := hsR S_ 17 rfl
      clear S_ o_
      go_wp2_with fail
      exact kso rfl rfl rfl
     simp only [Act.put, sbA, szA, ssA]
     refine ⟨fun w_ o_ S_ => ?_, fun v19 => ?_⟩
     ·obtain rfl : v18 = .bool false := hsR S_ 18 rfl
      clear S_ o_
      go_wp2_with fail
      exact kso rfl rfl rfl
     simp only [Act.put, sbA, szA, ssA]
     refine ⟨fun w_ o_ S_ => ?_, fun v20 => ?_⟩
     ·obtain rfl : v18 = .bool false := hsR S_ 18 rfl
      obtain rfl : v19 = .pointer (some ⟨g1, 130, none⟩) := hsR S_ 19 rfl
      clear S_
      have H := kp (H.out.keep [0] (St := []) trivial o_ (by decide) (by kernel_rfl))
      have HOX := kp o_
      clear o_
      go_wp2_with ((with_reducible refine isLd 3 ?_); (refine L_f1 H rfl 3 _ rfl 0 rfl _ rfl _ rfl _ rfl Try.underlying3 rfl ?_); simp only [Act.put, sbA, szA, ssA])
      exact kso rfl rfl rfl
     simp only [Act.put, sbA, szA, ssA]
     refine ⟨fun w_ o_ S_ => ?_, fun v21 => ?_⟩
     ·obtain rfl : v18 = .bool false := hsR S_ 18 rfl
      clear S_ o_
      go_wp2_with fail
      exact kso rfl rfl rfl
     simp only [Act.put, sbA, szA, ssA]
     refine ⟨fun w_ o_ S_ => ?_, fun v22 => ?_⟩
     ·obtain rfl : v18 = .bool false := hsR S_ 18 rfl
      obtain rfl : v21 = .pointer (some ⟨g1, 1, none⟩) := hsR S_ 21 rfl
      clear S_
      have H := kp (H.out.keep [0] (St := []) trivial o_ (by decide) (by kernel_rfl))
      have HOX := kp o_
      clear o_
      go_wp2_with ((with_reducible refine isLd 5 ?_); (refine L_f1 H rfl 5 _ rfl 0 rfl _ rfl _ rfl _ rfl Try.underlying5 rfl ?_); simp only [Act.put, sbA, szA, ssA])
      exact kso rfl rfl rfl
     simp only [Act.put, sbA, szA, ssA]
     refine ⟨fun w_ o_ S_ => ?_, fun v23 => ?_⟩
     ·obtain rfl : v18 = .bool false := hsR S_ 18 rfl
      obtain rfl : v22 = .int .u8 s.stage := hsR S_ 22 rfl
      clear S_
      have H := kp (H.out.keep [0] (St := []) trivial o_ (by decide) (by kernel_rfl))
      have HOX := kp o_
      clear o_
      go_wp2_with fail
      exact kso rfl rfl rfl
     simp only [Act.put, sbA, szA, ssA]
     refine ⟨fun w_ o_ S_ => ?_, fun v24 => ?_⟩
     ·obtain rfl : v18 = .bool false := hsR S_ 18 rfl
      obtain rfl : v23 = .bool (s.stage == 4) := hsR S_ 23 rfl
      clear S_
      have H := kp (H.out.keep [0] (St := []) trivial o_ (by decide) (by kernel_rfl))
      have HOX := kp o_
      clear o_
      go_wp2_with fail
      refine (HON.out _ _).mono ?_
      rintro e w2 ⟨rfl, rfl⟩
      go_wp2_with fail
      exact kso rfl rfl rfl
     simp only [Act.put, sbA, szA, ssA]
     refine ⟨fun w_ o_ S_ => ?_, fun v25 => ?_⟩
     ·obtain rfl : v18 = .bool false := hsR S_ 18 rfl
      obtain rfl : v20 = .int .i64 s.inst := hsR S_ 20 rfl
      obtain rfl : v24 = .int .i64 (oneI (s.stage == 4)) := hsR S_ 24 rfl
      clear S_
      have H := kp (H.out.keep [0] (St := []) trivial o_ (by decide) (by kernel_rfl))
      have HOX := kp o_
      clear o_
      go_wp2_with fail
      exact ⟨rfl, _, rfl, fun d hd => by cases hd; exact (congrArg Value.bool (congrArg not HX2.out)), Ext.refl _⟩
     simp only [Act.put, sbA, szA, ssA]
     refine ⟨fun w_ o_ S_ => ?_, fun v26 => ?_⟩
     ·obtain rfl : v18 = .bool false := hsR S_ 18 rfl
      obtain rfl : v25 = .bool false := hsR S_ 25 rfl
      clear S_ o_
      go_wp2_with fail
      exact kso rfl rfl rfl
     simp only [Act.put, sbA, szA, ssA]
     refine ⟨fun w_ o_ S_ => ?_, fun v27 => ?_⟩
     ·obtain rfl : v26 = .bool false := hsR S_ 26 rfl
      clear S_ o_
      go_wp2_with fail
      exact kso rfl rfl rfl
     simp only [Act.put, sbA, szA, ssA]
     refine ⟨fun w_ o_ S_ => ?_, fun v28 => ?_⟩
     ·obtain rfl : v27 = .bool false := hsR S_ 27 rfl
      clear S_ o_
      go_wp2_with fail
      exact kso rfl rfl rfl
     simp only [Act.put, sbA, szA, ssA]
     refine ⟨fun w_ o_ S_ => ?_, fun v29 => ?_⟩
     ·obtain rfl : v27 = .bool false := hsR S_ 27 rfl
      clear S_
      have H := kp (H.out.keep [0] (St := []) trivial o_ (by decide) (by kernel_rfl))
      have HOX := kp o_
      clear o_
      go_wp2_with ((with_reducible refine isLd 32 ?_); (refine L_fa H rfl 32 _ rfl 0 rfl rfl Try.underlying32 rfl (by kernel_rfl) ?_); simp only [Act.put, sbA, szA, ssA])
      exact kso rfl rfl rfl
     simp only [Act.put, sbA, szA, ssA]
     refine ⟨fun w_ o_ S_ => ?_, fun v30 => ?_⟩
     ·obtain rfl : v27 = .bool false := hsR S_ 27 rfl
      obtain rfl : v28 = .func (.func 38) #[] #[] := hsR S_ 28 rfl
      obtain rfl : v29 = .agg (cat (partsF s)).toArray := hsR S_ 29 rfl
      clear S_
      have H := kp (H.out.keep [0] (St := []) trivial o_ (by decide) (by kernel_rfl))
      have HOX := kp o_
      clear o_
      go_wp2_with fail
      refine (HVA.out _ _).mono ?_
      rintro e w2 ⟨rfl, hx⟩
      have HXC := kp hx
      clear hx
      go_wp2_with fail
      exact ⟨rfl, _, rfl, fun d hd => by cases hd; exact rfl, HXC.out⟩
     simp only [Act.put, sbA, szA, ssA]
     refine ⟨fun w_ o_ S_ => ?_, fun v31 => ?_⟩
     ·obtain rfl : v27 = .bool false := hsR S_ 27 rfl
      obtain rfl : v30 = .bool (validAuthF s) := hsR S_ 30 rfl
      clear S_ o_
      go_wp2_with fail
      exact kso rfl rfl rfl
     simp only [Act.put, sbA, szA, ssA]
     refine ⟨fun w_ o_ S_ => ?_, fun v32 => ?_⟩
     ·obtain rfl : v27 = .bool false := hsR S_ 27 rfl
      obtain rfl : v31 = .bool (!validAuthF s) := hsR S_ 31 rfl
      clear S_ o_
      go_wp2_with fail
      exact kso rfl rfl rfl
     simp only [Act.put, sbA, szA, ssA]
     clear H
     intro w4 HOX H hfin
     obtain rfl : v9 = .func (.func 38) #[] #[] := hfin 9 (by decide)
     obtain rfl : v10 = .bool false := hfin 10 (by decide)
     obtain rfl : v11 = .bool false := hfin 11 (by decide)
     obtain rfl : v12 = .pointer (some ⟨g1, 2, none⟩) := hfin 12 (by decide)
     obtain rfl : v13 = .agg (s.own.1.map V8).toArray := hfin 13 (by decide)
     obtain rfl : v14 = .pointer (some ⟨g1, 8, none⟩) := hfin 14 (by decide)
     obtain rfl : v15 = .agg (s.peer.1.map V8).toArray := hfin 15 (by decide)
     obtain rfl : v16 = .bool false := hfin 16 (by decide)
     obtain rfl : v17 = .bool false := hfin 17 (by decide)
     obtain rfl : v18 = .bool false := hfin 18 (by decide)
     obtain rfl : v19 = .pointer (some ⟨g1, 130, none⟩) := hfin 19 (by decide)
     obtain rfl : v20 = .int .i64 s.inst := hfin 20 (by decide)
     obtain rfl : v21 = .pointer (some ⟨g1, 1, none⟩) := hfin 21 (by decide)
     obtain rfl : v22 = .int .u8 s.stage := hfin 22 (by decide)
     obtain rfl : v23 = .bool (s.stage == 4) := hfin 23 (by decide)
     obtain rfl : v24 = .int .i64 (oneI (s.stage == 4)) := hfin 24 (by decide)
     obtain rfl : v25 = .bool false := hfin 25 (by decide)
     obtain rfl : v26 = .bool false := hfin 26 (by decide)
     obtain rfl : v27 = .bool false := hfin 27 (by decide)
     obtain rfl : v28 = .func (.func 38) #[] #[] := hfin 28 (by decide)
     obtain rfl : v29 = .agg (cat (partsF s)).toArray := hfin 29 (by decide)
     obtain rfl : v30 = .bool (validAuthF s) := hfin 30 (by decide)
     obtain rfl : v31 = .bool (!validAuthF s) := hfin 31 (by decide)
     obtain rfl : v32 = .bool (!validAuthF s) := hfin 32 (by decide)
     clear hfin
     simp only [List.drop_succ_cons, List.drop_zero]
     simp only [applyS] at H
     have HXN := kp (HOX.out.ext (Ext.refl wi) (fun g hg => by cases hg))
     go_wp2_with fail
     exact CutP.of rfl (by kernel_rfl) ⟨H, by show Value.bool _ = Value.bool _; simp [bad1, HVF.out, HX1.out, HX2.out]⟩
    | false =>
     have HX2 := kp hx2
     clear hx2
     refine region_free H (tabS [(9, fun vQ _ => vQ = .func (.func 38) #[] #[]), (10, fun vQ _ => vQ = .bool false), (11, fun vQ _ => vQ = .bool false), (12, fun vQ _ => vQ = .pointer (some ⟨g1, 2, none⟩)), (13, fun vQ _ => vQ = .agg (s.own.1.map V8).toArray), (14, fun vQ _ => vQ = .pointer (some ⟨g1, 8, none⟩)), (15, fun vQ _ => vQ = .agg (s.peer.1.map V8).toArray), (16, fun vQ _ => vQ = .bool false), (17, fun vQ _ => vQ = .bool false), (18, fun vQ _ => vQ = .bool false), (19, fun vQ _ => vQ = .pointer (some ⟨g1, 130, none⟩)), (20, fun vQ _ => vQ = .int .i64 s.inst), (21, fun vQ _ => vQ = .pointer (some ⟨g1, 1, none⟩)), (22, fun vQ _ => vQ = .int .u8 s.stage), (23, fun vQ _ => vQ = .bool (s.stage == 4)), (24, fun vQ _ => vQ = .int .i64 (oneI (s.stage == 4))), (25, fun vQ _ => vQ = .bool true), (26, fun vQ _ => vQ = .bool true), (27, fun vQ _ => vQ = .bool true), (28, fun vQ _ => vQ = undef), (29, fun vQ _ => vQ = undef), (30, fun vQ _ => vQ = undef), (31, fun vQ _ => vQ = undef), (32, fun vQ _ => vQ = .bool true)]) [] (tabS_out _ _ (by simp only [List.forall_mem_cons]; exact ⟨mono_eqO _ _, mono_eqO _ _, mono_eqO _ _, mono_eqO _ _, mono_eqO _ _, mono_eqO _ _, mono_eqO _ _, mono_eqO _ _, mono_eqO _ _, mono_eqO _ _, mono_eqO _ _, mono_eqO _ _, mono_eqO _ _, mono_eqO _ _, mono_eqO _ _, mono_eqO _ _, mono_eqO _ _, mono_eqO _ _, mono_eqO _ _, mono_eqO _ _, mono_eqO _ _, mono_eqO _ _, mono_eqO _ _, mono_eqO _ _, by simp⟩)) 24 (by kernel_rfl) (by kernel_rfl) (by kernel_rfl) (by kernel_rfl) [] [] rfl rfl (by decide) (by decide) (by decide) trivial ?_
     simp only [List.take_succ_cons, List.take_zero]
     refine ⟨fun w_ o_ S_ => ?_, fun v9 => ?_⟩
     ·clear S_
      clear o_
      go_wp2_with fail
      exact kso rfl rfl rfl
     simp only [Act.put, sbA, szA, ssA]
     refine ⟨fun w_ o_ S_ => ?_, fun v10 => ?_⟩
     ·obtain rfl : v9 = .func (.func 38) #[] #[] := hsR S_ 9 rfl
      clear S_
      have H := kp (H.out.keep [0] (St := []) trivial o_ (by decide) (by kernel_rfl))
      have HOX := kp o_
      clear o_
      refine wpList_bin (by kernel_rfl) .eql 94 94 _ _ rfl (.func (.func 38) #[] #[]) .nilFunc (.bool false) rfl rfl (by kernel_rfl) (by kernel_rfl) ?_
      go_wp2_with fail
      exact kso rfl rfl rfl
     simp only [Act.put, sbA, szA, ssA]
     refine ⟨fun w_ o_ S_ => ?_, fun v11 => ?_⟩
     ·obtain rfl : v10 = .bool false := hsR S_ 10 rfl
      clear S_ o_
      go_wp2_with fail
      exact kso rfl rfl rfl
     simp only [Act.put, sbA, szA, ssA]
     refine ⟨fun w_ o_ S_ => ?_, fun v12 => ?_⟩
     ·obtain rfl : v11 = .bool false := hsR S_ 11 rfl
      clear S_ o_
      go_wp2_with fail
      exact kso rfl rfl rfl
     simp only [Act.put, sbA, szA, ssA]
     refine ⟨fun w_ o_ S_ => ?_, fun v13 => ?_⟩
     ·obtain rfl : v11 = .bool false := hsR S_ 11 rfl
      obtain rfl : v12 = .pointer (some ⟨g1, 2, none⟩) := hsR S_ 12 rfl
      clear S_
      have H := kp (H.out.keep [0] (St := []) trivial o_ (by decide) (by kernel_rfl))
      have HOX := kp o_
      clear o_
      go_wp2_with ((with_reducible refine isLd 23 ?_); (refine L_fv H rfl 23 _ rfl 0 rfl _ rfl _ rfl rfl Try.underlying23 rfl (by kernel_rfl) ?_); simp only [Act.put, sbA, szA, ssA])
      exact kso rfl rfl rfl
     simp only [Act.put, sbA, szA, ssA]
     refine ⟨fun w_ o_ S_ => ?_, fun v14 => ?_⟩
     ·obtain rfl : v11 = .bool false := hsR S_ 11 rfl
      clear S_ o_
      go_wp2_with fail
      exact kso rfl rfl rfl
     simp only [Act.put, sbA, szA, ssA]
     refine ⟨fun w_ o_ S_ => ?_, fun v15 => ?_⟩
     ·obtain rfl : v11 = .bool false := hsR S_ 11 rfl
      obtain rfl : v14 = .pointer (some ⟨g1, 8, none⟩) := hsR S_ 14 rfl
      clear S_
      have H := kp (H.out.keep [0] (St := []) trivial o_ (by decide) (by kernel_rfl))
      have HOX := kp o_
      clear o_
      go_wp2_with ((with_reducible refine isLd 23 ?_); (refine L_fv H rfl 23 _ rfl 0 rfl _ rfl _ rfl rfl Try.underlying23 rfl (by kernel_rfl) ?_); simp only [Act.put, sbA, szA, ssA])
      exact kso rfl rfl rfl
     simp only [Act.put, sbA, szA, ssA]
     refine ⟨fun w_ o_ S_ => ?_, fun v16 => ?_⟩
     ·obtain rfl : v11 = .bool false := hsR S_ 11 rfl
      obtain rfl : v13 = .agg (s.own.1.map V8).toArray := hsR S_ 13 rfl
      obtain rfl : v15 = .agg (s.peer.1.map V8).toArray := hsR S_ 15 rfl
      clear S_
      have H := kp (H.out.keep [0] (St := []) trivial o_ (by decide) (by kernel_rfl))
      have HOX := kp o_
      clear o_
      go_wp2_with ((with_reducible show wpList _ _ _ (Oper.mk _ (Op.binOp _ 23 _ _ _) _ _ _ _ :: _) _ _); (refine wpList_eq2 rfl 23 _ _ _ rfl _ _ _ rfl rfl Try.eqGuardType23 (eqV_in _ Try.underlying23 _ _ 9998) ?_); simp only [Act.put, sbA, szA, ssA])
      exact ⟨rfl, _, rfl, fun d hd => by cases hd; exact (congrArg Value.bool HX1.out), Ext.refl _⟩
     simp only [Act.put, sbA, szA, ssA]
     refine ⟨fun w_ o_ S_ => ?_, fun v17 => ?_⟩
     ·obtain rfl : v11 = .bool false := hsR S_ 11 rfl
      obtain rfl : v16 = .bool false := hsR S_ 16 rfl
      clear S_ o_
      go_wp2_with fail
      exact kso rfl rfl rfl
     simp only [Act.put, sbA, szA, ssA]
     refine ⟨fun w_ o_ S_ => ?_, fun v18 => ?_⟩
     ·obtain rfl : v17 = .bool false := hsR S_ 17 rfl
      clear S_ o_
      go_wp2_with fail
      exact kso rfl rfl rfl
     simp only [Act.put, sbA, szA, ssA]
     refine ⟨fun w_ o_ S_ => ?_, fun v19 => ?_⟩
     ·obtain rfl : v18 = .bool false := hsR S_ 18 rfl
      clear S_ o_
      go_wp2_with fail
      exact kso rfl rfl rfl
     simp only [Act.put, sbA, szA, ssA]
     refine ⟨fun w_ o_ S_ => ?_, fun v20 => ?_⟩
     ·obtain rfl : v18 = .bool false := hsR S_ 18 rfl
      obtain rfl : v19 = .pointer (some ⟨g1, 130, none⟩) := hsR S_ 19 rfl
      clear S_
      have H := kp (H.out.keep [0] (St := []) trivial o_ (by decide) (by kernel_rfl))
      have HOX := kp o_
      clear o_
      go_wp2_with ((with_reducible refine isLd 3 ?_); (refine L_f1 H rfl 3 _ rfl 0 rfl _ rfl _ rfl _ rfl Try.underlying3 rfl ?_); simp only [Act.put, sbA, szA, ssA])
      exact kso rfl rfl rfl
     simp only [Act.put, sbA, szA, ssA]
     refine ⟨fun w_ o_ S_ => ?_, fun v21 => ?_⟩
     ·obtain rfl : v18 = .bool false := hsR S_ 18 rfl
      clear S_ o_
      go_wp2_with fail
      exact kso rfl rfl rfl
     simp only [Act.put, sbA, szA, ssA]
     refine ⟨fun w_ o_ S_ => ?_, fun v22 => ?_⟩
     ·obtain rfl : v18 = .bool false := hsR S_ 18 rfl
      obtain rfl : v21 = .pointer (some ⟨g1, 1, none⟩) := hsR S_ 21 rfl
      clear S_
      have H := kp (H.out.keep [0] (St := []) trivial o_ (by decide) (by kernel_rfl))
      have HOX := kp o_
      clear o_
      go_wp2_with ((with_reducible refine isLd 5 ?_); (refine L_f1 H rfl 5 _ rfl 0 rfl _ rfl _ rfl _ rfl Try.underlying5 rfl ?_); simp only [Act.put, sbA, szA, ssA])
      exact kso rfl rfl rfl
     simp only [Act.put, sbA, szA, ssA]
     refine ⟨fun w_ o_ S_ => ?_, fun v23 => ?_⟩
     ·obtain rfl : v18 = .bool false := hsR S_ 18 rfl
      obtain rfl : v22 = .int .u8 s.stage := hsR S_ 22 rfl
      clear S_
      have H := kp (H.out.keep [0] (St := []) trivial o_ (by decide) (by kernel_rfl))
      have HOX := kp o_
      clear o_
      go_wp2_with fail
      exact kso rfl rfl rfl
     simp only [Act.put, sbA, szA, ssA]
     refine ⟨fun w_ o_ S_ => ?_, fun v24 => ?_⟩
     ·obtain rfl : v18 = .bool false := hsR S_ 18 rfl
      obtain rfl : v23 = .bool (s.stage == 4) := hsR S_ 23 rfl
      clear S_
      have H := kp (H.out.keep [0] (St := []) trivial o_ (by decide) (by kernel_rfl))
      have HOX := kp o_
      clear o_
      go_wp2_with fail
      refine (HON.out _ _).mono ?_
      rintro e w2 ⟨rfl, rfl⟩
      go_wp2_with fail
      exact kso rfl rfl rfl
     simp only [Act.put, sbA, szA, ssA]
     refine ⟨fun w_ o_ S_ => ?_, fun v25 => ?_⟩
     ·obtain rfl : v18 = .bool false := hsR S_ 18 rfl
      obtain rfl : v20 = .int .i64 s.inst := hsR S_ 20 rfl
      obtain rfl : v24 = .int .i64 (oneI (s.stage == 4)) := hsR S_ 24 rfl
      clear S_
      have H := kp (H.out.keep [0] (St := []) trivial o_ (by decide) (by kernel_rfl))
      have HOX := kp o_
      clear o_
      go_wp2_with fail
      exact ⟨rfl, _, rfl, fun d hd => by cases hd; exact (congrArg Value.bool (congrArg not HX2.out)), Ext.refl _⟩
     simp only [Act.put, sbA, szA, ssA]
     refine ⟨fun w_ o_ S_ => ?_, fun v26 => ?_⟩
     ·obtain rfl : v18 = .bool false := hsR S_ 18 rfl
      obtain rfl : v25 = .bool true := hsR S_ 25 rfl
      clear S_ o_
      go_wp2_with fail
      exact kso rfl rfl rfl
     simp only [Act.put, sbA, szA, ssA]
     refine ⟨fun w_ o_ S_ => ?_, fun v27 => ?_⟩
     ·obtain rfl : v26 = .bool true := hsR S_ 26 rfl
      clear S_ o_
      go_wp2_with fail
      exact kso rfl rfl rfl
     simp only [Act.put, sbA, szA, ssA]
     refine ⟨fun w_ o_ S_ => ?_, fun v28 => ?_⟩
     ·obtain rfl : v27 = .bool true := hsR S_ 27 rfl
      clear S_ o_
      go_wp2_with fail
      exact kso rfl rfl rfl
     simp only [Act.put, sbA, szA, ssA]
     refine ⟨fun w_ o_ S_ => ?_, fun v29 => ?_⟩
     ·obtain rfl : v27 = .bool true := hsR S_ 27 rfl
      clear S_ o_
      go_wp2_with fail
      exact kso rfl rfl rfl
     simp only [Act.put, sbA, szA, ssA]
     refine ⟨fun w_ o_ S_ => ?_, fun v30 => ?_⟩
     ·obtain rfl : v27 = .bool true := hsR S_ 27 rfl
      clear S_ o_
      go_wp2_with fail
      exact kso rfl rfl rfl
     simp only [Act.put, sbA, szA, ssA]
     refine ⟨fun w_ o_ S_ => ?_, fun v31 => ?_⟩
     ·obtain rfl : v27 = .bool true := hsR S_ 27 rfl
      clear S_ o_
      go_wp2_with fail
      exact kso rfl rfl rfl
     simp only [Act.put, sbA, szA, ssA]
     refine ⟨fun w_ o_ S_ => ?_, fun v32 => ?_⟩
     ·obtain rfl : v27 = .bool true := hsR S_ 27 rfl
      obtain rfl : v31 = undef := hsR S_ 31 rfl
      clear S_ o_
      go_wp2_with fail
      exact kso rfl rfl rfl
     simp only [Act.put, sbA, szA, ssA]
     clear H
     intro w4 HOX H hfin
     obtain rfl : v9 = .func (.func 38) #[] #[] := hfin 9 (by decide)
     obtain rfl : v10 = .bool false := hfin 10 (by decide)
     obtain rfl : v11 = .bool false := hfin 11 (by decide)
     obtain rfl : v12 = .pointer (some ⟨g1, 2, none⟩) := hfin 12 (by decide)
     obtain rfl : v13 = .agg (s.own.1.map V8).toArray := hfin 13 (by decide)
     obtain rfl : v14 = .pointer (some ⟨g1, 8, none⟩) := hfin 14 (by decide)
     obtain rfl : v15 = .agg (s.peer.1.map V8).toArray := hfin 15 (by decide)
     obtain rfl : v16 = .bool false := hfin 16 (by decide)
     obtain rfl : v17 = .bool false := hfin 17 (by decide)
     obtain rfl : v18 = .bool false := hfin 18 (by decide)
     obtain rfl : v19 = .pointer (some ⟨g1, 130, none⟩) := hfin 19 (by decide)
     obtain rfl : v20 = .int .i64 s.inst := hfin 20 (by decide)
     obtain rfl : v21 = .pointer (some ⟨g1, 1, none⟩) := hfin 21 (by decide)
     obtain rfl : v22 = .int .u8 s.stage := hfin 22 (by decide)
     obtain rfl : v23 = .bool (s.stage == 4) := hfin 23 (by decide)
     obtain rfl : v24 = .int .i64 (oneI (s.stage == 4)) := hfin 24 (by decide)
     obtain rfl : v25 = .bool true := hfin 25 (by decide)
     obtain rfl : v26 = .bool true := hfin 26 (by decide)
     obtain rfl : v27 = .bool true := hfin 27 (by decide)
     obtain rfl : v28 = undef := hfin 28 (by decide)
     obtain rfl : v29 = undef := hfin 29 (by decide)
     obtain rfl : v30 = undef := hfin 30 (by decide)
     obtain rfl : v31 = undef := hfin 31 (by decide)
     obtain rfl : v32 = .bool true := hfin 32 (by decide)
     clear hfin
     simp only [List.drop_succ_cons, List.drop_zero]
     simp only [applyS] at H
     have HXN := kp (HOX.out.ext (Ext.refl wi) (fun g hg => by cases hg))
     go_wp2_with fail
     exact CutP.of rfl (by kernel_rfl) ⟨H, by show Value.bool _ = Value.bool _; simp [bad1, HVF.out, HX1.out, HX2.out]⟩
  ·by_cases r2 : s.role = 2
   ·have HVF := kp (show validF s = validSupF s by simp [validF, r2])
    rw [roleFn_2 r2]
    clear r1 r2
    cases hx1 : (decide (s.own = s.peer)) with
    | true =>
     have HX1 := kp hx1
     clear hx1
     refine region_free H (tabS [(9, fun vQ _ => vQ = .func (.func 39) #[] #[]), (10, fun vQ _ => vQ = .bool false), (11, fun vQ _ => vQ = .bool false), (12, fun vQ _ => vQ = .pointer (some ⟨g1, 2, none⟩)), (13, fun vQ _ => vQ = .agg (s.own.1.map V8).toArray), (14, fun vQ _ => vQ = .pointer (some ⟨g1, 8, none⟩)), (15, fun vQ _ => vQ = .agg (s.peer.1.map V8).toArray), (16, fun vQ _ => vQ = .bool true), (17, fun vQ _ => vQ = .bool true), (18, fun vQ _ => vQ = .bool true), (19, fun vQ _ => vQ = undef), (20, fun vQ _ => vQ = undef), (21, fun vQ _ => vQ = undef), (22, fun vQ _ => vQ = undef), (23, fun vQ _ => vQ = undef), (24, fun vQ _ => vQ = undef), (25, fun vQ _ => vQ = undef), (26, fun vQ _ => vQ = .bool true), (27, fun vQ _ => vQ = .bool true), (28, fun vQ _ => vQ = undef), (29, fun vQ _ => vQ = undef), (30, fun vQ _ => vQ = undef), (31, fun vQ _ => vQ = undef), (32, fun vQ _ => vQ = .bool true)]) [] (tabS_out _ _ (by simp only [List.forall_mem_cons]; exact ⟨mono_eqO _ _, mono_eqO _ _, mono_eqO _ _, mono_eqO _ _, mono_eqO _ _, mono_eqO _ _, mono_eqO _ _, mono_eqO _ _, mono_eqO _ _, mono_eqO _ _, mono_eqO _ _, mono_eqO _ _, mono_eqO _ _, mono_eqO _ _, mono_eqO _ _, mono_eqO _ _, mono_eqO _ _, mono_eqO _ _, mono_eqO _ _, mono_eqO _ _, mono_eqO _ _, mono_eqO _ _, mono_eqO _ _, mono_eqO _ _, by simp⟩)) 24 (by kernel_rfl) (by kernel_rfl) (by kernel_rfl) (by kernel_rfl) [] [] rfl rfl (by decide) (by decide) (by decide) trivial ?_
     simp only [List.take_succ_cons, List.take_zero]
     refine ⟨fun w_ o_ S_ => ?_, fun v9 => ?_⟩
     ·clear S_
      clear o_
      go_wp2_with fail
      exact kso rfl rfl rfl
     simp only [Act.put, sbA, szA, ssA]
     refine ⟨fun w_ o_ S_ => ?_, fun v10 => ?_⟩
     ·obtain rfl : v9 = .func (.func 39) #[] #[] := hsR S_ 9 rfl
      clear S_
      have H := kp (H.out.keep [0] (St := []) trivial o_ (by decide) (by kernel_rfl))
      have HOX := kp o_
      clear o_
      refine wpList_bin (by kernel_rfl) .eql 94 94 _ _ rfl (.func (.func 39) #[] #[]) .nilFunc (.bool false) rfl rfl (by kernel_rfl) (by kernel_rfl) ?_
      go_wp2_with fail
      exact kso rfl rfl rfl
     simp only [Act.put, sbA, szA, ssA]
     refine ⟨fun w_ o_ S_ => ?_, fun v11 => ?_⟩
     ·obtain rfl : v10 = .bool false := hsR S_ 10 rfl
      clear S_ o_
      go_wp2_with fail
      exact kso rfl rfl rfl
     simp only [Act.put, sbA, szA, ssA]
     refine ⟨fun w_ o_ S_ => ?_, fun v12 => ?_⟩
     ·obtain rfl : v11 = .bool false := hsR S_ 11 rfl
      clear S_ o_
      go_wp2_with fail
      exact kso rfl rfl rfl
     simp only [Act.put, sbA, szA, ssA]
     refine ⟨fun w_ o_ S_ => ?_, fun v13 => ?_⟩
     ·obtain rfl : v11 = .bool false := hsR S_ 11 rfl
      obtain rfl : v12 = .pointer (some ⟨g1, 2, none⟩) := hsR S_ 12 rfl
      clear S_
      have H := kp (H.out.keep [0] (St := []) trivial o_ (by decide) (by kernel_rfl))
      have HOX := kp o_
      clear o_
      go_wp2_with ((with_reducible refine isLd 23 ?_); (refine L_fv H rfl 23 _ rfl 0 rfl _ rfl _ rfl rfl Try.underlying23 rfl (by kernel_rfl) ?_); simp only [Act.put, sbA, szA, ssA])
      exact kso rfl rfl rfl
     simp only [Act.put, sbA, szA, ssA]
     refine ⟨fun w_ o_ S_ => ?_, fun v14 => ?_⟩
     ·obtain rfl : v11 = .bool false := hsR S_ 11 rfl
      clear S_ o_
      go_wp2_with fail
      exact kso rfl rfl rfl
     simp only [Act.put, sbA, szA, ssA]
     refine ⟨fun w_ o_ S_ => ?_, fun v15 => ?_⟩
     ·obtain rfl : v11 = .bool false := hsR S_ 11 rfl
      obtain rfl : v14 = .pointer (some ⟨g1, 8, none⟩) := hsR S_ 14 rfl
      clear S_
      have H := kp (H.out.keep [0] (St := []) trivial o_ (by decide) (by kernel_rfl))
      have HOX := kp o_
      clear o_
      go_wp2_with ((with_reducible refine isLd 23 ?_); (refine L_fv H rfl 23 _ rfl 0 rfl _ rfl _ rfl rfl Try.underlying23 rfl (by kernel_rfl) ?_); simp only [Act.put, sbA, szA, ssA])
      exact kso rfl rfl rfl
     simp only [Act.put, sbA, szA, ssA]
     refine ⟨fun w_ o_ S_ => ?_, fun v16 => ?_⟩
     ·obtain rfl : v11 = .bool false := hsR S_ 11 rfl
      obtain rfl : v13 = .agg (s.own.1.map V8).toArray := hsR S_ 13 rfl
      obtain rfl : v15 = .agg (s.peer.1.map V8).toArray := hsR S_ 15 rfl
      clear S_
      have H := kp (H.out.keep [0] (St := []) trivial o_ (by decide) (by kernel_rfl))
      have HOX := kp o_
      clear o_
      go_wp2_with ((with_reducible show wpList _ _ _ (Oper.mk _ (Op.binOp _ 23 _ _ _) _ _ _ _ :: _) _ _); (refine wpList_eq2 rfl 23 _ _ _ rfl _ _ _ rfl rfl Try.eqGuardType23 (eqV_in _ Try.underlying23 _ _ 9998) ?_); simp only [Act.put, sbA, szA, ssA])
      exact ⟨rfl, _, rfl, fun d hd => by cases hd; exact (congrArg Value.bool HX1.out), Ext.refl _⟩
     simp only [Act.put, sbA, szA, ssA]
     refine ⟨fun w_ o_ S_ => ?_, fun v17 => ?_⟩
     ·obtain rfl : v11 = .bool false := hsR S_ 11 rfl
      obtain rfl : v16 = .bool true := hsR S_ 16 rfl
      clear S_ o_
      go_wp2_with fail
      exact kso rfl rfl rfl
     simp only [Act.put, sbA, szA, ssA]
     refine ⟨fun w_ o_ S_ => ?_, fun v18 => ?_⟩
     ·obtain rfl : v17 = .bool true := hsR S_ 17 rfl
      clear S_ o_
      go_wp2_with fail
      exact kso rfl rfl rfl
     simp only [Act.put, sbA, szA, ssA]
     refine ⟨fun w_ o_ S_ => ?_, fun v19 => ?_⟩
     ·obtain rfl : v18 = .bool true := hsR S_ 18 rfl
      clear S_ o_
      go_wp2_with fail
      exact kso rfl rfl rfl
     simp only [Act.put, sbA, szA, ssA]
     refine ⟨fun w_ o_ S_ => ?_, fun v20 => ?_⟩
     ·obtain rfl : v18 = .bool true := hsR S_ 18 rfl
      clear S_ o_
      go_wp2_with fail
      exact kso rfl rfl rfl
     simp only [Act.put, sbA, szA, ssA]
     refine ⟨fun w_ o_ S_ => ?_, fun v21 => ?_⟩
     ·obtain rfl : v18 = .bool true := hsR S_ 18 rfl
      clear S_ o_
      go_wp2_with fail
      exact kso rfl rfl rfl
     simp only [Act.put, sbA, szA, ssA]
     refine ⟨fun w_ o_ S_ => ?_, fun v22 => ?_⟩
     ·obtain rfl : v18 = .bool true := hsR S_ 18 rfl
      clear S_ o_
      go_wp2_with fail
      exact kso rfl rfl rfl
     simp only [Act.put, sbA, szA, ssA]
     refine ⟨fun w_ o_ S_ => ?_, fun v23 => ?_⟩
     ·obtain rfl : v18 = .bool true := hsR S_ 18 rfl
      clear S_ o_
      go_wp2_with fail
      exact kso rfl rfl rfl
     simp only [Act.put, sbA, szA, ssA]
     refine ⟨fun w_ o_ S_ => ?_, fun v24 => ?_⟩
     ·obtain rfl : v18 = .bool true := hsR S_ 18 rfl
      clear S_ o_
      go_wp2_with fail
      exact kso rfl rfl rfl
     simp only [Act.put, sbA, szA, ssA]
     refine ⟨fun w_ o_ S_ => ?_, fun v25 => ?_⟩
     ·obtain rfl : v18 = .bool true := hsR S_ 18 rfl
      clear S_ o_
      go_wp2_with fail
      exact kso rfl rfl rfl
     simp only [Act.put, sbA, szA, ssA]
     refine ⟨fun w_ o_ S_ => ?_, fun v26 => ?_⟩
     ·obtain rfl : v18 = .bool true := hsR S_ 18 rfl
      obtain rfl : v25 = undef := hsR S_ 25 rfl
      clear S_ o_
      go_wp2_with fail
      exact kso rfl rfl rfl
     simp only [Act.put, sbA, szA, ssA]
     refine ⟨fun w_ o_ S_ => ?_, fun v27 => ?_⟩
     ·obtain rfl : v26 = .bool true := hsR S_ 26 rfl
      clear S_ o_
      go_wp2_with fail
      exact kso rfl rfl rfl
     simp only [Act.put, sbA, szA, ssA]
     refine ⟨fun w_ o_ S_ => ?_, fun v28 => ?_⟩
     ·obtain rfl : v27 = .bool true := hsR S_ 27 rfl
      clear S_ o_
      go_wp2_with fail
      exact kso rfl rfl rfl
     simp only [Act.put, sbA, szA, ssA]
     refine ⟨fun w_ o_ S_ => ?_, fun v29 => ?_⟩
     ·obtain rfl : v27 = .bool true := hsR S_ 27 rfl
      clear S_ o_
      go_wp2_with fail
      exact kso rfl rfl rfl
     simp only [Act.put, sbA, szA, ssA]
     refine ⟨fun w_ o_ S_ => ?_, fun v30 => ?_⟩
     ·obtain rfl : v27 = .bool true := hsR S_ 27 rfl
      clear S_ o_
      go_wp2_with fail
      exact kso rfl rfl rfl
     simp only [Act.put, sbA, szA, ssA]
     refine ⟨fun w_ o_ S_ => ?_, fun v31 => ?_⟩
     ·obtain rfl : v27 = .bool true := hsR S_ 27 rfl
      clear S_ o_
      go_wp2_with fail
      exact kso rfl rfl rfl
     simp only [Act.put, sbA, szA, ssA]
     refine ⟨fun w_ o_ S_ => ?_, fun v32 => ?_⟩
     ·obtain rfl : v27 = .bool true := hsR S_ 27 rfl
      obtain rfl : v31 = undef := hsR S_ 31 rfl
      clear S_ o_
      go_wp2_with fail
      exact kso rfl rfl rfl
     simp only [Act.put, sbA, szA, ssA]
     clear H
     intro w4 HOX H hfin
     obtain rfl : v9 = .func (.func 39) #[] #[] := hfin 9 (by decide)
     obtain rfl : v10 = .bool false := hfin 10 (by decide)
     obtain rfl : v11 = .bool false := hfin 11 (by decide)
     obtain rfl : v12 = .pointer (some ⟨g1, 2, none⟩) := hfin 12 (by decide)
     obtain rfl : v13 = .agg (s.own.1.map V8).toArray := hfin 13 (by decide)
     obtain rfl : v14 = .pointer (some ⟨g1, 8, none⟩) := hfin 14 (by decide)
     obtain rfl : v15 = .agg (s.peer.1.map V8).toArray := hfin 15 (by decide)
     obtain rfl : v16 = .bool true := hfin 16 (by decide)
     obtain rfl : v17 = .bool true := hfin 17 (by decide)
     obtain rfl : v18 = .bool true := hfin 18 (by decide)
     obtain rfl : v19 = undef := hfin 19 (by decide)
     obtain rfl : v20 = undef := hfin 20 (by decide)
     obtain rfl : v21 = undef := hfin 21 (by decide)
     obtain rfl : v22 = undef := hfin 22 (by decide)
     obtain rfl : v23 = undef := hfin 23 (by decide)
     obtain rfl : v24 = undef := hfin 24 (by decide)
     obtain rfl : v25 = undef := hfin 25 (by decide)
     obtain rfl : v26 = .bool true := hfin 26 (by decide)
     obtain rfl : v27 = .bool true := hfin 27 (by decide)
     obtain rfl : v28 = undef := hfin 28 (by decide)
     obtain rfl : v29 = undef := hfin 29 (by decide)
     obtain rfl : v30 = undef := hfin 30 (by decide)
     obtain rfl : v31 = undef := hfin 31 (by decide)
     obtain rfl : v32 = .bool true := hfin 32 (by decide)
     clear hfin
     simp only [List.drop_succ_cons, List.drop_zero]
     simp only [applyS] at H
     have HXN := kp (HOX.out.ext (Ext.refl wi) (fun g hg => by cases hg))
     go_wp2_with fail
     exact CutP.of rfl (by kernel_rfl) ⟨H, by show Value.bool _ = Value.bool _; simp [bad1, HVF.out, HX1.out]⟩
    | false =>
     have HX1 := kp hx1
     clear hx1
     cases hx2 : (s.inst == (oneI (s.stage == 4))) with
     | true =>
      have HX2 := kp hx2
      clear hx2
      refine region_free H (tabS [(9, fun vQ _ => vQ = .func (.func 39) #[] #[]), (10, fun vQ _ => vQ = .bool false), (11, fun vQ _ => vQ = .bool false), (12, fun vQ _ => vQ = .pointer (some ⟨g1, 2, none⟩)), (13, fun vQ _ => vQ = .agg (s.own.1.map V8).toArray), (14, fun vQ _ => vQ = .pointer (some ⟨g1, 8, none⟩)), (15, fun vQ _ => vQ = .agg (s.peer.1.map V8).toArray), (16, fun vQ _ => vQ = .bool false), (17, fun vQ _ => vQ = .bool false), (18, fun vQ _ => vQ = .bool false), (19, fun vQ _ => vQ = .pointer (some ⟨g1, 130, none⟩)), (20, fun vQ _ => vQ = .int .i64 s.inst), (21, fun vQ _ => vQ = .pointer (some ⟨g1, 1, none⟩)), (22, fun vQ _ => vQ = .int .u8 s.stage), (23, fun vQ _ => vQ = .bool (s.stage == 4)), (24, fun vQ _ => vQ = .int .i64 (oneI (s.stage == 4))), (25, fun vQ _ => vQ = .bool false), (26, fun vQ _ => vQ = .bool false), (27, fun vQ _ => vQ = .bool false), (28, fun vQ _ => vQ = .func (.func 39) #[] #[]), (29, fun vQ _ => vQ = .agg (cat (partsF s)).toArray), (30, fun vQ _ => vQ = .bool (validSupF s)), (31, fun vQ _ => vQ = .bool (!validSupF s)), (32, fun vQ _ => vQ = .bool (!validSupF s))]) [] (tabS_out _ _ (by simp only [List.forall_mem_cons]; exact ⟨mono_eqO _ _, mono_eqO _ _, mono_eqO _ _, mono_eqO _ _, mono_eqO _ _, mono_eqO _ _, mono_eqO _ _, mono_eqO _ _, mono_eqO _ _, mono_eqO _ _, mono_eqO _ _, mono_eqO _ _, mono_eqO _ _, mono_eqO _ _, mono_eqO _ _, mono_eqO _ _, mono_eqO _ _, mono_eqO _ _, mono_eqO _ _, mono_eqO _ _, mono_eqO _ _, mono_eqO _ _, mono_eqO _ _, mono_eqO _ _, by simp⟩)) 24 (by kernel_rfl) (by kernel_rfl) (by kernel_rfl) (by kernel_rfl) [] [] rfl rfl (by decide) (by decide) (by decide) trivial ?_
      simp only [List.take_succ_cons, List.take_zero]
      refine ⟨fun w_ o_ S_ => ?_, fun v9 => ?_⟩
      ·clear S_
       clear o_
       go_wp2_with fail
       exact kso rfl rfl rfl
      simp only [Act.put, sbA, szA, ssA]
      refine ⟨fun w_ o_ S_ => ?_, fun v10 => ?_⟩
      ·obtain rfl : v9 = .func (.func 39) #[] #[] := hsR S_ 9 rfl
       clear S_
       have H := kp (H.out.keep [0] (St := []) trivial o_ (by decide) (by kernel_rfl))
       have HOX := kp o_
       clear o_
       refine wpList_bin (by kernel_rfl) .eql 94 94 _ _ rfl (.func (.func 39) #[] #[]) .nilFunc (.bool false) rfl rfl (by kernel_rfl) (by kernel_rfl) ?_
       go_wp2_with fail
       exact kso rfl rfl rfl
      simp only [Act.put, sbA, szA, ssA]
      refine ⟨fun w_ o_ S_ => ?_, fun v11 => ?_⟩
      ·obtain rfl : v10 = .bool false := hsR S_ 10 rfl
       clear S_ o_
       go_wp2_with fail
       exact kso rfl rfl rfl
      simp only [Act.put, sbA, szA, ssA]
      refine ⟨fun w_ o_ S_ => ?_, fun v12 => ?_⟩
      ·obtain rfl : v11 = .bool false := hsR S_ 11 rfl
       clear S_ o_
       go_wp2_with fail
       exact kso rfl rfl rfl
      simp only [Act.put, sbA, szA, ssA]
      refine ⟨fun w_ o_ S_ => ?_, fun v13 => ?_⟩
      ·obtain rfl : v11 = .bool false := hsR S_ 11 rfl
       obtain rfl : v12 = .pointer (some ⟨g1, 2, none⟩) := hsR S_ 12 rfl
       clear S_
       have H := kp (H.out.keep [0] (St := []) trivial o_ (by decide) (by kernel_rfl))
       have HOX := kp o_
       clear o_
       go_wp2_with ((with_reducible refine isLd 23 ?_); (refine L_fv H rfl 23 _ rfl 0 rfl _ rfl _ rfl rfl Try.underlying23 rfl (by kernel_rfl) ?_); simp only [Act.put, sbA, szA, ssA])
       exact kso rfl rfl rfl
      simp only [Act.put, sbA, szA, ssA]
      refine ⟨fun w_ o_ S_ => ?_, fun v14 => ?_⟩
      ·obtain rfl : v11 = .bool false := hsR S_ 11 rfl
       clear S_ o_
       go_wp2_with fail
       exact kso rfl rfl rfl
      simp only [Act.put, sbA, szA, ssA]
      refine ⟨fun w_ o_ S_ => ?_, fun v15 => ?_⟩
      ·obtain rfl : v11 = .bool false := hsR S_ 11 rfl
       obtain rfl : v14 = .pointer (some ⟨g1, 8, none⟩) := hsR S_ 14 rfl
       clear S_
       have H := kp (H.out.keep [0] (St := []) trivial o_ (by decide) (by kernel_rfl))
       have HOX := kp o_
       clear o_
       go_wp2_with ((with_reducible refine isLd 23 ?_); (refine L_fv H rfl 23 _ rfl 0 rfl _ rfl _ rfl rfl Try.underlying23 rfl (by kernel_rfl) ?_); simp only [Act.put, sbA, szA, ssA])
       exact kso rfl rfl rfl
      simp only [Act.put, sbA, szA, ssA]
      refine ⟨fun w_ o_ S_ => ?_, fun v16 => ?_⟩
      ·obtain rfl : v11 = .bool false := hsR S_ 11 rfl
       obtain rfl : v13 = .agg (s.own.1.map V8).toArray := hsR S_ 13 rfl
       obtain rfl : v15 = .agg (s.peer.1.map V8).toArray := hsR S_ 15 rfl
       clear S_
       have H := kp (H.out.keep [0] (St := []) trivial o_ (by decide) (by kernel_rfl))
       have HOX := kp o_
       clear o_
       go_wp2_with ((with_reducible show wpList _ _ _ (Oper.mk _ (Op.binOp _ 23 _ _ _) _ _ _ _ :: _) _ _); (refine wpList_eq2 rfl 23 _ _ _ rfl _ _ _ rfl rfl Try.eqGuardType23 (eqV_in _ Try.underlying23 _ _ 9998) ?_); simp only [Act.put, sbA, szA, ssA])
       exact ⟨rfl, _, rfl, fun d hd => by cases hd; exact (congrArg Value.bool HX1.out), Ext.refl _⟩
      simp only [Act.put, sbA, szA, ssA]
      refine ⟨fun w_ o_ S_ => ?_, fun v17 => ?_⟩
      ·obtain rfl : v11 = .bool false := hsR S_ 11 rfl
       obtain rfl : v16 = .bool false := hsR S_ 16 rfl
       clear S_ o_
       go_wp2_with fail
       exact kso rfl rfl rfl
      simp only [Act.put, sbA, szA, ssA]
      refine ⟨fun w_ o_ S_ => ?_, fun v18 => ?_⟩
      ·obtain rfl : v17 = .bool false := hsR S_ 17 rfl
       clear S_ o_
       go_wp2_with fail
       exact kso rfl rfl rfl
      simp only [Act.put, sbA, szA, ssA]
      refine ⟨fun w_ o_ S_ => ?_, fun v19 => ?_⟩
      ·obtain rfl : v18 = .bool false := hsR S_ 18 rfl
       clear S_ o_
       go_wp2_with fail
       exact kso rfl rfl rfl
      simp only [Act.put, sbA, szA, ssA]
      refine ⟨fun w_ o_ S_ => ?_, fun v20 => ?_⟩
      ·obtain rfl : v18 = .bool false := hsR S_ 18 rfl
       obtain rfl : v19 = .pointer (some ⟨g1, 130, none⟩) := hsR S_ 19 rfl
       clear S_
       have H := kp (H.out.keep [0] (St := []) trivial o_ (by decide) (by kernel_rfl))
       have HOX := kp o_
       clear o_
       go_wp2_with ((with_reducible refine isLd 3 ?_); (refine L_f1 H rfl 3 _ rfl 0 rfl _ rfl _ rfl _ rfl Try.underlying3 rfl ?_); simp only [Act.put, sbA, szA, ssA])
       exact kso rfl rfl rfl
      simp only [Act.put, sbA, szA, ssA]
      refine ⟨fun w_ o_ S_ => ?_, fun v21 => ?_⟩
      ·obtain rfl : v18 = .bool false := hsR S_ 18 rfl
       clear S_ o_
       go_wp2_with fail
       exact kso rfl rfl rfl
      simp only [Act.put, sbA, szA, ssA]
      refine ⟨fun w_ o_ S_ => ?_, fun v22 => ?_⟩
      ·obtain rfl : v18 = .bool false := hsR S_ 18 rfl
       obtain rfl : v21 = .pointer (some ⟨g1, 1, none⟩) := hsR S_ 21 rfl
       clear S_
       have H := kp (H.out.keep [0] (St := []) trivial o_ (by decide) (by kernel_rfl))
       have HOX := kp o_
       clear o_
       go_wp2_with ((with_reducible refine isLd 5 ?_); (refine L_f1 H rfl 5 _ rfl 0 rfl _ rfl _ rfl _ rfl Try.underlying5 rfl ?_); simp only [Act.put, sbA, szA, ssA])
       exact kso rfl rfl rfl
      simp only [Act.put, sbA, szA, ssA]
      refine ⟨fun w_ o_ S_ => ?_, fun v23 => ?_⟩
      ·obtain rfl : v18 = .bool false := hsR S_ 18 rfl
       obtain rfl : v22 = .int .u8 s.stage := hsR S_ 22 rfl
       clear S_
       have H := kp (H.out.keep [0] (St := []) trivial o_ (by decide) (by kernel_rfl))
       have HOX := kp o_
       clear o_
       go_wp2_with fail
       exact kso rfl rfl rfl
      simp only [Act.put, sbA, szA, ssA]
      refine ⟨fun w_ o_ S_ => ?_, fun v24 => ?_⟩
      ·obtain rfl : v18 = .bool false := hsR S_ 18 rfl
       obtain rfl : v23 = .bool (s.stage == 4) := hsR S_ 23 rfl
       clear S_
       have H := kp (H.out.keep [0] (St := []) trivial o_ (by decide) (by kernel_rfl))
       have HOX := kp o_
       clear o_
       go_wp2_with fail
       refine (HON.out _ _).mono ?_
       rintro e w2 ⟨rfl, rfl⟩
       go_wp2_with fail
       exact kso rfl rfl rfl
      simp only [Act.put, sbA, szA, ssA]
      refine ⟨fun w_ o_ S_ => ?_, fun v25 => ?_⟩
      ·obtain rfl : v18 = .bool false := hsR S_ 18 rfl
       obtain rfl : v20 = .int .i64 s.inst := hsR S_ 20 rfl
       obtain rfl : v24 = .int .i64 (oneI (s.stage == 4)) := hsR S_ 24 rfl
       clear S_
       have H := kp (H.out.keep [0] (St := []) trivial o_ (by decide) (by kernel_rfl))
       have HOX := kp o_
       clear o_
       go_wp2_with fail
       exact ⟨rfl, _, rfl, fun d hd => by cases hd; exact (congrArg Value.bool (congrArg not HX2.out)), Ext.refl _⟩
      simp only [Act.put, sbA, szA, ssA]
      refine ⟨fun w_ o_ S_ => ?_, fun v26 => ?_⟩
      ·obtain rfl : v18 = .bool false := hsR S_ 18 rfl
       obtain rfl : v25 = .bool false := hsR S_ 25 rfl
       clear S_ o_
       go_wp2_with fail
       exact kso rfl rfl rfl
      simp only [Act.put, sbA, szA, ssA]
      refine ⟨fun w_ o_ S_ => ?_, fun v27 => ?_⟩
      ·obtain rfl : v26 = .bool false := hsR S_ 26 rfl
       clear S_ o_
       go_wp2_with fail
       exact kso rfl rfl rfl
      simp only [Act.put, sbA, szA, ssA]
      refine ⟨fun w_ o_ S_ => ?_, fun v28 => ?_⟩
      ·obtain rfl : v27 = .bool false := hsR S_ 27 rfl
       clear S_ o_
       go_wp2_with fail
       exact kso rfl rfl rfl
      simp only [Act.put, sbA, szA, ssA]
      refine ⟨fun w_ o_ S_ => ?_, fun v29 => ?_⟩
      ·obtain rfl : v27 = .bool false := hsR S_ 27 rfl
       clear S_
       have H := kp (H.out.keep [0] (St := []) trivial o_ (by decide) (by kernel_rfl))
       have HOX := kp o_
       clear o_
       go_wp2_with ((with_reducible refine isLd 32 ?_); (refine L_fa H rfl 32 _ rfl 0 rfl rfl Try.underlying32 rfl (by kernel_rfl) ?_); simp only [Act.put, sbA, szA, ssA])
       exact kso rfl rfl rfl
      simp only [Act.put, sbA, szA, ssA]
      refine ⟨fun w_ o_ S_ => ?_, fun v30 => ?_⟩
      ·obtain rfl : v27 = .bool false := hsR S_ 27 rfl
       obtain rfl : v28 = .func (.func 39) #[] #[] := hsR S_ 28 rfl
       obtain rfl : v29 = .agg (cat (partsF s)).toArray := hsR S_ 29 rfl
       clear S_
       have H := kp (H.out.keep [0] (St := []) trivial o_ (by decide) (by kernel_rfl))
       have HOX := kp o_
       clear o_
       go_wp2_with fail
       refine (HVS.out _ _).mono ?_
       rintro e w2 ⟨rfl, hx⟩
       have HXC := kp hx
       clear hx
       go_wp2_with fail
       exact ⟨rfl, _, rfl, fun d hd => by cases hd; exact rfl, HXC.out⟩
      simp only [Act.put, sbA, szA, ssA]
      refine ⟨fun w_ o_ S_ => ?_, fun v31 => ?_⟩
      ·obtain rfl : v27 = .bool false := hsR S_ 27 rfl
       obtain rfl : v30 = .bool (validSupF s) := hsR S_ 30 rfl
       clear S_ o_
       go_wp2_with fail
       exact kso rfl rfl rfl
      simp only [Act.put, sbA, szA, ssA]
      refine ⟨fun w_ o_ S_ => ?_, fun v32 => ?_⟩
      ·obtain rfl : v27 = .bool false := hsR S_ 27 rfl
       obtain rfl : v31 = .bool (!validSupF s) := hsR S_ 31 rfl
       clear S_ o_
       go_wp2_with fail
       exact kso rfl rfl rfl
      simp only [Act.put, sbA, szA, ssA]
      clear H
      intro w4 HOX H hfin
      obtain rfl : v9 = .func (.func 39) #[] #[] := hfin 9 (by decide)
      obtain rfl : v10 = .bool false := hfin 10 (by decide)
      obtain rfl : v11 = .bool false := hfin 11 (by decide)
      obtain rfl : v12 = .pointer (some ⟨g1, 2, none⟩) := hfin 12 (by decide)
      obtain rfl : v13 = .agg (s.own.1.map V8).toArray := hfin 13 (by decide)
      obtain rfl : v14 = .pointer (some ⟨g1, 8, none⟩) := hfin 14 (by decide)
      obtain rfl : v15 = .agg (s.peer.1.map V8).toArray := hfin 15 (by decide)
      obtain rfl : v16 = .bool false := hfin 16 (by decide)
      obtain rfl : v17 = .bool false := hfin 17 (by decide)
      obtain rfl : v18 = .bool false := hfin 18 (by decide)
      obtain rfl : v19 = .pointer (some ⟨g1, 130, none⟩) := hfin 19 (by decide)
      obtain rfl : v20 = .int .i64 s.inst := hfin 20 (by decide)
      obtain rfl : v21 = .pointer (some ⟨g1, 1, none⟩) := hfin 21 (by decide)
      obtain rfl : v22 = .int .u8 s.stage := hfin 22 (by decide)
      obtain rfl : v23 = .bool (s.stage == 4) := hfin 23 (by decide)
      obtain rfl : v24 = .int .i64 (oneI (s.stage == 4)) := hfin 24 (by decide)
      obtain rfl : v25 = .bool false := hfin 25 (by decide)
      obtain rfl : v26 = .bool false := hfin 26 (by decide)
      obtain rfl : v27 = .bool false := hfin 27 (by decide)
      obtain rfl : v28 = .func (.func 39) #[] #[] := hfin 28 (by decide)
      obtain rfl : v29 = .agg (cat (partsF s)).toArray := hfin 29 (by decide)
      obtain rfl : v30 = .bool (validSupF s) := hfin 30 (by decide)
      obtain rfl : v31 = .bool (!validSupF s) := hfin 31 (by decide)
      obtain rfl : v32 = .bool (!validSupF s) := hfin 32 (by decide)
      clear hfin
      simp only [List.drop_succ_cons, List.drop_zero]
      simp only [applyS] at H
      have HXN := kp (HOX.out.ext (Ext.refl wi) (fun g hg => by cases hg))
      go_wp2_with fail
      exact CutP.of rfl (by kernel_rfl) ⟨H, by show Value.bool _ = Value.bool _; simp [bad1, HVF.out, HX1.out, HX2.out]⟩
     | false =>
      have HX2 := kp hx2
      clear hx2
      refine region_free H (tabS [(9, fun vQ _ => vQ = .func (.func 39) #[] #[]), (10, fun vQ _ => vQ = .bool false), (11, fun vQ _ => vQ = .bool false), (12, fun vQ _ => vQ = .pointer (some ⟨g1, 2, none⟩)), (13, fun vQ _ => vQ = .agg (s.own.1.map V8).toArray), (14, fun vQ _ => vQ = .pointer (some ⟨g1, 8, none⟩)), (15, fun vQ _ => vQ = .agg (s.peer.1.map V8).toArray), (16, fun vQ _ => vQ = .bool false), (17, fun vQ _ => vQ = .bool false), (18, fun vQ _ => vQ = .bool false), (19, fun vQ _ => vQ = .pointer (some ⟨g1, 130, none⟩)), (20, fun vQ _ => vQ = .int .i64 s.inst), (21, fun vQ _ => vQ = .pointer (some ⟨g1, 1, none⟩)), (22, fun vQ _ => vQ = .int .u8 s.stage), (23, fun vQ _ => vQ = .bool (s.stage == 4)), (24, fun vQ _ => vQ = .int .i64 (oneI (s.stage == 4))), (25, fun vQ _ => vQ = .bool true), (26, fun vQ _ => vQ = .bool true), (27, fun vQ _ => vQ = .bool true), (28, fun vQ _ => vQ = undef), (29, fun vQ _ => vQ = undef), (30, fun vQ _ => vQ = undef), (31, fun vQ _ => vQ = undef), (32, fun vQ _ => vQ = .bool true)]) [] (tabS_out _ _ (by simp only [List.forall_mem_cons]; exact ⟨mono_eqO _ _, mono_eqO _ _, mono_eqO _ _, mono_eqO _ _, mono_eqO _ _, mono_eqO _ _, mono_eqO _ _, mono_eqO _ _, mono_eqO _ _, mono_eqO _ _, mono_eqO _ _, mono_eqO _ _, mono_eqO _ _, mono_eqO _ _, mono_eqO _ _, mono_eqO _ _, mono_eqO _ _, mono_eqO _ _, mono_eqO _ _, mono_eqO _ _, mono_eqO _ _, mono_eqO _ _, mono_eqO _ _, mono_eqO _ _, by simp⟩)) 24 (by kernel_rfl) (by kernel_rfl) (by kernel_rfl) (by kernel_rfl) [] [] rfl rfl (by decide) (by decide) (by decide) trivial ?_
      simp only [List.take_succ_cons, List.take_zero]
      refine ⟨fun w_ o_ S_ => ?_, fun v9 => ?_⟩
      ·clear S_
       clear o_
       go_wp2_with fail
       exact kso rfl rfl rfl
      simp only [Act.put, sbA, szA, ssA]
      refine ⟨fun w_ o_ S_ => ?_, fun v10 => ?_⟩
      ·obtain rfl : v9 = .func (.func 39) #[] #[] := hsR S_ 9 rfl
       clear S_
       have H := kp (H.out.keep [0] (St := []) trivial o_ (by decide) (by kernel_rfl))
       have HOX := kp o_
       clear o_
       refine wpList_bin (by kernel_rfl) .eql 94 94 _ _ rfl (.func (.func 39) #[] #[]) .nilFunc (.bool false) rfl rfl (by kernel_rfl) (by kernel_rfl) ?_
       go_wp2_with fail
       exact kso rfl rfl rfl
      simp only [Act.put, sbA, szA, ssA]
      refine ⟨fun w_ o_ S_ => ?_, fun v11 => ?_⟩
      ·obtain rfl : v10 = .bool false := hsR S_ 10 rfl
       clear S_ o_
       go_wp2_with fail
       exact kso rfl rfl rfl
      simp only [Act.put, sbA, szA, ssA]
      refine ⟨fun w_ o_ S_ => ?_, fun v12 => ?_⟩
      ·obtain rfl : v11 = .bool false := hsR S_ 11 rfl
       clear S_ o_
       go_wp2_with fail
       exact kso rfl rfl rfl
      simp only [Act.put, sbA, szA, ssA]
      refine ⟨fun w_ o_ S_ => ?_, fun v13 => ?_⟩
      ·obtain rfl : v11 = .bool false := hsR S_ 11 rfl
       obtain rfl : v12 = .pointer (some ⟨g1, 2, none⟩) := hsR S_ 12 rfl
       clear S_
       have H := kp (H.out.keep [0] (St := []) trivial o_ (by decide) (by kernel_rfl))
       have HOX := kp o_
       clear o_
       go_wp2_with ((with_reducible refine isLd 23 ?_); (refine L_fv H rfl 23 _ rfl 0 rfl _ rfl _ rfl rfl Try.underlying23 rfl (by kernel_rfl) ?_); simp only [Act.put, sbA, szA, ssA])
       exact kso rfl rfl rfl
      simp only [Act.put, sbA, szA, ssA]
      refine ⟨fun w_ o_ S_ => ?_, fun v14 => ?_⟩
      ·obtain rfl : v11 = .bool false := hsR S_ 11 rfl
       clear S_ o_
       go_wp2_with fail
       exact kso rfl rfl rfl
      simp only [Act.put, sbA, szA, ssA]
      refine ⟨fun w_ o_ S_ => ?_, fun v15 => ?_⟩
      ·obtain rfl : v11 = .bool false := hsR S_ 11 rfl
       obtain rfl : v14 = .pointer (some ⟨g1, 8, none⟩) := hsR S_ 14 rfl
       clear S_
       have H := kp (H.out.keep [0] (St := []) trivial o_ (by decide) (by kernel_rfl))
       have HOX := kp o_
       clear o_
       go_wp2_with ((with_reducible refine isLd 23 ?_); (refine L_fv H rfl 23 _ rfl 0 rfl _ rfl _ rfl rfl Try.underlying23 rfl (by kernel_rfl) ?_); simp only [Act.put, sbA, szA, ssA])
       exact kso rfl rfl rfl
      simp only [Act.put, sbA, szA, ssA]
      refine ⟨fun w_ o_ S_ => ?_, fun v16 => ?_⟩
      ·obtain rfl : v11 = .bool false := hsR S_ 11 rfl
       obtain rfl : v13 = .agg (s.own.1.map V8).toArray := hsR S_ 13 rfl
       obtain rfl : v15 = .agg (s.peer.1.map V8).toArray := hsR S_ 15 rfl
       clear S_
       have H := kp (H.out.keep [0] (St := []) trivial o_ (by decide) (by kernel_rfl))
       have HOX := kp o_
       clear o_
       go_wp2_with ((with_reducible show wpList _ _ _ (Oper.mk _ (Op.binOp _ 23 _ _ _) _ _ _ _ :: _) _ _); (refine wpList_eq2 rfl 23 _ _ _ rfl _ _ _ rfl rfl Try.eqGuardType23 (eqV_in _ Try.underlying23 _ _ 9998) ?_); simp only [Act.put, sbA, szA, ssA])
       exact ⟨rfl, _, rfl, fun d hd => by cases hd; exact (congrArg Value.bool HX1.out), Ext.refl _⟩
      simp only [Act.put, sbA, szA, ssA]
      refine ⟨fun w_ o_ S_ => ?_, fun v17 => ?_⟩
      ·obtain rfl : v11 = .bool false := hsR S_ 11 rfl
       obtain rfl : v16 = .bool false := hsR S_ 16 rfl
       clear S_ o_
       go_wp2_with fail
       exact kso rfl rfl rfl
      simp only [Act.put, sbA, szA, ssA]
      refine ⟨fun w_ o_ S_ => ?_, fun v18 => ?_⟩
      ·obtain rfl : v17 = .bool false := hsR S_ 17 rfl
       clear S_ o_
       go_wp2_with fail
       exact kso rfl rfl rfl
      simp only [Act.put, sbA, szA, ssA]
      refine ⟨fun w_ o_ S_ => ?_, fun v19 => ?_⟩
      ·obtain rfl : v18 = .bool false := hsR S_ 18 rfl
       clear S_ o_
       go_wp2_with fail
       exact kso rfl rfl rfl
      simp only [Act.put, sbA, szA, ssA]
      refine ⟨fun w_ o_ S_ => ?_, fun v20 => ?_⟩
      ·obtain rfl : v18 = .bool false := hsR S_ 18 rfl
       obtain rfl : v19 = .pointer (some ⟨g1, 130, none⟩) := hsR S_ 19 rfl
       clear S_
       have H := kp (H.out.keep [0] (St := []) trivial o_ (by decide) (by kernel_rfl))
       have HOX := kp o_
       clear o_
       go_wp2_with ((with_reducible refine isLd 3 ?_); (refine L_f1 H rfl 3 _ rfl 0 rfl _ rfl _ rfl _ rfl Try.underlying3 rfl ?_); simp only [Act.put, sbA, szA, ssA])
       exact kso rfl rfl rfl
      simp only [Act.put, sbA, szA, ssA]
      refine ⟨fun w_ o_ S_ => ?_, fun v21 => ?_⟩
      ·obtain rfl : v18 = .bool false := hsR S_ 18 rfl
       clear S_ o_
       go_wp2_with fail
       exact kso rfl rfl rfl
      simp only [Act.put, sbA, szA, ssA]
      refine ⟨fun w_ o_ S_ => ?_, fun v22 => ?_⟩
      ·obtain rfl : v18 = .bool false := hsR S_ 18 rfl
       obtain rfl : v21 = .pointer (some ⟨g1, 1, none⟩) := hsR S_ 21 rfl
       clear S_
       have H := kp (H.out.keep [0] (St := []) trivial o_ (by decide) (by kernel_rfl))
       have HOX := kp o_
       clear o_
       go_wp2_with ((with_reducible refine isLd 5 ?_); (refine L_f1 H rfl 5 _ rfl 0 rfl _ rfl _ rfl _ rfl Try.underlying5 rfl ?_); simp only [Act.put, sbA, szA, ssA])
       exact kso rfl rfl rfl
      simp only [Act.put, sbA, szA, ssA]
      refine ⟨fun w_ o_ S_ => ?_, fun v23 => ?_⟩
      ·obtain rfl : v18 = .bool false := hsR S_ 18 rfl
       obtain rfl : v22 = .int .u8 s.stage := hsR S_ 22 rfl
       clear S_
       have H := kp (H.out.keep [0] (St := []) trivial o_ (by decide) (by kernel_rfl))
       have HOX := kp o_
       clear o_
       go_wp2_with fail
       exact kso rfl rfl rfl
      simp only [Act.put, sbA, szA, ssA]
      refine ⟨fun w_ o_ S_ => ?_, fun v24 => ?_⟩
      ·obtain rfl : v18 = .bool false := hsR S_ 18 rfl
       obtain rfl : v23 = .bool (s.stage == 4) := hsR S_ 23 rfl
       clear S_
       have H := kp (H.out.keep [0] (St := []) trivial o_ (by decide) (by kernel_rfl))
       have HOX := kp o_
       clear o_
       go_wp2_with fail
       refine (HON.out _ _).mono ?_
       rintro e w2 ⟨rfl, rfl⟩
       go_wp2_with fail
       exact kso rfl rfl rfl
      simp only [Act.put, sbA, szA, ssA]
      refine ⟨fun w_ o_ S_ => ?_, fun v25 => ?_⟩
      ·obtain rfl : v18 = .bool false := hsR S_ 18 rfl
       obtain rfl : v20 = .int .i64 s.inst := hsR S_ 20 rfl
       obtain rfl : v24 = .int .i64 (oneI (s.stage == 4)) := hsR S_ 24 rfl
       clear S_
       have H := kp (H.out.keep [0] (St := []) trivial o_ (by decide) (by kernel_rfl))
       have HOX := kp o_
       clear o_
       go_wp2_with fail
       exact ⟨rfl, _, rfl, fun d hd => by cases hd; exact (congrArg Value.bool (congrArg not HX2.out)), Ext.refl _⟩
      simp only [Act.put, sbA, szA, ssA]
      refine ⟨fun w_ o_ S_ => ?_, fun v26 => ?_⟩
      ·obtain rfl : v18 = .bool false := hsR S_ 18 rfl
       obtain rfl : v25 = .bool true := hsR S_ 25 rfl
       clear S_ o_
       go_wp2_with fail
       exact kso rfl rfl rfl
      simp only [Act.put, sbA, szA, ssA]
      refine ⟨fun w_ o_ S_ => ?_, fun v27 => ?_⟩
      ·obtain rfl : v26 = .bool true := hsR S_ 26 rfl
       clear S_ o_
       go_wp2_with fail
       exact kso rfl rfl rfl
      simp only [Act.put, sbA, szA, ssA]
      refine ⟨fun w_ o_ S_ => ?_, fun v28 => ?_⟩
      ·obtain rfl : v27 = .bool true := hsR S_ 27 rfl
       clear S_ o_
       go_wp2_with fail
       exact kso rfl rfl rfl
      simp only [Act.put, sbA, szA, ssA]
      refine ⟨fun w_ o_ S_ => ?_, fun v29 => ?_⟩
      ·obtain rfl : v27 = .bool true := hsR S_ 27 rfl
       clear S_ o_
       go_wp2_with fail
       exact kso rfl rfl rfl
      simp only [Act.put, sbA, szA, ssA]
      refine ⟨fun w_ o_ S_ => ?_, fun v30 => ?_⟩
      ·obtain rfl : v27 = .bool true := hsR S_ 27 rfl
       clear S_ o_
       go_wp2_with fail
       exact kso rfl rfl rfl
      simp only [Act.put, sbA, szA, ssA]
      refine ⟨fun w_ o_ S_ => ?_, fun v31 => ?_⟩
      ·obtain rfl : v27 = .bool true := hsR S_ 27 rfl
       clear S_ o_
       go_wp2_with fail
       exact kso rfl rfl rfl
      simp only [Act.put, sbA, szA, ssA]
      refine ⟨fun w_ o_ S_ => ?_, fun v32 => ?_⟩
      ·obtain rfl : v27 = .bool true := hsR S_ 27 rfl
       obtain rfl : v31 = undef := hsR S_ 31 rfl
       clear S_ o_
       go_wp2_with fail
       exact kso rfl rfl rfl
      simp only [Act.put, sbA, szA, ssA]
      clear H
      intro w4 HOX H hfin
      obtain rfl : v9 = .func (.func 39) #[] #[] := hfin 9 (by decide)
      obtain rfl : v10 = .bool false := hfin 10 (by decide)
      obtain rfl : v11 = .bool false := hfin 11 (by decide)
      obtain rfl : v12 = .pointer (some ⟨g1, 2, none⟩) := hfin 12 (by decide)
      obtain rfl : v13 = .agg (s.own.1.map V8).toArray := hfin 13 (by decide)
      obtain rfl : v14 = .pointer (some ⟨g1, 8, none⟩) := hfin 14 (by decide)
      obtain rfl : v15 = .agg (s.peer.1.map V8).toArray := hfin 15 (by decide)
      obtain rfl : v16 = .bool false := hfin 16 (by decide)
      obtain rfl : v17 = .bool false := hfin 17 (by decide)
      obtain rfl : v18 = .bool false := hfin 18 (by decide)
      obtain rfl : v19 = .pointer (some ⟨g1, 130, none⟩) := hfin 19 (by decide)
      obtain rfl : v20 = .int .i64 s.inst := hfin 20 (by decide)
      obtain rfl : v21 = .pointer (some ⟨g1, 1, none⟩) := hfin 21 (by decide)
      obtain rfl : v22 = .int .u8 s.stage := hfin 22 (by decide)
      obtain rfl : v23 = .bool (s.stage == 4) := hfin 23 (by decide)
      obtain rfl : v24 = .int .i64 (oneI (s.stage == 4)) := hfin 24 (by decide)
      obtain rfl : v25 = .bool true := hfin 25 (by decide)
      obtain rfl : v26 = .bool true := hfin 26 (by decide)
      obtain rfl : v27 = .bool true := hfin 27 (by decide)
      obtain rfl : v28 = undef := hfin 28 (by decide)
      obtain rfl : v29 = undef := hfin 29 (by decide)
      obtain rfl : v30 = undef := hfin 30 (by decide)
      obtain rfl : v31 = undef := hfin 31 (by decide)
      obtain rfl : v32 = .bool true := hfin 32 (by decide)
      clear hfin
      simp only [List.drop_succ_cons, List.drop_zero]
      simp only [applyS] at H
      have HXN := kp (HOX.out.ext (Ext.refl wi) (fun g hg => by cases hg))
      go_wp2_with fail
      exact CutP.of rfl (by kernel_rfl) ⟨H, by show Value.bool _ = Value.bool _; simp [bad1, HVF.out, HX1.out, HX2.out]⟩
   ·have HVF := kp (show validF s = false by simp [validF, r1, r2])
    rw [roleFn_n r1 r2]
    clear r1 r2
    refine region_free H (tabS [(9, fun vQ _ => vQ = .nilFunc), (10, fun vQ _ => vQ = .bool true), (11, fun vQ _ => vQ = .bool true), (12, fun vQ _ => vQ = undef), (13, fun vQ _ => vQ = undef), (14, fun vQ _ => vQ = undef), (15, fun vQ _ => vQ = undef), (16, fun vQ _ => vQ = undef), (17, fun vQ _ => vQ = .bool true), (18, fun vQ _ => vQ = .bool true), (19, fun vQ _ => vQ = undef), (20, fun vQ _ => vQ = undef), (21, fun vQ _ => vQ = undef), (22, fun vQ _ => vQ = undef), (23, fun vQ _ => vQ = undef), (24, fun vQ _ => vQ = undef), (25, fun vQ _ => vQ = undef), (26, fun vQ _ => vQ = .bool true), (27, fun vQ _ => vQ = .bool true), (28, fun vQ _ => vQ = undef), (29, fun vQ _ => vQ = undef), (30, fun vQ _ => vQ = undef), (31, fun vQ _ => vQ = undef), (32, fun vQ _ => vQ = .bool true)]) [] (tabS_out _ _ (by simp only [List.forall_mem_cons]; exact ⟨mono_eqO _ _, mono_eqO _ _, mono_eqO _ _, mono_eqO _ _, mono_eqO _ _, mono_eqO _ _, mono_eqO _ _, mono_eqO _ _, mono_eqO _ _, mono_eqO _ _, mono_eqO _ _, mono_eqO _ _, mono_eqO _ _, mono_eqO _ _, mono_eqO _ _, mono_eqO _ _, mono_eqO _ _, mono_eqO _ _, mono_eqO _ _, mono_eqO _ _, mono_eqO _ _, mono_eqO _ _, mono_eqO _ _, mono_eqO _ _, by simp⟩)) 24 (by kernel_rfl) (by kernel_rfl) (by kernel_rfl) (by kernel_rfl) [] [] rfl rfl (by decide) (by decide) (by decide) trivial ?_
    simp only [List.take_succ_cons, List.take_zero]
    refine ⟨fun w_ o_ S_ => ?_, fun v9 => ?_⟩
    ·clear S_
     clear o_
     go_wp2_with fail
     exact kso rfl rfl rfl
    simp only [Act.put, sbA, szA, ssA]
    refine ⟨fun w_ o_ S_ => ?_, fun v10 => ?_⟩
    ·obtain rfl : v9 = .nilFunc := hsR S_ 9 rfl
     clear S_
     have H := kp (H.out.keep [0] (St := []) trivial o_ (by decide) (by kernel_rfl))
     have HOX := kp o_
     clear o_
     refine wpList_bin (by kernel_rfl) .eql 94 94 _ _ rfl (.nilFunc) .nilFunc (.bool true) rfl rfl (by kernel_rfl) (by kernel_rfl) ?_
     go_wp2_with fail
     exact kso rfl rfl rfl
    simp only [Act.put, sbA, szA, ssA]
    refine ⟨fun w_ o_ S_ => ?_, fun v11 => ?_⟩
    ·obtain rfl : v10 = .bool true := hsR S_ 10 rfl
     clear S_ o_
     go_wp2_with fail
     exact kso rfl rfl rfl
    simp only [Act.put, sbA, szA, ssA]
    refine ⟨fun w_ o_ S_ => ?_, fun v12 => ?_⟩
    ·obtain rfl : v11 = .bool true := hsR S_ 11 rfl
     clear S_ o_
     go_wp2_with fail
     exact kso rfl rfl rfl
    simp only [Act.put, sbA, szA, ssA]
    refine ⟨fun w_ o_ S_ => ?_, fun v13 => ?_⟩
    ·obtain rfl : v11 = .bool true := hsR S_ 11 rfl
     clear S_ o_
     go_wp2_with fail
     exact kso rfl rfl rfl
    simp only [Act.put, sbA, szA, ssA]
    refine ⟨fun w_ o_ S_ => ?_, fun v14 => ?_⟩
    ·obtain rfl : v11 = .bool true := hsR S_ 11 rfl
     clear S_ o_
     go_wp2_with fail
     exact kso rfl rfl rfl
    simp only [Act.put, sbA, szA, ssA]
    refine ⟨fun w_ o_ S_ => ?_, fun v15 => ?_⟩
    ·obtain rfl : v11 = .bool true := hsR S_ 11 rfl
     clear S_ o_
     go_wp2_with fail
     exact kso rfl rfl rfl
    simp only [Act.put, sbA, szA, ssA]
    refine ⟨fun w_ o_ S_ => ?_, fun v16 => ?_⟩
    ·obtain rfl : v11 = .bool true := hsR S_ 11 rfl
     clear S_ o_
     go_wp2_with fail
     exact kso rfl rfl rfl
    simp only [Act.put, sbA, szA, ssA]
    refine ⟨fun w_ o_ S_ => ?_, fun v17 => ?_⟩
    ·obtain rfl : v11 = .bool true := hsR S_ 11 rfl
     obtain rfl : v16 = undef := hsR S_ 16 rfl
     clear S_ o_
     go_wp2_with fail
     exact kso rfl rfl rfl
    simp only [Act.put, sbA, szA, ssA]
    refine ⟨fun w_ o_ S_ => ?_, fun v18 => ?_⟩
    ·obtain rfl : v17 = .bool true := hsR S_ 17 rfl
     clear S_ o_
     go_wp2_with fail
     exact kso rfl rfl rfl
    simp only [Act.put, sbA, szA, ssA]
    refine ⟨fun w_ o_ S_ => ?_, fun v19 => ?_⟩
    ·obtain rfl : v18 = .bool true := hsR S_ 18 rfl
     clear S_ o_
     go_wp2_with fail
     exact kso rfl rfl rfl
    simp only [Act.put, sbA, szA, ssA]
    refine ⟨fun w_ o_ S_ => ?_, fun v20 => ?_⟩
    ·obtain rfl : v18 = .bool true := hsR S_ 18 rfl
     clear S_ o_
     go_wp2_with fail
     exact kso rfl rfl rfl
    simp only [Act.put, sbA, szA, ssA]
    refine ⟨fun w_ o_ S_ => ?_, fun v21 => ?_⟩
    ·obtain rfl : v18 = .bool true := hsR S_ 18 rfl
     clear S_ o_
     go_wp2_with fail
     exact kso rfl rfl rfl
    simp only [Act.put, sbA, szA, ssA]
    refine ⟨fun w_ o_ S_ => ?_, fun v22 => ?_⟩
    ·obtain rfl : v18 = .bool true := hsR S_ 18 rfl
     clear S_ o_
     go_wp2_with fail
     exact kso rfl rfl rfl
    simp only [Act.put, sbA, szA, ssA]
    refine ⟨fun w_ o_ S_ => ?_, fun v23 => ?_⟩
    ·obtain rfl : v18 = .bool true := hsR S_ 18 rfl
     clear S_ o_
     go_wp2_with fail
     exact kso rfl rfl rfl
    simp only [Act.put, sbA, szA, ssA]
    refine ⟨fun w_ o_ S_ => ?_, fun v24 => ?_⟩
    ·obtain rfl : v18 = .bool true := hsR S_ 18 rfl
     clear S_ o_
     go_wp2_with fail
     exact kso rfl rfl rfl
    simp only [Act.put, sbA, szA, ssA]
    refine ⟨fun w_ o_ S_ => ?_, fun v25 => ?_⟩
    ·obtain rfl : v18 = .bool true := hsR S_ 18 rfl
     clear S_ o_
     go_wp2_with fail
     exact kso rfl rfl rfl
    simp only [Act.put, sbA, szA, ssA]
    refine ⟨fun w_ o_ S_ => ?_, fun v26 => ?_⟩
    ·obtain rfl : v18 = .bool true := hsR S_ 18 rfl
     obtain rfl : v25 = undef := hsR S_ 25 rfl
     clear S_ o_
     go_wp2_with fail
     exact kso rfl rfl rfl
    simp only [Act.put, sbA, szA, ssA]
    refine ⟨fun w_ o_ S_ => ?_, fun v27 => ?_⟩
    ·obtain rfl : v26 = .bool true := hsR S_ 26 rfl
     clear S_ o_
     go_wp2_with fail
     exact kso rfl rfl rfl
    simp only [Act.put, sbA, szA, ssA]
    refine ⟨fun w_ o_ S_ => ?_, fun v28 => ?_⟩
    ·obtain rfl : v27 = .bool true := hsR S_ 27 rfl
     clear S_ o_
     go_wp2_with fail
     exact kso rfl rfl rfl
    simp only [Act.put, sbA, szA, ssA]
    refine ⟨fun w_ o_ S_ => ?_, fun v29 => ?_⟩
    ·obtain rfl : v27 = .bool true := hsR S_ 27 rfl
     clear S_ o_
     go_wp2_with fail
     exact kso rfl rfl rfl
    simp only [Act.put, sbA, szA, ssA]
    refine ⟨fun w_ o_ S_ => ?_, fun v30 => ?_⟩
    ·obtain rfl : v27 = .bool true := hsR S_ 27 rfl
     clear S_ o_
     go_wp2_with fail
     exact kso rfl rfl rfl
    simp only [Act.put, sbA, szA, ssA]
    refine ⟨fun w_ o_ S_ => ?_, fun v31 => ?_⟩
    ·obtain rfl : v27 = .bool true := hsR S_ 27 rfl
     clear S_ o_
     go_wp2_with fail
     exact kso rfl rfl rfl
    simp only [Act.put, sbA, szA, ssA]
    refine ⟨fun w_ o_ S_ => ?_, fun v32 => ?_⟩
    ·obtain rfl : v27 = .bool true := hsR S_ 27 rfl
     obtain rfl : v31 = undef := hsR S_ 31 rfl
     clear S_ o_
     go_wp2_with fail
     exact kso rfl rfl rfl
    simp only [Act.put, sbA, szA, ssA]
    clear H
    intro w4 HOX H hfin
    obtain rfl : v9 = .nilFunc := hfin 9 (by decide)
    obtain rfl : v10 = .bool true := hfin 10 (by decide)
    obtain rfl : v11 = .bool true := hfin 11 (by decide)
    obtain rfl : v12 = undef := hfin 12 (by decide)
    obtain rfl : v13 = undef := hfin 13 (by decide)
    obtain rfl : v14 = undef := hfin 14 (by decide)
    obtain rfl : v15 = undef := hfin 15 (by decide)
    obtain rfl : v16 = undef := hfin 16 (by decide)
    obtain rfl : v17 = .bool true := hfin 17 (by decide)
    obtain rfl : v18 = .bool true := hfin 18 (by decide)
    obtain rfl : v19 = undef := hfin 19 (by decide)
    obtain rfl : v20 = undef := hfin 20 (by decide)
    obtain rfl : v21 = undef := hfin 21 (by decide)
    obtain rfl : v22 = undef := hfin 22 (by decide)
    obtain rfl : v23 = undef := hfin 23 (by decide)
    obtain rfl : v24 = undef := hfin 24 (by decide)
    obtain rfl : v25 = undef := hfin 25 (by decide)
    obtain rfl : v26 = .bool true := hfin 26 (by decide)
    obtain rfl : v27 = .bool true := hfin 27 (by decide)
    obtain rfl : v28 = undef := hfin 28 (by decide)
    obtain rfl : v29 = undef := hfin 29 (by decide)
    obtain rfl : v30 = undef := hfin 30 (by decide)
    obtain rfl : v31 = undef := hfin 31 (by decide)
    obtain rfl : v32 = .bool true := hfin 32 (by decide)
    clear hfin
    simp only [List.drop_succ_cons, List.drop_zero]
    simp only [applyS] at H
    have HXN := kp (HOX.out.ext (Ext.refl wi) (fun g hg => by cases hg))
    go_wp2_with fail
    exact CutP.of rfl (by kernel_rfl) ⟨H, by show Value.bool _ = Value.bool _; simp [bad1, HVF.out, ]⟩
 rintro vs w3 ⟨H, e32⟩
 simp only [putMany, List.setIfInBounds_toArray, List.set_cons_zero, List.set_cons_succ]
 rw [e32]
 clear e32
 cases hb : bad1 s with
 | true =>
  rw [hb] at HC
  clear hb
  go_wp2_with fail
  go_ret
  exact ⟨by rw [HC.out]; rfl, H.out.1⟩
 | false =>
  rw [hb] at HC
  clear hb
  have HB2 := kp (show bad2 s = (needsB s && !decide (s.pair = keysF s s.other)) from rfl)
  go_wp2_with fail
  subst h4
  refine wp_cut (33 :: 34 :: 35 :: 36 :: 37 :: 38 :: 39 :: 40 :: 41 :: 42 :: 43 :: 44 :: 45 :: 46 :: 47 :: 48 :: 49 :: 50 :: 51 :: []) (fun vs w' => Kp (Loc w w' [(g1, 32, cat (partsF s))]) ∧ vs 51 = .bool (needsB s)) ?_ ?_
  ·go_wp2_with (first | ((with_reducible refine isLd 28 ?_); (refine L_fg H rfl 28 _ rfl 0 rfl _ rfl _ rfl (partsK s.pair) rfl Try.underlying28 rfl (by kernel_rfl) ?_); simp only [Act.put, sbA, szA, ssA]) | ((with_reducible show wpList _ _ _ (Oper.mk _ (Op.build 28 _) _ _ _ _ :: _) _ _); (refine L_bd rfl 28 _ rfl #[] (by kernel_rfl) (cat (partsK ks0)) (fun _ => by kernel_rfl) ?_); simp only [Act.put, sbA, szA, ssA]) | ((with_reducible show wpList _ _ _ (Oper.mk _ (Op.binOp _ 28 _ _ _) _ _ _ _ :: _) _ _); (refine wpList_ne2 rfl 28 _ _ _ rfl _ _ _ rfl rfl Try.eqGuardType28 (eqK_in _ _ _ 9997) ?_); simp only [Act.put, sbA, szA, ssA]) | ((with_reducible refine isLd 5 ?_); (refine L_f1 H rfl 5 _ rfl 0 rfl _ rfl _ rfl _ rfl Try.underlying5 rfl ?_); simp only [Act.put, sbA, szA, ssA]))
   all_goals exact CutP.of rfl (by kernel_rfl) ⟨H, by show Value.bool _ = Value.bool _; simp [needsB, *]⟩
  rintro vs w5 ⟨H, e51⟩
  simp only [putMany, List.setIfInBounds_toArray, List.set_cons_zero, List.set_cons_succ]
  rw [e51]
  clear e51
  cases hb : needsB s with
  | false =>
   rw [hb] at HB2
   clear hb
   go_wp2_with fail
   go_ret
   exact ⟨by rw [HC.out, HB2.out]; rfl, H.out.1⟩
  | true =>
   rw [hb] at HB2
   clear hb
   go_wp2_with fail
   subst h5
   refine region_free H (tabS [(52, fun vQ _ => vQ = .pointer (some ⟨g1, 65, none⟩)), (53, fun vQ _ => vQ = .agg (cat (partsK s.pair)).toArray), (54, fun vQ _ => vQ = .agg (cat (partsF s)).toArray), (55, fun vQ _ => vQ = .pointer (some ⟨g1, 46, none⟩)), (56, fun vQ _ => vQ = .agg (s.other.1.map V8).toArray), (57, fun vQ _ => vQ = .agg (cat (partsK (keysF s s.other))).toArray), (58, fun vQ _ => vQ = .bool (!decide (s.pair = (keysF s s.other))))]) [] (tabS_out _ _ (by simp only [List.forall_mem_cons]; exact ⟨mono_eqO _ _, mono_eqO _ _, mono_eqO _ _, mono_eqO _ _, mono_eqO _ _, mono_eqO _ _, mono_eqO _ _, by simp⟩)) 7 (by kernel_rfl) (by kernel_rfl) (by kernel_rfl) (by kernel_rfl) [] [] rfl rfl (by decide) (by decide) (by decide) trivial ?_
   simp only [List.take_succ_cons, List.take_zero]
   refine ⟨fun w_ o_ S_ => ?_, fun v52 => ?_⟩
   ·clear S_
    clear o_
    go_wp2_with fail
    exact kso rfl rfl rfl
   simp only [Act.put, sbA, szA, ssA]
   refine ⟨fun w_ o_ S_ => ?_, fun v53 => ?_⟩
   ·obtain rfl : v52 = .pointer (some ⟨g1, 65, none⟩) := hsR S_ 52 rfl
    clear S_
    have H := kp (H.out.keep [0] (St := []) trivial o_ (by decide) (by kernel_rfl))
    have HOX := kp o_
    clear o_
    go_wp2_with ((with_reducible refine isLd 28 ?_); (refine L_fg H rfl 28 _ rfl 0 rfl _ rfl _ rfl (partsK s.pair) rfl Try.underlying28 rfl (by kernel_rfl) ?_); simp only [Act.put, sbA, szA, ssA])
    exact kso rfl rfl rfl
   simp only [Act.put, sbA, szA, ssA]
   refine ⟨fun w_ o_ S_ => ?_, fun v54 => ?_⟩
   ·clear S_
    have H := kp (H.out.keep [0] (St := []) trivial o_ (by decide) (by kernel_rfl))
    have HOX := kp o_
    clear o_
    go_wp2_with ((with_reducible refine isLd 32 ?_); (refine L_fa H rfl 32 _ rfl 0 rfl rfl Try.underlying32 rfl (by kernel_rfl) ?_); simp only [Act.put, sbA, szA, ssA])
    exact kso rfl rfl rfl
   simp only [Act.put, sbA, szA, ssA]
   refine ⟨fun w_ o_ S_ => ?_, fun v55 => ?_⟩
   ·clear S_
    clear o_
    go_wp2_with fail
    exact kso rfl rfl rfl
   simp only [Act.put, sbA, szA, ssA]
   refine ⟨fun w_ o_ S_ => ?_, fun v56 => ?_⟩
   ·obtain rfl : v55 = .pointer (some ⟨g1, 46, none⟩) := hsR S_ 55 rfl
    clear S_
    have H := kp (H.out.keep [0] (St := []) trivial o_ (by decide) (by kernel_rfl))
    have HOX := kp o_
    clear o_
    go_wp2_with ((with_reducible refine isLd 26 ?_); (refine L_fv H rfl 26 _ rfl 0 rfl _ rfl _ rfl rfl Try.underlying26 rfl (by kernel_rfl) ?_); simp only [Act.put, sbA, szA, ssA])
    exact kso rfl rfl rfl
   simp only [Act.put, sbA, szA, ssA]
   refine ⟨fun w_ o_ S_ => ?_, fun v57 => ?_⟩
   ·obtain rfl : v54 = .agg (cat (partsF s)).toArray := hsR S_ 54 rfl
    obtain rfl : v56 = .agg (s.other.1.map V8).toArray := hsR S_ 56 rfl
    clear S_
    have H := kp (H.out.keep [0] (St := []) trivial o_ (by decide) (by kernel_rfl))
    have HOX := kp o_
    clear o_
    go_wp2_with fail
    refine (HKE.out _ _ _).mono ?_
    rintro e w2 ⟨rfl, hx⟩
    have HXC := kp hx
    clear hx
    go_wp2_with fail
    exact ⟨rfl, _, rfl, fun d hd => by cases hd; exact rfl, HXC.out⟩
   simp only [Act.put, sbA, szA, ssA]
   refine ⟨fun w_ o_ S_ => ?_, fun v58 => ?_⟩
   ·obtain rfl : v53 = .agg (cat (partsK s.pair)).toArray := hsR S_ 53 rfl
    obtain rfl : v57 = .agg (cat (partsK (keysF s s.other))).toArray := hsR S_ 57 rfl
    clear S_
    have H := kp (H.out.keep [0] (St := []) trivial o_ (by decide) (by kernel_rfl))
    have HOX := kp o_
    clear o_
    go_wp2_with ((with_reducible show wpList _ _ _ (Oper.mk _ (Op.binOp _ 28 _ _ _) _ _ _ _ :: _) _ _); (refine wpList_ne2 rfl 28 _ _ _ rfl _ _ _ rfl rfl Try.eqGuardType28 (eqK_in _ _ _ 9997) ?_); simp only [Act.put, sbA, szA, ssA])
    exact kso rfl rfl rfl
   simp only [Act.put, sbA, szA, ssA]
   clear H
   intro w6 HOX H hfin
   obtain rfl : v52 = .pointer (some ⟨g1, 65, none⟩) := hfin 52 (by decide)
   obtain rfl : v53 = .agg (cat (partsK s.pair)).toArray := hfin 53 (by decide)
   obtain rfl : v54 = .agg (cat (partsF s)).toArray := hfin 54 (by decide)
   obtain rfl : v55 = .pointer (some ⟨g1, 46, none⟩) := hfin 55 (by decide)
   obtain rfl : v56 = .agg (s.other.1.map V8).toArray := hfin 56 (by decide)
   obtain rfl : v57 = .agg (cat (partsK (keysF s s.other))).toArray := hfin 57 (by decide)
   obtain rfl : v58 = .bool (!decide (s.pair = (keysF s s.other))) := hfin 58 (by decide)
   clear hfin
   simp only [List.drop_succ_cons, List.drop_zero]
   simp only [applyS] at H
   have HXN := kp (HOX.out.ext (Ext.refl w5) (fun g hg => by cases hg))
   cases hq : decide (s.pair = keysF s s.other) with
   | true =>
    rw [hq] at HB2
    clear hq
    go_wp2_with fail
    go_ret
    exact ⟨by rw [HC.out, HB2.out]; rfl, H.out.1⟩
   | false =>
    rw [hq] at HB2
    clear hq
    go_wp2_with fail
    go_ret
    exact ⟨by rw [HC.out, HB2.out]; rfl, H.out.1⟩
theorem checked_eq (s : Fw) (now : Int) : checkedF s now = if checkE s ≠ 0 then 8 else if now < 0 ∨ 1099511627776 < now then 2 else 0 := by
 unfold checkedF checkE timeB
 cases checkB s
 ·rfl
 ·simp only [if_true, ne_eq, not_true_eq_false, if_false]
  by_cases h1 : 0 ≤ now <;> by_cases h2 : now ≤ 1099511627776 <;> simp [h1, h2] <;> omega
set_option maxHeartbeats 3200000 in
theorem checked_any (s : Fw) (now : Int) (w : World) :
  Calls Try.prog 29 #[.agg (cat (partsF s)).toArray, .int .i64 now] w fun e w' => e = .returned (.int .i64 (checkedF s now)) ∧ Ext w w' := by
 have H := kp (Loc.start w)
 have HC := kp (check_any s)
 have HE := kp (checked_eq s now)
 have H8 := kp (show checkE s = 0 ∨ checkE s = 8 by unfold checkE; cases checkB s <;> simp)
 go_enter Try.func29, Try.ntmps29
 go_wp2_with (first | ((with_reducible show wpList _ _ _ (Oper.mk (some 2) (Op.box 32 _) _ _ _ _ :: _) _ _); (refine L_box H rfl 32 _ rfl (cat (partsF s)) rfl ?_); clear H; intro g2 w2 HGg2 HEg2 H; simp only [Act.put, sbA, szA, ssA]) | ((with_reducible refine isLd 32 ?_); (refine L_fa H rfl 32 _ rfl 0 rfl rfl Try.underlying32 rfl (by kernel_rfl) ?_); simp only [Act.put, sbA, szA, ssA]) | (go_at_call 17; refine (HC.out _).mono ?_; rintro e wa ⟨rfl, hx⟩; have H2 := kp (H.out.ext hx); have HXC := kp hx; clear H hx; have H := H2; clear H2))
 all_goals go_ret
 all_goals (refine ⟨congrArg (fun z => Ending.returned (.int .i64 z)) ?_, H.out.1⟩; rw [HE.out]; rcases H8.out with h8 | h8 <;> simp_all <;> omega)
end Go.Proofs.Ytibncchobkaaiaa
