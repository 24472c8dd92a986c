/- Texts of this proof, put together: NewF, HsB. -/
import Derived.Test.YtibncchobkaaiaaA17
import Derived.Test.YtibncchobkaaiaaA11
import Derived.Test.YtibncchobkaaiaaA20
import Derived.Test.YtibncchobkaaiaaA1
namespace Go.Proofs.Ytibncchobkaaiaa
open Go.RowKit
theorem new_bad {role : Int} {own peer : Vc 6} {master nonce : Vc 16} {gid : Int} {gkey : Vc 16} (h : newB role own peer gid = true) : newF role own peer master nonce gid gkey = (fw0, 2) := by unfold newF; rw [if_pos h]
theorem new_ok {role : Int} {own peer : Vc 6} {master nonce : Vc 16} {gid : Int} {gkey : Vc 16} (h : newB role own peer gid = false) : newF role own peer master nonce gid gkey = ({ fw0 with role := role, own := own, peer := peer, master := master, mine := nonce, gid := if role = 2 then 0 else gid, gkey := if role = 2 then zv 16 else gkey }, 0) := by unfold newF; rw [if_neg (by rw [h]; decide)]
def NewR (r : Fw × Int) (w : World) (e : Ending) (w' : World) : Prop := e = .returned (.tuple #[.agg (cat (partsF r.1)).toArray, .int .i64 r.2]) ∧ Ext w w'
set_option maxRecDepth 4000 in
set_option maxHeartbeats 1600000 in
theorem new_any (role : Int) (own peer : Vc 6) (master nonce : Vc 16) (gid : Int) (gkey : Vc 16) (w : World) : Calls Try.prog 20 #[.int .u8 role, .agg (own.1.map V8).toArray, .agg (peer.1.map V8).toArray, .agg (master.1.map V8).toArray, .agg (nonce.1.map V8).toArray, .agg (cat (partsG gid gkey)).toArray] w (NewR (newF role own peer master nonce gid gkey) w) := by
 have H := kp (Loc.start w)
 have HB := kp (fun h => new_bad (role := role) (own := own) (peer := peer) (master := master) (nonce := nonce) (gid := gid) (gkey := gkey) h)
 have HO := kp (fun h => new_ok (role := role) (own := own) (peer := peer) (master := master) (nonce := nonce) (gid := gid) (gkey := gkey) h)
 generalize newF role own peer master nonce gid gkey = r at *
 have HBF := kp (build_Fw role own peer master nonce)
 by_cases r1 : role = 1
 ·subst r1
  cases hq : decide (own = peer) with
  | true =>
   have HQ := kp hq
   have HK := kp (HB.out (by simp [newB, hq]))
   clear hq
   go_enter Try.func20, Try.ntmps20
   go_wp2_with (first | ((with_reducible show wpList _ _ _ (Oper.mk (some 7) (Op.box 23 _) _ _ _ _ :: _) _ _); (refine L_box H rfl 23 _ rfl (cat ([Lf.v own])) rfl ?_); clear H; intro g7 w7 HGg7 HEg7 H; simp only [Act.put, sbA, szA, ssA]) | ((with_reducible show wpList _ _ _ (Oper.mk (some 8) (Op.box 23 _) _ _ _ _ :: _) _ _); (refine L_box H rfl 23 _ rfl (cat ([Lf.v peer])) rfl ?_); clear H; intro g8 w8 HGg8 HEg8 H; simp only [Act.put, sbA, szA, ssA]) | ((with_reducible show wpList _ _ _ (Oper.mk (some 9) (Op.box 25 _) _ _ _ _ :: _) _ _); (refine L_box H rfl 25 _ rfl (cat ([Lf.v master])) rfl ?_); clear H; intro g9 w9 HGg9 HEg9 H; simp only [Act.put, sbA, szA, ssA]) | ((with_reducible show wpList _ _ _ (Oper.mk (some 10) (Op.box 26 _) _ _ _ _ :: _) _ _); (refine L_box H rfl 26 _ rfl (cat ([Lf.v nonce])) rfl ?_); clear H; intro g10 w10 HGg10 HEg10 H; simp only [Act.put, sbA, szA, ssA]) | ((with_reducible show wpList _ _ _ (Oper.mk (some 11) (Op.box 30 _) _ _ _ _ :: _) _ _); (refine L_box H rfl 30 _ rfl (cat (partsG gid gkey)) rfl ?_); clear H; intro g11 w11 HGg11 HEg11 H; simp only [Act.put, sbA, szA, ssA]) | ((with_reducible show wpList _ _ _ (Oper.mk (some 12) (Op.alloc 32) _ _ _ _ :: _) _ _); (refine L_alloc H rfl 32 rfl (cat (partsF fw0)) (fun _ _ => by kernel_rfl) ?_); clear H; intro g12 w12 HGg12 HEg12 H; simp only [Act.put, sbA, szA, ssA]) | ((with_reducible show wpList _ _ _ (Oper.mk _ (Op.build 32 _) _ _ _ _ :: _) _ _); (refine L_bd rfl 32 _ rfl #[] (by kernel_rfl) (cat (partsF fw0)) (fun _ => by kernel_rfl) ?_); simp only [Act.put, sbA, szA, ssA]) | ((with_reducible refine isSt 32 ?_); refine L_sa H rfl rfl 32 _ _ rfl 0 rfl rfl (partsF fw0) rfl rfl (by kernel_rfl) ?_; clear H; intro wz HWwz H; simp only [szA] at H) | ((with_reducible refine isLd 23 ?_); (first | (refine L_fv H rfl 23 _ rfl 4 rfl _ rfl _ rfl rfl Try.underlying23 rfl (by kernel_rfl) ?_) | (refine L_fv H rfl 23 _ rfl 5 rfl _ rfl _ rfl rfl Try.underlying23 rfl (by kernel_rfl) ?_)); simp only [Act.put, sbA, szA, ssA]) | (((with_reducible show wpList _ _ _ (Oper.mk _ (Op.binOp _ 23 _ _ _) _ _ _ _ :: _) _ _); (refine wpList_eq2 rfl 23 _ _ _ rfl _ _ _ rfl rfl Try.eqGuardType23 (eqV_in _ Try.underlying23 _ _ 9998) ?_); simp only [Act.put, sbA, szA, ssA]); simp only [HQ.out]))
   (exact ret_f2 H Try.results20 0 rfl rfl _ rfl Try.underlying32 rfl (by kernel_rfl) rfl (⟨by rw [HK.out]; rfl, H.out.1⟩))
  | false =>
   have HQ := kp hq
   have HNQ := kp (show newB 1 own peer gid = (gid != 2 && gid != 3) by simp [newB, hq])
   clear hq
   cases h2 : (gid != 2) with
   | false =>
    have HG2 := kp h2
    have HK := kp (HO.out (by rw [HNQ.out, h2]; rfl))
    clear h2
    skip
    go_enter Try.func20, Try.ntmps20
    generalize h5 : (Code.region 5 _ _ : Code) = R5
    go_wp2_with (first | ((with_reducible show wpList _ _ _ (Oper.mk (some 7) (Op.box 23 _) _ _ _ _ :: _) _ _); (refine L_box H rfl 23 _ rfl (cat ([Lf.v own])) rfl ?_); clear H; intro g7 w7 HGg7 HEg7 H; simp only [Act.put, sbA, szA, ssA]) | ((with_reducible show wpList _ _ _ (Oper.mk (some 8) (Op.box 23 _) _ _ _ _ :: _) _ _); (refine L_box H rfl 23 _ rfl (cat ([Lf.v peer])) rfl ?_); clear H; intro g8 w8 HGg8 HEg8 H; simp only [Act.put, sbA, szA, ssA]) | ((with_reducible show wpList _ _ _ (Oper.mk (some 9) (Op.box 25 _) _ _ _ _ :: _) _ _); (refine L_box H rfl 25 _ rfl (cat ([Lf.v master])) rfl ?_); clear H; intro g9 w9 HGg9 HEg9 H; simp only [Act.put, sbA, szA, ssA]) | ((with_reducible show wpList _ _ _ (Oper.mk (some 10) (Op.box 26 _) _ _ _ _ :: _) _ _); (refine L_box H rfl 26 _ rfl (cat ([Lf.v nonce])) rfl ?_); clear H; intro g10 w10 HGg10 HEg10 H; simp only [Act.put, sbA, szA, ssA]) | ((with_reducible show wpList _ _ _ (Oper.mk (some 11) (Op.box 30 _) _ _ _ _ :: _) _ _); (refine L_box H rfl 30 _ rfl (cat (partsG gid gkey)) rfl ?_); clear H; intro g11 w11 HGg11 HEg11 H; simp only [Act.put, sbA, szA, ssA]) | ((with_reducible show wpList _ _ _ (Oper.mk (some 12) (Op.alloc 32) _ _ _ _ :: _) _ _); (refine L_alloc H rfl 32 rfl (cat (partsF fw0)) (fun _ _ => by kernel_rfl) ?_); clear H; intro g12 w12 HGg12 HEg12 H; simp only [Act.put, sbA, szA, ssA]) | ((with_reducible refine isLd 23 ?_); (first | (refine L_fv H rfl 23 _ rfl 4 rfl _ rfl _ rfl rfl Try.underlying23 rfl (by kernel_rfl) ?_) | (refine L_fv H rfl 23 _ rfl 5 rfl _ rfl _ rfl rfl Try.underlying23 rfl (by kernel_rfl) ?_)); simp only [Act.put, sbA, szA, ssA]) | (((with_reducible show wpList _ _ _ (Oper.mk _ (Op.binOp _ 23 _ _ _) _ _ _ _ :: _) _ _); (refine wpList_eq2 rfl 23 _ _ _ rfl _ _ _ rfl rfl Try.eqGuardType23 (eqV_in _ Try.underlying23 _ _ 9998) ?_); simp only [Act.put, sbA, szA, ssA]); simp only [HQ.out]) | ((with_reducible refine isLd 3 ?_); (refine L_f1 H rfl 3 _ rfl 1 rfl _ rfl _ rfl _ rfl Try.underlying3 rfl ?_); simp only [Act.put, sbA, szA, ssA]) | ((with_reducible show wpList _ _ _ (Oper.mk (some 31) _ _ _ _ _ :: _) _ _); refine wpList_bin (by kernel_rfl) .neq 3 3 _ _ rfl (.int .i64 gid) (.int .i64 2) (.bool (gid != 2)) rfl rfl (by kernel_rfl) (by kernel_rfl) ?_; simp only [Act.put, sbA, szA, ssA]; simp only [HG2.out]))
    subst h5
    go_wp2_with (first | ((with_reducible refine isLd 23 ?_); (first | (refine L_fv H rfl 23 _ rfl 4 rfl _ rfl _ rfl rfl Try.underlying23 rfl (by kernel_rfl) ?_) | (refine L_fv H rfl 23 _ rfl 5 rfl _ rfl _ rfl rfl Try.underlying23 rfl (by kernel_rfl) ?_)); simp only [Act.put, sbA, szA, ssA]) | ((with_reducible refine isLd 25 ?_); (refine L_fv H rfl 25 _ rfl 3 rfl _ rfl _ rfl rfl Try.underlying25 rfl (by kernel_rfl) ?_); simp only [Act.put, sbA, szA, ssA]) | ((with_reducible refine isLd 26 ?_); (refine L_fv H rfl 26 _ rfl 2 rfl _ rfl _ rfl rfl Try.underlying26 rfl (by kernel_rfl) ?_); simp only [Act.put, sbA, szA, ssA]) | ((with_reducible refine isLd 30 ?_); (refine L_fg H rfl 30 _ rfl 1 rfl _ rfl _ rfl (partsG (gid) (gkey)) rfl Try.underlying30 rfl (by kernel_rfl) ?_); simp only [Act.put, sbA, szA, ssA]) | ((with_reducible show wpList _ _ _ (Oper.mk (some 49) (Op.build _ _) _ _ _ _ :: _) _ _); (refine L_bd rfl 32 _ rfl #[(0, .int .u8 1), (2, .agg (own.1.map V8).toArray), (3, .agg (peer.1.map V8).toArray), (4, .agg (master.1.map V8).toArray), (5, .agg (nonce.1.map V8).toArray), (11, .agg (cat (partsG (gid) (gkey))).toArray)] (by kernel_rfl) (cat (partsF { fw0 with role := 1, own := own, peer := peer, master := master, mine := nonce, gid := gid, gkey := gkey })) (HBF.out _ _) ?_); simp only [Act.put, sbA, szA, ssA]) | ((with_reducible refine isSt 32 ?_); refine L_sa H rfl rfl 32 _ _ rfl 0 rfl rfl (partsF { fw0 with role := 1, own := own, peer := peer, master := master, mine := nonce, gid := gid, gkey := gkey }) rfl rfl (by kernel_rfl) ?_; clear H; intro wz HWwz H; simp only [szA] at H))
    (exact ret_f2 H Try.results20 0 rfl rfl _ rfl Try.underlying32 rfl (by kernel_rfl) rfl (⟨by rw [HK.out]; rfl, H.out.1⟩))
   | true =>
    have HG2 := kp h2
    cases h3 : (gid != 3) with
    | false =>
     have HG3 := kp h3
     have HK := kp (HO.out (by rw [HNQ.out, h2, h3]; rfl))
     clear h2 h3
     skip
     go_enter Try.func20, Try.ntmps20
     generalize h5 : (Code.region 5 _ _ : Code) = R5
     go_wp2_with (first | ((with_reducible show wpList _ _ _ (Oper.mk (some 7) (Op.box 23 _) _ _ _ _ :: _) _ _); (refine L_box H rfl 23 _ rfl (cat ([Lf.v own])) rfl ?_); clear H; intro g7 w7 HGg7 HEg7 H; simp only [Act.put, sbA, szA, ssA]) | ((with_reducible show wpList _ _ _ (Oper.mk (some 8) (Op.box 23 _) _ _ _ _ :: _) _ _); (refine L_box H rfl 23 _ rfl (cat ([Lf.v peer])) rfl ?_); clear H; intro g8 w8 HGg8 HEg8 H; simp only [Act.put, sbA, szA, ssA]) | ((with_reducible show wpList _ _ _ (Oper.mk (some 9) (Op.box 25 _) _ _ _ _ :: _) _ _); (refine L_box H rfl 25 _ rfl (cat ([Lf.v master])) rfl ?_); clear H; intro g9 w9 HGg9 HEg9 H; simp only [Act.put, sbA, szA, ssA]) | ((with_reducible show wpList _ _ _ (Oper.mk (some 10) (Op.box 26 _) _ _ _ _ :: _) _ _); (refine L_box H rfl 26 _ rfl (cat ([Lf.v nonce])) rfl ?_); clear H; intro g10 w10 HGg10 HEg10 H; simp only [Act.put, sbA, szA, ssA]) | ((with_reducible show wpList _ _ _ (Oper.mk (some 11) (Op.box 30 _) _ _ _ _ :: _) _ _); (refine L_box H rfl 30 _ rfl (cat (partsG gid gkey)) rfl ?_); clear H; intro g11 w11 HGg11 HEg11 H; simp only [Act.put, sbA, szA, ssA]) | ((with_reducible show wpList _ _ _ (Oper.mk (some 12) (Op.alloc 32) _ _ _ _ :: _) _ _); (refine L_alloc H rfl 32 rfl (cat (partsF fw0)) (fun _ _ => by kernel_rfl) ?_); clear H; intro g12 w12 HGg12 HEg12 H; simp only [Act.put, sbA, szA, ssA]) | ((with_reducible refine isLd 23 ?_); (first | (refine L_fv H rfl 23 _ rfl 4 rfl _ rfl _ rfl rfl Try.underlying23 rfl (by kernel_rfl) ?_) | (refine L_fv H rfl 23 _ rfl 5 rfl _ rfl _ rfl rfl Try.underlying23 rfl (by kernel_rfl) ?_)); simp only [Act.put, sbA, szA, ssA]) | (((with_reducible show wpList _ _ _ (Oper.mk _ (Op.binOp _ 23 _ _ _) _ _ _ _ :: _) _ _); (refine wpList_eq2 rfl 23 _ _ _ rfl _ _ _ rfl rfl Try.eqGuardType23 (eqV_in _ Try.underlying23 _ _ 9998) ?_); simp only [Act.put, sbA, szA, ssA]); simp only [HQ.out]) | ((with_reducible refine isLd 3 ?_); (refine L_f1 H rfl 3 _ rfl 1 rfl _ rfl _ rfl _ rfl Try.underlying3 rfl ?_); simp only [Act.put, sbA, szA, ssA]) | ((with_reducible show wpList _ _ _ (Oper.mk (some 31) _ _ _ _ _ :: _) _ _); refine wpList_bin (by kernel_rfl) .neq 3 3 _ _ rfl (.int .i64 gid) (.int .i64 2) (.bool (gid != 2)) rfl rfl (by kernel_rfl) (by kernel_rfl) ?_; simp only [Act.put, sbA, szA, ssA]; simp only [HG2.out]) | ((with_reducible show wpList _ _ _ (Oper.mk (some 36) _ _ _ _ _ :: _) _ _); refine wpList_bin (by kernel_rfl) .neq 3 3 _ _ rfl (.int .i64 gid) (.int .i64 3) (.bool (gid != 3)) rfl rfl (by kernel_rfl) (by kernel_rfl) ?_; simp only [Act.put, sbA, szA, ssA]; simp only [HG3.out]))
     subst h5
     go_wp2_with (first | ((with_reducible refine isLd 23 ?_); (first | (refine L_fv H rfl 23 _ rfl 4 rfl _ rfl _ rfl rfl Try.underlying23 rfl (by kernel_rfl) ?_) | (refine L_fv H rfl 23 _ rfl 5 rfl _ rfl _ rfl rfl Try.underlying23 rfl (by kernel_rfl) ?_)); simp only [Act.put, sbA, szA, ssA]) | ((with_reducible refine isLd 25 ?_); (refine L_fv H rfl 25 _ rfl 3 rfl _ rfl _ rfl rfl Try.underlying25 rfl (by kernel_rfl) ?_); simp only [Act.put, sbA, szA, ssA]) | ((with_reducible refine isLd 26 ?_); (refine L_fv H rfl 26 _ rfl 2 rfl _ rfl _ rfl rfl Try.underlying26 rfl (by kernel_rfl) ?_); simp only [Act.put, sbA, szA, ssA]) | ((with_reducible refine isLd 30 ?_); (refine L_fg H rfl 30 _ rfl 1 rfl _ rfl _ rfl (partsG (gid) (gkey)) rfl Try.underlying30 rfl (by kernel_rfl) ?_); simp only [Act.put, sbA, szA, ssA]) | ((with_reducible show wpList _ _ _ (Oper.mk (some 49) (Op.build _ _) _ _ _ _ :: _) _ _); (refine L_bd rfl 32 _ rfl #[(0, .int .u8 1), (2, .agg (own.1.map V8).toArray), (3, .agg (peer.1.map V8).toArray), (4, .agg (master.1.map V8).toArray), (5, .agg (nonce.1.map V8).toArray), (11, .agg (cat (partsG (gid) (gkey))).toArray)] (by kernel_rfl) (cat (partsF { fw0 with role := 1, own := own, peer := peer, master := master, mine := nonce, gid := gid, gkey := gkey })) (HBF.out _ _) ?_); simp only [Act.put, sbA, szA, ssA]) | ((with_reducible refine isSt 32 ?_); refine L_sa H rfl rfl 32 _ _ rfl 0 rfl rfl (partsF { fw0 with role := 1, own := own, peer := peer, master := master, mine := nonce, gid := gid, gkey := gkey }) rfl rfl (by kernel_rfl) ?_; clear H; intro wz HWwz H; simp only [szA] at H))
     (exact ret_f2 H Try.results20 0 rfl rfl _ rfl Try.underlying32 rfl (by kernel_rfl) rfl (⟨by rw [HK.out]; rfl, H.out.1⟩))
    | true =>
     have HG3 := kp h3
     have HK := kp (HB.out (by rw [HNQ.out, h2, h3]; rfl))
     clear h2 h3
     skip
     go_enter Try.func20, Try.ntmps20
     generalize h5 : (Code.region 5 _ _ : Code) = R5
     go_wp2_with (first | ((with_reducible show wpList _ _ _ (Oper.mk (some 7) (Op.box 23 _) _ _ _ _ :: _) _ _); (refine L_box H rfl 23 _ rfl (cat ([Lf.v own])) rfl ?_); clear H; intro g7 w7 HGg7 HEg7 H; simp only [Act.put, sbA, szA, ssA]) | ((with_reducible show wpList _ _ _ (Oper.mk (some 8) (Op.box 23 _) _ _ _ _ :: _) _ _); (refine L_box H rfl 23 _ rfl (cat ([Lf.v peer])) rfl ?_); clear H; intro g8 w8 HGg8 HEg8 H; simp only [Act.put, sbA, szA, ssA]) | ((with_reducible show wpList _ _ _ (Oper.mk (some 9) (Op.box 25 _) _ _ _ _ :: _) _ _); (refine L_box H rfl 25 _ rfl (cat ([Lf.v master])) rfl ?_); clear H; intro g9 w9 HGg9 HEg9 H; simp only [Act.put, sbA, szA, ssA]) | ((with_reducible show wpList _ _ _ (Oper.mk (some 10) (Op.box 26 _) _ _ _ _ :: _) _ _); (refine L_box H rfl 26 _ rfl (cat ([Lf.v nonce])) rfl ?_); clear H; intro g10 w10 HGg10 HEg10 H; simp only [Act.put, sbA, szA, ssA]) | ((with_reducible show wpList _ _ _ (Oper.mk (some 11) (Op.box 30 _) _ _ _ _ :: _) _ _); (refine L_box H rfl 30 _ rfl (cat (partsG gid gkey)) rfl ?_); clear H; intro g11 w11 HGg11 HEg11 H; simp only [Act.put, sbA, szA, ssA]) | ((with_reducible show wpList _ _ _ (Oper.mk (some 12) (Op.alloc 32) _ _ _ _ :: _) _ _); (refine L_alloc H rfl 32 rfl (cat (partsF fw0)) (fun _ _ => by kernel_rfl) ?_); clear H; intro g12 w12 HGg12 HEg12 H; simp only [Act.put, sbA, szA, ssA]) | ((with_reducible show wpList _ _ _ (Oper.mk _ (Op.build 32 _) _ _ _ _ :: _) _ _); (refine L_bd rfl 32 _ rfl #[] (by kernel_rfl) (cat (partsF fw0)) (fun _ => by kernel_rfl) ?_); simp only [Act.put, sbA, szA, ssA]) | ((with_reducible refine isSt 32 ?_); refine L_sa H rfl rfl 32 _ _ rfl 0 rfl rfl (partsF fw0) rfl rfl (by kernel_rfl) ?_; clear H; intro wz HWwz H; simp only [szA] at H) | ((with_reducible refine isLd 23 ?_); (first | (refine L_fv H rfl 23 _ rfl 4 rfl _ rfl _ rfl rfl Try.underlying23 rfl (by kernel_rfl) ?_) | (refine L_fv H rfl 23 _ rfl 5 rfl _ rfl _ rfl rfl Try.underlying23 rfl (by kernel_rfl) ?_)); simp only [Act.put, sbA, szA, ssA]) | (((with_reducible show wpList _ _ _ (Oper.mk _ (Op.binOp _ 23 _ _ _) _ _ _ _ :: _) _ _); (refine wpList_eq2 rfl 23 _ _ _ rfl _ _ _ rfl rfl Try.eqGuardType23 (eqV_in _ Try.underlying23 _ _ 9998) ?_); simp only [Act.put, sbA, szA, ssA]); simp only [HQ.out]) | ((with_reducible refine isLd 3 ?_); (refine L_f1 H rfl 3 _ rfl 1 rfl _ rfl _ rfl _ rfl Try.underlying3 rfl ?_); simp only [Act.put, sbA, szA, ssA]) | ((with_reducible show wpList _ _ _ (Oper.mk (some 31) _ _ _ _ _ :: _) _ _); refine wpList_bin (by kernel_rfl) .neq 3 3 _ _ rfl (.int .i64 gid) (.int .i64 2) (.bool (gid != 2)) rfl rfl (by kernel_rfl) (by kernel_rfl) ?_; simp only [Act.put, sbA, szA, ssA]; simp only [HG2.out]) | ((with_reducible show wpList _ _ _ (Oper.mk (some 36) _ _ _ _ _ :: _) _ _); refine wpList_bin (by kernel_rfl) .neq 3 3 _ _ rfl (.int .i64 gid) (.int .i64 3) (.bool (gid != 3)) rfl rfl (by kernel_rfl) (by kernel_rfl) ?_; simp only [Act.put, sbA, szA, ssA]; simp only [HG3.out]))
     (exact ret_f2 H Try.results20 0 rfl rfl _ rfl Try.underlying32 rfl (by kernel_rfl) rfl (⟨by rw [HK.out]; rfl, H.out.1⟩))
 ·by_cases r2 : role = 2
  ·subst r2
   clear r1
   cases hq : decide (own = peer) with
   | true =>
    have HQ := kp hq
    have HK := kp (HB.out (by simp [newB, hq]))
    clear hq
    go_enter Try.func20, Try.ntmps20
    go_wp2_with (first | ((with_reducible show wpList _ _ _ (Oper.mk (some 7) (Op.box 23 _) _ _ _ _ :: _) _ _); (refine L_box H rfl 23 _ rfl (cat ([Lf.v own])) rfl ?_); clear H; intro g7 w7 HGg7 HEg7 H; simp only [Act.put, sbA, szA, ssA]) | ((with_reducible show wpList _ _ _ (Oper.mk (some 8) (Op.box 23 _) _ _ _ _ :: _) _ _); (refine L_box H rfl 23 _ rfl (cat ([Lf.v peer])) rfl ?_); clear H; intro g8 w8 HGg8 HEg8 H; simp only [Act.put, sbA, szA, ssA]) | ((with_reducible show wpList _ _ _ (Oper.mk (some 9) (Op.box 25 _) _ _ _ _ :: _) _ _); (refine L_box H rfl 25 _ rfl (cat ([Lf.v master])) rfl ?_); clear H; intro g9 w9 HGg9 HEg9 H; simp only [Act.put, sbA, szA, ssA]) | ((with_reducible show wpList _ _ _ (Oper.mk (some 10) (Op.box 26 _) _ _ _ _ :: _) _ _); (refine L_box H rfl 26 _ rfl (cat ([Lf.v nonce])) rfl ?_); clear H; intro g10 w10 HGg10 HEg10 H; simp only [Act.put, sbA, szA, ssA]) | ((with_reducible show wpList _ _ _ (Oper.mk (some 11) (Op.box 30 _) _ _ _ _ :: _) _ _); (refine L_box H rfl 30 _ rfl (cat (partsG gid gkey)) rfl ?_); clear H; intro g11 w11 HGg11 HEg11 H; simp only [Act.put, sbA, szA, ssA]) | ((with_reducible show wpList _ _ _ (Oper.mk (some 12) (Op.alloc 32) _ _ _ _ :: _) _ _); (refine L_alloc H rfl 32 rfl (cat (partsF fw0)) (fun _ _ => by kernel_rfl) ?_); clear H; intro g12 w12 HGg12 HEg12 H; simp only [Act.put, sbA, szA, ssA]) | ((with_reducible show wpList _ _ _ (Oper.mk _ (Op.build 32 _) _ _ _ _ :: _) _ _); (refine L_bd rfl 32 _ rfl #[] (by kernel_rfl) (cat (partsF fw0)) (fun _ => by kernel_rfl) ?_); simp only [Act.put, sbA, szA, ssA]) | ((with_reducible refine isSt 32 ?_); refine L_sa H rfl rfl 32 _ _ rfl 0 rfl rfl (partsF fw0) rfl rfl (by kernel_rfl) ?_; clear H; intro wz HWwz H; simp only [szA] at H) | ((with_reducible refine isLd 23 ?_); (first | (refine L_fv H rfl 23 _ rfl 4 rfl _ rfl _ rfl rfl Try.underlying23 rfl (by kernel_rfl) ?_) | (refine L_fv H rfl 23 _ rfl 5 rfl _ rfl _ rfl rfl Try.underlying23 rfl (by kernel_rfl) ?_)); simp only [Act.put, sbA, szA, ssA]) | (((with_reducible show wpList _ _ _ (Oper.mk _ (Op.binOp _ 23 _ _ _) _ _ _ _ :: _) _ _); (refine wpList_eq2 rfl 23 _ _ _ rfl _ _ _ rfl rfl Try.eqGuardType23 (eqV_in _ Try.underlying23 _ _ 9998) ?_); simp only [Act.put, sbA, szA, ssA]); simp only [HQ.out]))
    (exact ret_f2 H Try.results20 0 rfl rfl _ rfl Try.underlying32 rfl (by kernel_rfl) rfl (⟨by rw [HK.out]; rfl, H.out.1⟩))
   | false =>
    have HQ := kp hq
    have HK := kp (HO.out (by simp [newB, hq]))
    clear hq
    skip
    go_enter Try.func20, Try.ntmps20
    generalize h5 : (Code.region 5 _ _ : Code) = R5
    go_wp2_with (first | ((with_reducible show wpList _ _ _ (Oper.mk (some 7) (Op.box 23 _) _ _ _ _ :: _) _ _); (refine L_box H rfl 23 _ rfl (cat ([Lf.v own])) rfl ?_); clear H; intro g7 w7 HGg7 HEg7 H; simp only [Act.put, sbA, szA, ssA]) | ((with_reducible show wpList _ _ _ (Oper.mk (some 8) (Op.box 23 _) _ _ _ _ :: _) _ _); (refine L_box H rfl 23 _ rfl (cat ([Lf.v peer])) rfl ?_); clear H; intro g8 w8 HGg8 HEg8 H; simp only [Act.put, sbA, szA, ssA]) | ((with_reducible show wpList _ _ _ (Oper.mk (some 9) (Op.box 25 _) _ _ _ _ :: _) _ _); (refine L_box H rfl 25 _ rfl (cat ([Lf.v master])) rfl ?_); clear H; intro g9 w9 HGg9 HEg9 H; simp only [Act.put, sbA, szA, ssA]) | ((with_reducible show wpList _ _ _ (Oper.mk (some 10) (Op.box 26 _) _ _ _ _ :: _) _ _); (refine L_box H rfl 26 _ rfl (cat ([Lf.v nonce])) rfl ?_); clear H; intro g10 w10 HGg10 HEg10 H; simp only [Act.put, sbA, szA, ssA]) | ((with_reducible show wpList _ _ _ (Oper.mk (some 11) (Op.box 30 _) _ _ _ _ :: _) _ _); (refine L_box H rfl 30 _ rfl (cat (partsG gid gkey)) rfl ?_); clear H; intro g11 w11 HGg11 HEg11 H; simp only [Act.put, sbA, szA, ssA]) | ((with_reducible show wpList _ _ _ (Oper.mk (some 12) (Op.alloc 32) _ _ _ _ :: _) _ _); (refine L_alloc H rfl 32 rfl (cat (partsF fw0)) (fun _ _ => by kernel_rfl) ?_); clear H; intro g12 w12 HGg12 HEg12 H; simp only [Act.put, sbA, szA, ssA]) | ((with_reducible refine isLd 23 ?_); (first | (refine L_fv H rfl 23 _ rfl 4 rfl _ rfl _ rfl rfl Try.underlying23 rfl (by kernel_rfl) ?_) | (refine L_fv H rfl 23 _ rfl 5 rfl _ rfl _ rfl rfl Try.underlying23 rfl (by kernel_rfl) ?_)); simp only [Act.put, sbA, szA, ssA]) | (((with_reducible show wpList _ _ _ (Oper.mk _ (Op.binOp _ 23 _ _ _) _ _ _ _ :: _) _ _); (refine wpList_eq2 rfl 23 _ _ _ rfl _ _ _ rfl rfl Try.eqGuardType23 (eqV_in _ Try.underlying23 _ _ 9998) ?_); simp only [Act.put, sbA, szA, ssA]); simp only [HQ.out]) | ((with_reducible show wpList _ _ _ (Oper.mk _ (Op.build 30 _) _ _ _ _ :: _) _ _); (refine L_bd rfl 30 _ rfl #[] (by kernel_rfl) (cat (partsG 0 (zv 16))) (fun _ => by kernel_rfl) ?_); simp only [Act.put, sbA, szA, ssA]) | ((with_reducible refine isSt 30 ?_); refine L_sa H rfl rfl 30 _ _ rfl 1 rfl rfl (partsG 0 (zv 16)) rfl rfl (by kernel_rfl) ?_; clear H; intro wk HWwk H; simp only [ssA, szA] at H))
    subst h5
    go_wp2_with (first | ((with_reducible refine isLd 23 ?_); (first | (refine L_fv H rfl 23 _ rfl 4 rfl _ rfl _ rfl rfl Try.underlying23 rfl (by kernel_rfl) ?_) | (refine L_fv H rfl 23 _ rfl 5 rfl _ rfl _ rfl rfl Try.underlying23 rfl (by kernel_rfl) ?_)); simp only [Act.put, sbA, szA, ssA]) | ((with_reducible refine isLd 25 ?_); (refine L_fv H rfl 25 _ rfl 3 rfl _ rfl _ rfl rfl Try.underlying25 rfl (by kernel_rfl) ?_); simp only [Act.put, sbA, szA, ssA]) | ((with_reducible refine isLd 26 ?_); (refine L_fv H rfl 26 _ rfl 2 rfl _ rfl _ rfl rfl Try.underlying26 rfl (by kernel_rfl) ?_); simp only [Act.put, sbA, szA, ssA]) | ((with_reducible refine isLd 30 ?_); (refine L_fg H rfl 30 _ rfl 1 rfl _ rfl _ rfl (partsG (0) ((zv 16))) rfl Try.underlying30 rfl (by kernel_rfl) ?_); simp only [Act.put, sbA, szA, ssA]) | ((with_reducible show wpList _ _ _ (Oper.mk (some 49) (Op.build _ _) _ _ _ _ :: _) _ _); (refine L_bd rfl 32 _ rfl #[(0, .int .u8 2), (2, .agg (own.1.map V8).toArray), (3, .agg (peer.1.map V8).toArray), (4, .agg (master.1.map V8).toArray), (5, .agg (nonce.1.map V8).toArray), (11, .agg (cat (partsG (0) ((zv 16)))).toArray)] (by kernel_rfl) (cat (partsF { fw0 with role := 2, own := own, peer := peer, master := master, mine := nonce, gid := 0, gkey := (zv 16) })) (HBF.out _ _) ?_); simp only [Act.put, sbA, szA, ssA]) | ((with_reducible refine isSt 32 ?_); refine L_sa H rfl rfl 32 _ _ rfl 0 rfl rfl (partsF { fw0 with role := 2, own := own, peer := peer, master := master, mine := nonce, gid := 0, gkey := (zv 16) }) rfl rfl (by kernel_rfl) ?_; clear H; intro wz HWwz H; simp only [szA] at H))
    (exact ret_f2 H Try.results20 0 rfl rfl _ rfl Try.underlying32 rfl (by kernel_rfl) rfl (⟨by rw [HK.out]; rfl, H.out.1⟩))
  ·have HK := kp (HB.out (by simp [newB, r1, r2]))
   go_enter Try.func20, Try.ntmps20
   go_wp2_with (first | ((with_reducible show wpList _ _ _ (Oper.mk (some 7) (Op.box 23 _) _ _ _ _ :: _) _ _); (refine L_box H rfl 23 _ rfl (cat ([Lf.v own])) rfl ?_); clear H; intro g7 w7 HGg7 HEg7 H; simp only [Act.put, sbA, szA, ssA]) | ((with_reducible show wpList _ _ _ (Oper.mk (some 8) (Op.box 23 _) _ _ _ _ :: _) _ _); (refine L_box H rfl 23 _ rfl (cat ([Lf.v peer])) rfl ?_); clear H; intro g8 w8 HGg8 HEg8 H; simp only [Act.put, sbA, szA, ssA]) | ((with_reducible show wpList _ _ _ (Oper.mk (some 9) (Op.box 25 _) _ _ _ _ :: _) _ _); (refine L_box H rfl 25 _ rfl (cat ([Lf.v master])) rfl ?_); clear H; intro g9 w9 HGg9 HEg9 H; simp only [Act.put, sbA, szA, ssA]) | ((with_reducible show wpList _ _ _ (Oper.mk (some 10) (Op.box 26 _) _ _ _ _ :: _) _ _); (refine L_box H rfl 26 _ rfl (cat ([Lf.v nonce])) rfl ?_); clear H; intro g10 w10 HGg10 HEg10 H; simp only [Act.put, sbA, szA, ssA]) | ((with_reducible show wpList _ _ _ (Oper.mk (some 11) (Op.box 30 _) _ _ _ _ :: _) _ _); (refine L_box H rfl 30 _ rfl (cat (partsG gid gkey)) rfl ?_); clear H; intro g11 w11 HGg11 HEg11 H; simp only [Act.put, sbA, szA, ssA]) | ((with_reducible show wpList _ _ _ (Oper.mk (some 12) (Op.alloc 32) _ _ _ _ :: _) _ _); (refine L_alloc H rfl 32 rfl (cat (partsF fw0)) (fun _ _ => by kernel_rfl) ?_); clear H; intro g12 w12 HGg12 HEg12 H; simp only [Act.put, sbA, szA, ssA]) | ((with_reducible show wpList _ _ _ (Oper.mk _ (Op.build 32 _) _ _ _ _ :: _) _ _); (refine L_bd rfl 32 _ rfl #[] (by kernel_rfl) (cat (partsF fw0)) (fun _ => by kernel_rfl) ?_); simp only [Act.put, sbA, szA, ssA]) | ((with_reducible refine isSt 32 ?_); refine L_sa H rfl rfl 32 _ _ rfl 0 rfl rfl (partsF fw0) rfl rfl (by kernel_rfl) ?_; clear H; intro wz HWwz H; simp only [szA] at H))
   all_goals first | (exfalso; simp_all; done) | (exact ret_f2 H Try.results20 0 rfl rfl _ rfl Try.underlying32 rfl (by kernel_rfl) rfl (⟨by rw [HK.out]; rfl, H.out.1⟩))
end Go.Proofs.Ytibncchobkaaiaa
namespace Go.Proofs.Ytibncchobkaaiaa
open Go.RowKit
structure Pr where
 one : Vc 6
 two : Vc 6
 master : Vc 16
 otherK : Vc 16
 mine : Vc 16
 his : Vc 16
 gid : Int
 gkey : Vc 16
structure Ev where
 kind : Int
 to : Int
 which : Int
 pos : Int
 by_ : BitVec 8
 wait : Int
 counter : Int
 nonce : Vc 16
def badEv (o : Ev) : Bool := decide (o.wait < 0) || decide (1000000 < o.wait) || decide (o.which < 0) || decide (o.pos < 0) || decide (o.counter < 0) || decide (1099511627776 < o.counter)
def greatF (l : List Ev) : Bool := decide (60 < l.length) || l.any badEv
def altF (o : Ev) (b : By) : By := b.set (o.pos.toNat % b.length) (b.getD (o.pos.toNat % b.length) 0 ^^^ o.by_)
def msgF (o : Ev) (sent : List By) : Option By :=
 if o.kind = 3 then some (signedF (zv 16).1 1 o.counter o.nonce.1 []) else if o.kind ≠ 2 ∨ sent = [] then none else some (altF o (sent.getD (o.which.toNat % sent.length) []))
def stepF (o : Ev) (now : Int) (sent : List By) (s : Fw) : Res :=
 if o.kind = 0 then startF s now else match msgF o sent with | some b => handleF s b now | none => tickF s now
def badB (o : Ev) (sent : List By) : Bool := match msgF o sent with | some b => o.kind == 2 && o.by_ != 0 && !b.isEmpty && kindP b != 1 | none => false
def sideF (o : Ev) (s : Fw × Fw) : Fw := if o.to % 2 = 1 then s.2 else s.1
def putF (o : Ev) (s : Fw × Fw) (t : Fw) : Fw × Fw := if o.to % 2 = 1 then (s.1, t) else (t, s.2)
def nextF (o : Ev) (s : Fw × Fw) (r : Res) : Fw × Fw := if r.2.2 = 0 then putF o s r.1 else s
def sentF (sent : List By) (r : Res) : List By := if r.2.2 = 0 then sent ++ r.2.1 else sent
def runF : List Ev → Fw × Fw → List By → Int → List (Fw × Fw)
 | [], _, _, _ => []
 | o :: l, s, sent, now =>
  if (stepF o (now + o.wait) sent (sideF o s)).2.2 = 0 ∧ badB o sent = true then [] else
   nextF o s (stepF o (now + o.wait) sent (sideF o s)) :: runF l (nextF o s (stepF o (now + o.wait) sent (sideF o s))) (sentF sent (stepF o (now + o.wait) sent (sideF o s))) (now + o.wait)
def sidesF (p : Pr) : Fw × Fw := ((newF 1 p.one p.two p.master p.mine p.gid p.gkey).1, (newF 2 p.two p.one p.otherK p.his p.gid p.gkey).1)
def sidesB (p : Pr) : Bool := !newB 1 p.one p.two p.gid && !newB 2 p.two p.one p.gid
structure Pr.Ok (p : Pr) : Prop where
 ne : p.one ≠ p.two
 gid : p.gid = 2 ∨ p.gid = 3
theorem sidesB_ok {p : Pr} (h : sidesB p = true) : p.Ok := by
 unfold sidesB newB at h
 simp only [Bool.and_eq_true, Bool.not_eq_true', Bool.or_eq_false_iff, decide_eq_false_iff_not] at h
 refine ⟨h.1.1.2, ?_⟩
 have := h.1.2
 by_cases h2 : p.gid = 2
 ·exact .inl h2
 ·by_cases h3 : p.gid = 3
  ·exact .inr h3
  ·exfalso; simp [h2, h3] at this
theorem ok_sidesB {p : Pr} (h : p.Ok) : newB 1 p.one p.two p.gid = false ∧ newB 2 p.two p.one p.gid = false := by
 unfold newB
 have h1 := h.ne
 have h2 : ¬ p.two = p.one := fun e => h.ne (Eq.symm e)
 constructor
 ·rcases h.gid with h | h <;> simp [h1, h]
 ·simp [h2]
def stA0 (p : Pr) : Fw := { fw0 with role := 1, own := p.one, peer := p.two, master := p.master, mine := p.mine, gid := p.gid, gkey := p.gkey }
def stS0 (p : Pr) : Fw := { fw0 with role := 2, own := p.two, peer := p.one, master := p.otherK, mine := p.his }
theorem sidesF_eq {p : Pr} (h : p.Ok) : sidesF p = (stA0 p, stS0 p) := by
 unfold sidesF newF
 rw [(ok_sidesB h).1, (ok_sidesB h).2]
 rfl
theorem goodA0 {p : Pr} (h : p.Ok) : GoodA (stA0 p) := ⟨rfl, h.ne, rfl, h.gid, .inl ⟨rfl, rfl, rfl, rfl, rfl, rfl⟩⟩
theorem goodS0 {p : Pr} (h : p.Ok) : GoodS (stS0 p) := ⟨rfl, fun e => h.ne e.symm, rfl, rfl, rfl, .inl ⟨rfl, rfl, rfl, rfl, rfl, rfl⟩⟩
def Adj {α : Type} (R : α → α → Prop) : List α → Prop
 | x :: y :: l => R x y ∧ Adj R (y :: l)
 | _ => True
theorem Adj.at {α : Type} {R : α → α → Prop} : ∀ {l : List α} {i : Nat} {x y : α}, Adj R l → l[i]? = some x → l[i + 1]? = some y → R x y
 | [], _, _, _, _, h, _ => by simp at h
 | [a], i, _, _, _, _, h => by simp at h
 | a :: b :: l, 0, x, y, h, hx, hy => by
  simp only [List.getElem?_cons_zero, Option.some.injEq, List.getElem?_cons_succ, Nat.zero_add] at hx hy
  subst hx; subst hy; exact h.1
 | a :: b :: l, i + 1, x, y, h, hx, hy => Adj.at h.2 (by simpa using hx) (by simpa using hy)
structure OnceOk (a b : Fw) : Prop where
 check : checkB b = true
 up : a.inst ≤ b.inst
 le : b.inst ≤ 1
 done : a.inst = 1 → b.pair = a.pair ∧ b.gid = a.gid ∧ b.gkey = a.gkey ∧ b.other = a.other ∧ a.replay ≤ b.replay
theorem GoodA.step {s : Fw} {o : Ev} {now : Int} {sent : List By} (h : GoodA s) (he : (stepF o now sent s).2.2 = 0) : GoodA (stepF o now sent s).1 ∧ Kept s (stepF o now sent s).1 := by
 unfold stepF at he ⊢
 split at he
 ·rename_i q; rw [if_pos q]; exact h.startF he
 ·rename_i q
  rw [if_neg q]
  cases hm : msgF o sent with
  | none => rw [hm] at he; exact h.tickF he
  | some b => rw [hm] at he; exact h.handleF he
theorem GoodS.step {s : Fw} {o : Ev} {now : Int} {sent : List By} (h : GoodS s) (he : (stepF o now sent s).2.2 = 0) : GoodS (stepF o now sent s).1 ∧ Kept s (stepF o now sent s).1 := by
 unfold stepF at he ⊢
 split at he
 ·have := (startF_ok he).2.1
  have := h.role
  exfalso; omega
 ·rename_i q
  rw [if_neg q]
  cases hm : msgF o sent with
  | none =>
   rw [hm] at he
   have e := h.tickF (tickF_ok he).1
   show GoodS (Go.Proofs.Ytibncchobkaaiaa.tickF s now).1 ∧ Kept s (Go.Proofs.Ytibncchobkaaiaa.tickF s now).1
   rw [e]; exact ⟨h, Kept.refl s⟩
  | some b => rw [hm] at he; exact h.handleF he
def Pr.K (p : Pr) : Ks := pairF p.master p.one p.two p.mine p.his
def Sent (p : Pr) (b4 : Prop) (m : By) : Prop :=
 kindP m = 1 ∨ (kindP m = 2 ∧ nonceP m = p.his) ∨ (kindP m = 3 ∧ nonceP m = p.mine ∧ dataP m = wrapF p.K.w.1 3 (countP m) p.mine.1 p.gid p.gkey.1) ∨ (kindP m = 4 ∧ b4)
theorem Sent.mono {p : Pr} {P Q : Prop} {m : By} (h : Sent p P m) (i : P → Q) : Sent p Q m := by
 rcases h with h | h | h | ⟨h, q⟩
 ·exact .inl h
 ·exact .inr (.inl h)
 ·exact .inr (.inr (.inl h))
 ·exact .inr (.inr (.inr ⟨h, i q⟩))
structure InvH (p : Pr) (s : Fw × Fw) (sent : List By) : Prop where
 ga : GoodA s.1
 gs : GoodS s.2
 a : s.1.own = p.one ∧ s.1.peer = p.two ∧ s.1.master = p.master ∧ s.1.mine = p.mine ∧ s.1.gid = p.gid ∧ s.1.gkey = p.gkey
 b : s.2.own = p.two ∧ s.2.peer = p.one ∧ s.2.master = p.master ∧ s.2.mine = p.his
 a3 : s.1.stage = 3 ∨ s.1.stage = 4 → s.1.other = p.his
 b4 : s.2.stage = 4 → s.2.pair = p.K ∧ s.2.gid = p.gid ∧ s.2.gkey = p.gkey
 ab : s.1.stage = 4 → s.2.stage = 4
 ms : ∀ m ∈ sent, Sent p (s.2.stage = 4) m
theorem GoodA.pairK {s : Fw} (h : GoodA s) (h3 : s.stage = 3 ∨ s.stage = 4) : s.pair = keysF s s.other := by
 rcases h.st with c | c | c | c | c
 ·exfalso; have := c.1; omega
 ·exfalso; have := c.1; omega
 ·exact c.2.2.2.2.2.2.2
 ·exact c.2.2.2.2.2
 ·exfalso; have := c.1; omega
theorem InvH.pairA {p : Pr} {s : Fw × Fw} {sent : List By} (h : InvH p s sent) (h3 : s.1.stage = 3 ∨ s.1.stage = 4) : s.1.pair = p.K := by
 rw [h.ga.pairK h3, h.a3 h3]
 unfold keysF Pr.K
 obtain ⟨h1, h2, h3, h4, _⟩ := h.a
 rw [h1, h2, h3, h4]
theorem InvH.agree {p : Pr} {s : Fw × Fw} {sent : List By} (h : InvH p s sent) : s.1.inst = 1 → s.2.inst = 1 ∧ s.1.pair = s.2.pair ∧ s.1.gid = s.2.gid ∧ s.1.gkey = s.2.gkey := by
 have st : ∀ x : Fw, x.inst = oneI (x.stage == 4) → (x.inst = 1 ↔ x.stage = 4) := fun x hx => by
  rw [hx]; unfold oneI
  by_cases c : x.stage = 4
  ·simp [c]
  ·have : (x.stage == 4) = false := by simp [c]
   simp [this, c]
 intro q
 have h1 := (st s.1 h.ga.inst).1 q
 have h2 := h.ab h1
 obtain ⟨e2, e3, e4⟩ := h.b4 h2
 obtain ⟨_, _, _, _, g1, g2⟩ := h.a
 exact ⟨(st s.2 h.gs.inst).2 h2, by rw [h.pairA (.inr h1), e2], by rw [g1, e3], by rw [g2, e4]⟩
theorem sent_send {p : Pr} {s : Fw} {q : Prop} (h3 : s.stage = 3 → s.pair = p.K) (hm : s.mine = p.mine) (hg : s.gid = p.gid ∧ s.gkey = p.gkey) (hr : 0 ≤ s.replay) (hr2 : s.replay < 18446744073709551616) : Sent p q (sendF s) := by
 unfold sendF
 split
 ·rename_i c
  refine .inr (.inr (.inl ⟨kind_signed _ _ _ _ _ (by decide) (by decide), ?_, ?_⟩))
  ·rw [nonce_signed, hm]
  ·rw [data_signed _ _ _ _ _ s.mine.2, count_signed _ _ _ _ _ hr hr2, h3 c, hm, hg.1, hg.2]
 ·exact .inl (kind_signed _ _ _ _ _ (by decide) (by decide))
theorem mem_app {p : Pr} {q : Prop} {sent out : List By} (h : ∀ m ∈ sent, Sent p q m) (h2 : ∀ m ∈ out, Sent p q m) : ∀ m ∈ sent ++ out, Sent p q m := fun m hm => by
 rcases List.mem_append.1 hm with c | c
 ·exact h m c
 ·exact h2 m c
theorem GoodA.replay {s : Fw} (h : GoodA s) : 0 ≤ s.replay ∧ s.replay ≤ 8 := by
 rcases h.st with c | c | c | c | c <;> omega
def Mine (sent : List By) (b : By) : Prop := kindP b = 1 ∨ b ∈ sent
theorem InvH.auth {p : Pr} {s : Fw × Fw} {sent : List By} {now : Int} {r : Res} (h : InvH p s sent) (hr : r = startF s.1 now ∨ r = tickF s.1 now ∨ ∃ b, Mine sent b ∧ r = handleF s.1 b now) (he : r.2.2 = 0) : InvH p (r.1, s.2) (sent ++ r.2.1) := by
 have hg : GoodA r.1 ∧ Kept s.1 r.1 := by
  rcases hr with rfl | rfl | ⟨b, _, rfl⟩
  ·exact h.ga.startF he
  ·exact h.ga.tickF he
  ·exact h.ga.handleF he
 obtain ⟨a1, a2, a3, a4, a5, a6⟩ := h.a
 have hid : r.1.own = p.one ∧ r.1.peer = p.two ∧ r.1.master = p.master ∧ r.1.mine = p.mine := ⟨hg.2.own.trans a1, hg.2.peer.trans a2, hg.2.master.trans a3, hg.2.mine.trans a4⟩
 have hrp := hg.1.replay
 -- the group never changes; stage 3 or 4 has the peer's nonce; stage 4 only behind message 4; what is sent
 have key : (r.1.gid = p.gid ∧ r.1.gkey = p.gkey) ∧ (r.1.stage = 3 ∨ r.1.stage = 4 → r.1.other = p.his) ∧ (r.1.stage = 4 → s.2.stage = 4) ∧ (r.2.1 = [] ∨ r.2.1 = [sendF r.1]) := by
  rcases hr with rfl | rfl | ⟨b, hb, rfl⟩
  ·obtain ⟨_, _, _, e⟩ := startF_ok he
   rw [e]
   exact ⟨⟨a5, a6⟩, fun q => by rcases q with q | q <;> exact absurd (show (1:Int) = _ from q) (by decide), fun q => absurd (show (1:Int) = 4 from q) (by decide), .inr rfl⟩
  ·obtain ⟨_, ⟨_, e⟩ | ⟨_, _, e⟩ | ⟨_, _, e⟩⟩ := tickF_ok he <;> rw [e]
   ·exact ⟨⟨a5, a6⟩, h.a3, h.ab, .inl rfl⟩
   ·exact ⟨⟨a5, a6⟩, fun q => by rcases q with q | q <;> exact absurd (show (5:Int) = _ from q) (by decide), fun q => absurd (show (5:Int) = 4 from q) (by decide), .inl rfl⟩
   ·exact ⟨⟨a5, a6⟩, h.a3, h.ab, .inr rfl⟩
  ·obtain ⟨_, _, ⟨c1, c2, c3, c4, c5, e⟩ | ⟨c1, c2, c3, c4, c5, e⟩ | ⟨c1, _⟩ | ⟨c1, _⟩⟩ := handleF_ok he
   ·rw [e]
    have hn : nonceP b = p.his := by
     rcases hb with hb | hb
     ·exfalso; omega
     ·rcases h.ms b hb with d | d | d | d
      ·exfalso; omega
      ·exact d.2
      ·exfalso; have := d.1; omega
      ·exfalso; have := d.1; omega
    exact ⟨⟨a5, a6⟩, fun _ => hn, fun q => absurd (show (3:Int) = 4 from q) (by decide), .inr rfl⟩
   ·rw [e]
    have hn : s.2.stage = 4 := by
     rcases hb with hb | hb
     ·exfalso; omega
     ·rcases h.ms b hb with d | d | d | d
      ·exfalso; omega
      ·exfalso; have := d.1; omega
      ·exfalso; have := d.1; omega
      ·exact d.2
    exact ⟨⟨a5, a6⟩, fun _ => h.a3 (.inl c2), fun _ => hn, .inl rfl⟩
   ·exfalso; have := h.ga.role; omega
   ·exfalso; have := h.ga.role; omega
 obtain ⟨k1, k2, k3, k4⟩ := key
 refine ⟨hg.1, h.gs, ⟨hid.1, hid.2.1, hid.2.2.1, hid.2.2.2, k1.1, k1.2⟩, h.b, k2, h.b4, k3, mem_app h.ms ?_⟩
 rcases k4 with k4 | k4
 ·rw [k4]; intro m hm; cases hm
 ·rw [k4]
  intro m hm
  obtain rfl : m = sendF r.1 := by simpa using hm
  refine sent_send (fun c => ?_) hid.2.2.2 k1 hrp.1 (by omega)
  rw [hg.1.pairK (.inl c), k2 (.inl c)]
  unfold keysF Pr.K
  rw [hid.1, hid.2.1, hid.2.2.1, hid.2.2.2]
theorem InvH.keysB {p : Pr} {s : Fw × Fw} {sent : List By} (h : InvH p s sent) : keysF s.2 p.mine = p.K := by
 obtain ⟨b1, b2, b3, b4⟩ := h.b
 unfold keysF Pr.K
 rw [b1, b2, b3, b4, pairF_swap]
theorem InvH.sup {p : Pr} {s : Fw × Fw} {sent : List By} {now : Int} {r : Res} (hg2 : p.gid = 2 ∨ p.gid = 3) (h : InvH p s sent) (hr : r = startF s.2 now ∨ r = tickF s.2 now ∨ ∃ b, Mine sent b ∧ r = handleF s.2 b now) (he : r.2.2 = 0) : InvH p (s.1, r.1) (sent ++ r.2.1) := by
 obtain ⟨b1, b2, b3, b4⟩ := h.b
 rcases hr with rfl | rfl | ⟨b, hb, rfl⟩
 ·exfalso; have := (startF_ok he).2.1; have := h.gs.role; omega
 ·have e := h.gs.tickF (tickF_ok he).1
  rw [e]
  refine ⟨h.ga, h.gs, h.a, h.b, h.a3, h.b4, h.ab, mem_app h.ms (fun m hm => by cases hm)⟩
 ·have hg := h.gs.handleF he
  have hcp := countP_nn b
  obtain ⟨_, hpp, ⟨c1, _⟩ | ⟨c1, _⟩ | ⟨c1, c2, c3, e⟩ | ⟨c1, c2, c3, c4, c5, c6, g, hgo, e⟩⟩ := handleF_ok he
  ·exfalso; have := h.gs.role; omega
  ·exfalso; have := h.gs.role; omega
  ·have hst : (handleF s.2 b now).1.stage = 2 := by rw [e]; rfl
   have hout : (handleF s.2 b now).2.1 = [signedF (keysF s.2 (nonceP b)).c.1 2 (countP b) s.2.mine.1 []] := by rw [e]; rfl
   refine ⟨h.ga, hg.1, h.a, ⟨hg.2.own.trans b1, hg.2.peer.trans b2, hg.2.master.trans b3, hg.2.mine.trans b4⟩, h.a3, fun q => ?_, fun q => ?_, mem_app (fun m hm => (h.ms m hm).mono fun q => ?_) ?_⟩
   ·exfalso; have q : (handleF s.2 b now).1.stage = 4 := q; omega
   ·exfalso; have := h.ab q; omega
   ·exfalso; omega
   ·intro m hm
    rw [hout] at hm
    obtain rfl : m = _ := by simpa using hm
    exact .inr (.inl ⟨kind_signed _ _ _ _ _ (by decide) (by decide), by rw [nonce_signed, b4]⟩)
  ·have hm3 : nonceP b = p.mine ∧ dataP b = wrapF p.K.w.1 3 (countP b) p.mine.1 p.gid p.gkey.1 := by
    rcases hb with hb | hb
    ·exfalso; omega
    ·rcases h.ms b hb with d | d | d | d
     ·exfalso; omega
     ·exfalso; have := d.1; omega
     ·exact d.2
     ·exfalso; have := d.1; omega
   have hk : keysF s.2 (nonceP b) = p.K := by rw [hm3.1]; exact h.keysB
   have hgg : g = (p.gid, p.gkey) := by
    unfold openG at hgo
    rw [hk, c3, hm3.1, hm3.2, open_wrap _ _ _ _ _ _ hg2] at hgo
    exact (Option.some.inj hgo).symm
   have hst : (handleF s.2 b now).1.stage = 4 := by
    rw [e]; show (s.2.third b g).stage = 4
    unfold Fw.third; split
    ·assumption
    ·rfl
   have hout : (handleF s.2 b now).2.1 = [signedF (keysF s.2 (nonceP b)).c.1 4 (countP b) (zv 16).1 []] := by rw [e]
   have hk4 : (handleF s.2 b now).1.pair = p.K ∧ (handleF s.2 b now).1.gid = p.gid ∧ (handleF s.2 b now).1.gkey = p.gkey := by
    rw [e]; show (s.2.third b g).pair = p.K ∧ (s.2.third b g).gid = p.gid ∧ (s.2.third b g).gkey = p.gkey
    unfold Fw.third; split
    ·rename_i q; exact h.b4 q
    ·rw [hgg]; exact ⟨hk, rfl, rfl⟩
   refine ⟨h.ga, hg.1, h.a, ⟨hg.2.own.trans b1, hg.2.peer.trans b2, hg.2.master.trans b3, hg.2.mine.trans b4⟩, h.a3, fun _ => hk4, fun _ => hst, mem_app (fun m hm => (h.ms m hm).mono fun _ => hst) ?_⟩
   intro m hm
   rw [hout] at hm
   obtain rfl : m = _ := by simpa using hm
   exact .inr (.inr (.inr ⟨kind_signed _ _ _ _ _ (by decide) (by decide), hst⟩))
theorem alt_same {o : Ev} {b : By} (h : o.by_ = 0) : altF o b = b := by
 unfold altF
 rw [h, show ∀ x : BitVec 8, x ^^^ 0 = x from fun x => BitVec.xor_zero]
 by_cases c : o.pos.toNat % b.length < b.length
 ·rw [List.getD_eq_getElem?_getD, List.getElem?_eq_getElem c]
  exact List.set_getElem_self c
 ·exact List.set_eq_of_length_le (by omega)
theorem msg_mine {o : Ev} {sent : List By} {b : By} (h : msgF o sent = some b) (hb : badB o sent = false) (hp : parseE b = 0) : Mine sent b := by
 have hk := parse_facts hp
 have hne : b ≠ [] := by
  intro e; rw [e] at hp; exact absurd hp (by decide)
 unfold badB at hb
 rw [h] at hb
 unfold msgF at h
 by_cases q3 : o.kind = 3
 ·rw [if_pos q3] at h
  cases h
  exact .inl (kind_signed _ _ _ _ _ (by decide) (by decide))
 ·rw [if_neg q3] at h
  by_cases q2 : o.kind ≠ 2 ∨ sent = []
  ·rw [if_pos q2] at h; cases h
  ·rw [if_neg q2] at h
   have h := Option.some.inj h
   have hk2 : o.kind = 2 := by
    by_cases c : o.kind = 2
    ·exact c
    ·exact absurd (.inl c) q2
   have hs : sent ≠ [] := fun e => q2 (.inr e)
   by_cases hz : o.by_ = 0
   ·rw [alt_same hz] at h
    have hlt : o.which.toNat % sent.length < sent.length := Nat.mod_lt _ (List.length_pos_iff.2 hs)
    rw [List.getD_eq_getElem?_getD, List.getElem?_eq_getElem hlt] at h
    exact .inr (by rw [← h]; exact List.getElem_mem hlt)
   ·left
    have e1 : (o.kind == 2) = true := by simp [hk2]
    have e2 : (o.by_ != 0) = true := by simpa using hz
    have e3 : (!b.isEmpty) = true := by cases b with | nil => exact absurd rfl hne | cons _ _ => rfl
    simp only [e1, e2, e3, Bool.true_and, Bool.and_true] at hb
    simpa using hb
theorem run_agree {p : Pr} (hg2 : p.gid = 2 ∨ p.gid = 3) : ∀ (l : List Ev) (s : Fw × Fw) (sent : List By) (now : Int), InvH p s sent → ∀ x ∈ s :: runF l s sent now, x.1.inst = 1 → x.2.inst = 1 ∧ x.1.pair = x.2.pair ∧ x.1.gid = x.2.gid ∧ x.1.gkey = x.2.gkey
 | [], s, _, _, h, x, hx => by
  obtain rfl : x = s := by simpa [runF] using hx
  exact h.agree
 | o :: l, s, sent, now, h, x, hx => by
  rcases List.mem_cons.1 hx with rfl | hx
  ·exact h.agree
  unfold runF at hx
  split at hx
  ·cases hx
  rename_i hnb
  refine run_agree hg2 l _ _ _ ?_ x hx
  unfold nextF sentF
  by_cases he : (stepF o (now + o.wait) sent (sideF o s)).2.2 = 0
  ·rw [if_pos he, if_pos he]
   have hb : badB o sent = false := by
    cases c : badB o sent with
    | false => rfl
    | true => exact absurd ⟨he, c⟩ hnb
   have hr : ∀ t, (stepF o (now + o.wait) sent t).2.2 = 0 → stepF o (now + o.wait) sent t = startF t (now + o.wait) ∨ stepF o (now + o.wait) sent t = tickF t (now + o.wait) ∨ ∃ b, Mine sent b ∧ stepF o (now + o.wait) sent t = handleF t b (now + o.wait) := fun t ht => by
    unfold stepF at ht ⊢
    split
    ·exact .inl rfl
    ·rename_i q
     rw [if_neg q] at ht
     cases hm : msgF o sent with
     | none => exact .inr (.inl rfl)
     | some b =>
      rw [hm] at ht
      exact .inr (.inr ⟨b, msg_mine hm hb (handleF_ok ht).2.1, rfl⟩)
   unfold putF
   unfold sideF at he ⊢
   by_cases c : o.to % 2 = 1
   ·rw [if_pos c] at he
    rw [if_pos c, if_pos c]
    exact h.sup hg2 (hr _ he) he
   ·rw [if_neg c] at he
    rw [if_neg c, if_neg c]
    exact h.auth (hr _ he) he
  ·rw [if_neg he, if_neg he]; exact h
theorem invH_start {p : Pr} (h : p.Ok) (hm : p.otherK = p.master) : InvH p (stA0 p, stS0 p) [] := by
 refine ⟨goodA0 h, goodS0 h, ⟨rfl, rfl, rfl, rfl, rfl, rfl⟩, ⟨rfl, rfl, hm, rfl⟩, fun q => ?_, fun q => ?_, fun q => ?_, fun m hm => by cases hm⟩
 ·rcases q with q | q <;> exact absurd (show (0:Int) = _ from q) (by decide)
 ·exact absurd (show (0:Int) = _ from q) (by decide)
 ·exact absurd (show (0:Int) = _ from q) (by decide)
end Go.Proofs.Ytibncchobkaaiaa
