/- Texts of this proof, put together: NewF, HsB. -/
import Derived.Test.YtibncchobkaaiaaC17
import Derived.Test.YtibncchobkaaiaaC11
import Derived.Test.YtibncchobkaaiaaC20
import Derived.Test.YtibncchobkaaiaaC1
namespace Go.Proofs.Ytibncchobkaaiaa
open Go.RowKit
theorem new_bad {role : Int} {own peer : Vc 6} {master nonce : Vc 16} {gid : Int} {gkey : Vc 16} (h : newB role own peer gid = true) : newF role own peer master nonce gid gkey = (fw0, 2) := by unfold newF; rw [if_pos h]
theorem new_ok {role : Int} {own peer : Vc 6} {master nonce : Vc 16} {gid : Int} {gkey : Vc 16} (h : newB role own peer gid = false) : newF role own peer master nonce gid gkey = ({ fw0 with role := role, own := own, peer := peer, master := master, mine := nonce, gid := if role = 2 then 0 else gid, gkey := if role = 2 then zv 16 else gkey }, 0) := by unfold newF; rw [if_neg (by rw [h]; decide)]
def NewR (r : Fw × Int) (w : World) (e : Ending) (w' : World) : Prop := e = .returned (.tuple #[.agg (cat (partsF r.1)).toArray, .int .i64 r.2]) ∧ Ext w w'
set_option maxRecDepth 4000 in
set_option maxHeartbeats 1600000 in
theorem new_any (role : Int) (own peer : Vc 6) (master nonce : Vc 16) (gid : Int) (gkey : Vc 16) (w : World) : Calls Try.prog 20 #[.int .u8 role, .agg (own.1.map V8).toArray, .agg (peer.1.map V8).toArray, .agg (master.1.map V8).toArray, .agg (nonce.1.map V8).toArray, .agg (cat (partsG gid gkey)).toArray] w (NewR (newF role own peer master nonce gid gkey) w) := by
 have H := kp (Loc.start w)
 have HB := kp (fun h => new_bad (role := role) (own := own) (peer := peer) (master := master) (nonce := nonce) (gid := gid) (gkey := gkey) h)
 have HO := kp (fun h => new_ok (role := role) (own := own) (peer := peer) (master := master) (nonce := nonce) (gid := gid) (gkey := gkey) h)
 generalize newF role own peer master nonce gid gkey = r at *
 have HBF := kp (build_Fw role own peer master nonce)
 by_cases r1 : role = 1
 ·subst r1
  cases hq : decide (own = peer) with
  | true =>
   have HQ := kp hq
   have HK := kp (HB.out (by simp [newB, hq]))
   clear hq
   go_enter Try.func20, Try.ntmps20
   go_wp2_with (first | ((with_reducible show wpList _ _ _ (Oper.mk (some 7) (Op.box 23 _) _ _ _ _ :: _) _ _); (refine L_box H rfl 23 _ rfl (cat ([Lf.v own])) rfl ?_); clear H; intro g7 w7 HGg7 HEg7 H; simp only [Act.put, sbA, szA, ssA]) | ((with_reducible show wpList _ _ _ (Oper.mk (some 8) (Op.box 23 _) _ _ _ _ :: _) _ _); (refine L_box H rfl 23 _ rfl (cat ([Lf.v peer])) rfl ?_); clear H; intro g8 w8 HGg8 HEg8 H; simp only [Act.put, sbA, szA, ssA]) | ((with_reducible show wpList _ _ _ (Oper.mk (some 9) (Op.box 25 _) _ _ _ _ :: _) _ _); (refine L_box H rfl 25 _ rfl (cat ([Lf.v master])) rfl ?_); clear H; intro g9 w9 HGg9 HEg9 H; simp only [Act.put, sbA, szA, ssA]) | ((with_reducible show wpList _ _ _ (Oper.mk (some 10) (Op.box 26 _) _ _ _ _ :: _) _ _); (refine L_box H rfl 26 _ rfl (cat ([Lf.v nonce])) rfl ?_); clear H; intro g10 w10 HGg10 HEg10 H; simp only [Act.put, sbA, szA, ssA]) | ((with_reducible show wpList _ _ _ (Oper.mk (some 11) (Op.box 30 _) _ _ _ _ :: _) _ _); (refine L_box H rfl 30 _ rfl (cat (partsG gid gkey)) rfl ?_); clear H; intro g11 w11 HGg11 HEg11 H; simp only [Act.put, sbA, szA, ssA]) | ((with_reducible show wpList _ _ _ (Oper.mk (some 12) (Op.alloc 32) _ _ _ _ :: _) _ _); (refine L_alloc H rfl 32 rfl (cat (partsF fw0)) (fun _ _ => by kernel_rfl) ?_); clear H; intro g12 w12 HGg12 HEg12 H; simp only [Act.put, sbA, szA, ssA]) | ((with_reducible show wpList _ _ _ (Oper.mk _ (Op.build 32 _) _ _ _ _ :: _) _ _); (refine L_bd rfl 32 _ rfl #[] (by kernel_rfl) (cat (partsF fw0)) (fun _ => by kernel_rfl) ?_); simp only [Act.put, sbA, szA, ssA]) | ((with_reducible refine isSt 32 ?_); refine L_sa H rfl rfl 32 _ _ rfl 0 rfl rfl (partsF fw0) rfl rfl (by kernel_rfl) ?_; clear H; intro wz HWwz H; simp only [szA] at H) | ((with_reducible refine isLd 23 ?_); (first | (refine L_fv H rfl 23 _ rfl 4 rfl _ rfl _ rfl rfl Try.underlying23 rfl (by kernel_rfl) ?_) | (refine L_fv H rfl 23 _ rfl 5 rfl _ rfl _ rfl rfl Try.underlying23 rfl (by kernel_rfl) ?_)); simp only [Act.put, sbA, szA, ssA]) | (((with_reducible show wpList _ _ _ (Oper.mk _ (Op.binOp _ 23 _ _ _) _ _ _ _ :: _) _ _); (refine wpList_eq2 rfl 23 _ _ _ rfl _ _ _ rfl rfl Try.eqGuardType23 (eqV_in _ Try.underlying23 _ _ 9998) ?_); simp only [Act.put, sbA, szA, ssA]); simp only [HQ.out]))
   (exact ret_f2 H Try.results20 0 rfl rfl _ rfl Try.underlying32 rfl (by kernel_rfl) rfl (⟨by rw [HK.out]; rfl, H.out.1⟩))
  | false =>
   have HQ := kp hq
   have HNQ := kp (show newB 1 own peer gid = (gid != 2 && gid != 3) by simp [newB, hq])
   clear hq
   cases h2 : (gid != 2) with
   | false =>
    have HG2 := kp h2
    have HK := kp (HO.out (by rw [HNQ.out, h2]; rfl))
    clear h2
    skip
    go_enter Try.func20, Try.ntmps20
    generalize h5 : (Code.region 5 _ _ : Code) = R5
    go_wp2_with (first | ((with_reducible show wpList _ _ _ (Oper.mk (some 7) (Op.box 23 _) _ _ _ _ :: _) _ _); (refine L_box H rfl 23 _ rfl (cat ([Lf.v own])) rfl ?_); clear H; intro g7 w7 HGg7 HEg7 H; simp only [Act.put, sbA, szA, ssA]) | ((with_reducible show wpList _ _ _ (Oper.mk (some 8) (Op.box 23 _) _ _ _ _ :: _) _ _); (refine L_box H rfl 23 _ rfl (cat ([Lf.v peer])) rfl ?_); clear H; intro g8 w8 HGg8 HEg8 H; simp only [Act.put, sbA, szA, ssA]) | ((with_reducible show wpList _ _ _ (Oper.mk (some 9) (Op.box 25 _) _ _ _ _ :: _) _ _); (refine L_box H rfl 25 _ rfl (cat ([Lf.v master])) rfl ?_); clear H; intro g9 w9 HGg9 HEg9 H; simp only [Act.put, sbA, szA, ssA]) | ((with_reducible show wpList _ _ _ (Oper.mk (some 10) (Op.box 26 _) _ _ _ _ :: _) _ _); (refine L_box H rfl 26 _ rfl (cat ([Lf.v nonce])) rfl ?_); clear H; intro g10 w10 HGg10 HEg10 H; simp only [Act.put, sbA, szA, ssA]) | ((with_reducible show wpList _ _ _ (Oper.mk (some 11) (Op.box 30 _) _ _ _ _ :: _) _ _); (refine L_box H rfl 30 _ rfl (cat (partsG gid gkey)) rfl ?_); clear H; intro g11 w11 HGg11 HEg11 H; simp only [Act.put, sbA, szA, ssA]) | ((with_reducible show wpList _ _ _ (Oper.mk (some 12) (Op.alloc 32) _ _ _ _ :: _) _ _); (refine L_alloc H rfl 32 rfl (cat (partsF fw0)) (fun _ _ => by kernel_rfl) ?_); clear H; intro g12 w12 HGg12 HEg12 H; simp only [Act.put, sbA, szA, ssA]) | ((with_reducible refine isLd 23 ?_); (first | (refine L_fv H rfl 23 _ rfl 4 rfl _ rfl _ rfl rfl Try.underlying23 rfl (by kernel_rfl) ?_) | (refine L_fv H rfl 23 _ rfl 5 rfl _ rfl _ rfl rfl Try.underlying23 rfl (by kernel_rfl) ?_)); simp only [Act.put, sbA, szA, ssA]) | (((with_reducible show wpList _ _ _ (Oper.mk _ (Op.binOp _ 23 _ _ _) _ _ _ _ :: _) _ _); (refine wpList_eq2 rfl 23 _ _ _ rfl _ _ _ rfl rfl Try.eqGuardType23 (eqV_in _ Try.underlying23 _ _ 9998) ?_); simp only [Act.put, sbA, szA, ssA]); simp only [HQ.out]) | ((with_reducible refine isLd 3 ?_); (refine L_f1 H rfl 3 _ rfl 1 rfl _ rfl _ rfl _ rfl Try.underlying3 rfl ?_); simp only [Act.put, sbA, szA, ssA]) | ((with_reducible show wpList _ _ _ (Oper.mk (some 31) _ _ _ _ _ :: _) _ _); refine wpList_bin (by kernel_rfl) .neq 3 3 _ _ rfl (.int .i64 gid) (.int .i64 2) (.bool (gid != 2)) rfl rfl (by kernel_rfl) (by kernel_rfl) ?_; simp only [Act.put, sbA, szA, ssA]; simp only [HG2.out]))
    subst h5
    go_wp2_with (first | ((with_reducible refine isLd 23 ?_); (first | (refine L_fv H rfl 23 _ rfl 4 rfl _ rfl _ rfl rfl Try.underlying23 rfl (by kernel_rfl) ?_) | (refine L_fv H rfl 23 _ rfl 5 rfl _ rfl _ rfl rfl Try.underlying23 rfl (by kernel_rfl) ?_)); simp only [Act.put, sbA, szA, ssA]) | ((with_reducible refine isLd 25 ?_); (refine L_fv H rfl 25 _ rfl 3 rfl _ rfl _ rfl rfl Try.underlying25 rfl (by kernel_rfl) ?_); simp only [Act.put, sbA, szA, ssA]) | ((with_reducible refine isLd 26 ?_); (refine L_fv H rfl 26 _ rfl 2 rfl _ rfl _ rfl rfl Try.underlying26 rfl (by kernel_rfl) ?_); simp only [Act.put, sbA, szA, ssA]) | ((with_reducible refine isLd 30 ?_); (refine L_fg H rfl 30 _ rfl 1 rfl _ rfl _ rfl (partsG (gid) (gkey)) rfl Try.underlying30 rfl (by kernel_rfl) ?_); simp only [Act.put, sbA, szA, ssA]) | ((with_reducible show wpList _ _ _ (Oper.mk (some 49) (Op.build _ _) _ _ _ _ :: _) _ _); (refine L_bd rfl 32 _ rfl #[(0, .int .u8 1), (2, .agg (own.1.map V8).toArray), (3, .agg (peer.1.map V8).toArray), (4, .agg (master.1.map V8).toArray), (5, .agg (nonce.1.map V8).toArray), (11, .agg (cat (partsG (gid) (gkey))).toArray)] (by kernel_rfl) (cat (partsF { fw0 with role := 1, own := own, peer := peer, master := master, mine := nonce, gid := gid, gkey := gkey })) (HBF.out _ _) ?_); simp only [Act.put, sbA, szA, ssA]) | ((with_reducible refine isSt 32 ?_); refine L_sa H rfl rfl 32 _ _ rfl 0 rfl rfl (partsF { fw0 with role := 1, own := own, peer := peer, master := master, mine := nonce, gid := gid, gkey := gkey }) rfl rfl (by kernel_rfl) ?_; clear H; intro wz HWwz H; simp only [szA] at H))
    (exact ret_f2 H Try.results20 0 rfl rfl _ rfl Try.underlying32 rfl (by kernel_rfl) rfl (⟨by rw [HK.out]; rfl, H.out.1⟩))
   | true =>
    have HG2 := kp h2
    cases h3 : (gid != 3) with
    | false =>
     have HG3 := kp h3
     have HK := kp (HO.out (by rw [HNQ.out, h2, h3]; rfl))
     clear h2 h3
     skip
     go_enter Try.func20, Try.ntmps20
     generalize h5 : (Code.region 5 _ _ : Code) = R5
     go_wp2_with (first | ((with_reducible show wpList _ _ _ (Oper.mk (some 7) (Op.box 23 _) _ _ _ _ :: _) _ _); (refine L_box H rfl 23 _ rfl (cat ([Lf.v own])) rfl ?_); clear H; intro g7 w7 HGg7 HEg7 H; simp only [Act.put, sbA, szA, ssA]) | ((with_reducible show wpList _ _ _ (Oper.mk (some 8) (Op.box 23 _) _ _ _ _ :: _) _ _); (refine L_box H rfl 23 _ rfl (cat ([Lf.v peer])) rfl ?_); clear H; intro g8 w8 HGg8 HEg8 H; simp only [Act.put, sbA, szA, ssA]) | ((with_reducible show wpList _ _ _ (Oper.mk (some 9) (Op.box 25 _) _ _ _ _ :: _) _ _); (refine L_box H rfl 25 _ rfl (cat ([Lf.v master])) rfl ?_); clear H; intro g9 w9 HGg9 HEg9 H; simp only [Act.put, sbA, szA, ssA]) | ((with_reducible show wpList _ _ _ (Oper.mk (some 10) (Op.box 26 _) _ _ _ _ :: _) _ _); (refine L_box H rfl 26 _ rfl (cat ([Lf.v nonce])) rfl ?_); clear H; intro g10 w10 HGg10 HEg10 H; simp only [Act.put, sbA, szA, ssA]) | ((with_reducible show wpList _ _ _ (Oper.mk (some 11) (Op.box 30 _) _ _ _ _ :: _) _ _); (refine L_box H rfl 30 _ rfl (cat (partsG gid gkey)) rfl ?_); clear H; intro g11 w11 HGg11 HEg11 H; simp only [Act.put, sbA, szA, ssA]) | ((with_reducible show wpList _ _ _ (Oper.mk (some 12) (Op.alloc 32) _ _ _ _ :: _) _ _); (refine L_alloc H rfl 32 rfl (cat (partsF fw0)) (fun _ _ => by kernel_rfl) ?_); clear H; intro g12 w12 HGg12 HEg12 H; simp only [Act.put, sbA, szA, ssA]) | ((with_reducible refine isLd 23 ?_); (first | (refine L_fv H rfl 23 _ rfl 4 rfl _ rfl _ rfl rfl Try.underlying23 rfl (by kernel_rfl) ?_) | (refine L_fv H rfl 23 _ rfl 5 rfl _ rfl _ rfl rfl Try.underlying23 rfl (by kernel_rfl) ?_)); simp only [Act.put, sbA, szA, ssA]) | (((with_reducible show wpList _ _ _ (Oper.mk _ (Op.binOp _ 23 _ _ _) _ _ _ _ :: _) _ _); (refine wpList_eq2 rfl 23 _ _ _ rfl _ _ _ rfl rfl Try.eqGuardType23 (eqV_in _ Try.underlying23 _ _ 9998) ?_); simp only [Act.put, sbA, szA, ssA]); simp only [HQ.out]) | ((with_reducible refine isLd 3 ?_); (refine L_f1 H rfl 3 _ rfl 1 rfl _ rfl _ rfl _ rfl Try.underlying3 rfl ?_); simp only [Act.put, sbA, szA, ssA]) | ((with_reducible show wpList _ _ _ (Oper.mk (some 31) _ _ _ _ _ :: _) _ _); refine wpList_bin (by kernel_rfl) .neq 3 3 _ _ rfl (.int .i64 gid) (.int .i64 2) (.bool (gid != 2)) rfl rfl (by kernel_rfl) (by kernel_rfl) ?_; simp only [Act.put, sbA, szA, ssA]; simp only [HG2.out]) | ((with_reducible show wpList _ _ _ (Oper.mk (some 36) _ _ _ _ _ :: _) _ _); refine wpList_bin (by kernel_rfl) .neq 3 3 _ _ rfl (.int .i64 gid) (.int .i64 3) (.bool (gid != 3)) rfl rfl (by kernel_rfl) (by kernel_rfl) ?_; simp only [Act.put, sbA, szA, ssA]; simp only [HG3.out]))
     subst h5
     go_wp2_with (first | ((with_reducible refine isLd 23 ?_); (first | (refine L_fv H rfl 23 _ rfl 4 rfl _ rfl _ rfl rfl Try.underlying23 rfl (by kernel_rfl) ?_) | (refine L_fv H rfl 23 _ rfl 5 rfl _ rfl _ rfl rfl Try.underlying23 rfl (by kernel_rfl) ?_)); simp only [Act.put, sbA, szA, ssA]) | ((with_reducible refine isLd 25 ?_); (refine L_fv H rfl 25 _ rfl 3 rfl _ rfl _ rfl rfl Try.underlying25 rfl (by kernel_rfl) ?_); simp only [Act.put, sbA, szA, ssA]) | ((with_reducible refine isLd 26 ?_); (refine L_fv H rfl 26 _ rfl 2 rfl _ rfl _ rfl rfl Try.underlying26 rfl (by kernel_rfl) ?_); simp only [Act.put, sbA, szA, ssA]) | ((with_reducible refine isLd 30 ?_); (refine L_fg H rfl 30 _ rfl 1 rfl _ rfl _ rfl (partsG (gid) (gkey)) rfl Try.underlying30 rfl (by kernel_rfl) ?_); simp only [Act.put, sbA, szA, ssA]) | ((with_reducible show wpList _ _ _ (Oper.mk (some 49) (Op.build _ _) _ _ _ _ :: _) _ _); (refine L_bd rfl 32 _ rfl #[(0, .int .u8 1), (2, .agg (own.1.map V8).toArray), (3, .agg (peer.1.map V8).toArray), (4, .agg (master.1.map V8).toArray), (5, .agg (nonce.1.map V8).toArray), (11, .agg (cat (partsG (gid) (gkey))).toArray)] (by kernel_rfl) (cat (partsF { fw0 with role := 1, own := own, peer := peer, master := master, mine := nonce, gid := gid, gkey := gkey })) (HBF.out _ _) ?_); simp only [Act.put, sbA, szA, ssA]) | ((with_reducible refine isSt 32 ?_); refine L_sa H rfl rfl 32 _ _ rfl 0 rfl rfl (partsF { fw0 with role := 1, own := own, peer := peer, master := master, mine := nonce, gid := gid, gkey := gkey }) rfl rfl (by kernel_rfl) ?_; clear H; intro wz HWwz H; simp only [szA] at H))
     (exact ret_f2 H Try.results20 0 rfl rfl _ rfl Try.underlying32 rfl (by kernel_rfl) rfl (⟨by rw [HK.out]; rfl, H.out.1⟩))
    | true =>
     have HG3 := kp h3
     have HK := kp (HB.out (by rw [HNQ.out, h2, h3]; rfl))
     clear h2 h3
     skip
     go_enter Try.func20, Try.ntmps20
     generalize h5 : (Code.region 5 _ _ : Code) = R5
     go_wp2_with (first | ((with_reducible show wpList _ _ _ (Oper.mk (some 7) (Op.box 23 _) _ _ _ _ :: _) _ _); (refine L_box H rfl 23 _ rfl (cat ([Lf.v own])) rfl ?_); clear H; intro g7 w7 HGg7 HEg7 H; simp only [Act.put, sbA, szA, ssA]) | ((with_reducible show wpList _ _ _ (Oper.mk (some 8) (Op.box 23 _) _ _ _ _ :: _) _ _); (refine L_box H rfl 23 _ rfl (cat ([Lf.v peer])) rfl ?_); clear H; intro g8 w8 HGg8 HEg8 H; simp only [Act.put, sbA, szA, ssA]) | ((with_reducible show wpList _ _ _ (Oper.mk (some 9) (Op.box 25 _) _ _ _ _ :: _) _ _); (refine L_box H rfl 25 _ rfl (cat ([Lf.v master])) rfl ?_); clear H; intro g9 w9 HGg9 HEg9 H; simp only [Act.put, sbA, szA, ssA]) | ((with_reducible show wpList _ _ _ (Oper.mk (some 10) (Op.box 26 _) _ _ _ _ :: _) _ _); (refine L_box H rfl 26 _ rfl (cat ([Lf.v nonce])) rfl ?_); clear H; intro g10 w10 HGg10 HEg10 H; simp only [Act.put, sbA, szA, ssA]) | ((with_reducible show wpList _ _ _ (Oper.mk (some 11) (Op.box 30 _) _ _ _ _ :: _) _ _); (refine L_box H rfl 30 _ rfl (cat (partsG gid gkey)) rfl ?_); clear H; intro g11 w11 HGg11 HEg11 H; simp only [Act.put, sbA, szA, ssA]) | ((with_reducible show wpList _ _ _ (Oper.mk (some 12) (Op.alloc 32) _ _ _ _ :: _) _ _); (refine L_alloc H rfl 32 rfl (cat (partsF fw0)) (fun _ _ => by kernel_rfl) ?_); clear H; intro g12 w12 HGg12 HEg12 H; simp only [Act.put, sbA, szA, ssA]) | ((with_reducible show wpList _ _ _ (Oper.mk _ (Op.build 32 _) _ _ _ _ :: _) _ _); (refine L_bd rfl 32 _ rfl #[] (by kernel_rfl) (cat (partsF fw0)) (fun _ => by kernel_rfl) ?_); simp only [Act.put, sbA, szA, ssA]) | ((with_reducible refine isSt 32 ?_); refine L_sa H rfl rfl 32 _ _ rfl 0 rfl rfl (partsF fw0) rfl rfl (by kernel_rfl) ?_; clear H; intro wz HWwz H; simp only [szA] at H) | ((with_reducible refine isLd 23 ?_); (first | (refine L_fv H rfl 23 _ rfl 4 rfl _ rfl _ rfl rfl Try.underlying23 rfl (by kernel_rfl) ?_) | (refine L_fv H rfl 23 _ rfl 5 rfl _ rfl _ rfl rfl Try.underlying23 rfl (by kernel_rfl) ?_)); simp only [Act.put, sbA, szA, ssA]) | (((with_reducible show wpList _ _ _ (Oper.mk _ (Op.binOp _ 23 _ _ _) _ _ _ _ :: _) _ _); (refine wpList_eq2 rfl 23 _ _ _ rfl _ _ _ rfl rfl Try.eqGuardType23 (eqV_in _ Try.underlying23 _ _ 9998) ?_); simp only [Act.put, sbA, szA, ssA]); simp only [HQ.out]) | ((with_reducible refine isLd 3 ?_); (refine L_f1 H rfl 3 _ rfl 1 rfl _ rfl _ rfl _ rfl Try.underlying3 rfl ?_); simp only [Act.put, sbA, szA, ssA]) | ((with_reducible show wpList _ _ _ (Oper.mk (some 31) _ _ _ _ _ :: _) _ _); refine wpList_bin (by kernel_rfl) .neq 3 3 _ _ rfl (.int .i64 gid) (.int .i64 2) (.bool (gid != 2)) rfl rfl (by kernel_rfl) (by kernel_rfl) ?_; simp only [Act.put, sbA, szA, ssA]; simp only [HG2.out]) | ((with_reducible show wpList _ _ _ (Oper.mk (some 36) _ _ _ _ _ :: _) _ _); refine wpList_bin (by kernel_rfl) .neq 3 3 _ _ rfl (.int .i64 gid) (.int .i64 3) (.bool (gid != 3)) rfl rfl (by kernel_rfl) (by kernel_rfl) ?_; simp only [Act.put, sbA, szA, ssA]; simp only [HG3.out]))
     (exact ret_f2 H Try.results20 0 rfl rfl _ rfl Try.underlying32 rfl (by kernel_rfl) rfl (⟨by rw [HK.out]; rfl, H.out.1⟩))
 ·by_cases r2 : role = 2
  ·subst r2
   clear r1
   cases hq : decide (own = peer) with
   | true =>
    have HQ := kp hq
    have HK := kp (HB.out (by simp [newB, hq]))
    clear hq
    go_enter Try.func20, Try.ntmps20
    go_wp2_with (first | ((with_reducible show wpList _ _ _ (Oper.mk (some 7) (Op.box 23 _) _ _ _ _ :: _) _ _); (refine L_box H rfl 23 _ rfl (cat ([Lf.v own])) rfl ?_); clear H; intro g7 w7 HGg7 HEg7 H; simp only [Act.put, sbA, szA, ssA]) | ((with_reducible show wpList _ _ _ (Oper.mk (some 8) (Op.box 23 _) _ _ _ _ :: _) _ _); (refine L_box H rfl 23 _ rfl (cat ([Lf.v peer])) rfl ?_); clear H; intro g8 w8 HGg8 HEg8 H; simp only [Act.put, sbA, szA, ssA]) | ((with_reducible show wpList _ _ _ (Oper.mk (some 9) (Op.box 25 _) _ _ _ _ :: _) _ _); (refine L_box H rfl 25 _ rfl (cat ([Lf.v master])) rfl ?_); clear H; intro g9 w9 HGg9 HEg9 H; simp only [Act.put, sbA, szA, ssA]) | ((with_reducible show wpList _ _ _ (Oper.mk (some 10) (Op.box 26 _) _ _ _ _ :: _) _ _); (refine L_box H rfl 26 _ rfl (cat ([Lf.v nonce])) rfl ?_); clear H; intro g10 w10 HGg10 HEg10 H; simp only [Act.put, sbA, szA, ssA]) | ((with_reducible show wpList _ _ _ (Oper.mk (some 11) (Op.box 30 _) _ _ _ _ :: _) _ _); (refine L_box H rfl 30 _ rfl (cat (partsG gid gkey)) rfl ?_); clear H; intro g11 w11 HGg11 HEg11 H; simp only [Act.put, sbA, szA, ssA]) | ((with_reducible show wpList _ _ _ (Oper.mk (some 12) (Op.alloc 32) _ _ _ _ :: _) _ _); (refine L_alloc H rfl 32 rfl (cat (partsF fw0)) (fun _ _ => by kernel_rfl) ?_); clear H; intro g12 w12 HGg12 HEg12 H; simp only [Act.put, sbA, szA, ssA]) | ((with_reducible show wpList _ _ _ (Oper.mk _ (Op.build 32 _) _ _ _ _ :: _) _ _); (refine L_bd rfl 32 _ rfl #[] (by kernel_rfl) (cat (partsF fw0)) (fun _ => by kernel_rfl) ?_); simp only [Act.put, sbA, szA, ssA]) | ((with_reducible refine isSt 32 ?_); refine L_sa H rfl rfl 32 _ _ rfl 0 rfl rfl (partsF fw0) rfl rfl (by kernel_rfl) ?_; clear H; intro wz HWwz H; simp only [szA] at H) | ((with_reducible refine isLd 23 ?_); (first | (refine L_fv H rfl 23 _ rfl 4 rfl _ rfl _ rfl rfl Try.underlying23 rfl (by kernel_rfl) ?_) | (refine L_fv H rfl 23 _ rfl 5 rfl _ rfl _ rfl rfl Try.underlying23 rfl (by kernel_rfl) ?_)); simp only [Act.put, sbA, szA, ssA]) | (((with_reducible show wpList _ _ _ (Oper.mk _ (Op.binOp _ 23 _ _ _) _ _ _ _ :: _) _ _); (refine wpList_eq2 rfl 23 _ _ _ rfl _ _ _ rfl rfl Try.eqGuardType23 (eqV_in _ Try.underlying23 _ _ 9998) ?_); simp only [Act.put, sbA, szA, ssA]); simp only [HQ.out]))
    (exact ret_f2 H Try.results20 0 rfl rfl _ rfl Try.underlying32 rfl (by kernel_rfl) rfl (⟨by rw [HK.out]; rfl, H.out.1⟩))
   | false =>
    have HQ := kp hq
    have HK := kp (HO.out (by simp [newB, hq]))
    clear hq
    skip
    go_enter Try.func20, Try.ntmps20
    generalize h5 : (Code.region 5 _ _ : Code) = R5
    go_wp2_with (first | ((with_reducible show wpList _ _ _ (Oper.mk (some 7) (Op.box 23 _) _ _ _ _ :: _) _ _); (refine L_box H rfl 23 _ rfl (cat ([Lf.v own])) rfl ?_); clear H; intro g7 w7 HGg7 HEg7 H; simp only [Act.put, sbA, szA, ssA]) | ((with_reducible show wpList _ _ _ (Oper.mk (some 8) (Op.box 23 _) _ _ _ _ :: _) _ _); (refine L_box H rfl 23 _ rfl (cat ([Lf.v peer])) rfl ?_); clear H; intro g8 w8 HGg8 HEg8 H; simp only [Act.put, sbA, szA, ssA]) | ((with_reducible show wpList _ _ _ (Oper.mk (some 9) (Op.box 25 _) _ _ _ _ :: _) _ _); (refine L_box H rfl 25 _ rfl (cat ([Lf.v master])) rfl ?_); clear H; intro g9 w9 HGg9 HEg9 H; simp only [Act.put, sbA, szA, ssA]) | ((with_reducible show wpList _ _ _ (Oper.mk (some 10) (Op.box 26 _) _ _ _ _ :: _) _ _); (refine L_box H rfl 26 _ rfl (cat ([Lf.v nonce])) rfl ?_); clear H; intro g10 w10 HGg10 HEg10 H; simp only [Act.put, sbA, szA, ssA]) | ((with_reducible show wpList _ _ _ (Oper.mk (some 11) (Op.box 30 _) _ _ _ _ :: _) _ _); (refine L_box H rfl 30 _ rfl (cat (partsG gid gkey)) rfl ?_); clear H; intro g11 w11 HGg11 HEg11 H; simp only [Act.put, sbA, szA, ssA]) | ((with_reducible show wpList _ _ _ (Oper.mk (some 12) (Op.alloc 32) _ _ _ _ :: _) _ _); (refine L_alloc H rfl 32 rfl (cat (partsF fw0)) (fun _ _ => by kernel_rfl) ?_); clear H; intro g12 w12 HGg12 HEg12 H; simp only [Act.put, sbA, szA, ssA]) | ((with_reducible refine isLd 23 ?_); (first | (refine L_fv H rfl 23 _ rfl 4 rfl _ rfl _ rfl rfl Try.underlying23 rfl (by kernel_rfl) ?_) | (refine L_fv H rfl 23 _ rfl 5 rfl _ rfl _ rfl rfl Try.underlying23 rfl (by kernel_rfl) ?_)); simp only [Act.put, sbA, szA, ssA]) | (((with_reducible show wpList _ _ _ (Oper.mk _ (Op.binOp _ 23 _ _ _) _ _ _ _ :: _) _ _); (refine wpList_eq2 rfl 23 _ _ _ rfl _ _ _ rfl rfl Try.eqGuardType23 (eqV_in _ Try.underlying23 _ _ 9998) ?_); simp only [Act.put, sbA, szA, ssA]); simp only [HQ.out]) | ((with_reducible show wpList _ _ _ (Oper.mk _ (Op.build 30 _) _ _ _ _ :: _) _ _); (refine L_bd rfl 30 _ rfl #[] (by kernel_rfl) (cat (partsG 0 (zv 16))) (fun _ => by kernel_rfl) ?_); simp only [Act.put, sbA, szA, ssA]) | ((with_reducible refine isSt 30 ?_); refine L_sa H rfl rfl 30 _ _ rfl 1 rfl rfl (partsG 0 (zv 16)) rfl rfl (by kernel_rfl) ?_; clear H; intro wk HWwk H; simp only [ssA, szA] at H))
    subst h5
    go_wp2_with (first | ((with_reducible refine isLd 23 ?_); (first | (refine L_fv H rfl 23 _ rfl 4 rfl _ rfl _ rfl rfl Try.underlying23 rfl (by kernel_rfl) ?_) | (refine L_fv H rfl 23 _ rfl 5 rfl _ rfl _ rfl rfl Try.underlying23 rfl (by kernel_rfl) ?_)); simp only [Act.put, sbA, szA, ssA]) | ((with_reducible refine isLd 25 ?_); (refine L_fv H rfl 25 _ rfl 3 rfl _ rfl _ rfl rfl Try.underlying25 rfl (by kernel_rfl) ?_); simp only [Act.put, sbA, szA, ssA]) | ((with_reducible refine isLd 26 ?_); (refine L_fv H rfl 26 _ rfl 2 rfl _ rfl _ rfl rfl Try.underlying26 rfl (by kernel_rfl) ?_); simp only [Act.put, sbA, szA, ssA]) | ((with_reducible refine isLd 30 ?_); (refine L_fg H rfl 30 _ rfl 1 rfl _ rfl _ rfl (partsG (0) ((zv 16))) rfl Try.underlying30 rfl (by kernel_rfl) ?_); simp only [Act.put, sbA, szA, ssA]) | ((with_reducible show wpList _ _ _ (Oper.mk (some 49) (Op.build _ _) _ _ _ _ :: _) _ _); (refine L_bd rfl 32 _ rfl #[(0, .int .u8 2), (2, .agg (own.1.map V8).toArray), (3, .agg (peer.1.map V8).toArray), (4, .agg (master.1.map V8).toArray), (5, .agg (nonce.1.map V8).toArray), (11, .agg (cat (partsG (0) ((zv 16)))).toArray)] (by kernel_rfl) (cat (partsF { fw0 with role := 2, own := own, peer := peer, master := master, mine := nonce, gid := 0, gkey := (zv 16) })) (HBF.out _ _) ?_); simp only [Act.put, sbA, szA, ssA]) | ((with_reducible refine isSt 32 ?_); refine L_sa H rfl rfl 32 _ _ rfl 0 rfl rfl (partsF { fw0 with role := 2, own := own, peer := peer, master := master, mine := nonce, gid := 0, gkey := (zv 16) }) rfl rfl (by kernel_rfl) ?_; clear H; intro wz HWwz H; simp only [szA] at H))
    (exact ret_f2 H Try.results20 0 rfl rfl _ rfl Try.underlying32 rfl (by kernel_rfl) rfl (⟨by rw [HK.out]; rfl, H.out.1⟩))
  ·have HK := kp (HB.out (by simp [newB, r1, r2]))
   go_enter Try.func20, Try.ntmps20
   go_wp2_with (first | ((with_reducible show wpList _ _ _ (Oper.mk (some 7) (Op.box 23 _) _ _ _ _ :: _) _ _); (refine L_box H rfl 23 _ rfl (cat ([Lf.v own])) rfl ?_); clear H; intro g7 w7 HGg7 HEg7 H; simp only [Act.put, sbA, szA, ssA]) | ((with_reducible show wpList _ _ _ (Oper.mk (some 8) (Op.box 23 _) _ _ _ _ :: _) _ _); (refine L_box H rfl 23 _ rfl (cat ([Lf.v peer])) rfl ?_); clear H; intro g8 w8 HGg8 HEg8 H; simp only [Act.put, sbA, szA, ssA]) | ((with_reducible show wpList _ _ _ (Oper.mk (some 9) (Op.box 25 _) _ _ _ _ :: _) _ _); (refine L_box H rfl 25 _ rfl (cat ([Lf.v master])) rfl ?_); clear H; intro g9 w9 HGg9 HEg9 H; simp only [Act.put, sbA, szA, ssA]) | ((with_reducible show wpList _ _ _ (Oper.mk (some 10) (Op.box 26 _) _ _ _ _ :: _) _ _); (refine L_box H rfl 26 _ rfl (cat ([Lf.v nonce])) rfl ?_); clear H; intro g10 w10 HGg10 HEg10 H; simp only [Act.put, sbA, szA, ssA]) | ((with_reducible show wpList _ _ _ (Oper.mk (some 11) (Op.box 30 _) _ _ _ _ :: _) _ _); (refine L_box H rfl 30 _ rfl (cat (partsG gid gkey)) rfl ?_); clear H; intro g11 w11 HGg11 HEg11 H; simp only [Act.put, sbA, szA, ssA]) | ((with_reducible show wpList _ _ _ (Oper.mk (some 12) (Op.alloc 32) _ _ _ _ :: _) _ _); (refine L_alloc H rfl 32 rfl (cat (partsF fw0)) (fun _ _ => by kernel_rfl) ?_); clear H; intro g12 w12 HGg12 HEg12 H; simp only [Act.put, sbA, szA, ssA]) | ((with_reducible show wpList _ _ _ (Oper.mk _ (Op.build 32 _) _ _ _ _ :: _) _ _); (refine L_bd rfl 32 _ rfl #[] (by kernel_rfl) (cat (partsF fw0)) (fun _ => by kernel_rfl) ?_); simp only [Act.put, sbA, szA, ssA]) | ((with_reducible refine isSt 32 ?_); refine L_sa H rfl rfl 32 _ _ rfl 0 rfl rfl (partsF fw0) rfl rfl (by kernel_rfl) ?_; clear H; intro wz HWwz H; simp only [szA] at H))
   all_goals first | (exfalso; simp_all; done) | (exact ret_f2 H Try.results20 0 rfl rfl _ rfl Try.underlying32 rfl (by kernel_rfl) rfl (⟨by rw [HK.out]; rfl, H.out.1⟩))
end Go.Proofs.Ytibncchobkaaiaa
namespace Go.Proofs.Ytibncchobkaaiaa
open Go.RowKit
structure Pr where
 one : Vc 6
 two : Vc 6
 master : Vc 16
 otherK : Vc 16
 mine : Vc 16
 his : Vc 16
 gid : Int
 gkey : Vc 16
structure Ev where
 kind : Int
 to : Int
 which : Int
 pos : Int
 by_ : BitVec 8
 wait : Int
 counter : Int
 nonce : Vc 16
def badEv (o : Ev) : Bool := decide (o.wait < 0) || decide (1000000 < o.wait) || decide (o.which < 0) || decide (o.pos < 0) || decide (o.counter < 0) || decide (1099511627776 < o.counter)
def greatF (l : List Ev) : Bool := decide (60 < l.length) || l.any badEv
def altF (o : Ev) (b : By) : By := b.set (o.pos.toNat % b.length) (b.getD (o.pos.toNat % b.length) 0 ^^^ o.by_)
def msgF (o : Ev) (sent : List By) : Option By :=
 if o.kind = 3 then some (signedF (zv 16).1 1 o.counter o.nonce.1 []) else if o.kind ≠ 2 ∨ sent = [] then none else some (altF o (sent.getD (o.which.toNat % sent.length) []))
def stepF (o : Ev) (now : Int) (sent : List By) (s : Fw) : Res :=
 if o.kind = 0 then startF s now else match msgF o sent with | some b => handleF s b now | none => tickF s now
def badB (o : Ev) (sent : List By) : Bool := match msgF o sent with | some b => o.kind == 2 && o.by_ != 0 && !b.isEmpty && kindP b != 1 | none => false
def sideF (o : Ev) (s : Fw × Fw) : Fw := if o.to % 2 = 1 then s.2 else s.1
def putF (o : Ev) (s : Fw × Fw) (t : Fw) : Fw × Fw := if o.to % 2 = 1 then (s.1, t) else (t, s.2)
def nextF (o : Ev) (s : Fw × Fw) (r : Res) : Fw × Fw := if r.2.2 = 0 then putF o s r.1 else s
def sentF (sent : List By) (r : Res) : List By := if r.2.2 = 0 then sent ++ r.2.1 else sent
def runF : List Ev → Fw × Fw → List By → Int → List (Fw × Fw)
 | [], _, _, _ => []
 | o :: l, s, sent, now =>
  if (stepF o (now + o.wait) sent (sideF o s)).2.2 = 0 ∧ badB o sent = true then [] else
   nextF o s (stepF o (now + o.wait) sent (sideF o s)) :: runF l (nextF o s (stepF o (now + o.wait) sent (sideF o s))) (sentF sent (stepF o (now + o.wait) sent (sideF o s))) (now + o.wait)
def sidesF (p : Pr) : Fw × Fw := ((newF 1 p.one p.two p.master p.mine p.gid p.gkey).1, (newF 2 p.two p.one p.otherK p.his p.gid p.gkey).1)
def sidesB (p : Pr) : Bool := !newB 1 p.one p.two p.gid && !newB 2 p.two p.one p.gid
structure Pr.Ok (p : Pr) : Prop where
 ne : p.one ≠ p.two
 gid : p.gid = 2 ∨ p.gid = 3
theorem sidesB_ok {p : Pr} (h : sidesB p = true) : p.Ok := by
 unfold sidesB newB at h
 simp only [Bool.and_eq_true, Bool.not_eq_true', Bool.or_eq_false_iff, decide_eq_false_iff_not] at h
 refine ⟨h.1.1.2, ?_⟩
 have := h.1.2
 by_cases h2 : p.gid = 2
 ·exact .inl h2
 ·by_cases h3 : p.gid = 3
  ·exact .inr h3
  ·exfalso; simp [h2, h3] at this
theorem ok_sidesB {p : Pr} (h : p.Ok) : newB 1 p.one p.two p.gid = false ∧ newB 2 p.two p.one p.gid = false := by
 unfold newB
 have h1 := h.ne
 have h2 : ¬ p.two = p.one := fun e => h.ne (Eq.symm e)
 constructor
 ·rcases h.gid with h | h <;> simp [h1, h]
 ·simp [h2]
def stA0 (p : Pr) : Fw := { fw0 with role := 1, own := p.one, peer := p.two, master := p.master, mine := p.mine, gid := p.gid, gkey := p.gkey }
def stS0 (p : Pr) : Fw := { fw0 with role := 2, own := p.two, peer := p.one, master := p.otherK, mine := p.his }
theorem sidesF_eq {p : Pr} (h : p.Ok) : sidesF p = (stA0 p, stS0 p) := by
 unfold sidesF newF
 rw [(ok_sidesB h).1, (ok_sidesB h).2]
 rfl
theorem goodA0 {p : Pr} (h : p.Ok) : GoodA (stA0 p) := ⟨rfl, h.ne, rfl, h.gid, .inl ⟨rfl, rfl, rfl, rfl, rfl, rfl⟩⟩
theorem goodS0 {p : Pr} (h : p.Ok) : GoodS (stS0 p) := ⟨rfl, fun e => h.ne e.symm, rfl, rfl, rfl, .inl ⟨rfl, rfl, rfl, rfl, rfl, rfl⟩⟩
def Adj {α : Type} (R : α → α → Prop) : List α → Prop
 | x :: y :: l => R x y ∧ Adj R (y :: l)
 | _ => True
theorem Adj.at {α : Type} {R : α → α → Prop} : ∀ {l : List α} {i : Nat} {x y : α}, Adj R l → l[i]? = some x → l[i + 1]? = some y → R x y
 | [], _, _, _, _, h, _ => by simp at h
 | [a], i, _, _, _, _, h => by simp at h
 | a :: b :: l, 0, x, y, h, hx, hy => by
  simp only [List.getElem?_cons_zero, Option.some.injEq, List.getElem?_cons_succ, Nat.zero_add] at hx hy
  subst hx; subst hy; exact h.1
 | a :: b :: l, i + 1, x, y, h, hx, hy => Adj.at h.2 (by simpa using hx) (by simpa using hy)
structure OnceOk (a b : Fw) : Prop where
 check : checkB b = true
 up : a.inst ≤ b.inst
 le : b.inst ≤ 1
 done : a.inst = 1 → b.pair = a.pair ∧ b.gid = a.gid ∧ b.gkey = a.gkey ∧ b.other = a.other ∧ a.replay ≤ b.replay
theorem oneI_le (b : Bool) : oneI b ≤ 1 := by cases b <;> decide
theorem GoodA.once {s t : Fw} (h : GoodA t) (k : Kept s t) : OnceOk s t := ⟨h.check, k.up, by rw [h.inst]; exact oneI_le _, k.done⟩
theorem GoodS.once {s t : Fw} (h : GoodS t) (k : Kept s t) : OnceOk s t := ⟨h.check, k.up, by rw [h.inst]; exact oneI_le _, k.done⟩
theorem GoodA.step {s : Fw} {o : Ev} {now : Int} {sent : List By} (h : GoodA s) (he : (stepF o now sent s).2.2 = 0) : GoodA (stepF o now sent s).1 ∧ Kept s (stepF o now sent s).1 := by
 unfold stepF at he ⊢
 split at he
 ·rename_i q; rw [if_pos q]; exact h.startF he
 ·rename_i q
  rw [if_neg q]
  cases hm : msgF o sent with
  | none => rw [hm] at he; exact h.tickF he
  | some b => rw [hm] at he; exact h.handleF he
theorem GoodS.step {s : Fw} {o : Ev} {now : Int} {sent : List By} (h : GoodS s) (he : (stepF o now sent s).2.2 = 0) : GoodS (stepF o now sent s).1 ∧ Kept s (stepF o now sent s).1 := by
 unfold stepF at he ⊢
 split at he
 ·have := (startF_ok he).2.1
  have := h.role
  exfalso; omega
 ·rename_i q
  rw [if_neg q]
  cases hm : msgF o sent with
  | none =>
   rw [hm] at he
   have e := h.tickF (tickF_ok he).1
   show GoodS (Go.Proofs.Ytibncchobkaaiaa.tickF s now).1 ∧ Kept s (Go.Proofs.Ytibncchobkaaiaa.tickF s now).1
   rw [e]; exact ⟨h, Kept.refl s⟩
  | some b => rw [hm] at he; exact h.handleF he
theorem run_once : ∀ (l : List Ev) (s : Fw × Fw) (sent : List By) (now : Int), GoodA s.1 → GoodS s.2 → Adj (fun x y => OnceOk x.1 y.1 ∧ OnceOk x.2 y.2) (s :: runF l s sent now)
 | [], _, _, _, _, _ => trivial
 | o :: l, s, sent, now, ha, hs => by
  have hst : GoodA (nextF o s (stepF o (now + o.wait) sent (sideF o s))).1 ∧ GoodS (nextF o s (stepF o (now + o.wait) sent (sideF o s))).2 ∧ Kept s.1 (nextF o s (stepF o (now + o.wait) sent (sideF o s))).1 ∧ Kept s.2 (nextF o s (stepF o (now + o.wait) sent (sideF o s))).2 := by
   unfold nextF putF sideF
   by_cases c : o.to % 2 = 1
   ·simp only [c, if_true]
    split
    ·rename_i he
     obtain ⟨h1, h2⟩ := hs.step he
     exact ⟨ha, h1, Kept.refl _, h2⟩
    ·exact ⟨ha, hs, Kept.refl _, Kept.refl _⟩
   ·simp only [c, if_false]
    split
    ·rename_i he
     obtain ⟨h1, h2⟩ := ha.step he
     exact ⟨h1, hs, h2, Kept.refl _⟩
    ·exact ⟨ha, hs, Kept.refl _, Kept.refl _⟩
  unfold runF
  split
  ·trivial
  ·exact ⟨⟨hst.1.once hst.2.2.1, hst.2.1.once hst.2.2.2⟩, run_once l _ _ _ hst.1 hst.2.1⟩
def Pr.K (p : Pr) : Ks := pairF p.master p.one p.two p.mine p.his
def Sent (p : Pr) (b4 : Prop) (m : By) : Prop :=
 kindP m = 1 ∨ (kindP m = 2 ∧ nonceP m = p.his) ∨ (kindP m = 3 ∧ nonceP m = p.mine ∧ dataP m = wrapF p.K.w.1 3 (countP m) p.mine.1 p.gid p.gkey.1) ∨ (kindP m = 4 ∧ b4)
theorem Sent.mono {p : Pr} {P Q : Prop} {m : By} (h : Sent p P m) (i : P → Q) : Sent p Q m := by
 rcases h with h | h | h | ⟨h, q⟩
 ·exact .inl h
 ·exact .inr (.inl h)
 ·exact .inr (.inr (.inl h))
 ·exact .inr (.inr (.inr ⟨h, i q⟩))
structure InvH (p : Pr) (s : Fw × Fw) (sent : List By) : Prop where
 ga : GoodA s.1
 gs : GoodS s.2
 a : s.1.own = p.one ∧ s.1.peer = p.two ∧ s.1.master = p.master ∧ s.1.mine = p.mine ∧ s.1.gid = p.gid ∧ s.1.gkey = p.gkey
 b : s.2.own = p.two ∧ s.2.peer = p.one ∧ s.2.master = p.master ∧ s.2.mine = p.his
 a3 : s.1.stage = 3 ∨ s.1.stage = 4 → s.1.other = p.his
 b4 : s.2.stage = 4 → s.2.pair = p.K ∧ s.2.gid = p.gid ∧ s.2.gkey = p.gkey
 ab : s.1.stage = 4 → s.2.stage = 4
 ms : ∀ m ∈ sent, Sent p (s.2.stage = 4) m
theorem GoodA.replay {s : Fw} (h : GoodA s) : 0 ≤ s.replay ∧ s.replay ≤ 8 := by
 rcases h.st with c | c | c | c | c <;> omega
end Go.Proofs.Ytibncchobkaaiaa
