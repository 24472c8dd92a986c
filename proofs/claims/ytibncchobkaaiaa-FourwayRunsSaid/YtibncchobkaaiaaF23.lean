/- Texts of this proof, put together: NewF, RefA, Own23, OutT. -/
import Derived.Test.YtibncchobkaaiaaF12
import Derived.Test.YtibncchobkaaiaaF11
import Derived.Test.YtibncchobkaaiaaF19
import Derived.Test.YtibncchobkaaiaaF10
import Derived.Test.YtibncchobkaaiaaF1
namespace Go.Proofs.Ytibncchobkaaiaa
open Go.RowKit
theorem new_bad {role : Int} {own peer : Vc 6} {master nonce : Vc 16} {gid : Int} {gkey : Vc 16} (h : newB role own peer gid = true) : newF role own peer master nonce gid gkey = (fw0, 2) := by unfold newF; rw [if_pos h]
theorem new_ok {role : Int} {own peer : Vc 6} {master nonce : Vc 16} {gid : Int} {gkey : Vc 16} (h : newB role own peer gid = false) : newF role own peer master nonce gid gkey = ({ fw0 with role := role, own := own, peer := peer, master := master, mine := nonce, gid := if role = 2 then 0 else gid, gkey := if role = 2 then zv 16 else gkey }, 0) := by unfold newF; rw [if_neg (by rw [h]; decide)]
def NewR (r : Fw × Int) (w : World) (e : Ending) (w' : World) : Prop := e = .returned (.tuple #[.agg (cat (partsF r.1)).toArray, .int .i64 r.2]) ∧ Ext w w'
set_option maxRecDepth 4000 in
set_option maxHeartbeats 1600000 in
theorem new_any (role : Int) (own peer : Vc 6) (master nonce : Vc 16) (gid : Int) (gkey : Vc 16) (w : World) : Calls Try.prog 20 #[.int .u8 role, .agg (own.1.map V8).toArray, .agg (peer.1.map V8).toArray, .agg (master.1.map V8).toArray, .agg (nonce.1.map V8).toArray, .agg (cat (partsG gid gkey)).toArray] w (NewR (newF role own peer master nonce gid gkey) w) := by
 have H := kp (Loc.start w)
 have HB := kp (fun h => new_bad (role := role) (own := own) (peer := peer) (master := master) (nonce := nonce) (gid := gid) (gkey := gkey) h)
 have HO := kp (fun h => new_ok (role := role) (own := own) (peer := peer) (master := master) (nonce := nonce) (gid := gid) (gkey := gkey) h)
 generalize newF role own peer master nonce gid gkey = r at *
 have HBF := kp (build_Fw role own peer master nonce)
 by_cases r1 : role = 1
 ·subst r1
  cases hq : decide (own = peer) with
  | true =>
   have HQ := kp hq
   have HK := kp (HB.out (by simp [newB, hq]))
   clear hq
   go_enter Try.func20, Try.ntmps20
   go_wp2_with (first | ((with_reducible refine isBx 7 23 ?_); (refine L_box H rfl 23 _ rfl (cat ([Lf.v own])) rfl ?_); clear H; intro g7 w7 HGg7 HEg7 H; simp only [pA]) | ((with_reducible refine isBx 8 23 ?_); (refine L_box H rfl 23 _ rfl (cat ([Lf.v peer])) rfl ?_); clear H; intro g8 w8 HGg8 HEg8 H; simp only [pA]) | ((with_reducible refine isBx 9 25 ?_); (refine L_box H rfl 25 _ rfl (cat ([Lf.v master])) rfl ?_); clear H; intro g9 w9 HGg9 HEg9 H; simp only [pA]) | ((with_reducible refine isBx 10 26 ?_); (refine L_box H rfl 26 _ rfl (cat ([Lf.v nonce])) rfl ?_); clear H; intro g10 w10 HGg10 HEg10 H; simp only [pA]) | ((with_reducible refine isBx 11 30 ?_); (refine L_box H rfl 30 _ rfl (cat (partsG gid gkey)) rfl ?_); clear H; intro g11 w11 HGg11 HEg11 H; simp only [pA]) | ((with_reducible refine isAl 12 32 ?_); (refine L_alloc H rfl 32 rfl (cat (partsF fw0)) (fun _ _ => by kernel_rfl) ?_); clear H; intro g12 w12 HGg12 HEg12 H; simp only [pA]) | ((with_reducible show wpList _ _ _ (Oper.mk _ (Op.build 32 _) _ _ _ _ :: _) _ _); (refine L_bd rfl 32 _ rfl #[] (by kernel_rfl) (cat (partsF fw0)) (fun _ => by kernel_rfl) ?_); simp only [pA]) | ((with_reducible refine isSt 32 ?_); refine L_sa H rfl rfl 32 _ _ rfl 0 rfl rfl (partsF fw0) rfl rfl (by kernel_rfl) ?_; clear H; intro wz HWwz H; simp only [szA] at H) | ((with_reducible refine isLd 23 ?_); (first | (refine L_fv H rfl 23 _ rfl 4 rfl _ rfl _ rfl rfl Try.underlying23 rfl (by kernel_rfl) ?_) | (refine L_fv H rfl 23 _ rfl 5 rfl _ rfl _ rfl rfl Try.underlying23 rfl (by kernel_rfl) ?_)); simp only [pA]) | (((with_reducible show wpList _ _ _ (Oper.mk _ (Op.binOp _ 23 _ _ _) _ _ _ _ :: _) _ _); (refine wpList_eq2 rfl 23 _ _ _ rfl _ _ _ rfl rfl Try.eqGuardType23 (eqV_in _ Try.underlying23 _ _ 9998) ?_); simp only [pA]); simp only [HQ.out]))
   (exact ret_f2 H Try.results20 0 rfl rfl _ rfl Try.underlying32 rfl (by kernel_rfl) rfl (⟨by rw [HK.out]; rfl, H.out.1⟩))
  | false =>
   have HQ := kp hq
   have HNQ := kp (show newB 1 own peer gid = (gid != 2 && gid != 3) by simp [newB, hq])
   clear hq
   cases h2 : (gid != 2) with
   | false =>
    have HG2 := kp h2
    have HK := kp (HO.out (by rw [HNQ.out, h2]; rfl))
    clear h2
    skip
    go_enter Try.func20, Try.ntmps20
    generalize h5 : (Code.region 5 _ _ : Code) = R5
    go_wp2_with (first | ((with_reducible refine isBx 7 23 ?_); (refine L_box H rfl 23 _ rfl (cat ([Lf.v own])) rfl ?_); clear H; intro g7 w7 HGg7 HEg7 H; simp only [pA]) | ((with_reducible refine isBx 8 23 ?_); (refine L_box H rfl 23 _ rfl (cat ([Lf.v peer])) rfl ?_); clear H; intro g8 w8 HGg8 HEg8 H; simp only [pA]) | ((with_reducible refine isBx 9 25 ?_); (refine L_box H rfl 25 _ rfl (cat ([Lf.v master])) rfl ?_); clear H; intro g9 w9 HGg9 HEg9 H; simp only [pA]) | ((with_reducible refine isBx 10 26 ?_); (refine L_box H rfl 26 _ rfl (cat ([Lf.v nonce])) rfl ?_); clear H; intro g10 w10 HGg10 HEg10 H; simp only [pA]) | ((with_reducible refine isBx 11 30 ?_); (refine L_box H rfl 30 _ rfl (cat (partsG gid gkey)) rfl ?_); clear H; intro g11 w11 HGg11 HEg11 H; simp only [pA]) | ((with_reducible refine isAl 12 32 ?_); (refine L_alloc H rfl 32 rfl (cat (partsF fw0)) (fun _ _ => by kernel_rfl) ?_); clear H; intro g12 w12 HGg12 HEg12 H; simp only [pA]) | ((with_reducible refine isLd 23 ?_); (first | (refine L_fv H rfl 23 _ rfl 4 rfl _ rfl _ rfl rfl Try.underlying23 rfl (by kernel_rfl) ?_) | (refine L_fv H rfl 23 _ rfl 5 rfl _ rfl _ rfl rfl Try.underlying23 rfl (by kernel_rfl) ?_)); simp only [pA]) | (((with_reducible show wpList _ _ _ (Oper.mk _ (Op.binOp _ 23 _ _ _) _ _ _ _ :: _) _ _); (refine wpList_eq2 rfl 23 _ _ _ rfl _ _ _ rfl rfl Try.eqGuardType23 (eqV_in _ Try.underlying23 _ _ 9998) ?_); simp only [pA]); simp only [HQ.out]) | ((with_reducible refine isLd 3 ?_); (refine L_f1 H rfl 3 _ rfl 1 rfl _ rfl _ rfl _ rfl Try.underlying3 rfl ?_); simp only [pA]) | ((with_reducible show wpList _ _ _ (Oper.mk (some 31) _ _ _ _ _ :: _) _ _); refine wpList_bin (by kernel_rfl) .neq 3 3 _ _ rfl (.int .i64 gid) (.int .i64 2) (.bool (gid != 2)) rfl rfl (by kernel_rfl) (by kernel_rfl) ?_; simp only [pA]; simp only [HG2.out]))
    subst h5
    go_wp2_with (first | ((with_reducible refine isLd 23 ?_); (first | (refine L_fv H rfl 23 _ rfl 4 rfl _ rfl _ rfl rfl Try.underlying23 rfl (by kernel_rfl) ?_) | (refine L_fv H rfl 23 _ rfl 5 rfl _ rfl _ rfl rfl Try.underlying23 rfl (by kernel_rfl) ?_)); simp only [pA]) | ((with_reducible refine isLd 25 ?_); (refine L_fv H rfl 25 _ rfl 3 rfl _ rfl _ rfl rfl Try.underlying25 rfl (by kernel_rfl) ?_); simp only [pA]) | ((with_reducible refine isLd 26 ?_); (refine L_fv H rfl 26 _ rfl 2 rfl _ rfl _ rfl rfl Try.underlying26 rfl (by kernel_rfl) ?_); simp only [pA]) | ((with_reducible refine isLd 30 ?_); (refine L_fg H rfl 30 _ rfl 1 rfl _ rfl _ rfl (partsG (gid) (gkey)) rfl Try.underlying30 rfl (by kernel_rfl) ?_); simp only [pA]) | ((with_reducible show wpList _ _ _ (Oper.mk (some 49) (Op.build _ _) _ _ _ _ :: _) _ _); (refine L_bd rfl 32 _ rfl #[(0, .int .u8 1), (2, .agg (own.1.map V8).toArray), (3, .agg (peer.1.map V8).toArray), (4, .agg (master.1.map V8).toArray), (5, .agg (nonce.1.map V8).toArray), (11, .agg (cat (partsG (gid) (gkey))).toArray)] (by kernel_rfl) (cat (partsF { fw0 with role := 1, own := own, peer := peer, master := master, mine := nonce, gid := gid, gkey := gkey })) (HBF.out _ _) ?_); simp only [pA]) | ((with_reducible refine isSt 32 ?_); refine L_sa H rfl rfl 32 _ _ rfl 0 rfl rfl (partsF { fw0 with role := 1, own := own, peer := peer, master := master, mine := nonce, gid := gid, gkey := gkey }) rfl rfl (by kernel_rfl) ?_; clear H; intro wz HWwz H; simp only [szA] at H))
    (exact ret_f2 H Try.results20 0 rfl rfl _ rfl Try.underlying32 rfl (by kernel_rfl) rfl (⟨by rw [HK.out]; rfl, H.out.1⟩))
   | true =>
    have HG2 := kp h2
    cases h3 : (gid != 3) with
    | false =>
     have HG3 := kp h3
     have HK := kp (HO.out (by rw [HNQ.out, h2, h3]; rfl))
     clear h2 h3
     skip
     go_enter Try.func20, Try.ntmps20
     generalize h5 : (Code.region 5 _ _ : Code) = R5
     go_wp2_with (first | ((with_reducible refine isBx 7 23 ?_); (refine L_box H rfl 23 _ rfl (cat ([Lf.v own])) rfl ?_); clear H; intro g7 w7 HGg7 HEg7 H; simp only [pA]) | ((with_reducible refine isBx 8 23 ?_); (refine L_box H rfl 23 _ rfl (cat ([Lf.v peer])) rfl ?_); clear H; intro g8 w8 HGg8 HEg8 H; simp only [pA]) | ((with_reducible refine isBx 9 25 ?_); (refine L_box H rfl 25 _ rfl (cat ([Lf.v master])) rfl ?_); clear H; intro g9 w9 HGg9 HEg9 H; simp only [pA]) | ((with_reducible refine isBx 10 26 ?_); (refine L_box H rfl 26 _ rfl (cat ([Lf.v nonce])) rfl ?_); clear H; intro g10 w10 HGg10 HEg10 H; simp only [pA]) | ((with_reducible refine isBx 11 30 ?_); (refine L_box H rfl 30 _ rfl (cat (partsG gid gkey)) rfl ?_); clear H; intro g11 w11 HGg11 HEg11 H; simp only [pA]) | ((with_reducible refine isAl 12 32 ?_); (refine L_alloc H rfl 32 rfl (cat (partsF fw0)) (fun _ _ => by kernel_rfl) ?_); clear H; intro g12 w12 HGg12 HEg12 H; simp only [pA]) | ((with_reducible refine isLd 23 ?_); (first | (refine L_fv H rfl 23 _ rfl 4 rfl _ rfl _ rfl rfl Try.underlying23 rfl (by kernel_rfl) ?_) | (refine L_fv H rfl 23 _ rfl 5 rfl _ rfl _ rfl rfl Try.underlying23 rfl (by kernel_rfl) ?_)); simp only [pA]) | (((with_reducible show wpList _ _ _ (Oper.mk _ (Op.binOp _ 23 _ _ _) _ _ _ _ :: _) _ _); (refine wpList_eq2 rfl 23 _ _ _ rfl _ _ _ rfl rfl Try.eqGuardType23 (eqV_in _ Try.underlying23 _ _ 9998) ?_); simp only [pA]); simp only [HQ.out]) | ((with_reducible refine isLd 3 ?_); (refine L_f1 H rfl 3 _ rfl 1 rfl _ rfl _ rfl _ rfl Try.underlying3 rfl ?_); simp only [pA]) | ((with_reducible show wpList _ _ _ (Oper.mk (some 31) _ _ _ _ _ :: _) _ _); refine wpList_bin (by kernel_rfl) .neq 3 3 _ _ rfl (.int .i64 gid) (.int .i64 2) (.bool (gid != 2)) rfl rfl (by kernel_rfl) (by kernel_rfl) ?_; simp only [pA]; simp only [HG2.out]) | ((with_reducible show wpList _ _ _ (Oper.mk (some 36) _ _ _ _ _ :: _) _ _); refine wpList_bin (by kernel_rfl) .neq 3 3 _ _ rfl (.int .i64 gid) (.int .i64 3) (.bool (gid != 3)) rfl rfl (by kernel_rfl) (by kernel_rfl) ?_; simp only [pA]; simp only [HG3.out]))
     subst h5
     go_wp2_with (first | ((with_reducible refine isLd 23 ?_); (first | (refine L_fv H rfl 23 _ rfl 4 rfl _ rfl _ rfl rfl Try.underlying23 rfl (by kernel_rfl) ?_) | (refine L_fv H rfl 23 _ rfl 5 rfl _ rfl _ rfl rfl Try.underlying23 rfl (by kernel_rfl) ?_)); simp only [pA]) | ((with_reducible refine isLd 25 ?_); (refine L_fv H rfl 25 _ rfl 3 rfl _ rfl _ rfl rfl Try.underlying25 rfl (by kernel_rfl) ?_); simp only [pA]) | ((with_reducible refine isLd 26 ?_); (refine L_fv H rfl 26 _ rfl 2 rfl _ rfl _ rfl rfl Try.underlying26 rfl (by kernel_rfl) ?_); simp only [pA]) | ((with_reducible refine isLd 30 ?_); (refine L_fg H rfl 30 _ rfl 1 rfl _ rfl _ rfl (partsG (gid) (gkey)) rfl Try.underlying30 rfl (by kernel_rfl) ?_); simp only [pA]) | ((with_reducible show wpList _ _ _ (Oper.mk (some 49) (Op.build _ _) _ _ _ _ :: _) _ _); (refine L_bd rfl 32 _ rfl #[(0, .int .u8 1), (2, .agg (own.1.map V8).toArray), (3, .agg (peer.1.map V8).toArray), (4, .agg (master.1.map V8).toArray), (5, .agg (nonce.1.map V8).toArray), (11, .agg (cat (partsG (gid) (gkey))).toArray)] (by kernel_rfl) (cat (partsF { fw0 with role := 1, own := own, peer := peer, master := master, mine := nonce, gid := gid, gkey := gkey })) (HBF.out _ _) ?_); simp only [pA]) | ((with_reducible refine isSt 32 ?_); refine L_sa H rfl rfl 32 _ _ rfl 0 rfl rfl (partsF { fw0 with role := 1, own := own, peer := peer, master := master, mine := nonce, gid := gid, gkey := gkey }) rfl rfl (by kernel_rfl) ?_; clear H; intro wz HWwz H; simp only [szA] at H))
     (exact ret_f2 H Try.results20 0 rfl rfl _ rfl Try.underlying32 rfl (by kernel_rfl) rfl (⟨by rw [HK.out]; rfl, H.out.1⟩))
    | true =>
     have HG3 := kp h3
     have HK := kp (HB.out (by rw [HNQ.out, h2, h3]; rfl))
     clear h2 h3
     skip
     go_enter Try.func20, Try.ntmps20
     generalize h5 : (Code.region 5 _ _ : Code) = R5
     go_wp2_with (first | ((with_reducible refine isBx 7 23 ?_); (refine L_box H rfl 23 _ rfl (cat ([Lf.v own])) rfl ?_); clear H; intro g7 w7 HGg7 HEg7 H; simp only [pA]) | ((with_reducible refine isBx 8 23 ?_); (refine L_box H rfl 23 _ rfl (cat ([Lf.v peer])) rfl ?_); clear H; intro g8 w8 HGg8 HEg8 H; simp only [pA]) | ((with_reducible refine isBx 9 25 ?_); (refine L_box H rfl 25 _ rfl (cat ([Lf.v master])) rfl ?_); clear H; intro g9 w9 HGg9 HEg9 H; simp only [pA]) | ((with_reducible refine isBx 10 26 ?_); (refine L_box H rfl 26 _ rfl (cat ([Lf.v nonce])) rfl ?_); clear H; intro g10 w10 HGg10 HEg10 H; simp only [pA]) | ((with_reducible refine isBx 11 30 ?_); (refine L_box H rfl 30 _ rfl (cat (partsG gid gkey)) rfl ?_); clear H; intro g11 w11 HGg11 HEg11 H; simp only [pA]) | ((with_reducible refine isAl 12 32 ?_); (refine L_alloc H rfl 32 rfl (cat (partsF fw0)) (fun _ _ => by kernel_rfl) ?_); clear H; intro g12 w12 HGg12 HEg12 H; simp only [pA]) | ((with_reducible show wpList _ _ _ (Oper.mk _ (Op.build 32 _) _ _ _ _ :: _) _ _); (refine L_bd rfl 32 _ rfl #[] (by kernel_rfl) (cat (partsF fw0)) (fun _ => by kernel_rfl) ?_); simp only [pA]) | ((with_reducible refine isSt 32 ?_); refine L_sa H rfl rfl 32 _ _ rfl 0 rfl rfl (partsF fw0) rfl rfl (by kernel_rfl) ?_; clear H; intro wz HWwz H; simp only [szA] at H) | ((with_reducible refine isLd 23 ?_); (first | (refine L_fv H rfl 23 _ rfl 4 rfl _ rfl _ rfl rfl Try.underlying23 rfl (by kernel_rfl) ?_) | (refine L_fv H rfl 23 _ rfl 5 rfl _ rfl _ rfl rfl Try.underlying23 rfl (by kernel_rfl) ?_)); simp only [pA]) | (((with_reducible show wpList _ _ _ (Oper.mk _ (Op.binOp _ 23 _ _ _) _ _ _ _ :: _) _ _); (refine wpList_eq2 rfl 23 _ _ _ rfl _ _ _ rfl rfl Try.eqGuardType23 (eqV_in _ Try.underlying23 _ _ 9998) ?_); simp only [pA]); simp only [HQ.out]) | ((with_reducible refine isLd 3 ?_); (refine L_f1 H rfl 3 _ rfl 1 rfl _ rfl _ rfl _ rfl Try.underlying3 rfl ?_); simp only [pA]) | ((with_reducible show wpList _ _ _ (Oper.mk (some 31) _ _ _ _ _ :: _) _ _); refine wpList_bin (by kernel_rfl) .neq 3 3 _ _ rfl (.int .i64 gid) (.int .i64 2) (.bool (gid != 2)) rfl rfl (by kernel_rfl) (by kernel_rfl) ?_; simp only [pA]; simp only [HG2.out]) | ((with_reducible show wpList _ _ _ (Oper.mk (some 36) _ _ _ _ _ :: _) _ _); refine wpList_bin (by kernel_rfl) .neq 3 3 _ _ rfl (.int .i64 gid) (.int .i64 3) (.bool (gid != 3)) rfl rfl (by kernel_rfl) (by kernel_rfl) ?_; simp only [pA]; simp only [HG3.out]))
     (exact ret_f2 H Try.results20 0 rfl rfl _ rfl Try.underlying32 rfl (by kernel_rfl) rfl (⟨by rw [HK.out]; rfl, H.out.1⟩))
 ·by_cases r2 : role = 2
  ·subst r2
   clear r1
   cases hq : decide (own = peer) with
   | true =>
    have HQ := kp hq
    have HK := kp (HB.out (by simp [newB, hq]))
    clear hq
    go_enter Try.func20, Try.ntmps20
    go_wp2_with (first | ((with_reducible refine isBx 7 23 ?_); (refine L_box H rfl 23 _ rfl (cat ([Lf.v own])) rfl ?_); clear H; intro g7 w7 HGg7 HEg7 H; simp only [pA]) | ((with_reducible refine isBx 8 23 ?_); (refine L_box H rfl 23 _ rfl (cat ([Lf.v peer])) rfl ?_); clear H; intro g8 w8 HGg8 HEg8 H; simp only [pA]) | ((with_reducible refine isBx 9 25 ?_); (refine L_box H rfl 25 _ rfl (cat ([Lf.v master])) rfl ?_); clear H; intro g9 w9 HGg9 HEg9 H; simp only [pA]) | ((with_reducible refine isBx 10 26 ?_); (refine L_box H rfl 26 _ rfl (cat ([Lf.v nonce])) rfl ?_); clear H; intro g10 w10 HGg10 HEg10 H; simp only [pA]) | ((with_reducible refine isBx 11 30 ?_); (refine L_box H rfl 30 _ rfl (cat (partsG gid gkey)) rfl ?_); clear H; intro g11 w11 HGg11 HEg11 H; simp only [pA]) | ((with_reducible refine isAl 12 32 ?_); (refine L_alloc H rfl 32 rfl (cat (partsF fw0)) (fun _ _ => by kernel_rfl) ?_); clear H; intro g12 w12 HGg12 HEg12 H; simp only [pA]) | ((with_reducible show wpList _ _ _ (Oper.mk _ (Op.build 32 _) _ _ _ _ :: _) _ _); (refine L_bd rfl 32 _ rfl #[] (by kernel_rfl) (cat (partsF fw0)) (fun _ => by kernel_rfl) ?_); simp only [pA]) | ((with_reducible refine isSt 32 ?_); refine L_sa H rfl rfl 32 _ _ rfl 0 rfl rfl (partsF fw0) rfl rfl (by kernel_rfl) ?_; clear H; intro wz HWwz H; simp only [szA] at H) | ((with_reducible refine isLd 23 ?_); (first | (refine L_fv H rfl 23 _ rfl 4 rfl _ rfl _ rfl rfl Try.underlying23 rfl (by kernel_rfl) ?_) | (refine L_fv H rfl 23 _ rfl 5 rfl _ rfl _ rfl rfl Try.underlying23 rfl (by kernel_rfl) ?_)); simp only [pA]) | (((with_reducible show wpList _ _ _ (Oper.mk _ (Op.binOp _ 23 _ _ _) _ _ _ _ :: _) _ _); (refine wpList_eq2 rfl 23 _ _ _ rfl _ _ _ rfl rfl Try.eqGuardType23 (eqV_in _ Try.underlying23 _ _ 9998) ?_); simp only [pA]); simp only [HQ.out]))
    (exact ret_f2 H Try.results20 0 rfl rfl _ rfl Try.underlying32 rfl (by kernel_rfl) rfl (⟨by rw [HK.out]; rfl, H.out.1⟩))
   | false =>
    have HQ := kp hq
    have HK := kp (HO.out (by simp [newB, hq]))
    clear hq
    skip
    go_enter Try.func20, Try.ntmps20
    generalize h5 : (Code.region 5 _ _ : Code) = R5
    go_wp2_with (first | ((with_reducible refine isBx 7 23 ?_); (refine L_box H rfl 23 _ rfl (cat ([Lf.v own])) rfl ?_); clear H; intro g7 w7 HGg7 HEg7 H; simp only [pA]) | ((with_reducible refine isBx 8 23 ?_); (refine L_box H rfl 23 _ rfl (cat ([Lf.v peer])) rfl ?_); clear H; intro g8 w8 HGg8 HEg8 H; simp only [pA]) | ((with_reducible refine isBx 9 25 ?_); (refine L_box H rfl 25 _ rfl (cat ([Lf.v master])) rfl ?_); clear H; intro g9 w9 HGg9 HEg9 H; simp only [pA]) | ((with_reducible refine isBx 10 26 ?_); (refine L_box H rfl 26 _ rfl (cat ([Lf.v nonce])) rfl ?_); clear H; intro g10 w10 HGg10 HEg10 H; simp only [pA]) | ((with_reducible refine isBx 11 30 ?_); (refine L_box H rfl 30 _ rfl (cat (partsG gid gkey)) rfl ?_); clear H; intro g11 w11 HGg11 HEg11 H; simp only [pA]) | ((with_reducible refine isAl 12 32 ?_); (refine L_alloc H rfl 32 rfl (cat (partsF fw0)) (fun _ _ => by kernel_rfl) ?_); clear H; intro g12 w12 HGg12 HEg12 H; simp only [pA]) | ((with_reducible refine isLd 23 ?_); (first | (refine L_fv H rfl 23 _ rfl 4 rfl _ rfl _ rfl rfl Try.underlying23 rfl (by kernel_rfl) ?_) | (refine L_fv H rfl 23 _ rfl 5 rfl _ rfl _ rfl rfl Try.underlying23 rfl (by kernel_rfl) ?_)); simp only [pA]) | (((with_reducible show wpList _ _ _ (Oper.mk _ (Op.binOp _ 23 _ _ _) _ _ _ _ :: _) _ _); (refine wpList_eq2 rfl 23 _ _ _ rfl _ _ _ rfl rfl Try.eqGuardType23 (eqV_in _ Try.underlying23 _ _ 9998) ?_); simp only [pA]); simp only [HQ.out]) | ((with_reducible show wpList _ _ _ (Oper.mk _ (Op.build 30 _) _ _ _ _ :: _) _ _); (refine L_bd rfl 30 _ rfl #[] (by kernel_rfl) (cat (partsG 0 (zv 16))) (fun _ => by kernel_rfl) ?_); simp only [pA]) | ((with_reducible refine isSt 30 ?_); refine L_sa H rfl rfl 30 _ _ rfl 1 rfl rfl (partsG 0 (zv 16)) rfl rfl (by kernel_rfl) ?_; clear H; intro wk HWwk H; simp only [ssA, szA] at H))
    subst h5
    go_wp2_with (first | ((with_reducible refine isLd 23 ?_); (first | (refine L_fv H rfl 23 _ rfl 4 rfl _ rfl _ rfl rfl Try.underlying23 rfl (by kernel_rfl) ?_) | (refine L_fv H rfl 23 _ rfl 5 rfl _ rfl _ rfl rfl Try.underlying23 rfl (by kernel_rfl) ?_)); simp only [pA]) | ((with_reducible refine isLd 25 ?_); (refine L_fv H rfl 25 _ rfl 3 rfl _ rfl _ rfl rfl Try.underlying25 rfl (by kernel_rfl) ?_); simp only [pA]) | ((with_reducible refine isLd 26 ?_); (refine L_fv H rfl 26 _ rfl 2 rfl _ rfl _ rfl rfl Try.underlying26 rfl (by kernel_rfl) ?_); simp only [pA]) | ((with_reducible refine isLd 30 ?_); (refine L_fg H rfl 30 _ rfl 1 rfl _ rfl _ rfl (partsG (0) ((zv 16))) rfl Try.underlying30 rfl (by kernel_rfl) ?_); simp only [pA]) | ((with_reducible show wpList _ _ _ (Oper.mk (some 49) (Op.build _ _) _ _ _ _ :: _) _ _); (refine L_bd rfl 32 _ rfl #[(0, .int .u8 2), (2, .agg (own.1.map V8).toArray), (3, .agg (peer.1.map V8).toArray), (4, .agg (master.1.map V8).toArray), (5, .agg (nonce.1.map V8).toArray), (11, .agg (cat (partsG (0) ((zv 16)))).toArray)] (by kernel_rfl) (cat (partsF { fw0 with role := 2, own := own, peer := peer, master := master, mine := nonce, gid := 0, gkey := (zv 16) })) (HBF.out _ _) ?_); simp only [pA]) | ((with_reducible refine isSt 32 ?_); refine L_sa H rfl rfl 32 _ _ rfl 0 rfl rfl (partsF { fw0 with role := 2, own := own, peer := peer, master := master, mine := nonce, gid := 0, gkey := (zv 16) }) rfl rfl (by kernel_rfl) ?_; clear H; intro wz HWwz H; simp only [szA] at H))
    (exact ret_f2 H Try.results20 0 rfl rfl _ rfl Try.underlying32 rfl (by kernel_rfl) rfl (⟨by rw [HK.out]; rfl, H.out.1⟩))
  ·have HK := kp (HB.out (by simp [newB, r1, r2]))
   go_enter Try.func20, Try.ntmps20
   go_wp2_with (first | ((with_reducible refine isBx 7 23 ?_); (refine L_box H rfl 23 _ rfl (cat ([Lf.v own])) rfl ?_); clear H; intro g7 w7 HGg7 HEg7 H; simp only [pA]) | ((with_reducible refine isBx 8 23 ?_); (refine L_box H rfl 23 _ rfl (cat ([Lf.v peer])) rfl ?_); clear H; intro g8 w8 HGg8 HEg8 H; simp only [pA]) | ((with_reducible refine isBx 9 25 ?_); (refine L_box H rfl 25 _ rfl (cat ([Lf.v master])) rfl ?_); clear H; intro g9 w9 HGg9 HEg9 H; simp only [pA]) | ((with_reducible refine isBx 10 26 ?_); (refine L_box H rfl 26 _ rfl (cat ([Lf.v nonce])) rfl ?_); clear H; intro g10 w10 HGg10 HEg10 H; simp only [pA]) | ((with_reducible refine isBx 11 30 ?_); (refine L_box H rfl 30 _ rfl (cat (partsG gid gkey)) rfl ?_); clear H; intro g11 w11 HGg11 HEg11 H; simp only [pA]) | ((with_reducible refine isAl 12 32 ?_); (refine L_alloc H rfl 32 rfl (cat (partsF fw0)) (fun _ _ => by kernel_rfl) ?_); clear H; intro g12 w12 HGg12 HEg12 H; simp only [pA]) | ((with_reducible show wpList _ _ _ (Oper.mk _ (Op.build 32 _) _ _ _ _ :: _) _ _); (refine L_bd rfl 32 _ rfl #[] (by kernel_rfl) (cat (partsF fw0)) (fun _ => by kernel_rfl) ?_); simp only [pA]) | ((with_reducible refine isSt 32 ?_); refine L_sa H rfl rfl 32 _ _ rfl 0 rfl rfl (partsF fw0) rfl rfl (by kernel_rfl) ?_; clear H; intro wz HWwz H; simp only [szA] at H))
   all_goals first | (exfalso; simp_all; done) | (exact ret_f2 H Try.results20 0 rfl rfl _ rfl Try.underlying32 rfl (by kernel_rfl) rfl (⟨by rw [HK.out]; rfl, H.out.1⟩))
set_option maxHeartbeats 1600000 in
theorem rnone_any (s : Fw) (w : World) : Calls Try.prog 60 #[.agg (cat (partsF s)).toArray] w fun e w' => e = .returned (.bool (freshS s)) ∧ Ext w w' := by
 have H := kp (Loc.start w)
 go_enter Try.func60, Try.ntmps60
 cases h1 : decide (s.other = zv 16) with
 | false =>
  have HF := kp (show freshS s = false by unfold freshS; rw [h1]; rfl)
  go_wp2_with (first | ((with_reducible refine isBx 1 32 ?_); (refine L_box H rfl 32 _ rfl (cat (partsF s)) rfl ?_); clear H; intro g1 w1 HGg1 HEg1 H; simp only [pA]) | ((with_reducible refine isLd 26 ?_); (refine L_fv H rfl 26 _ rfl 0 rfl _ rfl _ rfl rfl Try.underlying26 rfl (by kernel_rfl) ?_); simp only [pA]) | ((with_reducible show wpList _ _ _ (Oper.mk _ (Op.build 26 _) _ _ _ _ :: _) _ _); (refine L_bd rfl 26 _ rfl #[] (by kernel_rfl) ((zv 16).1.map V8) (fun _ => by kernel_rfl) ?_); simp only [pA]) | (((with_reducible show wpList _ _ _ (Oper.mk _ (Op.binOp _ 26 _ _ _) _ _ _ _ :: _) _ _); (refine wpList_eq2 rfl 26 _ _ _ rfl _ _ _ rfl rfl Try.eqGuardType26 (eqV_in _ Try.underlying26 _ _ 9998) ?_); simp only [pA]); rw [h1]))
  go_ret
  exact ⟨congrArg (fun z => Ending.returned (.bool z)) HF.out.symm, H.out.1⟩
 | true =>
  have HF := kp (show freshS s = decide (s.pair = ks0) by unfold freshS; rw [h1]; rfl)
  go_wp2_with (first | ((with_reducible refine isBx 1 32 ?_); (refine L_box H rfl 32 _ rfl (cat (partsF s)) rfl ?_); clear H; intro g1 w1 HGg1 HEg1 H; simp only [pA]) | ((with_reducible refine isLd 26 ?_); (refine L_fv H rfl 26 _ rfl 0 rfl _ rfl _ rfl rfl Try.underlying26 rfl (by kernel_rfl) ?_); simp only [pA]) | ((with_reducible show wpList _ _ _ (Oper.mk _ (Op.build 26 _) _ _ _ _ :: _) _ _); (refine L_bd rfl 26 _ rfl #[] (by kernel_rfl) ((zv 16).1.map V8) (fun _ => by kernel_rfl) ?_); simp only [pA]) | (((with_reducible show wpList _ _ _ (Oper.mk _ (Op.binOp _ 26 _ _ _) _ _ _ _ :: _) _ _); (refine wpList_eq2 rfl 26 _ _ _ rfl _ _ _ rfl rfl Try.eqGuardType26 (eqV_in _ Try.underlying26 _ _ 9998) ?_); simp only [pA]); rw [h1]) | ((with_reducible refine isLd 28 ?_); (refine L_fg H rfl 28 _ rfl 0 rfl _ rfl _ rfl (partsK s.pair) rfl Try.underlying28 rfl (by kernel_rfl) ?_); simp only [pA]) | ((with_reducible show wpList _ _ _ (Oper.mk _ (Op.build 28 _) _ _ _ _ :: _) _ _); (refine L_bd rfl 28 _ rfl #[] (by kernel_rfl) (cat (partsK ks0)) (fun _ => by kernel_rfl) ?_); simp only [pA]) | ((with_reducible show wpList _ _ _ (Oper.mk _ (Op.binOp _ 28 _ _ _) _ _ _ _ :: _) _ _); (refine wpList_eq2 rfl 28 _ _ _ rfl _ _ _ rfl rfl Try.eqGuardType28 (eqK_in _ _ _ 9997) ?_); simp only [pA]))
  all_goals go_ret
  all_goals exact ⟨congrArg (fun z => Ending.returned (.bool z)) HF.out.symm, H.out.1⟩
theorem num_lt_iff {l m : By} (h : l.length = m.length) (k : Nat) (he : l.take k = m.take k) {x y : BitVec 8} (hx : l[k]? = some x) (hy : m[k]? = some y) (hne : x ≠ y) : decide (wI x < wI y) = decide (numF l < numF m) := by
 have hn : x.toNat ≠ y.toNat := fun e => hne (BitVec.eq_of_toNat_eq e)
 rcases Nat.lt_or_ge x.toNat y.toNat with q | q
 ·have := num_lt h k he hx hy q
  rw [decide_eq_true (show wI x < wI y by unfold wI; omega), decide_eq_true this]
 ·have := num_lt h.symm k he.symm hy hx (by omega)
  rw [decide_eq_false (show ¬ wI x < wI y by unfold wI; omega), decide_eq_false (by omega)]
set_option maxHeartbeats 1600000 in
theorem rsmaller_any (a b : Vc 6) (w : World) : Calls Try.prog 84 #[.agg (a.1.map V8).toArray, .agg (b.1.map V8).toArray] w fun e w' => e = .returned (.bool (decide (numF a.1 < numF b.1))) ∧ Ext w w' := by
 have H := kp (Loc.start w)
 go_enter Try.func84, Try.ntmps84
 go_wp2_with (first | ((with_reducible refine isBx 2 23 ?_); (refine L_box H rfl 23 _ rfl (cat ([Lf.v a])) rfl ?_); clear H; intro g2 w2 HGg2 HEg2 H; simp only [pA]) | ((with_reducible refine isBx 3 23 ?_); (refine L_box H rfl 23 _ rfl (cat ([Lf.v b])) rfl ?_); clear H; intro g3 w3 HGg3 HEg3 H; simp only [pA]))
 go_loopw [5] (fun i wr => ∃ k : Nat, k ≤ 6 ∧ i = .int .i64 k ∧ Kp (a.1.take k = b.1.take k) ∧ Kp (Loc w wr [(g3, 23, cat [Lf.v b]), (g2, 23, cat [Lf.v a])])) (fun i _ => 6 - (intOf i).toNat)
 case atStart => exact ⟨0, by omega, rfl, kp rfl, H⟩
 case round =>
  obtain ⟨k, hk, rfl, HT, H⟩ := hrel
  have ha := a.2
  have hb := b.2
  by_cases hlt : k < 6
  ·obtain ⟨x, hx⟩ : ∃ x, a.1[k]? = some x := ⟨_, List.getElem?_eq_getElem (by omega)⟩
   obtain ⟨y, hy⟩ : ∃ y, b.1[k]? = some y := ⟨_, List.getElem?_eq_getElem (by omega)⟩
   have HXK := kp (show (cat [Lf.v a])[k]? = some (.int .u8 (wI x)) from by rw [cat1]; show (a.1.map V8)[k]? = _; rw [List.getElem?_map, hx]; rfl)
   have HYK := kp (show (cat [Lf.v b])[k]? = some (.int .u8 (wI y)) from by rw [cat1]; show (b.1.map V8)[k]? = _; rw [List.getElem?_map, hy]; rfl)
   generalize h4 : (Code.region 4 _ _ : Code) = R4
   generalize h5 : (Code.region 5 _ _ : Code) = R5
   go_wp2_with fail
   all_goals try (exfalso; omega)
   by_cases hxy : x = y
   ·have HT2 := kp (show a.1.take (k + 1) = b.1.take (k + 1) from by rw [List.take_add_one, List.take_add_one, hx, hy, hxy, HT.out])
    subst hxy
    clear hx hy
    subst h4
    refine region_free H (tabS [(10, fun vQ _ => vQ = .int .i64 k), (11, fun vQ _ => vQ = .pointer (some ⟨g2, k, none⟩)), (12, fun vQ _ => vQ = .int .u8 (wI x)), (13, fun vQ _ => vQ = .int .i64 k), (14, fun vQ _ => vQ = .pointer (some ⟨g3, k, none⟩)), (15, fun vQ _ => vQ = .int .u8 (wI x)), (16, fun vQ _ => vQ = .bool false)]) [] (tabS_out _ _ (by simp only [List.forall_mem_cons, mono_eqO, true_and]; simp)) 7 (by kernel_rfl) (by kernel_rfl) (by kernel_rfl) (by kernel_rfl) [] [] rfl rfl (by decide) (by decide) (by decide) trivial ?_
    simp only [List.take_succ_cons, List.take_zero]
    refine ⟨fun w_ o_ S_ => ?_, fun v10 => ?_⟩
    ·clear S_
     clear o_
     go_wp2_with fail
     exact kso
    simp only [pA]
    refine ⟨fun w_ o_ S_ => ?_, fun v11 => ?_⟩
    ·obtain rfl : v10 = .int .i64 k := hsR S_ 10 rfl
     clear S_ o_
     go_wp2_with fail
     exact kso
    simp only [pA]
    refine ⟨fun w_ o_ S_ => ?_, fun v12 => ?_⟩
    ·obtain rfl : v11 = .pointer (some ⟨g2, k, none⟩) := hsR S_ 11 rfl
     clear S_
     have H := kp (kK [0, 1] H o_)
     have HOX := kp o_
     clear o_
     have hc := run_load_cell H.out 1 rfl _ _ HXK.out
     go_wp2_with fail
     exact kso
    simp only [pA]
    refine ⟨fun w_ o_ S_ => ?_, fun v13 => ?_⟩
    ·clear S_
     clear o_
     go_wp2_with fail
     exact kso
    simp only [pA]
    refine ⟨fun w_ o_ S_ => ?_, fun v14 => ?_⟩
    ·obtain rfl : v13 = .int .i64 k := hsR S_ 13 rfl
     clear S_ o_
     go_wp2_with fail
     exact kso
    simp only [pA]
    refine ⟨fun w_ o_ S_ => ?_, fun v15 => ?_⟩
    ·obtain rfl : v14 = .pointer (some ⟨g3, k, none⟩) := hsR S_ 14 rfl
     clear S_
     have H := kp (kK [0, 1] H o_)
     have HOX := kp o_
     clear o_
     have hc := run_load_cell H.out 0 rfl _ _ HYK.out
     go_wp2_with fail
     exact kso
    simp only [pA]
    refine ⟨fun w_ o_ S_ => ?_, fun v16 => ?_⟩
    ·obtain rfl : v12 = .int .u8 (wI x) := hsR S_ 12 rfl
     obtain rfl : v15 = .int .u8 (wI x) := hsR S_ 15 rfl
     clear S_ o_
     go_wp2_with fail
     exact kso
    simp only [pA]
    clear H
    intro wn HOX H hfin
    obtain rfl : v10 = .int .i64 k := hfin 10 (by decide)
    obtain rfl : v11 = .pointer (some ⟨g2, k, none⟩) := hfin 11 (by decide)
    obtain rfl : v12 = .int .u8 (wI x) := hfin 12 (by decide)
    obtain rfl : v13 = .int .i64 k := hfin 13 (by decide)
    obtain rfl : v14 = .pointer (some ⟨g3, k, none⟩) := hfin 14 (by decide)
    obtain rfl : v15 = .int .u8 (wI x) := hfin 15 (by decide)
    obtain rfl : v16 = .bool false := hfin 16 (by decide)
    clear hfin
    simp only [List.drop_succ_cons, List.drop_zero]
    simp only [applyS] at H
    have HXN := kp (HOX.out.ext (Ext.refl wr) (fun g hg => by cases hg))
    go_wp2_with fail
    go_roundw
    case rel => exact ⟨k + 1, by omega, by go_num, HT2, H⟩
    case measure => simp [intOf]; omega
   ·have HF := kp (num_lt_iff (a.2.trans b.2.symm) k HT.out hx hy hxy)
    have hbb : (x != y) = true := by simpa using hxy
    clear hx hy hxy
    subst h4
    refine region_free H (tabS [(10, fun vQ _ => vQ = .int .i64 k), (11, fun vQ _ => vQ = .pointer (some ⟨g2, k, none⟩)), (12, fun vQ _ => vQ = .int .u8 (wI x)), (13, fun vQ _ => vQ = .int .i64 k), (14, fun vQ _ => vQ = .pointer (some ⟨g3, k, none⟩)), (15, fun vQ _ => vQ = .int .u8 (wI y)), (16, fun vQ _ => vQ = .bool true)]) [] (tabS_out _ _ (by simp only [List.forall_mem_cons, mono_eqO, true_and]; simp)) 7 (by kernel_rfl) (by kernel_rfl) (by kernel_rfl) (by kernel_rfl) [] [] rfl rfl (by decide) (by decide) (by decide) trivial ?_
    simp only [List.take_succ_cons, List.take_zero]
    refine ⟨fun w_ o_ S_ => ?_, fun v10 => ?_⟩
    ·clear S_
     clear o_
     go_wp2_with fail
     exact kso
    simp only [pA]
    refine ⟨fun w_ o_ S_ => ?_, fun v11 => ?_⟩
    ·obtain rfl : v10 = .int .i64 k := hsR S_ 10 rfl
     clear S_ o_
     go_wp2_with fail
     exact kso
    simp only [pA]
    refine ⟨fun w_ o_ S_ => ?_, fun v12 => ?_⟩
    ·obtain rfl : v11 = .pointer (some ⟨g2, k, none⟩) := hsR S_ 11 rfl
     clear S_
     have H := kp (kK [0, 1] H o_)
     have HOX := kp o_
     clear o_
     have hc := run_load_cell H.out 1 rfl _ _ HXK.out
     go_wp2_with fail
     exact kso
    simp only [pA]
    refine ⟨fun w_ o_ S_ => ?_, fun v13 => ?_⟩
    ·clear S_
     clear o_
     go_wp2_with fail
     exact kso
    simp only [pA]
    refine ⟨fun w_ o_ S_ => ?_, fun v14 => ?_⟩
    ·obtain rfl : v13 = .int .i64 k := hsR S_ 13 rfl
     clear S_ o_
     go_wp2_with fail
     exact kso
    simp only [pA]
    refine ⟨fun w_ o_ S_ => ?_, fun v15 => ?_⟩
    ·obtain rfl : v14 = .pointer (some ⟨g3, k, none⟩) := hsR S_ 14 rfl
     clear S_
     have H := kp (kK [0, 1] H o_)
     have HOX := kp o_
     clear o_
     have hc := run_load_cell H.out 0 rfl _ _ HYK.out
     go_wp2_with fail
     exact kso
    simp only [pA]
    refine ⟨fun w_ o_ S_ => ?_, fun v16 => ?_⟩
    ·obtain rfl : v12 = .int .u8 (wI x) := hsR S_ 12 rfl
     obtain rfl : v15 = .int .u8 (wI y) := hsR S_ 15 rfl
     clear S_ o_
     go_wp2_with fail
     exact kso
    simp only [pA]
    clear H
    intro wn HOX H hfin
    obtain rfl : v10 = .int .i64 k := hfin 10 (by decide)
    obtain rfl : v11 = .pointer (some ⟨g2, k, none⟩) := hfin 11 (by decide)
    obtain rfl : v12 = .int .u8 (wI x) := hfin 12 (by decide)
    obtain rfl : v13 = .int .i64 k := hfin 13 (by decide)
    obtain rfl : v14 = .pointer (some ⟨g3, k, none⟩) := hfin 14 (by decide)
    obtain rfl : v15 = .int .u8 (wI y) := hfin 15 (by decide)
    obtain rfl : v16 = .bool true := hfin 16 (by decide)
    clear hfin
    simp only [List.drop_succ_cons, List.drop_zero]
    simp only [applyS] at H
    have HXN := kp (HOX.out.ext (Ext.refl wr) (fun g hg => by cases hg))
    go_wp2_with fail
    subst h5
    refine region_free H (tabS [(17, fun vQ _ => vQ = .int .i64 k), (18, fun vQ _ => vQ = .pointer (some ⟨g2, k, none⟩)), (19, fun vQ _ => vQ = .int .u8 (wI x)), (20, fun vQ _ => vQ = .int .i64 k), (21, fun vQ _ => vQ = .pointer (some ⟨g3, k, none⟩)), (22, fun vQ _ => vQ = .int .u8 (wI y)), (23, fun vQ _ => vQ = .bool (decide (wI x < wI y))), (4, fun vQ _ => vQ = .bool (decide (wI x < wI y)))]) [] (tabS_out _ _ (by simp only [List.forall_mem_cons, mono_eqO, true_and]; simp)) 8 (by kernel_rfl) (by kernel_rfl) (by kernel_rfl) (by kernel_rfl) [] [] rfl rfl (by decide) (by decide) (by decide) trivial ?_
    simp only [List.take_succ_cons, List.take_zero]
    refine ⟨fun w_ o_ S_ => ?_, fun v17 => ?_⟩
    ·clear S_
     clear o_
     go_wp2_with fail
     exact kso
    simp only [pA]
    refine ⟨fun w_ o_ S_ => ?_, fun v18 => ?_⟩
    ·obtain rfl : v17 = .int .i64 k := hsR S_ 17 rfl
     clear S_ o_
     go_wp2_with fail
     exact kso
    simp only [pA]
    refine ⟨fun w_ o_ S_ => ?_, fun v19 => ?_⟩
    ·obtain rfl : v18 = .pointer (some ⟨g2, k, none⟩) := hsR S_ 18 rfl
     clear S_
     have H := kp (kK [0, 1] H o_)
     have HOX := kp o_
     clear o_
     have hc := run_load_cell H.out 1 rfl _ _ HXK.out
     go_wp2_with fail
     exact kso
    simp only [pA]
    refine ⟨fun w_ o_ S_ => ?_, fun v20 => ?_⟩
    ·clear S_
     clear o_
     go_wp2_with fail
     exact kso
    simp only [pA]
    refine ⟨fun w_ o_ S_ => ?_, fun v21 => ?_⟩
    ·obtain rfl : v20 = .int .i64 k := hsR S_ 20 rfl
     clear S_ o_
     go_wp2_with fail
     exact kso
    simp only [pA]
    refine ⟨fun w_ o_ S_ => ?_, fun v22 => ?_⟩
    ·obtain rfl : v21 = .pointer (some ⟨g3, k, none⟩) := hsR S_ 21 rfl
     clear S_
     have H := kp (kK [0, 1] H o_)
     have HOX := kp o_
     clear o_
     have hc := run_load_cell H.out 0 rfl _ _ HYK.out
     go_wp2_with fail
     exact kso
    simp only [pA]
    refine ⟨fun w_ o_ S_ => ?_, fun v23 => ?_⟩
    ·obtain rfl : v19 = .int .u8 (wI x) := hsR S_ 19 rfl
     obtain rfl : v22 = .int .u8 (wI y) := hsR S_ 22 rfl
     clear S_ o_
     go_wp2_with fail
     exact kso
    simp only [pA]
    refine ⟨fun w_ o_ S_ => ?_, fun v4 => ?_⟩
    ·obtain rfl : v23 = .bool (decide (wI x < wI y)) := hsR S_ 23 rfl
     clear S_ o_
     go_wp2_with fail
     exact kso
    simp only [pA]
    clear H
    intro wm HOX H hfin
    obtain rfl : v17 = .int .i64 k := hfin 17 (by decide)
    obtain rfl : v18 = .pointer (some ⟨g2, k, none⟩) := hfin 18 (by decide)
    obtain rfl : v19 = .int .u8 (wI x) := hfin 19 (by decide)
    obtain rfl : v20 = .int .i64 k := hfin 20 (by decide)
    obtain rfl : v21 = .pointer (some ⟨g3, k, none⟩) := hfin 21 (by decide)
    obtain rfl : v22 = .int .u8 (wI y) := hfin 22 (by decide)
    obtain rfl : v23 = .bool (decide (wI x < wI y)) := hfin 23 (by decide)
    obtain rfl : v4 = .bool (decide (wI x < wI y)) := hfin 4 (by decide)
    clear hfin
    simp only [List.drop_succ_cons, List.drop_zero]
    simp only [applyS] at H
    have HXN := kp (HOX.out.ext (Ext.refl wn) (fun g hg => by cases hg))
    go_wp2_with fail
    go_ret
    exact ⟨congrArg (fun z => Ending.returned (.bool z)) HF.out, H.out.1⟩
  ·obtain rfl : k = 6 := by omega
   have HF := kp (show decide (numF a.1 < numF b.1) = false from by
    have e : a.1 = b.1 := by have := HT.out; rwa [List.take_of_length_le (by omega), List.take_of_length_le (by omega)] at this
    rw [e]; simp)
   go_wp2_with fail
   all_goals try (exfalso; omega)
   go_ret
   exact ⟨congrArg (fun z => Ending.returned (.bool z)) HF.out.symm, H.out.1⟩
theorem outTo_at (ks : List (BitVec 8)) (s : ByteArray) (c : List (BitVec 8)) (i : Nat) : ∀ k, i < 16 * k → (outTo ks s c k)[i]? = (macF ks (inputF s c ((i / 16 : Nat) : Int)))[i % 16]?
 | 0, h => by omega
 | k + 1, h => by
  rw [outTo]
  by_cases hi : i < 16 * k
  ·rw [List.getElem?_append_left (by rw [outTo_len]; exact hi)]
   exact outTo_at ks s c i k hi
  ·rw [List.getElem?_append_right (by rw [outTo_len]; omega), outTo_len, show i / 16 = k by omega, show i - 16 * k = i % 16 by omega]
theorem expandF_at (ks : List (BitVec 8)) (s : ByteArray) (c : List (BitVec 8)) (n i : Nat) (h : i < n) : (expandF ks s c n)[i]? = (macF ks (inputF s c ((i / 16 : Nat) : Int)))[i % 16]? := by
 unfold expandF
 rw [List.getElem?_take, if_pos h]
 exact outTo_at ks s c i _ (by omega)
end Go.Proofs.Ytibncchobkaaiaa
