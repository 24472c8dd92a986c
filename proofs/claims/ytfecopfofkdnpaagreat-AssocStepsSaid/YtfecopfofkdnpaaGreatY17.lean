/- Texts of this proof, put together: Rf3, Rf4, Rf5. -/
import Derived.Test.YtfecopfofkdnpaaGreatY13
import Derived.Test.YtfecopfofkdnpaaGreatY11
import Derived.Test.YtfecopfofkdnpaaGreatY16
import Derived.Test.YtfecopfofkdnpaaGreatY10
import Derived.Test.YtfecopfofkdnpaaGreatY1
namespace Go.Proofs.YtfecopfofkdnpaaGreat
open Go.RowKit Tryz
def NewI (vs:List Int) (v:Value) (w:World):Prop:=∃ g,v=.slice (some ⟨g,0,none⟩) vs.length vs.length∧Lc w g 3 (vs.flatMap cI)
theorem mono_NewI (vs:List Int):MonoO [] (NewI vs):=fun _ _ _ ⟨g,h1,h2⟩ ho=>⟨g,h1,ho.lc h2 (by simp)⟩
def OwV (B:Nat) (l:By) (v:Value) (w:World):Prop:=OwB B w v l
theorem mono_OwV (B:Nat) (l:By):MonoO [] (OwV B l):=fun _ _ _ h ho=>owns_ext h (out_ext ho)
def OwT (B:Nat) (l:By) (v:Value) (w:World):Prop:=∃ u,v=.tuple #[u,.int .i64 0]∧OwB B w u l
theorem mono_OwT (B:Nat) (l:By):MonoO [] (OwT B l):=fun _ _ _ ⟨u,h1,h2⟩ ho=>⟨u,h1,owns_ext h2 (out_ext ho)⟩
theorem owV_1 {B:Nat} {w:World} {v:Value} {x:Int} (h:OwV B (flat2 [x]) v w):OwB B w v (two16 x):=by have:=flat2_1 x;rw[List.nil_append] at this;rw[←this];exact h
theorem owV_3 {B:Nat} {w:World} {v:Value} {x y z:Int} (h:OwV B (flat2 [x,y,z]) v w):OwB B w v (two16 x++two16 y++two16 z):=by have:=flat2_3 x y z;rw[List.nil_append] at this;rw[←this];exact h
set_option maxHeartbeats 1600000 in
theorem encReasonR_any (x:Int) (h0:0≤x) (h1:x≤65535) (w:World) :
  Calls prog 67 #[.agg (cat (partsRe x)).toArray] w (WrO (two16 x) w):=by
 have H:=kp (Loc.start w);have HX2:=kp (show ∀ v∈[x],0≤v∧v≤65535 by intro v hv;simp at hv;subst hv;exact⟨h0,h1⟩);go_enter func67,ntmps67;generalize hr1:Code.region 1 _ _=R1;go_wp2_with ((with_reducible refine isBx 1 85 ?_);(refine xBX H 85 (cat (partsRe x)) ?_);clear H;intro g1 w1 HGg1 HEg1 H;simp only[pA]);subst hr1;have HW1:=kp H.out.1.size;refine region_free H (tabS [(7,eT (.pointer (some ⟨g1,0,none⟩))),(8,eT (.int .u16 x)),(9,eT (.int .i64 x)),(10,fun vQ wQ=>NewI [x] vQ wQ),(11,fun vQ wQ=>OwV w.heap.size (flat2 [x]) vQ wQ),(12,eT (.pointer (some ⟨g1,1,none⟩))),(13,eT (.slice none 0 0)),(14,fun vQ wQ=>OwT w.heap.size (flat2 [x]) vQ wQ),(6,fun vQ wQ=>OwT w.heap.size (flat2 [x]) vQ wQ),(15,fun vQ wQ=>OwV w.heap.size (flat2 [x]) vQ wQ),(16,eT (.int .i64 0)),(4,fun vQ wQ=>OwV w.heap.size (flat2 [x]) vQ wQ),(5,eT (.int .i64 0))]) [] (tabS_out _ _ (by simp only[List.forall_mem_cons,mono_eqO,true_and];exact⟨(mono_NewI _),(mono_OwV _ _),(mono_OwT _ _),(mono_OwT _ _),(mono_OwV _ _),(mono_OwV _ _),by simp⟩)) 13 (by kernel_rfl) (by kernel_rfl) (by kernel_rfl) (by kernel_rfl) [] [] rfl rfl (by decide) (by decide) (by decide) trivial ?_;simp only[tK];refine rT (fun w_=>by go_wp2_with fail;exact kso) fun v7=>?_;simp only[pA];refine⟨fun w_ o_ S_=>?_,fun v8=>?_⟩
 ·obtain rfl:v7=_:=hsR S_ 7 rfl;clear S_;have H:=kp (kK [0] H o_);have HOX:=kp o_;clear o_;go_wp2_with ((with_reducible refine isLd 72 ?_);(refine xF1 H 72 0 underlying72 ?_);simp only[pA]);exact kso
 simp only[pA];refine⟨fun w_ o_ S_=>?_,fun v9=>?_⟩
 ·obtain rfl:v8=_:=hsR S_ 8 rfl;clear S_;have H:=kp (kK [0] H o_);have HOX:=kp o_;clear o_;go_wp2_with fail;exact kso
 simp only[pA];refine⟨fun w_ o_ S_=>?_,fun v10=>?_⟩
 ·obtain rfl:v9=_:=hsR S_ 9 rfl;clear S_;have H:=kp (kK [0] H o_);have HOX:=kp o_;clear o_;go_wp2_with ((with_reducible refine isBs 10 172 ?_);(refine xBS H 172 1 (#[(0,.int .i64 x)]) 3 ([x].flatMap cI) (fun _=>by kernel_rfl) ?_);clear H;intro gi wi HGgi HEgi H;simp only[pA]);exact⟨rfl,_,rfl,fun d hd=>by cases hd;exact⟨gi,rfl,H.out.at 0 rfl⟩,HEgi.out⟩
 simp only[pA];refine⟨fun w_ o_ S_=>?_,fun v11=>?_⟩
 ·have h10:=kp (show NewI [x] v10 w_ from hsR S_ 10 rfl);clear S_;have H:=kp (kK [0] H o_);have HOX:=kp o_;clear o_;obtain⟨gg,rfl,hL⟩:=h10.out;have HLB:=kp hL;clear hL;go_wp2_with fail;refine (put06_any [x] HX2.out (by simp) gg _ rfl _ HLB.out).mono ?_;rintro e w2 ⟨v,rfl,ho,hx⟩;have HO:=kp (show OwV w.heap.size (flat2 [x]) v w2 from owns_weak ho (Nat.le_trans HW1.out HOX.out.size));have HXC:=kp hx;clear ho hx;go_wp2_with fail;exact⟨rfl,_,rfl,fun d hd=>by cases hd;exact HO.out,HXC.out⟩
 simp only[pA];refine rT (fun w_=>by go_wp2_with fail;exact kso) fun v12=>?_;simp only[pA];refine⟨fun w_ o_ S_=>?_,fun v13=>?_⟩
 ·obtain rfl:v12=_:=hsR S_ 12 rfl;clear S_;have H:=kp (kK [0] H o_);have HOX:=kp o_;clear o_;go_wp2_with ((with_reducible refine isLd 83 ?_);(refine xF1 H 83 0 underlying83 ?_);simp only[pA]);exact kso
 simp only[pA];refine⟨fun w_ o_ S_=>?_,fun v14=>?_⟩
 ·have h11:=kp (show OwV w.heap.size (flat2 [x]) v11 w_ from hsR S_ 11 rfl);obtain rfl:v13=_:=hsR S_ 13 rfl;clear S_;have H:=kp (kK [0] H o_);have HOX:=kp o_;clear o_;obtain⟨av,nv,cv,rfl⟩:=owns_form2 h11.out;have HSB:=kp (SlB.of_owns h11.out);clear h11;go_wp2_with fail;refine (done0_any _ _ _ _ (by simp[two16,flat2]) _ HSB.out).mono ?_;rintro e w2 ⟨v,rfl,ho,hx⟩;have HO:=kp (show OwT w.heap.size (flat2 [x]) _ w2 from⟨v,rfl,owns_weak ho (Nat.le_trans HW1.out HOX.out.size)⟩);have HXC:=kp hx;clear ho hx;go_wp2_with fail;exact⟨rfl,_,rfl,fun d hd=>by cases hd;exact HO.out,HXC.out⟩
 simp only[pA];refine⟨fun w_ o_ S_=>?_,fun v6=>?_⟩
 ·have h14:=kp (show OwT w.heap.size (flat2 [x]) v14 w_ from hsR S_ 14 rfl);clear S_ o_;go_wp2_with fail;exact⟨rfl,_,rfl,fun d hd=>by cases hd;exact h14.out,Ext.refl _⟩
 simp only[pA];refine⟨fun w_ o_ S_=>?_,fun v15=>?_⟩
 ·have h6:=kp (show OwT w.heap.size (flat2 [x]) v6 w_ from hsR S_ 6 rfl);clear S_;have H:=kp (kK [0] H o_);have HOX:=kp o_;clear o_;obtain⟨u,rfl,ho⟩:=h6.out;have HO:=kp ho;clear ho;go_wp2_with fail;exact⟨rfl,_,rfl,fun d hd=>by cases hd;exact HO.out,Ext.refl _⟩
 simp only[pA];refine⟨fun w_ o_ S_=>?_,fun v16=>?_⟩
 ·have h6:=kp (show OwT w.heap.size (flat2 [x]) v6 w_ from hsR S_ 6 rfl);clear S_;have H:=kp (kK [0] H o_);have HOX:=kp o_;clear o_;obtain⟨u,rfl,ho⟩:=h6.out;clear ho;go_wp2_with fail;exact kso
 simp only[pA];refine⟨fun w_ o_ S_=>?_,fun v4=>?_⟩
 ·have h15:=kp (show OwV w.heap.size (flat2 [x]) v15 w_ from hsR S_ 15 rfl);clear S_ o_;go_wp2_with fail;exact⟨rfl,_,rfl,fun d hd=>by cases hd;exact h15.out,Ext.refl _⟩
 simp only[pA];refine rO 16 rfl (fun w_ e0=>by obtain rfl:v16=_:=e0;go_wp2_with fail;exact kso) fun v5=>?_;simp only[pA];clear H;intro wk HOX H hfin;obtain rfl:v7=_:=hF hfin 7 rfl;obtain rfl:v8=_:=hF hfin 8 rfl;obtain rfl:v9=_:=hF hfin 9 rfl;have F10:=kp (show NewI [x] v10 wk from hfin 10 (by decide));have F11:=kp (show OwV w.heap.size (flat2 [x]) v11 wk from hfin 11 (by decide));obtain rfl:v12=_:=hF hfin 12 rfl;obtain rfl:v13=_:=hF hfin 13 rfl;have F14:=kp (show OwT w.heap.size (flat2 [x]) v14 wk from hfin 14 (by decide));have F6:=kp (show OwT w.heap.size (flat2 [x]) v6 wk from hfin 6 (by decide));have F15:=kp (show OwV w.heap.size (flat2 [x]) v15 wk from hfin 15 (by decide));obtain rfl:v16=_:=hF hfin 16 rfl;have F4:=kp (show OwV w.heap.size (flat2 [x]) v4 wk from hfin 4 (by decide));obtain rfl:v5=_:=hF hfin 5 rfl;clear hfin;simp only[dR];simp only[applyS] at H;have HXN:=kp (HOX.out.ext (Ext.refl w1) (fun g hg=>by cases hg));go_wp2_with fail;go_ret2
 exact⟨_,rfl,owV_1 F4.out,H.out.1⟩
set_option maxHeartbeats 1600000 in
theorem encAuthR_any (x y z:Int) (hx:0≤x∧x≤65535) (hy:0≤y∧y≤65535) (hz:0≤z∧z≤65535) (w:World) :
  Calls prog 70 #[.agg (cat (partsAu x y z)).toArray] w (WrO (two16 x++two16 y++two16 z) w):=by
 have H:=kp (Loc.start w);have HX2:=kp (three_range hx hy hz);obtain⟨h0,h1⟩:=hx;obtain⟨h2,h3⟩:=hy;obtain⟨h4,h5⟩:=hz;go_enter func70,ntmps70;generalize hr1:Code.region 1 _ _=R1;go_wp2_with ((with_reducible refine isBx 1 119 ?_);(refine xBX H 119 (cat (partsAu x y z)) ?_);clear H;intro g1 w1 HGg1 HEg1 H;simp only[pA]);subst hr1;have HW1:=kp H.out.1.size;refine region_free H (tabS [(7,eT (.pointer (some ⟨g1,0,none⟩))),(8,eT (.int .u16 x)),(9,eT (.int .i64 x)),(10,eT (.pointer (some ⟨g1,1,none⟩))),(11,eT (.int .u16 y)),(12,eT (.int .i64 y)),(13,eT (.pointer (some ⟨g1,2,none⟩))),(14,eT (.int .u16 z)),(15,eT (.int .i64 z)),(16,fun vQ wQ=>NewI [x,y,z] vQ wQ),(17,fun vQ wQ=>OwV w.heap.size (flat2 [x,y,z]) vQ wQ),(18,eT (.pointer (some ⟨g1,3,none⟩))),(19,eT (.slice none 0 0)),(20,fun vQ wQ=>OwT w.heap.size (flat2 [x,y,z]) vQ wQ),(6,fun vQ wQ=>OwT w.heap.size (flat2 [x,y,z]) vQ wQ),(21,fun vQ wQ=>OwV w.heap.size (flat2 [x,y,z]) vQ wQ),(22,eT (.int .i64 0)),(4,fun vQ wQ=>OwV w.heap.size (flat2 [x,y,z]) vQ wQ),(5,eT (.int .i64 0))]) [] (tabS_out _ _ (by simp only[List.forall_mem_cons,mono_eqO,true_and];exact⟨(mono_NewI _),(mono_OwV _ _),(mono_OwT _ _),(mono_OwT _ _),(mono_OwV _ _),(mono_OwV _ _),by simp⟩)) 19 (by kernel_rfl) (by kernel_rfl) (by kernel_rfl) (by kernel_rfl) [] [] rfl rfl (by decide) (by decide) (by decide) trivial ?_;simp only[tK];refine rT (fun w_=>by go_wp2_with fail;exact kso) fun v7=>?_;simp only[pA];refine⟨fun w_ o_ S_=>?_,fun v8=>?_⟩
 ·obtain rfl:v7=_:=hsR S_ 7 rfl;clear S_;have H:=kp (kK [0] H o_);have HOX:=kp o_;clear o_;go_wp2_with ((with_reducible refine isLd 72 ?_);(refine xF1 H 72 0 underlying72 ?_);simp only[pA]);exact kso
 simp only[pA];refine⟨fun w_ o_ S_=>?_,fun v9=>?_⟩
 ·obtain rfl:v8=_:=hsR S_ 8 rfl;clear S_;have H:=kp (kK [0] H o_);have HOX:=kp o_;clear o_;go_wp2_with fail;exact kso
 simp only[pA];refine rT (fun w_=>by go_wp2_with fail;exact kso) fun v10=>?_;simp only[pA];refine⟨fun w_ o_ S_=>?_,fun v11=>?_⟩
 ·obtain rfl:v10=_:=hsR S_ 10 rfl;clear S_;have H:=kp (kK [0] H o_);have HOX:=kp o_;clear o_;go_wp2_with ((with_reducible refine isLd 72 ?_);(refine xF1 H 72 0 underlying72 ?_);simp only[pA]);exact kso
 simp only[pA];refine⟨fun w_ o_ S_=>?_,fun v12=>?_⟩
 ·obtain rfl:v11=_:=hsR S_ 11 rfl;clear S_;have H:=kp (kK [0] H o_);have HOX:=kp o_;clear o_;go_wp2_with fail;exact kso
 simp only[pA];refine rT (fun w_=>by go_wp2_with fail;exact kso) fun v13=>?_;simp only[pA];refine⟨fun w_ o_ S_=>?_,fun v14=>?_⟩
 ·obtain rfl:v13=_:=hsR S_ 13 rfl;clear S_;have H:=kp (kK [0] H o_);have HOX:=kp o_;clear o_;go_wp2_with ((with_reducible refine isLd 72 ?_);(refine xF1 H 72 0 underlying72 ?_);simp only[pA]);exact kso
 simp only[pA];refine⟨fun w_ o_ S_=>?_,fun v15=>?_⟩
 ·obtain rfl:v14=_:=hsR S_ 14 rfl;clear S_;have H:=kp (kK [0] H o_);have HOX:=kp o_;clear o_;go_wp2_with fail;exact kso
 simp only[pA];refine⟨fun w_ o_ S_=>?_,fun v16=>?_⟩
 ·obtain rfl:v9=_:=hsR S_ 9 rfl;obtain rfl:v12=_:=hsR S_ 12 rfl;obtain rfl:v15=_:=hsR S_ 15 rfl;clear S_;have H:=kp (kK [0] H o_);have HOX:=kp o_;clear o_;go_wp2_with ((with_reducible refine isBs 16 172 ?_);(refine xBS H 172 3 (#[(0,.int .i64 x),(1,.int .i64 y),(2,.int .i64 z)]) 3 ([x,y,z].flatMap cI) (fun _=>by kernel_rfl) ?_);clear H;intro gi wi HGgi HEgi H;simp only[pA]);exact⟨rfl,_,rfl,fun d hd=>by cases hd;exact⟨gi,rfl,H.out.at 0 rfl⟩,HEgi.out⟩
 simp only[pA];refine⟨fun w_ o_ S_=>?_,fun v17=>?_⟩
 ·have h16:=kp (show NewI [x,y,z] v16 w_ from hsR S_ 16 rfl);clear S_;have H:=kp (kK [0] H o_);have HOX:=kp o_;clear o_;obtain⟨gg,rfl,hL⟩:=h16.out;have HLB:=kp hL;clear hL;go_wp2_with fail;refine (put06_any [x,y,z] HX2.out (by simp) gg _ rfl _ HLB.out).mono ?_;rintro e w2 ⟨v,rfl,ho,hx⟩;have HO:=kp (show OwV w.heap.size (flat2 [x,y,z]) v w2 from owns_weak ho (Nat.le_trans HW1.out HOX.out.size));have HXC:=kp hx;clear ho hx;go_wp2_with fail;exact⟨rfl,_,rfl,fun d hd=>by cases hd;exact HO.out,HXC.out⟩
 simp only[pA];refine rT (fun w_=>by go_wp2_with fail;exact kso) fun v18=>?_;simp only[pA];refine⟨fun w_ o_ S_=>?_,fun v19=>?_⟩
 ·obtain rfl:v18=_:=hsR S_ 18 rfl;clear S_;have H:=kp (kK [0] H o_);have HOX:=kp o_;clear o_;go_wp2_with ((with_reducible refine isLd 83 ?_);(refine xF1 H 83 0 underlying83 ?_);simp only[pA]);exact kso
 simp only[pA];refine⟨fun w_ o_ S_=>?_,fun v20=>?_⟩
 ·have h17:=kp (show OwV w.heap.size (flat2 [x,y,z]) v17 w_ from hsR S_ 17 rfl);obtain rfl:v19=_:=hsR S_ 19 rfl;clear S_;have H:=kp (kK [0] H o_);have HOX:=kp o_;clear o_;obtain⟨av,nv,cv,rfl⟩:=owns_form2 h17.out;have HSB:=kp (SlB.of_owns h17.out);clear h17;go_wp2_with fail;refine (done0_any _ _ _ _ (by simp[two16,flat2]) _ HSB.out).mono ?_;rintro e w2 ⟨v,rfl,ho,hx⟩;have HO:=kp (show OwT w.heap.size (flat2 [x,y,z]) _ w2 from⟨v,rfl,owns_weak ho (Nat.le_trans HW1.out HOX.out.size)⟩);have HXC:=kp hx;clear ho hx;go_wp2_with fail;exact⟨rfl,_,rfl,fun d hd=>by cases hd;exact HO.out,HXC.out⟩
 simp only[pA];refine⟨fun w_ o_ S_=>?_,fun v6=>?_⟩
 ·have h20:=kp (show OwT w.heap.size (flat2 [x,y,z]) v20 w_ from hsR S_ 20 rfl);clear S_ o_;go_wp2_with fail;exact⟨rfl,_,rfl,fun d hd=>by cases hd;exact h20.out,Ext.refl _⟩
 simp only[pA];refine⟨fun w_ o_ S_=>?_,fun v21=>?_⟩
 ·have h6:=kp (show OwT w.heap.size (flat2 [x,y,z]) v6 w_ from hsR S_ 6 rfl);clear S_;have H:=kp (kK [0] H o_);have HOX:=kp o_;clear o_;obtain⟨u,rfl,ho⟩:=h6.out;have HO:=kp ho;clear ho;go_wp2_with fail;exact⟨rfl,_,rfl,fun d hd=>by cases hd;exact HO.out,Ext.refl _⟩
 simp only[pA];refine⟨fun w_ o_ S_=>?_,fun v22=>?_⟩
 ·have h6:=kp (show OwT w.heap.size (flat2 [x,y,z]) v6 w_ from hsR S_ 6 rfl);clear S_;have H:=kp (kK [0] H o_);have HOX:=kp o_;clear o_;obtain⟨u,rfl,ho⟩:=h6.out;clear ho;go_wp2_with fail;exact kso
 simp only[pA];refine⟨fun w_ o_ S_=>?_,fun v4=>?_⟩
 ·have h21:=kp (show OwV w.heap.size (flat2 [x,y,z]) v21 w_ from hsR S_ 21 rfl);clear S_ o_;go_wp2_with fail;exact⟨rfl,_,rfl,fun d hd=>by cases hd;exact h21.out,Ext.refl _⟩
 simp only[pA];refine rO 22 rfl (fun w_ e0=>by obtain rfl:v22=_:=e0;go_wp2_with fail;exact kso) fun v5=>?_;simp only[pA];clear H;intro wk HOX H hfin;obtain rfl:v7=_:=hF hfin 7 rfl;obtain rfl:v8=_:=hF hfin 8 rfl;obtain rfl:v9=_:=hF hfin 9 rfl;obtain rfl:v10=_:=hF hfin 10 rfl;obtain rfl:v11=_:=hF hfin 11 rfl;obtain rfl:v12=_:=hF hfin 12 rfl;obtain rfl:v13=_:=hF hfin 13 rfl;obtain rfl:v14=_:=hF hfin 14 rfl;obtain rfl:v15=_:=hF hfin 15 rfl;have F16:=kp (show NewI [x,y,z] v16 wk from hfin 16 (by decide));have F17:=kp (show OwV w.heap.size (flat2 [x,y,z]) v17 wk from hfin 17 (by decide));obtain rfl:v18=_:=hF hfin 18 rfl;obtain rfl:v19=_:=hF hfin 19 rfl;have F20:=kp (show OwT w.heap.size (flat2 [x,y,z]) v20 wk from hfin 20 (by decide));have F6:=kp (show OwT w.heap.size (flat2 [x,y,z]) v6 wk from hfin 6 (by decide));have F21:=kp (show OwV w.heap.size (flat2 [x,y,z]) v21 wk from hfin 21 (by decide));obtain rfl:v22=_:=hF hfin 22 rfl;have F4:=kp (show OwV w.heap.size (flat2 [x,y,z]) v4 wk from hfin 4 (by decide));obtain rfl:v5=_:=hF hfin 5 rfl;clear hfin;simp only[dR];simp only[applyS] at H;have HXN:=kp (HOX.out.ext (Ext.refl w1) (fun g hg=>by cases hg));go_wp2_with fail;go_ret2
 exact⟨_,rfl,owV_3 F4.out,H.out.1⟩
set_option maxHeartbeats 1600000 in
theorem encRespR_any (x y z:Int) (hx:0≤x∧x≤65535) (hy:0≤y∧y≤65535) (hz:0≤z∧z≤255) (w:World) :
  Calls prog 73 #[.agg (cat (partsRs x y z)).toArray] w (WrO (two16 x++two16 y++two16 z) w):=by
 have H:=kp (Loc.start w);have HX2:=kp (three_range hx hy (show 0≤z∧z≤65535 by omega));obtain⟨h0,h1⟩:=hx;obtain⟨h2,h3⟩:=hy;obtain⟨h4,h5⟩:=hz;have hz0:¬ z<0:=by omega
 have hz1:¬ 255<z:=by omega
 go_enter func73,ntmps73;generalize hr2:Code.region 2 _ _=R2;go_wp2_with (first|((with_reducible refine isBx 1 128 ?_);(refine xBX H 128 (cat (partsRs x y z)) ?_);clear H;intro g1 w1 HGg1 HEg1 H;simp only[pA])|((with_reducible refine isLd 3 ?_);(refine xF1 H 3 0 underlying3 ?_);simp only[pA]));subst hr2;have HW1:=kp H.out.1.size;refine region_free H (tabS [(16,eT (.bool false)),(17,eT (.pointer (some ⟨g1,0,none⟩))),(18,eT (.int .u16 x)),(19,eT (.int .i64 x)),(20,eT (.pointer (some ⟨g1,1,none⟩))),(21,eT (.int .u16 y)),(22,eT (.int .i64 y)),(23,eT (.pointer (some ⟨g1,2,none⟩))),(24,eT (.int .i64 z)),(25,fun vQ wQ=>NewI [x,y,z] vQ wQ),(26,fun vQ wQ=>OwV w.heap.size (flat2 [x,y,z]) vQ wQ),(27,eT (.pointer (some ⟨g1,3,none⟩))),(28,eT (.slice none 0 0)),(29,fun vQ wQ=>OwT w.heap.size (flat2 [x,y,z]) vQ wQ),(15,fun vQ wQ=>OwT w.heap.size (flat2 [x,y,z]) vQ wQ),(30,fun vQ wQ=>OwV w.heap.size (flat2 [x,y,z]) vQ wQ),(31,eT (.int .i64 0)),(5,fun vQ wQ=>OwV w.heap.size (flat2 [x,y,z]) vQ wQ),(6,eT (.int .i64 0))]) [] (tabS_out _ _ (by simp only[List.forall_mem_cons,mono_eqO,true_and];exact⟨(mono_NewI _),(mono_OwV _ _),(mono_OwT _ _),(mono_OwT _ _),(mono_OwV _ _),(mono_OwV _ _),by simp⟩)) 19 (by kernel_rfl) (by kernel_rfl) (by kernel_rfl) (by kernel_rfl) [] [] rfl rfl (by decide) (by decide) (by decide) trivial ?_;simp only[tK];refine rT (fun w_=>by go_wp2_with fail;exact kso) fun v16=>?_;simp only[pA];refine rT (fun w_=>by go_wp2_with fail;exact kso) fun v17=>?_;simp only[pA];refine⟨fun w_ o_ S_=>?_,fun v18=>?_⟩
 ·obtain rfl:v17=_:=hsR S_ 17 rfl;clear S_;have H:=kp (kK [0] H o_);have HOX:=kp o_;clear o_;go_wp2_with ((with_reducible refine isLd 72 ?_);(refine xF1 H 72 0 underlying72 ?_);simp only[pA]);exact kso
 simp only[pA];refine⟨fun w_ o_ S_=>?_,fun v19=>?_⟩
 ·obtain rfl:v18=_:=hsR S_ 18 rfl;clear S_;have H:=kp (kK [0] H o_);have HOX:=kp o_;clear o_;go_wp2_with fail;exact kso
 simp only[pA];refine rT (fun w_=>by go_wp2_with fail;exact kso) fun v20=>?_;simp only[pA];refine⟨fun w_ o_ S_=>?_,fun v21=>?_⟩
 ·obtain rfl:v20=_:=hsR S_ 20 rfl;clear S_;have H:=kp (kK [0] H o_);have HOX:=kp o_;clear o_;go_wp2_with ((with_reducible refine isLd 72 ?_);(refine xF1 H 72 0 underlying72 ?_);simp only[pA]);exact kso
 simp only[pA];refine⟨fun w_ o_ S_=>?_,fun v22=>?_⟩
 ·obtain rfl:v21=_:=hsR S_ 21 rfl;clear S_;have H:=kp (kK [0] H o_);have HOX:=kp o_;clear o_;go_wp2_with fail;exact kso
 simp only[pA];refine rT (fun w_=>by go_wp2_with fail;exact kso) fun v23=>?_;simp only[pA];refine⟨fun w_ o_ S_=>?_,fun v24=>?_⟩
 ·obtain rfl:v23=_:=hsR S_ 23 rfl;clear S_;have H:=kp (kK [0] H o_);have HOX:=kp o_;clear o_;go_wp2_with ((with_reducible refine isLd 3 ?_);(refine xF1 H 3 0 underlying3 ?_);simp only[pA]);exact kso
 simp only[pA];refine⟨fun w_ o_ S_=>?_,fun v25=>?_⟩
 ·obtain rfl:v19=_:=hsR S_ 19 rfl;obtain rfl:v22=_:=hsR S_ 22 rfl;obtain rfl:v24=_:=hsR S_ 24 rfl;clear S_;have H:=kp (kK [0] H o_);have HOX:=kp o_;clear o_;go_wp2_with ((with_reducible refine isBs 25 172 ?_);(refine xBS H 172 3 (#[(0,.int .i64 x),(1,.int .i64 y),(2,.int .i64 z)]) 3 ([x,y,z].flatMap cI) (fun _=>by kernel_rfl) ?_);clear H;intro gi wi HGgi HEgi H;simp only[pA]);exact⟨rfl,_,rfl,fun d hd=>by cases hd;exact⟨gi,rfl,H.out.at 0 rfl⟩,HEgi.out⟩
 simp only[pA];refine⟨fun w_ o_ S_=>?_,fun v26=>?_⟩
 ·have h25:=kp (show NewI [x,y,z] v25 w_ from hsR S_ 25 rfl);clear S_;have H:=kp (kK [0] H o_);have HOX:=kp o_;clear o_;obtain⟨gg,rfl,hL⟩:=h25.out;have HLB:=kp hL;clear hL;go_wp2_with fail;refine (put06_any [x,y,z] HX2.out (by simp) gg _ rfl _ HLB.out).mono ?_;rintro e w2 ⟨v,rfl,ho,hx⟩;have HO:=kp (show OwV w.heap.size (flat2 [x,y,z]) v w2 from owns_weak ho (Nat.le_trans HW1.out HOX.out.size));have HXC:=kp hx;clear ho hx;go_wp2_with fail;exact⟨rfl,_,rfl,fun d hd=>by cases hd;exact HO.out,HXC.out⟩
 simp only[pA];refine rT (fun w_=>by go_wp2_with fail;exact kso) fun v27=>?_;simp only[pA];refine⟨fun w_ o_ S_=>?_,fun v28=>?_⟩
 ·obtain rfl:v27=_:=hsR S_ 27 rfl;clear S_;have H:=kp (kK [0] H o_);have HOX:=kp o_;clear o_;go_wp2_with ((with_reducible refine isLd 83 ?_);(refine xF1 H 83 0 underlying83 ?_);simp only[pA]);exact kso
 simp only[pA];refine⟨fun w_ o_ S_=>?_,fun v29=>?_⟩
 ·obtain rfl:v16=_:=hsR S_ 16 rfl;have h26:=kp (show OwV w.heap.size (flat2 [x,y,z]) v26 w_ from hsR S_ 26 rfl);obtain rfl:v28=_:=hsR S_ 28 rfl;clear S_;have H:=kp (kK [0] H o_);have HOX:=kp o_;clear o_;obtain⟨av,nv,cv,rfl⟩:=owns_form2 h26.out;have HSB:=kp (SlB.of_owns h26.out);clear h26;go_wp2_with fail;refine (done0_any _ _ _ _ (by simp[two16,flat2]) _ HSB.out).mono ?_;rintro e w2 ⟨v,rfl,ho,hx⟩;have HO:=kp (show OwT w.heap.size (flat2 [x,y,z]) _ w2 from⟨v,rfl,owns_weak ho (Nat.le_trans HW1.out HOX.out.size)⟩);have HXC:=kp hx;clear ho hx;go_wp2_with fail;exact⟨rfl,_,rfl,fun d hd=>by cases hd;exact HO.out,HXC.out⟩
 simp only[pA];refine⟨fun w_ o_ S_=>?_,fun v15=>?_⟩
 ·have h29:=kp (show OwT w.heap.size (flat2 [x,y,z]) v29 w_ from hsR S_ 29 rfl);clear S_ o_;go_wp2_with fail;exact⟨rfl,_,rfl,fun d hd=>by cases hd;exact h29.out,Ext.refl _⟩
 simp only[pA];refine⟨fun w_ o_ S_=>?_,fun v30=>?_⟩
 ·have h15:=kp (show OwT w.heap.size (flat2 [x,y,z]) v15 w_ from hsR S_ 15 rfl);clear S_;have H:=kp (kK [0] H o_);have HOX:=kp o_;clear o_;obtain⟨u,rfl,ho⟩:=h15.out;have HO:=kp ho;clear ho;go_wp2_with fail;exact⟨rfl,_,rfl,fun d hd=>by cases hd;exact HO.out,Ext.refl _⟩
 simp only[pA];refine⟨fun w_ o_ S_=>?_,fun v31=>?_⟩
 ·have h15:=kp (show OwT w.heap.size (flat2 [x,y,z]) v15 w_ from hsR S_ 15 rfl);clear S_;have H:=kp (kK [0] H o_);have HOX:=kp o_;clear o_;obtain⟨u,rfl,ho⟩:=h15.out;clear ho;go_wp2_with fail;exact kso
 simp only[pA];refine⟨fun w_ o_ S_=>?_,fun v5=>?_⟩
 ·have h30:=kp (show OwV w.heap.size (flat2 [x,y,z]) v30 w_ from hsR S_ 30 rfl);clear S_ o_;go_wp2_with fail;exact⟨rfl,_,rfl,fun d hd=>by cases hd;exact h30.out,Ext.refl _⟩
 simp only[pA];refine rO 31 rfl (fun w_ e0=>by obtain rfl:v31=_:=e0;go_wp2_with fail;exact kso) fun v6=>?_;simp only[pA];clear H;intro wk HOX H hfin;obtain rfl:v16=_:=hF hfin 16 rfl;obtain rfl:v17=_:=hF hfin 17 rfl;obtain rfl:v18=_:=hF hfin 18 rfl;obtain rfl:v19=_:=hF hfin 19 rfl;obtain rfl:v20=_:=hF hfin 20 rfl;obtain rfl:v21=_:=hF hfin 21 rfl;obtain rfl:v22=_:=hF hfin 22 rfl;obtain rfl:v23=_:=hF hfin 23 rfl;obtain rfl:v24=_:=hF hfin 24 rfl;have F25:=kp (show NewI [x,y,z] v25 wk from hfin 25 (by decide));have F26:=kp (show OwV w.heap.size (flat2 [x,y,z]) v26 wk from hfin 26 (by decide));obtain rfl:v27=_:=hF hfin 27 rfl;obtain rfl:v28=_:=hF hfin 28 rfl;have F29:=kp (show OwT w.heap.size (flat2 [x,y,z]) v29 wk from hfin 29 (by decide));have F15:=kp (show OwT w.heap.size (flat2 [x,y,z]) v15 wk from hfin 15 (by decide));have F30:=kp (show OwV w.heap.size (flat2 [x,y,z]) v30 wk from hfin 30 (by decide));obtain rfl:v31=_:=hF hfin 31 rfl;have F5:=kp (show OwV w.heap.size (flat2 [x,y,z]) v5 wk from hfin 5 (by decide));obtain rfl:v6=_:=hF hfin 6 rfl;clear hfin;simp only[dR];simp only[applyS] at H;have HXN:=kp (HOX.out.ext (Ext.refl w1) (fun g hg=>by cases hg));go_wp2_with fail;go_ret2
 exact⟨_,rfl,owV_3 F5.out,H.out.1⟩
def frE (n m:Nat):Int:=if 2304<n then 11 else if n<m then 10 else 0
theorem frontR_any (ad:Option Addr) (n c m:Nat) (w:World) :
  Calls prog 74 #[.slice ad n c,.int .i64 m] w fun e w'=>e=.returned (.int .i64 (frE n m))∧w'=w:=by
 by_cases h1:2304<n
 ·have HF:=kp (show frE n m=11 from if_pos h1);have h1':(2304:Int)<n:=by omega
  go_enter func74,ntmps74;go_wp2_with fail;go_ret;exact⟨by rw[HF.out];rfl,rfl⟩
 ·have h1':¬ (2304:Int)<n:=by omega
  by_cases h2:n<m
  ·have HF:=kp (show frE n m=10 by unfold frE;rw[if_neg h1,if_pos h2]);have h2':(n:Int)<m:=by omega
   go_enter func74,ntmps74;go_wp2_with fail;go_ret;exact⟨by rw[HF.out];rfl,rfl⟩
  ·have HF:=kp (show frE n m=0 by unfold frE;rw[if_neg h1,if_neg h2]);have h2':¬ (n:Int)<m:=by omega
   go_enter func74,ntmps74;go_wp2_with fail;go_ret;exact⟨by rw[HF.out];rfl,rfl⟩
theorem twoR_any (ad:Option Addr) (n c:Nat) (b:By) (p:Nat) (hp:p+2≤b.length) (hb:b.length≤100000) (w:World) (hs:SlB w (.slice ad n c) b) :
  Calls prog 76 #[.slice ad n c,.int .i64 p] w fun e w'=>e=.returned (.int .i64 (rdF b p))∧Ext w w':=by
 have H:=kp (Loc.start w);obtain⟨x,hx⟩:∃ x,b[p]?=some x:=⟨b[p]'(by omega),by simp⟩
 obtain⟨y,hy⟩:∃ y,b[p+1]?=some y:=⟨b[p+1]'(by omega),by simp⟩
 have HR:=kp (show rdF b p=wI x+256*wI y by unfold rdF;rw[List.getD_eq_getElem?_getD,List.getD_eq_getElem?_getD,hx,hy];rfl);obtain⟨b0,o0,rfl,hb0,hc0⟩:=hs.at p x hx;obtain⟨b1,o1,he1,_,hc1⟩:=hs.at (p+1) y hy;cases he1
 have hpn:p+1<n:=by have:=hs.len;omega
 have hpp:p≤100000:=by omega
 obtain⟨q,hq⟩:∃ q,q=x.toNat:=⟨_,rfl⟩
 obtain⟨r,hr⟩:∃ r,r=y.toNat:=⟨_,rfl⟩
 have hq1:q≤255:=by have:=x.isLt;omega
 have hr1:r≤255:=by have:=y.isLt;omega
 have hqw:wI x=(q:Int):=by rw[hq];rfl
 have hrw:wI y=(r:Int):=by rw[hr];rfl
 have HC0:=kp (fun (W:World) (hW:Ext w W)=>show W.cell? ⟨b0,o0+p,none⟩=some (.int .u8 (q:Int)) from by rw[hW.cell hb0,hc0,←hqw]);have HC1:=kp (fun (W:World) (hW:Ext w W)=>show W.cell? ⟨b0,o0+(p+1),none⟩=some (.int .u8 (r:Int)) from by rw[hW.cell hb0,hc1,←hrw]);rw[hqw,hrw] at HR;clear hs hx hy hb0 hc0 hc1 hq hr hqw hrw hp hb;go_enter func76,ntmps76;go_wp2_with fail;refine xRZ H 12 ?_;apply Exists.intro;refine⟨fun xz2=>?_,fun wz2 HXZ H=>?_⟩
 ·simp only[tK];unfold Cx;repeat (first|((with_reducible refine isQl 5 ?_);go_big_quiet_want;refine qz_c 5 _ rfl _ _ rfl (.int .u8 (q:Int)) (HC0.out) underlying5 rfl ?_;simp only[pA];go_big_quiet_on)|((with_reducible refine isQl 5 ?_);go_big_quiet_want;refine qz_c 5 _ rfl _ _ rfl (.int .u8 (r:Int)) (HC1.out) underlying5 rfl ?_;simp only[pA];go_big_quiet_on)|go_big_quiet_step (fail))
  exact wpQuiet_nil rfl
 simp only[dR];go_wp2_with fail;go_ret;exact⟨by rw[HR.out];rfl,H.out.1⟩
theorem containerR_any (q:Nat) (hq:q≤255) (w:World) :
  Calls prog 109 #[.int .u8 (q:Int)] w fun e w'=>e=.returned (.bool (decide (200≤q)&&decide (q<220)))∧w'=w:=by
 by_cases h1:200≤q
 ·have h1':(200:Int)≤(q:Int):=by omega
  by_cases h2:q<220
  ·have h2':(q:Int)≤219:=by omega
   have HB:=kp (show (decide (200≤q)&&decide (q<220))=true by rw[decide_eq_true h1,decide_eq_true h2];rfl);clear h1 h2;go_enter func109,ntmps109;go_wp2_with fail;go_ret;exact⟨by rw[HB.out];rfl,rfl⟩
  ·have h2':¬ (q:Int)≤219:=by omega
   have HB:=kp (show (decide (200≤q)&&decide (q<220))=false by rw[decide_eq_true h1,decide_eq_false h2];rfl);clear h1 h2;go_enter func109,ntmps109;go_wp2_with fail;go_ret;exact⟨by rw[HB.out];rfl,rfl⟩
 ·have h1':¬ (200:Int)≤(q:Int):=by omega
  have HB:=kp (show (decide (200≤q)&&decide (q<220))=false by rw[decide_eq_false h1];rfl);clear h1;go_enter func109,ntmps109;go_wp2_with fail;go_ret;exact⟨by rw[HB.out];rfl,rfl⟩
def PartN (w:World) (en:Ending) (w':World):Prop:=en=.returned (.tuple #[.slice none 0 0,.slice none 0 0,.bool false])∧w'=w
theorem part_none (ad:Option Addr) (c:Nat) (w:World):Calls prog 119 #[.slice ad 0 c] w (PartN w):=by
 go_enter func119,ntmps119;go_wp2_with fail;go_ret3
 exact⟨rfl,rfl⟩
def PartY (vb:Value) (x:BitVec 8) (l:By) (m:Nat) (w:World) (en:Ending) (w':World):Prop:=∃ a1 c1 a2 n2 c2,en=.returned (.tuple #[.slice a1 m c1,.slice a2 n2 c2,.bool true])∧m≤c1∧n2≤c2∧Ext w w'∧(∀ W,SlB W vb (x::l)→SlB W (.slice a1 m c1) (l.take m))∧(∀ W,SlB W vb (x::l)→SlB W (.slice a2 n2 c2) (l.drop m))
theorem part_first {w:World} {b0 o0 n c:Nat} {x:BitVec 8} {l:By} (h:SlB w (.slice (some ⟨b0,o0,none⟩) n c) (x::l)) (hc:n≤c) (m:Nat) (hm:1+m≤n):SlB w (.slice (cutA (some ⟨b0,o0,none⟩) 1 c 1) m (c-1)) (l.take m):=by
 have h1:=h.cut hc 1 (1+m) (by omega) hm;rw[show 1+m-1=m by omega,show ((x::l).take (1+m)).drop 1=l.take m by rw[Nat.add_comm];rfl] at h1;exact h1
set_option maxRecDepth 4000 in
set_option maxHeartbeats 1600000 in
theorem part_any (ad:Option Addr) (n c:Nat) (x:BitVec 8) (l:By) (hb:n≤100000) (hcap:n≤c) (w:World) (hs:SlB w (.slice ad n c) (x::l)) (m:Nat) (hm:m=x.toNat) :
  Calls prog 119 #[.slice ad n c] w fun e w'=>(l.length<m∧PartN w e w')∨(m≤l.length∧PartY (.slice ad n c) x l m w e w'):=by
 have H:=kp (Loc.start w);have HN:=kp (show n=l.length+1 from hs.len);obtain⟨b0,o0,rfl,hb0,hc0⟩:=hs.at 0 x rfl;have hm1:m≤255:=by have:=x.isLt;omega
 have hw:wI x=(m:Int):=by rw[hm];rfl
 rw[Nat.add_zero] at hc0;have hc1:w.cell? ⟨b0,o0,none⟩=some (.int .u8 (m:Int)):=by rw[←hw];exact hc0
 have HCE:=kp (fun (W:World) (hW:Ext w W)=>show W.cell? ⟨b0,o0,none⟩=some (.int .u8 (m:Int)) from (hW.cell hb0).trans hc1);have hn0:¬ (n:Int)=0:=by have:=hs.len;simp at this;omega
 clear hs hm hw hb0 hc0;by_cases hlt:l.length<m
 ·have hlt2:(n:Int)-1<(m:Int):=by have:=HN.out;omega
  have HLT:=kp hlt;clear hlt;go_enter func119,ntmps119;go_wp2_with fail;go_ret3
  exact .inl ⟨HLT.out,rfl,rfl⟩
 ·have hlt2:¬ (n:Int)-1<(m:Int):=by have:=HN.out;omega
  have hmn:1+m≤n:=by have:=HN.out;omega
  have HLE:=kp (show m≤l.length by omega);have H1:=kp (fun W h=>part_first (w:=W) (b0:=b0) (o0:=o0) (n:=n) (c:=c) (x:=x) (l:=l) h hcap m hmn);have H2:=kp (fun W h=>rest_part (w:=W) (b0:=b0) (o0:=o0) (n:=n) (c:=c) (x:=x) (l:=l) h hcap m hmn);obtain⟨k,hk⟩:∃ k,k=1+m:=⟨_,rfl⟩
  rw[←hk] at H2;have HK:=kp (show k-1=m∧m≤c-1∧n-k≤c-k by omega);have e1:(1:Int)+(m:Int)=(k:Int):=by omega
  have hk1:1≤k:=by omega
  have hkn:k≤n:=by omega
  have hkc:k≤c:=by omega
  clear hlt hk hmn;go_enter func119,ntmps119;go_wp2_with fail
  try rw[e1]
  clear e1 hc1;refine xRZ H 9 ?_;apply Exists.intro;refine⟨fun xz3=>?_,fun wz3 HXZ H=>?_⟩
  ·simp only[tK];unfold Cx;repeat (first|((with_reducible show wpQuiet _ _ _ _ (Oper.mk _ (Op.slice 29 _ _ _ _) _ _ _ _::_) _);go_big_quiet_want;refine qz_cut 29 _ _ _ _ rfl _ _ _ _ _ rfl rfl rfl rfl (fun _=>run_cut2 _ underlying29 (sizeU8q) _ _ _ (1) (k) (hk1) (hkc)) ?_;simp only[pA];go_big_quiet_on)|((with_reducible show wpQuiet _ _ _ _ (Oper.mk _ (Op.slice 29 _ _ _ _) _ _ _ _::_) _);go_big_quiet_want;refine qz_cut 29 _ _ _ _ rfl _ _ _ _ _ rfl rfl rfl rfl (fun _=>run_cutL _ underlying29 (sizeU8q) _ _ _ (k) (hkn)) ?_;simp only[pA];go_big_quiet_on)|go_big_quiet_step (fail))
   exact wpQuiet_nil rfl
  simp only[dR];go_wp2_with fail;rw[HK.out.1];go_ret3
  exact .inr ⟨HLE.out,_,_,_,_,_,rfl,HK.out.2.1,HK.out.2.2,H.out.1,H1.out,H2.out⟩
theorem partY_rest {vb:Value} {x:BitVec 8} {l r:By} {m:Nat} {w w':World} {e:Ending} (hd:l.drop m=r) (h:PartY vb x l m w e w'):∃ a1 c1 a2 n2 c2,e=.returned (.tuple #[.slice a1 m c1,.slice a2 n2 c2,.bool true])∧m≤c1∧n2≤c2∧Ext w w'∧(∀ W,SlB W vb (x::l)→SlB W (.slice a1 m c1) (l.take m))∧(∀ W,SlB W vb (x::l)→SlB W (.slice a2 n2 c2) r):=by subst hd;exact h
set_option maxRecDepth 4000 in
set_option maxHeartbeats 3200000 in
theorem whole_any (ad:Option Addr) (n c:Nat) (b:By) (hb:n≤100000) (hcap:n≤c) (w:World) (hs:SlB w (.slice ad n c) b) :
  Calls prog 108 #[.slice ad n c] w (ContR (.slice ad n c) b w):=by
 have H:=kp (Loc.start w);have HN:=kp hs.len;obtain⟨vb,hvb⟩:∃ vb,vb=Value.slice ad n c:=⟨_,rfl⟩
 have HVB:=kp hvb;have HS0:=kp (show SlB w vb b by rw[hvb];exact hs);have HS:=kp (show ∀ W,SlB W vb b→SlB W (.slice ad n c) b from fun W h=>by rw[←hvb];exact h);have HNL:=kp (show b.length≤100000 by rw[←hs.len];exact hb);clear hs hvb;go_enter func108,ntmps108;go_wp2_with fail;go_loopw [0,5] (fun bv cv wr=>∃ (k:Nat) (l cc:By) (ad:Option Addr) (n c:Nat),bv=.slice ad n c∧n≤c∧n≤100000∧n≤k∧Kp (n=l.length)∧Kp (∀ W,SlB W vb b→SlB W (.slice ad n c) l)∧Kp (cc.length+l.length≤100000)∧Kp (OwB w.heap.size wr cv cc)∧Kp (contF k l cc=contOf b)∧Kp (Loc w wr [])) (fun bv _ _=>match bv with|.slice _ n _=>n|_=>0)
 case atStart=>exact⟨b.length,b,[],ad,n,c,rfl,hcap,hb,by rw[HN.out];exact Nat.le_refl _,HN,HS,kp (by simpa using HNL.out),kp (ownsT_nil _ _ _ _),kp rfl,H⟩
 case round =>
  clear H HS HN hb hcap;obtain⟨k,l,cc,ad,n,c,rfl,hnc,hn1,hnk,HN,HS,HTL,HO,HF,H⟩:=hrel;by_cases h0:n=0
  ·subst h0
   have HK:=kp (show contF k l cc=([],[],10) by
    have:l=[]:=List.length_eq_zero_iff.1 HN.out.symm;subst this
    cases k <;> rfl)
   have HPN:=kp (part_none ad c wr);have HNO:=kp (fun e w' (h:PartN wr e w')=>h);go_wp2_with (go_at_call 119;refine (HPN.out).mono ?_;rintro e wa hpp;obtain⟨rfl,rfl⟩:=HNO.out e wa hpp;clear hpp);go_ret3
   exact contR_err HF.out HK.out (by decide) H.out.1
  ·obtain⟨x,l,rfl⟩:∃ x l',l=x::l':=by
    cases l with
    |nil=>exact absurd HN.out h0
    |cons x l=>exact⟨x,l,rfl⟩
   obtain⟨k,rfl⟩:∃ k',k=k'+1:=⟨k-1,by omega⟩
   obtain⟨m,hm⟩:∃ m,m=x.toNat:=⟨_,rfl⟩
   have hm1:m≤255:=by have:=x.isLt;omega
   have HCF:=kp (contF_cons k x l cc);rw[←hm] at HCF;have HLN:=kp (show n=l.length+1 from HN.out);have HPN:=kp (part_any ad n c x l hn1 hnc wr (HS.out _ (HS0.out.ext H.out.1)) m hm);clear hm;by_cases hlt:l.length<m
   ·have HK:=kp (show contF (k+1) (x::l) cc=([],[],10) by rw[HCF.out,if_pos hlt]);have HNO:=kp (fun e w' (h:(l.length<m∧PartN wr e w')∨(m≤l.length∧PartY (.slice ad n c) x l m wr e w'))=>h.elim (fun h=>h.2) (fun h=>absurd h.1 (by omega)));clear hlt HCF;go_wp2_with (go_at_call 119;refine (HPN.out).mono ?_;rintro e wa hpp;obtain⟨rfl,rfl⟩:=HNO.out e wa hpp;clear hpp);go_ret3
    exact contR_err HF.out HK.out (by decide) H.out.1
   ·rw[if_neg hlt] at HCF;have HYE:=kp (fun e w' (h:(l.length<m∧PartN wr e w')∨(m≤l.length∧PartY (.slice ad n c) x l m wr e w'))=>h.elim (fun h=>absurd h.1 hlt) (fun h=>h.2));have HML:=kp (show m≤l.length by omega);have HLA:=kp (show cc.length+(l.take m).length≤1000000 by have:=HTL.out;simp at this ⊢;omega);clear hlt;by_cases hm2:m<255
    ·rw[if_pos hm2] at HCF;have HE:=kp (show contOf b=(cc++l.take m,l.drop m,0) by rw[←HF.out,HCF.out]);have hm3:(m:Int)<255:=by omega
     go_wp2_with (first|(go_at_call 119;refine (HPN.out).mono ?_;rintro e wa hpp;obtain⟨a1,c1,a2,n2,c2,rfl,hc1',hc2',hx,hs1,hs2⟩:=HYE.out e wa hpp;have HS1:=kp hs1;have HS2:=kp hs2;clear hpp hs1 hs2;replace H:=kp (H.out.ext hx);have HXC:=kp hx;clear hx)|(at_builtin;(have HSX:=kp ((HS1.out _ (HS.out _ (HS0.out.ext H.out.1))));have HOX2:=kp (owns_ext HO.out HXC.out);have HSPX:=kp ((show ∀ z∈([]:List Bk).map (·.1),u5.ownBlock≠some z from fun z hz=>by cases hz));refine L_appB2 H rfl _ _ rfl _ (Nat.le_refl _) H.out.1.size _ _ rfl HOX2.out HSPX.out _ _ rfl HSX.out (HLA.out) ?_;clear H HSX HOX2 HSPX;intro vd wd HO2 HGwd H;simp only[pA])));go_ret3
     exact⟨vd,.slice a2 n2 c2,by rw[HE.out];rfl,H.out.1,fun _=>by rw[HE.out];exact⟨HO2.out,_,_,_,rfl,hc2',fun W h=>HS2.out W (HS.out W (by rw[HVB.out];exact h))⟩⟩
    ·rw[if_neg hm2] at HCF;have hm3:¬ (m:Int)<255:=by omega
     cases hd:l.drop m with
     |nil =>
      have HK:=kp (show contF (k+1) (x::l) cc=([],[],10) by rw[HCF.out,hd]);have HYE2:=kp (fun e w' h=>partY_rest hd (HYE.out e w' h));clear HYE hd;have HYE:=HYE2;clear HYE2;go_wp2_with (first|((go_at_call 119;refine (HPN.out).mono ?_;rintro e wa hpp;obtain⟨a1,c1,a2,n2,c2,rfl,hc1',hc2',hx,hs1,hs2⟩:=HYE.out e wa hpp;have HS1:=kp hs1;have HS2:=kp hs2;clear hpp hs1 hs2;replace H:=kp (H.out.ext hx);have HXC:=kp hx;clear hx);obtain rfl:n2=0:=(HS2.out _ (HS.out _ (HS0.out.ext H.out.1))).len)|(at_builtin;(have HSX:=kp ((HS1.out _ (HS.out _ (HS0.out.ext H.out.1))));have HOX2:=kp (owns_ext HO.out HXC.out);have HSPX:=kp ((show ∀ z∈([]:List Bk).map (·.1),u5.ownBlock≠some z from fun z hz=>by cases hz));refine L_appB2 H rfl _ _ rfl _ (Nat.le_refl _) H.out.1.size _ _ rfl HOX2.out HSPX.out _ _ rfl HSX.out (HLA.out) ?_;clear H HSX HOX2 HSPX;intro vd wd HO2 HGwd H;simp only[pA])));go_ret3
      exact contR_err HF.out HK.out (by decide) H.out.1
     |cons y r =>
      have HLD:=kp (show (l.take m).length+(r.length+1)=l.length by
       have h1:=congrArg List.length (List.take_append_drop m l)
       rw[hd] at h1;simpa using h1)
      have HYE2:=kp (fun e w' h=>partY_rest hd (HYE.out e w' h));clear HYE;obtain⟨q,hq⟩:∃ q,q=y.toNat:=⟨_,rfl⟩
      have hqw:wI y=(q:Int):=by rw[hq];rfl
      have HQC:=kp (fun (o:Option Value) (h:o=some (V8 y))=>show o=some (.int .u8 (q:Int)) from h.trans (by show some (Value.int .u8 (wI y))=_;rw[hqw]));clear hqw;rw[hd] at HCF;clear hd;have HYE:=HYE2;clear HYE2;by_cases hqq:q=254
      ·have HCG:=kp (show contF k r (cc++l.take m)=contOf b by rw[←HF.out,HCF.out];show _=(if y.toNat=254 then _ else _);rw[if_pos (by rw[←hq];exact hqq)]);have hq2:((q:Int) != 254)=false:=by rw[hqq];rfl
       clear hq hqq;go_wp2_with (first|((go_at_call 119;refine (HPN.out).mono ?_;rintro e wa hpp;obtain⟨a1,c1,a2,n2,c2,rfl,hc1',hc2',hx,hs1,hs2⟩:=HYE.out e wa hpp;have HS1:=kp hs1;have HS2:=kp hs2;clear hpp hs1 hs2;replace H:=kp (H.out.ext hx);have HXC:=kp hx;clear hx);have HN2:=kp (show n2=r.length+1 from (HS2.out _ (HS.out _ (HS0.out.ext H.out.1))).len);obtain⟨b3,o3,rfl,hb3,hc3⟩:=(HS2.out _ (HS.out _ HS0.out)).at 0 y rfl;have hz2:¬ (n2:Int)=0:=by { have:=HN2.out;omega };have hzp:0<n2:=by { have:=HN2.out;omega };have hz1:1≤n2:=hzp;have HC3:=kp (show Kp (∀ W,Ext w W→W.cell? ⟨b3,o3,none⟩=some (.int .u8 (q:Int))) from kp fun W hW=>(hW.cell hb3).trans (HQC.out _ hc3));clear hb3 hc3)|((at_builtin;(have HSX:=kp ((HS1.out _ (HS.out _ (HS0.out.ext H.out.1))));have HOX2:=kp (owns_ext HO.out HXC.out);have HSPX:=kp ((show ∀ z∈([]:List Bk).map (·.1),u5.ownBlock≠some z from fun z hz=>by cases hz));refine L_appB2 H rfl _ _ rfl _ (Nat.le_refl _) H.out.1.size _ _ rfl HOX2.out HSPX.out _ _ rfl HSX.out (HLA.out) ?_;clear H HSX HOX2 HSPX;intro vd wd HO2 HGwd H;simp only[pA]));have hc4:=HC3.out.out wd H.out.1)|((with_reducible show wpList _ _ _ (Oper.mk _ (Op.slice 29 _ _ _ _) _ _ _ _::_) _ _);(refine L_cut (by kernel_rfl) 29 _ _ _ _ rfl _ _ _ _ _ rfl rfl rfl rfl (run_cutL _ underlying29 (sizeU8q) _ _ _ (1) (hz1)) ?_);simp only[pA]));go_roundw
       case rel=>exact⟨k,r,cc++l.take m,cutA (some ⟨b3,o3,none⟩) 1 c2 1,n2-1,c2-1,rfl,by omega,by have:=HN2.out;have:=HLD.out;have:=HLN.out;omega,by have:=HN2.out;have:=HLD.out;have:=HLN.out;omega,kp (by rw[HN2.out];rfl),kp (fun W h=>rest_part (HS2.out W (HS.out W h)) hc2' 0 (by have:=HN2.out;omega)),kp (by have h1:=HTL.out;have h2:=HLD.out;simp only[List.length_cons,List.length_append] at *;omega),HO2,HCG,H⟩
       case measure=>have:=HN2.out;have:=HLD.out;have:=HLN.out;simp;omega
      ·have HK:=kp (show contF (k+1) (x::l) cc=([],[],12) by rw[HCF.out];show (if y.toNat=254 then _ else _)=_;rw[if_neg (by rw[←hq];exact hqq)]);have hq2:((q:Int) != 254)=true:=by simp;omega
       clear hq;go_wp2_with (first|((go_at_call 119;refine (HPN.out).mono ?_;rintro e wa hpp;obtain⟨a1,c1,a2,n2,c2,rfl,hc1',hc2',hx,hs1,hs2⟩:=HYE.out e wa hpp;have HS1:=kp hs1;have HS2:=kp hs2;clear hpp hs1 hs2;replace H:=kp (H.out.ext hx);have HXC:=kp hx;clear hx);have HN2:=kp (show n2=r.length+1 from (HS2.out _ (HS.out _ (HS0.out.ext H.out.1))).len);obtain⟨b3,o3,rfl,hb3,hc3⟩:=(HS2.out _ (HS.out _ HS0.out)).at 0 y rfl;have hz2:¬ (n2:Int)=0:=by { have:=HN2.out;omega };have hzp:0<n2:=by { have:=HN2.out;omega };have hz1:1≤n2:=hzp;have HC3:=kp (show Kp (∀ W,Ext w W→W.cell? ⟨b3,o3,none⟩=some (.int .u8 (q:Int))) from kp fun W hW=>(hW.cell hb3).trans (HQC.out _ hc3));clear hb3 hc3)|((at_builtin;(have HSX:=kp ((HS1.out _ (HS.out _ (HS0.out.ext H.out.1))));have HOX2:=kp (owns_ext HO.out HXC.out);have HSPX:=kp ((show ∀ z∈([]:List Bk).map (·.1),u5.ownBlock≠some z from fun z hz=>by cases hz));refine L_appB2 H rfl _ _ rfl _ (Nat.le_refl _) H.out.1.size _ _ rfl HOX2.out HSPX.out _ _ rfl HSX.out (HLA.out) ?_;clear H HSX HOX2 HSPX;intro vd wd HO2 HGwd H;simp only[pA]));have hc4:=HC3.out.out wd H.out.1));go_ret3
       exact contR_err HF.out HK.out (by decide) H.out.1
end Go.Proofs.YtfecopfofkdnpaaGreat
