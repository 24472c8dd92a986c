/- Texts of this proof, put together: Rd2, ElC. -/
import Derived.Test.YtfecopfofkdnpaaGreatY9
import Derived.Laws.BitsAllLaws
import Derived.Deep.RegionLaw
import Derived.Deep.RegionHeld3
import Derived.Deep.DrawnRows
import Derived.Test.YtfecopfofkdnpaaGreatY1
namespace Go.Proofs.YtfecopfofkdnpaaGreat
open Go.RowKit Tryz
def rdN (b:By) (p:Nat) (e:Int) (m:Nat):Nat:=if e=0∧p+m≤b.length then p+m else p
def rdE (b:By) (p:Nat) (e:Int) (m:Nat):Int:=if e=0∧b.length<p+m then 10 else e
def rdB (b:By) (p:Nat) (e:Int) (m:Nat):By:=if e=0∧p+m≤b.length then (b.drop p).take m else List.replicate m 0#8
def BytR (ad:Option Addr) (n c:Nat) (b:By) (p:Nat) (e:Int) (m g:Nat) (w0:World) (rest:List Bk) (en:Ending) (w':World):Prop:=
 ∃ v,en=.returned v∧OwB w0.heap.size w' v (rdB b p e m)∧Loc w0 w' ((g,182,cat (partsR ad n c (rdN b p e m) (rdE b p e m)))::rest)
theorem rep_V8 (m:Nat):List.replicate m (Value.int .u8 0)=(List.replicate m 0#8).map V8:=by simp[V8,wI]
theorem owns_zeros {w:World} {g base m:Nat} (h:Lc w g 5 (List.replicate m (Value.int .u8 0))) (hb:base≤g) (hm:m≤1000000):OwB base w (.slice (some ⟨g,0,none⟩) m m) (List.replicate m 0#8):=by
 rw[rep_V8] at h;exact owns_room (zs:=[]) (by rw[List.append_nil];exact h) hb (by simp) (by simp) hm
theorem take_ok (ad:Option Addr) (n c:Nat) (b:By) (hb:n≤1000000) (hcap:n≤c) (p m:Nat) (hpm:p+m≤n) (w:World) (hs:SlB w (.slice ad n c) b) :
  Calls prog 111 #[.agg (cat (partsRd ad n c p)).toArray,.int .i64 m] w fun e w'=>∃ v,e=.returned (.tuple #[v,.agg (cat (partsRd ad n c ((p:Int)+(m:Int)))).toArray,.int .i64 0])∧OwB w.heap.size w' v ((b.drop p).take m)∧Ext w w':=by
 refine (take_any ad n c b hb hcap p m (by omega) (by omega) w hs).mono ?_;rintro e w' ⟨v,hx,⟨_,rfl,ho⟩|⟨hbad,_⟩⟩
 ·exact⟨v,rfl,ho,hx⟩
 ·omega
theorem take_bad (ad:Option Addr) (n c:Nat) (b:By) (hb:n≤1000000) (hcap:n≤c) (p m:Nat) (hp:p≤n) (hm:m≤1000000) (hpm:¬ p+m≤n) (w:World) (hs:SlB w (.slice ad n c) b) :
  Calls prog 111 #[.agg (cat (partsRd ad n c p)).toArray,.int .i64 m] w fun e w'=>∃ v,e=.returned (.tuple #[v,.agg (cat (partsRd none 0 0 0)).toArray,.int .i64 10])∧Ext w w':=by
 refine (take_any ad n c b hb hcap p m hp hm w hs).mono ?_;rintro e w' ⟨v,hx,⟨hbad,_⟩|⟨_,rfl⟩⟩
 ·exact absurd hbad hpm
 ·exact⟨v,rfl,hx⟩
set_option maxHeartbeats 1600000 in
theorem bytes_any (ad:Option Addr) (n c:Nat) (b:By) (hb:n≤1000000) (hcap:n≤c) (p m:Nat) (hp:p≤n) (hm:m≤1000) (e:Int) (g:Nat) (w0 w:World) (rest:List Bk) (H:Kp (Loc w0 w ((g,182,cat (partsR ad n c p e))::rest))) (hs:SlB w0 (.slice ad n c) b) :
  Calls prog 99 #[.pointer (some ⟨g,0,none⟩),.int .i64 m] w (BytR ad n c b p e m g w0 rest):=by
 have HS:=kp hs;have HN:=kp hs.len;have HMK:=kp (fun w=>run_mkB w m m (Nat.le_refl _) (by omega));have HM:=kp hm;have HW0:=kp H.out.1.size;clear hs;by_cases he:e=0
 ·subst he;by_cases hpm:p+m≤n
  ·have HF:=kp (show rdN b p 0 m=p+m∧rdE b p 0 m=0∧rdB b p 0 m=(b.drop p).take m by
    have:=HN.out;unfold rdN rdE rdB
    exact⟨if_pos ⟨rfl,by omega⟩,if_neg (by omega),if_pos ⟨rfl,by omega⟩⟩)
   have HPM:=kp hpm;have HTO:=kp (fun w hs=>take_ok ad n c b hb hcap p m hpm w hs);go_enter func99,ntmps99;go_wp2_with (first|((with_reducible refine isLd 37 ?_);(refine xF1 H 37 0 underlying37 ?_);simp only[pA])|((with_reducible refine isLd 180 ?_);(refine xFG H 180 0 (partsRd ad n c p) underlying180 ?_);simp only[pA])|(go_at_call 111;refine (HTO.out _ (HS.out.ext H.out.1)).mono ?_;rintro e wa ⟨v,rfl,ho,hx⟩;have HO:=kp ho;clear ho;replace H:=kp (H.out.ext hx);have HXC:=kp hx;clear hx)|(((with_reducible refine isAl 6 180 ?_);(refine xAL H 180 (cat (partsRd none 0 0 0)) ?_);clear H;intro g6 w6 HGg6 HEg6 H;simp only[pA]);have HG6:=kp (show Lc w6 g6 180 _ from H.out.at 0 rfl);have HO1:=kp (owns_ext HO.out HEg6.out))|((with_reducible refine isSt 180 ?_);refine xSA H 180 0 (partsRd ad n c ((p:Int)+(m:Int))) ?_;clear H;intro w7 HWw7 H;simp only[szA] at H)|(((with_reducible refine isLd 180 ?_);refine xFA H 180 0 underlying180 ?_;simp only[pA]);have HGG:=kp (show Lc w7 g 182 _ from H.out.at 1 rfl))|((with_reducible refine isSt 180 ?_);(refine L_sg H rfl rfl 180 _ _ rfl 1 rfl _ rfl _ rfl 2 (partsRd ad n c ((p:Int)+(m:Int))) rfl rfl (by kernel_rfl) (_) rfl ?_;clear H;intro w8 HWw8 H;simp only[ssA,szA] at H)));have HO2:=owns_wroteT (owns_wroteT HO1.out HWw7.out HG6.out (show 5≠180 from by decide)) HWw8.out HGG.out (show 5≠182 from by decide);go_ret;exact⟨v,rfl,by rw[HF.out.2.2];exact owns_weak HO2 HW0.out,by rw[HF.out.1,HF.out.2.1];exact H.out.tl⟩
  ·have HF:=kp (show rdN b p 0 m=p∧rdE b p 0 m=10∧rdB b p 0 m=List.replicate m 0#8 by
    have:=HN.out;unfold rdN rdE rdB
    exact⟨if_neg (by omega),if_pos ⟨rfl,by omega⟩,if_neg (by omega)⟩)
   have HTB:=kp (fun w hs=>take_bad ad n c b hb hcap p m hp (by omega) hpm w hs);go_enter func99,ntmps99;go_wp2_with (first|((with_reducible refine isLd 37 ?_);(refine xF1 H 37 0 underlying37 ?_);simp only[pA])|((with_reducible refine isLd 180 ?_);(refine xFG H 180 0 (partsRd ad n c p) underlying180 ?_);simp only[pA])|(go_at_call 111;refine (HTB.out _ (HS.out.ext H.out.1)).mono ?_;rintro e wa ⟨v,rfl,hx⟩;replace H:=kp (H.out.ext hx);have HXC:=kp hx;clear hx)|((with_reducible refine isAl 6 180 ?_);(refine xAL H 180 (cat (partsRd none 0 0 0)) ?_);clear H;intro g6 w6 HGg6 HEg6 H;simp only[pA])|((with_reducible refine isSt 180 ?_);refine xSA H 180 0 (partsRd none 0 0 0) ?_;clear H;intro w7 HWw7 H;simp only[szA] at H)|((with_reducible refine isSt 37 ?_);(refine xS1 H 37 1 (partsR ad n c p 10) ?_;clear H;intro w8 HWw8 H;simp only[ssA,szA] at H))|((with_reducible show wpList _ _ _ (Oper.mk (some 35) (Op.makeSlice 29 _ _) _ _ _ _::_) _ _);(refine L_mk H (by kernel_rfl) 29 _ _ rfl (.int .i64 (m:Int)) (.int .i64 (m:Int)) rfl rfl m m 5 (List.replicate m (Value.int .u8 0)) (fun w=>HMK.out w) ?_);clear H;intro g35 w35 HGg35 HEg35 H;simp only[pA]));go_ret;exact⟨_,rfl,by rw[HF.out.2.2];exact owns_zeros (H.out.at 0 rfl) (H.out.le 0 rfl) (by have:=HM.out;omega),by rw[HF.out.1,HF.out.2.1];exact H.out.tl.tl⟩
 ·have HF:=kp (show rdN b p e m=p∧rdE b p e m=e∧rdB b p e m=List.replicate m 0#8 by
   unfold rdN rdE rdB
   exact⟨if_neg (by omega),if_neg (by omega),if_neg (by omega)⟩)
  have hee:(e==0)=false:=by simpa using he
  clear he;go_enter func99,ntmps99;go_wp2_with (first|((with_reducible refine isLd 37 ?_);(refine xF1 H 37 0 underlying37 ?_);simp only[pA])|((with_reducible show wpList _ _ _ (Oper.mk (some 35) (Op.makeSlice 29 _ _) _ _ _ _::_) _ _);(refine L_mk H (by kernel_rfl) 29 _ _ rfl (.int .i64 (m:Int)) (.int .i64 (m:Int)) rfl rfl m m 5 (List.replicate m (Value.int .u8 0)) (fun w=>HMK.out w) ?_);clear H;intro g35 w35 HGg35 HEg35 H;simp only[pA]));go_ret;exact⟨_,rfl,by rw[HF.out.2.2];exact owns_zeros (H.out.at 0 rfl) (H.out.le 0 rfl) (by have:=HM.out;omega),by rw[HF.out.1,HF.out.2.1];exact H.out.tl⟩
theorem two_bytes {l:By} (h:l.length=2):∃ x y,l=[x,y]:=by
 match l,h with
 |[x,y],_=>exact⟨x,y,rfl⟩
theorem rdB_len (b:By) (p:Nat) (e:Int) (m:Nat):(rdB b p e m).length=m:=by
 unfold rdB
 split
 ·rename_i h;simp;omega
 ·simp
theorem or_disj (a x k:Nat) (h:a<2 ^ k):a ||| x*2 ^ k=a+x*2 ^ k:=by
 have:=Nat.shiftLeft_add_eq_or_of_lt h x;rw[Nat.shiftLeft_eq] at this;rw[Nat.or_comm,←this,Nat.add_comm]
theorem or_two (x y:BitVec 8):bits .or .u16 (wI x) (wI y*256)=wI x+256*wI y:=by
 have hx:x.toNat<2 ^ 8:=x.isLt;have hy:y.toNat<256:=y.isLt;unfold wI;rw[show ((y.toNat:Int)*256)=((y.toNat*2 ^ 8:Nat):Int) by rw[Int.natCast_mul];rfl,u16_or_nat _ _ (by omega) (by omega),or_disj _ _ _ hx]
 show ((x.toNat+y.toNat*256:Nat):Int)=_
 omega
def rd2 (b:By) (p:Nat) (e:Int):Int:=rdF (rdB b p e 2) 0
set_option maxHeartbeats 1600000 in
theorem rtwo_any (ad:Option Addr) (n c:Nat) (b:By) (hb:n≤1000000) (hcap:n≤c) (p:Nat) (hp:p≤n) (e:Int) (g:Nat) (w0 w:World) (rest:List Bk) (H:Kp (Loc w0 w ((g,182,cat (partsR ad n c p e))::rest))) (hs:SlB w0 (.slice ad n c) b) :
  Calls prog 96 #[.pointer (some ⟨g,0,none⟩)] w fun en w'=>en=.returned (.int .u16 (rd2 b p e))∧Loc w0 w' ((g,182,cat (partsR ad n c (rdN b p e 2) (rdE b p e 2)))::rest):=by
 have HBY:=kp (bytes_any ad n c b hb hcap p 2 hp (by omega) e g w0 w rest H hs);obtain⟨x,y,hxy⟩:=two_bytes (rdB_len b p e 2);have HXY:=kp hxy;have HX0:=kp (wI_bound x);have HY0:=kp (wI_bound y);clear hxy hs;go_enter func96,ntmps96;generalize h2:Code.region 2 _ _=R2;go_wp2_with (go_at_call 99;refine HBY.out.mono ?_;rintro e2 wa ⟨v,rfl,ho,hl⟩;have HO:=kp ho;clear H ho;have H:=kp hl;clear hl);rw[HXY.out] at HO;obtain⟨av,cv,rfl,hcv⟩:=owns_formN HO.out;obtain⟨b0,o0,rfl,hb0,hc0⟩:=(SlB.of_owns HO.out).at 0 x rfl;obtain⟨b1,o1,he1,hb1,hc1⟩:=(SlB.of_owns HO.out).at 1 y rfl;cases he1
 have HC0:=kp (fun W (hx:Ext wa W)=>(hx.cell hb0).trans hc0);have HC1:=kp (fun W (hx:Ext wa W)=>(hx.cell hb1).trans hc1);have hor:=or_two x y;obtain⟨hx0,hx1⟩:=HX0.out;obtain⟨hy0,hy1⟩:=HY0.out;clear hc0 hc1 hb0 hb1;subst h2;refine xRZ H 11 ?_;apply Exists.intro;refine⟨fun xz2=>?_,fun wz2 HXZ H=>?_⟩
 ·simp only[tK];unfold Cx;repeat (first|((with_reducible refine isQl 5 ?_);go_big_quiet_want;refine qz_c 5 _ rfl _ _ rfl (.int .u8 (wI x)) (HC0.out) underlying5 rfl ?_;simp only[pA];go_big_quiet_on)|((with_reducible refine isQl 5 ?_);go_big_quiet_want;refine qz_c 5 _ rfl _ _ rfl (.int .u8 (wI y)) (HC1.out) underlying5 rfl ?_;simp only[pA];go_big_quiet_on)|go_big_quiet_step (fail))
  exact wpQuiet_nil rfl
 simp only[dR];go_wp2_with fail;go_ret;exact⟨by rw[rd2,HXY.out];rfl,H.out⟩
def resP (e:Int) (ps zs:List Lf):List Lf:=if e=0 then ps else zs
def pRe (x:Int) (ad:Option Addr) (n c:Nat):List Lf:=[Lf.i .u16 x,Lf.s ad n c]
def pAu (x y z:Int) (ad:Option Addr) (n c:Nat):List Lf:=[Lf.i .u16 x,Lf.i .u16 y,Lf.i .u16 z,Lf.s ad n c]
set_option maxHeartbeats 1600000 in
theorem resultAu_any (x y z:Int) (sd:Option Addr) (sn sc:Nat) (ad:Option Addr) (n c:Nat) (p:Int) (e:Int) (g:Nat) (w0 w:World) (rest:List Bk) (H:Kp (Loc w0 w ((g,182,cat (partsR ad n c p e))::rest))) :
  Calls prog 98 #[.agg (cat (pAu x y z sd sn sc)).toArray,.pointer (some ⟨g,0,none⟩)] w fun en w'=>en=.returned (.tuple #[.agg (cat (resP e (pAu x y z sd sn sc) (pAu 0 0 0 none 0 0))).toArray,.int .i64 e])∧Loc w0 w' ((g,182,cat (partsR ad n c p e))::rest):=by
 by_cases he:e=0
 ·subst he;rw[show resP 0 (pAu x y z sd sn sc) (pAu 0 0 0 none 0 0)=pAu x y z sd sn sc from rfl];go_enter func98,ntmps98;go_wp2_with (first|((with_reducible refine isBx 2 119 ?_);(refine xBX H 119 (cat (pAu x y z sd sn sc)) ?_);clear H;intro g2 w2 HGg2 HEg2 H;simp only[pA])|((with_reducible refine isAl 4 119 ?_);(refine xAL H 119 (cat (pAu 0 0 0 none 0 0)) ?_);clear H;intro g4 w4 HGg4 HEg4 H;simp only[pA])|((with_reducible refine isAl 6 119 ?_);(refine xAL H 119 (cat (pAu 0 0 0 none 0 0)) ?_);clear H;intro g6 w6 HGg6 HEg6 H;simp only[pA])|((with_reducible refine isLd 37 ?_);(refine xF1 H 37 3 underlying37 ?_);simp only[pA])|((with_reducible refine isLd 119 ?_);refine xFA H 119 2 underlying119 ?_;simp only[pA])|((with_reducible refine isSt 119 ?_);refine xSA H 119 1 (pAu x y z sd sn sc) ?_;clear H;intro wz HWwz H;simp only[ssA,szA] at H))
  (exact ret_f2 H Tryz.results98 1 rfl rfl _ rfl underlying119 rfl (by kernel_rfl) rfl (⟨rfl,H.out.tl.tl.tl⟩))
 ·rw[show resP e (pAu x y z sd sn sc) (pAu 0 0 0 none 0 0)=pAu 0 0 0 none 0 0 from if_neg he];have hee:(e==0)=false:=by simpa using he
  clear he;go_enter func98,ntmps98;generalize h3:Code.region 3 _ _=R3;go_wp2_with (first|((with_reducible refine isBx 2 119 ?_);(refine xBX H 119 (cat (pAu x y z sd sn sc)) ?_);clear H;intro g2 w2 HGg2 HEg2 H;simp only[pA])|((with_reducible refine isAl 4 119 ?_);(refine xAL H 119 (cat (pAu 0 0 0 none 0 0)) ?_);clear H;intro g4 w4 HGg4 HEg4 H;simp only[pA])|((with_reducible refine isAl 6 119 ?_);(refine xAL H 119 (cat (pAu 0 0 0 none 0 0)) ?_);clear H;intro g6 w6 HGg6 HEg6 H;simp only[pA])|((with_reducible refine isLd 37 ?_);(refine xF1 H 37 3 underlying37 ?_);simp only[pA]));subst h3;refine region_free H (tabS [(12,eT (.agg (cat (pAu 0 0 0 none 0 0)).toArray)),(13,eT (.pointer (some ⟨g,0,none⟩))),(14,eT (.pointer (some ⟨g,0,none⟩))),(15,eT (.pointer (some ⟨g,2,none⟩))),(16,eT (.int .i64 e)),(5,eT (.int .i64 e))]) [⟨5,1,g4,119,cat (pAu 0 0 0 none 0 0),cat (pAu 0 0 0 none 0 0)⟩] (tabS_out _ _ (by simp only[List.forall_mem_cons,mono_eqO,true_and];simp)) 7 (by kernel_rfl) (by kernel_rfl) (by kernel_rfl) (by kernel_rfl) [5] [1] rfl rfl (by decide) (by decide) (by decide) ⟨rfl,trivial⟩ ?_;simp only[tK];refine⟨fun w_ o_ S_=>?_,fun v12=>?_⟩
  ·clear S_;have H:=kp (H.out.keep [0,2,3] (St:=[⟨5,1,g4,119,cat (pAu 0 0 0 none 0 0),cat (pAu 0 0 0 none 0 0)⟩]) ⟨rfl,trivial⟩ o_ (by decide) (by kernel_rfl));have HOX:=kp o_;clear o_;go_wp2_with ((with_reducible refine isLd 119 ?_);(refine xFA H 119 0 underlying119 ?_);simp only[pA]);exact kso
  simp only[pA];refine rT (fun w_=>by go_wp2_with fail;exact kso) fun v13=>?_;simp only[pA];refine⟨fun w_ o_ S_=>?_,fun v14=>?_⟩
  ·obtain rfl:v13=_:=hsR S_ 13 rfl;clear S_;have H:=kp (H.out.keep [0,2,3] (St:=[⟨5,1,g4,119,cat (pAu 0 0 0 none 0 0),cat (pAu 0 0 0 none 0 0)⟩]) ⟨rfl,trivial⟩ o_ (by decide) (by kernel_rfl));have HOX:=kp o_;clear o_;go_wp2_with fail;exact kso
  simp only[pA];refine rO 14 rfl (fun w_ e0=>by obtain rfl:v14=_:=e0;go_wp2_with fail;exact kso) fun v15=>?_;simp only[pA];refine⟨fun w_ o_ S_=>?_,fun v16=>?_⟩
  ·obtain rfl:v15=_:=hsR S_ 15 rfl;clear S_;have H:=kp (H.out.keep [0,2,3] (St:=[⟨5,1,g4,119,cat (pAu 0 0 0 none 0 0),cat (pAu 0 0 0 none 0 0)⟩]) ⟨rfl,trivial⟩ o_ (by decide) (by kernel_rfl));have HOX:=kp o_;clear o_;go_wp2_with ((with_reducible refine isLd 37 ?_);(refine xF1 H 37 2 underlying37 ?_);simp only[pA]);exact kso
  simp only[pA];refine⟨⟨rfl,rfl,fun ws5 hos5 hSs5 hLs5=>?_⟩,?_⟩
  ·obtain rfl:v12=.agg (cat (pAu 0 0 0 none 0 0)).toArray:=hSs5 12 (by decide) (by decide);exact run_sto 119 _ _ rfl rfl rfl hLs5 ((by kernel_rfl)) (rfl) (by simpa using cat_one (pAu 0 0 0 none 0 0))
  refine rO 16 rfl (fun w_ e0=>by obtain rfl:v16=_:=e0;go_wp2_with fail;exact kso) fun v5=>?_;simp only[pA];clear H;intro wn HOX H hfin;obtain rfl:v12=_:=hF hfin 12 rfl;obtain rfl:v13=_:=hF hfin 13 rfl;obtain rfl:v14=_:=hF hfin 14 rfl;obtain rfl:v15=_:=hF hfin 15 rfl;obtain rfl:v16=_:=hF hfin 16 rfl;obtain rfl:v5=_:=hF hfin 5 rfl;clear hfin;simp only[dR];simp only[applyS] at H;go_wp2_with fail
  (exact ret_f2 H Tryz.results98 1 rfl rfl _ rfl underlying119 rfl (by kernel_rfl) rfl (⟨rfl,H.out.tl.tl.tl⟩))
set_option maxHeartbeats 1600000 in
theorem resultRq_any (x y:Int) (o:Vc 6) (sd:Option Addr) (sn sc:Nat) (ad:Option Addr) (n c:Nat) (p:Int) (e:Int) (g:Nat) (w0 w:World) (rest:List Bk) (H:Kp (Loc w0 w ((g,182,cat (partsR ad n c p e))::rest))) :
  Calls prog 100 #[.agg (cat (partsRq x y o sd sn sc)).toArray,.pointer (some ⟨g,0,none⟩)] w fun en w'=>en=.returned (.tuple #[.agg (cat (resP e (partsRq x y o sd sn sc) (partsRq 0 0 zv6 none 0 0))).toArray,.int .i64 e])∧Loc w0 w' ((g,182,cat (partsR ad n c p e))::rest):=by
 by_cases he:e=0
 ·subst he;rw[show resP 0 (partsRq x y o sd sn sc) (partsRq 0 0 zv6 none 0 0)=partsRq x y o sd sn sc from rfl];go_enter func100,ntmps100;go_wp2_with (first|((with_reducible refine isBx 2 124 ?_);(refine xBX H 124 (cat (partsRq x y o sd sn sc)) ?_);clear H;intro g2 w2 HGg2 HEg2 H;simp only[pA])|((with_reducible refine isAl 4 124 ?_);(refine xAL H 124 (cat (partsRq 0 0 zv6 none 0 0)) ?_);clear H;intro g4 w4 HGg4 HEg4 H;simp only[pA])|((with_reducible refine isAl 6 124 ?_);(refine xAL H 124 (cat (partsRq 0 0 zv6 none 0 0)) ?_);clear H;intro g6 w6 HGg6 HEg6 H;simp only[pA])|((with_reducible refine isLd 37 ?_);(refine xF1 H 37 3 underlying37 ?_);simp only[pA])|((with_reducible refine isLd 124 ?_);refine xFA H 124 2 underlying124 ?_;simp only[pA])|((with_reducible refine isSt 124 ?_);refine xSA H 124 1 (partsRq x y o sd sn sc) ?_;clear H;intro wz HWwz H;simp only[ssA,szA] at H))
  (exact ret_f2 H Tryz.results100 1 rfl rfl _ rfl underlying124 rfl (by kernel_rfl) rfl (⟨rfl,H.out.tl.tl.tl⟩))
 ·rw[show resP e (partsRq x y o sd sn sc) (partsRq 0 0 zv6 none 0 0)=partsRq 0 0 zv6 none 0 0 from if_neg he];have hee:(e==0)=false:=by simpa using he
  clear he;go_enter func100,ntmps100;generalize h3:Code.region 3 _ _=R3;go_wp2_with (first|((with_reducible refine isBx 2 124 ?_);(refine xBX H 124 (cat (partsRq x y o sd sn sc)) ?_);clear H;intro g2 w2 HGg2 HEg2 H;simp only[pA])|((with_reducible refine isAl 4 124 ?_);(refine xAL H 124 (cat (partsRq 0 0 zv6 none 0 0)) ?_);clear H;intro g4 w4 HGg4 HEg4 H;simp only[pA])|((with_reducible refine isAl 6 124 ?_);(refine xAL H 124 (cat (partsRq 0 0 zv6 none 0 0)) ?_);clear H;intro g6 w6 HGg6 HEg6 H;simp only[pA])|((with_reducible refine isLd 37 ?_);(refine xF1 H 37 3 underlying37 ?_);simp only[pA]));subst h3;refine region_free H (tabS [(12,eT (.agg (cat (partsRq 0 0 zv6 none 0 0)).toArray)),(13,eT (.pointer (some ⟨g,0,none⟩))),(14,eT (.pointer (some ⟨g,0,none⟩))),(15,eT (.pointer (some ⟨g,2,none⟩))),(16,eT (.int .i64 e)),(5,eT (.int .i64 e))]) [⟨5,1,g4,124,cat (partsRq 0 0 zv6 none 0 0),cat (partsRq 0 0 zv6 none 0 0)⟩] (tabS_out _ _ (by simp only[List.forall_mem_cons,mono_eqO,true_and];simp)) 7 (by kernel_rfl) (by kernel_rfl) (by kernel_rfl) (by kernel_rfl) [5] [1] rfl rfl (by decide) (by decide) (by decide) ⟨rfl,trivial⟩ ?_;simp only[tK];refine⟨fun w_ o_ S_=>?_,fun v12=>?_⟩
  ·clear S_;have H:=kp (H.out.keep [0,2,3] (St:=[⟨5,1,g4,124,cat (partsRq 0 0 zv6 none 0 0),cat (partsRq 0 0 zv6 none 0 0)⟩]) ⟨rfl,trivial⟩ o_ (by decide) (by kernel_rfl));have HOX:=kp o_;clear o_;go_wp2_with ((with_reducible refine isLd 124 ?_);(refine xFA H 124 0 underlying124 ?_);simp only[pA]);exact kso
  simp only[pA];refine rT (fun w_=>by go_wp2_with fail;exact kso) fun v13=>?_;simp only[pA];refine⟨fun w_ o_ S_=>?_,fun v14=>?_⟩
  ·obtain rfl:v13=_:=hsR S_ 13 rfl;clear S_;have H:=kp (H.out.keep [0,2,3] (St:=[⟨5,1,g4,124,cat (partsRq 0 0 zv6 none 0 0),cat (partsRq 0 0 zv6 none 0 0)⟩]) ⟨rfl,trivial⟩ o_ (by decide) (by kernel_rfl));have HOX:=kp o_;clear o_;go_wp2_with fail;exact kso
  simp only[pA];refine rO 14 rfl (fun w_ e0=>by obtain rfl:v14=_:=e0;go_wp2_with fail;exact kso) fun v15=>?_;simp only[pA];refine⟨fun w_ o_ S_=>?_,fun v16=>?_⟩
  ·obtain rfl:v15=_:=hsR S_ 15 rfl;clear S_;have H:=kp (H.out.keep [0,2,3] (St:=[⟨5,1,g4,124,cat (partsRq 0 0 zv6 none 0 0),cat (partsRq 0 0 zv6 none 0 0)⟩]) ⟨rfl,trivial⟩ o_ (by decide) (by kernel_rfl));have HOX:=kp o_;clear o_;go_wp2_with ((with_reducible refine isLd 37 ?_);(refine xF1 H 37 2 underlying37 ?_);simp only[pA]);exact kso
  simp only[pA];refine⟨⟨rfl,rfl,fun ws5 hos5 hSs5 hLs5=>?_⟩,?_⟩
  ·obtain rfl:v12=.agg (cat (partsRq 0 0 zv6 none 0 0)).toArray:=hSs5 12 (by decide) (by decide);exact run_sto 124 _ _ rfl rfl rfl hLs5 ((by kernel_rfl)) (rfl) (by simpa using cat_one (partsRq 0 0 zv6 none 0 0))
  refine rO 16 rfl (fun w_ e0=>by obtain rfl:v16=_:=e0;go_wp2_with fail;exact kso) fun v5=>?_;simp only[pA];clear H;intro wn HOX H hfin;obtain rfl:v12=_:=hF hfin 12 rfl;obtain rfl:v13=_:=hF hfin 13 rfl;obtain rfl:v14=_:=hF hfin 14 rfl;obtain rfl:v15=_:=hF hfin 15 rfl;obtain rfl:v16=_:=hF hfin 16 rfl;obtain rfl:v5=_:=hF hfin 5 rfl;clear hfin;simp only[dR];simp only[applyS] at H;go_wp2_with fail
  (exact ret_f2 H Tryz.results100 1 rfl rfl _ rfl underlying124 rfl (by kernel_rfl) rfl (⟨rfl,H.out.tl.tl.tl⟩))
set_option maxHeartbeats 1600000 in
theorem resultRe_any (x:Int) (sd:Option Addr) (sn sc:Nat) (ad:Option Addr) (n c:Nat) (p:Int) (e:Int) (g:Nat) (w0 w:World) (rest:List Bk) (H:Kp (Loc w0 w ((g,182,cat (partsR ad n c p e))::rest))) :
  Calls prog 101 #[.agg (cat (pRe x sd sn sc)).toArray,.pointer (some ⟨g,0,none⟩)] w fun en w'=>en=.returned (.tuple #[.agg (cat (resP e (pRe x sd sn sc) (pRe 0 none 0 0))).toArray,.int .i64 e])∧Loc w0 w' ((g,182,cat (partsR ad n c p e))::rest):=by
 by_cases he:e=0
 ·subst he;rw[show resP 0 (pRe x sd sn sc) (pRe 0 none 0 0)=pRe x sd sn sc from rfl];go_enter func101,ntmps101;go_wp2_with (first|((with_reducible refine isBx 2 85 ?_);(refine xBX H 85 (cat (pRe x sd sn sc)) ?_);clear H;intro g2 w2 HGg2 HEg2 H;simp only[pA])|((with_reducible refine isAl 4 85 ?_);(refine xAL H 85 (cat (pRe 0 none 0 0)) ?_);clear H;intro g4 w4 HGg4 HEg4 H;simp only[pA])|((with_reducible refine isAl 6 85 ?_);(refine xAL H 85 (cat (pRe 0 none 0 0)) ?_);clear H;intro g6 w6 HGg6 HEg6 H;simp only[pA])|((with_reducible refine isLd 37 ?_);(refine xF1 H 37 3 underlying37 ?_);simp only[pA])|((with_reducible refine isLd 85 ?_);refine xFA H 85 2 underlying85 ?_;simp only[pA])|((with_reducible refine isSt 85 ?_);refine xSA H 85 1 (pRe x sd sn sc) ?_;clear H;intro wz HWwz H;simp only[ssA,szA] at H))
  (exact ret_f2 H Tryz.results101 1 rfl rfl _ rfl underlying85 rfl (by kernel_rfl) rfl (⟨rfl,H.out.tl.tl.tl⟩))
 ·rw[show resP e (pRe x sd sn sc) (pRe 0 none 0 0)=pRe 0 none 0 0 from if_neg he];have hee:(e==0)=false:=by simpa using he
  clear he;go_enter func101,ntmps101;generalize h3:Code.region 3 _ _=R3;go_wp2_with (first|((with_reducible refine isBx 2 85 ?_);(refine xBX H 85 (cat (pRe x sd sn sc)) ?_);clear H;intro g2 w2 HGg2 HEg2 H;simp only[pA])|((with_reducible refine isAl 4 85 ?_);(refine xAL H 85 (cat (pRe 0 none 0 0)) ?_);clear H;intro g4 w4 HGg4 HEg4 H;simp only[pA])|((with_reducible refine isAl 6 85 ?_);(refine xAL H 85 (cat (pRe 0 none 0 0)) ?_);clear H;intro g6 w6 HGg6 HEg6 H;simp only[pA])|((with_reducible refine isLd 37 ?_);(refine xF1 H 37 3 underlying37 ?_);simp only[pA]));subst h3;refine region_free H (tabS [(12,eT (.agg (cat (pRe 0 none 0 0)).toArray)),(13,eT (.pointer (some ⟨g,0,none⟩))),(14,eT (.pointer (some ⟨g,0,none⟩))),(15,eT (.pointer (some ⟨g,2,none⟩))),(16,eT (.int .i64 e)),(5,eT (.int .i64 e))]) [⟨5,1,g4,85,cat (pRe 0 none 0 0),cat (pRe 0 none 0 0)⟩] (tabS_out _ _ (by simp only[List.forall_mem_cons,mono_eqO,true_and];simp)) 7 (by kernel_rfl) (by kernel_rfl) (by kernel_rfl) (by kernel_rfl) [5] [1] rfl rfl (by decide) (by decide) (by decide) ⟨rfl,trivial⟩ ?_;simp only[tK];refine⟨fun w_ o_ S_=>?_,fun v12=>?_⟩
  ·clear S_;have H:=kp (H.out.keep [0,2,3] (St:=[⟨5,1,g4,85,cat (pRe 0 none 0 0),cat (pRe 0 none 0 0)⟩]) ⟨rfl,trivial⟩ o_ (by decide) (by kernel_rfl));have HOX:=kp o_;clear o_;go_wp2_with ((with_reducible refine isLd 85 ?_);(refine xFA H 85 0 underlying85 ?_);simp only[pA]);exact kso
  simp only[pA];refine rT (fun w_=>by go_wp2_with fail;exact kso) fun v13=>?_;simp only[pA];refine⟨fun w_ o_ S_=>?_,fun v14=>?_⟩
  ·obtain rfl:v13=_:=hsR S_ 13 rfl;clear S_;have H:=kp (H.out.keep [0,2,3] (St:=[⟨5,1,g4,85,cat (pRe 0 none 0 0),cat (pRe 0 none 0 0)⟩]) ⟨rfl,trivial⟩ o_ (by decide) (by kernel_rfl));have HOX:=kp o_;clear o_;go_wp2_with fail;exact kso
  simp only[pA];refine rO 14 rfl (fun w_ e0=>by obtain rfl:v14=_:=e0;go_wp2_with fail;exact kso) fun v15=>?_;simp only[pA];refine⟨fun w_ o_ S_=>?_,fun v16=>?_⟩
  ·obtain rfl:v15=_:=hsR S_ 15 rfl;clear S_;have H:=kp (H.out.keep [0,2,3] (St:=[⟨5,1,g4,85,cat (pRe 0 none 0 0),cat (pRe 0 none 0 0)⟩]) ⟨rfl,trivial⟩ o_ (by decide) (by kernel_rfl));have HOX:=kp o_;clear o_;go_wp2_with ((with_reducible refine isLd 37 ?_);(refine xF1 H 37 2 underlying37 ?_);simp only[pA]);exact kso
  simp only[pA];refine⟨⟨rfl,rfl,fun ws5 hos5 hSs5 hLs5=>?_⟩,?_⟩
  ·obtain rfl:v12=.agg (cat (pRe 0 none 0 0)).toArray:=hSs5 12 (by decide) (by decide);exact run_sto 85 _ _ rfl rfl rfl hLs5 ((by kernel_rfl)) (rfl) (by simpa using cat_one (pRe 0 none 0 0))
  refine rO 16 rfl (fun w_ e0=>by obtain rfl:v16=_:=e0;go_wp2_with fail;exact kso) fun v5=>?_;simp only[pA];clear H;intro wn HOX H hfin;obtain rfl:v12=_:=hF hfin 12 rfl;obtain rfl:v13=_:=hF hfin 13 rfl;obtain rfl:v14=_:=hF hfin 14 rfl;obtain rfl:v15=_:=hF hfin 15 rfl;obtain rfl:v16=_:=hF hfin 16 rfl;obtain rfl:v5=_:=hF hfin 5 rfl;clear hfin;simp only[dR];simp only[applyS] at H;go_wp2_with fail
  (exact ret_f2 H Tryz.results101 1 rfl rfl _ rfl underlying85 rfl (by kernel_rfl) rfl (⟨rfl,H.out.tl.tl.tl⟩))
attribute [local go_sem ↓] Go.wp_at_zero Go.wp_at_succ
def ContR (vb:Value) (b:By) (w:World) (en:Ending) (w':World):Prop:=∃ vc vr,en=.returned (.tuple #[vc,vr,.int .i64 (contOf b).2.2])∧Ext w w'∧((contOf b).2.2=0→OwB w.heap.size w' vc (contOf b).1∧∃ ad n c,vr=.slice ad n c∧n≤c∧∀ W,SlB W vb b→SlB W vr (contOf b).2.1)
theorem contR_err {vb:Value} {b:By} {w w':World} {vc vr:Value} {k:Nat} {l cc:By} {E:Int} (h:contF k l cc=contOf b) (he:contF k l cc=([],[],E)) (h0:E≠0) (hx:Ext w w'):ContR vb b w (.returned (.tuple #[vc,vr,.int .i64 E])) w':=by
 have e:contOf b=([],[],E):=h.symm.trans he;exact⟨vc,vr,by rw[e],hx,fun h1=>absurd (show E=0 by rw[e] at h1;exact h1) h0⟩
theorem contF_cons (k:Nat) (x:BitVec 8) (l cc:By):contF (k+1) (x::l) cc=if l.length<x.toNat then ([],[],10) else if x.toNat<255 then (cc++l.take x.toNat,l.drop x.toNat,0) else match l.drop x.toNat with|[]=>([],[],10)|m::r=>if m.toNat=254 then contF k r (cc++l.take x.toNat) else ([],[],12):=rfl
theorem rest_part {w:World} {b0 o0 n c:Nat} {x:BitVec 8} {l:By} (h:SlB w (.slice (some ⟨b0,o0,none⟩) n c) (x::l)) (hc:n≤c) (m:Nat) (hm:1+m≤n):SlB w (.slice (cutA (some ⟨b0,o0,none⟩) (1+m) c 1) (n-(1+m)) (c-(1+m))) (l.drop m):=by
 have h1:=h.cut hc (1+m) n hm (Nat.le_refl _);have h2:=h.len;rw[List.take_of_length_le (by omega),show (x::l).drop (1+m)=l.drop m by rw[Nat.add_comm];rfl] at h1;exact h1
def RC4 (b0 o0 n c m:Nat) (w:World) (cc l:By) (vs:Tmp→Value) (w':World):Prop:=
 vs 0=.slice (cutA (some ⟨b0,o0,none⟩) (1+m) c 1) (n-(1+m)) (c-(1+m))∧OwB w.heap.size w' (vs 2) (cc++l.take m)∧Loc w w' []
theorem cells_part {w:World} {b0 o0 n c:Nat} {x:BitVec 8} {l:By} (h:SlB w (.slice (some ⟨b0,o0,none⟩) n c) (x::l)) (m:Nat):∀ j y,(l.take m)[j]?=some y→w.cell? ⟨b0,o0+1+j,none⟩=some (V8 y):=fun j y hj=>by
 rw[List.getElem?_take] at hj
 split at hj
 ·obtain⟨b,o,e,_,h3⟩:=h.at (j+1) y (by simpa using hj);cases e
  rw[show o0+1+j=o0+(j+1) by omega];exact h3
 ·cases hj
theorem step_appB {ops:Array Oper} {o:Oper} {a:Act} {w:World} {K:Act→World→Prop} {Q:Exit→Act→World→Prop} {E:Prop} (hgd:o.guard=none) (s x:Operand)
  (ho:o.op=.call { callee:=.builtin .append,args:=#[s,x],argTypes:=#[29,29] })
  (base:Nat) (hbase:base≤w.heap.size) (v:Value) (l:By) (hs:a.eval s=v) (hown:OwB base w v l) (A:Addr) (m:By) (k c:Nat) (hk:k=m.length) (hx:a.eval x=.slice (some A) k c) (hsl:∀ j y,m[j]?=some y→w.cell? (A.add j)=some (V8 y)) (hlen:l.length+m.length≤1000000)
  (h:∀ v' w',Kp (OwB base w' v' (l++m))→Kp (w.grownBy w' v.ownBlock)→K (a.put o.dst v') w'):if Region.wanted o (yielded ops a.tmps)=true then Oper.wp prog o a w K Q else E:=by
 have hw:Region.wanted o (yielded ops a.tmps)=true:=by simp[Region.wanted,hgd]
 rw[if_pos hw];obtain⟨i,hi,hz,hsz,hby⟩:=info_iu;subst hk
 obtain⟨v',w',hr,h2,h3,_⟩:=run_append_own (P:=prog) w base 29 o.type 5 i (.int .u8 0) 1 1 underlying29 hi hz hsz hby rfl (by decide) v l.length (l.map V8) hown A m.length c (m.map V8) (by simp) (fun j u hj=>by
  rw[List.getElem?_map] at hj;cases hm:m[j]? with
  |none=>simp[hm] at hj
  |some z=>simp[hm] at hj;subst hj;exact hsl j z hm) (mem_V8 m) (by simp only[maxLen];omega) (by omega) hbase
 unfold Oper.wp;simp only[execOp,ho,resolve,invoke,builtin,Sem.run_bind,Sem.run_pure,Result.andThen_ok,List.map_toArray,List.map_cons,List.map_nil,hs,hx,hr];exact h v' w' (kp (by show w'.ownsRow _ _ _ _ _ _;rw[List.length_append,List.map_append];exact h2)) (kp h3)
set_option maxRecDepth 4000 in
set_option maxHeartbeats 1600000 in
theorem content_any (ad:Option Addr) (n c:Nat) (b:By) (hb:n≤100000) (hcap:n≤c) (w:World) (hs:SlB w (.slice ad n c) b) :
  Calls prog 133 #[.slice ad n c] w (ContR (.slice ad n c) b w):=by
 have H:=kp (Loc.start w);have HN:=kp hs.len;obtain⟨vb,hvb⟩:∃ vb,vb=Value.slice ad n c:=⟨_,rfl⟩
 have HVB:=kp hvb;have HS0:=kp (show SlB w vb b by rw[hvb];exact hs);have HS:=kp (show ∀ W,SlB W vb b→SlB W (.slice ad n c) b from fun W h=>by rw[←hvb];exact h);clear hvb;have HNL:=kp (show b.length≤100000 by rw[←hs.len];exact hb);clear hs;go_enter func133,ntmps133;go_wp2_with fail;go_loopw [0,2] (fun bv cv wr=>∃ (k:Nat) (l cc:By) (ad:Option Addr) (n c:Nat),bv=.slice ad n c∧n≤c∧n≤100000∧n≤k∧Kp (n=l.length)∧Kp (∀ W,SlB W vb b→SlB W (.slice ad n c) l)∧Kp (cc.length+l.length≤100000)∧Kp (OwB w.heap.size wr cv cc)∧Kp (contF k l cc=contOf b)∧Kp (Loc w wr [])) (fun bv _ _=>match bv with|.slice _ n _=>n|_=>0)
 case atStart=>exact⟨b.length,b,[],ad,n,c,rfl,hcap,hb,by rw[HN.out];exact Nat.le_refl _,HN,HS,kp (by simpa using HNL.out),kp (ownsT_nil _ _ _ _),kp rfl,H⟩
 case round =>
  clear H HS HN hb hcap;obtain⟨k,l,cc,ad,n,c,rfl,hnc,hn1,hnk,HN,HS,HTL,HO,HF,H⟩:=hrel;by_cases h0:n=0
  ·subst h0
   have HK:=kp (show contF k l cc=([],[],10) by
    have:l=[]:=List.length_eq_zero_iff.1 HN.out.symm;subst this
    cases k <;> rfl)
   go_wp2_with fail;go_ret3
   exact contR_err HF.out HK.out (by decide) H.out.1
  ·obtain⟨x,l,rfl⟩:∃ x l',l=x::l':=by
    cases l with
    |nil=>exact absurd HN.out h0
    |cons x l=>exact⟨x,l,rfl⟩
   obtain⟨k,rfl⟩:∃ k',k=k'+1:=⟨k-1,by omega⟩
   obtain⟨b0,o0,rfl,hbl,_⟩:=(HS.out _ HS0.out).at 0 x rfl;obtain⟨b1,o1,he1,hb0,hc0⟩:=((HS.out _ HS0.out).ext H.out.1).at 0 x rfl;cases he1
   have HBL:=kp hbl;clear hbl;obtain⟨m,hm⟩:∃ m,m=x.toNat:=⟨_,rfl⟩
   have hm1:m≤255:=by have:=x.isLt;omega
   have hw:wI x=(m:Int):=by rw[hm];rfl
   have HCF:=kp (contF_cons k x l cc);rw[←hm] at HCF;have HLN:=kp (show n=l.length+1 from HN.out);rw[Nat.add_zero] at hc0;have hc1:wr.cell? ⟨b0,o0,none⟩=some (.int .u8 (m:Int)):=by rw[←hw];exact hc0
   clear hw hm hb0 hc0;by_cases hlt:l.length<m
   ·have HK:=kp (show contF (k+1) (x::l) cc=([],[],10) by rw[HCF.out,if_pos hlt]);have hlt2:(n:Int)-1<(m:Int):=by have:=HLN.out;omega
    have hn0:¬ (n:Int)=0:=by omega
    clear hlt HCF;go_wp2_with fail;go_ret3
    exact contR_err HF.out HK.out (by decide) H.out.1
   ·rw[if_neg hlt] at HCF;have hlt2:¬ (n:Int)-1<(m:Int):=by have:=HLN.out;omega
    have hn0:¬ (n:Int)=0:=by omega
    have hmn:1+m≤n:=by have:=HLN.out;omega
    clear hlt;generalize h4:Code.region 4 _ _=R4;generalize hb2:((Code.block 2 _:Code).seq _)=B2;go_wp2_with fail;subst h4;have hwr:IntKind.i64.wrap (1+(m:Int))=1+(m:Int):=by rw[IntKind.wrap_i64];omega
    have i1:(1:Int)≤1+(m:Int):=by omega
    have i2:(1:Int)+m≤(c:Int):=by omega
    have i3:(0:Int)≤1+(m:Int):=by omega
    have i4:(1:Int)+m≤(n:Int):=by omega
    have HCA:=kp (cells_part (HS.out _ HS0.out) m);have HOL:=kp (show cc.length+(l.take m).length≤1000000 by have:=HTL.out;simp at this ⊢;omega);have HKM:=kp (show (1+(m:Int)).toNat-1=(l.take m).length by have:=HLN.out;simp;omega);have HBS:=kp (show w.heap.size≤wr.drew.heap.size from (H.out.1.trans (Ext.drew _)).size);have HOD:=kp (owns_ext HO.out (Ext.drew wr));have HL2:=kp (fun w' (hg:wr.drew.grownBy w' u2.ownBlock)=>show Loc w w' [] from⟨(H.out.1.trans (Ext.drew _)).grown hg (fun k hk=>owns_block HO.out k hk),List.nodup_nil,fun b hb=>by cases hb⟩);have HCE:=kp (fun (A:Addr) (hA:∀ j y,(l.take m)[j]?=some y→A.add j=⟨b0,o0+1+j,none⟩)=>show ∀ j y,(l.take m)[j]?=some y→wr.drew.cell? (A.add j)=some (V8 y) from fun j y hj=>by rw[hA j y hj];exact (((H.out.1.trans (Ext.drew _)).cell HBL.out).trans (HCA.out j y hj)));have HSD:=kp (fun W h=>rest_part (HS.out W h) hnc m (by have:=HN.out;omega));have HLT:=kp (show n-(1+m)=(l.drop m).length by have:=HLN.out;simp;omega);refine wp_cut [0,2,23,24,25,26,27,28,29,30,31,32] (RC4 b0 o0 n c m w cc l) ?_ ?_
    ·clear H HO HF HS HTL HNL;refine wp_region_noPanic ?_;by_cases hcq:c=1
     ·have hm0:m=0:=by omega
      have hn9:n=1:=by omega
      subst hm0 hcq hn9;have hw1:IntKind.i64.wrap (1:Int)=1:=by rw[IntKind.wrap_i64];rfl
      have HCW:=kp (HCE.out ⟨b0,o0,none⟩ (fun j y hj=>by simp at hj));go_region_law (refine step_appB rfl (.tmp 23) (.tmp 27) rfl w.heap.size HBS.out u2 cc (by simp[Act.eval,Act.put]) HOD.out ⟨b0,o0,none⟩ (l.take 0) (0) 0 HKM.out (by simp[Act.eval,Act.put]) HCW.out HOL.out ?_;intro v' w' HO2 HGR)
      exact CutP.of rfl (by kernel_rfl) ⟨rfl,HO2.out,HL2.out _ HGR.out⟩
     ·have hc1':¬ 1=c:=fun h=>hcq h.symm;have HCW:=kp (HCE.out ⟨b0,o0+1,none⟩ (fun j y hj=>Addr.add_mid _ _ _));go_region_law (refine step_appB rfl (.tmp 23) (.tmp 27) rfl w.heap.size HBS.out u2 cc (by simp[Act.eval,Act.put]) HOD.out ⟨b0,o0+1,none⟩ (l.take m) ((1+(m:Int)).toNat-1) (c-1) HKM.out (by simp[Act.eval,Act.put]) HCW.out HOL.out ?_;intro v' w' HO2 HGR)
      refine CutP.of rfl (by kernel_rfl) ⟨?_,HO2.out,HL2.out _ HGR.out⟩
      show Value.slice (if c=(1+(m:Int)).toNat then some ⟨b0,o0,none⟩ else some ⟨b0,o0+(1+(m:Int)).toNat,none⟩) (n-(1+(m:Int)).toNat) (c-(1+(m:Int)).toNat)=_
      rw[show (1+(m:Int)).toNat=1+m by omega];unfold cutA;simp only[Option.map,Addr.add_mid,Nat.mul_one]
    ·rintro vs w8 ⟨hv0,ho8,hl8⟩;have HO8:=kp ho8;clear H HO;have H:=kp hl8;clear ho8 hl8 HBS HOD HL2 HCE HOL HKM HCA;simp only[putMany,sbA,szA,ssA];rw[hv0];generalize vs 2=v2 at *;generalize hA:cutA (some ⟨b0,o0,none⟩) (1+m) c 1=A at *;generalize hc':c-(1+m)=c' at *;obtain⟨n',hn'⟩:∃ n',n'=n-(1+m):=⟨_,rfl⟩
     rw[←hn'] at HSD HLT ⊢;have HNM:=kp (show n'+(1+m)=n∧n≤k+1 by omega);have hnc':n'≤c':=by omega
     have hnn:n'≤100000:=by omega
     clear hA hc' hv0 hwr i1 i2 i3 i4 hn' hc1;by_cases hm2:m<255
     ·rw[if_pos hm2] at HCF;have HE:=kp (show contOf b=(cc++l.take m,l.drop m,0) by rw[←HF.out,HCF.out]);have hm3:(m:Int)<255:=by omega
      subst hb2;go_wp2_with fail;go_ret3
      exact⟨v2,.slice A n' c',by rw[HE.out];rfl,H.out.1,fun _=>by rw[HE.out];exact⟨HO8.out,_,_,_,rfl,hnc',fun W h=>HSD.out W (by rw[HVB.out];exact h)⟩⟩
     ·rw[if_neg hm2] at HCF;have hm3:¬ (m:Int)<255:=by omega
      subst hb2;by_cases hz:n'=0
      ·have HK:=kp (show contF (k+1) (x::l) cc=([],[],10) by
        have e:l.drop m=[]:=List.length_eq_zero_iff.1 (by rw[←HLT.out,hz])
        rw[HCF.out,e])
       subst hz;go_wp2_with fail;go_ret3
       exact contR_err HF.out HK.out (by decide) H.out.1
      ·obtain⟨y,r,hyr⟩:∃ y r,l.drop m=y::r:=by
        cases hd:l.drop m with
        |nil=>have:=HLT.out;rw[hd] at this;exact absurd this hz
        |cons y r=>exact⟨y,r,rfl⟩
       have HLD:=kp (show (l.take m).length+(r.length+1)=l.length by
        have h1:=congrArg List.length (List.take_append_drop m l)
        rw[hyr] at h1;simpa using h1)
       rw[hyr] at HSD HLT HCF;obtain⟨b3,o3,rfl,hb3,hc3⟩:=((HSD.out _ HS0.out).ext H.out.1).at 0 y rfl;obtain⟨q,hq⟩:∃ q,q=y.toNat:=⟨_,rfl⟩
       have hw:wI y=(q:Int):=by rw[hq];rfl
       have hc4:w8.cell? ⟨b3,o3,none⟩=some (.int .u8 (q:Int)):=by rw[←hw];exact hc3
       have HNR:=kp (show n'=r.length+1 from HLT.out);clear hw hb3 hc3 hyr;have hz2:¬ (n':Int)=0:=by omega
       have hp:0<n':=by omega
       clear hz hmn hn0 h0 hnk hnc hn1;by_cases hqq:q=254
       ·have HCG:=kp (show contF k r (cc++l.take m)=contOf b by rw[←HF.out,HCF.out];show _=(if y.toNat=254 then _ else _);rw[if_pos (by rw[←hq];exact hqq)]);have HSR:=kp (fun W h=>rest_part (HSD.out W h) hnc' 0 (by omega));subst hqq;clear hq;go_wp2_with ((with_reducible show wpList _ _ _ (Oper.mk _ (Op.slice 29 _ _ _ _) _ _ _ _::_) _ _);(refine L_cut (by kernel_rfl) 29 _ _ _ _ rfl _ _ _ _ _ rfl rfl rfl rfl (run_cutL _ underlying29 (sizeU8q) _ _ _ (1) (by omega)) ?_);simp only[pA]);go_roundw
        case rel=>exact⟨k,r,cc++l.take m,cutA (some ⟨b3,o3,none⟩) 1 c' 1,n'-1,c'-1,rfl,by omega,by omega,by have:=HNM.out;omega,kp (by rw[HNR.out];rfl),HSR,kp (by have h1:=HTL.out;have h2:=HLD.out;simp only[List.length_cons,List.length_append] at *;omega),HO8,HCG,H⟩
        case measure=>have:=HNM.out;simp;omega
       ·have HK:=kp (show contF (k+1) (x::l) cc=([],[],12) by rw[HCF.out];show (if y.toNat=254 then _ else _)=_;rw[if_neg (by rw[←hq];exact hqq)]);have hq2:((q:Int) != 254)=true:=by simp;omega
        clear hq;go_wp2_with fail;go_ret3
        exact contR_err HF.out HK.out (by decide) H.out.1
end Go.Proofs.YtfecopfofkdnpaaGreat
