/- Texts of this proof, put together: ElO, ElD. -/
import Derived.Test.YtfecopfofkdnpaaGreatY11
import Derived.Lib.SlicesDelete
import Derived.Test.YtfecopfofkdnpaaGreatY1
namespace Go.Proofs.YtfecopfofkdnpaaGreat
open Go.RowKit Tryz
theorem container_any (x:BitVec 8) (w:World) :
  Calls prog 124 #[.int .u8 (wI x)] w fun e w'=>e=.returned (.bool (containerF x))∧w'=w:=by
 obtain⟨q,hq⟩:∃ q,q=x.toNat:=⟨_,rfl⟩
 have hw:wI x=(q:Int):=by rw[hq];rfl
 have HF:=kp (show containerF x=(decide (200≤(q:Int))&&decide ((q:Int)<220)) by
  unfold containerF;rw[←hq,Bool.eq_iff_iff];simp only[Bool.and_eq_true,decide_eq_true_eq];omega)
 rw[hw,HF.out];clear hw hq HF;go_enter func124,ntmps124;go_wp2_with fail
 all_goals (go_ret;exact⟨congrArg (fun z=>Ending.returned (.bool z)) (by rw[Bool.eq_iff_iff];simp;omega),rfl⟩)
def SlR (w:World) (e:Ending) (w':World):Prop:=∃ a k q,e=.returned (.slice a k q)∧Ext w w'
set_option maxHeartbeats 1600000 in
theorem cloneB_any (ad:Option Addr) (n c:Nat) (l:By) (hn:n≤100000) (w:World) (hs:SlB w (.slice ad n c) l) :
  Calls prog 134 #[.slice ad n c] w (SlR w):=by
 have H:=kp (Loc.start w);have HS:=kp hs;have HN:=kp hs.len;have hq:∀ (w:World) (a:Option Addr) (n c:Nat),(binOp .eql 29 (.slice a n c) (.slice none 0 0)).run prog w=.ok (.bool a.isNone) w:=fun w a n c=>Lib.run_eql_slice_nil w 29 5 a n c 0 0 underlying29;clear hs;cases ad with
 |none =>
  go_enter func134,ntmps134;go_wp2_with fail;go_ret;exact⟨_,_,_,rfl,H.out.1⟩
 |some a =>
  go_enter func134,ntmps134;go_wp2_with (first|(((with_reducible refine isBs 5 29 ?_);(refine xBS H 29 0 (#[]) 5 ([]) (fun _=>by kernel_rfl) ?_);clear H;intro g5 w5 HGg5 HEg5 H;simp only[pA]);have HOW:=kp (owns_room (l:=[]) (zs:=[]) (n:=0) (c:=0) (H.out.at 0 rfl) (H.out.le 0 rfl) rfl rfl (by decide));have HSP:=kp (H.out.sepHd (n:=0) (c:=0));have H2:=kp H.out.tl;clear H;have H:=H2;clear H2)|(at_builtin;(have HSX:=kp (HS.out.ext H.out.1);have HOX2:=kp (HOW.out);have HSPX:=kp (HSP.out);refine L_appB2 H rfl _ _ rfl _ (Nat.le_refl _) H.out.1.size _ _ rfl HOX2.out HSPX.out _ _ rfl HSX.out ((by have:=HN.out;simp;omega)) ?_;clear H HSX HOX2 HSPX;intro vb wb HO HGwb H;simp only[pA])));obtain⟨a,k,q,rfl⟩:=owns_form2 HO.out;go_ret;exact⟨_,_,_,rfl,H.out.1⟩
def decV (m:Nat):List Value:=[.int .i64 (m:Int)]
def pEl (i x:Int) (a1:Option Addr) (k1 q1:Nat) (a2:Option Addr) (k2 q2:Nat):List Lf:=[Lf.i .u8 i,Lf.i .u8 x,Lf.s a1 k1 q1,Lf.s a2 k2 q2]
def ListR (lv m:Nat) (b:By) (g:Nat) (w0:World) (rest:List Bk) (en:Ending) (w':World):Prop:=
 ∃ a k q,en=.returned (.tuple #[.slice a k q,.int .i64 (listF lv m b).2])∧Loc w0 w' ((g,199,decV (listF lv m b).1)::rest)
def ListC (lv:Nat):Prop:=∀ (b:By) (ad:Option Addr) (n c m g:Nat) (w0 w:World) (rest:List Bk),n≤c→b.length≤100000→m≤64→(lv=0→b=[])→Loc w0 w ((g,199,decV m)::rest)→(∀ W m',Loc w0 W ((g,199,decV m')::rest)→SlB W (.slice ad n c) b) →
 Calls prog 120 #[.pointer (some ⟨g,0,none⟩),.slice ad n c,.int .i64 ((5-lv:Nat):Int)] w (ListR lv m b g w0 rest)
def OneR (lv m:Nat) (b:By) (vb:Value) (g:Nat) (w0:World) (rest:List Bk) (en:Ending) (w':World):Prop:=
 ∃ i x a1 k1 q1 a2 k2 q2 vr,en=.returned (.tuple #[.agg (cat (pEl i x a1 k1 q1 a2 k2 q2)).toArray,vr,.int .i64 (oneF (lv==0) (listF lv) m b).2.2])∧Loc w0 w' ((g,199,decV (oneF (lv==0) (listF lv) m b).2.1)::rest) ∧
  ((oneF (lv==0) (listF lv) m b).2.2=0→∃ ad n c,vr=.slice ad n c∧n≤c∧∀ W,SlB W vb b→SlB W vr (oneF (lv==0) (listF lv) m b).1)
theorem oneR_err {lv m:Nat} {b:By} {vb:Value} {g:Nat} {w0 w':World} {rest:List Bk} {ps:List Lf} {vr:Value} {m':Nat} {E:Int} (hf:oneF (lv==0) (listF lv) m b=([],m',E)) (h0:E≠0) {i x:Int} {a1:Option Addr} {k1 q1:Nat} {a2:Option Addr} {k2 q2:Nat} (hp:ps=pEl i x a1 k1 q1 a2 k2 q2) (hl:Loc w0 w' ((g,199,decV m')::rest)):OneR lv m b vb g w0 rest (.returned (.tuple #[.agg (cat ps).toArray,vr,.int .i64 E])) w':=by
 subst hp;unfold OneR;rw[hf];exact⟨_,_,_,_,_,_,_,_,vr,rfl,hl,fun h=>absurd h h0⟩
theorem perm_two {t rest:List Bk} (p r:Bk):(t++p::r::rest).Perm (p::r::(t++rest)):=List.perm_middle.trans (List.Perm.cons p List.perm_middle)
theorem oneR_ok {lv m:Nat} {b:By} {vb:Value} {g:Nat} {w0 w':World} {rest:List Bk} {ps:List Lf} {ar:Option Addr} {nr cr:Nat} {m':Nat} {E:Int} {r:By} (hf:oneF (lv==0) (listF lv) m b=(r,m',E)) {i x:Int} {a1:Option Addr} {k1 q1:Nat} {a2:Option Addr} {k2 q2:Nat} (hp:ps=pEl i x a1 k1 q1 a2 k2 q2) (hl:Loc w0 w' ((g,199,decV m')::rest)) (hn:nr≤cr) (hs:∀ W,SlB W vb b→SlB W (.slice ar nr cr) r):OneR lv m b vb g w0 rest (.returned (.tuple #[.agg (cat ps).toArray,.slice ar nr cr,.int .i64 E])) w':=by
 subst hp;unfold OneR;rw[hf];exact⟨_,_,_,_,_,_,_,_,_,rfl,hl,fun _=>⟨ar,nr,cr,rfl,hn,hs⟩⟩
set_option maxRecDepth 4000 in
set_option maxHeartbeats 6400000 in
theorem one_any (lv:Nat) (hlv:lv≤3) (HLC:Kp (ListC lv)) (x:BitVec 8) (b:By) (ad:Option Addr) (n c:Nat) (hc:n≤c) (hb:b.length<100000) (m g:Nat) (hm:m≤64) (w0 w:World) (rest:List Bk) (H:Kp (Loc w0 w ((g,199,decV m)::rest)))
  (HB:Kp (∀ W m',Loc w0 W ((g,199,decV m')::rest)→SlB W (.slice ad n c) (x::b))) :
  Calls prog 131 #[.pointer (some ⟨g,0,none⟩),.slice ad n c,.int .i64 ((4-lv:Nat):Int)] w (OneR lv m (x::b) (.slice ad n c) g w0 rest):=by
 have HZI:=kp (show (prog.info? 3).map (·.size)=some 1 by kernel_rfl);by_cases h64:m=64
 ·have HF:=kp (show oneF (lv==0) (listF lv) m (x::b)=([],m,4) by unfold oneF;rw[if_pos h64]);subst h64;go_enter func131,ntmps131;go_wp2_with (first|(((with_reducible refine isAl 6 175 ?_);(refine xAL H 175 (cat (pEl 0 0 none 0 0 none 0 0)) ?_);clear H;intro g6 w6 HGg6 HEg6 H;simp only[pA]);have hcm:=run_load_cell H.out 1 rfl 0 _ rfl)|((with_reducible refine isLd 175 ?_);(refine xFA H 175 0 underlying175 ?_);simp only[pA])|((with_reducible refine isSt 175 ?_);(refine xSA H 175 0 (pEl 0 0 none 0 0 none 0 0) ?_;clear H;intro w7 HWw7 H;simp only[szA] at H)))
  (exact ret_f3 H Tryz.results131 0 rfl rfl _ _ rfl rfl underlying175 rfl (by kernel_rfl) rfl (oneR_err HF.out (by decide) rfl H.out.tl))
 ·have hm63:m<64:=by omega
  have HN:=kp (show n=b.length+1 from (HB.out w m H.out).len);obtain⟨b0,o0,rfl,_,_⟩:=(HB.out w m H.out).at 0 x rfl;obtain⟨q,hq⟩:∃ q,q=x.toNat:=⟨_,rfl⟩
  have hq1:q≤255:=by have:=x.isLt;omega
  have hw:wI x=(q:Int):=by rw[hq];rfl
  have HCX:=kp (fun (W:World) (m':Nat) (h:Loc w0 W ((g,199,decV m')::rest))=>show W.cell? ⟨b0,o0,none⟩=some (Value.int .u8 (q:Int)) from by
   obtain⟨b1,o1,he1,_,hc0⟩:=(HB.out W m' h).at 0 x rfl;cases he1
   rw[←hw];exact hc0)
  have hn1:1≤n:=by have:=HN.out;omega
  have HQ:=kp hq;have HWX:=kp hw;clear hq hw;have h64':((m:Int)==64)=false:=by simp;omega
  clear h64;go_enter func131,ntmps131;generalize h4:Code.region 4 _ _=R4;generalize h7:Code.region 7 _ _=R7;generalize h10:Code.region 10 _ _=R10;generalize h18:Code.region 18 _ _=R18;generalize h19:Code.region 19 _ _=R19;generalize h22:Code.region 22 _ _=R22;generalize h24:Code.region 24 _ _=R24;generalize h25:Code.region 25 _ _=R25;go_wp2_with (first|(((with_reducible refine isAl 6 175 ?_);(refine xAL H 175 (cat (pEl 0 0 none 0 0 none 0 0)) ?_);clear H;intro g6 w6 HGg6 HEg6 H;simp only[pA]);have hcm:=run_load_cell H.out 1 rfl 0 _ rfl)|(((with_reducible refine isSt 3 ?_);(refine L_cell H rfl rfl 3 _ _ rfl 1 rfl (0) rfl (.int .i64 ((m:Int)+1)) rfl (rfl) (HZI.out) (Nat.zero_lt_one) (decV (m+1)) (rfl) ?_;clear H;intro w8 HWw8 H;simp only[ssA,szA] at H))));have hcx:=HCX.out w8 (m+1) H.out.tl;by_cases hx:q=254
  ·have HF:=kp (show oneF (lv==0) (listF lv) m (x::b)=([],m+1,12) by
    unfold oneF;rw[if_neg (by omega)];dsimp only;rw[if_pos (by rw[←HQ.out];exact hx)])
   subst hx;subst h4;go_wp2_with (first|((with_reducible refine isLd 175 ?_);(refine xFA H 175 0 underlying175 ?_);simp only[pA])|((with_reducible refine isSt 175 ?_);(refine xSA H 175 0 (pEl 0 0 none 0 0 none 0 0) ?_;clear H;intro w7 HWw7 H;simp only[szA] at H)))
   (exact ret_f3 H Tryz.results131 0 rfl rfl _ _ rfl rfl underlying175 rfl (by kernel_rfl) rfl (oneR_err HF.out (by decide) rfl H.out.tl))
  ·have HG:=kp (show oneF (lv==0) (listF lv) m (x::b)=if (contOf b).2.2≠0 then ([],m+1,(contOf b).2.2) else if mostF x<(contOf b).1.length then ([],m+1,11) else if x.toNat=255∧(contOf b).1=[] then ([],m+1,12) else if containerF x=false then ((contOf b).2.1,m+1,0) else if (lv==0)=true∧(contOf b).1≠[] then ([],m+1,4) else ((contOf b).2.1,(listF lv (m+1) (contOf b).1).1,(listF lv (m+1) (contOf b).1).2) by
    unfold oneF;rw[if_neg (by omega)];dsimp only;rw[if_neg (by rw[←HQ.out];exact hx)])
   have hx2:((q:Int)==254)=false:=by simp;omega
   subst h4;go_wp2_with (((with_reducible refine isSt 5 ?_);(refine xS1 H 5 0 (pEl q 0 none 0 0 none 0 0) ?_;clear H;intro w9 HWw9 H;simp only[szA] at H)));have HS1:=kp (fun (W:World) (h:SlB W (.slice (some ⟨b0,o0,none⟩) n c) (x::b))=>show SlB W (.slice (cutA (some ⟨b0,o0,none⟩) 1 c 1) (n-1) (c-1)) b from rest_part h hc 0 (by omega));have HCO:=kp (fun w hs=>content_any (cutA (some ⟨b0,o0,none⟩) 1 c 1) (n-1) (c-1) b (by have:=HN.out;omega) (by omega) w hs);have HSW:=kp (HS1.out _ (HB.out w9 (m+1) H.out.tl));by_cases hE:(contOf b).2.2=0
   ·rw[hE] at HG;have HG2:=kp (show oneF (lv==0) (listF lv) m (x::b)=if mostF x<(contOf b).1.length then ([],m+1,11) else if x.toNat=255∧(contOf b).1=[] then ([],m+1,12) else if containerF x=false then ((contOf b).2.1,m+1,0) else if (lv==0)=true∧(contOf b).1≠[] then ([],m+1,4) else ((contOf b).2.1,(listF lv (m+1) (contOf b).1).1,(listF lv (m+1) (contOf b).1).2) by rw[HG.out,if_neg (by simp)]);have HEE:=kp hE;clear hE;subst h7;go_wp2_with (first|((with_reducible show wpList _ _ _ (Oper.mk _ (Op.slice 29 _ _ _ _) _ _ _ _::_) _ _);(refine L_cut (by kernel_rfl) 29 _ _ _ _ rfl _ _ _ _ _ rfl rfl rfl rfl (run_cutL _ underlying29 (sizeU8q) _ _ _ (1) (hn1)) ?_);simp only[pA])|(go_at_call 133;refine (HCO.out _ HSW.out).mono ?_;rintro e wa ⟨vc,vr,rfl,hx,hok⟩;have HOK:=kp (hok HEE.out);clear hok;rw[HEE.out];have HAL:=kp H.out.allLt;have H09:=kp H.out.1.size;replace H:=kp (H.out.ext hx);have HXC:=kp hx;clear hx));obtain⟨ho,ar,nr,cr,rfl,hnr,hsr⟩:=HOK.out;have HSR:=kp (fun W h=>hsr W (HS1.out W h));obtain⟨av,cv,rfl,hcv⟩:=owns_formN ho
    obtain⟨t,ht,_,htw⟩:=own_add H.out ho H09.out (fun z hz e=>by
     have h1:=owns_block ho z e;have h2:=HAL.out z hz
     omega)
    have HP:=kp (perm_two (t:=t) (rest:=rest));have HTW:=kp (fun (W:World) (h:Loc w0 W (t++rest))=>htw W rest h);have H2:=kp (ht.perm (HP.out _ _));have HCL:=kp (show (contOf b).1.length≤100000 by have:=contOf_len b;omega);generalize hcc:(contOf b).1=cc at *;generalize hrr:(contOf b).2.1=rr at *;obtain⟨cl,hcl⟩:∃ cl,cl=cc.length:=⟨_,rfl⟩
    have HTB:=kp (fun (W:World) (h:Loc w0 W (t++rest))=>show SlB W (.slice av cl cv) cc from by rw[hcl];exact SlB.of_owns (HTW.out W h));rw[←hcl] at hcv HCL ⊢;have HLN:=kp hcl;have hcl1:cl≤100000:=HCL.out;clear H HSW HOK HCO HG HTW hsr ho ht htw hcc hrr hcx HAL hcl;have H:=H2;clear H2;by_cases h255:q=255
    ·have HMO:=kp (show mostF x=1025 by unfold mostF;rw[if_pos (by rw[←HQ.out];exact h255)]);rw[HMO.out] at HG2;have HCF:=kp (show containerF x=false by unfold containerF;rw[←HQ.out,h255];rfl);subst h255;by_cases hlong:1025<cl
     ·have HF:=kp (show oneF (lv==0) (listF lv) m (x::b)=([],m+1,11) by rw[HG2.out,if_pos (by rw[←HLN.out];exact hlong)]);have hl2:(1025:Int)<(cl:Int):=by omega
      subst h10;go_wp2_with (first|((with_reducible refine isLd 5 ?_);(refine xF1 H 5 0 underlying5 ?_);simp only[pA])|((with_reducible refine isLd 175 ?_);(refine xFA H 175 0 underlying175 ?_);simp only[pA])|((with_reducible refine isSt 175 ?_);(refine xSA H 175 0 (pEl 255 0 none 0 0 none 0 0) ?_;clear H;intro w7 HWw7 H;simp only[szA] at H)))
      (exact ret_f3 H Tryz.results131 0 rfl rfl _ _ rfl rfl underlying175 rfl (by kernel_rfl) rfl (oneR_err HF.out (by decide) rfl (H.out.tl.sub (List.sublist_append_right _ _ |>.cons_cons _))))
     ·rw[if_neg (by rw[←HLN.out];exact hlong)] at HG2;have hl2:¬ (1025:Int)<(cl:Int):=by omega
      by_cases hc0:cl=0
      ·have HF:=kp (show oneF (lv==0) (listF lv) m (x::b)=([],m+1,12) by
        rw[HG2.out,if_pos ⟨HQ.out.symm,by have h1:=HLN.out;rw[hc0] at h1;exact List.length_eq_zero_iff.1 h1.symm⟩])
       subst hc0;subst h10;go_wp2_with (first|((with_reducible refine isLd 5 ?_);(refine xF1 H 5 0 underlying5 ?_);simp only[pA])|((with_reducible refine isLd 175 ?_);(refine xFA H 175 0 underlying175 ?_);simp only[pA])|((with_reducible refine isSt 175 ?_);(refine xSA H 175 0 (pEl 255 0 none 0 0 none 0 0) ?_;clear H;intro w7 HWw7 H;simp only[szA] at H)))
       (exact ret_f3 H Tryz.results131 0 rfl rfl _ _ rfl rfl underlying175 rfl (by kernel_rfl) rfl (oneR_err HF.out (by decide) rfl (H.out.tl.sub (List.sublist_append_right _ _ |>.cons_cons _))))
      ·obtain⟨y,l9,hyl⟩:∃ y l,cc=y::l:=by
        cases hc9:cc with
        |nil=>have h1:=HLN.out;rw[hc9] at h1;exact absurd h1 hc0
        |cons y l=>exact⟨y,l,rfl⟩
       rw[if_neg (fun h=>by rw[hyl] at h;cases h.2),if_pos HCF.out] at HG2;have hc0i:((cl:Int)==0)=false:=by simp;omega
       have HCP:=kp (show 1≤cl by omega);rw[hyl] at HTB HLN;subst h10;go_wp2_with ((with_reducible refine isLd 5 ?_);(refine xF1 H 5 0 underlying5 ?_);simp only[pA]);obtain⟨b9,o9,rfl,hb9,hc9⟩:=(HTB.out _ H.out.tl.tl).at 0 y rfl
       have HC9:=kp (fun (W:World) (h:Loc w0 W (t++rest))=>show W.cell? ⟨b9,o9,none⟩=some (Value.int .u8 (wI y)) from by
        obtain⟨b1,o1,he1,_,h3⟩:=(HTB.out W h).at 0 y rfl;cases he1
        exact h3)
       have HT2:=kp (fun (W:World) (h:Loc w0 W (t++rest))=>show SlB W (.slice (cutA (some ⟨b9,o9,none⟩) 1 cv 1) (cl-1) (cv-1)) l9 from rest_part (HTB.out W h) hcv 0 (by omega));have hcp:1≤cl:=HCP.out;clear hb9 hc9 hyl
       have HCY:=kp (fun (w':World) (ho:Out [g6] wa w')=>HC9.out w' (Loc.out H.out.tl.tl ho (fun z hz=>by
        have e:z=g6:=by simpa using hz
        subst e
        exact⟨H.out.le 0 rfl,fun hm=>(List.nodup_cons.1 H.out.2.1).1 (by rw[List.map_cons];exact List.mem_cons_of_mem _ hm)⟩)))
       subst h18;refine region_free H (tabS [(61,eT (.slice (some ⟨b9,o9,none⟩) cl cv)),(62,eT (.pointer (some ⟨b9,o9,none⟩))),(63,eT (.int .u8 (wI y))),(64,eT (.slice (some ⟨b9,o9,none⟩) cl cv)),(65,eT (.slice (cutA (some ⟨b9,o9,none⟩) 1 cv 1) (cl-1) (cv-1))),(66,eT (.pointer (some ⟨g6,1,none⟩)))]) [⟨6,0,g6,175,cat (pEl 255 0 none 0 0 none 0 0),cat (pEl 255 (wI y) none 0 0 none 0 0)⟩] (tabS_out _ _ (by simp only[List.forall_mem_cons,mono_eqO,true_and];simp)) 7 (by kernel_rfl) (by kernel_rfl) (by kernel_rfl) (by kernel_rfl) [6] [0] rfl rfl (by decide) (by decide) (by decide) ⟨rfl,trivial⟩ ?_;simp only[tK];refine rT (fun w_=>by go_wp2_with fail;exact kso) fun v61=>?_;simp only[pA];refine⟨fun w_ o_ S_=>?_,fun v62=>?_⟩
       ·obtain rfl:v61=_:=hsR S_ 61 rfl;clear S_;have H:=kp (H.out.keep [1] (St:=[⟨6,0,g6,175,cat (pEl 255 0 none 0 0 none 0 0),cat (pEl 255 (wI y) none 0 0 none 0 0)⟩]) ⟨rfl,trivial⟩ o_ (by decide) (by kernel_rfl));have HOX:=kp o_;clear o_;go_wp2_with fail;exact kso
       simp only[pA];refine⟨fun w_ o_ S_=>?_,fun v63=>?_⟩
       ·obtain rfl:v62=_:=hsR S_ 62 rfl;clear S_;have H:=kp (H.out.keep [1] (St:=[⟨6,0,g6,175,cat (pEl 255 0 none 0 0 none 0 0),cat (pEl 255 (wI y) none 0 0 none 0 0)⟩]) ⟨rfl,trivial⟩ o_ (by decide) (by kernel_rfl));have HOX:=kp o_;clear o_;have hcy:=HCY.out _ HOX.out;go_wp2_with fail;exact kso
       simp only[pA];refine rT (fun w_=>by go_wp2_with fail;exact kso) fun v64=>?_;simp only[pA];refine⟨fun w_ o_ S_=>?_,fun v65=>?_⟩
       ·obtain rfl:v64=_:=hsR S_ 64 rfl;clear S_;have H:=kp (H.out.keep [1] (St:=[⟨6,0,g6,175,cat (pEl 255 0 none 0 0 none 0 0),cat (pEl 255 (wI y) none 0 0 none 0 0)⟩]) ⟨rfl,trivial⟩ o_ (by decide) (by kernel_rfl));have HOX:=kp o_;clear o_;go_wp2_with ((with_reducible show wpList _ _ _ (Oper.mk _ (Op.slice 29 _ _ _ _) _ _ _ _::_) _ _);(refine L_cut (by kernel_rfl) 29 _ _ _ _ rfl _ _ _ _ _ rfl rfl rfl rfl (run_cutL _ underlying29 (sizeU8q) _ _ _ (1) (hcp)) ?_);simp only[pA]);exact kso
       simp only[pA];refine rT (fun w_=>by go_wp2_with fail;exact kso) fun v66=>?_;simp only[pA];refine⟨⟨rfl,rfl,fun ws6 hos6 hSs6 hLs6=>?_⟩,?_⟩
       ·obtain rfl:v66=.pointer (some ⟨g6,1,none⟩):=hSs6 66 (by decide) (by decide);obtain rfl:v63=.int .u8 (wI y):=hSs6 63 (by decide) (by decide);exact run_stp 5 _ _ rfl _ rfl _ rfl 1 ([Lf.i .u8 (wI y)]) _ rfl (by kernel_rfl) rfl (by kernel_rfl) hLs6 rfl
       clear H;intro wn HOX H hfin;obtain rfl:v61=_:=hF hfin 61 rfl;obtain rfl:v62=_:=hF hfin 62 rfl;obtain rfl:v63=_:=hF hfin 63 rfl;obtain rfl:v64=_:=hF hfin 64 rfl;obtain rfl:v65=_:=hF hfin 65 rfl;obtain rfl:v66=_:=hF hfin 66 rfl;clear hfin;simp only[dR];simp only[applyS] at H;have HCT:=kp (fun w=>container_any x w);rw[HWX.out,HCF.out] at HCT;have HCB:=kp (fun w hs=>cloneB_any (cutA (some ⟨b9,o9,none⟩) 1 cv 1) (cl-1) (cv-1) l9 (by omega) w hs);subst h19;go_wp2_with (first|((with_reducible refine isLd 5 ?_);(refine xF1 H 5 0 underlying5 ?_);simp only[pA])|(go_at_call 124;refine (HCT.out _).mono ?_;rintro e wa ⟨rfl,rfl⟩)|(go_at_call 134;refine (HCB.out _ (HT2.out _ H.out.tl.tl)).mono ?_;rintro e wb ⟨ak,kk,qk,rfl,hx⟩;replace H:=kp (H.out.ext hx);have HXC:=kp hx;clear hx)|((with_reducible refine isSt 29 ?_);(refine xS1 H 29 0 (pEl 255 (wI y) ak kk qk none 0 0) ?_;clear H;intro w10 HWw10 H;simp only[szA] at H))|((with_reducible refine isLd 175 ?_);(refine xFA H 175 0 underlying175 ?_);simp only[pA])|((with_reducible refine isSt 175 ?_);(refine xSA H 175 0 (pEl 255 (wI y) ak kk qk none 0 0) ?_;clear H;intro w7 HWw7 H;simp only[szA] at H)))
       (exact ret_f3 H Tryz.results131 0 rfl rfl _ _ rfl rfl underlying175 rfl (by kernel_rfl) rfl (oneR_ok HG2.out rfl (H.out.tl.sub (List.sublist_append_right _ _ |>.cons_cons _)) hnr HSR.out))
    ·have HMO:=kp (show mostF x=1024 by unfold mostF;rw[if_neg (by rw[←HQ.out];exact h255)]);rw[HMO.out] at HG2;have h255b:((q:Int)==255)=false:=by simp;omega
     by_cases hlong:1024<cl
     ·have HF:=kp (show oneF (lv==0) (listF lv) m (x::b)=([],m+1,11) by rw[HG2.out,if_pos (by rw[←HLN.out];exact hlong)]);have hl2:(1024:Int)<(cl:Int):=by omega
      subst h10;go_wp2_with (first|((with_reducible refine isLd 5 ?_);(refine xF1 H 5 0 underlying5 ?_);simp only[pA])|((with_reducible refine isLd 175 ?_);(refine xFA H 175 0 underlying175 ?_);simp only[pA])|((with_reducible refine isSt 175 ?_);(refine xSA H 175 0 (pEl q 0 none 0 0 none 0 0) ?_;clear H;intro w7 HWw7 H;simp only[szA] at H)))
      (exact ret_f3 H Tryz.results131 0 rfl rfl _ _ rfl rfl underlying175 rfl (by kernel_rfl) rfl (oneR_err HF.out (by decide) rfl (H.out.tl.sub (List.sublist_append_right _ _ |>.cons_cons _))))
     ·rw[if_neg (by rw[←HLN.out];exact hlong),if_neg (fun h=>h255 (by rw[HQ.out];exact h.1))] at HG2;have hl2:¬ (1024:Int)<(cl:Int):=by omega
      have HCT:=kp (fun w=>container_any x w);rw[HWX.out] at HCT;have HCB:=kp (fun w hs=>cloneB_any av cl cv cc hcl1 w hs);subst h10;subst h19;by_cases hct:containerF x=false
      ·rw[if_pos hct] at HG2;rw[hct] at HCT;clear hct;go_wp2_with (first|((with_reducible refine isLd 5 ?_);(refine xF1 H 5 0 underlying5 ?_);simp only[pA])|(go_at_call 124;refine (HCT.out _).mono ?_;rintro e wa ⟨rfl,rfl⟩)|(go_at_call 134;refine (HCB.out _ (HTB.out _ H.out.tl.tl)).mono ?_;rintro e wb ⟨ak,kk,qk,rfl,hx⟩;replace H:=kp (H.out.ext hx);have HXC:=kp hx;clear hx)|((with_reducible refine isSt 29 ?_);(refine xS1 H 29 0 (pEl q 0 ak kk qk none 0 0) ?_;clear H;intro w10 HWw10 H;simp only[szA] at H))|((with_reducible refine isLd 175 ?_);(refine xFA H 175 0 underlying175 ?_);simp only[pA])|((with_reducible refine isSt 175 ?_);(refine xSA H 175 0 (pEl q 0 ak kk qk none 0 0) ?_;clear H;intro w7 HWw7 H;simp only[szA] at H)))
       (exact ret_f3 H Tryz.results131 0 rfl rfl _ _ rfl rfl underlying175 rfl (by kernel_rfl) rfl (oneR_ok HG2.out rfl (H.out.tl.sub (List.sublist_append_right _ _ |>.cons_cons _)) hnr HSR.out))
      ·rw[if_neg hct] at HG2;have hct2:containerF x=true:=by simpa using hct
       rw[hct2] at HCT;clear hct hct2;obtain⟨dd,hdd⟩:∃ dd,dd=4-lv:=⟨_,rfl⟩
       by_cases hbad:lv=0∧0<cl
       ·have HF:=kp (show oneF (lv==0) (listF lv) m (x::b)=([],m+1,4) by
         rw[HG2.out,if_pos ⟨by simp[hbad.1],fun e=>by have h1:=HLN.out;rw[e] at h1;simp at h1;omega⟩])
        have hd4:dd=4:=by omega
        obtain⟨_,hpos⟩:=hbad;rw[←hdd,hd4];subst h22;go_wp2_with (first|((with_reducible refine isLd 5 ?_);(refine xF1 H 5 0 underlying5 ?_);simp only[pA])|(go_at_call 124;refine (HCT.out _).mono ?_;rintro e wa ⟨rfl,rfl⟩)|((with_reducible refine isLd 175 ?_);(refine xFA H 175 0 underlying175 ?_);simp only[pA])|((with_reducible refine isSt 175 ?_);(refine xSA H 175 0 (pEl q 0 none 0 0 none 0 0) ?_;clear H;intro w7 HWw7 H;simp only[szA] at H)))
        (exact ret_f3 H Tryz.results131 0 rfl rfl _ _ rfl rfl underlying175 rfl (by kernel_rfl) rfl (oneR_err HF.out (by decide) rfl (H.out.tl.sub (List.sublist_append_right _ _ |>.cons_cons _))))
       ·rw[if_neg (fun h=>hbad ⟨by simpa using h.1,by
         have h1:=HLN.out;cases hc9:cc with
         |nil=>exact absurd hc9 h.2
         |cons y l=>rw[hc9] at h1;simp at h1;omega⟩)] at HG2
        have HE0:=kp (show lv=0→cc=[] from fun h=>by
         have h1:=HLN.out;have:cl=0:=by omega
         rw[this] at h1
         exact List.length_eq_zero_iff.1 h1.symm)
        have HLI:=kp (fun W r1 h1 h2=>HLC.out cc av cl cv (m+1) g w0 W r1 hcv (by rw[←HLN.out];exact hcl1) (by omega) HE0.out h1 h2);have e5:((5-lv:Nat):Int)=(dd:Int)+1:=by omega
        rw[e5] at HLI
        have hdb:((dd:Int)==4)=false∨(dd=4∧cl=0):=by
         by_cases c0:lv=0
         ·right;omega
         ·left;simp;omega
        rw[←hdd];have hdd4:dd≤4:=by omega
        clear hbad e5 hdd;go_wp2_with (first|((with_reducible refine isLd 5 ?_);(refine xF1 H 5 0 underlying5 ?_);simp only[pA])|(go_at_call 124;refine (HCT.out _).mono ?_;rintro e wa ⟨rfl,rfl⟩));subst h22;have HLJ:=kp (HLI.out _ _ H.out.sw (fun W m' h=>HTB.out W h.tl.tl));rcases hdb with hdb|hdb
        ·go_wp2_with fail;subst h24;go_wp2_with (first|(go_at_call 120;refine HLJ.out.mono ?_;rintro e wb ⟨ak,kk,qk,rfl,hl⟩;have H2:=kp hl.sw;clear H hl;have H:=H2;clear H2)|((with_reducible refine isSt 83 ?_);(refine xS1 H 83 0 (pEl q 0 none 0 0 ak kk qk) ?_;clear H;intro w10 HWw10 H;simp only[szA] at H)));subst h25;go_wp2_with (first|((with_reducible refine isLd 175 ?_);(refine xFA H 175 0 underlying175 ?_);simp only[pA])|((with_reducible refine isSt 175 ?_);(refine xSA H 175 0 (pEl q 0 none 0 0 ak kk qk) ?_;clear H;intro w7 HWw7 H;simp only[szA] at H)));generalize hLL:listF lv (m+1) cc=LL at *;have hZ:=H.out.tl.sub (List.sublist_append_right t rest |>.cons_cons (g,199,decV LL.1));have hY:=oneR_ok (vb:=.slice (some ⟨b0,o0,none⟩) n c) HG2.out (rfl:pEl q 0 none 0 0 ak kk qk=_) hZ hnr HSR.out;exact ret_f3 H Tryz.results131 0 rfl rfl _ _ rfl rfl underlying175 rfl (by kernel_rfl) rfl hY
        ·obtain⟨hd4,hdb⟩:=hdb;subst hdb hd4;go_wp2_with fail;subst h24;go_wp2_with (first|(go_at_call 120;refine HLJ.out.mono ?_;rintro e wb ⟨ak,kk,qk,rfl,hl⟩;have H2:=kp hl.sw;clear H hl;have H:=H2;clear H2)|((with_reducible refine isSt 83 ?_);(refine xS1 H 83 0 (pEl q 0 none 0 0 ak kk qk) ?_;clear H;intro w10 HWw10 H;simp only[szA] at H)));subst h25;go_wp2_with (first|((with_reducible refine isLd 175 ?_);(refine xFA H 175 0 underlying175 ?_);simp only[pA])|((with_reducible refine isSt 175 ?_);(refine xSA H 175 0 (pEl q 0 none 0 0 ak kk qk) ?_;clear H;intro w7 HWw7 H;simp only[szA] at H)));generalize hLL:listF lv (m+1) cc=LL at *;have hZ:=H.out.tl.sub (List.sublist_append_right t rest |>.cons_cons (g,199,decV LL.1));have hY:=oneR_ok (vb:=.slice (some ⟨b0,o0,none⟩) n c) HG2.out (rfl:pEl q 0 none 0 0 ak kk qk=_) hZ hnr HSR.out;exact ret_f3 H Tryz.results131 0 rfl rfl _ _ rfl rfl underlying175 rfl (by kernel_rfl) rfl hY
   ·have HF:=kp (show oneF (lv==0) (listF lv) m (x::b)=([],m+1,(contOf b).2.2) by rw[HG.out,if_pos hE]);have hE2:((contOf b).2.2==0)=false:=by simpa using hE
    have HE:=kp hE;clear hE HG;subst h7;go_wp2_with (first|((with_reducible show wpList _ _ _ (Oper.mk _ (Op.slice 29 _ _ _ _) _ _ _ _::_) _ _);(refine L_cut (by kernel_rfl) 29 _ _ _ _ rfl _ _ _ _ _ rfl rfl rfl rfl (run_cutL _ underlying29 (sizeU8q) _ _ _ (1) (hn1)) ?_);simp only[pA])|(go_at_call 133;refine (HCO.out _ HSW.out).mono ?_;rintro e wa ⟨vc,vr,rfl,hx,hok⟩;have HOK:=kp hok;clear hok;replace H:=kp (H.out.ext hx);have HXC:=kp hx;clear hx)|((with_reducible refine isLd 175 ?_);(refine xFA H 175 0 underlying175 ?_);simp only[pA])|((with_reducible refine isSt 175 ?_);(refine xSA H 175 0 (pEl q 0 none 0 0 none 0 0) ?_;clear H;intro w7 HWw7 H;simp only[szA] at H)))
    (exact ret_f3 H Tryz.results131 0 rfl rfl _ _ rfl rfl underlying175 rfl (by kernel_rfl) rfl (oneR_err HF.out HE.out rfl H.out.tl))
theorem info_El:(prog.info? 175).map (fun i=>(i.zero.map (·.cells.size),i.size,i.bytes))=some (some 4,4,56):=by kernel_rfl
theorem elemEl:ElemT prog 83 175 4 56:=by
 refine⟨underlying83,?_,by decide⟩;have h:=info_El;cases hq:prog.info? 175 with
 |none=>simp[hq] at h
 |some i =>
  cases hz:i.zero with
  |none=>simp[hq,hz] at h
  |some z=>simp[hq,hz] at h;exact⟨i,z,rfl,hz,h.2.1,h.2.2,h.1⟩
theorem loopF_nil {one:Nat→By→By × Nat × Int} (f m:Nat):loopF one f m []=(m,0):=by cases f <;> rfl
theorem loopF_err {one:Nat→By→By × Nat × Int} {f m:Nat} {b:By} (hb:b≠[]) (h:(one m b).2.2≠0):loopF one (f+1) m b=((one m b).2.1,(one m b).2.2):=by
 rw[loopF,if_neg hb,if_pos h]
theorem loopF_go {one:Nat→By→By × Nat × Int} {f m:Nat} {b:By} (hb:b≠[]) (h:(one m b).2.2=0):loopF one (f+1) m b=loopF one f (one m b).2.1 (one m b).1:=by
 rw[loopF,if_neg hb,if_neg (by simpa using h)]
set_option maxRecDepth 4000 in
set_option maxHeartbeats 1600000 in
theorem list_zero:ListC 0:=by
 intro b ad n c m g w0 w rest hc hb hm h0 H HB;have hb0:=h0 rfl;subst hb0;have hn:n=0:=(HB w m H).len;subst hn;have HK:=kp H;have HF:=kp (show listF 0 m []=(m,0) from rfl);clear HB h0 H;go_enter func120,ntmps120;go_wp2_with fail;go_loopw [1,9] (fun bv ov wr=>bv=.slice ad 0 c∧ov=.slice none 0 0∧wr=w) (fun _ _ _=>0)
 case atStart=>exact⟨rfl,rfl,rfl⟩
 case round =>
  obtain⟨rfl,rfl,rfl⟩:=hrel;go_wp2_with fail;go_ret2
  exact⟨none,0,0,by rw[HF.out];rfl,by rw[HF.out];exact HK.out⟩
theorem above (w0:World):∀ l:List Nat,∃ B,w0.heap.size≤B∧(∀ z∈l,z<B)∧∀ W bs',Loc w0 W bs'→(∀ z∈l,z∈bs'.map (·.1))→B≤W.heap.size
 |[]=>⟨w0.heap.size,Nat.le_refl _,(fun z hz=>by cases hz),fun W bs' h _=>h.1.size⟩
 |x::l=>by
  obtain⟨B,h1,h2,h3⟩:=above w0 l;refine⟨max B (x+1),by omega,fun z hz=>?_,fun W bs' h hm=>?_⟩
  ·rcases List.mem_cons.1 hz with rfl|hz
   ·omega
   ·have:=h2 z hz;omega
  ·have:=h3 W bs' h (fun z hz=>hm z (by simp[hz]));have:=h.allLt x (hm x (by simp));omega
theorem one_pEl (i x:Int) (a1:Option Addr) (k1 q1:Nat) (a2:Option Addr) (k2 q2:Nat):∀ u∈cat (pEl i x a1 k1 q1 a2 k2 q2),u.oneCell'=true:=fun u hu=>List.all_eq_true.1 (cat_one _) u hu
theorem owns_ge {w:World} {base E sz n:Nat} {v:Value} {xs:List Value} (h:w.ownsRow base E sz v n xs):∀ k,v.ownBlock=some k→base≤k:=ownsT_block h
set_option maxRecDepth 4000 in
set_option maxHeartbeats 6400000 in
theorem list_succ (k:Nat) (hk:k≤3) (HLC:Kp (ListC k)):ListC (k+1):=by
 intro b ad n c m g w0 w rest hc hb hm _ H HB;obtain⟨vb,hvb⟩:∃ vb,vb=Value.slice ad n c:=⟨_,rfl⟩
 have HS0:=kp (show ∀ W m',Loc w0 W ((g,199,decV m')::rest)→SlB W vb b by rw[hvb];exact HB);have HS:=kp (show ∀ W,SlB W vb b→SlB W (.slice ad n c) b from fun W h=>by rw[←hvb];exact h);have HN:=kp (show n=b.length from (HB w m H).len);have hnb:n≤100000:=by have:=HN.out;omega
 obtain⟨B,hB0,hB1,hB2⟩:=above w0 (g::rest.map (·.1));have HAL:=kp hB1;have HW0:=kp hB0;have HBW:=kp (fun (W:World) (m':Nat) (h:Loc w0 W ((g,199,decV m')::rest))=>hB2 W _ h (fun z hz=>hz));clear hB0 hB1 hB2;obtain⟨m0,hm0⟩:∃ m0,m0=m:=⟨_,rfl⟩
 have HK:=kp H;have HT:=kp (show loopF (oneF (k==0) (listF k)) b.length m b=listF (k+1) m0 b by rw[hm0];rfl);obtain⟨dd,hdd⟩:∃ dd,dd=4-k:=⟨_,rfl⟩
 have e5:5-(k+1)=dd:=by omega
 show Calls _ _ _ _ (ListR (k+1) m b g w0 rest)
 rw[←hm0];rw[e5];have HD:=kp hdd;have hd4:dd≤4:=by omega
 clear hvb HB H e5 hdd hm0;go_enter func120,ntmps120;go_wp2_with fail;go_loopw [1,9] (fun bv ov wr=>∃ (l:By) (ad:Option Addr) (n c f m q:Nat) (xs:List (List Value)),bv=.slice ad n c∧n≤c∧n≤100000∧n≤f∧m≤64∧q≤m∧Kp (n=l.length)∧Kp (∀ W,SlB W vb b→SlB W (.slice ad n c) l)∧Kp (loopF (oneF (k==0) (listF k)) f m l=listF (k+1) m0 b)∧Kp (xs.length=q∧wr.ownsRow B 175 4 ov xs.length (xs.flatMap fun y=>y))∧Kp (Loc w0 wr ((g,199,decV m)::rest))) (fun bv _ _=>match bv with|.slice _ n _=>n|_=>0)
 case atStart=>exact⟨b,ad,n,c,b.length,m,0,[],rfl,hc,hnb,by rw[HN.out];exact Nat.le_refl _,hm,by omega,HN,HS,HT,kp ⟨rfl,ownsT_nil _ _ _ _⟩,HK⟩
 case round =>
  clear HS HN HT HK hc hm;obtain⟨l,ad,n,c,f,m,q,xs,rfl,hnc,hn1,hnf,hm,hqm,HN,HS,HT,HO,H⟩:=hrel;by_cases h0:n=0
  ·subst h0
   have HF:=kp (show listF (k+1) m0 b=(m,0) by
    have e:l=[]:=List.length_eq_zero_iff.1 HN.out.symm
    rw[←HT.out,e,loopF_nil])
   obtain⟨ax,kx,qx,rfl⟩:=owns_form2 HO.out.2;go_wp2_with fail;go_ret2
   exact⟨ax,kx,qx,by rw[HF.out];rfl,by rw[HF.out];exact H.out⟩
  ·obtain⟨x,l,rfl⟩:∃ x l',l=x::l':=by
    cases l with
    |nil=>exact absurd HN.out h0
    |cons x l=>exact⟨x,l,rfl⟩
   obtain⟨f,rfl⟩:∃ f',f=f'+1:=⟨f-1,by omega⟩
   have hn0:0<n:=by omega
   have HLN:=kp (show n=l.length+1 from HN.out)
   obtain⟨t,ht,_,htw⟩:=own_add H.out HO.out.2 HW0.out (fun z hz e=>by
    have h1:=owns_ge HO.out.2 z e;have h2:=HAL.out z hz
    omega)
   have HTW:=kp (fun (W:World) (h:Loc w0 W (t++rest))=>htw W rest h);have H2:=kp (ht.perm List.perm_middle);have HB2:=kp (fun (W:World) (m':Nat) (h:Loc w0 W ((g,199,decV m')::(t++rest)))=>HS.out W (HS0.out W m' (h.sub (List.sublist_append_right t rest |>.cons_cons _))));have HON:=kp (one_any k hk HLC x l ad n c hnc (by have:=HLN.out;omega) m g hm w0 wr (t++rest) H2 HB2);rw[←HD.out] at HON;clear H ht htw;have H:=H2;clear H2;by_cases hE:(oneF (k==0) (listF k) m (x::l)).2.2=0
   ·have HE:=kp hE;have HKM:=kp (one_keep (last:=k==0) (list_keep k) m (x::l) hm);have HTN:=kp (show loopF (oneF (k==0) (listF k)) f (oneF (k==0) (listF k) m (x::l)).2.1 (oneF (k==0) (listF k) m (x::l)).1=listF (k+1) m0 b from by rw[←HT.out,loopF_go (by simp) hE]);have HRL:=kp (one_rest (last:=k==0) (lst:=listF k) m x l);clear hE;go_wp2_with (first|(go_at_call 131;refine HON.out.mono ?_;rintro e wb ⟨i,ex,a1,k1,q1,a2,k2,q2,vr,rfl,hl,hok⟩;obtain⟨ar,nr,cr,rfl,hnr,hsr⟩:=hok HE.out;have HSR:=kp hsr;rw[HE.out];have HOW:=kp (HTW.out _ hl.tl);have H2:=kp (hl.sub (List.sublist_append_right t rest |>.cons_cons _));clear H hl hok hsr;have H:=H2;clear H2;have HBB:=kp (HBW.out _ _ H.out))|((with_reducible refine isAl 10 175 ?_);(refine xAL H 175 (cat (pEl 0 0 none 0 0 none 0 0)) ?_);clear H;intro g10 w10 HGg10 HEg10 H;simp only[pA])|((with_reducible refine isSt 175 ?_);(refine xSA H 175 0 (pEl i ex a1 k1 q1 a2 k2 q2) ?_;clear H;intro w11 HWw11 H;simp only[szA] at H))|((with_reducible refine isLd 175 ?_);(refine xFA H 175 0 underlying175 ?_);simp only[pA])|((with_reducible refine isBs 31 83 ?_);(refine xBS H 83 1 (#[(0,.agg (cat (pEl i ex a1 k1 q1 a2 k2 q2)).toArray)]) 175 (cat (pEl i ex a1 k1 q1 a2 k2 q2)) (fun _=>by kernel_rfl) ?_);clear H;intro g31 w31 HGg31 HEg31 H;simp only[pA])|(at_builtin;have HY:=kp (H.out.at 0 rfl);have H2:=kp H.out.tl.tl;clear H;have H:=H2;clear H2;have HB3:=kp (HBW.out _ _ H.out);have HO3:=kp (ownsT_ext (ownsT_wrote (ownsT_ext HOW.out HEg10.out) HWw11.out (fun e=>by have q1:=ownsT_lt HOW.out _ e;have q2:=HGg10.out;omega)) HEg31.out);have HSP:=kp (show ∀ z∈((g,199,decV (oneF (k==0) (listF k) m (x::l)).2.1)::rest:List Bk).map (·.1),u9.ownBlock≠some z from fun z hz e=>by have q1:=owns_ge HO3.out z e;have q2:=HAL.out z hz;omega);refine L_appT (f:=fun y=>y) elemEl H rfl _ _ rfl B HW0.out HB3.out _ xs rfl HO3.out HSP.out g31 (cat (pEl i ex a1 k1 q1 a2 k2 q2)) rfl _ HY.out rfl (one_pEl _ _ _ _ _ _ _ _) (by have:=HO.out.1;omega) (by have:=HO.out.1;omega) ?_;clear H;intro va wd HOD HGD HWD H;simp only[pA]));have HSB:=kp (HSR.out _ (HS.out _ (HS0.out _ _ H.out)));have HNR:=kp HSB.out.len;go_roundw
    case rel=>exact⟨(oneF (k==0) (listF k) m (x::l)).1,ar,nr,cr,f,(oneF (k==0) (listF k) m (x::l)).2.1,q+1,xs++[cat (pEl i ex a1 k1 q1 a2 k2 q2)],rfl,hnr,by have h1:=HNR.out;have h2:=HRL.out;have h3:=HLN.out;omega,by have h1:=HNR.out;have h2:=HRL.out;have h3:=HLN.out;omega,HKM.out.1,by have h1:=HKM.out.2.2 HE.out (by simp);omega,HNR,kp (fun W h=>HSR.out W (HS.out W h)),HTN,kp ⟨by simp[HO.out.1],HOD.out⟩,H⟩
    case measure=>have h1:=HNR.out;have h2:=HRL.out;have h3:=HLN.out;show nr<n;omega
   ·have HF:=kp (show listF (k+1) m0 b=((oneF (k==0) (listF k) m (x::l)).2.1,(oneF (k==0) (listF k) m (x::l)).2.2) from by rw[←HT.out,loopF_err (by simp) hE]);have hE2:((oneF (k==0) (listF k) m (x::l)).2.2==0)=false:=by simpa using hE
    clear hE;go_wp2_with (first|(go_at_call 131;refine HON.out.mono ?_;rintro e wb ⟨i,ex,a1,k1,q1,a2,k2,q2,vr,rfl,hl,_⟩;have H2:=kp (hl.sub (List.sublist_append_right t rest |>.cons_cons _));clear H hl;have H:=H2;clear H2)|((with_reducible refine isAl 10 175 ?_);(refine xAL H 175 (cat (pEl 0 0 none 0 0 none 0 0)) ?_);clear H;intro g10 w10 HGg10 HEg10 H;simp only[pA])|((with_reducible refine isSt 175 ?_);(refine xSA H 175 0 (pEl i ex a1 k1 q1 a2 k2 q2) ?_;clear H;intro w11 HWw11 H;simp only[szA] at H)));go_ret2
    exact⟨none,0,0,by rw[HF.out];rfl,by rw[HF.out];exact H.out.tl⟩
theorem list_any:∀ lv,lv≤4→ListC lv
 |0,_=>list_zero
 |k+1,h=>list_succ k (by omega) (kp (list_any k (by omega)))
def DecR (b:By) (w:World) (en:Ending) (w':World):Prop:=∃ a k q,en=.returned (.tuple #[.slice a k q,.int .i64 (elemE b)])∧Ext w w'
set_option maxHeartbeats 1600000 in
theorem decode_any (ad:Option Addr) (n c:Nat) (b:By) (hb:b.length≤100000) (hcap:n≤c) (w:World) (hs:SlB w (.slice ad n c) b) :
  Calls prog 110 #[.slice ad n c] w (DecR b w):=by
 have H:=kp (Loc.start w);have HL:=kp (fun g w1 h=>list_any 4 (by omega) b ad n c 0 g w w1 [] hcap hb (by omega) (fun h=>absurd h (by decide)) h (fun W m' h=>hs.ext h.1));clear hs;go_enter func110,ntmps110;go_wp2_with (first|((with_reducible refine isAl 4 199 ?_);(with_reducible refine xAL H 199 (decV 0) ?_);clear H;intro g4 w4 HGg4 HEg4 H;simp only[pA])|(go_at_call 120;refine (HL.out _ _ H.out).mono ?_;rintro e wb ⟨a,k,q,rfl,hl⟩;have HX:=kp hl.1;clear H hl));go_ret2
 exact⟨a,k,q,rfl,HX.out⟩
end Go.Proofs.YtfecopfofkdnpaaGreat
