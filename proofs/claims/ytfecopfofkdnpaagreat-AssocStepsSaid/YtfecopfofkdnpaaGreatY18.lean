/- Texts of this proof, put together: Rf6, Dec2. -/
import Derived.Test.YtfecopfofkdnpaaGreatY17
import Derived.Test.YtfecopfofkdnpaaGreatY12
import Derived.Test.YtfecopfofkdnpaaGreatY13
import Derived.Deep.RegionLaw
import Derived.Deep.DrawnRows
import Derived.Test.YtfecopfofkdnpaaGreatY1
namespace Go.Proofs.YtfecopfofkdnpaaGreat
open Go.RowKit Tryz
def DecL (lv m:Nat) (b:By) (w:World) (en:Ending) (w':World):Prop:=∃ a k q,en=.returned (.tuple #[.slice a k q,.int .i64 ((listF lv m b).1:Nat),.int .i64 (listF lv m b).2])∧Ext w w'
theorem decL_of {lv m:Nat} {b:By} {w w':World} {m':Nat} {E:Int} {a:Option Addr} {k q:Nat} (h:listF lv m b=(m',E)) (hx:Ext w w'):DecL lv m b w (.returned (.tuple #[.slice a k q,.int .i64 (m':Nat),.int .i64 E])) w':=⟨a,k,q,by rw[h],hx⟩
def DecC (lv:Nat):Prop:=∀ (b:By) (ad:Option Addr) (n c m:Nat) (w:World),n≤c→b.length≤100000→m≤64→(lv=0→b=[])→SlB w (.slice ad n c) b→Calls prog 93 #[.slice ad n c,.int .i64 ((5-lv:Nat):Int),.int .i64 (m:Int)] w (DecL lv m b w)
set_option maxRecDepth 4000 in
set_option maxHeartbeats 1600000 in
theorem dec_zero:DecC 0:=by
 intro b ad n c m w hc hb hm h0 hs;have hb0:=h0 rfl;subst hb0;have hn:n=0:=hs.len;subst hn;have HF:=kp (show listF 0 m []=(m,0) from rfl);clear h0 hs;go_enter func93,ntmps93;go_wp2_with fail;go_loopw [0,2,9] (fun bv mv ov wr=>bv=.slice ad 0 c∧mv=.int .i64 (m:Int)∧ov=.slice none 0 0∧wr=w) (fun _ _ _ _=>0)
 case atStart=>exact⟨rfl,rfl,rfl,rfl⟩
 case round =>
  obtain⟨rfl,rfl,rfl,rfl⟩:=hrel;go_wp2_with fail;go_ret3
  exact decL_of HF.out (Ext.refl _)
set_option maxRecDepth 4000 in
set_option maxHeartbeats 6400000 in
theorem dec_succ (k:Nat) (hk:k≤3) (HLC:Kp (DecC k)):DecC (k+1):=by
 intro b ad n c m w hc hb hm _ hs;have H:=kp (Loc.start w);obtain⟨vb,hvb⟩:∃ vb,vb=Value.slice ad n c:=⟨_,rfl⟩
 have HS0:=kp (show SlB w vb b by rw[hvb];exact hs);have HS:=kp (show ∀ W,SlB W vb b→SlB W (.slice ad n c) b from fun W h=>by rw[←hvb];exact h);have HN:=kp (show n=b.length from hs.len);have hnb:n≤100000:=by have:=HN.out;omega
 obtain⟨m0,hm0⟩:∃ m0,m0=m:=⟨_,rfl⟩
 have HT:=kp (show loopF (oneF (k==0) (listF k)) b.length m b=listF (k+1) m0 b by rw[hm0];rfl);obtain⟨dd,hdd⟩:∃ dd,dd=4-k:=⟨_,rfl⟩
 have e5:5-(k+1)=dd:=by omega
 show Calls _ _ _ _ (DecL (k+1) m b w)
 have HPO:=kp (show ∀ e w',DecL (k+1) m0 b w e w'→DecL (k+1) m b w e w' by rw[hm0];exact fun _ _ h=>h);refine Calls.mono ?_ HPO.out;rw[e5];have HD:=kp hdd;have hd4:dd≤4:=by omega
 clear hvb hs e5 hdd hm0 HPO;go_enter func93,ntmps93;go_wp2_with fail;go_loopw [0,2,9] (fun bv mv ov wr=>∃ (l:By) (ad:Option Addr) (n c f m u:Nat) (xs:List (List Value)),bv=.slice ad n c∧mv=.int .i64 (m:Int)∧n≤c∧n≤100000∧n≤f∧m≤64∧u≤m∧Kp (n=l.length)∧Kp (∀ W,SlB W vb b→SlB W (.slice ad n c) l)∧Kp (loopF (oneF (k==0) (listF k)) f m l=listF (k+1) m0 b)∧Kp (xs.length=u∧wr.ownsRow w.heap.size 175 4 ov xs.length (xs.flatMap fun y=>y))∧Kp (Loc w wr [])) (fun bv _ _ _=>match bv with|.slice _ n _=>n|_=>0)
 case atStart=>exact⟨b,ad,n,c,b.length,m,0,[],rfl,rfl,hc,hnb,by rw[HN.out];exact Nat.le_refl _,hm,by omega,HN,HS,HT,kp ⟨rfl,ownsT_nil _ _ _ _⟩,H⟩
 case round =>
  clear HS HN HT H hc hm hnb;obtain⟨l,ad,n,c,f,m,u,xs,rfl,rfl,hnc,hn1,hnf,hm,hum,HN,HS,HT,HO,H⟩:=hrel;by_cases h0:n=0
  ·subst h0
   have HF:=kp (show listF (k+1) m0 b=(m,0) by
    have e:l=[]:=List.length_eq_zero_iff.1 HN.out.symm
    rw[←HT.out,e,loopF_nil])
   obtain⟨ax,kx,qx,rfl⟩:=owns_form2 HO.out.2;go_wp2_with fail;go_ret3
   exact decL_of HF.out H.out.1
  ·obtain⟨x,l,rfl⟩:∃ x l',l=x::l':=by
    cases l with
    |nil=>exact absurd HN.out h0
    |cons x l=>exact⟨x,l,rfl⟩
   obtain⟨f,rfl⟩:∃ f',f=f'+1:=⟨f-1,by omega⟩
   have hn0:0<n:=by omega
   have HLN:=kp (show n=l.length+1 from HN.out);have HER:=kp (fun (m':Nat) (E:Int) (r:By) (h:oneF (k==0) (listF k) m (x::l)=(r,m',E)) (hE:E≠0)=>show listF (k+1) m0 b=(m',E) from by rw[←HT.out,loopF_err (by simp) (by rw[h];exact hE),h]);have HGO:=kp (fun (m':Nat) (r:By) (h:oneF (k==0) (listF k) m (x::l)=(r,m',0))=>show loopF (oneF (k==0) (listF k)) f m' r=listF (k+1) m0 b from by rw[←HT.out,loopF_go (by simp) (by rw[h]),h]);clear HT;by_cases h64:m=64
   ·have HF:=kp (HER.out m 4 [] (by unfold oneF;rw[if_pos h64]) (by decide));subst h64;go_wp2_with fail;go_ret3
    exact decL_of HF.out H.out.1
   ·have hm64:¬ (64:Int)≤(m:Int):=by omega
    have hm63:m<64:=by omega
    obtain⟨q,hq⟩:∃ q,q=x.toNat:=⟨_,rfl⟩
    have hq1:q≤255:=by have:=x.isLt;omega
    have hqw:wI x=(q:Int):=by rw[hq];rfl
    have HQC:=kp (fun (o:Option Value) (h:o=some (V8 x))=>show o=some (.int .u8 (q:Int)) from h.trans (by show some (Value.int .u8 (wI x))=_;rw[hqw]));obtain⟨b0,o0,rfl,hb0,hc0⟩:=(HS.out _ HS0.out).at 0 x rfl;have hcx:wr.cell? ⟨b0,o0,none⟩=some (.int .u8 (q:Int)):=(H.out.1.cell hb0).trans (HQC.out _ hc0);have HQ:=kp hq;clear hq hqw hb0 hc0 HQC;by_cases hx:q=254
    ·have HF:=kp (HER.out (m+1) 12 [] (by unfold oneF;rw[if_neg h64];dsimp only;rw[if_pos (by rw[←HQ.out];exact hx)]) (by decide));have hx2:((q:Int)==254)=true:=by rw[hx];rfl
     clear hx h64;go_wp2_with fail;go_ret3
     exact decL_of HF.out H.out.1
    ·have HG:=kp (show oneF (k==0) (listF k) m (x::l)=if (contOf l).2.2≠0 then ([],m+1,(contOf l).2.2) else if mostF x<(contOf l).1.length then ([],m+1,11) else if x.toNat=255∧(contOf l).1=[] then ([],m+1,12) else if containerF x=false then ((contOf l).2.1,m+1,0) else if (k==0)=true∧(contOf l).1≠[] then ([],m+1,4) else ((contOf l).2.1,(listF k (m+1) (contOf l).1).1,(listF k (m+1) (contOf l).1).2) by
      unfold oneF;rw[if_neg h64];dsimp only;rw[if_neg (by rw[←HQ.out];exact hx)])
     have hx2:((q:Int)==254)=false:=by simp;omega
     have HS1:=kp (fun (W:World) (h:SlB W (.slice (some ⟨b0,o0,none⟩) n c) (x::l))=>show SlB W (.slice (cutA (some ⟨b0,o0,none⟩) 1 c 1) (n-1) (c-1)) l from rest_part h hnc 0 (by omega));have HCO:=kp (fun W hs=>whole_any (cutA (some ⟨b0,o0,none⟩) 1 c 1) (n-1) (c-1) l (by omega) (by omega) W hs);have hn1:1≤n:=hn0;clear hx h64;by_cases hE:(contOf l).2.2=0
     ·rw[hE] at HG;have HG2:=kp (show oneF (k==0) (listF k) m (x::l)=if mostF x<(contOf l).1.length then ([],m+1,11) else if x.toNat=255∧(contOf l).1=[] then ([],m+1,12) else if containerF x=false then ((contOf l).2.1,m+1,0) else if (k==0)=true∧(contOf l).1≠[] then ([],m+1,4) else ((contOf l).2.1,(listF k (m+1) (contOf l).1).1,(listF k (m+1) (contOf l).1).2) by rw[HG.out,if_neg (by simp)]);have HEE:=kp hE;have HCL0:=kp (contOf_len l);obtain⟨t,ht,_,htw⟩:=own_add H.out HO.out.2 (Nat.le_refl _) (fun z hz e=>by cases hz);have HTW:=kp (fun (W:World) (h:Loc w W t)=>htw W [] (by rw[List.append_nil];exact h));have H2:=kp (show Loc w wr t by have:=ht;rwa [List.append_nil] at this);clear hE HG H ht htw;have H:=H2;clear H2;generalize h13:Code.region 13 _ _=R13;generalize h18:Code.region 18 _ _=R18;generalize h20:Code.region 20 _ _=R20;generalize h23:Code.region 23 _ _=R23;generalize h26:Code.region 26 _ _=R26;generalize h28:Code.region 28 _ _=R28;generalize h29:Code.region 29 _ _=R29;go_wp2_with (first|((with_reducible refine isBd 33 175 ?_);(refine xBD 175 (#[(0,.int .u8 (q:Int))]) (cat (pEl q 0 none 0 0 none 0 0)) ?_);simp only[pA])|((with_reducible refine isAl 10 175 ?_);(refine xAL H 175 (cat (pEl 0 0 none 0 0 none 0 0)) ?_);clear H;intro g10 w10 HGg10 HEg10 H;simp only[pA])|((with_reducible refine isSt 175 ?_);(refine xSA H 175 0 (pEl q 0 none 0 0 none 0 0) ?_;clear H;intro w11 HWw11 H;simp only[szA] at H))|((with_reducible show wpList _ _ _ (Oper.mk _ (Op.slice 29 _ _ _ _) _ _ _ _::_) _ _);(refine L_cut (by kernel_rfl) 29 _ _ _ _ rfl _ _ _ _ _ rfl rfl rfl rfl (run_cutL _ underlying29 (sizeU8q) _ _ _ (1) (hn1)) ?_);simp only[pA])|(go_at_call 108;have HSZ:=kp H.out.1.size;refine (HCO.out _ (HS1.out _ (HS.out _ (HS0.out.ext H.out.1)))).mono ?_;rintro e wa ⟨vc,vr,rfl,hx,hok⟩;have HOK:=kp (hok HEE.out);clear hok;rw[HEE.out];replace H:=kp (H.out.ext hx);have HXC:=kp hx;clear hx));obtain⟨ho,ar,nr,cr,rfl,hnr,hsr⟩:=HOK.out;have HSR:=kp (fun W h=>hsr W (HS1.out W h));have ho2:=owns_weak ho HSZ.out;obtain⟨av,cv,rfl,hcv⟩:=owns_formN ho2;clear HOK hsr ho HCO HS1;generalize (contOf l).1=cc at *;generalize (contOf l).2.1=rr at *;have HCL:=HCL0;clear HCL0;obtain⟨cl,hcl⟩:∃ cl,cl=cc.length:=⟨_,rfl⟩
      rw[←hcl] at HG2 HCL hcv ⊢;have HOC:=kp (show OwB w.heap.size wa (.slice av cl cv) cc by rw[hcl];exact ho2);have HCC:=kp hcl;have HG10:=kp (H.out.at 0 rfl);clear ho2 hcx;by_cases hmo:mostF x<cl
      ·have HF:=kp (HER.out (m+1) 11 [] (by rw[HG2.out,if_pos hmo]) (by decide));by_cases h25:1025<cl
       ·have h25':(1025:Int)<(cl:Int):=by omega
        clear h25 hmo hcl;subst h13;go_wp2_with fail;go_ret3
        exact decL_of HF.out H.out.1
       ·have h25':¬ (1025:Int)<(cl:Int):=by omega
        have hq5:q≠255:=by
         intro e;unfold mostF at hmo;rw[if_pos (by rw[←HQ.out];exact e)] at hmo;omega
        have h24':(1024:Int)<(cl:Int):=by
         unfold mostF at hmo;rw[if_neg (by rw[←HQ.out];exact hq5)] at hmo;omega
        have hq6:((q:Int) != 255)=true:=by simp;omega
        clear h25 hmo hcl hq5;subst h13;go_wp2_with ((with_reducible refine isLd 5 ?_);(refine xF1 H 5 0 underlying5 ?_);simp only[pA]);go_ret3
        exact decL_of HF.out H.out.1
      ·have HG3:=kp (show oneF (k==0) (listF k) m (x::l)=if x.toNat=255∧cc=[] then ([],m+1,12) else if containerF x=false then (rr,m+1,0) else if (k==0)=true∧cc≠[] then ([],m+1,4) else (rr,(listF k (m+1) cc).1,(listF k (m+1) cc).2) by rw[HG2.out,if_neg hmo])
       have h25':¬ (1025:Int)<(cl:Int):=by
        unfold mostF at hmo;split at hmo <;> omega
       by_cases h255:q=255
       ·have hq5:((q:Int) != 255)=false:=by rw[h255];rfl
        have hq6:((q:Int)==255)=true:=by rw[h255];rfl
        by_cases hc0:cl=0
        ·have HF:=kp (HER.out (m+1) 12 [] (by rw[HG3.out,if_pos ⟨by rw[←HQ.out];exact h255,List.length_eq_zero_iff.1 (by rw[←hcl];exact hc0)⟩]) (by decide));have hc1:(cl:Int)=0:=by omega
         clear hmo h255 hcl HG2 HG3;subst hc0;subst h13;go_wp2_with ((with_reducible refine isLd 5 ?_);(refine xF1 H 5 0 underlying5 ?_);simp only[pA]);go_ret3
         exact decL_of HF.out H.out.1
        ·obtain⟨y,c2,rfl⟩:∃ y c2,cc=y::c2:=by
          cases cc with
          |nil=>exact absurd hcl hc0
          |cons y c2=>exact⟨y,c2,rfl⟩
         have HK:=kp (show oneF (k==0) (listF k) m (x::l)=(rr,m+1,0) by
          rw[HG3.out,if_neg (fun h=>by cases h.2),if_pos (by unfold containerF;rw[←HQ.out,h255];rfl)])
         have hc1:¬ (cl:Int)=0:=by omega
         have hc2:1≤cl:=by omega
         have hc3:0<cl:=hc2;have HSC:=kp (SlB.of_owns HOC.out);have hsc:SlB wa (.slice av cl cv) (y::c2):=HSC.out;obtain⟨b5,o5,rfl,hb5,hc5⟩:=hsc.at 0 y rfl;obtain⟨r,hr⟩:∃ r,r=y.toNat:=⟨_,rfl⟩
         have hr1:r≤255:=by have:=y.isLt;omega
         have hcy:wa.cell? ⟨b5,o5,none⟩=some (.int .u8 (r:Int)):=hc5.trans (by show some (Value.int .u8 (wI y))=_;rw[show wI y=(r:Int) by rw[hr];rfl]);have HCN:=kp (fun W=>containerR_any q hq1 W);rw[show (decide (200≤q)&&decide (q<220))=false by rw[h255];rfl] at HCN;clear hmo h255 hcl HG2 HG3 hc0 hsc hb5 hc5 hr HSC;subst h13;go_wp2_with ((with_reducible refine isLd 5 ?_);(refine xF1 H 5 0 underlying5 ?_);simp only[pA]);subst h18;go_wp2_with (first|((with_reducible refine isSt 5 ?_);(refine xS1 H 5 0 (pEl q r none 0 0 none 0 0) ?_;clear H;intro w18 HWw18 H;simp only[szA] at H))|((with_reducible show wpList _ _ _ (Oper.mk _ (Op.slice 29 _ _ _ _) _ _ _ _::_) _ _);(refine L_cut (by kernel_rfl) 29 _ _ _ _ rfl _ _ _ _ _ rfl rfl rfl rfl (run_cutL _ underlying29 (sizeU8q) _ _ _ (1) (hc2)) ?_);simp only[pA]));have HOD0:=kp (owns_wroteT HOC.out HWw18.out HG10.out (show 5≠175 from by decide));have HSD:=kp (show SlB w18 (.slice (cutA (some ⟨b5,o5,none⟩) 1 cv 1) (cl-1) (cv-1)) c2 from rest_part (by have h:=SlB.of_owns HOD0.out;exact h) hcv 0 (by omega));have HLA:=kp (show c2.length≤100000 by have h1:=HCC.out;have h2:=HCL.out;have h3:=HLN.out;simp only[List.length_cons] at h1;omega);clear HOD0 hcy;subst h20;go_wp2_with (first|((with_reducible refine isLd 5 ?_);(refine xF1 H 5 0 underlying5 ?_);simp only[pA])|(go_at_call 109;refine (HCN.out _).mono ?_;rintro e wx ⟨rfl,rfl⟩));subst h28;go_wp2_with (first|(((with_reducible refine isBs 100 29 ?_);(refine xBS H 29 0 (#[]) 5 ([]) (fun _=>by kernel_rfl) ?_);clear H;intro ge we HGge HEge H;simp only[pA]);have HOW:=kp (owns_room (l:=[]) (zs:=[]) (n:=0) (c:=0) (H.out.at 0 rfl) (H.out.le 0 rfl) rfl rfl (by decide));have HSP:=kp (H.out.sepHd (n:=0) (c:=0));have H2:=kp H.out.tl;clear H;have H:=H2;clear H2)|(at_builtin;(have HSX:=kp (HSD.out.ext HEge.out);have HOX2:=kp (HOW.out);have HSPX:=kp (HSP.out);refine L_appB2 H rfl _ _ rfl _ (Nat.le_refl _) H.out.1.size _ _ rfl HOX2.out HSPX.out _ _ rfl HSX.out ((by have:=HLA.out;simp;omega)) ?_;clear H HSX HOX2 HSPX;intro vd wd HOD HGwd H;simp only[pA]))|(obtain⟨ad9,nd9,cd9,rfl⟩:=owns_form2 HOD.out;((with_reducible refine isSt 29 ?_);(refine xS1 H 29 0 (pEl q (r) ad9 nd9 cd9 none 0 0) ?_;clear H;intro w28 HWw28 H;simp only[szA] at H))));subst h29;go_wp2_with (first|((with_reducible refine isLd 175 ?_);(refine xFA H 175 0 underlying175 ?_);simp only[pA])|((with_reducible refine isBs 106 83 ?_);(refine xBS H 83 1 (#[(0,.agg (cat (pEl q r ad9 nd9 cd9 none 0 0)).toArray)]) 175 (cat (pEl q r ad9 nd9 cd9 none 0 0)) (fun _=>by kernel_rfl) ?_);clear H;intro g106 w106 HGg106 HEg106 H;simp only[pA])|(at_builtin;have HY:=kp (H.out.at 0 rfl);have HO3:=kp (HTW.out _ H.out.tl.tl);have H2:=kp (H.out.sub (List.nil_sublist _));clear H;have H:=H2;clear H2;refine L_appT (f:=fun y=>y) elemEl H rfl _ _ rfl w.heap.size (Nat.le_refl _) H.out.1.size _ xs rfl HO3.out (fun z hz=>by cases hz) g106 (cat (pEl q r ad9 nd9 cd9 none 0 0)) rfl _ HY.out rfl (one_pEl _ _ _ _ _ _ _ _) (by have:=HO.out.1;omega) (by have:=HO.out.1;omega) ?_;clear H;intro va wd HOD HGD HWD H;simp only[pA]));have HSB:=kp (HSR.out _ (HS.out _ (HS0.out.ext H.out.1)));have HNR:=kp HSB.out.len;go_roundw
         case rel=>exact⟨rr,ar,nr,cr,f,(m+1),u+1,xs++[cat (pEl q r ad9 nd9 cd9 none 0 0)],rfl,(by go_num),hnr,by have h1:=HNR.out;have h2:=HCL.out;have h3:=HLN.out;omega,by have h1:=HNR.out;have h2:=HCL.out;have h3:=HLN.out;omega,(by omega),(by omega),HNR,kp (fun W h=>HSR.out W (HS.out W h)),kp (HGO.out _ _ HK.out),kp ⟨by simp[HO.out.1],HOD.out⟩,H⟩
         case measure=>have h1:=HNR.out;have h2:=HCL.out;have h3:=HLN.out;show nr<n;omega
       ·have hq5:((q:Int) != 255)=true:=by simp;omega
        have hq6:((q:Int)==255)=false:=by simp;omega
        have h24':¬ (1024:Int)<(cl:Int):=by
         unfold mostF at hmo;rw[if_neg (by rw[←HQ.out];exact h255)] at hmo;omega
        have HG4:=kp (show oneF (k==0) (listF k) m (x::l)=if containerF x=false then (rr,m+1,0) else if (k==0)=true∧cc≠[] then ([],m+1,4) else (rr,(listF k (m+1) cc).1,(listF k (m+1) cc).2) by rw[HG3.out,if_neg (fun h=>h255 (by rw[HQ.out];exact h.1))]);have HCN:=kp (fun W=>containerR_any q hq1 W);have HSC:=kp (SlB.of_owns HOC.out);have HLA:=kp (show cc.length≤100000 by have h1:=HCC.out;have h2:=HCL.out;have h3:=HLN.out;omega);have HCF:=kp (show containerF x=(decide (200≤q)&&decide (q<220)) by unfold containerF;rw[HQ.out]);rw[←HCF.out] at HCN;cases hcf:containerF x with
        |false =>
         rw[hcf] at HCN;have HK:=kp (show oneF (k==0) (listF k) m (x::l)=(rr,m+1,0) by rw[HG4.out,if_pos hcf]);clear hmo h255 hcl HG2 HG3 HG4 hcf HCF;subst h13;go_wp2_with ((with_reducible refine isLd 5 ?_);(refine xF1 H 5 0 underlying5 ?_);simp only[pA]);subst h20;go_wp2_with (first|((with_reducible refine isLd 5 ?_);(refine xF1 H 5 0 underlying5 ?_);simp only[pA])|(go_at_call 109;refine (HCN.out _).mono ?_;rintro e wx ⟨rfl,rfl⟩));subst h28;go_wp2_with (first|(((with_reducible refine isBs 100 29 ?_);(refine xBS H 29 0 (#[]) 5 ([]) (fun _=>by kernel_rfl) ?_);clear H;intro ge we HGge HEge H;simp only[pA]);have HOW:=kp (owns_room (l:=[]) (zs:=[]) (n:=0) (c:=0) (H.out.at 0 rfl) (H.out.le 0 rfl) rfl rfl (by decide));have HSP:=kp (H.out.sepHd (n:=0) (c:=0));have H2:=kp H.out.tl;clear H;have H:=H2;clear H2)|(at_builtin;(have HSX:=kp (HSC.out.ext HEge.out);have HOX2:=kp (HOW.out);have HSPX:=kp (HSP.out);refine L_appB2 H rfl _ _ rfl _ (Nat.le_refl _) H.out.1.size _ _ rfl HOX2.out HSPX.out _ _ rfl HSX.out ((by have:=HLA.out;simp;omega)) ?_;clear H HSX HOX2 HSPX;intro vd wd HOD HGwd H;simp only[pA]))|(obtain⟨ad9,nd9,cd9,rfl⟩:=owns_form2 HOD.out;((with_reducible refine isSt 29 ?_);(refine xS1 H 29 0 (pEl q (0) ad9 nd9 cd9 none 0 0) ?_;clear H;intro w28 HWw28 H;simp only[szA] at H))));subst h29;go_wp2_with (first|((with_reducible refine isLd 175 ?_);(refine xFA H 175 0 underlying175 ?_);simp only[pA])|((with_reducible refine isBs 106 83 ?_);(refine xBS H 83 1 (#[(0,.agg (cat (pEl q 0 ad9 nd9 cd9 none 0 0)).toArray)]) 175 (cat (pEl q 0 ad9 nd9 cd9 none 0 0)) (fun _=>by kernel_rfl) ?_);clear H;intro g106 w106 HGg106 HEg106 H;simp only[pA])|(at_builtin;have HY:=kp (H.out.at 0 rfl);have HO3:=kp (HTW.out _ H.out.tl.tl);have H2:=kp (H.out.sub (List.nil_sublist _));clear H;have H:=H2;clear H2;refine L_appT (f:=fun y=>y) elemEl H rfl _ _ rfl w.heap.size (Nat.le_refl _) H.out.1.size _ xs rfl HO3.out (fun z hz=>by cases hz) g106 (cat (pEl q 0 ad9 nd9 cd9 none 0 0)) rfl _ HY.out rfl (one_pEl _ _ _ _ _ _ _ _) (by have:=HO.out.1;omega) (by have:=HO.out.1;omega) ?_;clear H;intro va wd HOD HGD HWD H;simp only[pA]));have HSB:=kp (HSR.out _ (HS.out _ (HS0.out.ext H.out.1)));have HNR:=kp HSB.out.len;go_roundw
         case rel=>exact⟨rr,ar,nr,cr,f,(m+1),u+1,xs++[cat (pEl q 0 ad9 nd9 cd9 none 0 0)],rfl,(by go_num),hnr,by have h1:=HNR.out;have h2:=HCL.out;have h3:=HLN.out;omega,by have h1:=HNR.out;have h2:=HCL.out;have h3:=HLN.out;omega,(by omega),(by omega),HNR,kp (fun W h=>HSR.out W (HS.out W h)),kp (HGO.out _ _ HK.out),kp ⟨by simp[HO.out.1],HOD.out⟩,H⟩
         case measure=>have h1:=HNR.out;have h2:=HCL.out;have h3:=HLN.out;show nr<n;omega
        |true =>
         rw[hcf] at HCN;have HG5:=kp (show oneF (k==0) (listF k) m (x::l)=if (k==0)=true∧cc≠[] then ([],m+1,4) else (rr,(listF k (m+1) cc).1,(listF k (m+1) cc).2) by rw[HG4.out,if_neg (by rw[hcf];decide)]);by_cases hl0:k=0∧cl≠0
         ·have HF:=kp (HER.out (m+1) 4 [] (by rw[HG5.out,if_pos ⟨by rw[hl0.1];rfl,fun e=>hl0.2 (by rw[hcl,e];rfl)⟩]) (by decide));have hd1:(4:Int)≤(dd:Int):=by have h1:=HD.out;have h2:=hl0.1;omega
          have hc1:(0:Int)<(cl:Int):=by have h2:=hl0.2;omega
          clear hmo h255 hcl HG2 HG3 HG4 HG5 hcf HCF hl0;subst h13;go_wp2_with ((with_reducible refine isLd 5 ?_);(refine xF1 H 5 0 underlying5 ?_);simp only[pA]);subst h20;go_wp2_with (first|((with_reducible refine isLd 5 ?_);(refine xF1 H 5 0 underlying5 ?_);simp only[pA])|(go_at_call 109;refine (HCN.out _).mono ?_;rintro e wx ⟨rfl,rfl⟩));go_ret3
          exact decL_of HF.out H.out.1
         ·have HG6:=kp (show oneF (k==0) (listF k) m (x::l)=(rr,(listF k (m+1) cc).1,(listF k (m+1) cc).2) by rw[HG5.out,if_neg (fun h=>hl0 ⟨by simpa using h.1,fun e=>h.2 (List.length_eq_zero_iff.1 (by rw[←hcl,e]))⟩)]);have HLK:=kp (list_keep k (m+1) cc (by omega));have hdc:=fun W hs=>HLC.out cc av cl cv (m+1) W hcv HLA.out (by omega) (fun h=>List.length_eq_zero_iff.1 (by rw[←hcl];by_cases c0:cl=0;exact c0;exact absurd ⟨h,c0⟩ hl0)) hs;have e6:((5-k:Nat):Int)=(dd:Int)+1:=by have h1:=HD.out;omega
          simp only[e6] at hdc;obtain⟨M,hM⟩:∃ M,M=(listF k (m+1) cc).1:=⟨_,rfl⟩
          obtain⟨E,hE⟩:∃ E,E=(listF k (m+1) cc).2:=⟨_,rfl⟩
          have HDC:=kp (fun W hs=>show Calls prog 93 #[.slice av cl cv,.int .i64 ((dd:Int)+1),.int .i64 ((m:Int)+1)] W (fun e w'=>∃ a kk q,e=.returned (.tuple #[.slice a kk q,.int .i64 (M:Nat),.int .i64 E])∧Ext W w') from by
           rw[hM,hE];exact hdc W hs)
          rw[←hM] at HLK HG6;rw[←hE] at HG6;clear hdc e6 hM hE
          have hor:(¬ (4:Int)≤(dd:Int))∨((4:Int)≤(dd:Int)∧¬ (0:Int)<(cl:Int)):=by
           by_cases c4:(4:Int)≤(dd:Int)
           ·exact .inr ⟨c4,fun c0=>hl0 ⟨by have h1:=HD.out;omega,by omega⟩⟩
           ·exact .inl c4
          clear hmo h255 hcl HG2 HG3 HG4 HG5 hcf HCF hl0;by_cases hE:E=0
          ·have HK:=kp (show oneF (k==0) (listF k) m (x::l)=(rr,M,0) by rw[HG6.out,hE]);subst hE;rcases hor with hd1|⟨hd1,hd2⟩
           all_goals
            subst h13;go_wp2_with ((with_reducible refine isLd 5 ?_);(refine xF1 H 5 0 underlying5 ?_);simp only[pA]);subst h20;go_wp2_with (first|((with_reducible refine isLd 5 ?_);(refine xF1 H 5 0 underlying5 ?_);simp only[pA])|(go_at_call 109;refine (HCN.out _).mono ?_;rintro e wx ⟨rfl,rfl⟩));subst h23;go_wp2_with (go_at_call 93;refine (HDC.out _ HSC.out).mono ?_;rintro e wx ⟨a9,k9,q9,rfl,hx⟩;replace H:=kp (H.out.ext hx);have HXC:=kp hx;clear hx);subst h26;go_wp2_with ((with_reducible refine isSt 83 ?_);(refine xS1 H 83 0 (pEl q 0 none 0 0 a9 k9 q9) ?_;clear H;intro w26 HWw26 H;simp only[szA] at H));subst h29;go_wp2_with (first|((with_reducible refine isLd 175 ?_);(refine xFA H 175 0 underlying175 ?_);simp only[pA])|((with_reducible refine isBs 106 83 ?_);(refine xBS H 83 1 (#[(0,.agg (cat (pEl q 0 none 0 0 a9 k9 q9)).toArray)]) 175 (cat (pEl q 0 none 0 0 a9 k9 q9)) (fun _=>by kernel_rfl) ?_);clear H;intro g106 w106 HGg106 HEg106 H;simp only[pA])|(at_builtin;have HY:=kp (H.out.at 0 rfl);have HO3:=kp (HTW.out _ H.out.tl.tl);have H2:=kp (H.out.sub (List.nil_sublist _));clear H;have H:=H2;clear H2;refine L_appT (f:=fun y=>y) elemEl H rfl _ _ rfl w.heap.size (Nat.le_refl _) H.out.1.size _ xs rfl HO3.out (fun z hz=>by cases hz) g106 (cat (pEl q 0 none 0 0 a9 k9 q9)) rfl _ HY.out rfl (one_pEl _ _ _ _ _ _ _ _) (by have:=HO.out.1;omega) (by have:=HO.out.1;omega) ?_;clear H;intro va wd HOD HGD HWD H;simp only[pA]));have HSB:=kp (HSR.out _ (HS.out _ (HS0.out.ext H.out.1)));have HNR:=kp HSB.out.len;go_roundw
            case rel=>exact⟨rr,ar,nr,cr,f,M,u+1,xs++[cat (pEl q 0 none 0 0 a9 k9 q9)],rfl,rfl,hnr,by have h1:=HNR.out;have h2:=HCL.out;have h3:=HLN.out;omega,by have h1:=HNR.out;have h2:=HCL.out;have h3:=HLN.out;omega,HLK.out.1,(by have:=HLK.out.2;omega),HNR,kp (fun W h=>HSR.out W (HS.out W h)),kp (HGO.out _ _ HK.out),kp ⟨by simp[HO.out.1],HOD.out⟩,H⟩
            case measure=>have h1:=HNR.out;have h2:=HCL.out;have h3:=HLN.out;show nr<n;omega
          ·have HF:=kp (HER.out M E rr HG6.out hE);have hE2:(E != 0)=true:=by simp[hE]
           clear hE;rcases hor with hd1|⟨hd1,hd2⟩
           all_goals
            subst h13;go_wp2_with ((with_reducible refine isLd 5 ?_);(refine xF1 H 5 0 underlying5 ?_);simp only[pA]);subst h20;go_wp2_with (first|((with_reducible refine isLd 5 ?_);(refine xF1 H 5 0 underlying5 ?_);simp only[pA])|(go_at_call 109;refine (HCN.out _).mono ?_;rintro e wx ⟨rfl,rfl⟩));subst h23;go_wp2_with (go_at_call 93;refine (HDC.out _ HSC.out).mono ?_;rintro e wx ⟨a9,k9,q9,rfl,hx⟩;replace H:=kp (H.out.ext hx);have HXC:=kp hx;clear hx);go_ret3
            exact decL_of HF.out H.out.1
     ·have HF:=kp (HER.out (m+1) (contOf l).2.2 [] (by rw[HG.out,if_pos hE]) hE);generalize hEE:(contOf l).2.2=E at *;have HEE:=kp hEE;have hE2:(E != 0)=true:=by simp[hE]
      clear hE hEE HG;go_wp2_with (first|((with_reducible refine isBd 33 175 ?_);(refine xBD 175 (#[(0,.int .u8 (q:Int))]) (cat (pEl q 0 none 0 0 none 0 0)) ?_);simp only[pA])|((with_reducible refine isAl 10 175 ?_);(refine xAL H 175 (cat (pEl 0 0 none 0 0 none 0 0)) ?_);clear H;intro g10 w10 HGg10 HEg10 H;simp only[pA])|((with_reducible refine isSt 175 ?_);(refine xSA H 175 0 (pEl q 0 none 0 0 none 0 0) ?_;clear H;intro w11 HWw11 H;simp only[szA] at H))|((with_reducible show wpList _ _ _ (Oper.mk _ (Op.slice 29 _ _ _ _) _ _ _ _::_) _ _);(refine L_cut (by kernel_rfl) 29 _ _ _ _ rfl _ _ _ _ _ rfl rfl rfl rfl (run_cutL _ underlying29 (sizeU8q) _ _ _ (1) (hn1)) ?_);simp only[pA])|(go_at_call 108;refine (HCO.out _ (HS1.out _ (HS.out _ (HS0.out.ext H.out.1)))).mono ?_;rintro e wa ⟨vc,vr,rfl,hx,hok⟩;clear hok;rw[HEE.out];replace H:=kp (H.out.ext hx);have HXC:=kp hx;clear hx));go_ret3
      exact decL_of HF.out H.out.1
theorem dec_any:∀ lv,lv≤4→DecC lv
 |0,_=>dec_zero
 |k+1,h=>dec_succ k (by omega) (kp (dec_any k (by omega)))
set_option maxHeartbeats 1600000 in
theorem decodeR_any (ad:Option Addr) (n c:Nat) (b:By) (hb:b.length≤100000) (hcap:n≤c) (w:World) (hs:SlB w (.slice ad n c) b) :
  Calls prog 75 #[.slice ad n c] w (DecR b w):=by
 have H:=kp (Loc.start w);have HL:=kp (show Calls prog 93 #[.slice ad n c,.int .i64 1,.int .i64 0] w (fun e w'=>∃ a kk q,e=.returned (.tuple #[.slice a kk q,.int .i64 ((listF 4 0 b).1:Nat),.int .i64 (elemE b)])∧Ext w w') from dec_any 4 (by omega) b ad n c 0 w hcap hb (by omega) (fun h=>absurd h (by decide)) hs);generalize (listF 4 0 b).1=M at *;by_cases hE:elemE b=0
 ·have HE:=kp hE;have HP:=kp (show ∀ a kk q w',Ext w w'→DecR b w (.returned (.tuple #[.slice a kk q,.int .i64 0])) w' from fun a kk q w' h=>⟨a,kk,q,by rw[hE],h⟩);rw[hE] at HL;clear hs hE;go_enter func75,ntmps75;go_wp2_with (go_at_call 93;refine HL.out.mono ?_;rintro e wx ⟨a9,k9,q9,rfl,hx⟩;replace H:=kp (H.out.ext hx);have HXC:=kp hx;clear hx);go_ret2
  exact HP.out _ _ _ _ H.out.1
 ·have HP:=kp (show ∀ E,E=elemE b→∀ a kk q w',Ext w w'→DecR b w (.returned (.tuple #[.slice a kk q,.int .i64 E])) w' from fun E hE a kk q w' h=>⟨a,kk,q,by rw[hE],h⟩);obtain⟨E,hEE⟩:∃ E,E=elemE b:=⟨_,rfl⟩
  have HPE:=kp (HP.out E hEE);rw[←hEE] at HL hE;have hE2:(E != 0)=true:=by simp[hE]
  clear hs hE hEE HP;go_enter func75,ntmps75;go_wp2_with (go_at_call 93;refine HL.out.mono ?_;rintro e wx ⟨a9,k9,q9,rfl,hx⟩;replace H:=kp (H.out.ext hx);have HXC:=kp hx;clear hx);go_ret2
  exact HPE.out _ _ _ _ H.out.1
attribute [local go_sem ↓] Go.wp_at_zero Go.wp_at_succ
theorem step_callF {P:Program} {ops:Array Oper} {o:Oper} {a:Act} {w:World} {K:Act→World→Prop} {Q:Exit→Act→World→Prop} {E:Prop} (hgd:o.guard=none) (f:Nat) {fn:Func} (hf:P.funcs[f]?=some fn) (h1:fn.name≠ "runtime.NumGoroutine") (h2:fn.body≠none) (ars:Array Operand) (ts:Array TypeId) (ho:o.op=.call { callee:=.value (.func f),args:=ars,argTypes:=ts })
  (vs:Array Value) (hv:ars.map a.eval=vs) {R:Ending→World→Prop} (hc:Calls P f vs w R) (h:∀ e w',R e w'→∃ v,e=.returned v∧K (a.put o.dst v) w'):if Region.wanted o (yielded ops a.tmps)=true then Oper.wp P o a w K Q else E:=by
 have hw:Region.wanted o (yielded ops a.tmps)=true:=by simp[Region.wanted,hgd]
 rw[if_pos hw];unfold Oper.wp;simp[execOp,ho,resolve,invoke,Deferred.ofValue,callFunc,hf,h1,h2,Act.eval,Result.andThen];have e:Array.map a.eval ars=vs:=hv
 show Oper.upon P o a K Q (.ok (Next.enter f (Array.map a.eval ars)) w)
 rw[e]
 exact hc.mono fun e w' he=>by
  obtain⟨v,rfl,hk⟩:=h e w' he;exact hk
theorem step_cpB {ops:Array Oper} {o:Oper} {a:Act} {w0 w:World} {K:Act→World→Prop} {Q:Exit→Act→World→Prop} {E:Prop} {bs:List Bk} (H:Loc w0 w bs) (hgd:o.guard=none) (d s:Operand) (ho:o.op=.call { callee:=.builtin .copy,args:=#[d,s],argTypes:=#[29,29] })
  (k:Nat) {g T:Nat} {cs:List Value} (hi:bs[k]?=some (g,T,cs)) (off n c:Nat) (hd:a.eval d=.slice (some ⟨g,off,none⟩) n c) (b9 o9 sl sc:Nat) (m:By) (hs:a.eval s=.slice (some ⟨b9,o9,none⟩) sl sc) (hm:SlB w (.slice (some ⟨b9,o9,none⟩) sl sc) m) (hn:m.length≤n) (hfit:off+m.length≤cs.length) (new:List Value) (hnew:cs.take off++m.map V8++cs.drop (off+m.length)=new)
  (h:∀ w',Kp (Loc w0 w' (bs.set k (g,T,new)))→K (a.put o.dst (goInt (m.length:Int))) w'):if Region.wanted o (yielded ops a.tmps)=true then Oper.wp prog o a w K Q else E:=by
 have hw:Region.wanted o (yielded ops a.tmps)=true:=by simp[Region.wanted,hgd]
 rw[if_pos hw];have hl:sl=m.length:=hm.len
 have hr:=run_copy_row (P:=prog) w 29 29 o.type 5 g off n c ⟨b9,o9,none⟩ sl sc cs.toArray T (m.map V8) underlying29 sizeU8q (H.at k hi) (by rw[List.length_map,hl];exact (Nat.min_eq_left hn).symm) (fun j u hj=>by
  rw[List.getElem?_map] at hj;cases hq:m[j]? with
  |none=>simp[hq] at hj
  |some z =>
   simp[hq] at hj;subst hj;obtain⟨b1,o1,e1,_,h3⟩:=hm.at j z hq;cases e1
   rw[Addr.add_mid];exact h3) (by simpa using hfit) (mem_V8 m)
 have e:cs.toArray.toList.take off++m.map V8++cs.toArray.toList.drop (off+(m.map V8).length)=new:=by rw[List.length_map];exact hnew
 rw[e,List.length_map] at hr;unfold Oper.wp;simp only[execOp,ho,resolve,invoke,builtin,Sem.run_bind,Sem.run_pure,Result.andThen_ok,List.map_toArray,List.map_cons,List.map_nil,hd,hs,hr];exact h _ (kp (H.set k hi new))
def RqR (b:By) (again:Bool) (w:World) (en:Ending) (w':World):Prop:=∃ x y o a k q,en=.returned (.tuple #[.agg (cat (partsRq x y o a k q)).toArray,.int .i64 (frontE b (if again then 10 else 4))])∧Ext w w'∧(frontE b (if again then 10 else 4)=0→x=rdF b 0∧y=rdF b 2)∧(frontE b (if again then 10 else 4)≠0→x=0∧y=0)
theorem rqR_of {b:By} {again:Bool} {w w':World} {x y:Int} {o:Vc 6} {a:Option Addr} {k q:Nat} {E:Int} (hE:E=frontE b (if again then 10 else 4)) (hx:frontE b (if again then 10 else 4)=0→x=rdF b 0∧y=rdF b 2) {ps:List Lf} (hp:ps=resP E (partsRq x y o a k q) (partsRq 0 0 zv6 none 0 0)) (h:Ext w w'):RqR b again w (.returned (.tuple #[.agg (cat ps).toArray,.int .i64 E])) w':=by
 subst hp hE;unfold RqR resP;by_cases c:frontE b (if again then 10 else 4)=0
 ·rw[if_pos c];exact⟨x,y,o,a,k,q,rfl,h,hx,fun h=>absurd c h⟩
 ·rw[if_neg c];exact⟨0,0,zv6,none,0,0,rfl,h,fun h=>absurd h c,fun _=>⟨rfl,rfl⟩⟩
set_option maxHeartbeats 1600000 in
theorem decReq_no (ad:Option Addr) (n c:Nat) (b:By) (hb:n≤100000) (hcap:n≤c) (w:World) (hs:SlB w (.slice ad n c) b) :
  Calls prog 80 #[.slice ad n c,.bool false] w (RqR b false w):=by
 have H:=kp (Loc.start w);have HS:=kp hs;have HN:=kp hs.len;have hb2:n≤1000000:=by omega
 have HT1:=kp (fun g w1 rest H=>rtwo_any ad n c b hb2 hcap 0 (by omega) (readE n) g w w1 rest H hs);generalize hp1:rdN b 0 (readE n) 2=p1 at HT1;generalize he1:rdE b 0 (readE n) 2=e1 at HT1;have hq1:p1≤n:=by { rw[←hp1];exact rdN_le HN.out (by omega) }
 have HT2:=kp (fun g w1 rest H=>rtwo_any ad n c b hb2 hcap p1 hq1 e1 g w w1 rest H hs);generalize hp2:rdN b p1 e1 2=p2 at HT2;generalize he2:rdE b p1 e1 2=e2 at HT2;have hq2:p2≤n:=by { rw[←hp2];exact rdN_le HN.out hq1 }
 have HEL:=kp (fun g w1 rest H=>relements_any ad n c b hb hcap p2 hq2 e2 g w w1 rest H hs);have HF:=kp (frontQ b false);have HSZ:=kp (show elE b p2 e2=elS b (sQF b false) by subst hp2 he2 hp1 he1;rw[HN.out];rfl);have HX0:=kp (show rd2 b 0 (readE n)=rd2 b (st0 b).1 (st0 b).2 by rw[HN.out];rfl);have HX1:=kp (show rd2 b p1 e1=rd2 b (s1F b).1 (s1F b).2 by subst hp1 he1;rw[HN.out];rfl);generalize rd2 b 0 (readE n)=x0 at *;generalize rd2 b p1 e1=x1 at *;clear hs hp1 he1 hp2 he2;go_enter func80,ntmps80;go_wp2_with (first|((with_reducible refine isAl 4 124 ?_);(refine xAL H 124 (cat (partsRq 0 0 zv6 none 0 0)) ?_);clear H;intro g4 w4 HGg4 HEg4 H;simp only[pA])|(go_at_call 95;refine (read_any ad n c _).mono ?_;rintro e wr ⟨gr,rfl,hl⟩;have H2:=kp (H.out.cons1 hl);clear H hl;have H:=H2;clear H2)|(go_at_call 96;with_reducible refine (HT1.out _ _ _ H).mono ?_;rintro e wb ⟨rfl,hl⟩;clear H;have H:=kp hl;clear hl)|(go_at_call 96;with_reducible refine (HT2.out _ _ _ H).mono ?_;rintro e wb ⟨rfl,hl⟩;clear H;have H:=kp hl;clear hl)|((with_reducible refine isBd 12 124 ?_);(refine xBD 124 (#[(0,.int .u16 x0)]) (cat (partsRq x0 0 zv6 none 0 0)) ?_);simp only[pA])|(((with_reducible refine isAl 7 124 ?_);(refine xAL H 124 (cat (partsRq 0 0 zv6 none 0 0)) ?_);clear H;intro g7 w7 HGg7 HEg7 H;simp only[pA]);have H2:=kp H.out.sw;clear H;have H:=H2;clear H2)|((with_reducible refine isSt 124 ?_);refine xSA H 124 1 (partsRq x0 0 zv6 none 0 0) ?_;clear H;intro wy HWwy H;simp only[ssA,szA] at H)|((with_reducible refine isSt 72 ?_);(refine xS1 H 72 1 (partsRq x0 x1 zv6 none 0 0) ?_;clear H;intro wu HWwu H;simp only[ssA,szA] at H))|(go_at_call 97;refine (HEL.out _ _ _ H).mono ?_;rintro e wc ⟨a,k,q,rfl,hl⟩;clear H;have H:=kp hl;clear hl)|((with_reducible refine isSt 83 ?_);(refine xS1 H 83 1 (partsRq x0 x1 zv6 a k q) ?_;clear H;intro w7 HWw7 H;simp only[ssA,szA] at H))|((with_reducible refine isLd 124 ?_);refine xFA H 124 1 underlying124 ?_;simp only[pA])|(go_at_call 100;refine (resultRq_any _ _ _ _ _ _ _ _ _ _ _ _ _ _ _ H).mono ?_;rintro e wd ⟨rfl,hl⟩;clear H;have H:=kp hl;clear hl)|((with_reducible refine isSt 124 ?_);refine L_sa H rfl rfl 124 _ _ rfl 2 rfl rfl (resP (elE b p2 e2) (partsRq x0 x1 zv6 a k q) (partsRq 0 0 zv6 none 0 0)) rfl ((lsum_resP (m:=9) rfl rfl).symm) (by rw[←(lsum_resP (m:=9) rfl rfl).symm];kernel_rfl) ?_;clear H;intro ws HWws H;simp only[ssA,szA] at H));exact ret_f2 H Tryz.results80 2 rfl rfl _ rfl underlying124 rfl (by rw[lsum_resP (m:=9) rfl rfl];kernel_rfl) rfl (rqR_of (by rw[HSZ.out];exact HF.out.1) (fun h=>by rw[HX0.out,HX1.out];exact HF.out.2 h) rfl H.out.1)
theorem cells_old {x y:Int} (m:By) (hm:m.length=6):(cat (partsRq x y zv6 none 0 0)).take 2++m.map V8++(cat (partsRq x y zv6 none 0 0)).drop (2+m.length)=cat (partsRq x y ⟨m,hm⟩ none 0 0):=by
 obtain⟨_,_,_,_,_,_,rfl⟩:=six hm;rfl
set_option maxRecDepth 4000 in
set_option maxHeartbeats 1600000 in
theorem decReq_yes (ad:Option Addr) (n c:Nat) (b:By) (hb:n≤100000) (hcap:n≤c) (w:World) (hs:SlB w (.slice ad n c) b) :
  Calls prog 80 #[.slice ad n c,.bool true] w (RqR b true w):=by
 have H:=kp (Loc.start w);have HS:=kp hs;have HN:=kp hs.len;have hb2:n≤1000000:=by omega
 have HT1:=kp (fun g w1 rest H=>rtwo_any ad n c b hb2 hcap 0 (by omega) (readE n) g w w1 rest H hs);generalize hp1:rdN b 0 (readE n) 2=p1 at HT1;generalize he1:rdE b 0 (readE n) 2=e1 at HT1;have hq1:p1≤n:=by { rw[←hp1];exact rdN_le HN.out (by omega) }
 have HT2:=kp (fun g w1 rest H=>rtwo_any ad n c b hb2 hcap p1 hq1 e1 g w w1 rest H hs);generalize hp2:rdN b p1 e1 2=p2 at HT2;generalize he2:rdE b p1 e1 2=e2 at HT2;have hq2:p2≤n:=by { rw[←hp2];exact rdN_le HN.out hq1 }
 have HBY:=kp (fun g w1 rest H=>bytes_any ad n c b hb2 hcap p2 6 hq2 (by omega) e2 g w w1 rest H hs);have HBL:=kp (rdB_len b p2 e2 6);generalize hp3:rdN b p2 e2 6=p3 at *;generalize he3:rdE b p2 e2 6=e3 at *;have hq3:p3≤n:=by rw[←hp3];exact rdN_le HN.out hq2
 have HEL:=kp (fun g w1 rest H=>relements_any ad n c b hb hcap p3 hq3 e3 g w w1 rest H hs);have HF:=kp (frontQ b true);have HSZ:=kp (show elE b p3 e3=elS b (sQF b true) by subst hp3 he3 hp2 he2 hp1 he1;rw[HN.out];rfl);have HX0:=kp (show rd2 b 0 (readE n)=rd2 b (st0 b).1 (st0 b).2 by rw[HN.out];rfl);have HX1:=kp (show rd2 b p1 e1=rd2 b (s1F b).1 (s1F b).2 by subst hp1 he1;rw[HN.out];rfl);generalize rd2 b 0 (readE n)=x0 at *;generalize rd2 b p1 e1=x1 at *;have HP3:=kp hp3;have HE3:=kp he3;clear hs hp1 he1 hp2 he2 hp3 he3;go_enter func80,ntmps80;generalize h5:Code.region 5 _ _=R5;go_wp2_with (first|((with_reducible refine isAl 4 124 ?_);(refine xAL H 124 (cat (partsRq 0 0 zv6 none 0 0)) ?_);clear H;intro g4 w4 HGg4 HEg4 H;simp only[pA])|(go_at_call 95;refine (read_any ad n c _).mono ?_;rintro e wr ⟨gr,rfl,hl⟩;have H2:=kp (H.out.cons1 hl);clear H hl;have H:=H2;clear H2)|(go_at_call 96;with_reducible refine (HT1.out _ _ _ H).mono ?_;rintro e wb ⟨rfl,hl⟩;clear H;have H:=kp hl;clear hl)|(go_at_call 96;with_reducible refine (HT2.out _ _ _ H).mono ?_;rintro e wb ⟨rfl,hl⟩;clear H;have H:=kp hl;clear hl)|((with_reducible refine isBd 12 124 ?_);(refine xBD 124 (#[(0,.int .u16 x0)]) (cat (partsRq x0 0 zv6 none 0 0)) ?_);simp only[pA])|(((with_reducible refine isAl 7 124 ?_);(refine xAL H 124 (cat (partsRq 0 0 zv6 none 0 0)) ?_);clear H;intro g7 w7 HGg7 HEg7 H;simp only[pA]);have H2:=kp H.out.sw;clear H;have H:=H2;clear H2)|((with_reducible refine isSt 124 ?_);refine xSA H 124 1 (partsRq x0 0 zv6 none 0 0) ?_;clear H;intro wy HWwy H;simp only[ssA,szA] at H)|((with_reducible refine isSt 72 ?_);(refine xS1 H 72 1 (partsRq x0 x1 zv6 none 0 0) ?_;clear H;intro wu HWwu H;simp only[ssA,szA] at H)));subst h5;have HBY2:=kp (HBY.out _ _ _ (kp (H.out.ext (Ext.drew _))));have HNE:=kp (show rdB b p2 e2 6≠[] from fun e=>by have:=HBL.out;rw[e] at this;simp at this);clear H;go_region_law (first|(refine step_callF rfl 99 func99 (by decide) (by decide) _ _ rfl _ (by simp[Act.eval,Act.put]) HBY2.out ?_;rintro e w1 ⟨v,rfl,ho,hl⟩;rw[HP3.out,HE3.out] at hl;obtain⟨av,cv,rfl,hcv⟩:=owns_formN ho;obtain⟨b9,o9,rfl⟩:=(SlB.of_owns ho).ne HNE.out;have HO:=kp ho;have HL:=kp hl;clear ho hl;refine⟨_,rfl,?_⟩)|(refine step_cpB HL.out rfl _ _ rfl 1 rfl 2 6 6 (by simp[Act.eval]) b9 o9 (rdB b p2 e2 6).length cv (rdB b p2 e2 6) (by simp[Act.eval]) (SlB.of_owns HO.out) (by rw[HBL.out];exact Nat.le_refl _) (by rw[HBL.out,cat_len];exact Nat.le_of_ble_eq_true rfl) (cat (partsRq x0 x1 ⟨_,HBL.out⟩ none 0 0)) (cells_old _ HBL.out) ?_;intro w2 H))
 obtain⟨oo,hoo⟩:∃ oo:Vc 6,oo=⟨rdB b p2 e2 6,HBL.out⟩:=⟨_,rfl⟩
 have HOO:=kp hoo;rw[←hoo] at H;clear hoo HL HO HBY2;go_wp2_with (first|(go_at_call 97;refine (HEL.out _ _ _ H).mono ?_;rintro e wc ⟨a,k,q,rfl,hl⟩;clear H;have H:=kp hl;clear hl)|((with_reducible refine isSt 83 ?_);(refine xS1 H 83 1 (partsRq x0 x1 oo a k q) ?_;clear H;intro w7 HWw7 H;simp only[ssA,szA] at H))|((with_reducible refine isLd 124 ?_);refine xFA H 124 1 underlying124 ?_;simp only[pA])|(go_at_call 100;refine (resultRq_any _ _ _ _ _ _ _ _ _ _ _ _ _ _ _ H).mono ?_;rintro e wd ⟨rfl,hl⟩;clear H;have H:=kp hl;clear hl)|((with_reducible refine isSt 124 ?_);refine L_sa H rfl rfl 124 _ _ rfl 2 rfl rfl (resP (elE b p3 e3) (partsRq x0 x1 oo a k q) (partsRq 0 0 zv6 none 0 0)) rfl ((lsum_resP (m:=9) rfl rfl).symm) (by rw[←(lsum_resP (m:=9) rfl rfl).symm];kernel_rfl) ?_;clear H;intro ws HWws H;simp only[ssA,szA] at H));exact ret_f2 H Tryz.results80 2 rfl rfl _ rfl underlying124 rfl (by rw[lsum_resP (m:=9) rfl rfl];kernel_rfl) rfl (rqR_of (by rw[HSZ.out];exact HF.out.1) (fun h=>by rw[HX0.out,HX1.out];exact HF.out.2 h) rfl H.out.1)
end Go.Proofs.YtfecopfofkdnpaaGreat
