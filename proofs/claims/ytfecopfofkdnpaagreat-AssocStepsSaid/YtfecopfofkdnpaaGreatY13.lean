/- Texts of this proof, put together: Rd3, Dec, Rf2, Cmp. -/
import Derived.Test.YtfecopfofkdnpaaGreatY12
import Derived.Test.YtfecopfofkdnpaaGreatY9
import Derived.Test.YtfecopfofkdnpaaGreatY5
import Derived.Test.YtfecopfofkdnpaaGreatY8
import Derived.Lib.Bytealg
import Derived.Laws.Externs
import Derived.Test.YtfecopfofkdnpaaGreatY1
namespace Go.Proofs.YtfecopfofkdnpaaGreat
open Go.RowKit Tryz
def elE (b:By) (p:Nat) (e:Int):Int:=if e=0 then elemE (b.drop p) else e
def ElsR (ad:Option Addr) (n c:Nat) (b:By) (p:Nat) (e:Int) (g:Nat) (w0:World) (rest:List Bk) (en:Ending) (w':World):Prop:=
 ∃ a k q,en=.returned (.slice a k q)∧Loc w0 w' ((g,182,cat (partsR ad n c p (elE b p e)))::rest)
set_option maxHeartbeats 1600000 in
theorem relements_any (ad:Option Addr) (n c:Nat) (b:By) (hb:n≤100000) (hcap:n≤c) (p:Nat) (hp:p≤n) (e:Int) (g:Nat) (w0 w:World) (rest:List Bk) (H:Kp (Loc w0 w ((g,182,cat (partsR ad n c p e))::rest))) (hs:SlB w0 (.slice ad n c) b) :
  Calls prog 97 #[.pointer (some ⟨g,0,none⟩)] w (ElsR ad n c b p e g w0 rest):=by
 have HS:=kp hs;have HN:=kp hs.len;by_cases he:e=0
 ·subst he;have HDR:=kp (show n-p≤c-p by omega)
  have HSC:=kp (fun (W:World) (h:Ext w0 W)=>show SlB W (.slice (cutA ad p c 1) (n-p) (c-p)) (b.drop p) from by
   have h1:=(HS.out.ext h).cut hcap p n hp (Nat.le_refl _)
   rwa [List.take_of_length_le (by rw[←HN.out];exact Nat.le_refl _)] at h1)
  have HDC:=kp (fun w hs=>decode_any (cutA ad p c 1) (n-p) (c-p) (b.drop p) (by have:=HN.out;simp;omega) HDR.out w hs);have HEX:=kp H.out.1;have HF:=kp (show elE b p 0=elemE (b.drop p) from rfl);clear hs;go_enter func97,ntmps97;generalize h3:Code.region 3 _ _=R3;go_wp2_with ((with_reducible refine isLd 37 ?_);(refine xF1 H 37 0 underlying37 ?_);simp only[pA]);subst h3;refine region_free H (tabS [(11,eT (.pointer (some ⟨g,0,none⟩))),(12,eT (.pointer (some ⟨g,0,none⟩))),(13,eT (.pointer (some ⟨g,0,none⟩))),(14,eT (.pointer (some ⟨g,0,none⟩))),(15,eT (.slice ad n c)),(16,eT (.pointer (some ⟨g,0,none⟩))),(17,eT (.pointer (some ⟨g,0,none⟩))),(18,eT (.pointer (some ⟨g,0,none⟩))),(19,eT (.pointer (some ⟨g,1,none⟩))),(20,eT (.int .i64 p)),(21,eT (.slice (cutA ad p c 1) (n-p) (c-p))),(22,fun vQ _=>∃ a k q,vQ=.tuple #[.slice a k q,.int .i64 (elemE (b.drop p))]),(10,fun vQ _=>∃ a k q,vQ=.tuple #[.slice a k q,.int .i64 (elemE (b.drop p))]),(23,fun vQ _=>∃ a k q,vQ=.slice a k q),(24,eT (.int .i64 (elemE (b.drop p)))),(3,fun vQ _=>∃ a k q,vQ=.slice a k q),(4,eT (.int .i64 (elemE (b.drop p))))]) [] (tabS_out _ _ (by simp only[List.forall_mem_cons,mono_eqO,true_and];exact⟨(fun _ _ _ h _=>h),(fun _ _ _ h _=>h),(fun _ _ _ h _=>h),(fun _ _ _ h _=>h),by simp⟩)) 17 (by kernel_rfl) (by kernel_rfl) (by kernel_rfl) (by kernel_rfl) [] [] rfl rfl (by decide) (by decide) (by decide) trivial ?_;simp only[tK];refine rT (fun w_=>by go_wp2_with fail;exact kso) fun v11=>?_;simp only[pA];refine⟨fun w_ o_ S_=>?_,fun v12=>?_⟩
  ·obtain rfl:v11=_:=hsR S_ 11 rfl;clear S_;have H:=kp (kK [0] H o_);have HOX:=kp o_;clear o_;go_wp2_with fail;exact kso
  simp only[pA];refine rO 12 rfl (fun w_ e0=>by obtain rfl:v12=_:=e0;go_wp2_with fail;exact kso) fun v13=>?_;simp only[pA];refine rO 13 rfl (fun w_ e0=>by obtain rfl:v13=_:=e0;go_wp2_with fail;exact kso) fun v14=>?_;simp only[pA];refine⟨fun w_ o_ S_=>?_,fun v15=>?_⟩
  ·obtain rfl:v14=_:=hsR S_ 14 rfl;clear S_;have H:=kp (kK [0] H o_);have HOX:=kp o_;clear o_;go_wp2_with ((with_reducible refine isLd 29 ?_);(refine xF1 H 29 0 underlying29 ?_);simp only[pA]);exact kso
  simp only[pA];refine rT (fun w_=>by go_wp2_with fail;exact kso) fun v16=>?_;simp only[pA];refine⟨fun w_ o_ S_=>?_,fun v17=>?_⟩
  ·obtain rfl:v16=_:=hsR S_ 16 rfl;clear S_;have H:=kp (kK [0] H o_);have HOX:=kp o_;clear o_;go_wp2_with fail;exact kso
  simp only[pA];refine rO 17 rfl (fun w_ e0=>by obtain rfl:v17=_:=e0;go_wp2_with fail;exact kso) fun v18=>?_;simp only[pA];refine rO 18 rfl (fun w_ e0=>by obtain rfl:v18=_:=e0;go_wp2_with fail;exact kso) fun v19=>?_;simp only[pA];refine⟨fun w_ o_ S_=>?_,fun v20=>?_⟩
  ·obtain rfl:v19=_:=hsR S_ 19 rfl;clear S_;have H:=kp (kK [0] H o_);have HOX:=kp o_;clear o_;go_wp2_with ((with_reducible refine isLd 3 ?_);(refine xF1 H 3 0 underlying3 ?_);simp only[pA]);exact kso
  simp only[pA];refine⟨fun w_ o_ S_=>?_,fun v21=>?_⟩
  ·obtain rfl:v15=_:=hsR S_ 15 rfl;obtain rfl:v20=_:=hsR S_ 20 rfl;clear S_;have H:=kp (kK [0] H o_);have HOX:=kp o_;clear o_;go_wp2_with ((with_reducible show wpList _ _ _ (Oper.mk _ (Op.slice 29 _ _ _ _) _ _ _ _::_) _ _);(refine L_cut (by kernel_rfl) 29 _ _ _ _ rfl _ _ _ _ _ rfl rfl rfl rfl (run_cutL _ underlying29 (sizeU8q) _ _ _ (p) (hp)) ?_);simp only[pA]);exact kso
  simp only[pA];refine⟨fun w_ o_ S_=>?_,fun v22=>?_⟩
  ·obtain rfl:v21=_:=hsR S_ 21 rfl;clear S_;have H:=kp (kK [0] H o_);have HOX:=kp o_;clear o_;go_wp2_with fail;refine (HDC.out _ (HSC.out _ H.out.1)).mono ?_;rintro e w2 ⟨a,k,q,rfl,hx⟩;have HXW:=kp hx;clear hx;go_wp2_with fail;exact⟨rfl,_,rfl,fun d hd=>by cases hd;exact⟨a,k,q,rfl⟩,HXW.out⟩
  simp only[pA];refine⟨fun w_ o_ S_=>?_,fun v10=>?_⟩
  ·have h22:=kp (show ∃ a k q,v22=.tuple #[.slice a k q,.int .i64 (elemE (b.drop p))] from hsR S_ 22 rfl);clear S_ o_;go_wp2_with fail;exact⟨rfl,_,rfl,fun d hd=>by cases hd;exact h22.out,Ext.refl _⟩
  simp only[pA];refine⟨fun w_ o_ S_=>?_,fun v23=>?_⟩
  ·have h10:=kp (show ∃ a k q,v10=.tuple #[.slice a k q,.int .i64 (elemE (b.drop p))] from hsR S_ 10 rfl);clear S_;have H:=kp (kK [0] H o_);have HOX:=kp o_;clear o_;obtain⟨a,k,q,rfl⟩:=h10.out;go_wp2_with fail;exact⟨rfl,_,rfl,fun d hd=>by cases hd;exact⟨a,k,q,rfl⟩,Ext.refl _⟩
  simp only[pA];refine⟨fun w_ o_ S_=>?_,fun v24=>?_⟩
  ·have h10:=kp (show ∃ a k q,v10=.tuple #[.slice a k q,.int .i64 (elemE (b.drop p))] from hsR S_ 10 rfl);clear S_;have H:=kp (kK [0] H o_);have HOX:=kp o_;clear o_;obtain⟨a,k,q,rfl⟩:=h10.out;go_wp2_with fail;exact kso
  simp only[pA];refine⟨fun w_ o_ S_=>?_,fun v3=>?_⟩
  ·have h23:=kp (show ∃ a k q,v23=.slice a k q from hsR S_ 23 rfl);clear S_ o_;go_wp2_with fail;exact⟨rfl,_,rfl,fun d hd=>by cases hd;exact h23.out,Ext.refl _⟩
  simp only[pA];refine rO 24 rfl (fun w_ e0=>by obtain rfl:v24=_:=e0;go_wp2_with fail;exact kso) fun v4=>?_;simp only[pA];clear H;intro wn HOX H hfin;obtain rfl:v11=_:=hF hfin 11 rfl;obtain rfl:v12=_:=hF hfin 12 rfl;obtain rfl:v13=_:=hF hfin 13 rfl;obtain rfl:v14=_:=hF hfin 14 rfl;obtain rfl:v15=_:=hF hfin 15 rfl;obtain rfl:v16=_:=hF hfin 16 rfl;obtain rfl:v17=_:=hF hfin 17 rfl;obtain rfl:v18=_:=hF hfin 18 rfl;obtain rfl:v19=_:=hF hfin 19 rfl;obtain rfl:v20=_:=hF hfin 20 rfl;obtain rfl:v21=_:=hF hfin 21 rfl;have F22:=kp (show ∃ a k q,v22=.tuple #[.slice a k q,.int .i64 (elemE (b.drop p))] from hfin 22 (by decide));have F10:=kp (show ∃ a k q,v10=.tuple #[.slice a k q,.int .i64 (elemE (b.drop p))] from hfin 10 (by decide));have F23:=kp (show ∃ a k q,v23=.slice a k q from hfin 23 (by decide));obtain rfl:v24=_:=hF hfin 24 rfl;have F3:=kp (show ∃ a k q,v3=.slice a k q from hfin 3 (by decide));obtain rfl:v4=_:=hF hfin 4 rfl;clear hfin;simp only[dR];simp only[applyS] at H;have HXN:=kp (HOX.out.ext (Ext.refl w) (fun g hg=>by cases hg));obtain⟨a,k,q,rfl⟩:=F3.out;go_wp2_with ((with_reducible refine isSt 37 ?_);(refine xS1 H 37 0 (partsR ad n c p (elemE (b.drop p))) ?_;clear H;intro wz HWwz H;simp only[szA] at H));go_ret;exact⟨a,k,q,rfl,by rw[HF.out];exact H.out⟩
 ·have HF:=kp (show elE b p e=e from if_neg he);have he2:(e==0)=false:=by simpa using he
  clear he hs;go_enter func97,ntmps97;go_wp2_with ((with_reducible refine isLd 37 ?_);(refine xF1 H 37 0 underlying37 ?_);simp only[pA]);go_ret;exact⟨none,0,0,rfl,by rw[HF.out];exact H.out⟩
def readE (n:Nat):Int:=if 2304<n then 11 else 0
def ReadR (ad:Option Addr) (n c:Nat) (w:World) (en:Ending) (w':World):Prop:=∃ g,en=.returned (.pointer (some ⟨g,0,none⟩))∧Loc w w' [(g,182,cat (partsR ad n c ((0:Nat):Int) (readE n)))]
theorem build_rd (ad:Option Addr) (n c:Nat) (w:World):(Instr.build 180 #[(0,.slice ad n c)]).run prog w=.ok (.agg (cat (partsRd ad n c 0)).toArray) w:=by kernel_rfl
theorem build_br (ad:Option Addr) (n c:Nat) (w:World):(Instr.build 182 #[(0,.agg (cat (partsRd ad n c 0)).toArray)]).run prog w=.ok (.agg (cat (partsR ad n c 0 0)).toArray) w:=by kernel_rfl
set_option maxHeartbeats 1600000 in
theorem read_any (ad:Option Addr) (n c:Nat) (w:World) :
  Calls prog 95 #[.slice ad n c] w (ReadR ad n c w):=by
 have H:=kp (Loc.start w);by_cases hn:2304<n
 ·have HF:=kp (show readE n=11 from if_pos hn);have hn2:(2304:Int)<(n:Int):=by omega
  go_enter func95,ntmps95;go_wp2_with (first|((with_reducible refine isBd 5 180 ?_);(refine L_bd (by kernel_rfl) 180 _ rfl (#[(0,.slice ad n c)]) (by kernel_rfl) (cat (partsRd ad n c 0)) (build_rd ad n c) ?_);simp only[pA])|((with_reducible refine isBd 6 182 ?_);(refine L_bd (by kernel_rfl) 182 _ rfl (#[(0,.agg (cat (partsRd ad n c 0)).toArray)]) (by kernel_rfl) (cat (partsR ad n c 0 0)) (build_br ad n c) ?_);simp only[pA])|((with_reducible refine isBx 7 182 ?_);(refine xBX H 182 (cat (partsR ad n c 0 0)) ?_);clear H;intro g7 w7 HGg7 HEg7 H;simp only[pA])|((with_reducible refine isSt 37 ?_);(refine xS1 H 37 0 (partsR ad n c 0 11) ?_;clear H;intro w8 HWw8 H;simp only[szA] at H)));go_ret;exact⟨g7,rfl,by rw[HF.out];exact H.out⟩
 ·have HF:=kp (show readE n=0 from if_neg hn);have hn2:¬ (2304:Int)<(n:Int):=by omega
  go_enter func95,ntmps95;go_wp2_with (first|((with_reducible refine isBd 5 180 ?_);(refine L_bd (by kernel_rfl) 180 _ rfl (#[(0,.slice ad n c)]) (by kernel_rfl) (cat (partsRd ad n c 0)) (build_rd ad n c) ?_);simp only[pA])|((with_reducible refine isBd 6 182 ?_);(refine L_bd (by kernel_rfl) 182 _ rfl (#[(0,.agg (cat (partsRd ad n c 0)).toArray)]) (by kernel_rfl) (cat (partsR ad n c 0 0)) (build_br ad n c) ?_);simp only[pA])|((with_reducible refine isBx 7 182 ?_);(refine xBX H 182 (cat (partsR ad n c 0 0)) ?_);clear H;intro g7 w7 HGg7 HEg7 H;simp only[pA]));go_ret;exact⟨g7,rfl,by rw[HF.out];exact H.out⟩
theorem rd2_ok {b:By} {p:Nat} (h:p+2≤b.length):rd2 b p 0=rdF b p:=by
 unfold rd2 rdB;rw[if_pos ⟨rfl,h⟩];unfold rdF;simp[List.getD_eq_getElem?_getD,List.getElem?_drop]
theorem rdE_ne {b:By} {p:Nat} {e:Int} {m:Nat} (h:e≠0):rdE b p e m=e∧rdN b p e m=p:=by
 unfold rdE rdN;exact⟨if_neg (fun q=>h q.1),if_neg (fun q=>h q.1)⟩
theorem rdE_bad {b:By} {p m:Nat} (h:¬ p+m≤b.length):rdE b p 0 m=10∧rdN b p 0 m=p:=by
 unfold rdE rdN;exact⟨if_pos ⟨rfl,by omega⟩,if_neg (fun q=>h q.2)⟩
theorem rdE_good {b:By} {p m:Nat} (h:p+m≤b.length):rdE b p 0 m=0∧rdN b p 0 m=p+m:=by
 unfold rdE rdN;exact⟨if_neg (by omega),if_pos ⟨rfl,h⟩⟩
theorem rdN_le {b:By} {p:Nat} {e:Int} {m n:Nat} (hn:n=b.length) (hp:p≤n):rdN b p e m≤n:=by
 unfold rdN;split <;> omega
abbrev Rst:=Nat × Int
def stp (b:By) (s:Rst) (m:Nat):Rst:=(rdN b s.1 s.2 m,rdE b s.1 s.2 m)
def st0 (b:By):Rst:=(0,readE b.length)
theorem stp_good {b:By} {p m:Nat} (h:p+m≤b.length):stp b (p,0) m=(p+m,0):=by unfold stp;rw[(rdE_good h).1,(rdE_good h).2]
theorem stp_bad {b:By} {p m:Nat} (h:¬ p+m≤b.length):stp b (p,0) m=(p,10):=by unfold stp;rw[(rdE_bad h).1,(rdE_bad h).2]
theorem stp_ne {b:By} {p m:Nat} {e:Int} (h:e≠0):stp b (p,e) m=(p,e):=by unfold stp;rw[(rdE_ne h).1,(rdE_ne h).2]
def elS (b:By) (s:Rst):Int:=elE b s.1 s.2
theorem elS_0 (b:By) (p:Nat):elS b (p,0)=elemE (b.drop p):=rfl
theorem elS_ne {b:By} {p:Nat} {e:Int} (h:e≠0):elS b (p,e)=e:=if_neg h
abbrev s1F (b:By):Rst:=stp b (st0 b) 2
abbrev s2F (b:By):Rst:=stp b (s1F b) 2
abbrev s3F (b:By):Rst:=stp b (s2F b) 2
theorem st0_long {b:By} (h:2304<b.length):st0 b=(0,11):=by unfold st0 readE;rw[if_pos h]
theorem st0_ok {b:By} (h:¬ 2304<b.length):st0 b=(0,0):=by unfold st0 readE;rw[if_neg h]
theorem front1 (b:By):elS b (s1F b)=frontE b 2∧(frontE b 2=0→rd2 b (st0 b).1 (st0 b).2=rdF b 0):=by
 unfold frontE;by_cases h1:2304<b.length
 ·rw[if_pos h1,s1F,st0_long h1,stp_ne (by decide),elS_ne (by decide)];exact⟨rfl,fun h=>absurd h (by decide)⟩
 ·rw[if_neg h1,s1F,st0_ok h1];by_cases h2:2≤b.length
  ·rw[stp_good (by omega),elS_0,if_neg (by omega)];exact⟨rfl,fun _=>rd2_ok (by omega)⟩
  ·rw[stp_bad (by omega),elS_ne (by decide),if_pos (by omega)];exact⟨rfl,fun h=>absurd h (by decide)⟩
theorem s2_cases (b:By):(2304<b.length∧s2F b=(0,11))∨(¬ 2304<b.length∧4≤b.length∧s2F b=(4,0)∧rd2 b (st0 b).1 (st0 b).2=rdF b 0∧rd2 b (s1F b).1 (s1F b).2=rdF b 2)∨(¬ 2304<b.length∧b.length<4∧∃ p,s2F b=(p,10)∧p≤b.length):=by
 by_cases h1:2304<b.length
 ·left;exact⟨h1,by rw[s2F,s1F,st0_long h1,stp_ne (p:=0) (e:=11) (by decide),stp_ne (p:=0) (e:=11) (by decide)]⟩
 ·right
  by_cases h4:4≤b.length
  ·left
   refine⟨h1,h4,?_,?_,?_⟩
   ·rw[s2F,s1F,st0_ok h1,stp_good (by omega),stp_good (by omega)]
   ·rw[st0_ok h1];exact rd2_ok (by omega)
   ·rw[s1F,st0_ok h1,stp_good (by omega)];exact rd2_ok (by omega)
  ·right
   refine⟨h1,by omega,?_⟩;by_cases h2:2≤b.length
   ·exact⟨2,by rw[s2F,s1F,st0_ok h1,stp_good (by omega),stp_bad (by omega)],h2⟩
   ·exact⟨0,by rw[s2F,s1F,st0_ok h1,stp_bad (by omega),stp_ne (by decide)],by omega⟩
theorem s3_cases (b:By):(2304<b.length∧s3F b=(0,11))∨(¬ 2304<b.length∧6≤b.length∧s3F b=(6,0)∧rd2 b (st0 b).1 (st0 b).2=rdF b 0∧rd2 b (s1F b).1 (s1F b).2=rdF b 2∧rd2 b (s2F b).1 (s2F b).2=rdF b 4)∨(¬ 2304<b.length∧b.length<6∧∃ p,s3F b=(p,10)∧p≤b.length):=by
 rcases s2_cases b with ⟨h,e⟩|⟨h,h4,e,r0,r1⟩|⟨h,h4,p,e,hp⟩
 ·left;exact⟨h,by rw[s3F,e,stp_ne (by decide)]⟩
 ·by_cases h6:6≤b.length
  ·right;left
   exact⟨h,h6,by rw[s3F,e,stp_good (by omega)],r0,r1,by rw[e];exact rd2_ok (by omega)⟩
  ·right;right
   exact⟨h,by omega,4,by rw[s3F,e,stp_bad (by omega)],h4⟩
 ·right;right
  exact⟨h,by omega,p,by rw[s3F,e,stp_ne (by decide)],hp⟩
theorem front3 (b:By):elS b (s3F b)=frontE b 6∧(frontE b 6=0→rd2 b (st0 b).1 (st0 b).2=rdF b 0∧rd2 b (s1F b).1 (s1F b).2=rdF b 2∧rd2 b (s2F b).1 (s2F b).2=rdF b 4):=by
 unfold frontE;rcases s3_cases b with ⟨h,e⟩|⟨h,h6,e,r0,r1,r2⟩|⟨h,h6,p,e,hp⟩
 ·rw[if_pos h,e,elS_ne (by decide)];exact⟨rfl,fun h=>absurd h (by decide)⟩
 ·rw[if_neg h,if_neg (by omega),e,elS_0];exact⟨rfl,fun _=>⟨r0,r1,r2⟩⟩
 ·rw[if_neg h,if_pos h6,e,elS_ne (by decide)];exact⟨rfl,fun h=>absurd h (by decide)⟩
def sQF (b:By) (again:Bool):Rst:=if again then stp b (s2F b) 6 else s2F b
theorem frontQ (b:By) (again:Bool):elS b (sQF b again)=frontE b (if again then 10 else 4)∧(frontE b (if again then 10 else 4)=0→rd2 b (st0 b).1 (st0 b).2=rdF b 0∧rd2 b (s1F b).1 (s1F b).2=rdF b 2):=by
 cases again
 ·show elS b (s2F b)=frontE b 4∧(frontE b 4=0→_)
  unfold frontE;rcases s2_cases b with ⟨h,e⟩|⟨h,h4,e,r0,r1⟩|⟨h,h4,p,e,hp⟩
  ·rw[if_pos h,e,elS_ne (by decide)];exact⟨rfl,fun h=>absurd h (by decide)⟩
  ·rw[if_neg h,if_neg (by omega),e,elS_0];exact⟨rfl,fun _=>⟨r0,r1⟩⟩
  ·rw[if_neg h,if_pos h4,e,elS_ne (by decide)];exact⟨rfl,fun h=>absurd h (by decide)⟩
 ·show elS b (stp b (s2F b) 6)=frontE b 10∧(frontE b 10=0→_)
  unfold frontE;rcases s2_cases b with ⟨h,e⟩|⟨h,h4,e,r0,r1⟩|⟨h,h4,p,e,hp⟩
  ·rw[if_pos h,e,stp_ne (by decide),elS_ne (by decide)];exact⟨rfl,fun h=>absurd h (by decide)⟩
  ·rw[if_neg h,e];by_cases h10:10≤b.length
   ·rw[stp_good (by omega),if_neg (by omega),elS_0];exact⟨rfl,fun _=>⟨r0,r1⟩⟩
   ·rw[stp_bad (by omega),if_pos (by omega),elS_ne (by decide)];exact⟨rfl,fun h=>absurd h (by decide)⟩
  ·rw[if_neg h,e,stp_ne (by decide),if_pos (by omega),elS_ne (by decide)];exact⟨rfl,fun h=>absurd h (by decide)⟩
theorem Loc.cons1 {w0 w w':World} {bs:List Bk} {b:Bk} (h:Loc w0 w bs) (k:Loc w w' [b]):Loc w0 w' (b::bs):=h.join k
def codF (b:By):Int:=if frontE b 2=0 then rdF b 0 else 0
def RsnR (b:By) (w:World) (en:Ending) (w':World):Prop:=∃ a k q,en=.returned (.tuple #[.agg (cat (pRe (codF b) a k q)).toArray,.int .i64 (frontE b 2)])∧Ext w w'
theorem rsnR_of {b:By} {w w':World} {x:Int} {a:Option Addr} {k q:Nat} {E:Int} (hE:E=frontE b 2) (hx:frontE b 2=0→x=rdF b 0) {ps:List Lf} (hp:ps=resP E (pRe x a k q) (pRe 0 none 0 0)) (h:Ext w w'):RsnR b w (.returned (.tuple #[.agg (cat ps).toArray,.int .i64 E])) w':=by
 subst hp hE;unfold RsnR codF resP;by_cases c:frontE b 2=0
 ·rw[if_pos c,if_pos c,hx c];exact⟨a,k,q,rfl,h⟩
 ·rw[if_neg c,if_neg c];exact⟨none,0,0,rfl,h⟩
theorem lsum_resP {E:Int} {ps zs:List Lf} {m:Nat} (h1:lsum ps=m) (h2:lsum zs=m):lsum (resP E ps zs)=m:=by unfold resP;split <;> assumption
set_option maxHeartbeats 1600000 in
theorem decReason_any (ad:Option Addr) (n c:Nat) (b:By) (hb:n≤100000) (hcap:n≤c) (w:World) (hs:SlB w (.slice ad n c) b) :
  Calls prog 83 #[.slice ad n c] w (RsnR b w):=by
 have H:=kp (Loc.start w);have HS:=kp hs;have HN:=kp hs.len;have hb2:n≤1000000:=by omega
 have HT1:=kp (fun g w1 rest H=>rtwo_any ad n c b hb2 hcap 0 (by omega) (readE n) g w w1 rest H hs);have HEL:=kp (fun g w1 rest H=>relements_any ad n c b hb hcap (rdN b 0 (readE n) 2) (rdN_le HN.out (by omega)) (rdE b 0 (readE n) 2) g w w1 rest H hs);have HF:=kp (front1 b);have HSZ:=kp (show elE b (rdN b 0 (readE n) 2) (rdE b 0 (readE n) 2)=elS b (s1F b) by rw[HN.out];rfl);have HX0:=kp (show rd2 b 0 (readE n)=rd2 b (st0 b).1 (st0 b).2 by rw[HN.out];rfl);generalize rd2 b 0 (readE n)=x0 at *;clear hs;go_enter func83,ntmps83;go_wp2_with (first|((with_reducible refine isAl 2 85 ?_);(refine xAL H 85 (cat (pRe 0 none 0 0)) ?_);clear H;intro g2 w2 HGg2 HEg2 H;simp only[pA])|(go_at_call 95;refine (read_any ad n c _).mono ?_;rintro e wr ⟨gr,rfl,hl⟩;have H2:=kp (H.out.cons1 hl);clear H hl;have H:=H2;clear H2)|(go_at_call 96;refine (HT1.out _ _ _ H).mono ?_;rintro e wb ⟨rfl,hl⟩;clear H;have H:=kp hl;clear hl)|((with_reducible refine isBd 10 85 ?_);(refine xBD 85 (#[(0,.int .u16 x0)]) (cat (pRe x0 none 0 0)) ?_);simp only[pA])|(((with_reducible refine isAl 5 85 ?_);(refine xAL H 85 (cat (pRe 0 none 0 0)) ?_);clear H;intro g5 w5 HGg5 HEg5 H;simp only[pA]);have H2:=kp H.out.sw;clear H;have H:=H2;clear H2)|((with_reducible refine isSt 85 ?_);refine xSA H 85 1 (pRe x0 none 0 0) ?_;clear H;intro w6 HWw6 H;simp only[ssA,szA] at H)|(go_at_call 97;refine (HEL.out _ _ _ H).mono ?_;rintro e wc ⟨a,k,q,rfl,hl⟩;clear H;have H:=kp hl;clear hl)|((with_reducible refine isSt 83 ?_);(refine xS1 H 83 1 (pRe x0 a k q) ?_;clear H;intro w7 HWw7 H;simp only[ssA,szA] at H))|((with_reducible refine isLd 85 ?_);refine xFA H 85 1 underlying85 ?_;simp only[pA])|(go_at_call 101;refine (resultRe_any _ _ _ _ _ _ _ _ _ _ _ _ _ H).mono ?_;rintro e wd ⟨rfl,hl⟩;clear H;have H:=kp hl;clear hl)|((with_reducible refine isSt 85 ?_);refine L_sa H rfl rfl 85 _ _ rfl 2 rfl rfl (resP (elE b (rdN b 0 (readE n) 2) (rdE b 0 (readE n) 2)) (pRe x0 a k q) (pRe 0 none 0 0)) rfl ((lsum_resP (m:=2) rfl rfl).symm) (by rw[←(lsum_resP (m:=2) rfl rfl).symm];kernel_rfl) ?_;clear H;intro ws HWws H;simp only[ssA,szA] at H));exact ret_f2 H Tryz.results83 2 rfl rfl _ rfl underlying85 rfl (by rw[lsum_resP (m:=2) rfl rfl];kernel_rfl) rfl (rsnR_of (by rw[HSZ.out];exact HF.out.1) (fun h=>by rw[HX0.out];exact HF.out.2 h) rfl H.out.1)
def AuR (b:By) (w:World) (en:Ending) (w':World):Prop:=∃ x y z a k q,en=.returned (.tuple #[.agg (cat (pAu x y z a k q)).toArray,.int .i64 (frontE b 6)])∧Ext w w'∧(frontE b 6=0→x=rdF b 0∧y=rdF b 2∧z=rdF b 4)∧(frontE b 6≠0→x=0∧y=0∧z=0)
theorem auR_of {b:By} {w w':World} {x y z:Int} {a:Option Addr} {k q:Nat} {E:Int} (hE:E=frontE b 6) (hx:frontE b 6=0→x=rdF b 0∧y=rdF b 2∧z=rdF b 4) {ps:List Lf} (hp:ps=resP E (pAu x y z a k q) (pAu 0 0 0 none 0 0)) (h:Ext w w'):AuR b w (.returned (.tuple #[.agg (cat ps).toArray,.int .i64 E])) w':=by
 subst hp hE;unfold AuR resP;by_cases c:frontE b 6=0
 ·rw[if_pos c];exact⟨x,y,z,a,k,q,rfl,h,hx,fun h=>absurd c h⟩
 ·rw[if_neg c];exact⟨0,0,0,none,0,0,rfl,h,fun h=>absurd h c,fun _=>⟨rfl,rfl,rfl⟩⟩
set_option maxHeartbeats 1600000 in
theorem decAuth_any (ad:Option Addr) (n c:Nat) (b:By) (hb:n≤100000) (hcap:n≤c) (w:World) (hs:SlB w (.slice ad n c) b) :
  Calls prog 78 #[.slice ad n c] w (AuR b w):=by
 have H:=kp (Loc.start w);have HS:=kp hs;have HN:=kp hs.len;have hb2:n≤1000000:=by omega
 have HT1:=kp (fun g w1 rest H=>rtwo_any ad n c b hb2 hcap 0 (by omega) (readE n) g w w1 rest H hs);generalize hp1:rdN b 0 (readE n) 2=p1 at HT1;generalize he1:rdE b 0 (readE n) 2=e1 at HT1;have hq1:p1≤n:=by { rw[←hp1];exact rdN_le HN.out (by omega) }
 have HT2:=kp (fun g w1 rest H=>rtwo_any ad n c b hb2 hcap p1 hq1 e1 g w w1 rest H hs);generalize hp2:rdN b p1 e1 2=p2 at HT2;generalize he2:rdE b p1 e1 2=e2 at HT2;have hq2:p2≤n:=by { rw[←hp2];exact rdN_le HN.out hq1 }
 have HT3:=kp (fun g w1 rest H=>rtwo_any ad n c b hb2 hcap p2 hq2 e2 g w w1 rest H hs);generalize hp3:rdN b p2 e2 2=p3 at HT3;generalize he3:rdE b p2 e2 2=e3 at HT3;have hq3:p3≤n:=by { rw[←hp3];exact rdN_le HN.out hq2 }
 have HEL:=kp (fun g w1 rest H=>relements_any ad n c b hb hcap p3 hq3 e3 g w w1 rest H hs);have HF:=kp (front3 b);have HSZ:=kp (show elE b p3 e3=elS b (s3F b) by subst hp3 he3 hp2 he2 hp1 he1;rw[HN.out];rfl);have HX0:=kp (show rd2 b 0 (readE n)=rd2 b (st0 b).1 (st0 b).2 by rw[HN.out];rfl);have HX1:=kp (show rd2 b p1 e1=rd2 b (s1F b).1 (s1F b).2 by subst hp1 he1;rw[HN.out];rfl);have HX2:=kp (show rd2 b p2 e2=rd2 b (s2F b).1 (s2F b).2 by subst hp2 he2 hp1 he1;rw[HN.out];rfl);generalize rd2 b 0 (readE n)=x0 at *;generalize rd2 b p1 e1=x1 at *;generalize rd2 b p2 e2=x2 at *;clear hs hp1 he1 hp2 he2 hp3 he3;go_enter func78,ntmps78;go_wp2_with (first|((with_reducible refine isAl 2 119 ?_);(refine xAL H 119 (cat (pAu 0 0 0 none 0 0)) ?_);clear H;intro g2 w2 HGg2 HEg2 H;simp only[pA])|(go_at_call 95;refine (read_any ad n c _).mono ?_;rintro e wr ⟨gr,rfl,hl⟩;have H2:=kp (H.out.cons1 hl);clear H hl;have H:=H2;clear H2)|(go_at_call 96;with_reducible refine (HT1.out _ _ _ H).mono ?_;rintro e wb ⟨rfl,hl⟩;clear H;have H:=kp hl;clear hl)|(go_at_call 96;with_reducible refine (HT2.out _ _ _ H).mono ?_;rintro e wb ⟨rfl,hl⟩;clear H;have H:=kp hl;clear hl)|(go_at_call 96;with_reducible refine (HT3.out _ _ _ H).mono ?_;rintro e wb ⟨rfl,hl⟩;clear H;have H:=kp hl;clear hl)|((with_reducible refine isBd 11 119 ?_);(refine xBD 119 (#[]) (cat (pAu 0 0 0 none 0 0)) ?_);simp only[pA])|(((with_reducible refine isAl 6 119 ?_);(refine xAL H 119 (cat (pAu 0 0 0 none 0 0)) ?_);clear H;intro g6 w6 HGg6 HEg6 H;simp only[pA]);have H2:=kp H.out.sw;clear H;have H:=H2;clear H2)|((with_reducible refine isSt 119 ?_);refine xSA H 119 1 (pAu 0 0 0 none 0 0) ?_;clear H;intro wy HWwy H;simp only[ssA,szA] at H)|((with_reducible refine isSt 72 ?_);(refine xS1 H 72 1 (_) ?_;clear H;intro wu HWwu H;simp only[ssA,szA] at H))|(go_at_call 97;refine (HEL.out _ _ _ H).mono ?_;rintro e wc ⟨a,k,q,rfl,hl⟩;clear H;have H:=kp hl;clear hl)|((with_reducible refine isSt 83 ?_);(refine xS1 H 83 1 (pAu x0 x1 x2 a k q) ?_;clear H;intro w7 HWw7 H;simp only[ssA,szA] at H))|((with_reducible refine isLd 119 ?_);refine xFA H 119 1 underlying119 ?_;simp only[pA])|(go_at_call 98;refine (resultAu_any _ _ _ _ _ _ _ _ _ _ _ _ _ _ _ H).mono ?_;rintro e wd ⟨rfl,hl⟩;clear H;have H:=kp hl;clear hl)|((with_reducible refine isSt 119 ?_);refine L_sa H rfl rfl 119 _ _ rfl 2 rfl rfl (resP (elE b p3 e3) (pAu x0 x1 x2 a k q) (pAu 0 0 0 none 0 0)) rfl ((lsum_resP (m:=4) rfl rfl).symm) (by rw[←(lsum_resP (m:=4) rfl rfl).symm];kernel_rfl) ?_;clear H;intro ws HWws H;simp only[ssA,szA] at H));exact ret_f2 H Tryz.results78 2 rfl rfl _ rfl underlying119 rfl (by rw[lsum_resP (m:=4) rfl rfl];kernel_rfl) rfl (auR_of (by rw[HSZ.out];exact HF.out.1) (fun h=>by rw[HX0.out,HX1.out,HX2.out];exact HF.out.2 h) rfl H.out.1)
theorem count0_any (w:World):Calls prog 126 #[.slice none 0 0] w fun e w'=>e=.returned (.int .i64 0)∧w'=w:=by
 go_enter func126,ntmps126;go_wp2_with fail;go_loopw [3,4] (fun x i wr=>x=.int .i64 0∧i=.int .i64 0∧wr=w) (fun _ _ _=>0)
 case atStart=>exact⟨rfl,rfl,rfl⟩
 case round =>
  obtain⟨rfl,rfl,rfl⟩:=hrel;go_wp2_with fail;go_ret;exact⟨rfl,rfl⟩
theorem depth0_any (w:World):Calls prog 127 #[.slice none 0 0] w fun e w'=>e=.returned (.int .i64 0)∧w'=w:=by
 go_enter func127,ntmps127;go_wp2_with fail;go_loopw [3,4] (fun x i wr=>x=.int .i64 0∧i=.int .i64 0∧wr=w) (fun _ _ _=>0)
 case atStart=>exact⟨rfl,rfl,rfl⟩
 case round =>
  obtain⟨rfl,rfl,rfl⟩:=hrel;go_wp2_with fail;go_ret;exact⟨rfl,rfl⟩
theorem valid0_any (w:World):Calls prog 128 #[.slice none 0 0] w fun e w'=>e=.returned (.bool true)∧w'=w:=by
 go_enter func128,ntmps128;go_wp2_with fail;go_loopw [3] (fun i wr=>i=.int .i64 0∧wr=w) (fun _ _=>0)
 case atStart=>exact⟨rfl,rfl⟩
 case round =>
  obtain⟨rfl,rfl⟩:=hrel;go_wp2_with fail;go_ret;exact⟨rfl,rfl⟩
theorem long0_any (w:World):Calls prog 129 #[.slice none 0 0] w fun e w'=>e=.returned (.bool false)∧w'=w:=by
 go_enter func129,ntmps129;go_wp2_with fail;go_loopw [3] (fun i wr=>i=.int .i64 0∧wr=w) (fun _ _=>0)
 case atStart=>exact⟨rfl,rfl⟩
 case round =>
  obtain⟨rfl,rfl⟩:=hrel;go_wp2_with fail;go_ret;exact⟨rfl,rfl⟩
theorem bytes0_any (w:World):Calls prog 117 #[.slice none 0 0] w fun e w'=>e=.returned (.slice none 0 0)∧w'=w:=by
 go_enter func117,ntmps117;go_wp2_with fail;go_loopw [3,4] (fun x i wr=>x=.slice none 0 0∧i=.int .i64 0∧wr=w) (fun _ _ _=>0)
 case atStart=>exact⟨rfl,rfl,rfl⟩
 case round =>
  obtain⟨rfl,rfl,rfl⟩:=hrel;go_wp2_with fail;go_ret;exact⟨rfl,rfl⟩
theorem check0R_any (w:World):Calls prog 116 #[.slice none 0 0] w fun e w'=>e=.returned (.int .i64 0)∧w'=w:=by
 go_enter func116,ntmps116;go_wp2_with (first|(go_at_call 126;refine (count0_any _).mono ?_;rintro e wa ⟨rfl,rfl⟩)|(go_at_call 127;refine (depth0_any _).mono ?_;rintro e wa ⟨rfl,rfl⟩)|(go_at_call 128;refine (valid0_any _).mono ?_;rintro e wa ⟨rfl,rfl⟩)|(go_at_call 129;refine (long0_any _).mono ?_;rintro e wa ⟨rfl,rfl⟩));go_ret;exact⟨rfl,rfl⟩
theorem encode0R_any (w:World):Calls prog 106 #[.slice none 0 0] w fun e w'=>e=.returned (.tuple #[.slice none 0 0,.int .i64 0])∧w'=w:=by
 go_enter func106,ntmps106;go_wp2_with (first|(go_at_call 116;refine (check0R_any _).mono ?_;rintro e wa ⟨rfl,rfl⟩)|(go_at_call 117;refine (bytes0_any _).mono ?_;rintro e wa ⟨rfl,rfl⟩));go_ret2
 exact⟨rfl,rfl⟩
set_option maxRecDepth 4000 in
set_option maxHeartbeats 1600000 in
theorem done0_any (ad:Option Addr) (n c:Nat) (l:By) (hn:l.length≤100) (w:World) (hs:SlB w (.slice ad n c) l) :
  Calls prog 91 #[.bool false,.slice ad n c,.slice none 0 0] w (WrO l w):=by
 have H:=kp (Loc.start w);have HS:=kp hs;have HN:=kp hs.len;have HL:=kp hn;have hn1:¬ (2304:Int)<(n:Int):=by have:=hs.len;omega
 have hn2:¬ (2304:Int)<(n:Int)+0:=by omega
 have hn3:n≤100:=by have:=hs.len;omega
 clear hs hn;go_enter func91,ntmps91;go_wp2_with (first|(go_at_call 106;refine (encode0R_any _).mono ?_;rintro e wa ⟨rfl,rfl⟩)|(((with_reducible refine isBs 25 29 ?_);(refine xBS H 29 0 (#[]) 5 ([]) (fun _=>by kernel_rfl) ?_);clear H;intro ge we HGge HEge H;simp only[pA]);have HOW:=kp (owns_room (l:=[]) (zs:=[]) (n:=0) (c:=0) (H.out.at 0 rfl) (H.out.le 0 rfl) rfl rfl (by decide));have HSP:=kp (H.out.sepHd (n:=0) (c:=0));have H2:=kp H.out.tl;clear H;have H:=H2;clear H2)|((at_builtin;(have HSX:=kp (HS.out.ext H.out.1);have HOX2:=kp (HOW.out);have HSPX:=kp (HSP.out);refine L_appB2 H rfl _ _ rfl _ (Nat.le_refl _) H.out.1.size _ _ rfl HOX2.out HSPX.out _ _ rfl HSX.out ((by have:=HL.out;simp;omega)) ?_;clear H HSX HOX2 HSPX;intro vb wb HO HGwb H;simp only[pA]));have HOW2:=kp HO.out;clear HOW HSP)|(at_builtin;(have HSX:=kp ((show SlB wb (.slice none 0 0) [] from .inl ⟨rfl,.inl rfl⟩));have HOX2:=kp (HOW2.out);have HSPX:=kp ((show ∀ z∈([]:List Bk).map (·.1),vb.ownBlock≠some z from fun z hz=>by cases hz));refine L_appB2 H rfl _ _ rfl _ (Nat.le_refl _) H.out.1.size _ _ rfl HOX2.out HSPX.out _ _ rfl HSX.out ((by have:=HL.out;simp;omega)) ?_;clear H HSX HOX2 HSPX;intro vd wd HO2 HGwd H;simp only[pA])));go_ret2
 exact⟨_,rfl,by have:=HO2.out;rw[List.nil_append,List.append_nil] at this;exact this,H.out.1⟩
def cI (v:Int):List Value:=[.int .i64 v]
theorem cI_at:∀ (vs:List Int) (j:Nat) (x:Int),vs[j]?=some x→(vs.flatMap cI)[j]?=some (.int .i64 x)
 |[],j,x,h=>by simp at h
 |y::l,0,x,h=>by (have:y=x:=by simpa using h);subst this;rfl
 |y::l,j+1,x,h=>cI_at l j x (by simpa using h)
set_option maxHeartbeats 1600000 in
theorem put06_any (vs:List Int) (hv:∀ v∈vs,0≤v∧v≤65535) (hn:vs.length≤5) (gv m:Nat) (hm:m=vs.length) (w:World) (hl:Lc w gv 3 (vs.flatMap cI)) :
  Calls prog 92 #[.slice (some ⟨gv,0,none⟩) m m] w (RetO (flat2 vs) w):=by
 have H:=kp (Loc.start w);have HML:=kp hm;have HVS:=kp hv;have HLC:=kp hl;have hm5:m≤5:=by omega
 clear hv hn hm hl;go_enter func92,ntmps92;go_wp2_with fail;go_loopw [3,4] (fun b i wr=>∃ (j:Nat),j≤m∧i=.int .i64 j∧Kp (OwB w.heap.size wr b (flat2 (vs.take j)))∧Kp (Loc w wr [])) (fun _ i _=>m-(intOf i).toNat)
 case atStart=>exact⟨0,by omega,rfl,kp (ownsT_nil _ _ _ _),H⟩
 case round =>
  clear H;obtain⟨j,hj,rfl,HO,H⟩:=hrel;by_cases hlt:j<m
  ·obtain⟨x,hx⟩:∃ x,vs[j]?=some x:=⟨vs[j]'(by rw[←HML.out];omega),by simp⟩
   have HX:=kp hx;have HXR:=kp (HVS.out x (List.mem_of_getElem? hx));have hc1:wr.cell? ⟨gv,j,none⟩=some (Value.int .i64 x):=(H.out.1.cell HLC.out.lt).trans (HLC.out.cell (cI_at vs j x hx));have hx0:=HXR.out.1;have hx1:=HXR.out.2;have hw:IntKind.u64.wrap x=x:=by rw[IntKind.wrap_u64];omega
   have HS2:=kp (flat2_succ vs j x hx);have HLB:=kp (show (flat2 (vs.take j)).length≤100 by rw[flat2_len,List.length_take];omega);clear hx;have HPU:=kp (putR_any _ _ HLB.out x HXR.out.1 HXR.out.2 _ (SlB.of_owns HO.out));go_wp2_with (go_at_call 107;refine HPU.out.mono ?_;rintro e wa ⟨v',rfl,ho,hx⟩;have HO2:=kp (owns_weak ho H.out.1.size);clear ho hc1;replace H:=kp (H.out.ext hx);have HXC:=kp hx;clear hx);go_roundw
   case rel=>exact⟨j+1,by omega,by go_num,kp (by have h:=HO2.out;rw[←HS2.out] at h;exact h),H⟩
   case measure=>simp[intOf];omega
  ·obtain rfl:j=m:=by omega
   have HTK:=kp (show vs.take j=vs from List.take_of_length_le (by rw[←HML.out];exact Nat.le_refl _));rw[HTK.out] at HO;go_wp2_with fail;go_ret;exact⟨_,rfl,HO.out,H.out.1⟩
def u8of (x:BitVec 8):UInt8:=(wI x).toNat.toUInt8
theorem u8of_lt:∀ x y:BitVec 8,u8of x<u8of y↔x.toNat<y.toNat:=by
 intro x y;unfold u8of wI;have hx:=x.isLt;have hy:=y.isLt;rw[UInt8.lt_iff_toNat_lt];simp
theorem run_loadBytes {P:Program} (w:World) (b:Nat):∀ (l:List (BitVec 8)) (off:Nat) (acc:ByteArray),(∀ (j:Nat) x,l[j]?=some x→w.cell? ⟨b,off+j,none⟩=some (V8 x)) →
  (Extern.Bytes.loadBytes ⟨b,off,none⟩ l.length acc).run P w=.ok ⟨⟨acc.data.toList++l.map u8of⟩⟩ w
 |[],off,acc,_=>by simp[Extern.Bytes.loadBytes]
 |x::l,off,acc,h=>by
  have h0:=h 0 x rfl;rw[Nat.add_zero] at h0
  have ih:=run_loadBytes (P:=P) w b l (off+1) (acc.push (u8of x)) fun j y hj=>by
   have:=h (j+1) y (by simpa using hj)
   rwa [show off+(j+1)=off+1+j by omega] at this
  simp only[List.length_cons,Extern.Bytes.loadBytes,Sem.run_bind,run_load,h0,Result.andThen]
  show (Extern.Bytes.loadBytes ⟨b,off+1,none⟩ l.length (acc.push (u8of x))).run P w=_
  rw[ih];simp[ByteArray.push]
theorem cmpBytes_eq:∀ {l m:List (BitVec 8)},l.length=m.length→Lib.compareBytes (l.map u8of) (m.map u8of)=cmpF l m
 |[],[],_=>by simp[Lib.compareBytes,cmpF]
 |[],_::_,h=>by simp at h
 |_::_,[],h=>by simp at h
 |x::l,y::m,h=>by
  have hl:l.length=m.length:=by simpa using h
  have ih:=cmpBytes_eq hl;simp only[List.map_cons,Lib.compareBytes,u8of_lt];have h1:=num_lt_pow l;have h2:=num_lt_pow m;rw[hl] at h1
  have m1:x.toNat<y.toNat→numF (x::l)<numF (y::m):=fun c=>by
   rw[num_cons,num_cons,hl];have:(x.toNat+1)*256 ^ m.length≤y.toNat*256 ^ m.length:=Nat.mul_le_mul_right _ c;rw[Nat.add_mul,Nat.one_mul] at this;omega
  have m2:y.toNat<x.toNat→numF (y::m)<numF (x::l):=fun c=>by
   rw[num_cons,num_cons,hl];have:(y.toNat+1)*256 ^ m.length≤x.toNat*256 ^ m.length:=Nat.mul_le_mul_right _ c;rw[Nat.add_mul,Nat.one_mul] at this;omega
  by_cases c1:x.toNat<y.toNat
  ·rw[if_pos c1,cmpF,if_pos (m1 c1)]
  ·by_cases c2:y.toNat<x.toNat
   ·have:=m2 c2;rw[if_neg c1,if_pos c2,cmpF,if_neg (by omega),if_pos this]
   ·rw[if_neg c1,if_neg c2,ih];have e:x.toNat=y.toNat:=by omega
    unfold cmpF;rw[num_cons,num_cons,hl,e];simp only[Nat.add_lt_add_iff_left]
theorem run_cmp {P:Program} (w:World) (b1 b2 o1 o2 c1 c2:Nat) (l m:List (BitVec 8)) (hlm:l.length=m.length) (h1:∀ (j:Nat) x,l[j]?=some x→w.cell? ⟨b1,o1+j,none⟩=some (V8 x)) (h2:∀ (j:Nat) x,m[j]?=some x→w.cell? ⟨b2,o2+j,none⟩=some (V8 x)) :
  (Extern.BytealgCompare.compare #[.slice (some ⟨b1,o1,none⟩) l.length c1,.slice (some ⟨b2,o2,none⟩) m.length c2]).run P w=.ok (.int .i64 (cmpF l m)) w:=by
 change Sem.run P (do pure (goInt (Extern.BytealgCompare.cmp (← Extern.Bytes.bytesOf (.slice (some ⟨b1,o1,none⟩) l.length c1)) (← Extern.Bytes.bytesOf (.slice (some ⟨b2,o2,none⟩) m.length c2))))) w=_
 simp only[Extern.Bytes.bytesOf,Sem.run_bind,Sem.run_pure,run_loadBytes w b1 l o1 _ h1,run_loadBytes w b2 m o2 _ h2,Result.andThen];rw[Lib.cmp_eq];simp only[ByteArray.data_empty,List.nil_append];rw[cmpBytes_eq hlm];rfl
set_option maxRecDepth 100000 in
theorem bcompare_any (l m:List (BitVec 8)) (hl:l.length=6) (hm:m.length=6) (b1 b2:Nat) (w:World) (h1:Lc w b1 23 (l.map V8)) (h2:Lc w b2 23 (m.map V8)) :
  Calls prog 77 #[.slice (some ⟨b1,0,none⟩) 6 6,.slice (some ⟨b2,0,none⟩) 6 6] w fun e w'=>e=.returned (.int .i64 (cmpF l m))∧w'=w:=by
 have HR:Kp ((Extern.BytealgCompare.compare #[.slice (some ⟨b1,0,none⟩) 6 6,.slice (some ⟨b2,0,none⟩) 6 6]).run prog w=.ok (.int .i64 (cmpF l m)) w):=kp (by
  have:=run_cmp (P:=prog) w b1 b2 0 0 6 6 l m (by rw[hl,hm]) (fun j x hj=>by rw[Nat.zero_add];exact h1.cell (by simp[hj])) (fun j x hj=>by rw[Nat.zero_add];exact h2.cell (by simp[hj]));rw[hl,hm] at this
  exact this)
 clear h1 h2 hl hm;go_enter func77,ntmps77;go_wp2_with fail;rw[run_callFunc_extern func94 (by kernel_rfl) (by kernel_rfl) (by kernel_rfl) (e:=Extern.BytealgCompare.compare) (by kernel_rfl),HR.out];simp only[Result.andThen];rw[Oper.upon_value];go_wp2_with fail;go_ret;exact⟨rfl,rfl⟩
theorem compareA_any (l m:List (BitVec 8)) (hl:l.length=6) (hm:m.length=6) (w:World) :
  Calls prog 46 #[.agg (l.map V8).toArray,.agg (m.map V8).toArray] w fun e w'=>e=.returned (.int .i64 (cmpF l m))∧Ext w w':=by
 have H:=kp (Loc.start w);have HB:=kp (bcompare_any l m hl hm);clear hl hm;go_enter func46,ntmps46;go_wp2_with (first|((with_reducible refine isBx 2 23 ?_);(refine xBX H 23 (l.map V8) ?_);clear H;intro g2 w2 HGg2 HEg2 H;simp only[pA])|((with_reducible refine isBx 3 23 ?_);(refine xBX H 23 (m.map V8) ?_);clear H;intro g3 w3 HGg3 HEg3 H;simp only[pA]));refine region_free H (tabS [(5,eT (.slice (some ⟨g2,0,none⟩) 6 6)),(6,eT (.slice (some ⟨g3,0,none⟩) 6 6)),(7,eT (.int .i64 (cmpF l m))),(4,eT (.int .i64 (cmpF l m)))]) [] (tabS_out _ _ (by simp only[List.forall_mem_cons,mono_eqO,true_and];simp)) 4 (by kernel_rfl) (by kernel_rfl) (by kernel_rfl) (by kernel_rfl) [] [] rfl rfl (by decide) (by decide) (by decide) trivial ?_;simp only[tK];refine rT (fun w_=>by go_wp2_with fail;exact kso) fun v5=>?_;simp only[pA];refine rT (fun w_=>by go_wp2_with fail;exact kso) fun v6=>?_;simp only[pA];refine⟨fun w_ o_ S_=>?_,fun v7=>?_⟩
 ·obtain rfl:v5=_:=hsR S_ 5 rfl;obtain rfl:v6=_:=hsR S_ 6 rfl;clear S_;have H:=kp (kK [0,1] H o_);have HOX:=kp o_;clear o_;go_wp2_with fail;refine (HB.out g2 g3 _ (H.out.at 1 rfl) (H.out.at 0 rfl)).mono ?_;rintro e wa ⟨rfl,rfl⟩;go_wp2_with fail;exact kso
 simp only[pA];refine rO 7 rfl (fun w_ e0=>by obtain rfl:v7=_:=e0;go_wp2_with fail;exact kso) fun v4=>?_;simp only[pA];clear H;intro w4 HOX H hfin;obtain rfl:v5=_:=hF hfin 5 rfl;obtain rfl:v6=_:=hF hfin 6 rfl;obtain rfl:v7=_:=hF hfin 7 rfl;obtain rfl:v4=_:=hF hfin 4 rfl;clear hfin;simp only[dR];simp only[applyS] at H;have HXN:=kp (HOX.out.ext (Ext.refl w3) (fun g hg=>by cases hg));go_wp2_with fail;go_ret;exact⟨rfl,H.out.1⟩
end Go.Proofs.YtfecopfofkdnpaaGreat
