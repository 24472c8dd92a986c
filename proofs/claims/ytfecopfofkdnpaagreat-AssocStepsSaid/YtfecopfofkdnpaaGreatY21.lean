/- Texts of this proof, put together: Same, New, Tw, CpT, Del, Pl30d. -/
import Derived.Test.YtfecopfofkdnpaaGreatY20
import Derived.Test.YtfecopfofkdnpaaGreatY19
import Derived.Test.YtfecopfofkdnpaaGreatY16
import Derived.Lib.AppendZerosOnto
import Derived.Test.YtfecopfofkdnpaaGreatY8
import Derived.Test.YtfecopfofkdnpaaGreatY1
namespace Go.Proofs.YtfecopfofkdnpaaGreat
open Go.RowKit Tryz
theorem cF40 {h:Hd} (ok:h.Ok) (v:Value):(cellsF h v)[40]?=some v:=by
 rw[cellsF,List.getElem?_append_right (by rw[cellsH_len ok];exact Nat.le_refl _),cellsH_len ok];rfl
theorem great5_any (h:Hd) (ok:h.Ok) (ad:Option Addr) (n c:Nat) (w:World) :
  Calls prog 4 #[.agg (cellsF h (.slice ad n c)).toArray] w fun e w'=>e=.returned (.bool (decide (2400<n)))∧Ext w w':=by
 have H:=kp (Loc.start w);have H40:=kp (cF40 ok (.slice ad n c));clear ok;go_enter func4,ntmps4;go_wp2_with (((with_reducible refine isBx 1 31 ?_);(refine xBX H 31 (cellsF h (.slice ad n c)) ?_);clear H;intro g1 w1 HGg1 HEg1 H;simp only[pA]);have hc:=run_load_cell H.out 0 rfl _ _ H40.out);go_ret;exact⟨congrArg (fun z=>Ending.returned (.bool z)) (by refine Bool.eq_iff_iff.2 ?_;simp;omega),H.out.1⟩
def sameH (a b:As):Bool:=a.own==b.own&&a.caps==b.caps&&a.limit==b.limit&&a.idle==b.idle
def sameF (a:As) (l:List En) (b:As) (m:List En):Bool:=sameH a b&&decide (l=m)
theorem same_no {a b:As} {l m:List En} (j:Nat) (x y:En) (hx:l[j]?=some x) (hy:m[j]?=some y) (h:x≠y):sameF a l b m=false:=by
 have:l≠m:=fun e=>by rw[e,hy] at hx;exact h (Option.some.inj hx).symm
 simp[sameF,this]
theorem same_take {l m:List En} {j:Nat} {x:En} (hx:l[j]?=some x) (hy:m[j]?=some x) (h:l.take j=m.take j):l.take (j+1)=m.take (j+1):=by
 rw[List.take_add_one,List.take_add_one,hx,hy,h]
set_option maxHeartbeats 6400000 in
theorem same_any (a b:As) (ha:a.own.length=6) (hb:b.own.length=6) (v u:Value) (l m:List En) (hl:∀ x∈l,x.Ok) (hm:∀ x∈m,x.Ok) (hn:l.length≤100000) (hn':m.length≤100000) (w:World) (hs:SlT 11 cellsE w v l) (hs':SlT 11 cellsE w u m) :
  Calls prog 8 #[.agg (cellsA a v).toArray,.agg (cellsA b u).toArray] w fun e w'=>e=.returned (.bool (sameF a l b m))∧Ext w w':=by
 obtain⟨ad,n,c,rfl,hnl,hcap,hat⟩:=hs;obtain⟨ad',n',c',rfl,hnl',hcap',hat'⟩:=hs';have HAT:=kp hat;have HNL:=kp hnl;have HLK:=kp hl;have H:=kp (Loc.start w);have hn2:n≤100000:=by omega
 have HAT':=kp hat';have HNL':=kp hnl';have HLK':=kp hm;have hn2':n'≤100000:=by omega
 have A6:=kp (cA6 (a:=a) (.slice ad n c) ha);have A7:=kp (cA7 (a:=a) (.slice ad n c) ha);have A8:=kp (cA8 (a:=a) (.slice ad n c) ha);have A9:=kp (cA9 (a:=a) (.slice ad n c) ha);have B6:=kp (cA6 (a:=b) (.slice ad' n' c') hb);have B7:=kp (cA7 (a:=b) (.slice ad' n' c') hb);have B8:=kp (cA8 (a:=b) (.slice ad' n' c') hb);have B9:=kp (cA9 (a:=b) (.slice ad' n' c') hb);have HOW:=kp (cellsA_own (a:=a) (.slice ad n c) ha);have HOW':=kp (cellsA_own (a:=b) (.slice ad' n' c') hb);have HZO:=kp (sizeA8 ha);have HZO':=kp (sizeA8 hb);have hne:=fun w=>neAddr a.own b.own ha hb w;have HGT:=kp Tryz.eqGuardType45;have HSH:=kp (show sameH a b=(a.own==b.own&&a.caps==b.caps&&a.limit==b.limit&&a.idle==b.idle) from rfl);have HSF:=kp (show sameF a l b m=(sameH a b&&decide (l=m)) from rfl);clear hat hat' hl hm hnl hnl' hcap hcap' hn hn' ha hb;go_enter func8,ntmps8;generalize h1:Code.region 1 _ _=R1;go_wp2_with (first|((with_reducible refine isBx 2 26 ?_);(refine xBX H 26 (cellsA a (.slice ad n c)) ?_);clear H;intro g2 w2 HGg2 HEg2 H;simp only[pA])|((with_reducible refine isBx 3 26 ?_);(refine xBX H 26 (cellsA b (.slice ad' n' c')) ?_);clear H;intro g3 w3 HGg3 HEg3 H;simp only[pA]));subst h1;refine wp_cut [6,7,8,9,10,11,12,13,14,15,16,17,18,19,20,21,22,23,24,25,26,27,28,29,30,31,32,33,34,35,36,37,38,39,40] (fun vs w'=>Kp (Loc w w' [(g3,26,cellsA b (.slice ad' n' c')),(g2,26,cellsA a (.slice ad n c))])∧vs 40=.bool (!(sameH a b&&decide (n=n')))) ?_ ?_
 ·rw[HSH.out];have a6:=run_load_cell H.out 1 rfl _ _ A6.out;have a7:=run_load_cell H.out 1 rfl _ _ A7.out;have a8:=run_load_cell H.out 1 rfl _ _ A8.out;have a9:=run_load_cell H.out 1 rfl _ _ A9.out;have b6:=run_load_cell H.out 0 rfl _ _ B6.out;have b7:=run_load_cell H.out 0 rfl _ _ B7.out;have b8:=run_load_cell H.out 0 rfl _ _ B8.out;have b9:=run_load_cell H.out 0 rfl _ _ B9.out;generalize (a.own==b.own)=eo at *;go_wp2_with (first|((with_reducible refine isLd 23 ?_);(refine L_subG H (by kernel_rfl) 23 _ rfl 1 rfl (0) rfl (a.own.map V8) (HOW.out) underlying23 rfl (HZO.out) ?_);simp only[pA])|((with_reducible refine isLd 23 ?_);(refine L_subG H (by kernel_rfl) 23 _ rfl 0 rfl (0) rfl (b.own.map V8) (HOW'.out) underlying23 rfl (HZO'.out) ?_);simp only[pA]))
  all_goals exact CutP.of rfl (by kernel_rfl) ⟨H,congrArg Value.bool (by first|(simp[*];done)|(simp[bne, *];done)|(simp[bne, *];refine Bool.eq_iff_iff.2 ?_;simp;done)|(simp[bne, *];refine Bool.eq_iff_iff.2 ?_;simp;omega))⟩
 rintro vs w4 ⟨H,e40⟩;simp only[putMany,sbA,szA,ssA];rw[e40];clear e40 hne;cases hh:(sameH a b&&decide (n=n')) with
 |false =>
  have HK:=kp (show sameF a l b m=false by
   rw[HSF.out]
   have h1:sameH a b=false∨n≠n':=by
    cases hq:sameH a b
    ·exact .inl rfl
    ·rw[hq] at hh;exact .inr (by simpa using hh)
   rcases h1 with q|q
   ·rw[q];rfl
   ·rw[decide_eq_false (fun e=>q (by rw[HNL.out,HNL'.out,e])),Bool.and_false])
  clear hh;go_wp2_with fail;go_ret;exact⟨congrArg (fun z=>Ending.returned (.bool z)) HK.out.symm,H.out.1⟩
 |true =>
  have HQ:=kp (show sameH a b=true∧n=n' by simpa using hh);clear hh;obtain rfl:n=n':=HQ.out.2;go_wp2_with fail;go_loopw [5] (fun i wr=>∃ j:Nat,j≤n∧i=.int .i64 j∧Kp (l.take j=m.take j)∧Kp (Loc w wr [(g3,26,cellsA b (.slice ad' n c')),(g2,26,cellsA a (.slice ad n c))])) (fun i _=>n-(intOf i).toNat)
  case atStart=>exact⟨0,by omega,rfl,kp rfl,H⟩
  case round =>
   obtain⟨j,hj,rfl,HT,H⟩:=hrel;have hc9:=run_load_cell H.out 1 rfl _ _ A9.out;by_cases hlt:j<n
   ·go_wp2_with fail;clear hc9;obtain⟨x,hx⟩:∃ x,l[j]?=some x:=⟨l[j]'(by rw[←HNL.out];omega),by simp⟩
    obtain⟨y,hy⟩:∃ y,m[j]?=some y:=⟨m[j]'(by rw[←HNL'.out];omega),by simp⟩
    obtain⟨b1,off1,rfl,hb,hr⟩:=HAT.out j x hx;obtain⟨b2,off2,rfl,hb',hr'⟩:=HAT'.out j y hy;have HB:=kp hb;have HR:=kp hr;have HX:=kp hx;have HXK:=kp (HLK.out x (List.mem_of_getElem? hx));have HB':=kp hb';have HR':=kp hr';have HY:=kp hy;have HYK:=kp (HLK'.out y (List.mem_of_getElem? hy));clear hb hr hx hb' hr' hy;have HZX:=kp (sizeE HXK.out.l);have HZY:=kp (sizeE HYK.out.l);have HNE:=kp (fun w=>neEn w x y HXK.out HYK.out);generalize he:decide (x=y)=eb at *;refine region_free H (tabS [(48,eT (.pointer (some ⟨g2,9,none⟩))),(49,eT (.slice (some ⟨b1,off1,none⟩) n c)),(50,eT (.int .i64 j)),(51,eT (.pointer (some ⟨b1,off1+j*11,none⟩))),(52,eT (.agg (cellsE x).toArray)),(53,eT (.pointer (some ⟨g3,9,none⟩))),(54,eT (.slice (some ⟨b2,off2,none⟩) n c')),(55,eT (.int .i64 j)),(56,eT (.pointer (some ⟨b2,off2+j*11,none⟩))),(57,eT (.agg (cellsE y).toArray)),(58,eT (.bool (!eb)))]) [] (tabS_out _ _ (by simp only[List.forall_mem_cons,mono_eqO,true_and];simp)) 11 (by kernel_rfl) (by kernel_rfl) (by kernel_rfl) (by kernel_rfl) [] [] rfl rfl (by decide) (by decide) (by decide) trivial ?_;simp only[tK];refine rT (fun w_=>by go_wp2_with fail;exact kso) fun v48=>?_;simp only[pA];refine⟨fun w_ o_ S_=>?_,fun v49=>?_⟩
    ·obtain rfl:v48=_:=hsR S_ 48 rfl;clear S_;have H:=kp (kK [0,1] H o_);have HOX:=kp o_;clear o_;have hc:=run_load_cell H.out 1 rfl _ _ A9.out;go_wp2_with fail;exact kso
    simp only[pA];refine rT (fun w_=>by go_wp2_with fail;exact kso) fun v50=>?_;simp only[pA];refine rP 49 50 rfl rfl (fun w_ e0 e1=>by obtain rfl:v49=_:=e0;obtain rfl:v50=_:=e1;go_wp2_with fail;exact kso) fun v51=>?_;simp only[pA];refine⟨fun w_ o_ S_=>?_,fun v52=>?_⟩
    ·obtain rfl:v51=_:=hsR S_ 51 rfl;clear S_;have H:=kp (kK [0,1] H o_);have HOX:=kp o_;clear o_;go_wp2_with ((with_reducible refine isLd 45 ?_);(refine wpList_load_midG (by kernel_rfl) 45 _ rfl (b1) (off1+j*11) rfl (cellsE x) _ ((rangeAt_ext HR.out HB.out H.out.1)) underlying45 rfl (HZX.out) ?_);simp only[pA]);exact kso
    simp only[pA];refine rT (fun w_=>by go_wp2_with fail;exact kso) fun v53=>?_;simp only[pA];refine⟨fun w_ o_ S_=>?_,fun v54=>?_⟩
    ·obtain rfl:v53=_:=hsR S_ 53 rfl;clear S_;have H:=kp (kK [0,1] H o_);have HOX:=kp o_;clear o_;have hc:=run_load_cell H.out 0 rfl _ _ B9.out;go_wp2_with fail;exact kso
    simp only[pA];refine rT (fun w_=>by go_wp2_with fail;exact kso) fun v55=>?_;simp only[pA];refine rP 54 55 rfl rfl (fun w_ e0 e1=>by obtain rfl:v54=_:=e0;obtain rfl:v55=_:=e1;go_wp2_with fail;exact kso) fun v56=>?_;simp only[pA];refine⟨fun w_ o_ S_=>?_,fun v57=>?_⟩
    ·obtain rfl:v56=_:=hsR S_ 56 rfl;clear S_;have H:=kp (kK [0,1] H o_);have HOX:=kp o_;clear o_;go_wp2_with ((with_reducible refine isLd 45 ?_);(refine wpList_load_midG (by kernel_rfl) 45 _ rfl (b2) (off2+j*11) rfl (cellsE y) _ ((rangeAt_ext HR'.out HB'.out H.out.1)) underlying45 rfl (HZY.out) ?_);simp only[pA]);exact kso
    simp only[pA];refine⟨fun w_ o_ S_=>?_,fun v58=>?_⟩
    ·obtain rfl:v52=_:=hsR S_ 52 rfl;obtain rfl:v57=_:=hsR S_ 57 rfl;clear S_;have H:=kp (kK [0,1] H o_);have HOX:=kp o_;clear o_;refine wpList_bin (by kernel_rfl) .neq 45 45 (.tmp 52) (.tmp 57) rfl (.agg (cellsE x).toArray) (.agg (cellsE y).toArray) (.bool (!eb)) rfl rfl (run_eqGuard_agg _ _ _ _ _ _ _ HGT.out) (HNE.out _) ?_;go_wp2_with fail;exact kso
    simp only[pA];clear H;intro w7 HOX H hfin;obtain rfl:v48=_:=hF hfin 48 rfl;obtain rfl:v49=_:=hF hfin 49 rfl;obtain rfl:v50=_:=hF hfin 50 rfl;obtain rfl:v51=_:=hF hfin 51 rfl;obtain rfl:v52=_:=hF hfin 52 rfl;obtain rfl:v53=_:=hF hfin 53 rfl;obtain rfl:v54=_:=hF hfin 54 rfl;obtain rfl:v55=_:=hF hfin 55 rfl;obtain rfl:v56=_:=hF hfin 56 rfl;obtain rfl:v57=_:=hF hfin 57 rfl;obtain rfl:v58=_:=hF hfin 58 rfl;clear hfin;simp only[dR];simp only[applyS] at H;have HXN:=kp (HOX.out.ext (Ext.refl wr) (fun g hg=>by cases hg));cases eb with
    |false =>
     have HK:=kp (same_no (a:=a) (b:=b) j x y HX.out HY.out (of_decide_eq_false he));clear he;go_wp2_with fail;go_ret;exact⟨congrArg (fun z=>Ending.returned (.bool z)) HK.out.symm,H.out.1⟩
    |true =>
     have HK:=kp (same_take HX.out (by rw[HY.out,of_decide_eq_true he]) HT.out);clear he;go_wp2_with fail;go_roundw
     case rel=>exact⟨j+1,by omega,by go_num,HK,H⟩
     case measure=>simp[intOf];omega
   ·obtain rfl:j=n:=by omega
    have HK:=kp (show sameF a l b m=true by
     have h:=HT.out;rw[List.take_of_length_le (by rw[HNL.out];exact Nat.le_refl _),List.take_of_length_le (by rw[HNL'.out];exact Nat.le_refl _)] at h
     rw[HSF.out,HQ.out.1,decide_eq_true h];rfl)
    go_wp2_with fail;go_ret;exact⟨congrArg (fun z=>Ending.returned (.bool z)) HK.out.symm,H.out.1⟩
def as0:As:=⟨zero6,0,0,0⟩
def plI (l:List En) (t:By):Nat:=(l.filter (ltE t)).length
def plB (l:List En) (t:By):Bool:=(lookF l t).isSome
theorem place_is {l:List En} {t:By} {i:Nat} {found:Bool} (h:PlaceP l t i found) (hs:sortedF l) (hl:∀ e∈l,e.addr.length=6) (ht:t.length=6):i=plI l t∧found=plB l t:=by
 have h1:=(place_cut h hs).1;have h2:=look_found h hs hl ht;refine⟨?_,?_⟩
 ·unfold plI;rw[h1,List.length_take];have:=h.1;omega
 ·unfold plB;rw[h2];cases found <;> rfl
theorem place_one (a:As) (ha:a.own.length=6) (v:Value) (l:List En) (hl:∀ x∈l,x.addr.length=6) (hn:l.length≤100000) (hso:sortedF l) (t:By) (ht:t.length=6) (w:World) (hs:SlT 11 cellsE w v l) :
  Calls prog 24 #[.agg (cellsA a v).toArray,.agg (t.map V8).toArray] w fun e w'=>e=.returned (.tuple #[.int .i64 (plI l t),.bool (plB l t)])∧Ext w w':=by
 refine (place_any a ha v l hl hn t ht w hs).mono ?_;rintro e w' ⟨i,f,hp,rfl,hx⟩;obtain⟨rfl,rfl⟩:=place_is hp hso hl ht;exact⟨rfl,hx⟩
def TwR (a:As) (l:List En) (w:World) (e:Ending) (w':World):Prop:=∃ ad n c,e=.returned (.agg (cellsA a (.slice ad n c)).toArray)∧OwE w.heap.size w' (.slice ad n c) l∧Ext w w'
theorem twin_any (a:As) (ha:a.own.length=6) (v:Value) (l:List En) (hl:∀ x∈l,x.addr.length=6) (hn:l.length≤100000) (w:World) (hs:SlT 11 cellsE w v l) :
  Calls prog 22 #[.agg (cellsA a v).toArray] w (TwR a l w):=by
 have H:=kp (Loc.start w);have HS:=kp hs;have HCL:=kp (fun w hs=>cloneE_any v l hl hn w hs);obtain⟨ad,n,c,rfl,-⟩:=hs;clear hl hn;rw[cat_A a ha];go_enter func22,ntmps22;go_wp2_with (first|((with_reducible refine isBx 1 26 ?_);(refine xBX H 26 (cat (partsA a ha ad n c)) ?_);clear H;intro g1 w1 HGg1 HEg1 H;simp only[pA])|((with_reducible refine isAl 2 26 ?_);(refine xAL H 26 (cat (partsA as0 rfl none 0 0)) ?_);clear H;intro g2 w2 HGg2 HEg2 H;simp only[pA])|((with_reducible refine isLd 24 ?_);(first|(refine xF1 H 24 0 underlying24 ?_)|(refine xF1 H 24 1 underlying24 ?_)|(refine xF1 H 24 2 underlying24 ?_)|(refine xF1 H 24 3 underlying24 ?_)|(refine xF1 H 24 4 underlying24 ?_)|(refine xF1 H 24 5 underlying24 ?_));simp only[pA])|(go_at_call 52;refine (HCL.out _ (HS.out.ext H.out.1)).mono ?_;rintro e wa ⟨v2,rfl,ho,hx⟩;obtain⟨ad2,n2,c2,rfl⟩:=owns_form2 ho;have HO:=kp ho;clear ho;replace H:=kp (H.out.ext hx);have HXC:=kp hx;clear hx;have HG1:=kp (H.out.at 1 rfl);have HG2:=kp (H.out.at 0 rfl))|((with_reducible refine isSt 24 ?_);(first|(refine xS1 H 24 0 (partsA a ha ad2 n2 c2) ?_;clear H;intro w6 HWw6 H;simp only[szA] at H)|(refine xS1 H 24 1 (partsA a ha ad2 n2 c2) ?_;clear H;intro w6 HWw6 H;simp only[ssA,szA] at H)|(refine xS1 H 24 2 (partsA a ha ad2 n2 c2) ?_;clear H;intro w6 HWw6 H;simp only[ssA,szA] at H)|(refine xS1 H 24 3 (partsA a ha ad2 n2 c2) ?_;clear H;intro w6 HWw6 H;simp only[ssA,szA] at H)|(refine xS1 H 24 4 (partsA a ha ad2 n2 c2) ?_;clear H;intro w6 HWw6 H;simp only[ssA,szA] at H)|(refine xS1 H 24 5 (partsA a ha ad2 n2 c2) ?_;clear H;intro w6 HWw6 H;simp only[ssA,szA] at H)))|((with_reducible refine isLd 26 ?_);(first|(refine xFA H 26 0 underlying26 ?_)|(refine xFA H 26 1 underlying26 ?_)|(refine xFA H 26 2 underlying26 ?_)|(refine xFA H 26 3 underlying26 ?_)|(refine xFA H 26 4 underlying26 ?_)|(refine xFA H 26 5 underlying26 ?_));simp only[pA])|(have HG2:=kp (H.out.at 0 rfl);((with_reducible refine isSt 26 ?_);(first|(refine xSA H 26 0 (partsA a ha ad2 n2 c2) ?_;clear H;intro w8 HWw8 H;simp only[szA] at H)|(refine xSA H 26 1 (partsA a ha ad2 n2 c2) ?_;clear H;intro w8 HWw8 H;simp only[ssA,szA] at H)|(refine xSA H 26 2 (partsA a ha ad2 n2 c2) ?_;clear H;intro w8 HWw8 H;simp only[ssA,szA] at H)|(refine xSA H 26 3 (partsA a ha ad2 n2 c2) ?_;clear H;intro w8 HWw8 H;simp only[ssA,szA] at H)|(refine xSA H 26 4 (partsA a ha ad2 n2 c2) ?_;clear H;intro w8 HWw8 H;simp only[ssA,szA] at H)|(refine xSA H 26 5 (partsA a ha ad2 n2 c2) ?_;clear H;intro w8 HWw8 H;simp only[ssA,szA] at H)))));have HO2:=owns_wroteT (owns_wroteT HO.out HWw6.out HG1.out (show 45≠26 from by decide)) HWw8.out HG2.out (show 45≠26 from by decide);exact ret_f1 H Tryz.results22 0 rfl rfl underlying26 rfl (by kernel_rfl) rfl ⟨ad2,n2,c2,by rw[cat_A a ha],owns_weak HO2 (HEg1.out.trans HEg2.out).size,H.out.1⟩
section
variable {P:Program}
theorem run_copyT (w:World) (dT sT ty e:TypeId) (i:TypeInfo) (hu:P.underlying dT=some (.slice e)) (hi:P.info? e=some i) (g o dLen dCap:Nat) (a:Addr) (sLen sCap m:Nat) (hm:Nat.min sLen dLen=m) (cur:Array Value) (t:TypeId) (cs:List Value)
  (hg:w.heap[g]?=some (.cells cur t (0,0))) (hn:cs.length=m*i.size)
  (hsrc:∀ j v,cs[j]?=some v→w.cell? (a.add j)=some v) (hfit:o+cs.length≤cur.size) (h1:∀ v∈cs,v.oneCell'=true) :
  (Builtin.copy_ #[dT,sT] ty #[.slice (some ⟨g,o,none⟩) dLen dCap,.slice (some a) sLen sCap]).run P w =
   .ok (goInt m) (w.setRow g (cur.toList.take o++cs++cur.toList.drop (o+cs.length)).toArray):=by
 have hl:=run_loadCells_list (P:=P) w a cs hsrc;have hst:=run_storeCells_at P g o t cs 0 cur w hg (by simpa using hfit) h1;simp[Builtin.copy_,run_underlying hu,Builtin.lenOf,Builtin.firstCells,sizeOf,typeInfo,hi,hm,←hn,hl,hst]
theorem zeroCells_one {z:Array Value} (h:∀ u∈z,u.oneCell'=true) (n:Nat):∀ u∈(Builtin.zeroCells z n).toList,u.oneCell'=true:=by
 intro u hu;simp only[Builtin.zeroCells,Array.toList_map,List.mem_map] at hu;obtain⟨k,hk,rfl⟩:=hu;have hk':k<n*z.size:=by simpa using hk
 have hz:0<z.size:=by
  rcases Nat.eq_zero_or_pos z.size with c|c
  ·rw[c] at hk';simp at hk'
  ·exact c
 have hlt:k % z.size<z.size:=Nat.mod_lt _ hz;rw[getElem!_pos z (k % z.size) hlt];exact h _ (Array.getElem_mem hlt)
theorem run_clearT (w:World) (t ty e:TypeId) (i:TypeInfo) (z:Value) (hu:P.underlying t=some (.slice e)) (hi:P.info? e=some i) (hz:i.zero=some z) (hzs:z.cells.size=i.size) (h1:∀ u∈z.cells,u.oneCell'=true) (g o n c:Nat) (hn:0<n) (cur:Array Value) (T:TypeId)
  (hg:w.heap[g]?=some (.cells cur T (0,0))) (hfit:o+n*i.size≤cur.size) :
  ∃ zs:List Value,zs.length=n*i.size∧(Builtin.clear_ #[t] ty #[.slice (some ⟨g,o,none⟩) n c]).run P w=.ok (.tuple #[]) (w.setRow g (cur.toList.take o++zs++cur.toList.drop (o+zs.length)).toArray):=by
 have hl:(Builtin.zeroCells z.cells n).toList.length=n*i.size:=by rw[Array.length_toList,size_zeroCells,hzs]
 refine⟨(Builtin.zeroCells z.cells n).toList,hl,?_⟩;have hst:=run_storeCells_at P g o T (Builtin.zeroCells z.cells n).toList 0 cur w hg (by rw[hl];simpa using hfit) (zeroCells_one h1 n);obtain⟨m,rfl⟩:∃ m,n=m+1:=⟨n-1,by omega⟩
 simp[Builtin.clear_,run_underlying hu,zeroValue,typeInfo,hi,hz,hst]
variable {w0 w:World} {bs:List Bk} {ops:Array Oper} {rest:List Oper} {o:Oper} {a:Act} {Q:Exit→Act→World→Prop} {t e:TypeId} {sz bytes:Nat}
def Rd9 (w:World) (v:Value) (m:Nat) (cs:List Value):Prop:=∃ A sl sc,v=.slice (some A) sl sc∧sl=m∧∀ j u,cs[j]?=some u→w.cell? (A.add j)=some u
theorem L_cpT (he:ElemT P t e sz bytes) (H:Kp (Loc w0 w bs)) (hgd:o.guard=none) (d s:Operand) (ho:o.op=.call { callee:=.builtin .copy,args:=#[d,s],argTypes:=#[t,t] })
  (k:Nat) {g T:Nat} {cs:List Value} (hi:bs[k]?=some (g,T,cs)) (off n c:Nat) (hd:a.eval d=.slice (some ⟨g,off,none⟩) n c) (vs:Value) (hs:a.eval s=vs) (m:Nat) (ds:List Value) (hr:Rd9 w vs m ds) (hmn:m≤n) (hl:ds.length=m*sz) (h1:∀ u∈ds,u.oneCell'=true) (hfit:off+m*sz≤cs.length) (new:List Value) (hnew:cs.take off++ds++cs.drop (off+m*sz)=new)
  (h:∀ w',Kp (Wrote w w' g)→Kp (Loc w0 w' (bs.set k (g,T,new)))→wpList P ops Q rest (a.put o.dst (goInt (m:Int))) w'):wpList P ops Q (o::rest) a w:=by
 obtain⟨i,z,hin,hz,hsz,hby,hzs⟩:=he.info;subst hsz;obtain⟨A,sl,sc,rfl,rfl,hc⟩:=hr;refine wpList_plain hgd fun K hK=>?_;have hrun:=run_copyT (P:=P) w t t o.type e i he.under hin g off n c A sl sc sl (Nat.min_eq_left hmn) cs.toArray T ds (H.out.at k hi) hl hc (by rw[hl];simpa using hfit) h1;rw[hl] at hrun;have e1:cs.toArray.toList.take off++ds++cs.toArray.toList.drop (off+sl*i.size)=new:=hnew;rw[e1] at hrun;unfold Oper.wp execOp;simp only[ho,resolve,invoke,builtin,Sem.run_bind,Sem.run_pure,Result.andThen_ok,List.map_toArray,List.map_cons,List.map_nil,hd,hs,hrun];exact hK _ _ (h _ (kp ⟨_,rfl⟩) (kp (H.out.set k hi new)))
theorem L_clrT (he:ElemT P t e sz bytes) (h1:∀ i,P.info? e=some i→∀ z,i.zero=some z→∀ u∈z.cells,u.oneCell'=true) (H:Kp (Loc w0 w bs)) (hgd:o.guard=none) (s:Operand) (ho:o.op=.call { callee:=.builtin .clear,args:=#[s],argTypes:=#[t] })
  (k:Nat) {g T:Nat} {cs:List Value} (hi:bs[k]?=some (g,T,cs)) (off n c:Nat) (hs:a.eval s=.slice (some ⟨g,off,none⟩) n c) (hn:0<n) (hfit:off+n*sz≤cs.length)
  (h:∀ zs,Kp (zs.length=n*sz)→∀ w',Kp (Wrote w w' g)→Kp (Loc w0 w' (bs.set k (g,T,cs.take off++zs++cs.drop (off+n*sz))))→wpList P ops Q rest (a.put o.dst (.tuple #[])) w'):wpList P ops Q (o::rest) a w:=by
 obtain⟨i,z,hin,hz,hsz,hby,hzs⟩:=he.info;subst hsz;refine wpList_plain hgd fun K hK=>?_;obtain⟨zs,hl,hrun⟩:=run_clearT (P:=P) w t o.type e i z he.under hin hz hzs (h1 i hin z hz) g off n c hn cs.toArray T (H.out.at k hi) (by simpa using hfit);rw[hl] at hrun;unfold Oper.wp execOp;simp only[ho,resolve,invoke,builtin,Sem.run_bind,Sem.run_pure,Result.andThen_ok,List.map_toArray,List.map_cons,List.map_nil,hs,hrun];exact hK _ _ (h zs (kp hl) _ (kp ⟨_,rfl⟩) (kp (H.out.set k hi _)))
theorem L_apR (he:ElemT P t e sz bytes) (H:Kp (Loc w0 w bs)) (hgd:o.guard=none) (s x:Operand) (ho:o.op=.call { callee:=.builtin .append,args:=#[s,x],argTypes:=#[t,t] })
  (k:Nat) {g:Nat} {cs:List Value} (hi:bs[k]?=some (g,e,cs)) (n c:Nat) (hs:a.eval s=.slice (some ⟨g,0,none⟩) n c) (vx:Value) (hx:a.eval x=vx) (m:Nat) (ds:List Value) (hr:Rd9 w vx m ds) (hl:ds.length=m*sz) (h1:∀ u∈ds,u.oneCell'=true) (hroom:n+m≤c) (hfit:n*sz+m*sz≤cs.length) (new:List Value) (hnew:cs.take (n*sz)++ds++cs.drop (n*sz+m*sz)=new)
  (r:Nat) (hnr:n+m=r)
  (h:∀ w',Kp (Wrote w w' g)→Kp (Loc w0 w' (bs.set k (g,e,new)))→wpList P ops Q rest (a.put o.dst (.slice (some ⟨g,0,none⟩) r c)) w'):wpList P ops Q (o::rest) a w:=by
 subst hnr;obtain⟨i,z,hin,hz,hsz,hby,hzs⟩:=he.info;subst hsz;obtain⟨A,sl,sc,rfl,rfl,hc⟩:=hr;refine wpList_plain hgd fun K hK=>?_;have hrun:=run_append_room (P:=P) w t o.type e i he.under hin g n c cs.toArray (H.out.at k hi) A sl sc ds hl hc h1 hroom (by rw[hl];simpa using hfit);rw[hl] at hrun;have e1:cs.toArray.toList.take (n*i.size)++ds++cs.toArray.toList.drop (n*i.size+sl*i.size)=new:=hnew;rw[e1] at hrun;unfold Oper.wp execOp;simp only[ho,resolve,invoke,builtin,Sem.run_bind,Sem.run_pure,Result.andThen_ok,List.map_toArray,List.map_cons,List.map_nil,hs,hx,hrun];exact hK _ _ (h _ (kp ⟨_,rfl⟩) (kp (H.out.set k hi new)))
theorem L_apZ {tn:TypeId} {kn:IntKind} (he:ElemT P t e sz bytes) (htn:P.underlying tn=some (.int kn)) (H:Kp (Loc w0 w bs)) (hgd:o.guard=none) (s x:Operand) (ho:o.op=.call { callee:=.builtin .append,args:=#[s,x],argTypes:=#[t,tn] })
  (n c k gb go:Nat) (hs:a.eval s=.slice (some ⟨gb,go,none⟩) n c) (kq:IntKind) (hx:a.eval x=.int kq k) (olds:List Value) (hol:olds.length=n*sz) (hold:∀ j u,olds[j]?=some u→w.cell? ((⟨gb,go,none⟩:Addr).add j)=some u) (hk:0<k) (hg:c<n+k) (h63:n+k≤100000) (hb:bytes≤1000)
  (r:Nat) (hnr:n+k=r)
  (h:∀ c' zs g w',Kp (g=w.heap.size)→Kp (n+k≤c')→Kp (c'≤maxLen)→Kp (olds.length+zs.length=c'*sz)→Kp (k*sz≤zs.length)→Kp (Ext w w')→Kp (Loc w0 w' ((g,e,olds++zs)::bs))→wpList P ops Q rest (a.put o.dst (.slice (some ⟨g,0,none⟩) r c')) w'):wpList P ops Q (o::rest) a w:=by
 subst hnr;obtain⟨i,z,hin,hz,hsz,hby,hzs⟩:=he.info;subst hsz hby;refine wpList_plain hgd fun K hK=>?_;have hbs:(n+k)*i.bytes≤100000*1000:=Nat.mul_le_mul h63 hb;have hkb:k*i.bytes≤100000*1000:=Nat.mul_le_mul (by omega) hb
 have hrun:=Lib.run_append_grow_zeros (P:=P) w t tn o.type e i z kq kn he.under htn hin hz (some ⟨gb,go,none⟩) n c olds (run_firstCells_some (P:=P) (w:=w.drew) i.size n ⟨gb,go,none⟩ n c olds hol (fun j u hj=>by
   have h9:=hold j u hj;rw[Addr.add_mid] at h9 ⊢
   have hq:gb<w.heap.size:=by
    rcases Nat.lt_or_ge gb w.heap.size with q|q
    ·exact q
    ·simp[World.cell?,Array.getElem?_eq_none q] at h9
   exact (Ext.cell (Ext.drew w) hq).trans h9)) k hk he.pos hg (by omega) (by omega) (growslice_fits (by omega) (by omega))
 have hge:=grownCap_ge w (n+k) c e;have hcm:grownCap w (n+k) c e≤maxLen:=grownCap_le_maxLen w (n+k) c e (by simp only[maxLen];omega);unfold Oper.wp execOp;simp only[ho,resolve,invoke,builtin,Sem.run_bind,Sem.run_pure,Result.andThen_ok,List.map_toArray,List.map_cons,List.map_nil,hs,hx,hrun];have hsp:(n+k)*i.size+(grownCap w (n+k) c e-(n+k))*i.size=grownCap w (n+k) c e*i.size:=by rw[←Nat.add_mul];congr 1;omega
 rw[Nat.add_mul] at hsp;refine hK _ _ (h _ ((Builtin.zeroCells z.cells k).toList++(Builtin.zeroCells z.cells (grownCap w (n+k) c e-(n+k))).toList) _ _ (kp rfl) (kp hge) (kp hcm) (kp ?_) (kp ?_) (kp ((Ext.drew w).trans (Ext.alloc _ _))) (kp ?_))
 ·simp only[List.length_append,Array.length_toList,size_zeroCells,hzs,hol];omega
 ·simp only[List.length_append,Array.length_toList,size_zeroCells,hzs];omega
 ·have h2:=(H.out.ext (Ext.drew w)).new e (olds++((Builtin.zeroCells z.cells k).toList++(Builtin.zeroCells z.cells (grownCap w (n+k) c e-(n+k))).toList))
  have e2:(olds++((Builtin.zeroCells z.cells k).toList++(Builtin.zeroCells z.cells (grownCap w (n+k) c e-(n+k))).toList)).toArray=olds.toArray++Builtin.zeroCells z.cells k++Builtin.zeroCells z.cells (grownCap w (n+k) c e-(n+k)):=by
   rw[←List.append_assoc];simp
  rw[e2] at h2;exact h2
end
theorem sizeEn:(prog.info? 45).map (·.size)=some 11:=by kernel_rfl
theorem zone_En:∀ i,prog.info? 45=some i→∀ z,i.zero=some z→∀ u∈z.cells,u.oneCell'=true:=by
 intro i hi z hz;have h:(prog.info? 45).map (fun i=>i.zero.map (fun z=>z.cells.all (·.oneCell')))=some (some true):=by kernel_rfl
 rw[hi] at h;simp[hz] at h;intro u hu;obtain⟨k,hk,rfl⟩:=Array.getElem_of_mem hu;exact h k hk
theorem flatE_len {l:List En} (hl:∀ x∈l,x.addr.length=6):(l.flatMap cellsE).length=l.length*11:=flatMap_len l (fun x hx=>cellsE_len (hl x hx))
theorem flatE_take {l:List En} (hl:∀ x∈l,x.addr.length=6) (zs:List Value) (i:Nat) (hi:i≤l.length):(l.flatMap cellsE++zs).take (i*11)=(l.take i).flatMap cellsE:=by
 have h1:(l.take i).flatMap cellsE++(l.drop i).flatMap cellsE=l.flatMap cellsE:=by rw[←List.flatMap_append,List.take_append_drop]
 have h2:=flatE_len (l:=l.take i) (fun x hx=>hl x (List.mem_of_mem_take hx));rw[List.length_take,Nat.min_eq_left hi] at h2;rw[←h1,List.append_assoc,←h2,List.take_left]
theorem flatE_drop {l:List En} (hl:∀ x∈l,x.addr.length=6) (zs:List Value) (i:Nat) (hi:i≤l.length):(l.flatMap cellsE++zs).drop (i*11)=(l.drop i).flatMap cellsE++zs:=by
 have h1:(l.take i).flatMap cellsE++(l.drop i).flatMap cellsE=l.flatMap cellsE:=by rw[←List.flatMap_append,List.take_append_drop]
 have h2:=flatE_len (l:=l.take i) (fun x hx=>hl x (List.mem_of_mem_take hx));rw[List.length_take,Nat.min_eq_left hi] at h2;rw[←h1,List.append_assoc,←h2,List.drop_left]
theorem rd_part {w:World} {g c:Nat} {l:List En} (hl:∀ x∈l,x.addr.length=6) {zs:List Value} (h:Lc w g 45 (l.flatMap cellsE++zs)) (hcap:l.length≤c) (j:Nat) (hj:j≤l.length) (k:Nat):Rd9 w (.slice (cutA (some ⟨g,0,none⟩) j c 11) (l.length-j) k) (l.length-j) ((l.drop j).flatMap cellsE):=by
 by_cases hc:c=j
 ·refine⟨⟨g,0,none⟩,l.length-j,k,by rw[cutA,if_pos hc],rfl,fun t u hu=>?_⟩;rw[List.drop_of_length_le (by omega)] at hu;simp at hu
 ·refine⟨⟨g,j*11,none⟩,l.length-j,k,by rw[cutA_some _ _ _ _ _ hc,Nat.zero_add],rfl,fun t u hu=>?_⟩;rw[Addr.add_mid];refine h.cell ?_;rw[←List.getElem?_drop,flatE_drop hl zs j hj];exact (List.getElem?_append_left (List.getElem?_eq_some_iff.1 hu).1).trans hu
def DelR (l:List En) (i g c:Nat) (w0:World) (rest:List Bk) (e:Ending) (w':World):Prop:=
 ∃ zs,e=.returned (.slice (some ⟨g,0,none⟩) (l.length-1) c)∧((l.take i++l.drop (i+1)).flatMap cellsE++zs).length=c*11∧Loc w0 w' ((g,45,(l.take i++l.drop (i+1)).flatMap cellsE++zs)::rest)
set_option maxHeartbeats 1600000 in
set_option maxRecDepth 4000 in
theorem delete_any (l:List En) (hl:∀ x∈l,x.addr.length=6) (n:Nat) (hnl:n=l.length) (hn:n≤100000) (i j:Nat) (hj:j=i+1) (hi:i<n) (g c:Nat) (zs:List Value) (hc:n≤c) (hz:(l.flatMap cellsE++zs).length=c*11) (w0 w:World) (rest:List Bk) (H:Kp (Loc w0 w ((g,45,l.flatMap cellsE++zs)::rest))) :
  Calls prog 28 #[.slice (some ⟨g,0,none⟩) n c,.int .i64 (i:Int),.int .i64 (j:Int)] w (DelR l i g c w0 rest):=by
 have hjn:j≤n:=by omega
 have HRD:=kp (fun W (hW:Lc W g 45 (l.flatMap cellsE++zs))=>hnl▸rd_part hl hW (hnl▸hc) j (hnl▸hjn) (c-j));obtain⟨q,hq⟩:∃ q,q=n-1:=⟨_,rfl⟩
 have hql:i+(n-j)=q:=by omega
 have hne:¬ ((i:Int)=(j:Int)):=by omega
 have HCQ:=kp (cutA_some g 0 q c 11 (by omega));have HIJ:=kp (show i≤j∧j≤n∧n≤c∧i≤c∧q≤n∧n≤c∧0<n-q by omega);obtain⟨cs,hcs⟩:∃ cs,cs=l.flatMap cellsE++zs:=⟨_,rfl⟩
 obtain⟨ds,hds⟩:∃ ds,ds=(l.drop j).flatMap cellsE:=⟨_,rfl⟩
 obtain⟨ns,hns⟩:∃ ns,ns=cs.take (i*11)++ds++cs.drop (i*11+(n-j)*11):=⟨_,rfl⟩
 rw[←hcs] at H hz;rw[←hcs,←hds] at HRD;have HDL:=kp (show ds.length=(n-j)*11 by rw[hds,flatE_len (fun x hx=>hl x (List.mem_of_mem_drop hx)),List.length_drop,hnl]);have HD1:=kp (show ∀ u∈ds,u.oneCell'=true by rw[hds];exact one_flat _);have HF1:=kp (show i*11+(n-j)*11≤cs.length by rw[hz];omega);have HNL:=kp (show ns.length=c*11 by rw[hns];have:=HDL.out;simp only[List.length_append,List.length_take,List.length_drop,this,hz];omega);have HF2:=kp (show q*11+(n-q)*11≤ns.length by rw[HNL.out];omega);have HNE:=kp hns.symm
 have HNS:=kp (show ns.take (q*11)=(l.take i++l.drop j).flatMap cellsE by
  have h1:=flatE_take hl zs i (by omega);rw[←hcs] at h1;rw[hns,hds,h1,←List.flatMap_append];have h2:=flatE_len (l:=l.take i++l.drop j) (fun x hx=>(List.mem_append.1 hx).elim (fun h=>hl x (List.mem_of_mem_take h)) (fun h=>hl x (List.mem_of_mem_drop h)));rw[List.length_append,List.length_take,List.length_drop,Nat.min_eq_left (by omega),←hnl,hql] at h2
  rw[←h2,List.take_left])
 have HJ:=kp hj;have HQ:=kp hq;have HQL:=kp hql;have HNN:=kp hnl;clear hds hns hcs hz hl hj hi hc hjn hq hql hnl;go_enter func28,ntmps28;generalize h5:Code.region 5 _ _=R5;go_wp2_with (first|((with_reducible show wpList _ _ _ (Oper.mk _ (Op.slice 24 _ _ _ _) _ _ _ _::_) _ _);(refine L_cut (by kernel_rfl) 24 _ _ _ _ rfl _ _ _ _ _ rfl rfl rfl rfl (run_cut3 _ underlying24 (sizeEn) _ _ _ (i) (j) (n) (HIJ.out.1) (HIJ.out.2.1) (HIJ.out.2.2.1)) ?_);simp only[pA]));subst h5;refine xRZ H 6 ?_;apply Exists.intro;refine⟨fun xz2=>?_,fun wz2 HXZ H=>?_⟩
 ·simp only[tK];unfold Cx;repeat (first|((with_reducible show wpQuiet _ _ _ _ (Oper.mk _ (Op.slice 24 _ _ _ _) _ _ _ _::_) _);go_big_quiet_want;refine qz_cut 24 _ _ _ _ rfl _ _ _ _ _ rfl rfl rfl rfl (fun _=>run_cutH _ underlying24 (sizeEn) _ _ _ (i) (HIJ.out.2.2.2.1)) ?_;simp only[pA];go_big_quiet_on)|((with_reducible show wpQuiet _ _ _ _ (Oper.mk _ (Op.slice 24 _ _ _ _) _ _ _ _::_) _);go_big_quiet_want;refine qz_cut 24 _ _ _ _ rfl _ _ _ _ _ rfl rfl rfl rfl (fun _=>run_cutL _ underlying24 (sizeEn) _ _ _ (j) (HIJ.out.2.1)) ?_;simp only[pA];go_big_quiet_on)|go_big_quiet_step (fail))
  exact wpQuiet_nil rfl
 simp only[dR];go_wp2_with (first|((with_reducible refine isAp ?_);refine L_apR (elemEn) H rfl _ _ rfl 0 rfl (i) (c) rfl _ rfl (n-j) (ds) (HRD.out _ (H.out.at 0 rfl)) (HDL.out) (HD1.out) ((by have:=HIJ.out;omega)) (HF1.out) (ns) (HNE.out) (q) (HQL.out) ?_;clear H;intro wa HWwa H;simp only[szA] at H;simp only[pA])|(((with_reducible show wpList _ _ _ (Oper.mk _ (Op.slice 24 _ _ _ _) _ _ _ _::_) _ _);(refine L_cut (by kernel_rfl) 24 _ _ _ _ rfl _ _ _ _ _ rfl rfl rfl rfl (run_cut2 _ underlying24 (sizeEn) _ _ _ (q) (n) (HIJ.out.2.2.2.2.1) (HIJ.out.2.2.1)) ?_);simp only[pA]);rw[HCQ.out,Nat.zero_add])|((with_reducible show wpList _ _ _ (Oper.mk _ (Op.call { callee:=.builtin .clear,args:=_,argTypes:=_ }) _ _ _ _::_) _ _);refine L_clrT (elemEn) (zone_En) H rfl _ rfl 0 rfl (q*11) (n-q) (c-q) rfl (HIJ.out.2.2.2.2.2.2) (HF2.out) ?_;intro zz HLzz;clear H;intro wb HWwb H;simp only[szA] at H;simp only[Act.put]));go_ret;rw[HNS.out,List.append_assoc] at H;refine⟨zz++ns.drop (q*11+(n-q)*11),by show Ending.returned (.slice (some ⟨g,0,none⟩) q c)=_;rw[HQ.out,HNN.out],?_,by rw[←HJ.out];exact H.out⟩;rw[←HJ.out,←HNS.out];have h1:=HNL.out;have h2:=HLzz.out;have h3:=HF2.out;simp only[List.length_append,List.length_take,List.length_drop];omega
structure OkL (a:As) (l:List En):Prop where
 head:headF a l.length=true
 sorted:l.Pairwise (fun e f=>numF e.addr<numF f.addr)
 ent:∀ e∈l,entF e=true
 own:∀ e∈l,e.addr≠a.own
 uniq:∀ e∈l,∀ f∈l,e.state=2→f.state=2→e.aid=f.aid→e=f
 mem:(membersF l:Int)≤a.limit
theorem pair_of_sorted {l:List En} (h:sortedF l):l.Pairwise (fun e f=>numF e.addr<numF f.addr):=
 List.pairwise_iff_getElem.2 fun i j hi hj hij=>by
  have:=sorted_lt h hij hj
  rwa [enAt_get hi,enAt_get hj] at this
theorem sorted_of_pair {l:List En} (h:l.Pairwise (fun e f=>numF e.addr<numF f.addr)):sortedF l:=fun k hk=>by
 have:=List.pairwise_iff_getElem.1 h k (k+1) (by omega) hk (by omega)
 rwa [enAt_get (by omega),enAt_get hk]
theorem aid_range {e:En} (h:entF e=true):0≤e.aid∧e.aid≤255:=by rcases ent_cases h with c|c <;> omega
theorem valid_iff (a:As) (l:List En):validA a l=true↔OkL a l:=by
 constructor
 ·intro h;have hs:=sorted_of_valid h;simp only[validA,Bool.and_eq_true,decide_eq_true_eq] at h;obtain⟨⟨h1,h2⟩,h3⟩:=h;have hk:∀ k,k<l.length→okAt a.own l k=true:=fun k hk=>List.all_eq_true.1 h2 k (List.mem_range.2 hk)
  have hE:∀ k,k<l.length→entF (enAt l k)=true:=fun k q=>by
   have:=hk k q;simp only[okAt,Bool.and_eq_true] at this;exact this.1.1.1
  have hO:∀ k,k<l.length→(enAt l k).addr≠a.own:=fun k q=>by
   have:=hk k q;simp only[okAt,Bool.and_eq_true,bne_iff_ne] at this;exact this.1.1.2
  have hU:∀ i j,i<j→j<l.length→(enAt l i).state=2→(enAt l i).aid=(enAt l j).aid→False:=fun i j hij hj h4 h5=>by
   have:=hk j hj;simp only[okAt,Bool.and_eq_true,Bool.not_eq_true'] at this;have q:=aid_range (hE j hj);have h6:=(held_iff l l.length hE (Nat.le_refl _) j (by omega) (enAt l j).aid.toNat (by omega)).2 ⟨i,hij,h4,by omega⟩;rw[this.2] at h6;cases h6
  refine⟨h1,pair_of_sorted hs,fun e he=>?_,fun e he=>?_,fun e he f hf q1 q2 q3=>?_,h3⟩
  ·obtain⟨k,q,rfl⟩:=List.getElem_of_mem he;rw[←enAt_get q];exact hE k q
  ·obtain⟨k,q,rfl⟩:=List.getElem_of_mem he;rw[←enAt_get q];exact hO k q
  ·obtain⟨i,hi,rfl⟩:=List.getElem_of_mem he;obtain⟨j,hj,rfl⟩:=List.getElem_of_mem hf;rw[←enAt_get hi] at q1 q3 ⊢;rw[←enAt_get hj] at q2 q3 ⊢;rcases Nat.lt_trichotomy i j with c|c|c
   ·exact (hU i j c hj q1 q3).elim
   ·rw[c]
   ·exact (hU j i c hi q2 q3.symm).elim
 ·intro h;have hs:=sorted_of_pair h.sorted;have hE:∀ k,k<l.length→entF (enAt l k)=true:=fun k q=>by rw[enAt_get q];exact h.ent _ (List.getElem_mem q)
  simp only[validA,Bool.and_eq_true,decide_eq_true_eq];refine⟨⟨h.head,List.all_eq_true.2 fun k hk=>?_⟩,h.mem⟩;have hk:=List.mem_range.1 hk;simp only[okAt,Bool.and_eq_true,Bool.not_eq_true',bne_iff_ne];refine⟨⟨⟨hE k hk,by rw[enAt_get hk];exact h.own _ (List.getElem_mem hk)⟩,?_⟩,?_⟩
  ·unfold ordAt;by_cases c:k=0
   ·simp[c]
   ·have:=hs (k-1) (by omega);rw[Nat.sub_add_cancel (by omega)] at this;simp[this]
  ·cases hb:(heldF (l.take k)).getD (enAt l k).aid.toNat false with
   |false=>rfl
   |true =>
    exfalso
    have q:=aid_range (hE k hk);obtain⟨j,hj,h4,h5⟩:=(held_iff l l.length hE (Nat.le_refl _) k (by omega) (enAt l k).aid.toNat (by omega)).1 hb;have hjl:j<l.length:=by omega
    have c:=ent_cases (hE j hjl);have c2:=ent_cases (hE k hk);have:=h.uniq (enAt l j) (by rw[enAt_get hjl];exact List.getElem_mem hjl) (enAt l k) (by rw[enAt_get hk];exact List.getElem_mem hk) h4 (by omega) (by omega);have:=sorted_lt hs hj hk;rw[‹enAt l j=enAt l k›] at this;omega
theorem ok_sub {a:As} {l l':List En} (h:OkL a l) (hs:List.Sublist l' l):OkL a l':=by
 have hm:∀ e∈l',e∈l:=fun e he=>hs.subset he;refine⟨?_,h.sorted.sublist hs,fun e he=>h.ent e (hm e he),fun e he=>h.own e (hm e he),fun e he f hf=>h.uniq e (hm e he) f (hm f hf),?_⟩
 ·have h1:=h.head;have:=hs.length_le;simp only[headF,Bool.and_eq_true,decide_eq_true_eq] at h1 ⊢;exact⟨h1.1,by omega⟩
 ·have h1:=h.mem;have:membersF l'≤membersF l:=hs.countP_le;omega
theorem ne_perm (t:List (BitVec 8)):∀ l:List En,(l.filter (ltE t)++l.filter (gtE t)).Perm (delF l t)
 |[]=>.refl _
 |e::l=>by
  have ih:=ne_perm t l;unfold delF at ih ⊢;rcases Nat.lt_trichotomy (numF e.addr) (numF t) with c|c|c
  ·rw[List.filter_cons_of_pos (by simpa[ltE] using c),List.filter_cons_of_neg (by simp[gtE];omega),List.filter_cons_of_pos (by simp[neE];omega)];exact ih.cons e
  ·rw[List.filter_cons_of_neg (by simp[ltE];omega),List.filter_cons_of_neg (by simp[gtE];omega),List.filter_cons_of_neg (by simp[neE];omega)];exact ih
  ·rw[List.filter_cons_of_neg (by simp[ltE];omega),List.filter_cons_of_pos (by simpa[gtE] using c),List.filter_cons_of_pos (by simp[neE];omega)];exact List.perm_middle.trans (ih.cons e)
theorem put_perm (l:List En) (s:En):(putF l s).Perm (s::delF l s.addr):=List.perm_middle.trans ((ne_perm s.addr l).cons s)
theorem mem_put {l:List En} {s e:En}:e∈putF l s↔e=s∨(e∈l∧numF e.addr≠numF s.addr):=by
 rw[(put_perm l s).mem_iff,List.mem_cons];simp[delF,neE]
theorem mem_del {l:List En} {t:List (BitVec 8)} {e:En}:e∈delF l t↔e∈l∧numF e.addr≠numF t:=by simp[delF,neE]
theorem put_len (l:List En) (s:En):(putF l s).length=(delF l s.addr).length+1:=by rw[(put_perm l s).length_eq];rfl
theorem put_members (l:List En) (s:En):membersF (putF l s)=membersF (delF l s.addr)+if s.state=2 then 1 else 0:=by
 unfold membersF;rw[(put_perm l s).countP_eq,List.countP_cons];simp
theorem put_sorted {l:List En} (s:En) (h:l.Pairwise (fun e f=>numF e.addr<numF f.addr)):(putF l s).Pairwise (fun e f=>numF e.addr<numF f.addr):=by
 unfold putF;refine List.pairwise_append.2 ⟨h.sublist List.filter_sublist,List.pairwise_cons.2 ⟨fun e he=>?_,h.sublist List.filter_sublist⟩,fun e he f hf=>?_⟩
 ·have:=(List.mem_filter.1 he).2;simpa[gtE] using this
 ·have h1:numF e.addr<numF s.addr:=by have:=(List.mem_filter.1 he).2;simpa[ltE] using this
  rcases List.mem_cons.1 hf with rfl|hf
  ·exact h1
  ·have h2:numF s.addr<numF f.addr:=by have:=(List.mem_filter.1 hf).2;simpa[gtE] using this
   omega
theorem look_some {l:List En} {t:List (BitVec 8)} {e:En} (h:lookF l t=some e):e∈l∧e.addr=t:=by
 have h1:=List.find?_some h;exact⟨List.mem_of_find?_eq_some h,by simpa[hasAddr] using h1⟩
theorem look_none {l:List En} {t:List (BitVec 8)} (h:lookF l t=none):∀ e∈l,e.addr≠t:=fun e he=>by
 have:=List.find?_eq_none.1 h e he
 simpa[hasAddr] using this
theorem pair_inj {l:List En} (h:l.Pairwise (fun e f=>numF e.addr<numF f.addr)) {e f:En} (he:e∈l) (hf:f∈l) (hn:numF e.addr=numF f.addr):e=f:=by
 obtain⟨i,hi,rfl⟩:=List.getElem_of_mem he;obtain⟨j,hj,rfl⟩:=List.getElem_of_mem hf;have hp:=List.pairwise_iff_getElem.1 h;rcases Nat.lt_trichotomy i j with c|c|c
 ·have:=hp i j hi hj c;omega
 ·subst c;rfl
 ·have:=hp j i hj hi c;omega
theorem look_mem {l:List En} (h:l.Pairwise (fun e f=>numF e.addr<numF f.addr)) {e:En} (he:e∈l):lookF l e.addr=some e:=by
 cases hc:lookF l e.addr with
 |none=>exact absurd rfl (look_none hc e he)
 |some f =>
  obtain⟨h1,h2⟩:=look_some hc;rw[pair_inj h h1 he (by rw[h2])]
theorem del_none {l:List En} {t:List (BitVec 8)} (hl:∀ e∈l,e.addr.length=6) (ht:t.length=6) (h:lookF l t=none):delF l t=l:=
 List.filter_eq_self.2 fun e he=>by
  have:=look_none h e he;simp only[neE,decide_eq_true_eq];intro c;exact this (num_inj (by rw[hl e he,ht]) c)
theorem del_some {l:List En} {t:List (BitVec 8)} (h:l.Pairwise (fun e f=>numF e.addr<numF f.addr)) {x:En} (hx:lookF l t=some x):l.Perm (x::delF l t):=by
 obtain⟨h1,h2⟩:=look_some hx;obtain⟨p,q,rfl⟩:=List.append_of_mem h1;have hp:=List.pairwise_append.1 h;have hc:=List.pairwise_cons.1 hp.2.1
 have e1:p.filter (neE t)=p:=List.filter_eq_self.2 fun e he=>by
  have:=hp.2.2 e he x (by simp);rw[h2] at this;simp[neE];omega
 have e2:q.filter (neE t)=q:=List.filter_eq_self.2 fun e he=>by
  have:=hc.1 e he;rw[h2] at this;simp[neE];omega
 have e3:delF (p++x::q) t=p++q:=by
  unfold delF;rw[List.filter_append,List.filter_cons_of_neg (by simp[neE,h2]),e1,e2]
 rw[e3];exact List.perm_middle
theorem del_len {l:List En} {t:List (BitVec 8)} (h:l.Pairwise (fun e f=>numF e.addr<numF f.addr)) {x:En} (hx:lookF l t=some x):l.length=(delF l t).length+1:=by rw[(del_some h hx).length_eq];rfl
theorem del_members {l:List En} {t:List (BitVec 8)} (h:l.Pairwise (fun e f=>numF e.addr<numF f.addr)) {x:En} (hx:lookF l t=some x):membersF l=membersF (delF l t)+if x.state=2 then 1 else 0:=by
 unfold membersF;rw[(del_some h hx).countP_eq,List.countP_cons];simp
theorem del_sub (l:List En) (t:List (BitVec 8)):List.Sublist (delF l t) l:=List.filter_sublist
theorem look_put {l:List En} {s:En} {t:List (BitVec 8)} (h:l.Pairwise (fun e f=>numF e.addr<numF f.addr)) (hl:∀ e∈l,e.addr.length=6) (hs:s.addr.length=6) (_:t.length=6):lookF (putF l s) t=if t=s.addr then some s else lookF l t:=by
 have hp:=put_sorted s h;by_cases c:t=s.addr
 ·rw[if_pos c,c];exact look_mem hp (mem_put.2 (.inl rfl))
 ·rw[if_neg c];cases hc:lookF l t with
  |some e =>
   obtain⟨h1,h2⟩:=look_some hc;rw[←h2];refine look_mem hp (mem_put.2 (.inr ⟨h1,fun q=>c ?_⟩));rw[←h2];exact num_inj (by rw[hl e h1,hs]) q
  |none =>
   cases hd:lookF (putF l s) t with
   |none=>rfl
   |some e =>
    exfalso
    obtain⟨h1,h2⟩:=look_some hd;rcases mem_put.1 h1 with rfl|⟨h1,_⟩
    ·exact c h2.symm
    ·exact look_none hc e h1 h2
theorem ok_put {a:As} {l:List En} {s:En} (h:OkL a l) (h1:entF s=true) (h2:s.addr≠a.own) (h3:(putF l s).length≤64) (h4:s.state=2→∀ e∈l,numF e.addr≠numF s.addr→e.state=2→e.aid≠s.aid) (h5:(membersF (putF l s):Int)≤a.limit):OkL a (putF l s):=by
 refine⟨?_,put_sorted s h.sorted,fun e he=>?_,fun e he=>?_,fun e he f hf q1 q2 q3=>?_,h5⟩
 ·have:=h.head;simp only[headF,Bool.and_eq_true,decide_eq_true_eq] at this ⊢;exact⟨this.1,h3⟩
 ·rcases mem_put.1 he with rfl|⟨he,_⟩
  ·exact h1
  ·exact h.ent e he
 ·rcases mem_put.1 he with rfl|⟨he,_⟩
  ·exact h2
  ·exact h.own e he
 ·rcases mem_put.1 he with rfl|⟨he1,hne⟩ <;> rcases mem_put.1 hf with rfl|⟨hf1,hnf⟩
  ·rfl
  ·exact absurd q3.symm (h4 q1 f hf1 hnf q2)
  ·exact absurd q3 (h4 q2 e he1 hne q1)
  ·exact h.uniq e he1 f hf1 q1 q2 q3
theorem ok_len {a:As} {l:List En} (h:OkL a l):l.length≤64:=by
 have:=h.head;simp only[headF,Bool.and_eq_true,decide_eq_true_eq] at this;exact this.2
end Go.Proofs.YtfecopfofkdnpaaGreat
