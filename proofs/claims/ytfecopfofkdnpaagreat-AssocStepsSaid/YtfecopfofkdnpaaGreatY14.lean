/- Texts of this proof, put together: Num, Ent, Mem. -/
import Derived.Test.YtfecopfofkdnpaaGreatY13
import Derived.Test.YtfecopfofkdnpaaGreatY6
import Derived.Test.YtfecopfofkdnpaaGreatY1
namespace Go.Proofs.YtfecopfofkdnpaaGreat
open Go.RowKit Tryz
theorem num_take (l:List (BitVec 8)) (j:Nat) (x:BitVec 8) (h:l[j]?=some x):numF (l.take (j+1))=numF (l.take j)*256+x.toNat:=by
 rw[List.take_add_one,h,Option.toList_some,num_snoc]
theorem wrap_u64' (n:Int):IntKind.u64.wrap n=n % 18446744073709551616:=rfl
theorem number_any (l:List (BitVec 8)) (hl:l.length=6) (w:World) :
  Calls prog 88 #[.agg (l.map V8).toArray] w fun e w'=>e=.returned (.int .u64 (numF l))∧Ext w w':=by
 have H:=kp (Loc.start w);have HL:=kp hl;clear hl;go_enter func88,ntmps88;go_wp2_with ((with_reducible refine isBx 1 23 ?_);(refine xBX H 23 (l.map V8) ?_);clear H;intro g1 w1 HGg1 HEg1 H;simp only[pA]);go_loopw [4,3] (fun i n wr=>∃ j:Nat,j≤6∧i=.int .i64 j∧n=.int .u64 (numF (l.take j))∧Kp (Loc w wr [(g1,23,l.map V8)])) (fun i _ _=>6-(intOf i).toNat)
 case atStart=>exact⟨0,by omega,rfl,rfl,H⟩
 case round =>
  obtain⟨j,hj,rfl,rfl,H⟩:=hrel;by_cases hlt:j<6
  ·obtain⟨x,hx⟩:∃ x,l[j]?=some x:=⟨l[j]'(by rw[HL.out];omega),by simp⟩
   have hc:=run_load_cell H.out 0 rfl j (V8 x) (by simp[hx]);have HX:=kp hx;have HB:=kp (num_lt_pow (l.take j));clear hx;have HS:=kp (num_take l j x HX.out);generalize hq:numF (l.take j)=q at *;generalize hq2:numF (l.take (j+1))=q2 at *
   have HQ:Kp ((q:Int)*256 % 18446744073709551616=q*256∧((q:Int)*256+wI x) % 18446744073709551616=q2):=kp (by
    have h1:=HB.out;have h2:=HS.out;have h3:(l.take j).length=j:=by rw[List.length_take,HL.out];omega
    rw[h3] at h1;have h4:(256:Nat) ^ j≤256 ^ 5:=Nat.pow_le_pow_right (by decide) (by omega);have h5:=x.isLt;rw[h2];unfold wI
    omega)
   have HW:Kp (IntKind.u64.wrap (wI x)=wI x):=kp (by rw[wrap_u64'];have h5:=x.isLt;unfold wI;omega);go_wp2_with fail;go_roundw
   case rel=>exact⟨j+1,by omega,by go_num,by rw[hq2,HW.out,wrap_u64' ((q:Int)*256),HQ.out.1,wrap_u64',HQ.out.2],H⟩
   case measure=>simp[intOf];omega
  ·obtain rfl:j=6:=by omega
   go_wp2_with fail;go_ret;exact⟨congrArg (fun z=>Ending.returned (.int .u64 (numF z))) (List.take_of_length_le (by rw[HL.out];exact Nat.le_refl _)),H.out.1⟩
theorem compare2_any (l m:List (BitVec 8)) (hl:l.length=6) (hm:m.length=6) (w:World) :
  Calls prog 62 #[.agg (l.map V8).toArray,.agg (m.map V8).toArray] w fun e w'=>e=.returned (.int .i64 (cmpF l m))∧Ext w w':=by
 have H:=kp (Loc.start w);have HNL:=kp (number_any l hl);have HNM:=kp (number_any m hm);have HZL:=kp (sizeA8a hl);have HZM:=kp (sizeA8a hm);clear hl hm;go_enter func62,ntmps62;go_wp2_with (first|((with_reducible refine isBx 2 23 ?_);(refine xBX H 23 (l.map V8) ?_);clear H;intro g2 w2 HGg2 HEg2 H;simp only[pA])|((with_reducible refine isBx 3 23 ?_);(refine xBX H 23 (m.map V8) ?_);clear H;intro g3 w3 HGg3 HEg3 H;simp only[pA]));refine region_free H (tabS [(5,eT (.agg (l.map V8).toArray)),(6,eT (.int .u64 (numF l))),(7,eT (.agg (m.map V8).toArray)),(8,eT (.int .u64 (numF m))),(9,eT (.bool (decide (numF l<numF m))))]) [] (tabS_out _ _ (by simp only[List.forall_mem_cons,mono_eqO,true_and];simp)) 5 (by kernel_rfl) (by kernel_rfl) (by kernel_rfl) (by kernel_rfl) [] [] rfl rfl (by decide) (by decide) (by decide) trivial ?_;simp only[tK];refine⟨fun w_ o_ S_=>?_,fun v5=>?_⟩
 ·clear S_;have H:=kp (kK [0,1] H o_);have HOX:=kp o_;clear o_;go_wp2_with ((with_reducible refine isLd 23 ?_);(refine L_load H rfl 23 _ rfl 1 rfl rfl underlying23 rfl (HZL.out) ?_);simp only[pA]);exact kso
 simp only[pA];refine⟨fun w_ o_ S_=>?_,fun v6=>?_⟩
 ·obtain rfl:v5=_:=hsR S_ 5 rfl;clear S_;have H:=kp (kK [0,1] H o_);have HOX:=kp o_;clear o_;go_wp2_with fail;refine (HNL.out _).mono ?_;rintro e w2 ⟨rfl,hx⟩;have HXW:=kp hx;clear hx;go_wp2_with fail;exact ksr HXW.out
 simp only[pA];refine⟨fun w_ o_ S_=>?_,fun v7=>?_⟩
 ·clear S_;have H:=kp (kK [0,1] H o_);have HOX:=kp o_;clear o_;go_wp2_with ((with_reducible refine isLd 23 ?_);(refine L_load H rfl 23 _ rfl 0 rfl rfl underlying23 rfl (HZM.out) ?_);simp only[pA]);exact kso
 simp only[pA];refine⟨fun w_ o_ S_=>?_,fun v8=>?_⟩
 ·obtain rfl:v7=_:=hsR S_ 7 rfl;clear S_;have H:=kp (kK [0,1] H o_);have HOX:=kp o_;clear o_;go_wp2_with fail;refine (HNM.out _).mono ?_;rintro e w2 ⟨rfl,hx⟩;have HXW:=kp hx;clear hx;go_wp2_with fail;exact ksr HXW.out
 simp only[pA];refine rP 6 8 rfl rfl (fun w_ e0 e1=>by obtain rfl:v6=_:=e0;obtain rfl:v8=_:=e1;go_wp2_with fail;exact kso) fun v9=>?_;simp only[pA];clear H;intro w4 HOX H hfin;obtain rfl:v5=_:=hF hfin 5 rfl;obtain rfl:v6=_:=hF hfin 6 rfl;obtain rfl:v7=_:=hF hfin 7 rfl;obtain rfl:v8=_:=hF hfin 8 rfl;obtain rfl:v9=_:=hF hfin 9 rfl;clear hfin;simp only[dR];simp only[applyS] at H;have HXN:=kp (HOX.out.ext (Ext.refl w3) (fun g hg=>by cases hg));by_cases c1:numF l<numF m
 ·simp only[c1,decide_true];go_wp2_with fail;go_ret;exact⟨by simp[cmpF,c1],H.out.1⟩
 have c1':decide (numF l<numF m)=false:=decide_eq_false c1;simp only[c1'];go_wp2_with fail;refine region_free H (tabS [(10,eT (.agg (l.map V8).toArray)),(11,eT (.int .u64 (numF l))),(12,eT (.agg (m.map V8).toArray)),(13,eT (.int .u64 (numF m))),(14,eT (.bool (decide (numF m<numF l))))]) [] (tabS_out _ _ (by simp only[List.forall_mem_cons,mono_eqO,true_and];simp)) 5 (by kernel_rfl) (by kernel_rfl) (by kernel_rfl) (by kernel_rfl) [] [] rfl rfl (by decide) (by decide) (by decide) trivial ?_;simp only[tK];refine⟨fun w_ o_ S_=>?_,fun v10=>?_⟩
 ·clear S_;have H:=kp (kK [0,1] H o_);have HOX:=kp o_;clear o_;go_wp2_with ((with_reducible refine isLd 23 ?_);(refine L_load H rfl 23 _ rfl 1 rfl rfl underlying23 rfl (HZL.out) ?_);simp only[pA]);exact kso
 simp only[pA];refine⟨fun w_ o_ S_=>?_,fun v11=>?_⟩
 ·obtain rfl:v10=_:=hsR S_ 10 rfl;clear S_;have H:=kp (kK [0,1] H o_);have HOX:=kp o_;clear o_;go_wp2_with fail;refine (HNL.out _).mono ?_;rintro e w2 ⟨rfl,hx⟩;have HXW:=kp hx;clear hx;go_wp2_with fail;exact ksr HXW.out
 simp only[pA];refine⟨fun w_ o_ S_=>?_,fun v12=>?_⟩
 ·clear S_;have H:=kp (kK [0,1] H o_);have HOX:=kp o_;clear o_;go_wp2_with ((with_reducible refine isLd 23 ?_);(refine L_load H rfl 23 _ rfl 0 rfl rfl underlying23 rfl (HZM.out) ?_);simp only[pA]);exact kso
 simp only[pA];refine⟨fun w_ o_ S_=>?_,fun v13=>?_⟩
 ·obtain rfl:v12=_:=hsR S_ 12 rfl;clear S_;have H:=kp (kK [0,1] H o_);have HOX:=kp o_;clear o_;go_wp2_with fail;refine (HNM.out _).mono ?_;rintro e w2 ⟨rfl,hx⟩;have HXW:=kp hx;clear hx;go_wp2_with fail;exact ksr HXW.out
 simp only[pA];refine rP 11 13 rfl rfl (fun w_ e0 e1=>by obtain rfl:v11=_:=e0;obtain rfl:v13=_:=e1;go_wp2_with fail;exact kso) fun v14=>?_;simp only[pA];clear H;intro w5 HOX H hfin;obtain rfl:v10=_:=hF hfin 10 rfl;obtain rfl:v11=_:=hF hfin 11 rfl;obtain rfl:v12=_:=hF hfin 12 rfl;obtain rfl:v13=_:=hF hfin 13 rfl;obtain rfl:v14=_:=hF hfin 14 rfl;clear hfin;simp only[dR];simp only[applyS] at H;have HXN:=kp (HOX.out.ext (Ext.refl w4) (fun g hg=>by cases hg));by_cases c2:numF m<numF l
 ·simp only[c2,decide_true];go_wp2_with fail;go_ret;exact⟨by simp[cmpF,c1,c2],H.out.1⟩
 have c2':decide (numF m<numF l)=false:=decide_eq_false c2;simp only[c2'];go_wp2_with fail;go_ret;exact⟨by simp[cmpF,c1,c2],H.out.1⟩
theorem cE0 {e:En} (h:e.addr.length=6):((cellsE e).drop 0).take (e.addr.map V8).length=e.addr.map V8:=by
 obtain⟨_,_,_,_,_,_,h1⟩:=six h;simp[cellsE,h1]
theorem cE6 {e:En} (h:e.addr.length=6):(cellsE e)[6]?=some (.int .u8 e.state):=by
 obtain⟨_,_,_,_,_,_,h1⟩:=six h;simp[cellsE,h1]
theorem cE7 {e:En} (h:e.addr.length=6):(cellsE e)[7]?=some (.int .i64 e.aid):=by
 obtain⟨_,_,_,_,_,_,h1⟩:=six h;simp[cellsE,h1]
theorem cE8 {e:En} (h:e.addr.length=6):(cellsE e)[8]?=some (.int .i64 e.caps):=by
 obtain⟨_,_,_,_,_,_,h1⟩:=six h;simp[cellsE,h1]
theorem cE9 {e:En} (h:e.addr.length=6):(cellsE e)[9]?=some (.int .i64 e.listen):=by
 obtain⟨_,_,_,_,_,_,h1⟩:=six h;simp[cellsE,h1]
theorem cE10 {e:En} (h:e.addr.length=6):(cellsE e)[10]?=some (.int .i64 e.seen):=by
 obtain⟨_,_,_,_,_,_,h1⟩:=six h;simp[cellsE,h1]
theorem cellsE_len {e:En} (h:e.addr.length=6):(cellsE e).length=11:=by simp[cellsE,h]
theorem sizeE {e:En} (h:e.addr.length=6):(prog.info? 45).map (·.size)=some (cellsE e).length:=by
 rw[cellsE_len h];kernel_rfl
theorem sizeEa {e:En} (h:e.addr.length=6):(prog.info? 45).map (·.size)=some (cellsE e).toArray.size:=by
 rw[List.size_toArray];exact sizeE h
theorem one_cellsE (e:En):(cellsE e).toArray.all (·.oneCell')=true:=by
 simp[cellsE,Value.oneCell',List.all_map]
set_option maxHeartbeats 1600000 in
theorem checkEntry_any (s:En) (hs:s.addr.length=6) (w:World) :
  Calls prog 45 #[.agg (cellsE s).toArray] w fun e w'=>e=.returned (.bool (entF s))∧Ext w w':=by
 have H:=kp (Loc.start w);have HG:=kp (group_any s.addr hs);have HM:=kp (moment_any s.seen);have HW:=kp within_any;have HP:=kp (cE0 hs);have HZ:=kp (sizeA8 hs);have H6:=kp (cE6 hs);have H7:=kp (cE7 hs);have H8:=kp (cE8 hs);have H9:=kp (cE9 hs);have H10:=kp (cE10 hs);clear hs;go_enter func45,ntmps45;go_wp2_with (first|(((with_reducible refine isBx 1 45 ?_);(refine xBX H 45 (cellsE s) ?_);clear H;intro g1 w1 HGg1 HEg1 H;simp only[pA]);have hc6:=run_load_cell H.out 0 rfl _ _ H6.out;have hc7:=run_load_cell H.out 0 rfl _ _ H7.out;have hc8:=run_load_cell H.out 0 rfl _ _ H8.out;have hc9:=run_load_cell H.out 0 rfl _ _ H9.out;have hc10:=run_load_cell H.out 0 rfl _ _ H10.out)|((with_reducible refine isLd 23 ?_);(first|(refine L_subG H (by kernel_rfl) 23 _ rfl 0 rfl (0) rfl (s.addr.map V8) (HP.out) underlying23 rfl (HZ.out) ?_)|(refine L_subG H (by kernel_rfl) 23 _ rfl 1 rfl (0) rfl (s.addr.map V8) (HP.out) underlying23 rfl (HZ.out) ?_)|(refine L_subG H (by kernel_rfl) 23 _ rfl 2 rfl (0) rfl (s.addr.map V8) (HP.out) underlying23 rfl (HZ.out) ?_)|(refine L_subG H (by kernel_rfl) 23 _ rfl 3 rfl (0) rfl (s.addr.map V8) (HP.out) underlying23 rfl (HZ.out) ?_)|(refine L_subG H (by kernel_rfl) 23 _ rfl 4 rfl (0) rfl (s.addr.map V8) (HP.out) underlying23 rfl (HZ.out) ?_)|(refine L_subG H (by kernel_rfl) 23 _ rfl 5 rfl (0) rfl (s.addr.map V8) (HP.out) underlying23 rfl (HZ.out) ?_));simp only[pA])|(go_at_call 29;clear hc6 hc7 hc8 hc9 hc10;refine (HG.out _).mono ?_;rintro e wa ⟨rfl,hx⟩;replace H:=kp (H.out.ext hx);have HXC:=kp hx;clear hx;have hc6:=run_load_cell H.out 0 rfl _ _ H6.out;have hc7:=run_load_cell H.out 0 rfl _ _ H7.out;have hc8:=run_load_cell H.out 0 rfl _ _ H8.out;have hc9:=run_load_cell H.out 0 rfl _ _ H9.out;have hc10:=run_load_cell H.out 0 rfl _ _ H10.out)|(go_at_call 20;clear hc6 hc7 hc8 hc9 hc10;refine (HM.out _).mono ?_;rintro e wa ⟨rfl,hx⟩;replace H:=kp (H.out.ext hx);have HXC:=kp hx;clear hx;have hc6:=run_load_cell H.out 0 rfl _ _ H6.out;have hc7:=run_load_cell H.out 0 rfl _ _ H7.out;have hc8:=run_load_cell H.out 0 rfl _ _ H8.out;have hc9:=run_load_cell H.out 0 rfl _ _ H9.out;have hc10:=run_load_cell H.out 0 rfl _ _ H10.out)|(go_at_call 44;clear hc6 hc7 hc8 hc9 hc10;refine (HW.out _ _ _ _).mono ?_;rintro e wa ⟨rfl,hx⟩;replace H:=kp (H.out.ext hx);have HXC:=kp hx;clear hx;have hc6:=run_load_cell H.out 0 rfl _ _ H6.out;have hc7:=run_load_cell H.out 0 rfl _ _ H7.out;have hc8:=run_load_cell H.out 0 rfl _ _ H8.out;have hc9:=run_load_cell H.out 0 rfl _ _ H9.out;have hc10:=run_load_cell H.out 0 rfl _ _ H10.out))
 all_goals (go_ret;exact⟨by simp[entF, *] <;> simp_all,H.out.1⟩)
theorem mem_take (l:List En) (j:Nat) (x:En) (h:l[j]?=some x):membersF (l.take (j+1))=membersF (l.take j)+if x.state==2 then 1 else 0:=by
 unfold membersF;rw[List.take_add_one,h,Option.toList_some,List.countP_append,List.countP_singleton]
theorem mem_le (l:List En):membersF l≤l.length:=List.countP_le_length
theorem holder_take (l:List En) (aid:Int) (j:Nat) (x:En) (h:l[j]?=some x) (hT:∀ k,k<j→isHeld aid (enAt l k)=false) (hx:isHeld aid x=false):∀ k,k<j+1→isHeld aid (enAt l k)=false:=by
 intro k hk;rcases Nat.lt_succ_iff_lt_or_eq.1 hk with c|c
 ·exact hT k c
 ·subst c;rw[enAt_some h];exact hx
theorem holder_none (l:List En) (aid:Int) (hT:∀ k,k<l.length→isHeld aid (enAt l k)=false):holderF l aid=-1:=by
 rcases holder_cases l aid with c|⟨i,hi,c⟩
 ·exact c
 ·exfalso
  unfold holderF at c;cases hf:l.findIdx? (isHeld aid) with
  |none=>rw[hf] at c;simp at c
  |some k =>
   rw[List.findIdx?_eq_some_iff_getElem] at hf;obtain⟨h1,h2,_⟩:=hf;have:=hT k h1;rw[enAt_get h1,h2] at this;cases this
set_option maxHeartbeats 1600000 in
theorem members30_any (v:Value) (l:List En) (hl:∀ x∈l,x.addr.length=6) (hn:l.length≤100000) (w:World) (hs:SlT 11 cellsE w v l) :
  Calls prog 61 #[v] w fun e w'=>e=.returned (.int .i64 (membersF l))∧Ext w w':=by
 obtain⟨ad,n,c,rfl,hnl,hcap,hat⟩:=hs;have HAT:=kp hat;have HNL:=kp hnl;have HLK:=kp hl;have H:=kp (Loc.start w);have hn2:n≤100000:=by omega
 clear hat hl hnl hcap hn;go_enter func61,ntmps61;go_wp2_with fail;go_loopw [4,3] (fun i m wr=>∃ j:Nat,j≤n∧i=.int .i64 j∧m=.int .i64 (membersF (l.take j))∧Kp (Loc w wr [])) (fun i _ _=>n-(intOf i).toNat)
 case atStart=>exact⟨0,by omega,rfl,rfl,H⟩
 case round =>
  obtain⟨j,hj,rfl,rfl,H⟩:=hrel;by_cases hlt:j<n
  ·obtain⟨x,hx⟩:∃ x,l[j]?=some x:=⟨l[j]'(by rw[←HNL.out];omega),by simp⟩
   obtain⟨b,off,rfl,hb,hr⟩:=HAT.out j x hx;have HB:=kp hb;have HR:=kp hr;have HX:=kp hx;have HXK:=kp (HLK.out x (List.mem_of_getElem? hx));clear hb hr hx;have HR3:=rangeAt_ext HR.out HB.out H.out.1;have hc6:=HR3 6 _ (cE6 HXK.out);clear HR3;have HML:=kp (mem_le (l.take j));have HMT:=kp (mem_take l j x HX.out);have HJL:=kp (show (l.take j).length≤j from List.length_take_le _ _);generalize hm:membersF (l.take j)=m at *;have hmj:m≤100000:=by have h1:=HML.out;have h2:=HJL.out;omega
   by_cases h2:x.state=2
   ·have hb2:(x.state==2)=true:=by simp[h2]
    rw[hb2] at HMT;clear h2;go_wp2_with fail;go_roundw
    case rel=>exact⟨j+1,by omega,by go_num,by rw[HMT.out];go_num,H⟩
    case measure=>simp[intOf];omega
   ·have hb2:(x.state==2)=false:=by simp[h2]
    rw[hb2] at HMT;clear h2;go_wp2_with fail;go_roundw
    case rel=>exact⟨j+1,by omega,by go_num,by rw[HMT.out];rfl,H⟩
    case measure=>simp[intOf];omega
  ·obtain rfl:j=n:=by omega
   go_wp2_with fail;go_ret;exact⟨congrArg (fun z=>Ending.returned (.int .i64 (membersF z))) (List.take_of_length_le (by rw[HNL.out];exact Nat.le_refl _)),H.out.1⟩
set_option maxHeartbeats 1600000 in
theorem members_any (a:As) (ha:a.own.length=6) (v:Value) (l:List En) (hl:∀ x∈l,x.addr.length=6) (hn:l.length≤100000) (w:World) (hs:SlT 11 cellsE w v l) :
  Calls prog 47 #[.agg (cellsA a v).toArray] w fun e w'=>e=.returned (.int .i64 (membersF l))∧Ext w w':=by
 obtain⟨ad,n,c,rfl,hnl,hcap,hat⟩:=hs;have HAT:=kp hat;have HNL:=kp hnl;have HLK:=kp hl;have H:=kp (Loc.start w);have hn2:n≤100000:=by omega
 have HC9:=kp (cA9 (a:=a) (.slice ad n c) ha);have HZE0:=kp (show (prog.info? 45).map (·.size)=some (cellsE en0).length by kernel_rfl);have HOE:=kp one_cellsE;clear hat hl hnl hcap hn ha;go_enter func47,ntmps47;go_wp2_with (first|(((with_reducible refine isBx 1 26 ?_);(refine xBX H 26 (cellsA a (.slice ad n c)) ?_);clear H;intro g1 w1 HGg1 HEg1 H;simp only[pA]);have hc9:=run_load_cell H.out 0 rfl _ _ HC9.out));clear hc9;go_loopw [8,2] (fun i m wr=>∃ j:Nat,j≤n∧i=.int .i64 j∧m=.int .i64 (membersF (l.take j))∧Kp (Loc w wr [(g1,26,cellsA a (.slice ad n c))])) (fun i _ _=>n-(intOf i).toNat)
 case atStart=>exact⟨0,by omega,rfl,rfl,H⟩
 case round =>
  obtain⟨j,hj,rfl,rfl,H⟩:=hrel;by_cases hlt:j<n
  ·obtain⟨x,hx⟩:∃ x,l[j]?=some x:=⟨l[j]'(by rw[←HNL.out];omega),by simp⟩
   obtain⟨b,off,rfl,hb,hr⟩:=HAT.out j x hx;have HB:=kp hb;have HR:=kp hr;have HX:=kp hx;have HXK:=kp (HLK.out x (List.mem_of_getElem? hx));clear hb hr hx;have HR3:=kp (rangeAt_ext HR.out HB.out H.out.1);have HZX:=kp (sizeE HXK.out);have HZXa:=kp (sizeEa HXK.out);have HLE:=kp (show (cellsE en0).length=(cellsE x).length by rw[cellsE_len HXK.out];rfl);have H6:=kp (cE6 HXK.out);have HML:=kp (mem_le (l.take j));have HMT:=kp (mem_take l j x HX.out);have HJL:=kp (show (l.take j).length≤j from List.length_take_le _ _);generalize hm:membersF (l.take j)=m at *;have hmj:m≤100000:=by have h1:=HML.out;have h2:=HJL.out;omega
   by_cases h2:x.state=2
   ·have hb2:(x.state==2)=true:=by simp[h2]
    rw[hb2] at HMT;clear h2;go_wp2_with (first|((with_reducible refine isLd 45 ?_);(refine wpList_load_midG (by kernel_rfl) 45 _ rfl (b) (off+j*11) rfl (cellsE x) _ (HR3.out) underlying45 rfl (HZX.out) ?_);simp only[pA])|((with_reducible refine isAl 4 45 ?_);(with_reducible refine xAL H 45 (cellsE en0) ?_);clear H;intro g4 w4 HGg4 HEg4 H;simp only[pA])|(((with_reducible refine isSt 45 ?_);(first|(refine xSR H 45 0 rfl (cellsE x) (HZXa.out) (HLE.out) (HOE.out _) ?_;clear H;intro w5 HWw5 H;simp only[szA] at H)|(refine xSR H 45 1 rfl (cellsE x) (HZXa.out) (HLE.out) (HOE.out _) ?_;clear H;intro w5 HWw5 H;simp only[ssA,szA] at H)|(refine xSR H 45 2 rfl (cellsE x) (HZXa.out) (HLE.out) (HOE.out _) ?_;clear H;intro w5 HWw5 H;simp only[ssA,szA] at H)|(refine xSR H 45 3 rfl (cellsE x) (HZXa.out) (HLE.out) (HOE.out _) ?_;clear H;intro w5 HWw5 H;simp only[ssA,szA] at H)|(refine xSR H 45 4 rfl (cellsE x) (HZXa.out) (HLE.out) (HOE.out _) ?_;clear H;intro w5 HWw5 H;simp only[ssA,szA] at H)|(refine xSR H 45 5 rfl (cellsE x) (HZXa.out) (HLE.out) (HOE.out _) ?_;clear H;intro w5 HWw5 H;simp only[ssA,szA] at H)));have hc6:=run_load_cell H.out 0 rfl _ _ H6.out));go_roundw
    case rel=>exact⟨j+1,by omega,by go_num,by rw[HMT.out];go_num,kp H.out.tl⟩
    case measure=>simp[intOf];omega
   ·have hb2:(x.state==2)=false:=by simp[h2]
    rw[hb2] at HMT;clear h2;go_wp2_with (first|((with_reducible refine isLd 45 ?_);(refine wpList_load_midG (by kernel_rfl) 45 _ rfl (b) (off+j*11) rfl (cellsE x) _ (HR3.out) underlying45 rfl (HZX.out) ?_);simp only[pA])|((with_reducible refine isAl 4 45 ?_);(with_reducible refine xAL H 45 (cellsE en0) ?_);clear H;intro g4 w4 HGg4 HEg4 H;simp only[pA])|(((with_reducible refine isSt 45 ?_);(first|(refine xSR H 45 0 rfl (cellsE x) (HZXa.out) (HLE.out) (HOE.out _) ?_;clear H;intro w5 HWw5 H;simp only[szA] at H)|(refine xSR H 45 1 rfl (cellsE x) (HZXa.out) (HLE.out) (HOE.out _) ?_;clear H;intro w5 HWw5 H;simp only[ssA,szA] at H)|(refine xSR H 45 2 rfl (cellsE x) (HZXa.out) (HLE.out) (HOE.out _) ?_;clear H;intro w5 HWw5 H;simp only[ssA,szA] at H)|(refine xSR H 45 3 rfl (cellsE x) (HZXa.out) (HLE.out) (HOE.out _) ?_;clear H;intro w5 HWw5 H;simp only[ssA,szA] at H)|(refine xSR H 45 4 rfl (cellsE x) (HZXa.out) (HLE.out) (HOE.out _) ?_;clear H;intro w5 HWw5 H;simp only[ssA,szA] at H)|(refine xSR H 45 5 rfl (cellsE x) (HZXa.out) (HLE.out) (HOE.out _) ?_;clear H;intro w5 HWw5 H;simp only[ssA,szA] at H)));have hc6:=run_load_cell H.out 0 rfl _ _ H6.out));go_roundw
    case rel=>exact⟨j+1,by omega,by go_num,by rw[HMT.out];rfl,kp H.out.tl⟩
    case measure=>simp[intOf];omega
  ·obtain rfl:j=n:=by omega
   go_wp2_with fail;go_ret;exact⟨congrArg (fun z=>Ending.returned (.int .i64 (membersF z))) (List.take_of_length_le (by rw[HNL.out];exact Nat.le_refl _)),H.out.1⟩
set_option maxHeartbeats 1600000 in
theorem holder_any (v:Value) (l:List En) (hl:∀ x∈l,x.addr.length=6) (hn:l.length≤100000) (aid:Int) (w:World) (hs:SlT 11 cellsE w v l) :
  Calls prog 63 #[v,.int .i64 aid] w fun e w'=>e=.returned (.int .i64 (holderF l aid))∧Ext w w':=by
 obtain⟨ad,n,c,rfl,hnl,hcap,hat⟩:=hs;have HAT:=kp hat;have HNL:=kp hnl;have HLK:=kp hl;have H:=kp (Loc.start w);have hn2:n≤100000:=by omega
 clear hat hl hnl hcap hn;go_enter func63,ntmps63;go_wp2_with fail;go_loopw [5] (fun i wr=>∃ j:Nat,j≤n∧i=.int .i64 j∧Kp (∀ k,k<j→isHeld aid (enAt l k)=false)∧Kp (Loc w wr [])) (fun i _=>n-(intOf i).toNat)
 case atStart=>exact⟨0,by omega,rfl,kp (fun k hk=>by omega),H⟩
 case round =>
  obtain⟨j,hj,rfl,HT,H⟩:=hrel;by_cases hlt:j<n
  ·obtain⟨x,hx⟩:∃ x,l[j]?=some x:=⟨l[j]'(by rw[←HNL.out];omega),by simp⟩
   obtain⟨b,off,rfl,hb,hr⟩:=HAT.out j x hx;have HB:=kp hb;have HR:=kp hr;have HX:=kp hx;have HXK:=kp (HLK.out x (List.mem_of_getElem? hx));clear hb hr hx;have HR3:=rangeAt_ext HR.out HB.out H.out.1;have hc6:=HR3 6 _ (cE6 HXK.out);have hc7:=HR3 7 _ (cE7 HXK.out);clear HR3;cases hh:isHeld aid x with
   |true =>
    have HO:=kp ((holder_eq_iff l aid j (by rw[←HNL.out];omega) (by rw[enAt_some HX.out];exact hh)).2 HT.out);have hh2:=hh;simp only[isHeld,Bool.and_eq_true,beq_iff_eq] at hh2;have hb1:(x.state==2)=true:=by simp[hh2.1]
    have hb2:(x.aid==aid)=true:=by simp[hh2.2]
    clear hh hh2;go_wp2_with fail;go_ret;exact⟨congrArg (fun z=>Ending.returned (.int .i64 z)) HO.out.symm,H.out.1⟩
   |false =>
    have HO:=kp (holder_take l aid j x HX.out HT.out hh);simp only[isHeld] at hh;by_cases c2:x.state=2
    ·have hb1:(x.state==2)=true:=by simp[c2]
     have hb2:(x.aid==aid)=false:=by rw[hb1] at hh;simpa using hh
     clear hh c2;go_wp2_with fail;go_roundw
     case rel=>exact⟨j+1,by omega,by go_num,HO,H⟩
     case measure=>simp[intOf];omega
    ·have hb1:(x.state==2)=false:=by simp[c2]
     clear hh c2;go_wp2_with fail;go_roundw
     case rel=>exact⟨j+1,by omega,by go_num,HO,H⟩
     case measure=>simp[intOf];omega
  ·obtain rfl:j=n:=by omega
   have HO:=kp (holder_none l aid (fun k hk=>HT.out k (by rw[HNL.out];exact hk)));go_wp2_with fail;go_ret;exact⟨congrArg (fun z=>Ending.returned (.int .i64 z)) HO.out.symm,H.out.1⟩
end Go.Proofs.YtfecopfofkdnpaaGreat
