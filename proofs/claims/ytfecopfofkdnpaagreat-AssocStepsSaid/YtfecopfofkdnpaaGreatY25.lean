/- Texts of this proof, put together: Fre, Pl30f, Fs4. -/
import Derived.Test.YtfecopfofkdnpaaGreatY14
import Derived.Test.YtfecopfofkdnpaaGreatY24
import Derived.Test.YtfecopfofkdnpaaGreatY8
import Derived.WalkMore
import Derived.Test.YtfecopfofkdnpaaGreatY22
import Derived.Test.YtfecopfofkdnpaaGreatY11
import Derived.Test.YtfecopfofkdnpaaGreatY1
namespace Go.Proofs.YtfecopfofkdnpaaGreat
open Go.RowKit Tryz
def FreO (l:List En) (w:World) (bs:List Bk) (vs:Tmp→Value) (w':World):Prop:=∃ k:Nat,1≤k∧k≤l.length+1∧vs 3=.int .i64 k∧Kp (∀ j,1≤j→j<k→heldBy l j=true)∧Kp (Loc w w' bs)
def FreI (l:List En) (k n:Nat) (w:World) (bs:List Bk) (vs:Tmp→Value) (w':World):Prop:=∃ j:Nat,j≤n∧vs 11=.int .i64 j∧Kp (∀ q x,q<j→l[q]?=some x→x.aid≠(k:Int))∧Kp (Loc w w' bs)
theorem held_at {l:List En} {k j:Nat} {x:En} (h:l[j]?=some x) (e:x.aid=(k:Int)):heldBy l k=true:=List.any_eq_true.2 ⟨x,List.mem_of_getElem? h,by simp[e]⟩
theorem held_no {l:List En} {k n:Nat} (hn:n=l.length) (h:∀ q x,q<n→l[q]?=some x→x.aid≠(k:Int)):heldBy l k=false:=by
 cases hb:heldBy l k with
 |false=>rfl
 |true =>
  exfalso
  obtain⟨x,hx,he⟩:=List.any_eq_true.1 hb;obtain⟨q,hq⟩:=List.getElem?_of_mem hx;exact h q x (by rw[hn];exact (List.getElem?_eq_some_iff.1 hq).1) hq (by simpa using he)
set_option maxRecDepth 4000 in
set_option maxHeartbeats 1600000 in
theorem free_any (a:As) (ha:a.own.length=6) (v:Value) (l:List En) (hl:∀ x∈l,x.addr.length=6) (hn:l.length≤1000) (w:World) (hs:SlT 11 cellsE w v l) :
  Calls prog 81 #[.agg (cellsA a v).toArray] w fun e w'=>e=.returned (.int .i64 (freeF l))∧Ext w w':=by
 obtain⟨ad,n,c,rfl,hnl,hcap,hat⟩:=hs;have HAT:=kp hat;have HNL:=kp hnl;have HLK:=kp hl;have H:=kp (Loc.start w);have hn2:n≤100000:=by omega
 have HC9:=kp (cA9 (a:=a) (.slice ad n c) ha);have HZE0:=kp (show (prog.info? 45).map (·.size)=some (cellsE en0).length by kernel_rfl);have HOE:=kp one_cellsE;have hn3:n≤1000:=by omega
 clear hat hl hnl hcap hn ha;go_enter func81,ntmps81;go_wp2_with (first|(((with_reducible refine isBx 1 26 ?_);(refine xBX H 26 (cellsA a (.slice ad n c)) ?_);clear H;intro g1 w1 HGg1 HEg1 H;simp only[pA]);have hc9:=run_load_cell H.out 0 rfl _ _ HC9.out));go_step3
 go_wp2_with fail;refine wp_label ?_;go_wp2_with fail;clear hc9;refine wp_loopC (2::3::5::6::7::8::9::10::11::12::13::14::15::16::17::18::19::20::[]) (FreO l w [(g1,26,cellsA a (.slice ad n c))]) (fun vs _=>l.length+2-(intOf (vs 3)).toNat) (by kernel_rfl) ⟨1,by omega,by omega,rfl,kp (fun j h1 h2=>by omega),H⟩ ?_;clear H;rintro vs wr ⟨k,hk1,hk2,q3,HK,H⟩;simp only[putMany,sbA,szA,ssA];rw[q3];clear q3;have hc9:=run_load_cell H.out 0 rfl _ _ HC9.out;go_wp2_with fail;clear hc9;refine wp_loopC (5::12::13::14::15::16::17::18::19::11::[]) (FreI l k n w [(g1,26,cellsA a (.slice ad n c))]) (fun vs _=>n-(intOf (vs 11)).toNat) (by kernel_rfl) ⟨0,by omega,rfl,kp (fun q x h=>by omega),H⟩ ?_;clear H;rintro vs2 wr2 ⟨j,hj,q11,HJ,H⟩;simp only[putMany,sbA,szA,ssA];rw[q11];clear q11;by_cases hlt:j<n
 ·obtain⟨x,hx⟩:∃ x,l[j]?=some x:=⟨l[j]'(by rw[←HNL.out];omega),by simp⟩
  obtain⟨b,off,rfl,hb,hr⟩:=HAT.out j x hx;have HB:=kp hb;have HR:=kp hr;have HX:=kp hx;have HXK:=kp (HLK.out x (List.mem_of_getElem? hx));clear hb hr hx;have HR3:=kp (rangeAt_ext HR.out HB.out H.out.1);have HZX:=kp (sizeE HXK.out);have HZXa:=kp (sizeEa HXK.out);have HLE:=kp (show (cellsE en0).length=(cellsE x).length by rw[cellsE_len HXK.out];rfl);have H7:=kp (cE7 HXK.out);have hkb:k≤100000:=by have:=HNL.out;omega
  by_cases he:x.aid=(k:Int)
  ·have HHB:=kp (held_at HX.out he);have he2:(x.aid==(k:Int))=true:=by simp[he]
   have HKL:=kp (show k≤l.length from held_count k l fun q h1 h2=>by
    by_cases c:q=k
    ·rw[c];exact HHB.out
    ·exact HK.out q h1 (by omega))
   go_wp2_with (first|((with_reducible refine isLd 45 ?_);(refine wpList_load_midG (by kernel_rfl) 45 _ rfl (b) (off+j*11) rfl (cellsE x) _ (HR3.out) underlying45 rfl (HZX.out) ?_);simp only[pA])|((with_reducible refine isAl 5 45 ?_);(with_reducible refine xAL H 45 (cellsE en0) ?_);clear H;intro g4 w4 HGg4 HEg4 H;simp only[pA])|(((with_reducible refine isSt 45 ?_);(first|(refine xSR H 45 0 rfl (cellsE x) (HZXa.out) (HLE.out) (HOE.out _) ?_;clear H;intro w5 HWw5 H;simp only[szA] at H)|(refine xSR H 45 1 rfl (cellsE x) (HZXa.out) (HLE.out) (HOE.out _) ?_;clear H;intro w5 HWw5 H;simp only[ssA,szA] at H)|(refine xSR H 45 2 rfl (cellsE x) (HZXa.out) (HLE.out) (HOE.out _) ?_;clear H;intro w5 HWw5 H;simp only[ssA,szA] at H)|(refine xSR H 45 3 rfl (cellsE x) (HZXa.out) (HLE.out) (HOE.out _) ?_;clear H;intro w5 HWw5 H;simp only[ssA,szA] at H)|(refine xSR H 45 4 rfl (cellsE x) (HZXa.out) (HLE.out) (HOE.out _) ?_;clear H;intro w5 HWw5 H;simp only[ssA,szA] at H)|(refine xSR H 45 5 rfl (cellsE x) (HZXa.out) (HLE.out) (HOE.out _) ?_;clear H;intro w5 HWw5 H;simp only[ssA,szA] at H)));have hc7:=run_load_cell H.out 0 rfl _ _ H7.out));exact LoopP.of rfl (by kernel_rfl) ⟨k+1,by omega,by have:=HKL.out;omega,by simp,kp (fun q h1 h2=>if c:q=k then c▸HHB.out else HK.out q h1 (by omega)),kp H.out.tl⟩ (by simp[intOf];omega)
  ·have he2:(x.aid==(k:Int))=false:=by simp[he]
   go_wp2_with (first|((with_reducible refine isLd 45 ?_);(refine wpList_load_midG (by kernel_rfl) 45 _ rfl (b) (off+j*11) rfl (cellsE x) _ (HR3.out) underlying45 rfl (HZX.out) ?_);simp only[pA])|((with_reducible refine isAl 5 45 ?_);(with_reducible refine xAL H 45 (cellsE en0) ?_);clear H;intro g4 w4 HGg4 HEg4 H;simp only[pA])|(((with_reducible refine isSt 45 ?_);(first|(refine xSR H 45 0 rfl (cellsE x) (HZXa.out) (HLE.out) (HOE.out _) ?_;clear H;intro w5 HWw5 H;simp only[szA] at H)|(refine xSR H 45 1 rfl (cellsE x) (HZXa.out) (HLE.out) (HOE.out _) ?_;clear H;intro w5 HWw5 H;simp only[ssA,szA] at H)|(refine xSR H 45 2 rfl (cellsE x) (HZXa.out) (HLE.out) (HOE.out _) ?_;clear H;intro w5 HWw5 H;simp only[ssA,szA] at H)|(refine xSR H 45 3 rfl (cellsE x) (HZXa.out) (HLE.out) (HOE.out _) ?_;clear H;intro w5 HWw5 H;simp only[ssA,szA] at H)|(refine xSR H 45 4 rfl (cellsE x) (HZXa.out) (HLE.out) (HOE.out _) ?_;clear H;intro w5 HWw5 H;simp only[ssA,szA] at H)|(refine xSR H 45 5 rfl (cellsE x) (HZXa.out) (HLE.out) (HOE.out _) ?_;clear H;intro w5 HWw5 H;simp only[ssA,szA] at H)));have hc7:=run_load_cell H.out 0 rfl _ _ H7.out));exact LoopP.of rfl (by kernel_rfl) ⟨j+1,by omega,by simp,kp (fun q y h1 h2=>if c:q=j then (by rw[c,HX.out] at h2;cases h2;exact he) else HJ.out q y (by omega) h2),kp H.out.tl⟩ (by simp[intOf];omega)
 ·obtain rfl:j=n:=by omega
  go_wp2_with fail;rw[Exit.noGoto_ret];go_ret;exact⟨congrArg (fun z=>Ending.returned (.int .i64 z)) (free_eq hk1 (held_no HNL.out HJ.out) HK.out).symm,H.out.1⟩
theorem ok_caps {a:As} {l:List En} (h:OkL a l):0≤a.caps∧a.caps≤65535:=by
 have:=h.head;simp only[headF,inF,Bool.and_eq_true,decide_eq_true_eq] at this;exact this.1.1.1.2
theorem findI_look (l:List En) (t:List (BitVec 8)):(lookF l t=none∧findI l t=-1)∨∃ i e,lookF l t=some e∧findI l t=(i:Nat)∧i<l.length∧enAt l i=e:=by
 unfold findI lookF;cases h:l.findIdx? (hasAddr t) with
 |none =>
  rw[List.findIdx?_eq_none_iff] at h;exact .inl ⟨List.find?_eq_none.2 fun e he=>by rw[h e he];simp,rfl⟩
 |some i =>
  rw[List.findIdx?_eq_some_iff_getElem] at h;obtain⟨hi,h1,h2⟩:=h;refine .inr ⟨i,l[i],List.find?_eq_some_iff_getElem.2 ⟨h1,i,hi,rfl,fun j hj=>?_⟩,rfl,hi,enAt_get hi⟩;have:=h2 j hj
  simpa using this
def subsA (s:Int):Prop:=s=1∨s=3∨s=10∨s=11∨s=12
def AnsP (a:As) (t:List (BitVec 8)) (o:Fm):Prop:=∃ sub,subsA sub∧o.1=msgH a t sub∧o.2.length≤6
theorem bye_ans (a:As) (t:List (BitVec 8)) (sub r:Int) (h:subsA sub):AnsP a t (byeF a t sub r):=⟨sub,h,rfl,by simp[byeF,two16]⟩
theorem six_le (x y z:Int):(two16 x++two16 y++two16 z).length≤6:=Nat.le_of_eq rfl
theorem handle_ans (a:As) (l:List En) (hd:Hd) (b:List (BitVec 8)) (now:Int):(handleF dA dJ dL a l hd b now).2.1.length≤1∧∀ o∈(handleF dA dJ dL a l hd b now).2.1,AnsP a hd.a2 o:=by
 have one:∀ o:Fm,AnsP a hd.a2 o→[o].length≤1∧∀ x∈[o],AnsP a hd.a2 x:=fun o ho=>⟨Nat.le_refl _,fun x hx=>by rw[List.mem_singleton.1 hx];exact ho⟩
 have nil:([]:List Fm).length≤1∧∀ x∈([]:List Fm),AnsP a hd.a2 x:=⟨Nat.zero_le _,fun x hx=>by cases hx⟩
 unfold handleF
 split
 ·exact nil
 ·split
  ·exact nil
  ·split
   ·exact nil
   ·split
    ·unfold manageF
     split
     ·unfold authF
      split
      ·exact nil
      ·exact one _ ⟨11,by simp[subsA],rfl,six_le _ _ _⟩
     ·split
      ·rename_i q
       have hs:subsA (hd.sub+1):=by
        unfold subsA;rcases q with q|q <;> omega
       unfold joinF
       split
       ·exact nil
       ·split
        ·exact one _ (bye_ans _ _ _ _ (by simp[subsA]))
        ·split
         ·exact one _ ⟨_,hs,rfl,six_le _ _ _⟩
         ·exact one _ ⟨_,hs,rfl,six_le _ _ _⟩
      ·split
       ·unfold leaveF
        split
        ·split
         ·exact nil
         ·split <;> exact nil
        ·exact nil
       ·exact nil
    ·unfold dataF
     split
     ·exact one _ (bye_ans _ _ _ _ (by simp[subsA]))
     ·split
      ·exact nil
      ·exact one _ (bye_ans _ _ _ _ (by simp[subsA]))
theorem handle_zero (a:As) (l:List En) (hd:Hd) (b:List (BitVec 8)) (now:Int) (he:(handleF dA dJ dL a l hd b now).2.2≠0):(handleF dA dJ dL a l hd b now).1=[]∧(handleF dA dJ dL a l hd b now).2.1=[]:=by
 unfold handleF at he ⊢
 split
 ·exact⟨rfl,rfl⟩
 ·rename_i c1
  rw[if_neg c1] at he
  split
  ·exact⟨rfl,rfl⟩
  ·rename_i c2
   rw[if_neg c2] at he
   split
   ·exact absurd (by rw[if_pos ‹_›]) he
   ·rename_i c3
    rw[if_neg c3] at he
    split
    ·rename_i c4
     rw[if_pos c4] at he;unfold manageF at he ⊢
     split
     ·rename_i q
      rw[if_pos q] at he;unfold authF at he ⊢
      split
      ·exact⟨rfl,rfl⟩
      ·rename_i z
       rw[z] at he;exact absurd rfl he
     ·rename_i q
      rw[if_neg q] at he
      split
      ·rename_i q2
       rw[if_pos q2] at he;unfold joinF at he ⊢
       split
       ·exact⟨rfl,rfl⟩
       ·rename_i z
        rw[z] at he;dsimp only at he
        exfalso;apply he
        split
        ·rfl
        ·split <;> rfl
      ·rename_i q2
       rw[if_neg q2] at he
       split
       ·rename_i q3
        rw[if_pos q3] at he;unfold leaveF at he ⊢
        split
        ·rename_i z
         rw[if_pos z] at he
         exfalso;apply he
         split
         ·rfl
         ·split <;> rfl
        ·exact⟨rfl,rfl⟩
       ·rename_i q3
        rw[if_neg q3] at he;exact absurd rfl he
    ·rename_i c4
     rw[if_neg c4] at he
     exfalso;apply he
     unfold dataF
     split
     ·rfl
     ·split <;> rfl
section
variable {P:Program}
theorem run_stoR {o:Oper} {a:Act} {w:World} {g i T:Nat} {old new:List Value} {v:Value} (ty:TypeId) (x y:Operand) (ho:o.op=.store ty x y) (hx:a.eval x=.pointer (some ⟨g,i,none⟩)) (hy:a.eval y=v) (hL:Lc w g T old)
  (hz:(P.info? ty).map (·.size)=some 1) (hf:i<old.length) (hn:old.set i v=new) (h1:v.oneCell'=true):(execOp a.eval o).run P w=.ok .skip (w.setRow g new.toArray):=by
 have hs:=run_storeCells_at (P:=P) g i T [v] 0 old.toArray w hL (by simp;omega) (fun u hu=>by simp at hu;subst hu;exact h1)
 have hnew:(old.toArray.toList.take (i+0)++[v]++old.toArray.toList.drop (i+0+[v].length)).toArray=new.toArray:=by
  rw[←hn];simp[List.set_eq_take_append_cons_drop,hf]
 rw[hnew] at hs
 have hv:(storeVar ty ⟨g,i,none⟩ v).run P w=.ok () (w.setRow g new.toArray):=by
  cases hq:P.info? ty with
  |none=>simp[hq] at hz
  |some k =>
   have hz:k.size=1:=by simpa[hq] using hz
   have hcl:v.cells=#[v]:=by cases v <;> first|rfl|simp[Value.oneCell'] at h1
   simp[storeVar,sizeOf,typeInfo,hq,hz,hcl] at hs ⊢
   simpa using hs
 unfold execOp;simp only[ho,hx,hy,Instr.storeAt,Instr.sureAddr,Sem.run_bind,Sem.run_pure,Result.andThen_ok,hv]
end
theorem cs_state {e:En} (h:e.addr.length=6) (x:Int):cellsE { e with state:=x }=(cellsE e).set 6 (.int .u8 x):=by
 obtain⟨ad,st,ai,ca,li,se⟩:=e;obtain⟨_,_,_,_,_,_,rfl⟩:=six h;rfl
theorem cs_aid {e:En} (h:e.addr.length=6) (x:Int):cellsE { e with aid:=x }=(cellsE e).set 7 (.int .i64 x):=by
 obtain⟨ad,st,ai,ca,li,se⟩:=e;obtain⟨_,_,_,_,_,_,rfl⟩:=six h;rfl
theorem cs_caps {e:En} (h:e.addr.length=6) (x:Int):cellsE { e with caps:=x }=(cellsE e).set 8 (.int .i64 x):=by
 obtain⟨ad,st,ai,ca,li,se⟩:=e;obtain⟨_,_,_,_,_,_,rfl⟩:=six h;rfl
theorem cs_listen {e:En} (h:e.addr.length=6) (x:Int):cellsE { e with listen:=x }=(cellsE e).set 9 (.int .i64 x):=by
 obtain⟨ad,st,ai,ca,li,se⟩:=e;obtain⟨_,_,_,_,_,_,rfl⟩:=six h;rfl
theorem cs_seen {e:En} (h:e.addr.length=6) (x:Int):cellsE { e with seen:=x }=(cellsE e).set 10 (.int .i64 x):=by
 obtain⟨ad,st,ai,ca,li,se⟩:=e;obtain⟨_,_,_,_,_,_,rfl⟩:=six h;rfl
theorem L6.set {l:List En} (h:L6 l) {i:Nat} {s:En} (hs:s.addr.length=6):L6 (l.set i s):=fun x hx=>by
 rcases List.mem_or_eq_of_mem_set hx with h1|rfl
 ·exact h x h1
 ·exact hs
theorem set_at {l:List En} {i:Nat} {e:En} (h:l[i]?=some e) (s:En):(l.set i s)[i]?=some s:=by
 rw[List.getElem?_set,if_pos rfl,if_pos (List.getElem?_eq_some_iff.1 h).1]
theorem flat_join {l:List En} (hl:L6 l) {i:Nat} {e:En} (h:l[i]?=some e) (zs:List Value) (ca li:Int):∃ c2 c3 c4:List Value,(l.flatMap cellsE++zs).set (i*11+6) (.int .u8 2)=c2∧c2.set (i*11+8) (.int .i64 ca)=c3∧c3.set (i*11+9) (.int .i64 li)=c4∧c4=(l.set i ⟨e.addr,2,e.aid,ca,li,e.seen⟩).flatMap cellsE++zs∧c4[i*11+7]?=some (.int .i64 e.aid)∧i*11+6<(l.flatMap cellsE++zs).length∧i*11+8<c2.length∧i*11+9<c3.length:=by
 have he:=hl e (List.mem_of_getElem? h);have hi:=(List.getElem?_eq_some_iff.1 h).1;have hL:i*11+11≤(l.flatMap cellsE++zs).length:=by rw[List.length_append,flatE_len hl];omega
 have q1:=flat_setc hl h zs 6 (by omega) { e with state:=2 } he _ (cs_state he 2);have q2:=flat_setc (hl.set (i:=i) (s:={ e with state:=2 }) he) (set_at h _) zs 8 (by omega) { e with state:=2,caps:=ca } he _ (cs_caps (e:={ e with state:=2 }) he ca);have q3:=flat_setc (hl.set (i:=i) (s:={ e with state:=2,caps:=ca }) he) (set_at h _) zs 9 (by omega) { e with state:=2,caps:=ca,listen:=li } he _ (cs_listen (e:={ e with state:=2,caps:=ca }) he li);rw[List.set_set] at q2 q3;refine⟨_,_,_,rfl,rfl,rfl,?_,?_,by omega,by rw[List.length_set];omega,by rw[List.length_set,List.length_set];omega⟩
 ·rw[q1,q2,q3]
 ·rw[q1,q2,q3];exact (flat_cell (hl.set (i:=i) (s:={ e with state:=2,caps:=ca,listen:=li }) he) (set_at h _) zs 7 (by omega)).trans (cE (e:={ e with state:=2,caps:=ca,listen:=li }) he).2.1
end Go.Proofs.YtfecopfofkdnpaaGreat
