/- Texts of this proof, put together: Pl30, Pl30b, Pl30c, Wr. -/
import Derived.Test.YtfecopfofkdnpaaGreatY7
import Derived.Test.YtfecopfofkdnpaaGreatY5
import Derived.Test.YtfecopfofkdnpaaGreatY6
import Derived.Test.YtfecopfofkdnpaaGreatY1
namespace Go.Proofs.YtfecopfofkdnpaaGreat
open Go.RowKit Tryz
def subs5 (k:Int):List Int:=if k=0 then [0,1,2,3,4,5,8,10,11,12,13] else if k=1 then [8,9,10,11,12,13] else if k=2 then [0,4,8,12] else []
def known5F (k s:Int):Bool:=decide (s∈subs5 k)
def used1 (h:Hd):Hd:=⟨h.kind,h.sub,(h.kind==2)&&h.toDs,(h.kind==2)&&h.fromDs,false,false,h.sleep,h.mdata,false,h.dur,h.a1,zero6,zero6,zero6,0,0,0,0,false,false⟩
def used2 (h:Hd):Hd:={ used1 h with a2:=if 1<addrsF (used1 h) then h.a2 else zero6,a3:=if 2<addrsF (used1 h) then h.a3 else zero6,a4:=if 3<addrsF (used1 h) then h.a4 else zero6 }
def used3 (h:Hd):Hd:=if h.kind=1 then used2 h else { used2 h with more:=h.more,retry:=h.retry,prot:=h.prot,seq:=h.seq,frag:=h.frag }
def usedF (h:Hd):Hd:=if qosF h then { used3 h with tid:=h.tid,ack:=h.ack,amsdu:=h.amsdu,eosp:=h.eosp } else used3 h
def groups5 (h:Hd):Bool:=!(groupF h.a2 || (groupF h.a1&&(h.more || decide (0<h.frag))))
def odd5 (h:Hd):Bool:=!null5F h || (!h.more&&!h.prot&&!h.amsdu&&h.frag==0)
def valid5F (h:Hd):Bool:=known5F h.kind h.sub&&decide (h=usedF h)&&rangesF h&&groups5 h&&odd5 h
theorem kn0:∀ s:_root_.Fin 256,(knownF 0 (s.val:Int)).2=known5F 0 (s.val:Int):=by decide +kernel
theorem kn1:∀ s:_root_.Fin 256,(knownF 1 (s.val:Int)).2=known5F 1 (s.val:Int):=by decide +kernel
theorem kn2:∀ s:_root_.Fin 256,(knownF 2 (s.val:Int)).2=known5F 2 (s.val:Int):=by decide +kernel
theorem known_eq (k s:Int) (h0:0≤s) (h1:s<256):(knownF k s).2=known5F k s:=by
 have hs:((s.toNat:Nat):Int)=s:=Int.toNat_of_nonneg h0;by_cases hk0:k=0
 ·have:=kn0 ⟨s.toNat,by omega⟩;rw[hk0,←hs];exact this
 by_cases hk1:k=1
 ·have:=kn1 ⟨s.toNat,by omega⟩;rw[hk1,←hs];exact this
 by_cases hk2:k=2
 ·have:=kn2 ⟨s.toNat,by omega⟩;rw[hk2,←hs];exact this
 ·simp[knownF,known5F,subs5,hk0,hk1,hk2]
theorem valid_k0 (h:Hd) (hk:h.kind=0):(h=usedF h)↔(restF h=zeroHd):=by
 obtain⟨k,s,b1,b2,b3,b4,b5,b6,b7,du,a1,a2,a3,a4,sq,fr,ti,ac,am,eo⟩:=h;dsimp only at hk;subst hk;simp[usedF,used3,used2,used1,qosF,addrsF,restF,rest3,rest2,rest1,zA,addrsN,placesN,bothF,knownF,zeroHd]
theorem valid_k1 (h:Hd) (hk:h.kind=1):(h=usedF h)↔(restF h=zeroHd):=by
 obtain⟨k,s,b1,b2,b3,b4,b5,b6,b7,du,a1,a2,a3,a4,sq,fr,ti,ac,am,eo⟩:=h;dsimp only at hk;subst hk;by_cases hs:s=12∨s=13
 ·simp[usedF,used3,used2,used1,qosF,addrsF,restF,rest3,rest2,rest1,zA,addrsN,placesN,bothF,knownF,zeroHd,hs]
 ·simp[usedF,used3,used2,used1,qosF,addrsF,restF,rest3,rest2,rest1,zA,addrsN,placesN,bothF,knownF,zeroHd,hs]
theorem valid_k2 (h:Hd) (hk:h.kind=2) (hs:h.sub∈([0,4,8,12]:List Int)):(h=usedF h)↔(restF h=zeroHd):=by
 obtain⟨k,s,b1,b2,b3,b4,b5,b6,b7,du,a1,a2,a3,a4,sq,fr,ti,ac,am,eo⟩:=h;dsimp only at hk hs;subst hk;have e0:bits .and .u8 0 8=0:=by decide +kernel
 have e4:bits .and .u8 4 8=0:=by decide +kernel
 have e8:bits .and .u8 8 8=8:=by decide +kernel
 have e12:bits .and .u8 12 8=8:=by decide +kernel
 simp only[List.mem_cons,List.not_mem_nil,or_false] at hs
 rcases hs with rfl|rfl|rfl|rfl <;> cases b1 <;> cases b2 <;>
  simp[usedF,used3,used2,used1,qosF,addrsF,restF,rest3,rest2,rest1,zA,addrsN,placesN,bothF,knownF,zeroHd,e0,e4,e8,e12]
theorem null_eq (h:Hd) (hs:h.kind=2→h.sub∈([0,4,8,12]:List Int)):nullF h=null5F h:=by
 unfold nullF null5F;by_cases hk:h.kind=2
 ·have hs:=hs hk;simp only[List.mem_cons,List.not_mem_nil,or_false] at hs;rcases hs with hs|hs|hs|hs <;> rw[hs,hk] <;> decide +kernel
 ·have:(h.kind==2)=false:=beq_eq_false_iff_ne.2 hk;rw[this];rfl
theorem valid5_eq (h:Hd) (ok:h.Ok):valid5F h=validH h:=by
 unfold valid5F validH;rw[known_eq h.kind h.sub ok.s0 ok.s1];by_cases hk:known5F h.kind h.sub=true
 ·by_cases hr:rangesF h=true
  ·have hm:h.sub∈subs5 h.kind:=by simpa[known5F] using hk
   have hkk:h.kind=0∨h.kind=1∨h.kind=2:=by
    unfold subs5 at hm
    split at hm
    ·exact .inl ‹_›
    ·split at hm
     ·exact .inr (.inl ‹_›)
     ·split at hm
      ·exact .inr (.inr ‹_›)
      ·simp at hm
   have h2:h.kind=2→h.sub∈([0,4,8,12]:List Int):=fun e=>by simpa[subs5,e] using hm
   have hu:(h=usedF h)↔(restF h=zeroHd):=by
    rcases hkk with e|e|e
    ·exact valid_k0 h e
    ·exact valid_k1 h e
    ·exact valid_k2 h e (h2 e)
   have hn:=null_eq h h2
   have hf:0≤h.frag:=by
    simp only[rangesF,inF,Bool.and_eq_true,decide_eq_true_eq] at hr;omega
   rw[hk,hr,decide_eq_decide.2 hu]
   have hg:groups5 h=groupsF h:=by
    unfold groups5 groupsF wholeF
    have:decide (0<h.frag)=!(h.frag==0):=by
     refine Bool.eq_iff_iff.2 ?_;simp;omega
    rw[this];cases groupF h.a1 <;> cases groupF h.a2 <;> cases h.more <;> cases (h.frag==0) <;> rfl
   have ho:odd5 h=!oddF h:=by
    unfold odd5 oddF wholeF;rw[hn];cases null5F h <;> cases h.more <;> cases h.prot <;> cases h.amsdu <;> cases (h.frag==0) <;> rfl
   rw[hg,ho]
  ·have hr2:rangesF h=false:=by simpa using hr
   simp[hr2]
 ·have hk2:known5F h.kind h.sub=false:=by simpa using hk
  simp[hk2]
def numF (l:List (BitVec 8)):Nat:=l.foldl (fun n x=>n*256+x.toNat) 0
theorem num_snoc (l:List (BitVec 8)) (x:BitVec 8):numF (l++[x])=numF l*256+x.toNat:=by simp[numF,List.foldl_append]
theorem num_from (m:List (BitVec 8)):∀ n,m.foldl (fun n x=>n*256+x.toNat) n=n*256 ^ m.length+numF m:=by
 induction m with
 |nil=>intro n;simp[numF]
 |cons x m ih =>
  intro n;have h1:=ih (n*256+x.toNat);have h2:=ih (0*256+x.toNat);simp only[numF,List.foldl_cons,List.length_cons] at h1 h2 ⊢;rw[h1,h2,Nat.pow_succ];simp only[Nat.zero_mul,Nat.zero_add];rw[Nat.add_mul,Nat.mul_assoc,Nat.mul_comm 256];omega
theorem num_append (l m:List (BitVec 8)):numF (l++m)=numF l*256 ^ m.length+numF m:=by
 show (l++m).foldl _ 0=_
 rw[List.foldl_append];exact num_from m _
theorem num_cons (x:BitVec 8) (m:List (BitVec 8)):numF (x::m)=x.toNat*256 ^ m.length+numF m:=by
 rw[show x::m=[x]++m from rfl,num_append];simp[numF]
theorem num_lt_pow:∀ l:List (BitVec 8),numF l<256 ^ l.length
 |[]=>by simp[numF]
 |x::m=>by
  have:=num_lt_pow m;have hx:x.toNat<256:=x.isLt;rw[num_cons,List.length_cons,Nat.pow_succ];have:(x.toNat+1)*256 ^ m.length≤256*256 ^ m.length:=Nat.mul_le_mul_right _ hx;rw[Nat.add_mul,Nat.one_mul] at this;rw[Nat.mul_comm (256 ^ m.length)];omega
theorem num_inj:∀ {l m:List (BitVec 8)},l.length=m.length→numF l=numF m→l=m
 |[],[],_,_=>rfl
 |[],_::_,h,_=>by simp at h
 |_::_,[],h,_=>by simp at h
 |x::l,y::m,h,e=>by
  have hl:l.length=m.length:=by simpa using h
  rw[num_cons,num_cons,hl] at e;have h1:=num_lt_pow l;have h2:=num_lt_pow m;rw[hl] at h1
  have hxy:x.toNat=y.toNat:=by
   rcases Nat.lt_trichotomy x.toNat y.toNat with c|c|c
   ·exfalso
    have:(x.toNat+1)*256 ^ m.length≤y.toNat*256 ^ m.length:=Nat.mul_le_mul_right _ c;rw[Nat.add_mul,Nat.one_mul] at this;omega
   ·exact c
   ·exfalso
    have:(y.toNat+1)*256 ^ m.length≤x.toNat*256 ^ m.length:=Nat.mul_le_mul_right _ c;rw[Nat.add_mul,Nat.one_mul] at this;omega
  rw[hxy] at e;rw[BitVec.eq_of_toNat_eq hxy,num_inj hl (by omega)]
def cmpF (a b:List (BitVec 8)):Int:=if numF a<numF b then -1 else if numF b<numF a then 1 else 0
theorem cmp_neg {a b:List (BitVec 8)}:cmpF a b<0↔numF a<numF b:=by unfold cmpF;split <;> (try split) <;> omega
theorem cmp_ge {a b:List (BitVec 8)}:0≤cmpF a b↔numF b≤numF a:=by unfold cmpF;split <;> (try split) <;> omega
theorem cmp_zero {a b:List (BitVec 8)}:cmpF a b=0↔numF a=numF b:=by unfold cmpF;split <;> (try split) <;> omega
def en0:En:=⟨zero6,0,0,0,0,0⟩
def enAt (l:List En) (k:Nat):En:=l.getD k en0
theorem enAt_some {l:List En} {k:Nat} {e:En} (h:l[k]?=some e):enAt l k=e:=by simp[enAt,h]
def entF (e:En):Bool:=!groupF e.addr&&inF e.seen 0 1099511627776&&(if e.state=1 then e.aid==0&&e.caps==0&&e.listen==0 else e.state==2&&inF e.aid 1 255&&inF e.caps 0 65535&&inF e.listen 0 65535)
def headF (a:As) (n:Nat):Bool:=!groupF a.own&&inF a.caps 0 65535&&inF a.limit 1 255&&inF a.idle 1 1073741824&&decide (n≤64)
def membersF (l:List En):Nat:=l.countP (fun e=>e.state==2)
def heldF (l:List En):List Bool:=l.foldl (fun h s=>h.set s.aid.toNat (s.state==2)) (List.replicate 256 false)
theorem held_len (l:List En):(heldF l).length=256:=by
 unfold heldF;generalize hb:List.replicate 256 false=b;have:b.length=256:=by rw[←hb];exact List.length_replicate
 clear hb
 induction l generalizing b with
 |nil=>exact this
 |cons s l ih=>exact ih _ (by simpa using this)
theorem held_nil:heldF []=List.replicate 256 false:=by unfold heldF;rfl
theorem held_snoc (l:List En) (e:En):heldF (l++[e])=(heldF l).set e.aid.toNat (e.state==2):=by unfold heldF;rw[List.foldl_append];rfl
def ordAt (l:List En) (k:Nat):Bool:=k==0 || decide (numF (enAt l (k-1)).addr<numF (enAt l k).addr)
def okAt (own:List (BitVec 8)) (l:List En) (k:Nat):Bool:=entF (enAt l k)&&(enAt l k).addr != own&&ordAt l k&&!(heldF (l.take k)).getD (enAt l k).aid.toNat false
def allAt (own:List (BitVec 8)) (l:List En):Bool:=(List.range l.length).all (okAt own l)
def validA (a:As) (l:List En):Bool:=headF a l.length&&allAt a.own l&&decide ((membersF l:Int)≤a.limit)
def isHeld (aid:Int) (e:En):Bool:=e.state==2&&e.aid==aid
def holderF (l:List En) (aid:Int):Int:=match l.findIdx? (isHeld aid) with|some i=>i|none=>-1
def ok30At (own:List (BitVec 8)) (l:List En) (k:Nat):Bool:=entF (enAt l k)&&(enAt l k).addr != own&&ordAt l k&&((enAt l k).state != 2 || holderF l (enAt l k).aid==k)
def all30 (own:List (BitVec 8)) (l:List En):Bool:=(List.range l.length).all (ok30At own l)
def valid30F (a:As) (l:List En):Bool:=headF a l.length&&decide ((membersF l:Int)≤a.limit)&&all30 a.own l
theorem ent_cases {e:En} (h:entF e=true):(e.state=1∧e.aid=0)∨(e.state=2∧1≤e.aid∧e.aid≤255):=by
 unfold entF at h;by_cases h1:e.state=1
 ·simp[h1] at h;exact .inl ⟨h1,h.2.1.1⟩
 ·simp[h1,inF] at h;exact .inr ⟨h.2.1.1.1,h.2.1.1.2.1,h.2.1.1.2.2⟩
theorem held_iff (l:List En) (n:Nat) (hE:∀ k,k<n→entF (enAt l k)=true) (hn:n≤l.length):∀ k,k≤n→∀ x:Nat,x<256→((heldF (l.take k)).getD x false=true↔∃ j,j<k∧(enAt l j).state=2∧(enAt l j).aid=x):=by
 intro k
 induction k with
 |zero =>
  intro _ x hx;rw[List.take_zero,held_nil,List.getD_eq_getElem?_getD,List.getElem?_replicate,if_pos hx];simp
 |succ k ih =>
  intro hk x hx;have ih:=ih (by omega) x hx;have hkl:k<l.length:=by omega
  have he:l[k]?=some (enAt l k):=by simp[enAt,List.getD_eq_getElem?_getD,List.getElem?_eq_getElem hkl]
  rw[List.take_add_one,he,Option.toList_some,held_snoc];have hc:=ent_cases (hE k (by omega));rw[List.getD_eq_getElem?_getD,List.getElem?_set,held_len];by_cases hx2:(enAt l k).aid.toNat=x
  ·rw[if_pos hx2,if_pos (by omega)];simp only[Option.getD_some,beq_iff_eq]
   constructor
   ·intro h2;refine⟨k,by omega,h2,?_⟩;rcases hc with c|c <;> omega
   ·rintro⟨j,hj,h2,h3⟩;rcases hc with c|c
    ·exfalso
     have hcj:=ent_cases (hE j (by omega));rcases hcj with d|d <;> omega
    ·exact c.1
  ·rw[if_neg hx2,←List.getD_eq_getElem?_getD,ih]
   constructor
   ·rintro⟨j,hj,h2⟩;exact⟨j,by omega,h2⟩
   ·rintro⟨j,hj,h2,h3⟩;refine⟨j,?_,h2,h3⟩;rcases Nat.lt_succ_iff_lt_or_eq.1 hj with c|c
    ·exact c
    ·exfalso;subst c;apply hx2;rw[h3];omega
theorem holder_eq_iff (l:List En) (aid:Int) (k:Nat) (hk:k<l.length) (h:isHeld aid (enAt l k)=true):holderF l aid=k↔∀ j,j<k→isHeld aid (enAt l j)=false:=by
 unfold holderF;cases hf:l.findIdx? (isHeld aid) with
 |none =>
  exfalso
  rw[List.findIdx?_eq_none_iff] at hf;have:=hf (enAt l k) (by simp only[enAt,List.getD_eq_getElem?_getD,List.getElem?_eq_getElem hk,Option.getD_some];exact List.getElem_mem hk);rw[this] at h;cases h
 |some i =>
  rw[List.findIdx?_eq_some_iff_getElem] at hf;obtain⟨hi,h1,h2⟩:=hf;have hat:∀ j (hj:j<l.length),enAt l j=l[j]:=fun j hj=>by simp[enAt,List.getD_eq_getElem?_getD,List.getElem?_eq_getElem hj]
  constructor
  ·intro e j hj;have e:(i:Int)=k:=e;have e:i=k:=by omega
   have:=h2 j (by omega);rw[hat j (by omega)];simpa using this
  ·intro hall
   have:i=k:=by
    rcases Nat.lt_trichotomy i k with c|c|c
    ·have:=hall i c;rw[hat i hi,h1] at this;cases this
    ·exact c
    ·have:=h2 k c;rw[←hat k hk,h] at this;simp at this
   simp[this]
theorem all_eq (own:List (BitVec 8)) (l:List En):allAt own l=all30 own l:=by
 refine Bool.eq_iff_iff.2 ?_;unfold allAt all30;rw[List.all_eq_true,List.all_eq_true]
 have key:(∀ k,k<l.length→entF (enAt l k)=true)→∀ k,k<l.length→((!(heldF (l.take k)).getD (enAt l k).aid.toNat false)=true↔((enAt l k).state != 2 || holderF l (enAt l k).aid==(k:Int))=true):=by
  intro hE k hk;have hc:=ent_cases (hE k hk);have h1:=held_iff l l.length hE (Nat.le_refl _) k (by omega) (enAt l k).aid.toNat (by rcases hc with c|c <;> omega)
  have h1':(!(heldF (l.take k)).getD (enAt l k).aid.toNat false)=true↔¬ ∃ j,j<k∧(enAt l j).state=2∧(enAt l j).aid=((enAt l k).aid.toNat:Int):=by
   rw[←h1];simp
  rw[h1'];rcases hc with c|c
  ·constructor
   ·intro _;simp[c.1]
   ·rintro _ ⟨j,hj,h2,h3⟩;have hcj:=ent_cases (hE j (by omega));rcases hcj with d|d <;> omega
  ·have hh:=holder_eq_iff l (enAt l k).aid k hk (by simp[isHeld,c.1]);have e2:((enAt l k).state != 2 || holderF l (enAt l k).aid==(k:Int))=true↔holderF l (enAt l k).aid=(k:Int):=by simp[c.1]
   rw[e2,hh]
   constructor
   ·intro hno j hj;rw[Bool.eq_false_iff];intro ht;simp only[isHeld,Bool.and_eq_true,beq_iff_eq] at ht;exact hno ⟨j,hj,ht.1,by omega⟩
   ·rintro hno ⟨j,hj,h2,h3⟩;have:=hno j hj
    have ht:isHeld (enAt l k).aid (enAt l j)=true:=by
     simp only[isHeld,Bool.and_eq_true,beq_iff_eq];exact⟨h2,by omega⟩
    rw[ht] at this;cases this
 constructor
 ·intro h k hk;have h':∀ k,k<l.length→okAt own l k=true:=fun k hk=>h k (List.mem_range.2 hk)
  have hE:∀ k,k<l.length→entF (enAt l k)=true:=fun k hk=>by
   have:=h' k hk;simp only[okAt,Bool.and_eq_true] at this;exact this.1.1.1
  have hk:=List.mem_range.1 hk;have:=h' k hk;unfold okAt at this;unfold ok30At;rw[Bool.and_eq_true] at this ⊢;exact⟨this.1,(key hE k hk).1 this.2⟩
 ·intro h k hk;have h':∀ k,k<l.length→ok30At own l k=true:=fun k hk=>h k (List.mem_range.2 hk)
  have hE:∀ k,k<l.length→entF (enAt l k)=true:=fun k hk=>by
   have:=h' k hk;simp only[ok30At,Bool.and_eq_true] at this;exact this.1.1.1
  have hk:=List.mem_range.1 hk;have:=h' k hk;unfold ok30At at this;unfold okAt;rw[Bool.and_eq_true] at this ⊢;exact⟨this.1,(key hE k hk).2 this.2⟩
theorem valid30_eq (a:As) (l:List En):valid30F a l=validA a l:=by
 unfold valid30F validA;rw[all_eq];cases headF a l.length <;> cases decide ((membersF l:Int)≤a.limit) <;> cases all30 a.own l <;> rfl
def sortedF (l:List En):Prop:=∀ k,k+1<l.length→numF (enAt l k).addr<numF (enAt l (k+1)).addr
theorem sorted_lt {l:List En} (h:sortedF l):∀ {i j:Nat},i<j→j<l.length→numF (enAt l i).addr<numF (enAt l j).addr:=by
 intro i j hij hj
 induction j with
 |zero=>omega
 |succ j ih =>
  by_cases c:i=j
  ·subst c;exact h i hj
  ·exact Nat.lt_trans (ih (by omega) (by omega)) (h j hj)
theorem sorted_of_all {own:List (BitVec 8)} {l:List En} (h:allAt own l=true):sortedF l:=by
 intro k hk;have:=List.all_eq_true.1 h (k+1) (List.mem_range.2 hk);simp only[okAt,ordAt,Bool.and_eq_true,Bool.or_eq_true,decide_eq_true_eq,beq_iff_eq,Nat.add_sub_cancel] at this;rcases this.1.2 with c|c
 ·omega
 ·exact c
theorem sorted_of_valid {a:As} {l:List En} (h:validA a l=true):sortedF l:=by
 simp only[validA,Bool.and_eq_true] at h;exact sorted_of_all h.1.2
def PlaceP (l:List En) (t:List (BitVec 8)) (i:Nat) (found:Bool):Prop:=
 i≤l.length∧found=(decide (i<l.length)&&decide (numF (enAt l i).addr=numF t))∧(sortedF l→(∀ k,k<i→numF (enAt l k).addr<numF t)∧∀ k,i≤k→k<l.length→numF t≤numF (enAt l k).addr)
def hasAddr (t:List (BitVec 8)) (e:En):Bool:=e.addr==t
def findI (l:List En) (t:List (BitVec 8)):Int:=match l.findIdx? (hasAddr t) with|some i=>i|none=>-1
theorem enAt_get {l:List En} {k:Nat} (h:k<l.length):enAt l k=l[k]:=by simp[enAt,List.getD_eq_getElem?_getD,List.getElem?_eq_getElem h]
theorem findI_none {l:List En} {t:List (BitVec 8)} (h:∀ k,k<l.length→(enAt l k).addr≠t):findI l t=-1:=by
 unfold findI;rw[List.findIdx?_eq_none_iff.2];intro e he;obtain⟨k,hk,rfl⟩:=List.getElem_of_mem he;have:=h k hk;rw[enAt_get hk] at this
 simpa[hasAddr] using this
theorem findI_some {l:List En} {t:List (BitVec 8)} {i:Nat} (hi:i<l.length) (he:(enAt l i).addr=t) (h:∀ k,k<i→(enAt l k).addr≠t):findI l t=i:=by
 unfold findI
 have:l.findIdx? (hasAddr t)=some i:=by
  rw[List.findIdx?_eq_some_iff_getElem];refine⟨hi,?_,fun j hj=>?_⟩
  ·rw[←enAt_get hi];simp[hasAddr,he]
  ·have:=h j hj;rw[enAt_get (by omega)] at this
   simpa[hasAddr] using this
 rw[this]
theorem holder_cases (l:List En) (aid:Int):holderF l aid=-1∨∃ i:Nat,i<l.length∧holderF l aid=i:=by
 unfold holderF;cases h:l.findIdx? (isHeld aid) with
 |none=>exact .inl rfl
 |some i =>
  rw[List.findIdx?_eq_some_iff_getElem] at h;obtain⟨hi,_⟩:=h;exact .inr ⟨i,hi,rfl⟩
abbrev Fm:=Hd × List (BitVec 8)
abbrev Rs:=List En × List Fm × Int
def ltE (t:List (BitVec 8)) (e:En):Bool:=decide (numF e.addr<numF t)
def gtE (t:List (BitVec 8)) (e:En):Bool:=decide (numF t<numF e.addr)
def neE (t:List (BitVec 8)) (e:En):Bool:=decide (numF e.addr≠numF t)
def putF (l:List En) (s:En):List En:=l.filter (ltE s.addr)++s::l.filter (gtE s.addr)
def delF (l:List En) (t:List (BitVec 8)):List En:=l.filter (neE t)
def lookF (l:List En) (t:List (BitVec 8)):Option En:=l.find? (hasAddr t)
theorem filter_cut {α:Type} (p:α→Bool) (l:List α) (i:Nat) (h1:∀ e∈l.take i,p e=true) (h2:∀ e∈l.drop i,p e=false):l.filter p=l.take i:=by
 conv=>lhs;rw[←List.take_append_drop i l]
 rw[List.filter_append,List.filter_eq_self.2 h1,List.filter_eq_nil_iff.2 (fun a ha=>by simp[h2 a ha]),List.append_nil]
theorem filter_cut2 {α:Type} (p:α→Bool) (l:List α) (i:Nat) (h1:∀ e∈l.take i,p e=false) (h2:∀ e∈l.drop i,p e=true):l.filter p=l.drop i:=by
 conv=>lhs;rw[←List.take_append_drop i l]
 rw[List.filter_append,List.filter_eq_self.2 h2,List.filter_eq_nil_iff.2 (fun a ha=>by simp[h1 a ha]),List.nil_append]
theorem mem_take_at {l:List En} {i:Nat} {e:En} (h:e∈l.take i):∃ k,k<i∧k<l.length∧enAt l k=e:=by
 obtain⟨k,hk,rfl⟩:=List.getElem_of_mem h;rw[List.length_take] at hk;exact⟨k,by omega,by omega,by rw[enAt_get (by omega)];simp⟩
theorem mem_drop_at {l:List En} {i:Nat} {e:En} (h:e∈l.drop i):∃ k,i≤k∧k<l.length∧enAt l k=e:=by
 obtain⟨k,hk,rfl⟩:=List.getElem_of_mem h;rw[List.length_drop] at hk;exact⟨i+k,by omega,by omega,by rw[enAt_get (by omega)];simp⟩
theorem place_cut {l:List En} {t:List (BitVec 8)} {i:Nat} {found:Bool} (h:PlaceP l t i found) (hs:sortedF l) :
  l.filter (ltE t)=l.take i∧l.filter (gtE t)=l.drop (i+if found then 1 else 0)∧delF l t=l.take i++l.drop (i+if found then 1 else 0)∧(found=true→i<l.length∧numF (enAt l i).addr=numF t)∧(found=false→∀ e∈l,numF e.addr≠numF t):=by
 obtain⟨h1,h2,h3⟩:=h;obtain⟨h4,h5⟩:=h3 hs
 have a1:∀ e∈l.take i,numF e.addr<numF t:=fun e he=>by
  obtain⟨k,q1,_,rfl⟩:=mem_take_at he;exact h4 k q1
 have a2:∀ e∈l.drop i,numF t≤numF e.addr:=fun e he=>by
  obtain⟨k,q1,q2,rfl⟩:=mem_drop_at he;exact h5 k q1 q2
 have b1:l.filter (ltE t)=l.take i:=filter_cut _ l i (fun e he=>decide_eq_true (a1 e he)) (fun e he=>decide_eq_false (by have:=a2 e he;omega));cases hf:found with
 |true =>
  rw[hf] at h2;have h2':i<l.length∧numF (enAt l i).addr=numF t:=by simpa using h2.symm
  have a3:∀ e∈l.drop (i+1),numF t<numF e.addr:=fun e he=>by
   obtain⟨k,q1,q2,rfl⟩:=mem_drop_at he;have:=sorted_lt hs (show i<k by omega) q2;omega
  have a4:∀ e∈l.take (i+1),numF e.addr≤numF t:=fun e he=>by
   obtain⟨k,q1,q2,rfl⟩:=mem_take_at he;by_cases c:k=i
   ·subst c;omega
   ·have:=h4 k (by omega);omega
  have b2:l.filter (gtE t)=l.drop (i+1):=filter_cut2 _ l (i+1) (fun e he=>decide_eq_false (by have:=a4 e he;omega)) (fun e he=>decide_eq_true (a3 e he));refine⟨b1,by simpa using b2,?_,fun _=>h2',fun c=>by cases c⟩
  have hl:l=l.take i++enAt l i::l.drop (i+1):=by
   rw[enAt_get h2'.1,←List.drop_eq_getElem_cons h2'.1,List.take_append_drop]
  show l.filter (neE t)=_
  conv=>lhs;rw[hl]
  rw[List.filter_append,List.filter_cons,(List.filter_eq_self (p:=neE t) (l:=l.take i)).2 (fun e he=>decide_eq_true (by have:=a1 e he;omega)),(List.filter_eq_self (p:=neE t) (l:=l.drop (i+1))).2 (fun e he=>decide_eq_true (by have:=a3 e he;omega))];simp[neE,h2'.2]
 |false =>
  rw[hf] at h2
  have a3:∀ e∈l.drop i,numF t<numF e.addr:=fun e he=>by
   obtain⟨k,q1,q2,rfl⟩:=mem_drop_at he;have hne:numF (enAt l i).addr≠numF t:=fun c=>by simp[show i<l.length by omega,c] at h2
   have:=h5 i (Nat.le_refl _) (by omega);by_cases c:k=i
   ·subst c;omega
   ·have:=sorted_lt hs (show i<k by omega) q2;omega
  have b2:l.filter (gtE t)=l.drop i:=filter_cut2 _ l i (fun e he=>decide_eq_false (by have:=a1 e he;omega)) (fun e he=>decide_eq_true (a3 e he))
  have a5:∀ e∈l,numF e.addr≠numF t:=fun e he=>by
   rw[←List.take_append_drop i l] at he;rcases List.mem_append.1 he with he|he
   ·have:=a1 e he;omega
   ·have:=a3 e he;omega
  refine⟨b1,by simpa using b2,?_,(fun c=>by cases c),fun _=>a5⟩;simp only[Bool.false_eq_true,if_false,Nat.add_zero,List.take_append_drop];exact List.filter_eq_self.2 fun e he=>decide_eq_true (a5 e he)
theorem put_found {l:List En} {s:En} {i:Nat} (h:PlaceP l s.addr i true) (hs:sortedF l):putF l s=l.set i s∧i<l.length:=by
 obtain⟨h1,h2,_,h3,_⟩:=place_cut h hs;have hi:=(h3 rfl).1;refine⟨?_,hi⟩;unfold putF;rw[h1,h2,List.set_eq_take_append_cons_drop,if_pos hi];simp
theorem put_new {l:List En} {s:En} {i:Nat} (h:PlaceP l s.addr i false) (hs:sortedF l):putF l s=l.take i++s::l.drop i:=by
 obtain⟨h1,h2,_⟩:=place_cut h hs;unfold putF;rw[h1,h2];simp
theorem del_found {l:List En} {t:List (BitVec 8)} {i:Nat} (h:PlaceP l t i true) (hs:sortedF l):delF l t=l.take i++l.drop (i+1)∧i<l.length:=by
 obtain⟨_,_,h1,h3,_⟩:=place_cut h hs;exact⟨by simpa using h1,(h3 rfl).1⟩
theorem look_found {l:List En} {t:List (BitVec 8)} {i:Nat} {found:Bool} (h:PlaceP l t i found) (hs:sortedF l) (hl:∀ e∈l,e.addr.length=6) (ht:t.length=6):lookF l t=if found then some (enAt l i) else none:=by
 obtain⟨_,_,_,h3,h4⟩:=place_cut h hs;obtain⟨_,_,h5⟩:=h;have h5:=(h5 hs).1;cases hf:found with
 |false =>
  rw[if_neg (by simp)]
  exact List.find?_eq_none.2 fun e he=>by
   have:=h4 hf e he;simp only[hasAddr,beq_iff_eq];intro c;exact this (by rw[c])
 |true =>
  obtain⟨hi,hn⟩:=h3 hf;have ha:(enAt l i).addr=t:=num_inj (by rw[enAt_get hi,hl _ (List.getElem_mem hi),ht]) hn;rw[if_pos rfl];refine List.find?_eq_some_iff_getElem.2 ⟨by simp[hasAddr,ha],i,hi,(enAt_get hi).symm,fun j hj=>?_⟩;have:=h5 j hj;rw[enAt_get (by omega)] at this;simp only[hasAddr,Bool.not_eq_true',beq_eq_false_iff_ne];intro c;rw[c] at this;omega
def msgH (a:As) (t:List (BitVec 8)) (sub:Int):Hd:=⟨0,sub,false,false,false,false,false,false,false,0,t,a.own,a.own,zero6,0,0,0,0,false,false⟩
def two16 (n:Int):List (BitVec 8):=[BitVec.ofInt 8 n,BitVec.ofInt 8 (n / 256)]
def byeF (a:As) (t:List (BitVec 8)) (sub reason:Int):Fm:=(msgH a t sub,two16 reason)
def rdF (b:List (BitVec 8)) (i:Nat):Int:=wI (b.getD i 0)+256*wI (b.getD (i+1) 0)
def momentF (t:Int):Bool:=inF t 0 1099511627776
def freshE (t:List (BitVec 8)) (now:Int):En:=⟨t,1,0,0,0,now⟩
def heldBy (l:List En) (k:Nat):Bool:=l.any fun s=>s.aid==(k:Int)
def freeN (l:List En):Nat→Nat→Nat
 |0,k=>k
 |n+1,k=>if heldBy l k then freeN l n (k+1) else k
def freeF (l:List En):Int:=(freeN l l.length 1:Nat)
theorem held_count:∀ (m:Nat) (l:List En),(∀ k,1≤k→k≤m→heldBy l k=true)→m≤l.length
 |0,_,_=>Nat.zero_le _
 |m+1,l,h=>by
  have h1:=h (m+1) (by omega) (Nat.le_refl _);obtain⟨s,hs,he⟩:=List.any_eq_true.1 h1
  have hlt:(l.filter fun s=>s.aid != ((m+1:Nat):Int)).length<l.length:=by
   rcases Nat.lt_or_ge (l.filter fun s=>s.aid != ((m+1:Nat):Int)).length l.length with c|c
   ·exact c
   ·exfalso
    have:=List.length_filter_eq_length_iff.1 (Nat.le_antisymm (List.length_filter_le _ _) c) s hs;simp[beq_iff_eq.1 he] at this
  have:=held_count m (l.filter fun s=>s.aid != ((m+1:Nat):Int)) fun k h2 h3=>by
   obtain⟨u,hu,hk⟩:=List.any_eq_true.1 (h k h2 (by omega));refine List.any_eq_true.2 ⟨u,List.mem_filter.2 ⟨hu,?_⟩,hk⟩;have:=beq_iff_eq.1 hk;simp only[bne_iff_ne];omega
  omega
theorem freeN_spec (l:List En):∀ (n k:Nat),1≤k→(∀ j,1≤j→j<k→heldBy l j=true)→k+n=l.length+1→heldBy l (freeN l n k)=false∧1≤freeN l n k∧freeN l n k≤l.length+1∧∀ j,1≤j→j<freeN l n k→heldBy l j=true
 |0,k,hk,h,e=>by
  unfold freeN;refine⟨?_,hk,by omega,h⟩;cases hb:heldBy l k with
  |false=>rfl
  |true =>
   exfalso
   have:=held_count k l fun j h1 h2=>by
    by_cases c:j=k
    ·rw[c];exact hb
    ·exact h j h1 (by omega)
   omega
 |n+1,k,hk,h,e=>by
  unfold freeN;cases hb:heldBy l k with
  |false=>rw[if_neg (by simp)];exact⟨hb,hk,by omega,h⟩
  |true =>
   rw[if_pos rfl];refine freeN_spec l n (k+1) (by omega) (fun j h1 h2=>?_) (by omega);by_cases c:j=k
   ·rw[c];exact hb
   ·exact h j h1 (by omega)
theorem free_spec (l:List En):∃ k:Nat,freeF l=k∧heldBy l k=false∧1≤k∧k≤l.length+1∧∀ j,1≤j→j<k→heldBy l j=true:=
 ⟨_,rfl,freeN_spec l l.length 1 (Nat.le_refl _) (fun j h1 h2=>by omega) (by omega)⟩
theorem free_eq {l:List En} {k:Nat} (h1:1≤k) (h2:heldBy l k=false) (h3:∀ j,1≤j→j<k→heldBy l j=true):freeF l=k:=by
 obtain⟨m,e,a,b,c,d⟩:=free_spec l;rw[e];rcases Nat.lt_trichotomy m k with q|q|q
 ·rw[h3 m b q] at a;cases a
 ·rw[q]
 ·rw[d k h1 q] at h2;cases h2
def coverF (all some:Int):Bool:=bits .and .i64 all some==some
section
variable (dA:List (BitVec 8)→Option (Int × Int)) (dJ:Bool→List (BitVec 8)→Option (Int × Int)) (dL:List (BitVec 8)→Bool)
def authStat (l:List En) (t:List (BitVec 8)) (al st:Int):Int:=if al≠0 then 13 else if st≠1 then 14 else if (lookF l t).isNone&&l.length==64 then 17 else 0
def authB (al st stat:Int):List (BitVec 8):=two16 al++two16 ((st+1) % 65536)++two16 stat
def authF (a:As) (l:List En) (h:Hd) (b:List (BitVec 8)) (now:Int):Rs:=
 match dA b with
 |none=>([],[],12)
 |some (al,st)=>(if authStat l h.a2 al st=0 then putF l (freshE h.a2 now) else l,[(msgH a h.a2 11,authB al st (authStat l h.a2 al st))],0)
def joinStat (a:As) (l:List En) (s:En) (ca:Int):Int:=if !coverF ca a.caps then 1 else if s.state != 2&&decide (a.limit≤(membersF l:Int)) then 17 else 0
def joinAid (l:List En) (s:En):Int:=if s.state=2 then s.aid else freeF l
def respB (a:As) (stat aid:Int):List (BitVec 8):=two16 a.caps++two16 stat++two16 aid
def joinF (a:As) (l:List En) (h:Hd) (b:List (BitVec 8)):Rs:=
 match dJ (h.sub==2) b with
 |none=>([],[],12)
 |some (ca,li)=>match lookF l h.a2 with
  |none=>(l,[byeF a h.a2 12 6],0)
  |some s=>if joinStat a l s ca=0 then (putF l ⟨s.addr,2,joinAid l s,ca,li,s.seen⟩,[(msgH a h.a2 (h.sub+1),respB a 0 (joinAid l s))],0)
   else (l,[(msgH a h.a2 (h.sub+1),respB a (joinStat a l s ca) 0)],0)
def leaveF (l:List En) (h:Hd) (b:List (BitVec 8)):Rs:=
 if dL b then match lookF l h.a2 with
  |none=>(l,[],0)
  |some s=>if h.sub=12 then (delF l h.a2,[],0) else (putF l ⟨s.addr,1,0,0,0,s.seen⟩,[],0)
 else ([],[],12)
def dataF (a:As) (l:List En) (h:Hd):Rs:=
 match lookF l h.a2 with
 |none=>(l,[byeF a h.a2 12 6],0)
 |some s=>if s.state=2 then (l,[],0) else (l,[byeF a h.a2 10 7],0)
def seenF (l:List En) (t:List (BitVec 8)) (now:Int):List En:=match lookF l t with|some s=>putF l { s with seen:=max s.seen now }|none=>l
def manageF (a:As) (l:List En) (h:Hd) (b:List (BitVec 8)) (now:Int):Rs:=
 if h.sub=11 then authF dA a l h b now else if h.sub=0∨h.sub=2 then joinF dJ a l h b else if h.sub=10∨h.sub=12 then leaveF dL l h b else (l,[],0)
def handleF (a:As) (l:List En) (h:Hd) (b:List (BitVec 8)) (now:Int):Rs:=
 if !validA a l then ([],[],8) else if !momentF now || !validH h then ([],[],2) else if !addrF a h then (l,[],0)
 else if h.kind=0 then manageF dA dJ dL a (seenF l h.a2 now) h b now else dataF a (seenF l h.a2 now) h
end
def goneE (a:As) (now:Int) (s:En):Bool:=decide (s.seen+a.idle≤now)
def tickF (a:As) (l:List En) (now:Int):Rs:=
 if !validA a l then ([],[],8) else if !momentF now then ([],[],2)
 else (l.filter fun s=>!goneE a now s,(l.filter (goneE a now)).map fun s=>byeF a s.addr 12 4,0)
def removeF (a:As) (l:List En) (t:List (BitVec 8)):Rs:=
 if !validA a l then ([],[],8) else if (lookF l t).isNone then ([],[],6) else (delF l t,[byeF a t 12 8],0)
def admitF (a:As) (l:List En) (t:List (BitVec 8)) (now:Int):Rs:=
 if !validA a l then ([],[],8) else if groupF t || t==a.own || !momentF now then ([],[],2)
 else if (lookF l t).isNone&&l.length==64 then ([],[],22) else (putF l (freshE t now),[],0)
theorem run_mkB (w:World) (n c:Nat) (h:n≤c) (hc:c≤1000000):(Instr.makeSlice 29 (.int .i64 (n:Int)) (.int .i64 (c:Int))).run prog w=.ok (.slice (some ⟨w.heap.size,0,none⟩) n c) (w.alloc (.cells (List.replicate c (Value.int .u8 0)).toArray 5)):=by
 obtain⟨iu,hi,hz,hs,hb⟩:=info_iu;have e1:(iu.bytes:Int)*(c:Int)≤281474976710656:=by rw[hb];omega
 have e2:(c:Int)≤9223372036854775807:=by omega
 have e3:(0:Int)≤(n:Int):=by omega
 have e4:(n:Int)≤(c:Int):=by omega
 have:=run_make (P:=prog) w 29 5 iu (.int .u8 0) underlying29 hi hz .i64 .i64 n c e3 e4 e1 e2;rw[this,hs,Int.toNat_natCast,Int.toNat_natCast,Nat.mul_one]
 have e:madeCells (Value.int .u8 0).cells c=(List.replicate c (Value.int .u8 0)).toArray:=by
  refine Array.ext (by simp[size_madeCells]) fun i h1 h2=>?_;simp[madeCells,Value.cells,Nat.mod_one]
 rw[e]
section
variable {ops:Array Oper} {rest:List Oper} {o:Oper} {a:Act} {w0 w:World} {Q:Exit→Act→World→Prop} {bs:List Bk}
theorem L_cpB (H:Kp (Loc w0 w bs)) (hgd:o.guard=none) (d s:Operand) (ho:o.op=.call { callee:=.builtin .copy,args:=#[d,s],argTypes:=#[29,29] })
  (k:Nat) {g T:Nat} {cs:List Value} (hi:bs[k]?=some (g,T,cs)) (off n c:Nat) (hd:a.eval d=.slice (some ⟨g,off,none⟩) n c) (y:Value) (hs:a.eval s=y) (m:By) (hy:SlB w y m) (hn:m.length≤n) (hfit:off+m.length≤cs.length) (new:List Value) (hnew:cs.take off++(m.map V8++cs.drop (off+m.length))=new)
  (h:∀ w',Kp (Wrote w w' g)→Kp (Loc w0 w' (bs.set k (g,T,new)))→wpList prog ops Q rest (a.put o.dst (goInt (m.length:Int))) w'):wpList prog ops Q (o::rest) a w:=by
 refine wpList_cpS hgd d s 29 29 ho 5 underlying29 sizeU8q g off n c hd y hs m hy cs T (H.out.at k hi) m.length (Nat.min_eq_left hn).symm hfit new ?_ rfl (h _ (kp ⟨_,rfl⟩) (kp (H.out.set k hi new)));rw[List.take_of_length_le (i:=m.length) (l:=m.map V8) (by simp)];exact hnew
end
theorem owns_room {w:World} {g base n c:Nat} {l:By} {zs:List Value} (h:Lc w g 5 (l.map V8++zs)) (hb:base≤g) (hn:n=l.length) (hc:c=n+zs.length) (hm:c≤1000000):w.ownsRow base 5 1 (.slice (some ⟨g,0,none⟩) n c) l.length (l.map V8):=by
 subst hn hc;exact⟨by simp,.inr ⟨g,_,(l.map V8++zs).toArray,rfl,hb,h,by omega,by unfold maxLen;omega,by simp,by simp⟩⟩
theorem slb1e {w:World} {g T:Nat} {x:Int} (hx:x % 256=x) (h:Lc w g T [.int .u8 x]):SlB w (.slice (some ⟨g,0,none⟩) 1 1) [BitVec.ofInt 8 x]:=slb1 (by rw[hx];exact h)
set_option maxHeartbeats 1600000 in
theorem put_any (vb:Value) (lb:By) (hb:lb.length≤100) (v:Int) (h0:0≤v) (h1:v≤65535) (w:World) (hs:SlB w vb lb) :
  Calls prog 112 #[vb,.int .u16 v,.int .i64 2] w (RetO (lb++two16 v) w):=by
 obtain⟨ad,c,rfl⟩:=hs.form;have H:=kp (Loc.start w);have HS:=kp hs;obtain⟨n,hn⟩:∃ n,n=lb.length:=⟨_,rfl⟩
 rw[←hn] at hb HS ⊢;have HN:=kp hn;have HMK:=kp (fun w=>run_mkB w n (n+2) (by omega) (by omega));have HVE:=kp (show v / 256 % 256=v / 256 by omega);have HNW:=kp (show (List.replicate (n+2) (Value.int .u8 0)).take 0++(lb.map V8++(List.replicate (n+2) (Value.int .u8 0)).drop (0+lb.length))=lb.map V8++List.replicate 2 (Value.int .u8 0) by rw[List.take_zero,List.nil_append,List.drop_replicate,hn];congr 2;omega);clear hs hn;go_enter func112,ntmps112;go_wp2_with (first|((with_reducible show wpList _ _ _ (Oper.mk (some 15) (Op.makeSlice 29 _ _) _ _ _ _::_) _ _);(refine L_mk H (by kernel_rfl) 29 _ _ rfl (.int .i64 (n:Int)) (.int .i64 ((n:Int)+2)) rfl rfl n (n+2) 5 (List.replicate (n+2) (Value.int .u8 0)) (fun w=>HMK.out w) ?_);clear H;intro g15 w15 HGg15 HEg15 H;simp only[pA])|((with_reducible show wpList _ _ _ (Oper.mk _ (Op.call { callee:=.builtin .copy,args:=_,argTypes:=_ }) _ _ _ _::_) _ _);(refine L_cpB H rfl _ _ rfl 0 rfl (0) _ _ rfl _ rfl _ (HS.out.ext H.out.1) ((by rw[HN.out];exact Nat.le_refl _)) ((by rw[List.length_replicate,←HN.out];omega)) (lb.map V8++List.replicate 2 (Value.int .u8 0)) (HNW.out) ?_;clear H;intro w16 HWw16 H;simp only[szA] at H);simp only[pA]))
 have HO:=kp (show w16.ownsRow w.heap.size 5 1 (.slice (some ⟨g15,0,none⟩) n (n+2)) (lb++(two16 v).take 0).length ((lb++(two16 v).take 0).map V8) from by
  rw[List.take_zero,List.append_nil]
  exact owns_room (H.out.at 0 rfl) (H.out.le 0 rfl) HN.out (by simp) (by omega))
 have H2:=kp H.out.tl;clear H;have H:=H2;clear H2;go_loopw [7,20] (fun b i wr=>∃ j:Nat,j≤2∧i=.int .i64 j∧Kp (wr.ownsRow w.heap.size 5 1 b (lb++(two16 v).take j).length ((lb++(two16 v).take j).map V8))∧Kp (Loc w wr [])) (fun _ i _=>2-(intOf i).toNat)
 case atStart=>exact⟨0,by omega,rfl,HO,H⟩
 case round =>
  obtain⟨j,hj,rfl,HO,H⟩:=hrel;have HLN:=kp (show (lb++(two16 v).take j).length≤102 by have:=HN.out;simp[two16];omega);by_cases hlt:j<2
  ·have hj2:j=0∨j=1:=by omega
   rcases hj2 with rfl|rfl
   ·go_wp2_with (first|((with_reducible refine isBs 30 29 ?_);(refine xBS H 29 1 (#[(0,.int .u8 (v % 256))]) 5 ([.int .u8 (v % 256)]) (fun _=>by kernel_rfl) ?_);clear H;intro g30 w30 HGg30 HEg30 H;simp only[pA])|(at_builtin;(have HSX:=kp (slb1 (H.out.at 0 rfl));have HOX2:=kp (owns_ext HO.out HEg30.out);have H2:=kp H.out.tl;clear H;have H:=H2;clear H2;refine L_appB H rfl _ _ rfl (w.heap.size) (by have q1:=H.out.1.size;omega) (by have q1:=H.out.1.size;omega) (by intro zz hz;first|(simp at hz;done)|(simp at hz;have q1:=H.out.1.size;omega)) _ _ rfl HOX2.out _ _ rfl HSX.out ((by have:=HLN.out;exact Nat.le_trans (Nat.add_le_add_right this 1) (by omega))) ?_;clear H HSX HOX2;intro vc wc HO2 HGwc H;simp only[pA])));go_roundw
    case rel=>exact⟨1,by omega,by go_num,kp (by have:=HO2.out;rw[List.append_assoc] at this;exact this),H⟩
    case measure=>simp[intOf]
   ·go_wp2_with (first|((with_reducible refine isBs 30 29 ?_);(refine xBS H 29 1 (#[(0,.int .u8 (v / 256))]) 5 ([.int .u8 (v / 256)]) (fun _=>by kernel_rfl) ?_);clear H;intro g30 w30 HGg30 HEg30 H;simp only[pA])|(at_builtin;(have HSX:=kp (slb1e HVE.out (H.out.at 0 rfl));have HOX2:=kp (owns_ext HO.out HEg30.out);have H2:=kp H.out.tl;clear H;have H:=H2;clear H2;refine L_appB H rfl _ _ rfl (w.heap.size) (by have q1:=H.out.1.size;omega) (by have q1:=H.out.1.size;omega) (by intro zz hz;first|(simp at hz;done)|(simp at hz;have q1:=H.out.1.size;omega)) _ _ rfl HOX2.out _ _ rfl HSX.out ((by have:=HLN.out;exact Nat.le_trans (Nat.add_le_add_right this 1) (by omega))) ?_;clear H HSX HOX2;intro vc wc HO2 HGwc H;simp only[pA])));go_roundw
    case rel=>exact⟨2,by omega,by go_num,kp (by have:=HO2.out;rw[List.append_assoc] at this;exact this),H⟩
    case measure=>simp[intOf]
  ·obtain rfl:j=2:=by omega
   go_wp2_with fail;go_ret;exact⟨_,rfl,HO.out,H.out.1⟩
theorem put16_any (vb:Value) (lb:By) (hb:lb.length≤100) (v:Int) (h0:0≤v) (h1:v≤65535) (w:World) (hs:SlB w vb lb) :
  Calls prog 102 #[vb,.int .u16 v] w (RetO (lb++two16 v) w):=by
 have H:=kp (Loc.start w);have HP:=kp (put_any vb lb hb v h0 h1 w hs);clear hs hb h0 h1;go_enter func102,ntmps102;go_wp2_with (go_at_call 112;refine HP.out.mono ?_;rintro e wa ⟨v',rfl,ho,hx⟩;have HO:=kp ho;have HX:=kp hx;clear ho hx);go_ret;exact⟨_,rfl,HO.out,HX.out⟩
abbrev OwB (B:Nat) (w:World) (v:Value) (l:By):Prop:=w.ownsRow B 5 1 v l.length (l.map V8)
def cU (v:Int):List Value:=[.int .u16 v]
def flat2 (vs:List Int):By:=vs.flatMap two16
theorem cU_at:∀ (vs:List Int) (j:Nat) (x:Int),vs[j]?=some x→(vs.flatMap cU)[j]?=some (.int .u16 x)
 |[],j,x,h=>by simp at h
 |y::l,0,x,h=>by (have:y=x:=by simpa using h);subst this;rfl
 |y::l,j+1,x,h=>cU_at l j x (by simpa using h)
theorem flat2_len (vs:List Int):(flat2 vs).length=2*vs.length:=by
 induction vs with
 |nil=>rfl
 |cons v l ih=>simp only[flat2,List.flatMap_cons,List.length_append,List.length_cons] at ih ⊢;rw[ih];simp[two16];omega
theorem flat2_succ (vs:List Int) (j:Nat) (x:Int) (h:vs[j]?=some x):flat2 (vs.take (j+1))=flat2 (vs.take j)++two16 x:=by
 unfold flat2;rw[List.take_add_one,h,List.flatMap_append];simp
set_option maxHeartbeats 1600000 in
theorem two_any (vs:List Int) (hv:∀ v∈vs,0≤v∧v≤65535) (hn:vs.length≤5) (g gv m:Nat) (hm:m=vs.length) (ad:Option Addr) (n c:Nat) (lb:By) (hl:lb.length≤50) (w0 w:World) (rest:List Bk) (H:Kp (Loc w0 w ((g,147,[.slice ad n c])::(gv,72,vs.flatMap cU)::rest)))
  (ho:OwB w0.heap.size w (.slice ad n c) lb) :
  Calls prog 84 #[.pointer (some ⟨g,0,none⟩),.slice (some ⟨gv,0,none⟩) m m] w fun e w'=>e=.returned (.tuple #[])∧∃ ad' n' c',Loc w0 w' ((g,147,[.slice ad' n' c'])::(gv,72,vs.flatMap cU)::rest)∧OwB w0.heap.size w' (.slice ad' n' c') (lb++flat2 vs):=by
 have HML:=kp hm;have HVS:=kp hv;have HO:=kp (show OwB w0.heap.size w (.slice ad n c) (lb++flat2 (vs.take 0)) by simpa[flat2] using ho);have HZS:=kp (show (prog.info? 29).map (·.size)=some 1 by kernel_rfl);have hm5:m≤5:=by omega
 clear hv ho hn hm;go_enter func84,ntmps84;go_wp2_with fail;go_loopw [8] (fun i wr=>∃ (j:Nat) (ad:Option Addr) (n c:Nat),j≤m∧i=.int .i64 j∧Kp (OwB w0.heap.size wr (.slice ad n c) (lb++flat2 (vs.take j)))∧Kp (Loc w0 wr ((g,147,[.slice ad n c])::(gv,72,vs.flatMap cU)::rest))) (fun i _=>m-(intOf i).toNat)
 case atStart=>exact⟨0,ad,n,c,by omega,rfl,HO,H⟩
 case round =>
  clear H HO;obtain⟨j,ad,n,c,hj,rfl,HO,H⟩:=hrel;by_cases hlt:j<m
  ·obtain⟨x,hx⟩:∃ x,vs[j]?=some x:=⟨vs[j]'(by rw[←HML.out];omega),by simp⟩
   have HX:=kp hx;have HXR:=kp (HVS.out x (List.mem_of_getElem? hx));have HXU:=kp (cU_at vs j x hx);have HS2:=kp (flat2_succ vs j x hx);have HLB:=kp (show (lb++flat2 (vs.take j)).length≤100 by rw[List.length_append,flat2_len,List.length_take];omega);clear hx;have hc0:=run_load_cell H.out 1 rfl _ _ HXU.out;have hc1:=run_load_cell H.out 0 rfl 0 _ rfl;have HSL:=kp (SlB.of_owns HO.out);have HPU:=kp (put16_any _ _ HLB.out x HXR.out.1 HXR.out.2 wr HSL.out);go_wp2_with (first|(go_at_call 102;refine HPU.out.mono ?_;rintro e wa ⟨v',rfl,ho,hx⟩;obtain⟨av,nv,cv,rfl⟩:=owns_form2 ho;have HO2:=kp (owns_weak ho H.out.1.size);clear ho hc0 hc1;replace H:=kp (H.out.ext hx);have HXC:=kp hx;clear hx;have HGL:=kp (show Lc wa g 147 _ from H.out.at 0 rfl))|((with_reducible refine isSt 29 ?_);(refine L_cell H rfl rfl 29 _ _ rfl 0 rfl (0) rfl (.slice av nv cv) rfl (rfl) (HZS.out) (Nat.zero_lt_one) ([.slice av nv cv]) (rfl) ?_;clear H;intro wb HWwb H;simp only[szA] at H)));go_roundw
   case rel=>exact⟨j+1,av,nv,cv,by omega,by go_num,kp (by have h:=owns_wroteT HO2.out HWwb.out HGL.out (show 5≠147 from by decide);rw[List.append_assoc,←HS2.out] at h;exact h),H⟩
   case measure=>simp[intOf];omega
  ·obtain rfl:j=m:=by omega
   have HTK:=kp (show vs.take j=vs from List.take_of_length_le (by rw[←HML.out];exact Nat.le_refl _));rw[HTK.out] at HO;go_wp2_with fail;go_end0
   exact⟨rfl,ad,n,c,H.out,HO.out⟩
end Go.Proofs.YtfecopfofkdnpaaGreat
