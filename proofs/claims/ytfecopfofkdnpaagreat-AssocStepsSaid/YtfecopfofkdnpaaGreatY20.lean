/- Texts of this proof, put together: SlE, Val30, Find. -/
import Derived.Test.YtfecopfofkdnpaaGreatY19
import Derived.Test.YtfecopfofkdnpaaGreatY14
import Derived.Test.YtfecopfofkdnpaaGreatY15
import Derived.Test.YtfecopfofkdnpaaGreatY9
import Derived.Test.YtfecopfofkdnpaaGreatY16
import Derived.Test.YtfecopfofkdnpaaGreatY1
namespace Go.Proofs.YtfecopfofkdnpaaGreat
open Go.RowKit Tryz
theorem info_En:(prog.info? 45).map (fun i=>(i.zero.map (·.cells.size),i.size,i.bytes))=some (some 11,11,40):=by kernel_rfl
theorem info_Fr:(prog.info? 31).map (fun i=>(i.zero.map (·.cells.size),i.size,i.bytes))=some (some 41,41,104):=by kernel_rfl
theorem elemT_of {t e:TypeId} {sz b:Nat} (hu:prog.underlying t=some (.slice e)) (h:(prog.info? e).map (fun i=>(i.zero.map (·.cells.size),i.size,i.bytes))=some (some sz,sz,b)) (hp:0<sz):ElemT prog t e sz b:=by
 refine⟨hu,?_,hp⟩;cases hq:prog.info? e with
 |none=>simp[hq] at h
 |some i =>
  cases hz:i.zero with
  |none=>simp[hq,hz] at h
  |some z=>simp[hq,hz] at h;exact⟨i,z,rfl,hz,h.2.1,h.2.2,h.1⟩
theorem elemEn:ElemT prog 24 45 11 40:=elemT_of underlying24 info_En (by decide)
theorem elemFr:ElemT prog 36 31 41 104:=elemT_of underlying36 info_Fr (by decide)
theorem flat_get {α:Type} {sz:Nat} {f:α→List Value} (hz:0<sz) {xs:List α} (hf:∀ x∈xs,(f x).length=sz) {j:Nat} {u:Value} (hu:(xs.flatMap f)[j]?=some u):∃ x,xs[j / sz]?=some x∧(f x)[j % sz]?=some u:=by
 have hl:=flatMap_len xs hf;have hj:j<xs.length*sz:=by rw[←hl];exact (List.getElem?_eq_some_iff.1 hu).1
 have hd:j / sz<xs.length:=(Nat.div_lt_iff_lt_mul hz).2 hj;obtain⟨x,hx⟩:∃ x,xs[j / sz]?=some x:=⟨xs[j / sz],by simp[hd]⟩
 refine⟨x,hx,?_⟩;have h1:=flatMap_at xs hf (j / sz) x hx
 have h3:(((xs.flatMap f).drop (j / sz*sz)).take sz)[j % sz]?=some u:=by
  rw[List.getElem?_take,if_pos (Nat.mod_lt _ hz),List.getElem?_drop,show j / sz*sz+j % sz=j by rw[Nat.mul_comm];exact Nat.div_add_mod j sz];exact hu
 rwa [h1] at h3
theorem SlT.cells {α:Type} {sz:Nat} {f:α→List Value} (hz:0<sz) {w:World} {xs:List α} {a:Addr} {n c:Nat} (hf:∀ x∈xs,(f x).length=sz) (h:SlT sz f w (.slice (some a) n c) xs):∀ j u,(xs.flatMap f)[j]?=some u→w.cell? (a.add j)=some u:=by
 intro j u hu;obtain⟨x,hx,hq⟩:=flat_get hz hf hu;obtain⟨ad,n',c',he,hn,hc,hat⟩:=h;obtain⟨b,off,rfl,hb,hr⟩:=hat _ _ hx;cases he
 rw[Addr.add_mid];have:=hr _ _ hq
 rwa [Nat.add_assoc,show j / sz*sz+j % sz=j by rw[Nat.mul_comm];exact Nat.div_add_mod j sz] at this
def OwE (B:Nat) (w:World) (v:Value) (l:List En):Prop:=w.ownsRow B 45 11 v l.length (l.flatMap cellsE)
theorem OwE.slt {B:Nat} {w:World} {v:Value} {l:List En} (h:OwE B w v l) (hl:∀ x∈l,x.addr.length=6):SlT 11 cellsE w v l:=SlT.of_owns (fun x hx=>cellsE_len (hl x hx)) h
theorem OwE.ext {B:Nat} {w w':World} {v:Value} {l:List En} (h:OwE B w v l) (hx:Ext w w'):OwE B w' v l:=ownsT_ext h hx
theorem OwE.nil (B:Nat) (w:World):OwE B w (.slice none 0 0) []:=ownsT_nil w B _ 11
theorem OwE.empty (w:World) (B:Nat) (hb:B≤w.heap.size):OwE B (w.alloc (.cells #[] 45)) (.slice (some ⟨w.heap.size,0,none⟩) 0 0) []:=
 ⟨rfl,.inr ⟨w.heap.size,0,#[],rfl,hb,hp_new _ _,Nat.le_refl _,Nat.zero_le _,rfl,rfl⟩⟩
theorem one_flat (l:List En):∀ u∈l.flatMap cellsE,u.oneCell'=true:=by
 intro u hu;obtain⟨e,_,h⟩:=List.mem_flatMap.1 hu;simp only[cellsE,List.mem_append,List.mem_map,List.mem_cons,List.not_mem_nil,or_false] at h;rcases h with ⟨_,_,rfl⟩|rfl|rfl|rfl|rfl|rfl <;> rfl
def RetE (l:List En) (w:World) (e:Ending) (w':World):Prop:=∃ v,e=.returned v∧OwE w.heap.size w' v l∧Ext w w'
theorem eq_nilE:∀ (w:World) (a:Option Addr) (n c:Nat),(binOp .eql 24 (.slice a n c) (.slice none 0 0)).run prog w=.ok (.bool a.isNone) w:=fun w a n c=>Lib.run_eql_slice_nil w 24 45 a n c 0 0 underlying24
set_option maxHeartbeats 800000 in
theorem cloneE_any (v:Value) (l:List En) (hl:∀ x∈l,x.addr.length=6) (hn:l.length≤100000) (w:World) (hs:SlT 11 cellsE w v l):Calls prog 52 #[v] w (RetE l w):=by
 have HS:=kp (hs.ext (Ext.alloc w (.cells #[] 45)));obtain⟨ad,n,c,rfl,hnl,hcap,hat⟩:=hs;have HOE:=kp (OwE.empty w w.heap.size (Nat.le_refl _));have HLL:=kp (flatMap_len l (fun x hx=>cellsE_len (hl x hx)));have HN1:=kp (show 0+n≤maxLen by simp only[maxLen];omega);have HN2:=kp (show (0+n)*40≤140737488355328 by omega);have hq:=eq_nilE;cases ad with
 |none =>
  have hl0:l=[]:=by
   cases l with
   |nil=>rfl
   |cons x l =>
    obtain⟨b,off,h,_⟩:=hat 0 x rfl;cases h
  subst hl0;clear hat hl;go_enter func52,ntmps52;go_wp2_with fail;go_ret;exact⟨_,rfl,OwE.nil _ _,Ext.refl _⟩
 |some a =>
  have HCE:=kp (HS.out.cells (by decide) (fun x hx=>cellsE_len (hl x hx)));clear hat hl;obtain⟨i,z,hi,hz,hsz,hby,hzs⟩:=elemEn.info;subst hnl;go_enter func52,ntmps52;go_wp2_with (at_builtin;refine wpList_append_own _ rfl _ _ _ rfl w.heap.size _ i z 11 40 underlying24 hi hz hsz hby hzs (by decide) _ 0 [] rfl HOE.out a l.length c (l.flatMap cellsE) rfl HLL.out HCE.out (one_flat l) HN1.out HN2.out (by simp) ?_;intro v2 w2 ho2 hg2 _);go_ret;exact⟨v2,rfl,by simpa[OwE] using ho2,(Ext.alloc _ _).grown hg2 (fun q hq=>ownsT_block HOE.out q hq)⟩
theorem bad30_at {a:As} {l:List En} {j:Nat} (hj:j<l.length) (h:ok30At a.own l j=false):valid30F a l=false:=by
 have:all30 a.own l=false:=by
  rw[all30,List.all_eq_false];exact⟨j,List.mem_range.2 hj,by simp[h]⟩
 simp[valid30F,this]
theorem all30_at {own:List (BitVec 8)} {l:List En} (h:∀ k,k<l.length→ok30At own l k=true):all30 own l=true:=by
 rw[all30,List.all_eq_true];exact fun k hk=>h k (List.mem_range.1 hk)
def pre7 (own:List (BitVec 8)) (l:List En) (x:En) (j:Nat):Bool:=!groupF x.addr&&!(x.addr==own)&&inF x.seen 0 1099511627776&&ordAt l j
def zero7 (x:En):Bool:=x.aid==0&&x.caps==0&&x.listen==0
def mem7 (l:List En) (x:En) (j:Nat):Bool:=inF x.aid 1 255&&inF x.caps 0 65535&&inF x.listen 0 65535&&holderF l x.aid==j
theorem ok30_of {own:List (BitVec 8)} {l:List En} {j:Nat} {x:En} (hx:l[j]?=some x):ok30At own l j=(pre7 own l x j&&(if x.state=1 then zero7 x else if x.state=2 then mem7 l x j else false)):=by
 rw[ok30At,enAt_some hx];unfold entF pre7 zero7 mem7 bne;by_cases h1:x.state=1
 ·simp only[h1,if_true];cases groupF x.addr <;> cases (x.addr==own) <;> cases inF x.seen 0 1099511627776 <;> cases ordAt l j <;> simp
 ·by_cases h2:x.state=2
  ·simp only[h2,if_true];cases groupF x.addr <;> cases (x.addr==own) <;> cases inF x.seen 0 1099511627776 <;> cases ordAt l j <;> simp[Bool.and_assoc]
  ·have e1:(x.state==2)=false:=by simp[h2]
   simp[h1,h2,e1]
theorem eqAddrV (l m:List (BitVec 8)) (h:l.length=6) (h':m.length=6) (b:Bool) (hb:(l==m)=b) (w:World):(Op.equalIn 10000 23 (.agg (l.map V8).toArray) (.agg (m.map V8).toArray)).run prog w=.ok b w:=by
 rw[←hb];exact run_eq_ints (P:=prog) w underlying23 underlying5 sizeU8 l m h h' 9998
theorem qz_v0 {P:Program} {o:Oper} {a:Act} {w:World} {x0:Xtra} {K:Act→Prop} (ty:TypeId) (x:Operand) (ho:o.op=.load ty x) (g off:Nat) (hx:a.eval x=.pointer (some ⟨g,off,none⟩)) (ds:List Value) (hr:∀ w',Ext w w'→w'.rangeAt g off ds) {d:TypeDesc} (hu:P.underlying ty=some d) (hd:d.isRow=true) (hz:(P.info? ty).map (·.size)=some ds.length)
  (h:K (a.put o.dst (.agg ds.toArray))):o.quiet P a (Cx w x0) K:=by
 refine⟨_,fun w' hw=>?_,h⟩;unfold Oper.quietAt execOp;simp only[ho,hx,Instr.loadAt,Instr.sureAddr,Sem.run_bind,Sem.run_pure,Result.andThen_ok,run_loadVar_mid w' g off ty ds d (hr w' (cx_ext hw)) hu hd hz];exact⟨rfl,rfl⟩
set_option maxRecDepth 10000 in
set_option maxHeartbeats 6400000 in
theorem valid30_any (a:As) (ha:a.own.length=6) (v:Value) (l:List En) (hl:∀ x∈l,x.addr.length=6) (hn:l.length≤100000) (w:World) (hs:SlT 11 cellsE w v l) :
  Calls prog 31 #[.agg (cellsA a v).toArray] w fun e w'=>e=.returned (.bool (valid30F a l))∧Ext w w':=by
 have HSL:=kp hs;have HLN:=kp hn;obtain⟨ad,n,c,rfl,hnl,hcap,hat⟩:=hs;have HAT:=kp hat;have HNL:=kp hnl;have HLK:=kp hl;have H:=kp (Loc.start w);have hn2:n≤100000:=by omega
 have HC6:=kp (cA6 (a:=a) (.slice ad n c) ha);have HC7:=kp (cA7 (a:=a) (.slice ad n c) ha);have HC8:=kp (cA8 (a:=a) (.slice ad n c) ha);have HC9:=kp (cA9 (a:=a) (.slice ad n c) ha);have HOW:=kp (cellsA_own (a:=a) (.slice ad n c) ha);have HZO6:=kp (sizeA8 ha);have HOL:=kp ha;have HGR:=kp (group2_any a.own ha);have H22:=kp (in30_any a.caps 0 65535);have H33:=kp (in30_any a.limit 1 255);have H44:=kp (in30_any a.idle 1 1073741824);have HZE0:=kp (show (prog.info? 45).map (·.size)=some (cellsE en0).length by kernel_rfl);have HOE:=kp one_cellsE;have HME:=kp (fun w' hx=>members30_any (.slice ad n c) l hl hn w' (HSL.out.ext hx));have HHO:=kp (fun aid w' hx=>holder_any (.slice ad n c) l hl hn aid w' (HSL.out.ext hx));have HHF:=kp (show headF a l.length=(!groupF a.own&&inF a.caps 0 65535&&inF a.limit 1 255&&inF a.idle 1 1073741824&&decide (l.length≤64)) from rfl);have HVA:=kp (show valid30F a l=(headF a l.length&&decide ((membersF l:Int)≤a.limit)&&all30 a.own l) from rfl);have HML:=kp (mem_le l);clear hat hl hnl hcap hn ha;go_enter func31,ntmps31;generalize h1:Code.region 1 _ _=R1;go_wp2_with ((with_reducible refine isBx 1 26 ?_);(refine xBX H 26 (cellsA a (.slice ad n c)) ?_);clear H;intro g1 w1 HGg1 HEg1 H;simp only[pA]);subst h1;refine wp_cut [5,6,7,8,9,10,11,12,13,14,15,16,17,18,19,20,21,22,23,24,25,26,27,28,29,30,31,32,33,34,35,36,37,38,39] (fun vs w'=>Kp (Loc w w' [(g1,26,cellsA a (.slice ad n c))])∧vs 39=.bool (!(headF a l.length&&decide ((membersF l:Int)≤a.limit)))) ?_ ?_
 ·rw[HHF.out,←HNL.out];generalize groupF a.own=b1 at *;generalize inF a.caps 0 65535=b2 at *;generalize inF a.limit 1 255=b3 at *;generalize inF a.idle 1 1073741824=b4 at *;obtain⟨b5,hb5⟩:∃ b5,decide ((64:Int)<(n:Int))=b5:=⟨_,rfl⟩
  have h64:decide (n≤64)=!b5:=by rw[←hb5];refine Bool.eq_iff_iff.2 ?_;simp;omega
  have hmm:decide (((membersF l:Nat):Int)≤a.limit)=!decide (a.limit<((membersF l:Nat):Int)):=by refine Bool.eq_iff_iff.2 ?_;simp
  rw[h64,hmm];clear h64 hmm;have hp:b1=true∨(b1=false∧b2=false)∨(b1=false∧b2=true∧b3=false)∨(b1=false∧b2=true∧b3=true∧b4=false)∨(b1=false∧b2=true∧b3=true∧b4=true∧b5=true)∨(b1=false∧b2=true∧b3=true∧b4=true∧b5=false):=by cases b1 <;> cases b2 <;> cases b3 <;> cases b4 <;> cases b5 <;> simp
  generalize membersF l=mm at *;rcases hp with rfl|⟨rfl,rfl⟩|⟨rfl,rfl,rfl⟩|⟨rfl,rfl,rfl,rfl⟩|⟨rfl,rfl,rfl,rfl,rfl⟩|⟨rfl,rfl,rfl,rfl,rfl⟩
  all_goals
   rw[cat_A a HOL.out] at H;refine xRZ H 35 ?_;apply Exists.intro;refine⟨fun xz2=>?_,fun wz2 HXZ H=>?_⟩
   ·simp only[tK];unfold Cx;repeat (first|((with_reducible refine isQl 23 ?_);go_big_quiet_want;(refine xQV H 23 0 underlying23 ?_);simp only[pA];go_big_quiet_on)|((with_reducible refine isQl 3 ?_);go_big_quiet_want;(refine xQ1 H 3 0 underlying3 ?_);simp only[pA];go_big_quiet_on)|((with_reducible refine isQl 24 ?_);go_big_quiet_want;(refine xQ1 H 24 0 underlying24 ?_);simp only[pA];go_big_quiet_on)|go_big_quiet_step ((first|(go_at_call 43;exact Calls.cx_of (HGR.out _))|((with_reducible show Calls _ _ #[_,Value.int IntKind.i64 0,Value.int IntKind.i64 65535] _ _);exact Calls.cx_of (H22.out _))|((with_reducible show Calls _ _ #[_,Value.int IntKind.i64 1,Value.int IntKind.i64 255] _ _);exact Calls.cx_of (H33.out _))|((with_reducible show Calls _ _ #[_,Value.int IntKind.i64 1,Value.int IntKind.i64 1073741824] _ _);exact Calls.cx_of (H44.out _))|(go_at_call 61;exact Calls.cx_of (HME.out _ (H.out.1.trans (Ext.more _ _)))))))
    exact wpQuiet_nil rfl
   simp only[dR];go_wp2_with fail;rw[←cat_A a HOL.out] at H;exact CutP.of rfl (by kernel_rfl) ⟨H,congrArg Value.bool (by simp)⟩
 rintro vs w2 ⟨H,e39⟩;simp only[putMany,sbA,szA,ssA];rw[e39];clear e39;cases hh:(headF a l.length&&decide ((membersF l:Int)≤a.limit)) with
 |false =>
  have HK:=kp (show valid30F a l=false by rw[HVA.out,hh];rfl);clear hh;go_wp2_with fail;go_ret;exact⟨congrArg (fun z=>Ending.returned (.bool z)) HK.out.symm,H.out.1⟩
 |true =>
  have HV2:=kp (show valid30F a l=all30 a.own l by rw[HVA.out,hh];rfl);clear hh;go_wp2_with fail;go_loopw [3] (fun i wr=>∃ j:Nat,j≤n∧i=.int .i64 j∧Kp (∀ k,k<j→ok30At a.own l k=true)∧Kp (Loc w wr [(g1,26,cellsA a (.slice ad n c))])) (fun i _=>n-(intOf i).toNat)
  case atStart=>exact⟨0,by omega,rfl,kp (fun k hk=>by omega),H⟩
  case round =>
   generalize h7:Code.region 7 _ _=R7;generalize h12:Code.region 12 _ _=R12;generalize h15:Code.region 15 _ _=R15;obtain⟨j,hj,rfl,HT,H⟩:=hrel;have hc9:=run_load_cell H.out 0 rfl _ _ HC9.out;by_cases hlt:j<n
   ·obtain⟨x,hx⟩:∃ x,l[j]?=some x:=⟨l[j]'(by rw[←HNL.out];omega),by simp⟩
    obtain⟨b,off,rfl,hb,hr⟩:=HAT.out j x hx;have HB:=kp hb;have HR:=kp hr;have HX:=kp hx;have HXK:=kp (HLK.out x (List.mem_of_getElem? hx));clear hb hr hx;have HR3:=kp (rangeAt_ext HR.out HB.out H.out.1);have HZX:=kp (sizeE HXK.out);have HZXa:=kp (sizeEa HXK.out);have HLE:=kp (show (cellsE en0).length=(cellsE x).length by rw[cellsE_len HXK.out];rfl);have HPX:=kp (cE0 HXK.out);have HZX6:=kp (sizeA8 HXK.out);have H6:=kp (cE6 HXK.out);have H7:=kp (cE7 HXK.out);have H8:=kp (cE8 HXK.out);have H9:=kp (cE9 HXK.out);have H10:=kp (cE10 HXK.out);have HGX:=kp (group2_any x.addr HXK.out);have HSE:=kp (in30_any x.seen 0 1099511627776);have HJL:=kp (show j<l.length by rw[←HNL.out];exact hlt);have heq:=fun w=>eqAddr x.addr a.own HXK.out HOL.out w;have HOK:=kp (ok30_of (own:=a.own) HX.out);go_wp2_with (first|((with_reducible refine isLd 45 ?_);(refine wpList_load_midG (by kernel_rfl) 45 _ rfl (b) (off+j*11) rfl (cellsE x) _ (HR3.out) underlying45 rfl (HZX.out) ?_);simp only[pA])|((with_reducible refine isAl 4 45 ?_);(with_reducible refine xAL H 45 (cellsE en0) ?_);clear H;intro g4 w4 HGg4 HEg4 H;simp only[pA])|((with_reducible refine isSt 45 ?_);(refine xSR H 45 0 rfl (cellsE x) (HZXa.out) (HLE.out) (HOE.out _) ?_;clear H;intro w6 HWw6 H;simp only[szA] at H)));clear hc9;subst h7;refine wp_cut [52,53,54,55,56,57,58,59,60,61,62,63,64,65,66,67,68,69,70,71,72,73,74,75,76,77,78,79,80,81,82,83,84] (fun vs w'=>Kp (Loc w w' [(g4,45,cellsE x),(g1,26,cellsA a (.slice (some ⟨b,off,none⟩) n c))])∧vs 84=.bool (!pre7 a.own l x j)) ?_ ?_
    ·unfold pre7;have HEQ:=kp (fun b hb=>eqAddrV x.addr a.own HXK.out HOL.out b hb);generalize groupF x.addr=b1 at *;generalize inF x.seen 0 1099511627776=b3 at *;obtain⟨b2,hb2⟩:∃ b2,(x.addr==a.own)=b2:=⟨_,rfl⟩
     have HEQ:=kp (HEQ.out b2 hb2);rw[hb2];clear hb2 heq;have hp:b1=true∨(b1=false∧b2=true)∨(b1=false∧b2=false∧b3=false)∨(b1=false∧b2=false∧b3=true):=by cases b1 <;> cases b2 <;> cases b3 <;> simp
     have HRX:=kp (HR.out);by_cases hj0:j=0
     ·subst hj0;rcases hp with rfl|⟨rfl,rfl⟩|⟨rfl,rfl,rfl⟩|⟨rfl,rfl,rfl⟩
      all_goals
       rw[cat_A a HOL.out,cat_E x HXK.out] at H;refine xRZ H 33 ?_;apply Exists.intro;refine⟨fun xz3=>?_,fun wz3 HXZ H=>?_⟩
       ·simp only[tK];unfold Cx;repeat (first|((with_reducible refine isQl 23 ?_);go_big_quiet_want;(first|(refine xQV H 23 0 underlying23 ?_)|(refine xQV H 23 1 underlying23 ?_));simp only[pA];go_big_quiet_on)|((with_reducible refine isQl 3 ?_);go_big_quiet_want;(refine xQ1 H 3 0 underlying3 ?_);simp only[pA];go_big_quiet_on)|((with_reducible show wpQuiet _ _ _ _ (Oper.mk _ (Op.binOp _ 23 _ _ _) _ _ _ _::_) _);go_big_quiet_want;(refine qz_eq 23 _ _ _ rfl _ _ _ rfl rfl Tryz.eqGuardType23 (fun _=>HEQ.out _) ?_);simp only[pA];go_big_quiet_on)|go_big_quiet_step ((first|(go_at_call 43;exact Calls.cx_of (HGX.out _))|(go_at_call 32;exact Calls.cx_of (HSE.out _)))))
        exact wpQuiet_nil rfl
       simp only[dR];go_wp2_with fail;rw[←cat_A a HOL.out,←cat_E x HXK.out] at H;exact CutP.of rfl (by kernel_rfl) ⟨H,congrArg Value.bool (by first|rfl|(simp;done)|(simp[ordAt];done))⟩
     ·obtain⟨k,hk⟩:∃ k,j=k+1:=⟨j-1,by omega⟩
      have hkn:k<n:=by omega
      obtain⟨y,hy⟩:∃ y,l[k]?=some y:=⟨l[k]'(by have:=HJL.out;omega),by simp⟩
      obtain⟨b',off',hbb,hb',hr'⟩:=HAT.out k y hy;cases hbb
      have HRY:=kp (show w.rangeAt b (off+k*11) (y.addr.map V8) from fun i v hv=>hr' i v (by
       have h6:=HLK.out y (List.mem_of_getElem? hy);rw[cellsE,List.getElem?_append_left (by rw[List.length_map,h6];have:=(List.getElem?_eq_some_iff.1 hv).1;rw[List.length_map,h6] at this;exact this)]
       exact hv))
      have HYK:=kp (HLK.out y (List.mem_of_getElem? hy));have HBB:=kp hb';have HCM:=kp (compare2_any y.addr x.addr HYK.out HXK.out);obtain⟨b5,hb5⟩:∃ b5,decide (0≤cmpF y.addr x.addr)=b5:=⟨_,rfl⟩
      have HORD:=kp (show ordAt l j=!b5 by
       rw[hk,ordAt,←hk,enAt_some HX.out,hk,show k+1-1=k from rfl,enAt_some hy,←hb5];have q:=cmp_ge (a:=y.addr) (b:=x.addr);refine Bool.eq_iff_iff.2 ?_
       simp[q])
      rw[HORD.out];have e1:(j:Int)-1=(k:Int):=by omega
      have e0:decide (0<j)=true:=decide_eq_true (by omega);generalize cmpF y.addr x.addr=cm at *;clear hy hb' hr' hj0 hk HORD;rcases hp with rfl|⟨rfl,rfl⟩|⟨rfl,rfl,rfl⟩|⟨rfl,rfl,rfl⟩
      all_goals
       rw[cat_A a HOL.out,cat_E x HXK.out] at H;refine xRZ H 33 ?_;apply Exists.intro;refine⟨fun xz4=>?_,fun wz4 HXZ H=>?_⟩
       ·simp only[tK];unfold Cx;repeat (first|((with_reducible show wpQuiet _ _ _ _ (Oper.mk _ (Op.load 23 (.tmp 77)) _ _ _ _::_) _);go_big_quiet_want;refine qz_v0 23 _ rfl b (off+k*11) rfl (y.addr.map V8) (fun W hx=>rangeAt_ext HRY.out HBB.out (H.out.1.trans hx)) underlying23 rfl (by rw[List.length_map,HYK.out];kernel_rfl) ?_;simp only[pA];go_big_quiet_on)|((with_reducible refine isQl 23 ?_);go_big_quiet_want;(first|(refine xQV H 23 0 underlying23 ?_)|(refine xQV H 23 1 underlying23 ?_));simp only[pA];go_big_quiet_on)|((with_reducible refine isQl 3 ?_);go_big_quiet_want;(refine xQ1 H 3 0 underlying3 ?_);simp only[pA];go_big_quiet_on)|((with_reducible refine isQl 24 ?_);go_big_quiet_want;(refine xQ1 H 24 1 underlying24 ?_);simp only[pA];go_big_quiet_on)|((with_reducible show wpQuiet _ _ _ _ (Oper.mk _ (Op.binOp _ 23 _ _ _) _ _ _ _::_) _);go_big_quiet_want;(refine qz_eq 23 _ _ _ rfl _ _ _ rfl rfl Tryz.eqGuardType23 (fun _=>HEQ.out _) ?_);simp only[pA];go_big_quiet_on)|go_big_quiet_step ((first|(go_at_call 43;exact Calls.cx_of (HGX.out _))|(go_at_call 32;exact Calls.cx_of (HSE.out _))|(go_at_call 62;exact Calls.cx_of (HCM.out _)))))
        exact wpQuiet_nil rfl
       simp only[dR];go_wp2_with fail;rw[←cat_A a HOL.out,←cat_E x HXK.out] at H;exact CutP.of rfl (by kernel_rfl) ⟨H,congrArg Value.bool (by first|rfl|(simp;done)|(simp[*];done))⟩
    rintro vs w7 ⟨H,e84⟩;simp only[putMany,sbA,szA,ssA];rw[e84];clear e84 heq;cases hp:pre7 a.own l x j with
    |false =>
     have HK:=kp (bad30_at HJL.out (show ok30At a.own l j=false by rw[HOK.out,hp];rfl));clear hp;go_wp2_with fail;go_ret;exact⟨congrArg (fun z=>Ending.returned (.bool z)) HK.out.symm,H.out.1⟩
    |true =>
     have HOK2:=kp (show ok30At a.own l j=(if x.state=1 then zero7 x else if x.state=2 then mem7 l x j else false) by rw[HOK.out,hp];rfl);clear hp;by_cases hs1:x.state=1
     ·have HK:=kp (show ok30At a.own l j=zero7 x by rw[HOK2.out,if_pos hs1]);have hs1b:(x.state==1)=true:=by simp[hs1]
      have hc6:=run_load_cell H.out 0 rfl _ _ H6.out;rw[hs1] at hc6;clear hs1;go_wp2_with fail;subst h12;refine wp_cut [89,90,91,92,93,94,95,96,97,98,99,100,101] (fun vs w'=>Kp (Loc w w' [(g4,45,cellsE x),(g1,26,cellsA a (.slice (some ⟨b,off,none⟩) n c))])∧vs 101=.bool (!zero7 x)) ?_ ?_
      ·unfold zero7;have hc6:=run_load_cell H.out 0 rfl _ _ H6.out;have hc7:=run_load_cell H.out 0 rfl _ _ H7.out;have hc8:=run_load_cell H.out 0 rfl _ _ H8.out;have hc9:=run_load_cell H.out 0 rfl _ _ H9.out;have hc19:=run_load_cell H.out 1 rfl _ _ HC9.out;go_wp2_with fail
       all_goals exact CutP.of rfl (by kernel_rfl) ⟨H,congrArg Value.bool (by first|(simp[*];done)|(simp[bne, *];done)|simp_all)⟩
      rintro vs w8 ⟨H,e101⟩;simp only[putMany,sbA,szA,ssA];rw[e101];clear e101;cases hz:zero7 x with
      |false =>
       have HK:=kp (bad30_at HJL.out (HK.out.trans hz));clear hz;go_wp2_with fail;go_ret;exact⟨congrArg (fun z=>Ending.returned (.bool z)) HK.out.symm,H.out.1⟩
      |true =>
       have HK:=kp (HK.out.trans hz);clear hz;go_wp2_with fail;go_roundw
       case rel=>exact⟨j+1,by omega,by go_num,kp (fun i hi=>by
        rcases Nat.lt_succ_iff_lt_or_eq.1 hi with q|q
        ·exact HT.out i q
        ·subst q;exact HK.out),kp H.out.tl⟩
       case measure=>simp[intOf];omega
     ·by_cases hs2:x.state=2
      ·have HK:=kp (show ok30At a.own l j=mem7 l x j by rw[HOK2.out,if_neg hs1,if_pos hs2]);have hc6:=run_load_cell H.out 0 rfl _ _ H6.out;rw[hs2] at hc6;clear hs1 hs2;go_wp2_with fail;subst h15;refine wp_cut [104,105,106,107,108,109,110,111,112,113,114,115,116,117,118,119,120,121,122,123,124,125,126,127,128] (fun vs w'=>Kp (Loc w w' [(g4,45,cellsE x),(g1,26,cellsA a (.slice (some ⟨b,off,none⟩) n c))])∧vs 128=.bool (!mem7 l x j)) ?_ ?_
       ·unfold mem7;have HA1:=kp (in30_any x.aid 1 255);have HA2:=kp (in30_any x.caps 0 65535);have HA3:=kp (in30_any x.listen 0 65535);generalize inF x.aid 1 255=b1 at *;generalize inF x.caps 0 65535=b2 at *;generalize inF x.listen 0 65535=b3 at *;have HHA:=kp (HHO.out x.aid);generalize holderF l x.aid=hd at *;have hc6:=run_load_cell H.out 0 rfl _ _ H6.out;have hc7:=run_load_cell H.out 0 rfl _ _ H7.out;have hc8:=run_load_cell H.out 0 rfl _ _ H8.out;have hc9:=run_load_cell H.out 0 rfl _ _ H9.out;have hc19:=run_load_cell H.out 1 rfl _ _ HC9.out;go_wp2_with (first|(go_at_call 32;(first|with_reducible refine (HA1.out _).mono ?_|with_reducible refine (HA2.out _).mono ?_|with_reducible refine (HA3.out _).mono ?_);rintro e wa ⟨rfl,hx⟩;replace H:=kp (H.out.ext hx);have HXC:=kp hx;clear hx;have hc6:=run_load_cell H.out 0 rfl _ _ H6.out;have hc7:=run_load_cell H.out 0 rfl _ _ H7.out;have hc8:=run_load_cell H.out 0 rfl _ _ H8.out;have hc9:=run_load_cell H.out 0 rfl _ _ H9.out;have hc19:=run_load_cell H.out 1 rfl _ _ HC9.out)|(go_at_call 63;refine (HHA.out _ H.out.1).mono ?_;rintro e wa ⟨rfl,hx⟩;replace H:=kp (H.out.ext hx);have HXC:=kp hx;clear hx;have hc6:=run_load_cell H.out 0 rfl _ _ H6.out;have hc7:=run_load_cell H.out 0 rfl _ _ H7.out;have hc8:=run_load_cell H.out 0 rfl _ _ H8.out;have hc9:=run_load_cell H.out 0 rfl _ _ H9.out;have hc19:=run_load_cell H.out 1 rfl _ _ HC9.out))
        all_goals exact CutP.of rfl (by kernel_rfl) ⟨H,congrArg Value.bool (by first|(simp[*];done)|(simp[bne, *];done)|simp_all)⟩
       rintro vs w8 ⟨H,e128⟩;simp only[putMany,sbA,szA,ssA];rw[e128];clear e128;cases hz:mem7 l x j with
       |false =>
        have HK:=kp (bad30_at HJL.out (HK.out.trans hz));clear hz;go_wp2_with fail;go_ret;exact⟨congrArg (fun z=>Ending.returned (.bool z)) HK.out.symm,H.out.1⟩
       |true =>
        have HK:=kp (HK.out.trans hz);clear hz;go_wp2_with fail;go_roundw
        case rel=>exact⟨j+1,by omega,by go_num,kp (fun i hi=>by
         rcases Nat.lt_succ_iff_lt_or_eq.1 hi with q|q
         ·exact HT.out i q
         ·subst q;exact HK.out),kp H.out.tl⟩
        case measure=>simp[intOf];omega
      ·have HK:=kp (bad30_at HJL.out (show ok30At a.own l j=false by rw[HOK2.out,if_neg hs1,if_neg hs2]));have hb1:(x.state==1)=false:=by simp[hs1]
       have hb2:(x.state==2)=false:=by simp[hs2]
       have hc6:=run_load_cell H.out 0 rfl _ _ H6.out;go_wp2_with fail;go_ret;exact⟨congrArg (fun z=>Ending.returned (.bool z)) HK.out.symm,H.out.1⟩
   ·obtain rfl:j=n:=by omega
    have HK:=kp (HV2.out.trans (all30_at (own:=a.own) (l:=l) fun k hk=>HT.out k (by rw[HNL.out];exact hk)));go_wp2_with fail;go_ret;exact⟨congrArg (fun z=>Ending.returned (.bool z)) HK.out.symm,H.out.1⟩
set_option maxHeartbeats 6400000 in
theorem find30_any (a:As) (ha:a.own.length=6) (v:Value) (l:List En) (hl:∀ x∈l,x.addr.length=6) (hn:l.length≤100000) (t:List (BitVec 8)) (ht:t.length=6) (w:World) (hs:SlT 11 cellsE w v l) :
  Calls prog 35 #[.agg (cellsA a v).toArray,.agg (t.map V8).toArray] w fun e w'=>e=.returned (.int .i64 (findI l t))∧Ext w w':=by
 obtain⟨ad,n,c,rfl,hnl,hcap,hat⟩:=hs;have HAT:=kp hat;have HNL:=kp hnl;have HLK:=kp hl;have H:=kp (Loc.start w);have hn2:n≤100000:=by omega
 have HTK:=kp ht;have HC9:=kp (cA9 (a:=a) (.slice ad n c) ha);have HZT:=kp (sizeA8a ht);clear hat hl hnl hcap hn ht ha;go_enter func35,ntmps35;go_wp2_with (first|((with_reducible refine isBx 2 26 ?_);(refine xBX H 26 (cellsA a (.slice ad n c)) ?_);clear H;intro g2 w2 HGg2 HEg2 H;simp only[pA])|((with_reducible refine isBx 3 23 ?_);(refine xBX H 23 (t.map V8) ?_);clear H;intro g3 w3 HGg3 HEg3 H;simp only[pA]));go_loopw [5] (fun i wr=>∃ j:Nat,j≤n∧i=.int .i64 j∧Kp (∀ k,k<j→(enAt l k).addr≠t)∧Kp (Loc w wr [(g3,23,t.map V8),(g2,26,cellsA a (.slice ad n c))])) (fun i _=>n-(intOf i).toNat)
 case atStart=>exact⟨0,by omega,rfl,kp (fun k hk=>by omega),H⟩
 case round =>
  obtain⟨j,hj,rfl,HT,H⟩:=hrel;have hc9:=run_load_cell H.out 1 rfl _ _ HC9.out;by_cases hlt:j<n
  ·go_wp2_with fail;clear hc9;obtain⟨x,hx⟩:∃ x,l[j]?=some x:=⟨l[j]'(by rw[←HNL.out];omega),by simp⟩
   obtain⟨b,off,rfl,hb,hr⟩:=HAT.out j x hx;have HB:=kp hb;have HR:=kp hr;have HX:=kp hx;have HXK:=kp (HLK.out x (List.mem_of_getElem? hx));clear hb hr hx;have HZX:=kp (sizeA8 HXK.out)
   have HRX:=kp (show w.rangeAt b (off+j*11) (x.addr.map V8) from fun i v hv=>HR.out i v (by
    have h6:=HXK.out;rw[cellsE,List.getElem?_append_left (by rw[List.length_map,h6];have:=(List.getElem?_eq_some_iff.1 hv).1;rw[List.length_map,h6] at this;exact this)]
    exact hv))
   have heq:=fun w=>eqAddr x.addr t HXK.out HTK.out w;have HJL:=kp (show j<l.length by rw[←HNL.out];exact hlt);cases ho:(x.addr==t) with
   |true =>
    rw[ho] at heq;have HK:=kp (findI_some (t:=t) HJL.out (by rw[enAt_some HX.out];simpa using ho) HT.out);clear ho;refine region_free H (tabS [(13,eT (.pointer (some ⟨g2,9,none⟩))),(14,eT (.slice (some ⟨b,off,none⟩) n c)),(15,eT (.int .i64 j)),(16,eT (.pointer (some ⟨b,off+j*11,none⟩))),(17,eT (.pointer (some ⟨b,off+j*11,none⟩))),(18,eT (.agg (x.addr.map V8).toArray)),(19,eT (.agg (t.map V8).toArray)),(20,eT (.bool true))]) [] (tabS_out _ _ (by simp only[List.forall_mem_cons,mono_eqO,true_and];simp)) 8 (by kernel_rfl) (by kernel_rfl) (by kernel_rfl) (by kernel_rfl) [] [] rfl rfl (by decide) (by decide) (by decide) trivial ?_;simp only[tK];refine rT (fun w_=>by go_wp2_with fail;exact kso) fun v13=>?_;simp only[pA];refine⟨fun w_ o_ S_=>?_,fun v14=>?_⟩
    ·obtain rfl:v13=_:=hsR S_ 13 rfl;clear S_;have H:=kp (kK [0,1] H o_);have HOX:=kp o_;clear o_;have hc:=run_load_cell H.out 1 rfl _ _ HC9.out;go_wp2_with fail;exact kso
    simp only[pA];refine rT (fun w_=>by go_wp2_with fail;exact kso) fun v15=>?_;simp only[pA];refine rP 14 15 rfl rfl (fun w_ e0 e1=>by obtain rfl:v14=_:=e0;obtain rfl:v15=_:=e1;go_wp2_with fail;exact kso) fun v16=>?_;simp only[pA];refine rO 16 rfl (fun w_ e0=>by obtain rfl:v16=_:=e0;go_wp2_with fail;exact kso) fun v17=>?_;simp only[pA];refine⟨fun w_ o_ S_=>?_,fun v18=>?_⟩
    ·obtain rfl:v17=_:=hsR S_ 17 rfl;clear S_;have H:=kp (kK [0,1] H o_);have HOX:=kp o_;clear o_;go_wp2_with ((with_reducible refine isLd 23 ?_);(refine wpList_load_midG (by kernel_rfl) 23 _ rfl (b) (off+j*11) rfl (x.addr.map V8) _ ((rangeAt_ext HRX.out HB.out H.out.1)) underlying23 rfl (HZX.out) ?_);simp only[pA]);exact kso
    simp only[pA];refine⟨fun w_ o_ S_=>?_,fun v19=>?_⟩
    ·clear S_;have H:=kp (kK [0,1] H o_);have HOX:=kp o_;clear o_;go_wp2_with ((with_reducible refine isLd 23 ?_);(refine wpList_load_rowG (by kernel_rfl) 23 _ rfl (g3) rfl 23 (t.map V8).toArray (0,0) _ (H.out.at 0 rfl) underlying23 rfl (HZT.out) ?_);simp only[pA]);exact kso
    simp only[pA];refine rP 18 19 rfl rfl (fun w_ e0 e1=>by obtain rfl:v18=_:=e0;obtain rfl:v19=_:=e1;go_wp2_with fail;exact kso) fun v20=>?_;simp only[pA];clear H;intro w7 HOX H hfin;obtain rfl:v13=_:=hF hfin 13 rfl;obtain rfl:v14=_:=hF hfin 14 rfl;obtain rfl:v15=_:=hF hfin 15 rfl;obtain rfl:v16=_:=hF hfin 16 rfl;obtain rfl:v17=_:=hF hfin 17 rfl;obtain rfl:v18=_:=hF hfin 18 rfl;obtain rfl:v19=_:=hF hfin 19 rfl;obtain rfl:v20=_:=hF hfin 20 rfl;clear hfin;simp only[dR];simp only[applyS] at H;have HXN:=kp (HOX.out.ext (Ext.refl wr) (fun g hg=>by cases hg));clear heq;go_wp2_with fail;go_ret;exact⟨congrArg (fun z=>Ending.returned (.int .i64 z)) HK.out.symm,H.out.1⟩
   |false =>
    rw[ho] at heq
    have HK:=kp (show ∀ k,k<j+1→(enAt l k).addr≠t from fun k hk=>by
     rcases Nat.lt_succ_iff_lt_or_eq.1 hk with q|q
     ·exact HT.out k q
     ·subst q;rw[enAt_some HX.out];simpa using ho)
    clear ho;refine region_free H (tabS [(13,eT (.pointer (some ⟨g2,9,none⟩))),(14,eT (.slice (some ⟨b,off,none⟩) n c)),(15,eT (.int .i64 j)),(16,eT (.pointer (some ⟨b,off+j*11,none⟩))),(17,eT (.pointer (some ⟨b,off+j*11,none⟩))),(18,eT (.agg (x.addr.map V8).toArray)),(19,eT (.agg (t.map V8).toArray)),(20,eT (.bool false))]) [] (tabS_out _ _ (by simp only[List.forall_mem_cons,mono_eqO,true_and];simp)) 8 (by kernel_rfl) (by kernel_rfl) (by kernel_rfl) (by kernel_rfl) [] [] rfl rfl (by decide) (by decide) (by decide) trivial ?_;simp only[tK];refine rT (fun w_=>by go_wp2_with fail;exact kso) fun v13=>?_;simp only[pA];refine⟨fun w_ o_ S_=>?_,fun v14=>?_⟩
    ·obtain rfl:v13=_:=hsR S_ 13 rfl;clear S_;have H:=kp (kK [0,1] H o_);have HOX:=kp o_;clear o_;have hc:=run_load_cell H.out 1 rfl _ _ HC9.out;go_wp2_with fail;exact kso
    simp only[pA];refine rT (fun w_=>by go_wp2_with fail;exact kso) fun v15=>?_;simp only[pA];refine rP 14 15 rfl rfl (fun w_ e0 e1=>by obtain rfl:v14=_:=e0;obtain rfl:v15=_:=e1;go_wp2_with fail;exact kso) fun v16=>?_;simp only[pA];refine rO 16 rfl (fun w_ e0=>by obtain rfl:v16=_:=e0;go_wp2_with fail;exact kso) fun v17=>?_;simp only[pA];refine⟨fun w_ o_ S_=>?_,fun v18=>?_⟩
    ·obtain rfl:v17=_:=hsR S_ 17 rfl;clear S_;have H:=kp (kK [0,1] H o_);have HOX:=kp o_;clear o_;go_wp2_with ((with_reducible refine isLd 23 ?_);(refine wpList_load_midG (by kernel_rfl) 23 _ rfl (b) (off+j*11) rfl (x.addr.map V8) _ ((rangeAt_ext HRX.out HB.out H.out.1)) underlying23 rfl (HZX.out) ?_);simp only[pA]);exact kso
    simp only[pA];refine⟨fun w_ o_ S_=>?_,fun v19=>?_⟩
    ·clear S_;have H:=kp (kK [0,1] H o_);have HOX:=kp o_;clear o_;go_wp2_with ((with_reducible refine isLd 23 ?_);(refine wpList_load_rowG (by kernel_rfl) 23 _ rfl (g3) rfl 23 (t.map V8).toArray (0,0) _ (H.out.at 0 rfl) underlying23 rfl (HZT.out) ?_);simp only[pA]);exact kso
    simp only[pA];refine rP 18 19 rfl rfl (fun w_ e0 e1=>by obtain rfl:v18=_:=e0;obtain rfl:v19=_:=e1;go_wp2_with fail;exact kso) fun v20=>?_;simp only[pA];clear H;intro w7 HOX H hfin;obtain rfl:v13=_:=hF hfin 13 rfl;obtain rfl:v14=_:=hF hfin 14 rfl;obtain rfl:v15=_:=hF hfin 15 rfl;obtain rfl:v16=_:=hF hfin 16 rfl;obtain rfl:v17=_:=hF hfin 17 rfl;obtain rfl:v18=_:=hF hfin 18 rfl;obtain rfl:v19=_:=hF hfin 19 rfl;obtain rfl:v20=_:=hF hfin 20 rfl;clear hfin;simp only[dR];simp only[applyS] at H;have HXN:=kp (HOX.out.ext (Ext.refl wr) (fun g hg=>by cases hg));clear heq;go_wp2_with fail;go_roundw
    case rel=>exact⟨j+1,by omega,by go_num,HK,H⟩
    case measure=>simp[intOf];omega
  ·obtain rfl:j=n:=by omega
   have HK:=kp (findI_none (t:=t) (l:=l) fun k hk=>HT.out k (by rw[HNL.out];exact hk));go_wp2_with fail;go_ret;exact⟨congrArg (fun z=>Ending.returned (.int .i64 z)) HK.out.symm,H.out.1⟩
end Go.Proofs.YtfecopfofkdnpaaGreat
