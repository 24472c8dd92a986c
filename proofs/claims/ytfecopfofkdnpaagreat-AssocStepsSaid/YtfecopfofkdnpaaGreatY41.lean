/- Texts of this proof, put together: Rh4, OpS, Rh5. -/
import Derived.Test.YtfecopfofkdnpaaGreatY40
import Derived.Laws.BytesArg
import Derived.Test.YtfecopfofkdnpaaGreatY19
import Derived.Test.YtfecopfofkdnpaaGreatY21
import Derived.Test.YtfecopfofkdnpaaGreatY4
import Derived.Test.YtfecopfofkdnpaaGreatY1
namespace Go.Proofs.YtfecopfofkdnpaaGreat
open Go.RowKit Tryz
def strF (b:By):ByteArray:=strOfNums (b.map wI)
theorem run_str {w:World} {v:Value} {b:By} (h:SlB w v b):(convert 29 9 v).run prog w=.ok (.string (strF b)) w:=by
 have hz:∀ (p:Option Addr) (c:Nat),(convert 29 9 (.slice p 0 c)).run prog w=.ok (.string (strF [])) w:=fun p c=>by
  rw[run_convert_bytes_string w 29 9 5 _ 0 c underlying29 underlying5 underlying9];cases p <;> simp[Conv.bytesToString,loadCells]
  all_goals rfl
 rcases h with ⟨rfl,rfl|⟨a,c,rfl⟩⟩|⟨g,o,c,rfl,_,hc⟩
 ·exact hz _ _
 ·exact hz _ _
 ·refine run_convert_bytes_arg w 29 5 underlying29 underlying5 g o b.length c (b.map wI) (by simp) (fun i hi=>?_) 9 underlying9;have hx:b[i]?=some b[i]:=by simp[hi]
  rw[hc i _ hx,List.getD_eq_getElem?_getD,List.getElem?_map,hx];rfl
theorem L_str {ops:Array Oper} {rest:List Oper} {o:Oper} {a:Act} {w:World} {Q:Exit→Act→World→Prop} (hgd:Region.wanted o (yielded ops a.tmps)=true) (x:Operand) (ho:o.op=.convert 29 9 x) (y:Value) (hx:a.eval x=y) (b:By) (hb:SlB w y b)
  (h:wpList prog ops Q rest (a.put o.dst (.string (strF b))) w):wpList prog ops Q (o::rest) a w:=by
 refine wpList_step fun K hK=>?_;rw[if_pos hgd];have hrun:=run_str hb;unfold Oper.wp execOp;simp only[ho,hx,Sem.run_bind,Sem.run_pure,hrun,Result.andThen_ok];exact hK _ _ h
theorem eqHdT (w:World) (x:Hd) (hx:x.Ok):(binOp .eql 28 (.agg (cat (partsH x hx)).toArray) (.agg (cat (partsH x hx)).toArray)).run prog w=.ok (.bool true) w:=by
 rw[←cat_H x hx,run_eql_struct,eqHdIn w x x hx hx];simp[Result.andThen]
set_option maxRecDepth 4000 in
set_option maxHeartbeats 1600000 in
theorem sameR5_any (h:Hd) (ok:h.Ok) (a1:Option Addr) (n1 c1:Nat) (a2:Option Addr) (n2 c2:Nat) (b:By) (w:World) (hs1:SlB w (.slice a1 n1 c1) b) (hs2:SlB w (.slice a2 n2 c2) b) :
  Calls prog 10 #[.agg (cat (partsFr h ok a1 n1 c1)).toArray,.agg (cat (partsFr h ok a2 n2 c2)).toArray] w fun e w'=>e=.returned (.bool true)∧Ext w w':=by
 have H:=kp (Loc.start w);have HS1:=kp hs1;have HS2:=kp hs2;have HGT:=kp Tryz.eqGuardType28;have HEQ:=kp (fun W=>eqHdT W h ok);clear hs1 hs2;go_enter func10,ntmps10;go_wp2_with (first|((with_reducible refine isBx 2 31 ?_);(refine xBX H 31 (cat (partsFr h ok a1 n1 c1)) ?_);clear H;intro g2 w2 HGg2 HEg2 H;simp only[pA])|((with_reducible refine isBx 3 31 ?_);(refine xBX H 31 (cat (partsFr h ok a2 n2 c2)) ?_);clear H;intro g3 w3 HGg3 HEg3 H;simp only[pA])|((with_reducible refine isLd 28 ?_);(first|(refine xFG H 28 0 (partsH h ok) underlying28 ?_)|(refine xFG H 28 1 (partsH h ok) underlying28 ?_)|(refine xFG H 28 2 (partsH h ok) underlying28 ?_)|(refine xFG H 28 3 (partsH h ok) underlying28 ?_)|(refine xFG H 28 4 (partsH h ok) underlying28 ?_)|(refine xFG H 28 5 (partsH h ok) underlying28 ?_));simp only[pA])|((with_reducible show wpList _ _ _ (Oper.mk _ (Op.binOp .eql 28 _ _ _) _ _ _ _::_) _ _);refine wpList_bin (by kernel_rfl) .eql 28 28 _ _ rfl (.agg (cat (partsH h ok)).toArray) (.agg (cat (partsH h ok)).toArray) (.bool true) rfl rfl (run_eqGuard_agg _ _ _ _ _ _ _ HGT.out) (HEQ.out _) ?_;simp only[pA])|((with_reducible refine isLd 29 ?_);(first|(refine xF1 H 29 0 underlying29 ?_)|(refine xF1 H 29 1 underlying29 ?_)|(refine xF1 H 29 2 underlying29 ?_)|(refine xF1 H 29 3 underlying29 ?_)|(refine xF1 H 29 4 underlying29 ?_)|(refine xF1 H 29 5 underlying29 ?_));simp only[pA])|((with_reducible show wpList _ _ _ (Oper.mk _ (Op.convert 29 9 (.tmp 12)) _ _ _ _::_) _ _);refine L_str (by kernel_rfl) _ rfl _ rfl b (HS1.out.ext H.out.1) ?_;simp only[pA])|((with_reducible show wpList _ _ _ (Oper.mk _ (Op.convert 29 9 (.tmp 15)) _ _ _ _::_) _ _);refine L_str (by kernel_rfl) _ rfl _ rfl b (HS2.out.ext H.out.1) ?_;simp only[pA]));go_ret;exact⟨by simp,H.out.1⟩
theorem do_outs {a:As} (ha:a.own.length=6) {l:List En} (hl:L6 l) (s:Stp) (ok:s.Ok):(∀ o∈(doF a l s).2.1,o.1.Ok)∧(doF a l s).2.1.length≤64:=by
 have hm:∀ t sub (b:By),t.length=6→subsA sub→(∀ o∈[((msgH a t sub,b):Fm)],o.1.Ok):=fun t sub b ht hs o ho=>by
  rw[List.mem_singleton.1 ho];exact msg_ok ha ht (by rcases hs with q|q|q|q|q <;> omega) (by rcases hs with q|q|q|q|q <;> omega)
 unfold doF
 split
 ·obtain⟨h1,h2⟩:=handle_ans a l s.h s.b s.now;refine⟨fun o ho=>?_,by omega⟩;obtain⟨sub,hs,he,_⟩:=h2 o ho;rw[he];exact msg_ok ha ok.h.l2 (by rcases hs with q|q|q|q|q <;> omega) (by rcases hs with q|q|q|q|q <;> omega)
 ·split
  ·unfold tickF
   split
   ·exact⟨fun o ho=>(by cases ho),Nat.zero_le _⟩
   ·rename_i hv
    split
    ·exact⟨fun o ho=>(by cases ho),Nat.zero_le _⟩
    ·refine⟨fun o ho=>?_,?_⟩
     ·obtain⟨x,hx,rfl⟩:=List.mem_map.1 ho;exact msg_ok ha (hl x (List.mem_filter.1 hx).1) (by decide) (by decide)
     ·have hv2:validA a l=true:=by simpa using hv
      have:=ok_len ((valid_iff a l).1 hv2);rw[List.length_map];exact Nat.le_trans (List.length_filter_le _ _) this
  ·split
   ·unfold removeF
    split
    ·exact⟨fun o ho=>(by cases ho),Nat.zero_le _⟩
    ·split
     ·exact⟨fun o ho=>(by cases ho),Nat.zero_le _⟩
     ·exact⟨hm s.sta 12 (two16 8) ok.sta (by simp[subsA]),by simp⟩
   ·split
    ·exact⟨fun o ho=>(by cases ho),Nat.zero_le _⟩
    ·exact⟨fun o ho=>(by cases ho),Nat.zero_le _⟩
def SamR (n:Nat) (w:World) (vs:Tmp→Value) (wr:World):Prop:=∃ j:Nat,j≤n∧vs 5=.int .i64 j∧Kp (Loc w wr [])
set_option maxRecDepth 4000 in
set_option maxHeartbeats 1600000 in
theorem sameAll_any (B1 B2:Nat) (outs:List Fm) (hok:∀ o∈outs,o.1.Ok) (hn:outs.length≤64) (v1 v2:Value) (w:World) (h1:FrS B1 outs v1 w) (h2:FrS B2 outs v2 w) :
  Calls prog 9 #[v1,v2] w fun e w'=>e=.returned (.bool true)∧Ext w w':=by
 have H:=kp (Loc.start w);have HOKS:=kp hok;obtain⟨a1,n1,c1,rfl,hl1,hc1,hat1⟩:=frs_at h1 hok;obtain⟨a2,n2,c2,rfl,hl2,hc2,hat2⟩:=frs_at h2 hok;have HAT1:=kp hat1;have HAT2:=kp hat2;obtain rfl:n1=n2:=hl1.trans hl2.symm;have HNL:=kp hl1;have hn64:n1≤64:=by omega
 clear h1 h2 hl1 hl2 hat1 hat2 hn hok;go_enter func9,ntmps9;go_wp2_with fail;refine wp_loopC (5::11::12::13::14::15::16::17::18::19::20::21::22::23::24::25::26::[]) (SamR n1 w) (fun vs _=>n1-(intOf (vs 5)).toNat) (by kernel_rfl) ⟨0,Nat.zero_le _,rfl,H⟩ ?_;clear H;rintro vs wr ⟨j,hj,q5,H⟩;simp only[putMany,sbA,szA,ssA];rw[q5];clear q5;generalize h6:Code.region 6 _ _=R6;by_cases hlt:j<n1
 ·obtain⟨o,ho⟩:∃ o,outs[j]?=some o:=⟨outs[j]'(by rw[←HNL.out];exact hlt),by simp⟩
  have HOK:=kp (HOKS.out o (List.mem_of_getElem? ho));obtain⟨b1,bd1,bn1,bc1,e1,hb1,hr1,hw1⟩:=HAT1.out j o ho;obtain⟨b2,bd2,bn2,bc2,e2,hb2,hr2,hw2⟩:=HAT2.out j o ho;subst e1 e2;have HR1:=kp (fun V (hV:Ext w V)=>show V.rangeAt b1 (j*41) (cat (partsFr o.1 HOK.out bd1 bn1 bc1)) from fr_cells o.1 HOK.out bd1 bn1 bc1▸rangeAt_ext hr1 hb1 hV);have HR2:=kp (fun V (hV:Ext w V)=>show V.rangeAt b2 (j*41) (cat (partsFr o.1 HOK.out bd2 bn2 bc2)) from fr_cells o.1 HOK.out bd2 bn2 bc2▸rangeAt_ext hr2 hb2 hV);have HSA:=kp (fun V (hV:Ext w V)=>sameR5_any o.1 HOK.out bd1 bn1 bc1 bd2 bn2 bc2 o.2 V (SlB.of_owns (owns_ext hw1 hV)) (SlB.of_owns (owns_ext hw2 hV)));clear ho hb1 hr1 hw1 hb2 hr2 hw2;go_wp2_with fail;subst h6;refine xRZ H 10 ?_;apply Exists.intro;refine⟨fun xz2=>?_,fun wz2 HXZ H=>?_⟩
  ·simp only[tK];unfold Cx;repeat (first|(((with_reducible show wpQuiet _ _ _ _ (Oper.mk _ (Op.load 31 (.tmp 19)) _ _ _ _::_) _);go_big_quiet_want;refine qz_r 31 _ rfl b1 (j*41) rfl (cat (partsFr o.1 HOK.out bd1 bn1 bc1)) (fun W hx=>HR1.out W (H.out.1.trans hx)) underlying31 rfl (by rw[cat_len];kernel_rfl) ?_;simp only[pA];go_big_quiet_on))|(((with_reducible show wpQuiet _ _ _ _ (Oper.mk _ (Op.load 31 (.tmp 23)) _ _ _ _::_) _);go_big_quiet_want;refine qz_r 31 _ rfl b2 (j*41) rfl (cat (partsFr o.1 HOK.out bd2 bn2 bc2)) (fun W hx=>HR2.out W (H.out.1.trans hx)) underlying31 rfl (by rw[cat_len];kernel_rfl) ?_;simp only[pA];go_big_quiet_on))|go_big_quiet_step (exact Calls.cx_of (HSA.out _ (H.out.1.trans (Ext.more _ _)))))
   exact wpQuiet_nil rfl
  simp only[dR];go_wp2_with fail;exact LoopP.of rfl (by kernel_rfl) ⟨j+1,by omega,by simp,H⟩ (by simp[intOf];omega)
 ·obtain rfl:j=n1:=by omega
  go_wp2_with fail;go_ret;exact⟨rfl,H.out.1⟩
end Go.Proofs.YtfecopfofkdnpaaGreat
namespace Go.Proofs.YtfecopfofkdnpaaGreat
open Go.RowKit Go.WideShapes Tryz
abbrev SI:=Stp × Option Addr × Nat
def cellsSI (x:SI):List Value:=.int .i64 x.1.kind::.int .i64 x.1.now::(cellsF x.1.h (.slice x.2.1 x.1.b.length x.2.2)++x.1.sta.map V8)
structure SIOk (w:World) (x:SI):Prop where
 ok:x.1.Ok
 le:x.1.b.length≤x.2.2
 b:SlB w (.slice x.2.1 x.1.b.length x.2.2) x.1.b
theorem cat_SI (x:SI) (ok:x.1.Ok):cellsSI x=cat (partsS x.1 ok x.2.1 x.1.b.length x.2.2):=by
 unfold cellsSI partsS;rw[cat_cons,cat_cons,cat_append,←cat_Fr];simp[cellsF,cat]
section
variable {H:Type} {enc:TypeId × Value→H} {w:World} {base:Nat} {cs:List Value}
theorem Tr.step (h:Tr enc prog w base 33 cs):∃ x:SI,SIOk w x∧cs=cellsSI x:=by
 have hl:=h.len underlying33 49 (by kernel_rfl);obtain⟨k,h0,_⟩:=(h.field underlying33 0 3 0 1 rfl (by kernel_rfl)).int underlying3;obtain⟨n,h1,_⟩:=(h.field underlying33 1 3 1 1 rfl (by kernel_rfl)).int underlying3;obtain⟨x,ad,cap,l,hx,q1,q2,q3,q4,h2⟩:=Tr.frame (h.field underlying33 2 31 2 41 rfl (by kernel_rfl));obtain⟨a,la,h3⟩:=Tr.addr (h.field underlying33 3 23 43 6 rfl (by kernel_rfl));refine⟨(⟨k,n,x,l,a⟩,ad,cap),⟨⟨hx,la⟩,q1,q4⟩,?_⟩;have hend:cs.drop 49=[]:=List.drop_eq_nil_of_le (by omega);rw[show cs=cs.drop 0 from rfl,peel h0,peel h1,peel h2,peel h3];simp only[Nat.reduceAdd,hend,List.append_nil,cellsSI,List.cons_append,List.nil_append]
end
set_option maxRecDepth 10000 in
theorem open_step {H:Type} {enc:TypeId × Value→H} {w:World} {r:Reach} {b0 base:Nat} {v:Value} {d:DataW H} {p:List MemPlace}
  (hv:Value.okWide prog w r b0 33 v) (h:DataW.Trod enc prog w base (fun _=>true) true 33 v d p):∃ x:SI,SIOk w x∧v=.agg (cellsSI x).toArray:=by
 obtain⟨cs,hcs,_⟩:=okWide_struct (P:=prog) underlying33 hv;have ht:=Tr.of h;rw[hcs] at ht;obtain⟨x,h1,h6⟩:=ht.step;refine⟨x,h1,?_⟩;have h6:cs.toList=cellsSI x:=h6;rw[hcs,←h6]
theorem ok_ents {a:As} {l:List En} (h:OkL a l) (hl:L6 l):∀ e∈l,e.Ok:=fun e he=>by
 refine⟨hl e he,?_,?_⟩ <;> rcases ent_cases (h.ent e he) with q|q <;> omega
theorem do_list {a:As} {l:List En} (hl:L6 l) (s:Stp) (ok:s.Ok):(∀ e∈(doF a l s).1,e.Ok)∧(doF a l s).1.length≤64:=by
 have hz:(∀ e∈([]:List En),e.Ok)∧([]:List En).length≤64:=⟨fun e he=>(by cases he),Nat.zero_le _⟩
 have hg:∀ l':List En,OkL a l'→L6 l'→(∀ e∈l',e.Ok)∧l'.length≤64:=fun l' h1 h2=>⟨ok_ents h1 h2,ok_len h1⟩
 cases hv:validA a l with
 |false =>
  unfold doF handleF tickF removeF admitF;rw[hv]
  split
  ·exact hz
  ·split
   ·exact hz
   ·split
    ·exact hz
    ·split <;> exact hz
 |true =>
  have hok:=(valid_iff a l).1 hv;unfold doF
  split
  ·by_cases he:(handleF dA dJ dL a l s.h s.b s.now).2.2=0
   ·obtain⟨h1,h2,_⟩:=handle_ok hok hl ok.h he;exact hg _ h1 h2
   ·rw[(handle_zero a l s.h s.b s.now he).1];exact hz
  ·split
   ·by_cases he:(tickF a l s.now).2.2=0
    ·obtain⟨_,h1,h2,_⟩:=tick_ok hok hl he;exact hg _ h1 h2
    ·unfold tickF at he ⊢
     split
     ·exact hz
     ·split
      ·exact hz
      ·rename_i c1 c2;rw[if_neg c1,if_neg c2] at he;exact absurd rfl he
   ·split
    ·by_cases he:(removeF a l s.sta).2.2=0
     ·obtain⟨_,h1,h2,_⟩:=remove_ok hok hl he;exact hg _ h1 h2
     ·unfold removeF at he ⊢
      split
      ·exact hz
      ·split
       ·exact hz
       ·rename_i c1 c2;rw[if_neg c1,if_neg c2] at he;exact absurd rfl he
    ·split
     ·by_cases he:(admitF a l s.sta s.now).2.2=0
      ·obtain⟨_,_,h1,h2,_⟩:=admit_ok hok hl ok.sta he;exact hg _ h1 h2
      ·unfold admitF at he ⊢
       split
       ·exact hz
       ·split
        ·exact hz
        ·split
         ·exact hz
         ·rename_i c1 c2 c3;rw[if_neg c1,if_neg c2,if_neg c3] at he;exact absurd rfl he
     ·exact hz
theorem sameT_any (a b:As) (ha:a.own.length=6) (hb:b.own.length=6) (hab:b=a) (ad1:Option Addr) (n1 c1:Nat) (ad2:Option Addr) (n2 c2:Nat) (l:List En) (hl:∀ x∈l,x.Ok) (hn:l.length≤100000) (w:World) (hs:SlT 11 cellsE w (.slice ad1 n1 c1) l) (hs':SlT 11 cellsE w (.slice ad2 n2 c2) l) :
  Calls prog 8 #[.agg (cat (partsA a ha ad1 n1 c1)).toArray,.agg (cat (partsA b hb ad2 n2 c2)).toArray] w fun e w'=>e=.returned (.bool true)∧Ext w w':=by
 subst hab;have h:=same_any b b ha hb _ _ l l hl hl hn hn w hs hs';rw[show sameF b l b l=true by simp[sameF,sameH],cat_A b ha,cat_A b hb] at h;exact h
theorem Loc.two {w0 w:World} {bs:List Bk} {B g5 g6 T5 T6:Nat} {c5 c6:List Value} (H:Loc w0 w bs) (hB:∀ g∈bs.map (·.1),g<B) (h0:w0.heap.size≤B) (h5:B≤g5) (l5:Lc w g5 T5 c5) (h6:B≤g6) (l6:Lc w g6 T6 c6) (hne:g6≠g5):Loc w0 w ((g6,T6,c6)::(g5,T5,c5)::bs):=by
 refine⟨H.1,?_,fun b hb=>?_⟩
 ·simp only[List.map_cons,List.nodup_cons,List.mem_cons,not_or];exact⟨⟨hne,fun q=>by have:=hB g6 q;omega⟩,fun q=>by have:=hB g5 q;omega,H.2.1⟩
 ·rcases List.mem_cons.1 hb with rfl|hb
  ·exact⟨Nat.le_trans h0 h6,l6⟩
  ·rcases List.mem_cons.1 hb with rfl|hb
   ·exact⟨Nat.le_trans h0 h5,l5⟩
   ·exact H.2.2 b hb
theorem own_ne {B g T:Nat} {w:World} {v:Value} {l:List En} {cs:List Value} (ho:OwE B w v l) (hl:Lc w g T cs) (hT:45≠T):v.ownBlock≠some g:=by
 intro e;obtain⟨_,⟨r1,_⟩|⟨g1,c1,q1,r1,_,hg1,_⟩⟩:=ho
 ·rw[r1] at e;cases e
 ·rw[r1] at e;cases e;rw[Lc,hg1] at hl;cases hl;exact hT rfl
def TwV (h:Hd) (ok:h.Ok) (b:By) (B:Nat) (v:Value) (w:World):Prop:=∃ ad n c,v=.agg (cat (partsFr h ok ad n c)).toArray∧OwB B w (.slice ad n c) b
theorem mono_TwV (h:Hd) (ok:h.Ok) (b:By) (B:Nat):MonoO [] (TwV h ok b B):=fun _ _ _ ⟨ad,n,c,h1,h2⟩ ho=>⟨ad,n,c,h1,owns_ext h2 (out_ext ho)⟩
def NewV (B T:Nat) (cs:List Value) (v:Value) (w:World):Prop:=∃ g,v=.pointer (some ⟨g,0,none⟩)∧B≤g∧Lc w g T cs
theorem mono_NewV (B T:Nat) (cs:List Value):MonoO [] (NewV B T cs):=fun _ _ _ ⟨g,h1,h2,h3⟩ ho=>⟨g,h1,h2,h3.ext (out_ext ho)⟩
def LsR (n2 c2 bb:Nat) (w4:World) (bs:List Bk) (vs:Tmp→Value) (wr:World):Prop:=∃ (j:Nat) (cs:List Value),j≤n2∧vs 14=.int .i64 j∧cs.length=c2*11∧Kp (Loc w4 wr ((bb,45,cs)::bs))
set_option maxRecDepth 6000 in
set_option maxHeartbeats 6400000 in
theorem assocSteps_walk (a:As) (ha:a.own.length=6) (u:Value) (l:List En) (hl:∀ x∈l,x.Ok) (hn:l.length≤9223372036854775807) (x:SI) (w:World) (hsl:SlT 11 cellsE w u l) (hx:SIOk w x) :
  Calls prog 3 #[.agg (cellsA a u).toArray,.agg (cellsSI x).toArray] w fun e w'=>e=.returned (.bool true)∧Ext w w':=by
 obtain⟨s,fa,fc⟩:=x;obtain⟨hok,hfc,hsb⟩:=hx;rw[cat_SI _ hok];dsimp only at hok hfc hsb ⊢;have hl6:L6 l:=fun x hx=>(hl x hx).l;obtain⟨ad,n,c,rfl,hnl,-⟩:=id hsl;rw[cat_A a ha];have HLO:=kp hl;have HL6:=kp hl6;obtain⟨fn,hfn⟩:∃ fn,fn=s.b.length:=⟨_,rfl⟩
 have hfs:s.b.length=fn:=hfn.symm;rw[hfs] at hfc hsb ⊢;have H:=kp (Loc.start w);have HSL:=kp hsl;have HSB:=kp hsb;have HOKS:=kp hok;have HGR:=kp (fun W=>great5_any s.h hok.h fa fn fc W);rw[fr_cells s.h hok.h] at HGR;by_cases h100:n≤100
 ·have h100i:¬ (100:Int)<(n:Int):=by omega
  by_cases hg:fn≤2400
  ·rw[show decide (2400<fn)=false from decide_eq_false (by omega)] at HGR;have hl64:l.length≤100000:=by omega
   have HDL:=kp (do_list (a:=a) hl6 s hok);have HDU:=kp (do_outs ha hl6 s hok);obtain⟨r,hr⟩:∃ r,r=doF a l s:=⟨_,rfl⟩
   have HDO:=kp (fun W (hW:Ext w W)=>do_any a ha l hl6 hl64 ad n c s hok fa fn fc (by omega) hfc W (hsl.ext hW) (hsb.ext hW));have HDR:=kp (fun W (hW:Ext w W)=>doR_any a ha l hl6 hl64 ad n c s hok fa fn fc (by omega) hfc W (hsl.ext hW) (hsb.ext hW));rw[←hr] at HDO HDR HDL HDU;have HTW:=kp (fun W (hW:Ext w W)=>twinR_any s.h hok.h fa fn fc s.b (by omega) W (hsb.ext hW));have O0:=kp (okM (sub:=0) (t1:=zero6) (o2:=zero6) (o3:=zero6) rfl rfl rfl (by decide) (by decide));have HLN:=kp (show l.length≤1000000∧l.length*40≤140737488355328∧l.length≤100000 by omega);clear hsl hsb hl hn hr hl6 hl64 hfn hfs hnl;go_enter func3,ntmps3;generalize h3:Code.region 3 _ _=R3;generalize h5:Code.region 5 _ _=R5;generalize h7:Code.region 7 _ _=R7;generalize h12:Code.region 12 _ _=R12;go_wp2_with (first|((with_reducible refine isBx 2 26 ?_);(refine xBX H 26 (cat (partsA a ha ad n c)) ?_);clear H;intro g2 w2 HGg2 HEg2 H;simp only[pA])|((with_reducible refine isBx 3 33 ?_);(refine xBX H 33 (cat (partsS s HOKS.out fa fn fc)) ?_);clear H;intro g3 w3 HGg3 HEg3 H;simp only[pA])|((with_reducible refine isLd 24 ?_);(refine xF1 H 24 1 underlying24 ?_);simp only[pA])|((with_reducible refine isLd 31 ?_);(refine xFG H 31 0 (partsFr s.h HOKS.out.h fa fn fc) underlying31 ?_);simp only[pA])|(go_at_call 4;refine (HGR.out _).mono ?_;rintro e wg ⟨rfl,hx⟩;replace H:=kp (H.out.ext hx);have HXC:=kp hx;clear hx));have hbq:=H.out.base;obtain⟨B7,hb0,hbl,hbw⟩:=hbq;have HB0:=kp hb0;have HBL:=kp hbl;have HBW:=kp hbw;clear hb0 hbl hbw;subst h3;refine region_free2 H 6 (tabS [(24,eT (.agg (cat (partsA a ha ad n c)).toArray)),(25,eT (.pointer (some ⟨g3,2,none⟩))),(26,eT (.agg (cat (partsFr s.h HOKS.out.h fa fn fc)).toArray)),(27,fun vQ wQ=>TwV s.h HOKS.out.h s.b B7 vQ wQ),(5,fun vQ wQ=>NewV B7 26 (cat (partsA as0 rfl none 0 0)) vQ wQ),(6,fun vQ wQ=>NewV B7 31 (cat (partsFr (hdM 0 zero6 zero6 zero6) O0.out none 0 0)) vQ wQ)]) [5,6] (fun d hd v w h=>by simp only[List.mem_cons,List.not_mem_nil,or_false] at hd;rcases hd with rfl|rfl;all_goals (obtain⟨g,h1,h2⟩:=h;exact⟨g,h1,h2.2.lt⟩)) (by kernel_rfl) [] (tabS_out _ _ (by simp only[List.forall_mem_cons,mono_eqO,true_and];exact⟨(mono_TwV _ _ _ _),(mono_NewV _ _ _),(mono_NewV _ _ _),by simp⟩)) (by kernel_rfl) (by kernel_rfl) (by kernel_rfl) (by kernel_rfl) [] [] rfl rfl (by decide) (by decide) (by decide) trivial ?_;simp only[tK];refine⟨fun w_ o_ S_=>?_,fun v24=>?_⟩
   ·clear S_;have H:=kp (kK [0,1] H o_);have HOX:=kp o_;clear o_;go_wp2_with ((with_reducible refine isLd 26 ?_);(refine xFA H 26 1 underlying26 ?_);simp only[pA]);exact⟨rfl,_,rfl,fun d hd=>by cases hd;exact⟨rfl,fun hA=>absurd hA (by decide)⟩,Ext.refl _⟩
   simp only[pA];refine rT (fun w_=>by go_wp2_with fail;exact⟨rfl,_,rfl,fun d hd=>by cases hd;exact⟨rfl,fun hA=>absurd hA (by decide)⟩,Ext.refl _⟩) fun v25=>?_;simp only[pA];refine⟨fun w_ o_ S_=>?_,fun v26=>?_⟩
   ·obtain rfl:v25=_:=hsR S_ 25 rfl;clear S_;have H:=kp (kK [0,1] H o_);have HOX:=kp o_;clear o_;go_wp2_with ((with_reducible refine isLd 31 ?_);(refine xFG H 31 0 (partsFr s.h HOKS.out.h fa fn fc) underlying31 ?_);simp only[pA]);exact⟨rfl,_,rfl,fun d hd=>by cases hd;exact⟨rfl,fun hA=>absurd hA (by decide)⟩,Ext.refl _⟩
   simp only[pA];refine⟨fun w_ o_ S_=>?_,fun v27=>?_⟩
   ·obtain rfl:v26=_:=hsR S_ 26 rfl;clear S_;have H:=kp (kK [0,1] H o_);have HOX:=kp o_;clear o_;go_wp2_with fail;refine (HTW.out _ H.out.1).mono ?_;rintro e w2 ⟨td,tn,tc,rfl,ho,hx⟩;have HAV:=kp (show TwV s.h HOKS.out.h s.b B7 _ w2 from⟨td,tn,tc,rfl,owns_weak ho (HBW.out _ (out_ext HOX.out))⟩);have HXC:=kp hx;clear ho hx;go_wp2_with fail;exact⟨rfl,_,rfl,fun d hd=>by cases hd;exact⟨HAV.out,fun hA=>absurd hA (by decide)⟩,HXC.out⟩
   simp only[pA];refine⟨fun w_ o_ S_=>?_,fun v5=>?_⟩
   ·clear S_;have H:=kp (kK [0,1] H o_);have HOX:=kp o_;clear o_;go_wp2_with ((with_reducible refine isAl 5 26 ?_);(refine xAL H 26 (cat (partsA as0 rfl none 0 0)) ?_);clear H;intro g5 w5 HGg5 HEg5 H;simp only[pA]);exact⟨rfl,.pointer (some ⟨g5,0,none⟩),rfl,fun d hd=>by cases hd;exact⟨⟨g5,rfl,(by rw[HGg5.out];exact HBW.out _ (out_ext HOX.out)),H.out.at 0 rfl⟩,fun _=>⟨g5,rfl,Nat.le_of_eq HGg5.out.symm⟩⟩,HEg5.out⟩
   simp only[pA];refine⟨fun w_ o_ S_=>?_,fun v6=>?_⟩
   ·clear S_;have H:=kp (kK [0,1] H o_);have HOX:=kp o_;clear o_;go_wp2_with ((with_reducible refine isAl 6 31 ?_);(refine xAL H 31 (cat (partsFr (hdM 0 zero6 zero6 zero6) O0.out none 0 0)) ?_);clear H;intro g6 w6 HGg6 HEg6 H;simp only[pA]);exact⟨rfl,.pointer (some ⟨g6,0,none⟩),rfl,fun d hd=>by cases hd;exact⟨⟨g6,rfl,(by rw[HGg6.out];exact HBW.out _ (out_ext HOX.out)),H.out.at 0 rfl⟩,fun _=>⟨g6,rfl,Nat.le_of_eq HGg6.out.symm⟩⟩,HEg6.out⟩
   simp only[pA];clear H;intro w3z HOX H hfin hdis;have FD:=kp (show v5≠v6 from hdis 5 (by decide) 6 (by decide) (by decide));clear hdis;obtain rfl:v24=_:=hF hfin 24 rfl;obtain rfl:v25=_:=hF hfin 25 rfl;obtain rfl:v26=_:=hF hfin 26 rfl;have F27:=kp (show TwV s.h HOKS.out.h s.b B7 v27 w3z from hfin 27 (by decide));have F5:=kp (show NewV B7 26 (cat (partsA as0 rfl none 0 0)) v5 w3z from hfin 5 (by decide));have F6:=kp (show NewV B7 31 (cat (partsFr (hdM 0 zero6 zero6 zero6) O0.out none 0 0)) v6 w3z from hfin 6 (by decide));clear hfin;simp only[dR];simp only[applyS] at H;have HXN:=kp (HOX.out.ext (Ext.refl _) (fun g hg=>by cases hg));obtain⟨td,tn,tc,rfl,hot⟩:=F27.out;obtain⟨g5,rfl,hg5,hl5⟩:=F5.out;obtain⟨g6,rfl,hg6,hl6⟩:=F6.out;have HOT:=kp hot;have hd56:g6≠g5:=fun e=>FD.out (by rw[e]);have HA:=kp (H.out.two HBL.out HB0.out hg5 hl5 hg6 hl6 hd56);clear H F27 F5 F6 FD hot hd56 hg5 hg6 hl5 hl6;have H:=HA;clear HA;go_wp2_with (first|((with_reducible refine isSu 26 5 ?_);have HG5:=kp (H.out.at 1 rfl);((with_reducible refine isSt 26 ?_);refine xSA H 26 1 (partsA a ha ad n c) ?_;clear H;intro w5b HWw5b H;simp only[ssA,szA] at H);have HOT5:=kp (owns_wroteT HOT.out HWw5b.out HG5.out (by decide:5≠26)))|((with_reducible refine isSu 31 6 ?_);have HG6:=kp (H.out.at 0 rfl);((with_reducible refine isSt 31 ?_);refine xSA H 31 0 (partsFr s.h HOKS.out.h td tn tc) ?_;clear H;intro w6b HWw6b H;simp only[szA] at H);have HOT6:=kp (owns_wroteT HOT5.out HWw6b.out HG6.out (by decide:5≠31)))|((with_reducible refine isBs 28 24 ?_);(refine xBS H 24 0 (#[]) 45 ([]) (fun _=>by kernel_rfl) ?_);clear H;intro g28 w28 HGg28 HEg28 H;simp only[pA])|((with_reducible refine isLd 24 ?_);(refine xF1 H 24 4 underlying24 ?_);simp only[pA])|(at_builtin;refine L_appE elemEn rfl _ _ rfl (H.out.at 0 rfl) (H.out.le 0 rfl) rfl _ rfl l.length (l.flatMap cellsE) (flatE_len HL6.out) (src_ents HL6.out (HSL.out.ext H.out.1)) (one_flat l) HLN.out.1 HLN.out.2.1 ?_;intro v31 w31 HO31 HX31;obtain⟨av,nv,cv,rfl⟩:=owns_form2 HO31.out;have H2:=kp (H.out.ext HX31.out);clear H;have H:=H2;clear H2;simp only[pA])|(have HG5c:=kp (H.out.at 2 rfl);((with_reducible refine isSt 24 ?_);(refine xS1 H 24 2 (partsA a ha av nv cv) ?_;clear H;intro wq HWwq H;simp only[ssA,szA] at H))));have HOT:=kp (owns_wroteT (owns_ext HOT6.out (HEg28.out.trans HX31.out)) HWwq.out HG5c.out (by decide:5≠26));have HOV:=kp (show OwE w.heap.size wq (.slice av nv cv) l from owns_wroteT HO31.out HWwq.out HG5c.out (by decide:45≠26));have L2:=kp (H.out.at 4 rfl);have L3:=kp (H.out.at 3 rfl);have L5:=kp (H.out.at 2 rfl);have LF6:=kp (H.out.at 1 rfl);have HXW:=kp H.out.1;have HZA:=kp (show ∀ (a:As) (ha:a.own.length=6) (ad:Option Addr) (n c:Nat),(prog.info? 26).map (·.size)=some (cat (partsA a ha ad n c)).toArray.size from fun a ha ad n c=>by rw[List.size_toArray,cat_len];kernel_rfl);have HZS:=kp (show (prog.info? 33).map (·.size)=some (cat (partsS s HOKS.out fa fn fc)).toArray.size by rw[List.size_toArray,cat_len];kernel_rfl);have HZF:=kp (show (prog.info? 31).map (·.size)=some (cat (partsFr s.h HOKS.out.h td tn tc)).toArray.size by rw[List.size_toArray,cat_len];kernel_rfl);have HZF2:=kp (show (prog.info? 31).map (·.size)=some (cat (partsFr s.h HOKS.out.h fa fn fc)).length by rw[cat_len];kernel_rfl);clear H HOT5 HOT6 HG5 HG6 HG5c HO31 HX31 HEg28 HGg28 HWwq HWw5b HWw6b HB0 HBL HBW HGR HTW HXN;have H:=kp (Loc.start wq);subst h5;go_wp2_with (first|((with_reducible refine isLd 26 ?_);(refine wpList_load_rowG (by kernel_rfl) 26 _ rfl (g2) rfl 26 (cat (partsA a ha ad n c)).toArray (0,0) _ (L2.out.ext H.out.1) underlying26 rfl (HZA.out _ _ _ _ _) ?_);simp only[pA])|((with_reducible refine isLd 33 ?_);(refine wpList_load_rowG (by kernel_rfl) 33 _ rfl (g3) rfl 33 (cat (partsS s HOKS.out fa fn fc)).toArray (0,0) _ (L3.out.ext H.out.1) underlying33 rfl (HZS.out) ?_);simp only[pA])|(go_at_call 6;refine (HDO.out _ (HXW.out.trans H.out.1)).mono ?_;intro e wt hrr;obtain⟨aN,hN,ad2,n2,c2,vo,E,haN,rfl,rfl,ho,hf,hx⟩:=hanG ha hrr;have HO:=kp ho;have HF:=kp hf;have HE:=kp haN;clear hrr ho hf haN;replace H:=kp (H.out.ext hx);have HXC:=kp hx;clear hx)|((with_reducible refine isAl 7 26 ?_);(refine xAL H 26 (cat (partsA as0 rfl none 0 0)) ?_);clear H;intro g7 w7 HGg7 HEg7 H;simp only[pA])|((with_reducible refine isSu 26 7 ?_);have HG7:=kp (H.out.at 0 rfl);((with_reducible refine isSt 26 ?_);refine xSA H 26 0 (partsA aN hN ad2 n2 c2) ?_;clear H;intro w7b HWw7b H;simp only[szA] at H);have HO7:=kp (owns_wroteT (ownsT_ext HO.out HEg7.out) HWw7b.out HG7.out (by decide:45≠26));have HF7:=kp ((HF.out.ext HEg7.out).wroteT HWw7b.out HG7.out (by decide:31≠26) (by decide:5≠26)))|(go_at_call 7;refine (HDR.out _ (HXW.out.trans H.out.1)).mono ?_;rintro e wu ⟨aM,hM,ad3,n3,c3,vp,haM,rfl,hnx,hfr,hx⟩;have HM:=kp haM;have HN:=kp hnx;have HP:=kp hfr;have HO8:=kp (ownsT_ext HO7.out hx);have HF8:=kp (HF7.out.ext hx);clear haM hnx hfr;replace H:=kp (H.out.ext hx);have HXC:=kp hx;clear hx)|((with_reducible refine isAl 10 26 ?_);(refine xAL H 26 (cat (partsA as0 rfl none 0 0)) ?_);clear H;intro g10 w10 HGg10 HEg10 H;simp only[pA])|((with_reducible refine isSu 26 10 ?_);have HG10:=kp (H.out.at 0 rfl);((with_reducible refine isSt 26 ?_);refine xSA H 26 0 (partsA aM hM ad3 n3 c3) ?_;clear H;intro w10b HWw10b H;simp only[szA] at H)));have HO9:=kp (show OwE wq.heap.size w10b (.slice ad2 n2 c2) r.1 from owns_wroteT (ownsT_ext HO8.out HEg10.out) HWw10b.out HG10.out (by decide:45≠26));have HF9:=kp ((HF8.out.ext HEg10.out).wroteT HWw10b.out HG10.out (by decide:31≠26) (by decide:5≠26));have HN9:=kp ((HN.out.ext HEg10.out).wrote HWw10b.out HG10.out (by decide:45≠26));have HP9:=kp ((HP.out.ext HEg10.out).wroteT HWw10b.out HG10.out (by decide:31≠26) (by decide:5≠26));have HL61:=kp (show L6 r.1 from fun e he=>(HDL.out.1 e he).l);have HSM:=kp (sameT_any aN aM hN hM (HM.out.trans HE.out.symm) ad2 n2 c2 ad3 n3 c3 r.1 HDL.out.1 (Nat.le_trans HDL.out.2 (by decide)) w10b (HO9.out.slt HL61.out) (HN9.out.slt (HSL.out.ext (HXW.out.trans H.out.1)) HL61.out));have HSA:=kp (fun W (hW:Ext w10b W)=>sameAll_any _ _ r.2.1 HDU.out.1 HDU.out.2 vo vp W (HF9.out.ext hW) (HP9.out.ext hW))
   have hn2:n2=r.1.length:=by
    obtain⟨_,_,_,he,hn2,_⟩:=HO9.out.slt HL61.out;cases he;exact hn2
   have hn264:n2≤64:=by rw[hn2];exact HDL.out.2
   clear hn2 HO HO7 HO8 HF HF7 HF8 HN HP HDO HDR HE HM HWw7b HWw10b HG7 HG10 HEg7 HEg10 HGg7 HGg10;subst h7;go_wp2_with (first|((with_reducible refine isLd 26 ?_);(first|(refine xFA H 26 0 underlying26 ?_)|(refine xFA H 26 1 underlying26 ?_));simp only[pA])|(go_at_call 8;refine HSM.out.mono ?_;rintro e wa ⟨rfl,hx⟩;replace H:=kp (H.out.ext hx);have HXC:=kp hx;clear hx)|(go_at_call 9;refine (HSA.out _ HXC.out).mono ?_;rintro e wb ⟨rfl,hx⟩;have HX7:=kp (HXC.out.trans hx);replace H:=kp (H.out.ext hx);have HXC:=kp hx;clear hx));have HOc:=kp (ownsT_ext HO9.out HX7.out);have HSV:=kp (fun W (hW:Ext wq W)=>sameT_any a a ha ha rfl ad n c av nv cv l HLO.out HLN.out.2.2 W (HSL.out.ext (HXW.out.trans hW)) (OwE.slt (ownsT_ext HOV.out hW) HL6.out));have HSF:=kp (fun W (hW:Ext wq W)=>sameR5_any s.h HOKS.out.h fa fn fc td tn tc s.b W (HSB.out.ext (HXW.out.trans hW)) (SlB.of_owns (owns_ext HOT.out hW)));have HRF:=kp (fun W (hW:Ext wq W)=>show W.rangeAt g3 2 (cat (partsFr s.h HOKS.out.h fa fn fc)) from (L3.out.ext hW).range (cat_group (ps:=partsS s HOKS.out fa fn fc) (off:=2) (i:=2) rfl rfl));obtain⟨tb,hT,hJ⟩:=TB.ofOwn HOc.out
   have H2:=hJ wq _ (Nat.le_refl _) H.out (fun z hz=>by
    simp only[List.map_cons,List.map_nil,List.mem_cons,List.not_mem_nil,or_false] at hz;rcases hz with rfl|rfl
    ·exact own_ne HOc.out (H.out.at 0 rfl) (by decide:45≠26)
    ·exact own_ne HOc.out (H.out.at 1 rfl) (by decide:45≠26))
   have H3:=kp H2;clear H H2 hJ HSM HSA HO9 HF9 HN9 HP9 HOc HX7 HXC;have H:=H3;clear H3;rcases hT with ⟨_,rfl,rfl,rfl,rfl⟩|⟨bb,zs,rfl,rfl,hbb,-,hcap,-,hz⟩
   ·simp only[List.nil_append] at H;refine wp_loop_once ?_;go_wp2_with ((with_reducible refine isLd 24 ?_);(refine xF1 H 24 1 underlying24 ?_);simp only[pA]);subst h12;go_wp2_with (first|((with_reducible refine isLd 26 ?_);(refine wpList_load_rowG (by kernel_rfl) 26 _ rfl (g2) rfl 26 (cat (partsA a ha ad n c)).toArray (0,0) _ (L2.out.ext H.out.1) underlying26 rfl (HZA.out _ _ _ _ _) ?_);simp only[pA])|((with_reducible refine isLd 26 ?_);(refine wpList_load_rowG (by kernel_rfl) 26 _ rfl (g5) rfl 26 (cat (partsA a ha av nv cv)).toArray (0,0) _ (L5.out.ext H.out.1) underlying26 rfl (HZA.out _ _ _ _ _) ?_);simp only[pA])|(go_at_call 8;refine (HSV.out _ H.out.1).mono ?_;rintro e wa ⟨rfl,hx⟩;replace H:=kp (H.out.ext hx);have HXC:=kp hx;clear hx)|((with_reducible refine isLd 31 ?_);(refine wpList_load_midG (by kernel_rfl) 31 _ rfl (g3) (2) rfl (cat (partsFr s.h HOKS.out.h fa fn fc)) _ (HRF.out _ H.out.1) underlying31 rfl (HZF2.out) ?_);simp only[pA])|((with_reducible refine isLd 31 ?_);(refine wpList_load_rowG (by kernel_rfl) 31 _ rfl (g6) rfl 31 (cat (partsFr s.h HOKS.out.h td tn tc)).toArray (0,0) _ (LF6.out.ext H.out.1) underlying31 rfl (HZF.out) ?_);simp only[pA])|(go_at_call 10;refine (HSF.out _ H.out.1).mono ?_;rintro e wa ⟨rfl,hx⟩;replace H:=kp (H.out.ext hx);have HXC:=kp hx;clear hx));go_ret;exact⟨by simp,HXW.out.trans H.out.1⟩
   ·simp only[List.cons_append,List.nil_append] at H;have HCP:=kp hcap;clear hbb hcap;obtain⟨cs0,hcs⟩:∃ cs0,cs0=r.1.flatMap cellsE++zs:=⟨_,rfl⟩
    rw[←hcs] at H hz;refine wp_loopC (14::60::61::62::63::64::65::66::67::68::69::70::71::[]) (LsR n2 c2 bb wq [(g10,26,cat (partsA aM hM ad3 n3 c3)),(g7,26,cat (partsA aN hN (some ⟨bb,0,none⟩) n2 c2))]) (fun vs _=>n2-(intOf (vs 14)).toNat) (by kernel_rfl) ⟨0,cs0,Nat.zero_le _,rfl,hz,H⟩ ?_;clear H hz hcs;rintro vs wr ⟨j,cs,hj,q14,hcl,H⟩;simp only[putMany,sbA,szA,ssA];rw[q14];clear q14;have HCL:=kp hcl;clear hcl;by_cases hlt:j<n2
    ·have HFT:=kp (show j*11+10<cs.length by have q1:=HCL.out;have q2:=HCP.out;rw[q1];have:(j+1)*11≤c2*11:=Nat.mul_le_mul_right _ (by omega);omega);go_wp2_with (first|((with_reducible refine isLd 24 ?_);(refine xF1 H 24 2 underlying24 ?_);simp only[pA])|((with_reducible refine isSt 3 ?_);(refine L_cell H rfl rfl 3 _ _ rfl 0 rfl (j*11+10) ?adr (.int .i64 (-1)) rfl rfl (by kernel_rfl) HFT.out _ rfl ?_);(case adr=>first|rfl|(simp only[Nat.zero_add];rfl));clear H;intro wz HWz H;simp only[szA] at H));exact LoopP.of rfl (by kernel_rfl) ⟨j+1,_,by omega,by simp,by rw[List.length_set];exact HCL.out,H⟩ (by simp[intOf];omega)
    ·obtain rfl:j=n2:=by omega
     go_wp2_with ((with_reducible refine isLd 24 ?_);(refine xF1 H 24 2 underlying24 ?_);simp only[pA]);subst h12;go_wp2_with (first|((with_reducible refine isLd 26 ?_);(refine wpList_load_rowG (by kernel_rfl) 26 _ rfl (g2) rfl 26 (cat (partsA a ha ad n c)).toArray (0,0) _ (L2.out.ext H.out.1) underlying26 rfl (HZA.out _ _ _ _ _) ?_);simp only[pA])|((with_reducible refine isLd 26 ?_);(refine wpList_load_rowG (by kernel_rfl) 26 _ rfl (g5) rfl 26 (cat (partsA a ha av nv cv)).toArray (0,0) _ (L5.out.ext H.out.1) underlying26 rfl (HZA.out _ _ _ _ _) ?_);simp only[pA])|(go_at_call 8;refine (HSV.out _ H.out.1).mono ?_;rintro e wa ⟨rfl,hx⟩;replace H:=kp (H.out.ext hx);have HXC:=kp hx;clear hx)|((with_reducible refine isLd 31 ?_);(refine wpList_load_midG (by kernel_rfl) 31 _ rfl (g3) (2) rfl (cat (partsFr s.h HOKS.out.h fa fn fc)) _ (HRF.out _ H.out.1) underlying31 rfl (HZF2.out) ?_);simp only[pA])|((with_reducible refine isLd 31 ?_);(refine wpList_load_rowG (by kernel_rfl) 31 _ rfl (g6) rfl 31 (cat (partsFr s.h HOKS.out.h td tn tc)).toArray (0,0) _ (LF6.out.ext H.out.1) underlying31 rfl (HZF.out) ?_);simp only[pA])|(go_at_call 10;refine (HSF.out _ H.out.1).mono ?_;rintro e wa ⟨rfl,hx⟩;replace H:=kp (H.out.ext hx);have HXC:=kp hx;clear hx));go_ret;exact⟨by simp,HXW.out.trans H.out.1⟩
  ·rw[show decide (2400<fn)=true from decide_eq_true (by omega)] at HGR;clear hsl hsb hl hn hl6 hfn hfs hnl;go_enter func3,ntmps3;go_wp2_with (first|((with_reducible refine isBx 2 26 ?_);(refine xBX H 26 (cat (partsA a ha ad n c)) ?_);clear H;intro g2 w2 HGg2 HEg2 H;simp only[pA])|((with_reducible refine isBx 3 33 ?_);(refine xBX H 33 (cat (partsS s HOKS.out fa fn fc)) ?_);clear H;intro g3 w3 HGg3 HEg3 H;simp only[pA])|((with_reducible refine isLd 24 ?_);(refine xF1 H 24 1 underlying24 ?_);simp only[pA])|((with_reducible refine isLd 31 ?_);(refine xFG H 31 0 (partsFr s.h HOKS.out.h fa fn fc) underlying31 ?_);simp only[pA])|(go_at_call 4;refine (HGR.out _).mono ?_;rintro e wg ⟨rfl,hx⟩;replace H:=kp (H.out.ext hx);have HXC:=kp hx;clear hx));go_ret;exact⟨rfl,H.out.1⟩
 ·have h101:(100:Int)<n:=by omega
  clear hsl hsb hl hn hl6 hfn hfs hnl h100;go_enter func3,ntmps3;go_wp2_with (first|((with_reducible refine isBx 2 26 ?_);(refine xBX H 26 (cat (partsA a ha ad n c)) ?_);clear H;intro g2 w2 HGg2 HEg2 H;simp only[pA])|((with_reducible refine isBx 3 33 ?_);(refine xBX H 33 (cat (partsS s HOKS.out fa fn fc)) ?_);clear H;intro g3 w3 HGg3 HEg3 H;simp only[pA])|((with_reducible refine isLd 24 ?_);(refine xF1 H 24 1 underlying24 ?_);simp only[pA]));go_ret;exact⟨rfl,H.out.1⟩
end Go.Proofs.YtfecopfofkdnpaaGreat
