/- Texts of this proof, put together: HdK. -/
import Derived.Test.YtfecopfofkdnpaaGreatY6
import Derived.Test.YtfecopfofkdnpaaGreatY1
namespace Go.Proofs.YtfecopfofkdnpaaGreat
open Go.RowKit Tryz
def zero6:List (BitVec 8):=List.replicate 6 0#8
def zA (j:Nat) (h:Hd):Hd:={ h with a1:=if 0<j then zero6 else h.a1,a2:=if 1<j then zero6 else h.a2,a3:=if 2<j then zero6 else h.a3,a4:=if 3<j then zero6 else h.a4 }
def zeroHd:Hd:=⟨0,0,false,false,false,false,false,false,false,0,zero6,zero6,zero6,zero6,0,0,0,0,false,false⟩
def addrsN (h:Hd):Nat:=placesN h+if bothF h then 1 else 0
def rest1 (h:Hd):Hd:={ zA (addrsN h) h with kind:=0,sub:=0,sleep:=false,mdata:=false,dur:=0 }
def rest2 (h:Hd):Hd:=if h.kind=2 then { rest1 h with toDs:=false,fromDs:=false } else rest1 h
def rest3 (h:Hd):Hd:=if (knownF h.kind h.sub).1.2.1 then { rest2 h with more:=false,retry:=false,prot:=false,seq:=0,frag:=0 } else rest2 h
def restF (h:Hd):Hd:=if (knownF h.kind h.sub).1.2.2 then { rest3 h with tid:=0,ack:=0,amsdu:=false,eosp:=false } else rest3 h
def rangesF (h:Hd):Bool:=inF h.dur 0 32767&&inF h.seq 0 4095&&inF h.frag 0 15&&inF h.tid 0 7&&decide (h.ack≤2)
def wholeF (h:Hd):Bool:=!h.more&&h.frag==0
def groupsF (h:Hd):Bool:=!groupF h.a2&&(wholeF h || !groupF h.a1)
def oddF (h:Hd):Bool:=nullF h&&(!wholeF h || h.prot || h.amsdu)
def validH (h:Hd):Bool:=(knownF h.kind h.sub).2&&decide (restF h=zeroHd)&&rangesF h&&groupsF h&&!oddF h
def checkF (h:Hd):Int:=if validH h then 0 else 8
theorem zA_ok {h:Hd} (ok:h.Ok) (j:Nat):(zA j h).Ok:=by
 refine⟨ok.k0,ok.k1,ok.s0,ok.s1,ok.c0,ok.c1,?_,?_,?_,?_⟩ <;> (simp only[zA];split <;> first|rfl|exact ok.l1|exact ok.l2|exact ok.l3|exact ok.l4)
theorem rest1_ok {h:Hd} (ok:h.Ok):(rest1 h).Ok:=by
 have:=zA_ok ok (addrsN h);exact⟨(by show (0:Int)≤0;decide),(by show (0:Int)<256;decide),(by show (0:Int)≤0;decide),(by show (0:Int)<256;decide),this.c0,this.c1,this.l1,this.l2,this.l3,this.l4⟩
theorem rest2_ok {h:Hd} (ok:h.Ok):(rest2 h).Ok:=by
 have:=rest1_ok ok;unfold rest2;split
 ·exact⟨this.k0,this.k1,this.s0,this.s1,this.c0,this.c1,this.l1,this.l2,this.l3,this.l4⟩
 ·exact this
theorem rest3_ok {h:Hd} (ok:h.Ok):(rest3 h).Ok:=by
 have:=rest2_ok ok;unfold rest3;split
 ·exact⟨this.k0,this.k1,this.s0,this.s1,this.c0,this.c1,this.l1,this.l2,this.l3,this.l4⟩
 ·exact this
theorem restF_ok {h:Hd} (ok:h.Ok):(restF h).Ok:=by
 have:=rest3_ok ok;unfold restF;split
 ·exact⟨this.k0,this.k1,this.s0,this.s1,(by show (0:Int)≤0;decide),(by show (0:Int)<256;decide),this.l1,this.l2,this.l3,this.l4⟩
 ·exact this
theorem zeroHd_ok:zeroHd.Ok:=⟨by decide,by decide,by decide,by decide,by decide,by decide,rfl,rfl,rfl,rfl⟩
theorem addrsN_le (h:Hd):addrsN h≤4:=by
 unfold addrsN placesN;split <;> split <;> (try split) <;> omega
theorem both_places {h:Hd} (hb:bothF h=true):placesN h=3:=by
 have:h.kind=2:=by simp[bothF] at hb;exact hb.1.1
 unfold placesN;rw[if_neg (by omega),if_neg (by omega)]
theorem run_append_nothing {P:Program} {t ty e:TypeId} {i:TypeInfo} (ht:P.underlying t=some (.slice e)) (hi:P.info? e=some i) (b off n c:Nat) (hn:n≤c) (w:World) :
  (Builtin.append_ #[t,t] ty #[.slice (some ⟨b,off,none⟩) n c,.slice none 0 0]).run P w=.ok (.slice (some ⟨b,off,none⟩) n c) w:=by
 simp[Builtin.append_,run_underlying ht,sizeOf,typeInfo,hi,Builtin.lenOf,hn,Builtin.firstCells,storeCells]
theorem wpList_app {P:Program} {ops:Array Oper} {rest:List Oper} {o:Oper} {a:Act} {w:World} {Q:Exit→Act→World→Prop} (hgd:o.guard=none) (s x:Operand) (t:TypeId)
  (ho:o.op=.call { callee:=.builtin .append,args:=#[s,x],argTypes:=#[t,t] }) (vs vx v:Value) (w':World) (hs:a.eval s=vs) (hx:a.eval x=vx) (hrun:(Builtin.append_ #[t,t] o.type #[vs,vx]).run P w=.ok v w') (h:wpList P ops Q rest (a.put o.dst v) w'):wpList P ops Q (o::rest) a w:=by
 refine wpList_plain hgd fun K hK=>?_;unfold Oper.wp;simp[execOp,ho,resolve,invoke,builtin,hs,hx,hrun,Result.andThen];exact hK _ _ h
theorem wpList_bin {P:Program} {ops:Array Oper} {rest:List Oper} {o:Oper} {a:Act} {w:World} {Q:Exit→Act→World→Prop} (hgd:Region.wanted o (yielded ops a.tmps)=true) (b:BinOp) (t u:TypeId) (x y:Operand)
  (ho:o.op=.binOp b t x y u) (vx vy v:Value) (hx:a.eval x=vx) (hy:a.eval y=vy) (hgm:(eqGuard b t x y vx vy).run P w=.ok () w) (hrun:(binOp b t vx vy).run P w=.ok v w) (h:wpList P ops Q rest (a.put o.dst v) w):wpList P ops Q (o::rest) a w:=by
 unfold wpList;rw[if_pos hgd];refine .inl ?_;unfold Oper.wp;simp[execOp,ho,hx,hy,hgm,hrun,Result.andThen];exact h
theorem fitH (r:Hd) (n:Nat) (h:n<10):n<(cellsH r).length:=by simp[cellsH];omega
theorem fitL (r:Hd) (h1:r.a1.length=6) (h2:r.a2.length=6) (h3:r.a3.length=6) (h4:r.a4.length=6) (n:Nat) (h:n<40):n<(cellsH r).length:=by simp[cellsH,h1,h2,h3,h4];omega
theorem setH34 (r:Hd) (v:Int) (h1:r.a1.length=6) (h2:r.a2.length=6) (h3:r.a3.length=6) (h4:r.a4.length=6):(cellsH r).set 34 (.int .i64 v)=cellsH { r with seq:=v }:=by
 obtain⟨_,_,_,_,_,_,q1⟩:=six h1;obtain⟨_,_,_,_,_,_,q2⟩:=six h2;obtain⟨_,_,_,_,_,_,q3⟩:=six h3;obtain⟨_,_,_,_,_,_,q4⟩:=six h4;simp[cellsH,q1,q2,q3,q4]
theorem setH35 (r:Hd) (v:Int) (h1:r.a1.length=6) (h2:r.a2.length=6) (h3:r.a3.length=6) (h4:r.a4.length=6):(cellsH r).set 35 (.int .i64 v)=cellsH { r with frag:=v }:=by
 obtain⟨_,_,_,_,_,_,q1⟩:=six h1;obtain⟨_,_,_,_,_,_,q2⟩:=six h2;obtain⟨_,_,_,_,_,_,q3⟩:=six h3;obtain⟨_,_,_,_,_,_,q4⟩:=six h4;simp[cellsH,q1,q2,q3,q4]
theorem setH36 (r:Hd) (v:Int) (h1:r.a1.length=6) (h2:r.a2.length=6) (h3:r.a3.length=6) (h4:r.a4.length=6):(cellsH r).set 36 (.int .i64 v)=cellsH { r with tid:=v }:=by
 obtain⟨_,_,_,_,_,_,q1⟩:=six h1;obtain⟨_,_,_,_,_,_,q2⟩:=six h2;obtain⟨_,_,_,_,_,_,q3⟩:=six h3;obtain⟨_,_,_,_,_,_,q4⟩:=six h4;simp[cellsH,q1,q2,q3,q4]
theorem setH37 (r:Hd) (v:Int) (h1:r.a1.length=6) (h2:r.a2.length=6) (h3:r.a3.length=6) (h4:r.a4.length=6):(cellsH r).set 37 (.int .u8 v)=cellsH { r with ack:=v }:=by
 obtain⟨_,_,_,_,_,_,q1⟩:=six h1;obtain⟨_,_,_,_,_,_,q2⟩:=six h2;obtain⟨_,_,_,_,_,_,q3⟩:=six h3;obtain⟨_,_,_,_,_,_,q4⟩:=six h4;simp[cellsH,q1,q2,q3,q4]
theorem setH38 (r:Hd) (v:Bool) (h1:r.a1.length=6) (h2:r.a2.length=6) (h3:r.a3.length=6) (h4:r.a4.length=6):(cellsH r).set 38 (.bool v)=cellsH { r with amsdu:=v }:=by
 obtain⟨_,_,_,_,_,_,q1⟩:=six h1;obtain⟨_,_,_,_,_,_,q2⟩:=six h2;obtain⟨_,_,_,_,_,_,q3⟩:=six h3;obtain⟨_,_,_,_,_,_,q4⟩:=six h4;simp[cellsH,q1,q2,q3,q4]
theorem setH39 (r:Hd) (v:Bool) (h1:r.a1.length=6) (h2:r.a2.length=6) (h3:r.a3.length=6) (h4:r.a4.length=6):(cellsH r).set 39 (.bool v)=cellsH { r with eosp:=v }:=by
 obtain⟨_,_,_,_,_,_,q1⟩:=six h1;obtain⟨_,_,_,_,_,_,q2⟩:=six h2;obtain⟨_,_,_,_,_,_,q3⟩:=six h3;obtain⟨_,_,_,_,_,_,q4⟩:=six h4;simp[cellsH,q1,q2,q3,q4]
theorem run_app4 {g4 g5:Nat} {w:World} (hl:Lc w g4 134 (ptrs g5)) (ty:TypeId) :
  (Builtin.append_ #[98,98] ty #[.slice (some ⟨g4,0,none⟩) 3 4,.slice (some ⟨g4,3,none⟩) 1 1]).run prog w=.ok (.slice (some ⟨g4,0,none⟩) 4 4) (w.setRow g4 (ptrs g5).toArray):=by
 obtain⟨i,hi⟩:=info_ex 102 (by kernel_rfl)
 have hz:i.size=1:=by
  have:(prog.info? 102).map (·.size)=some 1:=by kernel_rfl
  rw[hi] at this;simpa using this
 have h:=run_append_room_cells (P:=prog) w 98 ty 102 i underlying98 hi g4 0 3 4 ⟨g4,3,none⟩ 1 1 [.pointer (some ⟨g5,28,none⟩)] (by rw[hz];rfl) (fun j u hu=>?_) (fun u hu=>by simp at hu;subst hu;rfl) (by decide) (fun j hj=>?_) (fun j hj=>?_)
 ·rw[h,hz]
  show Result.ok _ (w.setCell ⟨g4,3,none⟩ _)=_
  rw[hl.setCell];rfl
 ·match j,hu with
  |0,hu=>simp at hu;subst hu;exact hl.cell rfl
  |j+1,hu=>simp at hu
 ·have:j=0:=by simpa using hj
  subst this;rw[hz];rw[show w.cell? ⟨g4,0+3*1+0,none⟩=some (.pointer (some ⟨g5,28,none⟩)) from hl.cell rfl];rfl
 ·have:j=0:=by simpa using hj
  subst this;have hl2:w.heap[g4]?=_:=hl;simp[World.frozen?,hl2]
theorem run_app0 {g4:Nat} {w:World} (n:Nat) (hn:n≤4) (ty:TypeId) :
  (Builtin.append_ #[98,98] ty #[.slice (some ⟨g4,0,none⟩) n 4,.slice none 0 0]).run prog w=.ok (.slice (some ⟨g4,0,none⟩) n 4) w:=by
 obtain⟨i,hi⟩:=info_ex 102 (by kernel_rfl);exact run_append_nothing underlying98 hi g4 0 n 4 hn w
set_option maxRecDepth 10000 in
set_option maxHeartbeats 12800000 in
theorem checkH_any (h:Hd) (ok:h.Ok) (w:World) :
  Calls prog 21 #[.agg (cellsH h).toArray] w fun e w'=>e=.returned (.int .i64 (checkF h))∧Ext w w':=by
 have H:=kp (Loc.start w);have OK:=kp ok;have HKN:=kp (known_any h.kind h.sub);have HPL:=kp (fun g w' hg=>places_any h g w' hg);have HZf:=kp (fun f:Bool × Bool × Bool=>show (prog.info? 95).map (·.size)=some (cellsFm f).toArray.size by kernel_rfl);have HOf:=kp (fun f:Bool × Bool × Bool=>show (cellsFm f).toArray.all (·.oneCell')=true by simp[cellsFm,Value.oneCell']);have HZh:=kp (fun r (k:Hd.Ok r)=>sizeH k);have HLz:=kp (show (cellsH zeroHd).length=(cellsH h).length by rw[cellsH_len ok,cellsH_len zeroHd_ok]);have HO1:=kp (one_cellsH h);by_cases hkn:(knownF h.kind h.sub).2=true
 case neg =>
  have hkf:(knownF h.kind h.sub).2=false:=by simpa using hkn
  go_enter func21,ntmps21;go_wp2_with (first|(((with_reducible refine isBx 1 28 ?_);(refine xBX H 28 (cellsH h) ?_);clear H;intro g1 w1 HGg1 HEg1 H;simp only[pA]);have hc0:=run_load_cell H.out 0 rfl 0 _ rfl;have hc1:=run_load_cell H.out 0 rfl 1 _ rfl)|(go_at_call 48;refine (HKN.out _).mono ?_;rintro e w2 ⟨rfl,hx⟩;replace H:=kp (H.out.ext hx);have HXC:=kp hx;clear hx)|((with_reducible refine isAl 3 95 ?_);(with_reducible refine xAL H 95 (cellsFm (false,false,false)) ?_);clear H;intro g3 w3 HGg3 HEg3 H;simp only[pA])|((with_reducible refine isSt 95 ?_);(refine xSR H 95 0 rfl (cellsFm (knownF h.kind h.sub).1) (HZf.out _) (rfl) (HOf.out _) ?_;clear H;intro wz HWwz H;simp only[szA] at H)));go_ret;exact⟨by simp[checkF,validH,hkf],H.out.1⟩
 go_enter func21,ntmps21;generalize h6:Code.region 6 _ _=R6;generalize h11:Code.region 11 _ _=R11;generalize h12:((Code.region 12 _ _:Code).seq _)=C12;generalize h14:((Code.region 14 _ _:Code).seq _)=C14;generalize h16:((Code.region 16 _ _:Code).seq _)=C16;generalize h19:Code.region 19 _ _=R19;generalize h20:Code.region 20 _ _=R20;generalize h21:Code.region 21 _ _=R21;generalize h22:Code.region 22 _ _=R22;go_wp2_with (first|(((with_reducible refine isBx 1 28 ?_);(refine xBX H 28 (cellsH h) ?_);clear H;intro g1 w1 HGg1 HEg1 H;simp only[pA]);have hc0:=run_load_cell H.out 0 rfl 0 _ rfl;have hc1:=run_load_cell H.out 0 rfl 1 _ rfl)|(go_at_call 48;refine (HKN.out _).mono ?_;rintro e w2 ⟨rfl,hx⟩;replace H:=kp (H.out.ext hx);have HXC:=kp hx;clear hx)|((with_reducible refine isAl 3 95 ?_);(with_reducible refine xAL H 95 (cellsFm (false,false,false)) ?_);clear H;intro g3 w3 HGg3 HEg3 H;simp only[pA])|((with_reducible refine isSt 95 ?_);(refine xSR H 95 0 rfl (cellsFm (knownF h.kind h.sub).1) (HZf.out _) (rfl) (HOf.out _) ?_;clear H;intro wz HWwz H;simp only[szA] at H))|((with_reducible refine isLd 28 ?_);(refine L_load H rfl 28 _ rfl 1 rfl rfl underlying28 rfl (HZh.out _ OK.out) ?_);simp only[pA])|((with_reducible refine isAl 5 28 ?_);(with_reducible refine xAL H 28 (cellsH zeroHd) ?_);clear H;intro g5 w5 HGg5 HEg5 H;simp only[pA])|((with_reducible refine isSt 28 ?_);(refine xSR H 28 0 rfl (cellsH h) (HZh.out _ OK.out) (HLz.out) (HO1.out) ?_;clear H;intro wy HWwy H;simp only[szA] at H))|(go_at_call 49;refine (HPL.out g5 _ (H.out.at 0 rfl)).mono ?_;rintro e w6 ⟨g4,hge,hl4,hx,rfl⟩;have HL4:=kp hl4;have HGE:=kp hge;have HALL:=kp H.out.allLt;have HSZ:=kp H.out.1.size;clear hge hl4;replace H:=kp (H.out.ext hx);have HXC:=kp hx;clear hx));have HA:=kp (H.out.add _ HALL.out HSZ.out HGE.out HL4.out);clear H HALL HSZ HGE HL4;have H:=HA;clear HA;have hN4:=addrsN_le h;subst h6;refine wp_cut [29,30,31,32,33] (fun vs w'=>Kp (Loc w w' [(g4,134,ptrs g5),(g5,28,cellsH (h)),(g3,95,cellsFm (knownF h.kind h.sub).1),(g1,28,cellsH h)])∧vs 31=.slice (some ⟨g4,0,none⟩) (addrsN h) 4∧vs 32=.int .i64 (addrsN h)∧vs 33=.int .i64 0) ?_ ?_
 ·by_cases hb:bothF h=true
  ·have hp:=both_places hb;have hav:afterV h g4=.slice (some ⟨g4,3,none⟩) 1 1:=by simp[afterV,hb]
   have hN:addrsN h=4:=by simp[addrsN,hp,hb]
   have HR:=kp (fun ty=>run_app4 (H.out.at 0 rfl) ty);have HS:=kp (H.out.set 0 rfl (ptrs g5));rw[hN];simp only[hav,hp];go_wp2_with ((with_reducible refine isAp ?_);(refine wpList_app rfl _ _ 98 rfl _ _ _ _ rfl rfl (HR.out _) ?_);simp only[pA]);exact CutP.of rfl (by kernel_rfl) ⟨HS,rfl,rfl,rfl⟩
  ·have hav:afterV h g4=.slice none 0 0:=by simp[afterV,hb]
   have hN:addrsN h=placesN h:=by simp[addrsN,hb]
   have HR:=kp (fun w ty=>run_app0 (g4:=g4) (w:=w) (placesN h) (by rw[←hN];exact hN4) ty);rw[hN];simp only[hav];go_wp2_with ((with_reducible refine isAp ?_);(refine wpList_app rfl _ _ 98 rfl _ _ _ _ rfl rfl (HR.out _ _) ?_);simp only[pA]);exact CutP.of rfl (by kernel_rfl) ⟨H,rfl,rfl,rfl⟩
 rintro vs w7 ⟨H,e31,e32,e33⟩;simp only[putMany,sbA,szA,ssA];rw[e31,e32,e33];go_wp2_with fail;go_loopw [33] (fun i wr=>∃ j:Nat,j≤addrsN h∧i=.int .i64 j∧Kp (Loc w wr [(g4,134,ptrs g5),(g5,28,cellsH (zA j h)),(g3,95,cellsFm (knownF h.kind h.sub).1),(g1,28,cellsH h)])) (fun i _=>addrsN h-(intOf i).toNat)
 case atStart=>exact⟨0,Nat.zero_le _,rfl,kp (by have:=H.out;simpa[zA] using this)⟩
 case round =>
  obtain⟨j,hj,rfl,H⟩:=hrel;by_cases hlt:j<addrsN h
  case pos =>
   have hjI:(j:Int)<addrsN h:=by omega
   obtain⟨p,hp⟩:∃ p,p=10+6*j:=⟨_,rfl⟩
   have hpt:(ptrs g5)[j]?=some (.pointer (some ⟨g5,p,none⟩)):=by
    obtain rfl|rfl|rfl|rfl:j=0∨j=1∨j=2∨j=3:=by omega
    all_goals (subst hp;rfl)
   have HNW:=kp (show ((cellsH (zA j h)).take p++zero6.map V8++(cellsH (zA j h)).drop (p+(zero6.map V8).length)).toArray=(cellsH (zA (j+1) h)).toArray by
    obtain⟨_,_,_,_,_,_,h1⟩:=six OK.out.l1;obtain⟨_,_,_,_,_,_,h2⟩:=six OK.out.l2;obtain⟨_,_,_,_,_,_,h3⟩:=six OK.out.l3;obtain⟨_,_,_,_,_,_,h4⟩:=six OK.out.l4;obtain rfl|rfl|rfl|rfl:j=0∨j=1∨j=2∨j=3:=by omega
    all_goals (subst hp;simp[cellsH,zA,zero6,h1,h2,h3,h4]))
   have HFT:=kp (show p+(zero6.map V8).toArray.size≤(cellsH (zA j h)).toArray.size by rw[List.size_toArray,List.size_toArray,cellsH_len (zA_ok OK.out j)];show p+6≤40;omega);have HZ6:=kp (sizeA8a (l:=zero6) rfl);have HO6:=kp (show (zero6.map V8).toArray.all (·.oneCell')=true by simp[zero6,Value.oneCell']);have hcp:=run_load_cell H.out 0 rfl _ _ hpt;clear hp hpt;go_wp2_with ((with_reducible refine isSt 23 ?_);(refine L_seg H rfl rfl 23 _ _ rfl 1 rfl (p) rfl (zero6.map V8) rfl (HZ6.out) (HFT.out) (HO6.out) (cellsH (zA (j+1) h)) (HNW.out) ?_;clear H;intro wq HWwq H;simp only[ssA,szA] at H));go_roundw
   case rel=>exact⟨j+1,by omega,by go_num,H⟩
   case measure=>simp[intOf];omega
  obtain rfl:j=addrsN h:=by omega
  go_wp2_with fail;have HZ8:=kp (show (prog.info? 5).map (·.size)=some 1 by kernel_rfl);have HZb:=kp (show (prog.info? 4).map (·.size)=some 1 by kernel_rfl);have HZi:=kp (show (prog.info? 3).map (·.size)=some 1 by kernel_rfl);have HQ2:=kp (rest2_ok OK.out);have HQ3:=kp (rest3_ok OK.out);subst h11;go_wp2_with (first|((with_reducible refine isSt 5 ?_);(refine L_cell H rfl rfl 5 _ _ rfl 1 rfl (0) rfl (.int .u8 0) rfl (rfl) (HZ8.out) (fitH _ 0 (Nat.le_of_ble_eq_true rfl)) (cellsH { zA (addrsN h) h with kind:=0 }) (rfl) ?_;clear H;intro wA HWwA H;simp only[ssA,szA] at H))|((with_reducible refine isSt 5 ?_);(refine L_cell H rfl rfl 5 _ _ rfl 1 rfl (1) rfl (.int .u8 0) rfl (rfl) (HZ8.out) (fitH _ 1 (Nat.le_of_ble_eq_true rfl)) (cellsH { zA (addrsN h) h with kind:=0,sub:=0 }) (rfl) ?_;clear H;intro wB HWwB H;simp only[ssA,szA] at H))|((with_reducible refine isSt 4 ?_);(refine L_cell H rfl rfl 4 _ _ rfl 1 rfl (6) rfl (.bool false) rfl (rfl) (HZb.out) (fitH _ 6 (Nat.le_of_ble_eq_true rfl)) (cellsH { zA (addrsN h) h with kind:=0,sub:=0,sleep:=false }) (rfl) ?_;clear H;intro wC HWwC H;simp only[ssA,szA] at H))|((with_reducible refine isSt 4 ?_);(refine L_cell H rfl rfl 4 _ _ rfl 1 rfl (7) rfl (.bool false) rfl (rfl) (HZb.out) (fitH _ 7 (Nat.le_of_ble_eq_true rfl)) (cellsH { zA (addrsN h) h with kind:=0,sub:=0,sleep:=false,mdata:=false }) (rfl) ?_;clear H;intro wD HWwD H;simp only[ssA,szA] at H))|((with_reducible refine isSt 3 ?_);(refine L_cell H rfl rfl 3 _ _ rfl 1 rfl (9) rfl (.int .i64 0) rfl (rfl) (HZi.out) (fitH _ 9 (Nat.le_of_ble_eq_true rfl)) (cellsH (rest1 h)) (rfl) ?_;clear H;intro wE HWwE H;simp only[ssA,szA] at H)));subst h12;refine wp_cut [46,47,48,49,50] (fun _ w'=>Kp (Loc w w' [(g4,134,ptrs g5),(g5,28,cellsH (rest2 h)),(g3,95,cellsFm (knownF h.kind h.sub).1),(g1,28,cellsH h)])) ?_ ?_
  ·have hc:=run_load_cell H.out 3 rfl 0 _ rfl;by_cases hk:h.kind=2
   ·have hkb:(h.kind==2)=true:=by simp[hk]
    rw[show rest2 h={ rest1 h with toDs:=false,fromDs:=false } from if_pos hk];clear hk;go_wp2_with (first|((with_reducible refine isSt 4 ?_);(refine L_cell H rfl rfl 4 _ _ rfl 1 rfl (2) rfl (.bool false) rfl (rfl) (HZb.out) (fitH _ 2 (Nat.le_of_ble_eq_true rfl)) (cellsH { rest1 h with toDs:=false }) (rfl) ?_;clear H;intro wA HWwA H;simp only[ssA,szA] at H))|((with_reducible refine isSt 4 ?_);(refine L_cell H rfl rfl 4 _ _ rfl 1 rfl (3) rfl (.bool false) rfl (rfl) (HZb.out) (fitH _ 3 (Nat.le_of_ble_eq_true rfl)) (cellsH { rest1 h with toDs:=false,fromDs:=false }) (rfl) ?_;clear H;intro wB HWwB H;simp only[ssA,szA] at H)));exact CutP.of rfl (by kernel_rfl) H
   ·have hkb:(h.kind==2)=false:=by simp[hk]
    rw[show rest2 h=rest1 h from if_neg hk];go_wp2_with fail;exact CutP.of rfl (by kernel_rfl) H
  rintro vs2 w8 H;simp only[putMany,sbA,szA,ssA];go_wp2_with fail;subst h14;refine wp_cut [51,52,53,54,55,56,57] (fun _ w'=>Kp (Loc w w' [(g4,134,ptrs g5),(g5,28,cellsH (rest3 h)),(g3,95,cellsFm (knownF h.kind h.sub).1),(g1,28,cellsH h)])) ?_ ?_
  ·have hc:=run_load_cell H.out 2 rfl 1 _ rfl;by_cases hk:(knownF h.kind h.sub).1.2.1=true
   ·rw[show rest3 h={ rest2 h with more:=false,retry:=false,prot:=false,seq:=0,frag:=0 } from if_pos hk];go_wp2_with (first|((with_reducible refine isSt 4 ?_);(refine L_cell H rfl rfl 4 _ _ rfl 1 rfl (4) rfl (.bool false) rfl (rfl) (HZb.out) (fitH _ 4 (Nat.le_of_ble_eq_true rfl)) (cellsH { rest2 h with more:=false }) (rfl) ?_;clear H;intro wA HWwA H;simp only[ssA,szA] at H))|((with_reducible refine isSt 4 ?_);(refine L_cell H rfl rfl 4 _ _ rfl 1 rfl (5) rfl (.bool false) rfl (rfl) (HZb.out) (fitH _ 5 (Nat.le_of_ble_eq_true rfl)) (cellsH { rest2 h with more:=false,retry:=false }) (rfl) ?_;clear H;intro wB HWwB H;simp only[ssA,szA] at H))|((with_reducible refine isSt 4 ?_);(refine L_cell H rfl rfl 4 _ _ rfl 1 rfl (8) rfl (.bool false) rfl (rfl) (HZb.out) (fitH _ 8 (Nat.le_of_ble_eq_true rfl)) (cellsH { rest2 h with more:=false,retry:=false,prot:=false }) (rfl) ?_;clear H;intro wC HWwC H;simp only[ssA,szA] at H))|((with_reducible refine isSt 3 ?_);(refine L_cell H rfl rfl 3 _ _ rfl 1 rfl (34) rfl (.int .i64 0) rfl (rfl) (HZi.out) (fitL { rest2 h with more:=false,retry:=false,prot:=false } HQ2.out.l1 HQ2.out.l2 HQ2.out.l3 HQ2.out.l4 34 (Nat.le_of_ble_eq_true rfl)) (cellsH { rest2 h with more:=false,retry:=false,prot:=false,seq:=0 }) (setH34 { rest2 h with more:=false,retry:=false,prot:=false } 0 HQ2.out.l1 HQ2.out.l2 HQ2.out.l3 HQ2.out.l4) ?_;clear H;intro wD HWwD H;simp only[ssA,szA] at H))|((with_reducible refine isSt 3 ?_);(refine L_cell H rfl rfl 3 _ _ rfl 1 rfl (35) rfl (.int .i64 0) rfl (rfl) (HZi.out) (fitL { rest2 h with more:=false,retry:=false,prot:=false,seq:=0 } HQ2.out.l1 HQ2.out.l2 HQ2.out.l3 HQ2.out.l4 35 (Nat.le_of_ble_eq_true rfl)) (cellsH { rest2 h with more:=false,retry:=false,prot:=false,seq:=0,frag:=0 }) (setH35 { rest2 h with more:=false,retry:=false,prot:=false,seq:=0 } 0 HQ2.out.l1 HQ2.out.l2 HQ2.out.l3 HQ2.out.l4) ?_;clear H;intro wE HWwE H;simp only[ssA,szA] at H)));exact CutP.of rfl (by kernel_rfl) H
   ·have hkb:(knownF h.kind h.sub).1.2.1=false:=by simpa using hk
    rw[show rest3 h=rest2 h from if_neg hk];go_wp2_with fail;exact CutP.of rfl (by kernel_rfl) H
  rintro vs3 w9 H;simp only[putMany,sbA,szA,ssA];go_wp2_with fail;subst h16;refine wp_cut [58,59,60,61,62,63] (fun _ w'=>Kp (Loc w w' [(g4,134,ptrs g5),(g5,28,cellsH (restF h)),(g3,95,cellsFm (knownF h.kind h.sub).1),(g1,28,cellsH h)])) ?_ ?_
  ·have hc:=run_load_cell H.out 2 rfl 2 _ rfl;by_cases hk:(knownF h.kind h.sub).1.2.2=true
   ·rw[show restF h={ rest3 h with tid:=0,ack:=0,amsdu:=false,eosp:=false } from if_pos hk];go_wp2_with (first|((with_reducible refine isSt 3 ?_);(refine L_cell H rfl rfl 3 _ _ rfl 1 rfl (36) rfl (.int .i64 0) rfl (rfl) (HZi.out) (fitL (rest3 h) HQ3.out.l1 HQ3.out.l2 HQ3.out.l3 HQ3.out.l4 36 (Nat.le_of_ble_eq_true rfl)) (cellsH { rest3 h with tid:=0 }) (setH36 (rest3 h) 0 HQ3.out.l1 HQ3.out.l2 HQ3.out.l3 HQ3.out.l4) ?_;clear H;intro wA HWwA H;simp only[ssA,szA] at H))|((with_reducible refine isSt 5 ?_);(refine L_cell H rfl rfl 5 _ _ rfl 1 rfl (37) rfl (.int .u8 0) rfl (rfl) (HZ8.out) (fitL { rest3 h with tid:=0 } HQ3.out.l1 HQ3.out.l2 HQ3.out.l3 HQ3.out.l4 37 (Nat.le_of_ble_eq_true rfl)) (cellsH { rest3 h with tid:=0,ack:=0 }) (setH37 { rest3 h with tid:=0 } 0 HQ3.out.l1 HQ3.out.l2 HQ3.out.l3 HQ3.out.l4) ?_;clear H;intro wB HWwB H;simp only[ssA,szA] at H))|((with_reducible refine isSt 4 ?_);(refine L_cell H rfl rfl 4 _ _ rfl 1 rfl (38) rfl (.bool false) rfl (rfl) (HZb.out) (fitL { rest3 h with tid:=0,ack:=0 } HQ3.out.l1 HQ3.out.l2 HQ3.out.l3 HQ3.out.l4 38 (Nat.le_of_ble_eq_true rfl)) (cellsH { rest3 h with tid:=0,ack:=0,amsdu:=false }) (setH38 { rest3 h with tid:=0,ack:=0 } false HQ3.out.l1 HQ3.out.l2 HQ3.out.l3 HQ3.out.l4) ?_;clear H;intro wC HWwC H;simp only[ssA,szA] at H))|((with_reducible refine isSt 4 ?_);(refine L_cell H rfl rfl 4 _ _ rfl 1 rfl (39) rfl (.bool false) rfl (rfl) (HZb.out) (fitL { rest3 h with tid:=0,ack:=0,amsdu:=false } HQ3.out.l1 HQ3.out.l2 HQ3.out.l3 HQ3.out.l4 39 (Nat.le_of_ble_eq_true rfl)) (cellsH { rest3 h with tid:=0,ack:=0,amsdu:=false,eosp:=false }) (setH39 { rest3 h with tid:=0,ack:=0,amsdu:=false } false HQ3.out.l1 HQ3.out.l2 HQ3.out.l3 HQ3.out.l4) ?_;clear H;intro wD HWwD H;simp only[ssA,szA] at H)));exact CutP.of rfl (by kernel_rfl) H
   ·have hkb:(knownF h.kind h.sub).1.2.2=false:=by simpa using hk
    rw[show restF h=rest3 h from if_neg hk];go_wp2_with fail;exact CutP.of rfl (by kernel_rfl) H
  rintro vs4 w10 H;simp only[putMany,sbA,szA,ssA];go_wp2_with fail;have HIN:=kp in0_any;have HGR:=kp group_any;have HNU:=kp (null_any h);have hd9:=run_load_cell H.out 3 rfl 9 _ rfl;have hd34:=run_load_cell H.out 3 rfl _ _ (cH34 OK.out);have hd35:=run_load_cell H.out 3 rfl _ _ (cH35 OK.out);have hd36:=run_load_cell H.out 3 rfl _ _ (cH36 OK.out);have hd37:=run_load_cell H.out 3 rfl _ _ (cH37 OK.out);subst h19;refine wp_cut [64,65,66,67,68,69,70,71,72,73,74,75,76,77,78,79,80,81,82,83,84,85,86,87,88,89,90,11] (fun vs w'=>Kp (Loc w w' [(g4,134,ptrs g5),(g5,28,cellsH (restF h)),(g3,95,cellsFm (knownF h.kind h.sub).1),(g1,28,cellsH h)])∧vs 11=.bool (rangesF h)) ?_ ?_
  ·go_wp2_with (go_at_call 50;refine (HIN.out _ _ _).mono ?_;rintro e wc ⟨rfl,hx⟩;replace H:=kp (H.out.ext hx);have HXC:=kp hx;clear hx;have hd34:=run_load_cell H.out 3 rfl _ _ (cH34 OK.out);have hd35:=run_load_cell H.out 3 rfl _ _ (cH35 OK.out);have hd36:=run_load_cell H.out 3 rfl _ _ (cH36 OK.out);have hd37:=run_load_cell H.out 3 rfl _ _ (cH37 OK.out))
   all_goals exact CutP.of rfl (by kernel_rfl) ⟨H,by simp[rangesF, *] <;> simp_all⟩
  rintro vs5 w11 ⟨H,e11⟩;simp only[putMany,sbA,szA,ssA];rw[e11];clear hd9 hd34 hd35 hd36 hd37;go_wp2_with fail;subst h20;have hd4:=run_load_cell H.out 3 rfl 4 _ rfl;have hd35:=run_load_cell H.out 3 rfl _ _ (cH35 OK.out);refine wp_cut [91,92,93,94,95,96,97,98,12] (fun vs w'=>Kp (Loc w w' [(g4,134,ptrs g5),(g5,28,cellsH (restF h)),(g3,95,cellsFm (knownF h.kind h.sub).1),(g1,28,cellsH h)])∧vs 12=.bool (wholeF h)) ?_ ?_
  ·go_wp2_with fail
   all_goals exact CutP.of rfl (by kernel_rfl) ⟨H,by simp[wholeF, *] <;> simp_all⟩
  rintro vs6 w12 ⟨H,e12⟩;simp only[putMany,sbA,szA,ssA];rw[e12];clear hd4 hd35;go_wp2_with fail;subst h21;have HP1:=kp (pH1 OK.out);have HP2:=kp (pH2 OK.out);have HZ1:=kp (sizeA8 OK.out.l1);have HZ2:=kp (sizeA8 OK.out.l2);refine wp_cut [99,100,101,102,103,104,105,106,107,108,109,110,111,13,12] (fun vs w'=>Kp (Loc w w' [(g4,134,ptrs g5),(g5,28,cellsH (restF h)),(g3,95,cellsFm (knownF h.kind h.sub).1),(g1,28,cellsH h)])∧vs 13=.bool (groupsF h)∧vs 12=.bool (wholeF h)) ?_ ?_
  ·go_wp2_with (first|((with_reducible refine isLd 23 ?_);(refine L_subG H (by kernel_rfl) 23 _ rfl 3 rfl (16) rfl (h.a2.map V8) (HP2.out) underlying23 rfl (HZ2.out) ?_);simp only[pA])|((with_reducible refine isLd 23 ?_);(refine L_subG H (by kernel_rfl) 23 _ rfl 3 rfl (10) rfl (h.a1.map V8) (HP1.out) underlying23 rfl (HZ1.out) ?_);simp only[pA])|(go_at_call 29;refine (HGR.out _ OK.out.l2 _).mono ?_;rintro e wc ⟨rfl,hx⟩;replace H:=kp (H.out.ext hx);have HXC:=kp hx;clear hx)|(go_at_call 29;refine (HGR.out _ OK.out.l1 _).mono ?_;rintro e wc ⟨rfl,hx⟩;replace H:=kp (H.out.ext hx);have HXC:=kp hx;clear hx))
   all_goals exact CutP.of rfl (by kernel_rfl) ⟨H,by simp[groupsF, *] <;> simp_all,by simp[*]⟩
  rintro vs7 w13 ⟨H,e13,e12⟩;simp only[putMany,sbA,szA,ssA];rw[e13,e12];go_wp2_with fail;subst h22;have HOKr:=kp (restF_ok OK.out);generalize hrf:restF h=rf at *;have HRF:=kp hrf;clear hrf;generalize h1f:rangesF h=rgF at *;have H1F:=kp h1f;clear h1f;generalize h2f:groupsF h=gF at *;have H2F:=kp h2f;clear h2f;generalize h3f:wholeF h=whF at *;have H3F:=kp h3f;clear h3f;generalize h4f:nullF h=nuF at *;have H4F:=kp h4f;clear h4f;have HGT:=kp Tryz.eqGuardType28;have hne:∀ w,(binOp .neq 28 (.agg (cellsH rf).toArray) (.agg (cellsH zeroHd).toArray)).run prog w=.ok (.bool (!decide (rf=zeroHd))) w:=fun w=>neHd w _ _ HOKr.out zeroHd_ok;have HZr:=kp (sizeH HOKr.out);have HZo:=kp (sizeH OK.out);have hd8:=run_load_cell H.out 3 rfl 8 _ rfl;have hd38:=run_load_cell H.out 3 rfl _ _ (cH38 OK.out);refine wp_cut [112,113,114,115,116,117,118,119,120,121,122,123,124,125,126,127,128,129,130,131,132,133,134,135,136,137,138,11,12,13] (fun vs w'=>Kp (Loc w w' [(g4,134,ptrs g5),(g5,28,cellsH (rf)),(g3,95,cellsFm (knownF h.kind h.sub).1),(g1,28,cellsH h)])∧vs 138=.bool (!(decide (rf=zeroHd)&&rgF&&gF&&!(nuF&&(!whF || h.prot || h.amsdu))))) ?_ ?_
  ·obtain⟨pr,hpr⟩:∃ b,h.prot=b:=⟨_,rfl⟩
   obtain⟨am,ham⟩:∃ b,h.amsdu=b:=⟨_,rfl⟩
   have HD8:=kp (show (cellsH h)[8]?=some (.bool pr) by rw[←hpr];rfl);have HD38:=kp (show (cellsH h)[38]?=some (.bool am) by rw[←ham];exact cH38 OK.out);rw[hpr,ham];clear hpr ham hd8 hd38;have hd8:=run_load_cell H.out 3 rfl _ _ HD8.out;have hd38:=run_load_cell H.out 3 rfl _ _ HD38.out;by_cases hrz:rf=zeroHd
   ·have hd:decide (rf=zeroHd)=true:=decide_eq_true hrz;rw[hd] at hne ⊢;clear hd hrz;simp only[Bool.not_true,Bool.true_and] at hne ⊢;cases rgF with
    |false =>
     go_wp2_with (first|((with_reducible refine isAt 114 ?_);refine wpList_bin (by kernel_rfl) .neq 28 28 (.tmp 112) (.tmp 113) rfl (.agg (cellsH rf).toArray) (.agg (cellsH zeroHd).toArray) (.bool false) rfl rfl (run_eqGuard_agg _ _ _ _ _ _ _ HGT.out) (hne _) ?_;simp only[pA];generalize hrest:(Oper.mk (some 115) _ _ _ _ _::_:List Oper)=LR)|((with_reducible refine isAt 112 ?_);refine L_loadG H (by kernel_rfl) 28 _ rfl 1 rfl rfl underlying28 rfl (HZr.out) ?_;simp only[pA])|((with_reducible refine isBd 113 28 ?_);(refine xBD 28 (#[]) (cellsH zeroHd) ?_);simp only[pA]));subst hrest;go_wp2_with fail;exact CutP.of rfl (by kernel_rfl) ⟨H,rfl⟩
    |true =>
     cases gF with
     |false =>
      go_wp2_with (first|((with_reducible refine isAt 114 ?_);refine wpList_bin (by kernel_rfl) .neq 28 28 (.tmp 112) (.tmp 113) rfl (.agg (cellsH rf).toArray) (.agg (cellsH zeroHd).toArray) (.bool false) rfl rfl (run_eqGuard_agg _ _ _ _ _ _ _ HGT.out) (hne _) ?_;simp only[pA];generalize hrest:(Oper.mk (some 115) _ _ _ _ _::_:List Oper)=LR)|((with_reducible refine isAt 112 ?_);refine L_loadG H (by kernel_rfl) 28 _ rfl 1 rfl rfl underlying28 rfl (HZr.out) ?_;simp only[pA])|((with_reducible refine isBd 113 28 ?_);(refine xBD 28 (#[]) (cellsH zeroHd) ?_);simp only[pA]));subst hrest;go_wp2_with fail;exact CutP.of rfl (by kernel_rfl) ⟨H,rfl⟩
     |true =>
      cases nuF with
      |false =>
       go_wp2_with (first|((with_reducible refine isAt 114 ?_);refine wpList_bin (by kernel_rfl) .neq 28 28 (.tmp 112) (.tmp 113) rfl (.agg (cellsH rf).toArray) (.agg (cellsH zeroHd).toArray) (.bool false) rfl rfl (run_eqGuard_agg _ _ _ _ _ _ _ HGT.out) (hne _) ?_;simp only[pA];generalize hrest:(Oper.mk (some 115) _ _ _ _ _::_:List Oper)=LR)|((with_reducible refine isAt 112 ?_);refine L_loadG H (by kernel_rfl) 28 _ rfl 1 rfl rfl underlying28 rfl (HZr.out) ?_;simp only[pA])|((with_reducible refine isBd 113 28 ?_);(refine xBD 28 (#[]) (cellsH zeroHd) ?_);simp only[pA]));subst hrest;go_wp2_with (first|((with_reducible refine isAt 124 ?_);refine L_loadG H (by kernel_rfl) 28 _ rfl 3 rfl rfl underlying28 rfl (HZo.out) ?_;simp only[pA])|(go_at_call 51;refine (HNU.out _).mono ?_;rintro e wc ⟨rfl,hx⟩;replace H:=kp (H.out.ext hx);have HXC:=kp hx;clear hx;have hd8:=run_load_cell H.out 3 rfl _ _ HD8.out;have hd38:=run_load_cell H.out 3 rfl _ _ HD38.out));exact CutP.of rfl (by kernel_rfl) ⟨H,rfl⟩
      |true =>
       cases whF with
       |false =>
        go_wp2_with (first|((with_reducible refine isAt 114 ?_);refine wpList_bin (by kernel_rfl) .neq 28 28 (.tmp 112) (.tmp 113) rfl (.agg (cellsH rf).toArray) (.agg (cellsH zeroHd).toArray) (.bool false) rfl rfl (run_eqGuard_agg _ _ _ _ _ _ _ HGT.out) (hne _) ?_;simp only[pA];generalize hrest:(Oper.mk (some 115) _ _ _ _ _::_:List Oper)=LR)|((with_reducible refine isAt 112 ?_);refine L_loadG H (by kernel_rfl) 28 _ rfl 1 rfl rfl underlying28 rfl (HZr.out) ?_;simp only[pA])|((with_reducible refine isBd 113 28 ?_);(refine xBD 28 (#[]) (cellsH zeroHd) ?_);simp only[pA]));subst hrest;go_wp2_with (first|((with_reducible refine isAt 124 ?_);refine L_loadG H (by kernel_rfl) 28 _ rfl 3 rfl rfl underlying28 rfl (HZo.out) ?_;simp only[pA])|(go_at_call 51;refine (HNU.out _).mono ?_;rintro e wc ⟨rfl,hx⟩;replace H:=kp (H.out.ext hx);have HXC:=kp hx;clear hx;have hd8:=run_load_cell H.out 3 rfl _ _ HD8.out;have hd38:=run_load_cell H.out 3 rfl _ _ HD38.out));exact CutP.of rfl (by kernel_rfl) ⟨H,rfl⟩
       |true =>
        cases pr with
        |true =>
         go_wp2_with (first|((with_reducible refine isAt 114 ?_);refine wpList_bin (by kernel_rfl) .neq 28 28 (.tmp 112) (.tmp 113) rfl (.agg (cellsH rf).toArray) (.agg (cellsH zeroHd).toArray) (.bool false) rfl rfl (run_eqGuard_agg _ _ _ _ _ _ _ HGT.out) (hne _) ?_;simp only[pA];generalize hrest:(Oper.mk (some 115) _ _ _ _ _::_:List Oper)=LR)|((with_reducible refine isAt 112 ?_);refine L_loadG H (by kernel_rfl) 28 _ rfl 1 rfl rfl underlying28 rfl (HZr.out) ?_;simp only[pA])|((with_reducible refine isBd 113 28 ?_);(refine xBD 28 (#[]) (cellsH zeroHd) ?_);simp only[pA]));subst hrest;go_wp2_with (first|((with_reducible refine isAt 124 ?_);refine L_loadG H (by kernel_rfl) 28 _ rfl 3 rfl rfl underlying28 rfl (HZo.out) ?_;simp only[pA])|(go_at_call 51;refine (HNU.out _).mono ?_;rintro e wc ⟨rfl,hx⟩;replace H:=kp (H.out.ext hx);have HXC:=kp hx;clear hx;have hd8:=run_load_cell H.out 3 rfl _ _ HD8.out;have hd38:=run_load_cell H.out 3 rfl _ _ HD38.out));exact CutP.of rfl (by kernel_rfl) ⟨H,rfl⟩
        |false =>
         cases am with
         |true =>
          go_wp2_with (first|((with_reducible refine isAt 114 ?_);refine wpList_bin (by kernel_rfl) .neq 28 28 (.tmp 112) (.tmp 113) rfl (.agg (cellsH rf).toArray) (.agg (cellsH zeroHd).toArray) (.bool false) rfl rfl (run_eqGuard_agg _ _ _ _ _ _ _ HGT.out) (hne _) ?_;simp only[pA];generalize hrest:(Oper.mk (some 115) _ _ _ _ _::_:List Oper)=LR)|((with_reducible refine isAt 112 ?_);refine L_loadG H (by kernel_rfl) 28 _ rfl 1 rfl rfl underlying28 rfl (HZr.out) ?_;simp only[pA])|((with_reducible refine isBd 113 28 ?_);(refine xBD 28 (#[]) (cellsH zeroHd) ?_);simp only[pA]));subst hrest;go_wp2_with (first|((with_reducible refine isAt 124 ?_);refine L_loadG H (by kernel_rfl) 28 _ rfl 3 rfl rfl underlying28 rfl (HZo.out) ?_;simp only[pA])|(go_at_call 51;refine (HNU.out _).mono ?_;rintro e wc ⟨rfl,hx⟩;replace H:=kp (H.out.ext hx);have HXC:=kp hx;clear hx;have hd8:=run_load_cell H.out 3 rfl _ _ HD8.out;have hd38:=run_load_cell H.out 3 rfl _ _ HD38.out));exact CutP.of rfl (by kernel_rfl) ⟨H,rfl⟩
         |false =>
          go_wp2_with (first|((with_reducible refine isAt 114 ?_);refine wpList_bin (by kernel_rfl) .neq 28 28 (.tmp 112) (.tmp 113) rfl (.agg (cellsH rf).toArray) (.agg (cellsH zeroHd).toArray) (.bool false) rfl rfl (run_eqGuard_agg _ _ _ _ _ _ _ HGT.out) (hne _) ?_;simp only[pA];generalize hrest:(Oper.mk (some 115) _ _ _ _ _::_:List Oper)=LR)|((with_reducible refine isAt 112 ?_);refine L_loadG H (by kernel_rfl) 28 _ rfl 1 rfl rfl underlying28 rfl (HZr.out) ?_;simp only[pA])|((with_reducible refine isBd 113 28 ?_);(refine xBD 28 (#[]) (cellsH zeroHd) ?_);simp only[pA]));subst hrest;go_wp2_with (first|((with_reducible refine isAt 124 ?_);refine L_loadG H (by kernel_rfl) 28 _ rfl 3 rfl rfl underlying28 rfl (HZo.out) ?_;simp only[pA])|(go_at_call 51;refine (HNU.out _).mono ?_;rintro e wc ⟨rfl,hx⟩;replace H:=kp (H.out.ext hx);have HXC:=kp hx;clear hx;have hd8:=run_load_cell H.out 3 rfl _ _ HD8.out;have hd38:=run_load_cell H.out 3 rfl _ _ HD38.out));exact CutP.of rfl (by kernel_rfl) ⟨H,rfl⟩
   ·have hd:decide (rf=zeroHd)=false:=decide_eq_false hrz;rw[hd] at hne ⊢;clear hd hrz;simp only[Bool.not_false,Bool.false_and] at hne ⊢;go_wp2_with (first|((with_reducible refine isAt 114 ?_);refine wpList_bin (by kernel_rfl) .neq 28 28 (.tmp 112) (.tmp 113) rfl (.agg (cellsH rf).toArray) (.agg (cellsH zeroHd).toArray) (.bool true) rfl rfl (run_eqGuard_agg _ _ _ _ _ _ _ HGT.out) (hne _) ?_;simp only[pA];generalize hrest:(Oper.mk (some 115) _ _ _ _ _::_:List Oper)=LR)|((with_reducible refine isAt 112 ?_);refine L_loadG H (by kernel_rfl) 28 _ rfl 1 rfl rfl underlying28 rfl (HZr.out) ?_;simp only[pA])|((with_reducible refine isBd 113 28 ?_);(refine xBD 28 (#[]) (cellsH zeroHd) ?_);simp only[pA]));subst hrest;go_wp2_with fail;exact CutP.of rfl (by kernel_rfl) ⟨H,rfl⟩
  rintro vs8 w14 ⟨H,e138⟩;simp only[putMany,sbA,szA,ssA];rw[e138]
  have hvv:validH h=(decide (rf=zeroHd)&&rgF&&gF&&!(nuF&&(!whF || h.prot || h.amsdu))):=by
   simp only[validH,oddF,hkn,Bool.true_and,HRF.out,H1F.out,H2F.out,H3F.out,H4F.out]
  rw[←hvv];clear hvv;by_cases hv:validH h=true
  ·rw[hv];go_wp2_with fail;go_ret;exact⟨by simp[checkF,hv],H.out.1⟩
  ·have hv2:validH h=false:=by simpa using hv
   rw[hv2];go_wp2_with fail;go_ret;exact⟨by simp[checkF,hv2],H.out.1⟩
end Go.Proofs.YtfecopfofkdnpaaGreat
