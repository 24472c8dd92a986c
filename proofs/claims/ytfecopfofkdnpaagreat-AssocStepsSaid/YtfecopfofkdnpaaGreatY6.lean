/- Texts of this proof, put together: HdP, EqS. -/
import Derived.Test.YtfecopfofkdnpaaGreatY5
import Derived.ArgAppend
import Derived.Test.YtfecopfofkdnpaaGreatY2
import Derived.ChangeKeysEq
import Derived.Test.YtfecopfofkdnpaaGreatY1
namespace Go.Proofs.YtfecopfofkdnpaaGreat
open Go.RowKit Tryz
def bothF (h:Hd):Bool:=h.kind==2&&h.toDs&&h.fromDs
def placesN (h:Hd):Nat:=if h.kind=1∧(h.sub=12∨h.sub=13) then 1 else if h.kind=1 then 2 else 3
def ptrs (g:Nat):List Value:=[.pointer (some ⟨g,10,none⟩),.pointer (some ⟨g,16,none⟩),.pointer (some ⟨g,22,none⟩),.pointer (some ⟨g,28,none⟩)]
def nil4:List Value:=[.pointer none,.pointer none,.pointer none,.pointer none]
def afterV (h:Hd) (g4:Nat):Value:=if bothF h then .slice (some ⟨g4,3,none⟩) 1 1 else .slice none 0 0
set_option maxHeartbeats 6400000 in
theorem places_any (h:Hd) (g:Nat) (w0:World) (hg:Lc w0 g 28 (cellsH h)) :
  Calls prog 49 #[.pointer (some ⟨g,0,none⟩)] w0 fun e w'=>∃ g4,w0.heap.size≤g4∧Lc w' g4 134 (ptrs g)∧Ext w0 w'∧e=.returned (.tuple #[.slice (some ⟨g4,0,none⟩) (placesN h) 4,afterV h g4]):=by
 have H:=kp (Loc.start w0);have HG:=kp hg;have HZ:=kp (show (prog.info? 134).map (·.size)=some (ptrs g).toArray.size by kernel_rfl);have HO:=kp (show (ptrs g).toArray.all (·.oneCell')=true by simp[ptrs,Value.oneCell']);clear hg;go_enter func49,ntmps49;generalize h2:Code.region 2 _ _=R2;go_wp2_with fail;refine region_free H (tabS [(5,eT (.pointer (some ⟨g,0,none⟩))),(6,eT (.pointer (some ⟨g,0,none⟩))),(7,eT (.pointer (some ⟨g,10,none⟩))),(8,eT (.pointer (some ⟨g,0,none⟩))),(9,eT (.pointer (some ⟨g,0,none⟩))),(10,eT (.pointer (some ⟨g,16,none⟩))),(11,eT (.pointer (some ⟨g,0,none⟩))),(12,eT (.pointer (some ⟨g,0,none⟩))),(13,eT (.pointer (some ⟨g,22,none⟩))),(14,eT (.pointer (some ⟨g,0,none⟩))),(15,eT (.pointer (some ⟨g,0,none⟩))),(16,eT (.pointer (some ⟨g,28,none⟩))),(17,eT (.agg (ptrs g).toArray)),(4,fun vQ wQ=>∃ g,vQ=.pointer (some ⟨g,0,none⟩)∧w0.heap.size≤g∧Lc wQ g 134 nil4)]) [] (tabS_out _ _ (by simp only[List.forall_mem_cons,mono_eqO,true_and];exact⟨(fun _ _ _ ⟨g,h1,h2,h3⟩ hx=>⟨g,h1,h2,hx.lc h3 (by simp)⟩),by simp⟩)) 14 (by kernel_rfl) (by kernel_rfl) (by kernel_rfl) (by kernel_rfl) [] [] rfl rfl (by decide) (by decide) (by decide) trivial ?_;simp only[tK];refine rT (fun w_=>by go_wp2_with fail;exact kso) fun v5=>?_;simp only[pA];refine rO 5 rfl (fun w_ e0=>by obtain rfl:v5=_:=e0;go_wp2_with fail;exact kso) fun v6=>?_;simp only[pA];refine rO 6 rfl (fun w_ e0=>by obtain rfl:v6=_:=e0;go_wp2_with fail;exact kso) fun v7=>?_;simp only[pA];refine rT (fun w_=>by go_wp2_with fail;exact kso) fun v8=>?_;simp only[pA];refine rO 8 rfl (fun w_ e0=>by obtain rfl:v8=_:=e0;go_wp2_with fail;exact kso) fun v9=>?_;simp only[pA];refine rO 9 rfl (fun w_ e0=>by obtain rfl:v9=_:=e0;go_wp2_with fail;exact kso) fun v10=>?_;simp only[pA];refine rT (fun w_=>by go_wp2_with fail;exact kso) fun v11=>?_;simp only[pA];refine rO 11 rfl (fun w_ e0=>by obtain rfl:v11=_:=e0;go_wp2_with fail;exact kso) fun v12=>?_;simp only[pA];refine rO 12 rfl (fun w_ e0=>by obtain rfl:v12=_:=e0;go_wp2_with fail;exact kso) fun v13=>?_;simp only[pA];refine rT (fun w_=>by go_wp2_with fail;exact kso) fun v14=>?_;simp only[pA];refine rO 14 rfl (fun w_ e0=>by obtain rfl:v14=_:=e0;go_wp2_with fail;exact kso) fun v15=>?_;simp only[pA];refine rO 15 rfl (fun w_ e0=>by obtain rfl:v15=_:=e0;go_wp2_with fail;exact kso) fun v16=>?_;simp only[pA];refine⟨fun w_ o_ S_=>?_,fun v17=>?_⟩
 ·obtain rfl:v7=_:=hsR S_ 7 rfl;obtain rfl:v10=_:=hsR S_ 10 rfl;obtain rfl:v13=_:=hsR S_ 13 rfl;obtain rfl:v16=_:=hsR S_ 16 rfl;clear S_ o_;go_wp2_with fail;exact kso
 simp only[pA];refine⟨fun w_ o_ S_=>?_,fun v4=>?_⟩
 ·clear S_;have H:=kp (kK [] H o_);have HOX:=kp o_;clear o_;go_wp2_with ((with_reducible refine isAl 4 134 ?_);(with_reducible refine xAL H 134 (nil4) ?_);clear H;intro g4 w4 HGg4 HEg4 H;simp only[pA]);exact⟨rfl,.pointer (some ⟨g4,0,none⟩),rfl,fun d hd=>by cases hd;exact⟨g4,rfl,(by rw[HGg4.out];exact HOX.out.size),H.out.at 0 rfl⟩,HEg4.out⟩
 simp only[pA];clear H;intro w1 HOX H hfin;obtain rfl:v5=_:=hF hfin 5 rfl;obtain rfl:v6=_:=hF hfin 6 rfl;obtain rfl:v7=_:=hF hfin 7 rfl;obtain rfl:v8=_:=hF hfin 8 rfl;obtain rfl:v9=_:=hF hfin 9 rfl;obtain rfl:v10=_:=hF hfin 10 rfl;obtain rfl:v11=_:=hF hfin 11 rfl;obtain rfl:v12=_:=hF hfin 12 rfl;obtain rfl:v13=_:=hF hfin 13 rfl;obtain rfl:v14=_:=hF hfin 14 rfl;obtain rfl:v15=_:=hF hfin 15 rfl;obtain rfl:v16=_:=hF hfin 16 rfl;obtain rfl:v17=_:=hF hfin 17 rfl;have F4:=kp (show ∃ g,v4=.pointer (some ⟨g,0,none⟩)∧w0.heap.size≤g∧Lc w1 g 134 nil4 from hfin 4 (by decide));clear hfin;simp only[dR];simp only[applyS] at H;have HXN:=kp (HOX.out.ext (Ext.refl w0) (fun g hg=>by cases hg));obtain⟨g4,rfl,hge,hl4⟩:=F4.out;have HA:=kp (H.out.add w0.heap.size (fun g hg=>by cases hg) (Nat.le_refl _) hge hl4);have HGE:=kp hge;have HGw:=kp (HG.out.ext HXN.out);have hne:g<g4:=Nat.lt_of_lt_of_le HG.out.lt hge;clear H F4 hl4 hge;have H:=HA;clear HA;go_wp2_with ((with_reducible refine isSt 134 ?_);(refine xSR H 134 0 rfl (ptrs g) (HZ.out) (rfl) (HO.out) ?_;clear H;intro w5 HWw5 H;simp only[szA] at H));have HGx:=kp (show Lc w5 g 28 (cellsH h) by obtain⟨ds,rfl⟩:=HWw5.out;exact HGw.out.other (Nat.ne_of_lt hne) ds);have hc0:=HGx.out.cell (show (cellsH h)[0]?=_ from rfl);have hc1:=HGx.out.cell (show (cellsH h)[1]?=_ from rfl);have hc2:=HGx.out.cell (show (cellsH h)[2]?=_ from rfl);have hc3:=HGx.out.cell (show (cellsH h)[3]?=_ from rfl);clear hne;subst h2;go_wp2_with fail
 all_goals try (go_ret2;exact⟨g4,HGE.out,H.out.at 0 rfl,H.out.1,by simp[placesN,afterV,bothF, *] <;> simp_all⟩)
 clear hc0 hc1 hc2 hc3;refine region_free H (tabS [(64,eT (.slice (some ⟨g4,0,none⟩) 3 4)),(65,eT (.slice (some ⟨g4,3,none⟩) 1 1)),(2,eT (.slice (some ⟨g4,0,none⟩) 3 4)),(3,eT (.slice (some ⟨g4,3,none⟩) 1 1))]) [] (tabS_out _ _ (by simp only[List.forall_mem_cons,mono_eqO,true_and];simp)) 4 (by kernel_rfl) (by kernel_rfl) (by kernel_rfl) (by kernel_rfl) [] [] rfl rfl (by decide) (by decide) (by decide) trivial ?_;simp only[tK];refine rT (fun w_=>by go_wp2_with fail;exact kso) fun v64=>?_;simp only[pA];refine rT (fun w_=>by go_wp2_with fail;exact kso) fun v65=>?_;simp only[pA];refine rO 64 rfl (fun w_ e0=>by obtain rfl:v64=_:=e0;go_wp2_with fail;exact kso) fun v2=>?_;simp only[pA];refine rO 65 rfl (fun w_ e0=>by obtain rfl:v65=_:=e0;go_wp2_with fail;exact kso) fun v3=>?_;simp only[pA];clear H;intro w6 HOX H hfin;obtain rfl:v64=_:=hF hfin 64 rfl;obtain rfl:v65=_:=hF hfin 65 rfl;obtain rfl:v2=_:=hF hfin 2 rfl;obtain rfl:v3=_:=hF hfin 3 rfl;clear hfin;simp only[dR];simp only[applyS] at H;have HXN:=kp (HOX.out.ext (Ext.refl w5) (fun g hg=>by cases hg));go_wp2_with fail;go_ret2
 exact⟨g4,HGE.out,H.out.at 0 rfl,H.out.1,by simp[placesN,afterV,bothF, *] <;> simp_all⟩
section
variable {P:Program}
theorem isAgg_intC (w:World) {E:TypeId} {k:IntKind} (hE:P.underlying E=some (.int k)):(isAgg E).run P w=.ok false w:=by
 unfold isAgg;rw[Sem.run_bind,run_underlying hE w];rfl
theorem part_int (w:World) {E:TypeId} {k:IntKind} (hE:P.underlying E=some (.int k)) {xs:Array Value} {off:Nat} {v:Value} (h:xs[off]?=some v):(part E xs off).run P w=.ok v w:=by
 simp[part,isAgg_intC w hE,h]
theorem part_arr (w:World) {E e:TypeId} {n:Nat} {i:TypeInfo} (hE:P.underlying E=some (.array n e)) (hi:P.info? E=some i) (xs:Array Value) (off:Nat):(part E xs off).run P w=.ok (.agg (xs.extract off (off+P.cellsOf E))) w:=by
 simp[part,isAgg,run_underlying hE,run_sizeOf w hi]
theorem eqFields_all (w:World) (d:Nat) {xs ys:Array Value} (q:Field→Bool):∀ (fs:List Field),(∀ f∈fs,f.name≠ "_")→(∀ f∈fs,∃ v u,(part f.type xs f.offset).run P w=.ok v w∧(part f.type ys f.offset).run P w=.ok u w∧(Op.equalIn d f.type v u).run P w=.ok (q f) w) →
  (Op.eqFields d xs ys fs).run P w=.ok (fs.all q) w
 |[],_,_=>by simp[Op.eqFields]
 |f::fs,hn,h=>by
  obtain⟨v,u,h1,h2,h3⟩:=h f (by simp);have h4:=eqFields_all w d q fs (fun g hg=>hn g (by simp[hg])) fun g hg=>h g (by simp[hg]);have hf:=hn f (by simp);simp only[Op.eqFields,hf,ne_eq,not_false_eq_true,if_true,Sem.run_bind,h1,h2,Result.andThen_ok,h3,List.all_cons];cases q f with
  |false=>simp
  |true=>simp[h4]
end
theorem info_ex (t:TypeId) (h:(prog.info? t).isSome=true):∃ i,prog.info? t=some i:=Option.isSome_iff_exists.1 h
theorem part_bool (w:World) {E:TypeId} (hE:prog.underlying E=some .bool) {xs:Array Value} {off:Nat} {v:Value} (h:xs[off]?=some v):(part E xs off).run prog w=.ok v w:=by
 have hg:(isAgg E).run prog w=.ok false w:=by unfold isAgg;rw[Sem.run_bind,run_underlying hE w];rfl
 simp[part,hg,h]
theorem fields28:prog.fieldsOf 28=#[{ name:= "Kind",type:=5,offset:=0,embedded:=false,tag:= "",pkgPath:= "",byteOffset:=0 },{ name:= "Sub",type:=5,offset:=1,embedded:=false,tag:= "",pkgPath:= "",byteOffset:=1 },{ name:= "ToDs",type:=4,offset:=2,embedded:=false,tag:= "",pkgPath:= "",byteOffset:=2 },{ name:= "FromDs",type:=4,offset:=3,embedded:=false,tag:= "",pkgPath:= "",byteOffset:=3 },{ name:= "More",type:=4,offset:=4,embedded:=false,tag:= "",pkgPath:= "",byteOffset:=4 },{ name:= "Retry",type:=4,offset:=5,embedded:=false,tag:= "",pkgPath:= "",byteOffset:=5 },{ name:= "Sleep",type:=4,offset:=6,embedded:=false,tag:= "",pkgPath:= "",byteOffset:=6 },{ name:= "MoreData",type:=4,offset:=7,embedded:=false,tag:= "",pkgPath:= "",byteOffset:=7 },{ name:= "Protected",type:=4,offset:=8,embedded:=false,tag:= "",pkgPath:= "",byteOffset:=8 },{ name:= "Duration",type:=3,offset:=9,embedded:=false,tag:= "",pkgPath:= "",byteOffset:=16 },{ name:= "A1",type:=23,offset:=10,embedded:=false,tag:= "",pkgPath:= "",byteOffset:=24 },{ name:= "A2",type:=23,offset:=16,embedded:=false,tag:= "",pkgPath:= "",byteOffset:=30 },{ name:= "A3",type:=23,offset:=22,embedded:=false,tag:= "",pkgPath:= "",byteOffset:=36 },{ name:= "A4",type:=23,offset:=28,embedded:=false,tag:= "",pkgPath:= "",byteOffset:=42 },{ name:= "Seq",type:=3,offset:=34,embedded:=false,tag:= "",pkgPath:= "",byteOffset:=48 },{ name:= "Frag",type:=3,offset:=35,embedded:=false,tag:= "",pkgPath:= "",byteOffset:=56 },{ name:= "Tid",type:=3,offset:=36,embedded:=false,tag:= "",pkgPath:= "",byteOffset:=64 },{ name:= "Ack",type:=5,offset:=37,embedded:=false,tag:= "",pkgPath:= "",byteOffset:=72 },{ name:= "Amsdu",type:=4,offset:=38,embedded:=false,tag:= "",pkgPath:= "",byteOffset:=73 },{ name:= "Eosp",type:=4,offset:=39,embedded:=false,tag:= "",pkgPath:= "",byteOffset:=74 }]:=by kernel_rfl
theorem fields45:prog.fieldsOf 45=#[{ name:= "Addr",type:=23,offset:=0,embedded:=false,tag:= "",pkgPath:= "",byteOffset:=0 },{ name:= "State",type:=5,offset:=6,embedded:=false,tag:= "",pkgPath:= "",byteOffset:=6 },{ name:= "Aid",type:=3,offset:=7,embedded:=false,tag:= "",pkgPath:= "",byteOffset:=8 },{ name:= "Caps",type:=3,offset:=8,embedded:=false,tag:= "",pkgPath:= "",byteOffset:=16 },{ name:= "Listen",type:=3,offset:=9,embedded:=false,tag:= "",pkgPath:= "",byteOffset:=24 },{ name:= "Seen",type:=3,offset:=10,embedded:=false,tag:= "",pkgPath:= "",byteOffset:=32 }]:=by kernel_rfl
theorem sizeU8q:(prog.info? 5).map (·.size)=some 1:=by kernel_rfl
theorem eqHdIn (w:World) (x y:Hd) (hx:x.Ok) (hy:y.Ok):(Op.equalIn 10000 28 (.agg (cellsH x).toArray) (.agg (cellsH y).toArray)).run prog w=.ok (decide (x=y)) w:=by
 obtain⟨ik,hik⟩:=info_ex 23 (by kernel_rfl);have hxa1:=hx.l1;have hxa2:=hx.l2;have hxa3:=hx.l3;have hxa4:=hx.l4;have hya1:=hy.l1;have hya2:=hy.l2;have hya3:=hy.l3;have hya4:=hy.l4;clear hx hy;obtain⟨k,s,b1,b2,b3,b4,b5,b6,b7,du,a1,a2,a3,a4,sq,fr,ti,ac,am,eo⟩:=x;obtain⟨k',s',b1',b2',b3',b4',b5',b6',b7',du',a1',a2',a3',a4',sq',fr',ti',ac',am',eo'⟩:=y;dsimp only at hxa1 hxa2 hxa3 hxa4 hya1 hya2 hya3 hya4;obtain⟨a1_0,a1_1,a1_2,a1_3,a1_4,a1_5,rfl⟩:=six hxa1;obtain⟨a2_0,a2_1,a2_2,a2_3,a2_4,a2_5,rfl⟩:=six hxa2;obtain⟨a3_0,a3_1,a3_2,a3_3,a3_4,a3_5,rfl⟩:=six hxa3;obtain⟨a4_0,a4_1,a4_2,a4_3,a4_4,a4_5,rfl⟩:=six hxa4;obtain⟨a1_0',a1_1',a1_2',a1_3',a1_4',a1_5',rfl⟩:=six hya1;obtain⟨a2_0',a2_1',a2_2',a2_3',a2_4',a2_5',rfl⟩:=six hya2;obtain⟨a3_0',a3_1',a3_2',a3_3',a3_4',a3_5',rfl⟩:=six hya3;obtain⟨a4_0',a4_1',a4_2',a4_3',a4_4',a4_5',rfl⟩:=six hya4;rw[run_equalIn_struct w 9999 28 _ _ (by kernel_rfl) (by kernel_rfl),fields28];rw[eqFields_all w 9999 (fun f=>if f.offset=0 then k==k' else if f.offset=1 then s==s' else if f.offset=2 then b1==b1' else if f.offset=3 then b2==b2' else if f.offset=4 then b3==b3' else if f.offset=5 then b4==b4' else if f.offset=6 then b5==b5' else if f.offset=7 then b6==b6' else if f.offset=8 then b7==b7' else if f.offset=9 then du==du' else if f.offset=10 then [a1_0,a1_1,a1_2,a1_3,a1_4,a1_5]==[a1_0',a1_1',a1_2',a1_3',a1_4',a1_5'] else if f.offset=16 then [a2_0,a2_1,a2_2,a2_3,a2_4,a2_5]==[a2_0',a2_1',a2_2',a2_3',a2_4',a2_5'] else if f.offset=22 then [a3_0,a3_1,a3_2,a3_3,a3_4,a3_5]==[a3_0',a3_1',a3_2',a3_3',a3_4',a3_5'] else if f.offset=28 then [a4_0,a4_1,a4_2,a4_3,a4_4,a4_5]==[a4_0',a4_1',a4_2',a4_3',a4_4',a4_5'] else if f.offset=34 then sq==sq' else if f.offset=35 then fr==fr' else if f.offset=36 then ti==ti' else if f.offset=37 then ac==ac' else if f.offset=38 then am==am' else eo==eo') _ (by decide) fun f hf=>?_]
 ·refine congrArg (fun z=>Result.ok z w) (Bool.eq_iff_iff.2 ?_);simp[and_assoc]
 simp only[List.mem_cons,List.not_mem_nil,or_false] at hf;rcases hf with rfl|rfl|rfl|rfl|rfl|rfl|rfl|rfl|rfl|rfl|rfl|rfl|rfl|rfl|rfl|rfl|rfl|rfl|rfl|rfl
 ·exact⟨_,_,part_int w underlying5 rfl,part_int w underlying5 rfl,(run_equalIn_int w 9998 5 _ _ _ _ underlying5).trans (by simp)⟩
 ·exact⟨_,_,part_int w underlying5 rfl,part_int w underlying5 rfl,(run_equalIn_int w 9998 5 _ _ _ _ underlying5).trans (by simp)⟩
 ·exact⟨_,_,part_bool w underlying4 rfl,part_bool w underlying4 rfl,(run_equalIn_bool w 9998 4 _ _ underlying4).trans (by simp)⟩
 ·exact⟨_,_,part_bool w underlying4 rfl,part_bool w underlying4 rfl,(run_equalIn_bool w 9998 4 _ _ underlying4).trans (by simp)⟩
 ·exact⟨_,_,part_bool w underlying4 rfl,part_bool w underlying4 rfl,(run_equalIn_bool w 9998 4 _ _ underlying4).trans (by simp)⟩
 ·exact⟨_,_,part_bool w underlying4 rfl,part_bool w underlying4 rfl,(run_equalIn_bool w 9998 4 _ _ underlying4).trans (by simp)⟩
 ·exact⟨_,_,part_bool w underlying4 rfl,part_bool w underlying4 rfl,(run_equalIn_bool w 9998 4 _ _ underlying4).trans (by simp)⟩
 ·exact⟨_,_,part_bool w underlying4 rfl,part_bool w underlying4 rfl,(run_equalIn_bool w 9998 4 _ _ underlying4).trans (by simp)⟩
 ·exact⟨_,_,part_bool w underlying4 rfl,part_bool w underlying4 rfl,(run_equalIn_bool w 9998 4 _ _ underlying4).trans (by simp)⟩
 ·exact⟨_,_,part_int w underlying3 rfl,part_int w underlying3 rfl,(run_equalIn_int w 9998 3 _ _ _ _ underlying3).trans (by simp)⟩
 ·refine⟨_,_,part_arr w underlying23 hik _ _,part_arr w underlying23 hik _ _,?_⟩;rw[show prog.cellsOf 23=6 by kernel_rfl];exact (run_eq_ints (P:=prog) w underlying23 underlying5 sizeU8q _ _ hxa1 hya1 9997).trans (by simp)
 ·refine⟨_,_,part_arr w underlying23 hik _ _,part_arr w underlying23 hik _ _,?_⟩;rw[show prog.cellsOf 23=6 by kernel_rfl];exact (run_eq_ints (P:=prog) w underlying23 underlying5 sizeU8q _ _ hxa2 hya2 9997).trans (by simp)
 ·refine⟨_,_,part_arr w underlying23 hik _ _,part_arr w underlying23 hik _ _,?_⟩;rw[show prog.cellsOf 23=6 by kernel_rfl];exact (run_eq_ints (P:=prog) w underlying23 underlying5 sizeU8q _ _ hxa3 hya3 9997).trans (by simp)
 ·refine⟨_,_,part_arr w underlying23 hik _ _,part_arr w underlying23 hik _ _,?_⟩;rw[show prog.cellsOf 23=6 by kernel_rfl];exact (run_eq_ints (P:=prog) w underlying23 underlying5 sizeU8q _ _ hxa4 hya4 9997).trans (by simp)
 ·exact⟨_,_,part_int w underlying3 rfl,part_int w underlying3 rfl,(run_equalIn_int w 9998 3 _ _ _ _ underlying3).trans (by simp)⟩
 ·exact⟨_,_,part_int w underlying3 rfl,part_int w underlying3 rfl,(run_equalIn_int w 9998 3 _ _ _ _ underlying3).trans (by simp)⟩
 ·exact⟨_,_,part_int w underlying3 rfl,part_int w underlying3 rfl,(run_equalIn_int w 9998 3 _ _ _ _ underlying3).trans (by simp)⟩
 ·exact⟨_,_,part_int w underlying5 rfl,part_int w underlying5 rfl,(run_equalIn_int w 9998 5 _ _ _ _ underlying5).trans (by simp)⟩
 ·exact⟨_,_,part_bool w underlying4 rfl,part_bool w underlying4 rfl,(run_equalIn_bool w 9998 4 _ _ underlying4).trans (by simp)⟩
 ·exact⟨_,_,part_bool w underlying4 rfl,part_bool w underlying4 rfl,(run_equalIn_bool w 9998 4 _ _ underlying4).trans (by simp)⟩
theorem neHd (w:World) (x y:Hd) (hx:x.Ok) (hy:y.Ok):(binOp .neq 28 (.agg (cellsH x).toArray) (.agg (cellsH y).toArray)).run prog w=.ok (.bool (!decide (x=y))) w:=by
 rw[run_neq_struct,eqHdIn w x y hx hy];rfl
structure En where
 addr:List (BitVec 8)
 state:Int
 aid:Int
 caps:Int
 listen:Int
 seen:Int
deriving DecidableEq
structure En.Ok (e:En):Prop where
 l:e.addr.length=6
 s0:0≤e.state
 s1:e.state<256
def cellsE (e:En):List Value:=e.addr.map V8++[.int .u8 e.state,.int .i64 e.aid,.int .i64 e.caps,.int .i64 e.listen,.int .i64 e.seen]
theorem eqEnIn (w:World) (x y:En) (hx:x.Ok) (hy:y.Ok):(Op.equalIn 10000 45 (.agg (cellsE x).toArray) (.agg (cellsE y).toArray)).run prog w=.ok (decide (x=y)) w:=by
 obtain⟨ik,hik⟩:=info_ex 23 (by kernel_rfl);have hxaddr:=hx.l;have hyaddr:=hy.l;clear hx hy;obtain⟨ad,st,ai,ca,li,se⟩:=x;obtain⟨ad',st',ai',ca',li',se'⟩:=y;dsimp only at hxaddr hyaddr;obtain⟨addr_0,addr_1,addr_2,addr_3,addr_4,addr_5,rfl⟩:=six hxaddr;obtain⟨addr_0',addr_1',addr_2',addr_3',addr_4',addr_5',rfl⟩:=six hyaddr;rw[run_equalIn_struct w 9999 45 _ _ (by kernel_rfl) (by kernel_rfl),fields45];rw[eqFields_all w 9999 (fun f=>if f.offset=0 then [addr_0,addr_1,addr_2,addr_3,addr_4,addr_5]==[addr_0',addr_1',addr_2',addr_3',addr_4',addr_5'] else if f.offset=6 then st==st' else if f.offset=7 then ai==ai' else if f.offset=8 then ca==ca' else if f.offset=9 then li==li' else se==se') _ (by decide) fun f hf=>?_]
 ·refine congrArg (fun z=>Result.ok z w) (Bool.eq_iff_iff.2 ?_);simp[and_assoc]
 simp only[List.mem_cons,List.not_mem_nil,or_false] at hf;rcases hf with rfl|rfl|rfl|rfl|rfl|rfl
 ·refine⟨_,_,part_arr w underlying23 hik _ _,part_arr w underlying23 hik _ _,?_⟩;rw[show prog.cellsOf 23=6 by kernel_rfl];exact (run_eq_ints (P:=prog) w underlying23 underlying5 sizeU8q _ _ hxaddr hyaddr 9997).trans (by simp)
 ·exact⟨_,_,part_int w underlying5 rfl,part_int w underlying5 rfl,(run_equalIn_int w 9998 5 _ _ _ _ underlying5).trans (by simp)⟩
 ·exact⟨_,_,part_int w underlying3 rfl,part_int w underlying3 rfl,(run_equalIn_int w 9998 3 _ _ _ _ underlying3).trans (by simp)⟩
 ·exact⟨_,_,part_int w underlying3 rfl,part_int w underlying3 rfl,(run_equalIn_int w 9998 3 _ _ _ _ underlying3).trans (by simp)⟩
 ·exact⟨_,_,part_int w underlying3 rfl,part_int w underlying3 rfl,(run_equalIn_int w 9998 3 _ _ _ _ underlying3).trans (by simp)⟩
 ·exact⟨_,_,part_int w underlying3 rfl,part_int w underlying3 rfl,(run_equalIn_int w 9998 3 _ _ _ _ underlying3).trans (by simp)⟩
theorem neEn (w:World) (x y:En) (hx:x.Ok) (hy:y.Ok):(binOp .neq 45 (.agg (cellsE x).toArray) (.agg (cellsE y).toArray)).run prog w=.ok (.bool (!decide (x=y))) w:=by
 rw[run_neq_struct,eqEnIn w x y hx hy];rfl
end Go.Proofs.YtfecopfofkdnpaaGreat
