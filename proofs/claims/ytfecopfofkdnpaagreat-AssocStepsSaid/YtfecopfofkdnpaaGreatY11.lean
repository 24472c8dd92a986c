/- Texts of this proof, put together: App, ElL, FreeC, Fs3. -/
import Derived.Test.YtfecopfofkdnpaaGreatY4
import Derived.Test.YtfecopfofkdnpaaGreatY10
import Derived.Test.YtfecopfofkdnpaaGreatY3
import Derived.Test.YtfecopfofkdnpaaGreatY5
import Derived.Test.YtfecopfofkdnpaaGreatY1
namespace Go.Proofs.YtfecopfofkdnpaaGreat
open Go.RowKit Tryz
section
variable {P:Program}
theorem append_where (w:World) (base:Nat) (t ty e:TypeId) (i:TypeInfo) (z:Value) (ht:P.underlying t=some (.slice e)) (hi:P.info? e=some i) (hz:i.zero=some z)
  (v:Value) (n:Nat) (xs:List Value) (hown:w.ownsRow base e i.size v n xs)
  (a:Addr) (m c:Nat) (news:List Value) (hl:news.length=m*i.size) (hnews:∀ j u,news[j]?=some u→w.cell? (a.add j)=some u) (h1:∀ u∈news,u.oneCell'=true)
  (h63:n+m≤maxLen) (hbytes:(n+m)*i.bytes≤140737488355328) (v':Value) (w':World) (hr:(Builtin.append_ #[t,t] ty #[v,.slice (some a) m c]).run P w=.ok v' w') (hm:0<m) :
  v'.ownBlock=v.ownBlock∨v'.ownBlock=some w.heap.size:=by
 have hsmall:n+m≤9223372036854775807:=by simp only[maxLen] at h63;omega
 rcases hown with ⟨hlen,⟨rfl,rfl⟩|⟨g,cap,cur,rfl,hbg,hg,hnc,hcm,hcs,htake⟩⟩
 ·have h2:=run_append_nil (P:=P) w t ty e i z ht hi hz a m c news hl hnews hm (by omega) (by have hb:=hbytes;simp only[Nat.zero_add] at hb;omega);rw[h2] at hr;cases hr
  exact .inr rfl
 ·by_cases hroom:n+m≤cap
  ·have hfit:n*i.size+news.length≤cur.size:=by rw[hl,hcs,←Nat.add_mul];exact Nat.mul_le_mul_right _ hroom
   have h2:=run_append_room (P:=P) w t ty e i ht hi g n cap cur hg a m c news hl hnews h1 hroom hfit;rw[h2] at hr;cases hr
   exact .inl rfl
  ·have holds:∀ j u,xs[j]?=some u→w.cell? ((⟨g,0,none⟩:Addr).add j)=some u:=World.ownsRow.cells (base:=base) (e:=e) (size:=i.size) (n:=n) (v:=.slice (some ⟨g,0,none⟩) n cap) ⟨hlen,.inr ⟨g,cap,cur,rfl,hbg,hg,hnc,hcm,hcs,htake⟩⟩ rfl;have h2:=run_append_grow (P:=P) w t ty e i z ht hi hz ⟨g,0,none⟩ n cap xs hlen holds a m c news hl hnews (by omega) (by omega) (growslice_fits (by omega) hbytes);rw[h2] at hr;cases hr
   exact .inr rfl
structure ElemT (P:Program) (t e:TypeId) (sz bytes:Nat):Prop where
 under:P.underlying t=some (.slice e)
 info:∃ i z,P.info? e=some i∧i.zero=some z∧i.size=sz∧i.bytes=bytes∧z.cells.size=sz
 pos:0<sz
theorem L_appT {α:Type} {sz:Nat} {f:α→List Value} {t e:TypeId} {bytes:Nat} (he:ElemT P t e sz bytes) 
  {w0 w:World} {bs:List Bk} {ops:Array Oper} {rest:List Oper} {o:Oper} {a:Act} {Q:Exit→Act→World→Prop} (H:Kp (Loc w0 w bs)) (hgd:o.guard=none) (s x:Operand)
  (ho:o.op=.call { callee:=.builtin .append,args:=#[s,x],argTypes:=#[t,t] })
  (base:Nat) (hb0:w0.heap.size≤base) (hbase:base≤w.heap.size) (v:Value) (xs:List α) (hs:a.eval s=v) (hown:w.ownsRow base e sz v xs.length (xs.flatMap f)) (hsep:∀ g∈bs.map (·.1),v.ownBlock≠some g)
  (g:Nat) (y:α) (hx:a.eval x=.slice (some ⟨g,0,none⟩) 1 1) (E:TypeId) (hy:Lc w g E (f y)) (hf:(f y).length=sz) (h1:∀ u∈f y,u.oneCell'=true) (hlen:(xs.length+1)*bytes≤140737488355328) (hlen2:xs.length+1≤100000000)
  (h:∀ v' w',Kp (w'.ownsRow base e sz v' (xs++[y]).length ((xs++[y]).flatMap f))→Kp (w.grownBy w' v.ownBlock)→Kp (v'.ownBlock=v.ownBlock∨v'.ownBlock=some w.heap.size)→Kp (Loc w0 w' bs)→wpList P ops Q rest (a.put o.dst v') w'):wpList P ops Q (o::rest) a w:=by
 obtain⟨i,z,hi,hz,hsz,hby,hzs⟩:=he.info;subst hsz hby;have hl:(f y).length=1*i.size:=by rw[hf,Nat.one_mul]
 have hnews:∀ j u,(f y)[j]?=some u→w.cell? ((⟨g,0,none⟩:Addr).add j)=some u:=fun j u hu=>by
  rw[Addr.add_mid,Nat.zero_add];exact hy.cell hu
 have h63:xs.length+1≤maxLen:=by simp only[maxLen];omega
 refine wpList_plain hgd fun K hK=>?_;obtain⟨v',w',hr,h2,h3,_⟩:=run_append_own (P:=P) w base t o.type e i z i.size i.bytes he.under hi hz rfl rfl hzs he.pos v xs.length (xs.flatMap f) hown ⟨g,0,none⟩ 1 1 (f y) hl hnews h1 h63 hlen hbase;have h4:=append_where (P:=P) w base t o.type e i z he.under hi hz v xs.length (xs.flatMap f) hown ⟨g,0,none⟩ 1 1 (f y) hl hnews h1 h63 hlen v' w' hr (by omega);unfold Oper.wp execOp;simp only[ho,resolve,invoke,builtin,Sem.run_bind,Sem.run_pure,Result.andThen_ok,List.map_toArray,List.map_cons,List.map_nil,hs,hx,hr];refine hK _ _ (h v' w' (kp ?_) (kp h3) (kp h4) (kp ?_))
 ·rw[List.length_append,List.flatMap_append,List.flatMap_cons,List.flatMap_nil,List.append_nil];exact h2
 ·refine⟨H.out.1.grown h3 (fun k hk=>Nat.le_trans hb0 (ownsT_block hown k hk)),H.out.2.1,fun b hbm=>⟨(H.out.2.2 b hbm).1,?_⟩⟩;have h5:=(H.out.2.2 b hbm).2;exact (h3.block b.1 h5.lt (fun e=>hsep b.1 (List.mem_map.2 ⟨b,hbm,rfl⟩) e.symm)).trans h5
end
theorem ownsT_lt {w:World} {base E n sz:Nat} {v:Value} {xs:List Value} (h:w.ownsRow base E sz v n xs):∀ k,v.ownBlock=some k→k<w.heap.size:=by
 intro k hk;obtain⟨_,h2⟩:=h;rcases h2 with ⟨rfl,_⟩|⟨g,cap,cur,rfl,hb,hg,_⟩
 ·cases hk
 ·have:g=k:=by simpa[Value.ownBlock] using hk
  subst this;exact (Array.getElem?_eq_some_iff.1 hg).1
theorem ownsT_wrote {w w':World} {base E n sz g:Nat} {v:Value} {xs:List Value} (h:w.ownsRow base E sz v n xs) (hw:Wrote w w' g) (hne:v.ownBlock≠some g):w'.ownsRow base E sz v n xs:=by
 obtain⟨ds,rfl⟩:=hw;exact ownsT_keep h fun k hk=>setRow_other _ _ _ _ (fun e=>hne (e▸hk))
theorem Loc.join {w0 w w':World} {bs bs0:List Bk} (h:Loc w0 w bs0) (k:Loc w w' bs):Loc w0 w' (bs++bs0):=by
 refine⟨h.1.trans k.1,?_,fun b hb=>?_⟩
 ·rw[List.map_append,List.nodup_append];refine⟨k.2.1,h.2.1,fun a ha c hc=>?_⟩;obtain⟨x,hx,rfl⟩:=List.mem_map.1 ha;obtain⟨y,hy,rfl⟩:=List.mem_map.1 hc;have h1:=(k.2.2 x hx).1;have h2:=(h.2.2 y hy).2.lt;omega
 ·rcases List.mem_append.1 hb with hb|hb
  ·exact⟨Nat.le_trans h.1.size (k.2.2 b hb).1,(k.2.2 b hb).2⟩
  ·exact⟨(h.2.2 b hb).1,(h.2.2 b hb).2.ext k.1⟩
theorem Loc.sub {w0 w:World} {bs cs:List Bk} (h:Loc w0 w bs) (hs:List.Sublist cs bs):Loc w0 w cs:=
 ⟨h.1,h.2.1.sublist (hs.map _),fun b hb=>h.2.2 b (hs.subset hb)⟩
theorem Loc.perm {w0 w:World} {bs cs:List Bk} (h:Loc w0 w bs) (hp:bs.Perm cs):Loc w0 w cs:=
 ⟨h.1,((hp.map _).nodup_iff).1 h.2.1,fun b hb=>h.2.2 b (hp.mem_iff.2 hb)⟩
theorem own_add {w0 w:World} {bs:List Bk} {B E sz n:Nat} {v:Value} {xs:List Value} (H:Loc w0 w bs) (ho:w.ownsRow B E sz v n xs) (hB:w0.heap.size≤B) (hsep:∀ z∈bs.map (·.1),v.ownBlock≠some z) :
  ∃ t:List Bk,Loc w0 w (t++bs)∧(∀ z∈t.map (·.1),v.ownBlock=some z)∧∀ W bs',Loc w0 W (t++bs')→W.ownsRow B E sz v n xs:=by
 obtain⟨h1,⟨rfl,rfl⟩|⟨g,cap,cur,rfl,hb,hg,a,b,c,ht⟩⟩:=ho
 ·exact⟨[],H,fun z hz=>by simp at hz,fun W _ _=>⟨h1,.inl ⟨rfl,rfl⟩⟩⟩
 ·refine⟨[(g,E,cur.toList)],⟨H.1,?_,fun q hq=>?_⟩,fun z hz=>by simp at hz;subst hz;rfl,fun W bs' hW=>⟨h1,.inr ⟨g,cap,cur,rfl,hb,?_,a,b,c,ht⟩⟩⟩
  ·rw[List.cons_append,List.nil_append,List.map_cons,List.nodup_cons];exact⟨fun hm=>hsep g hm rfl,H.2.1⟩
  ·rcases List.mem_cons.1 hq with rfl|hq
   ·exact⟨Nat.le_trans hB hb,by show w.heap[g]?=some (.cells cur.toList.toArray E (0,0));rw[Array.toArray_toList];exact hg⟩
   ·exact H.2.2 q hq
  ·have:=hW.at 0 (b:=(g,E,cur.toList)) rfl;have h2:W.heap[g]?=some (.cells cur.toList.toArray E (0,0)):=this
   rwa [Array.toArray_toList] at h2
theorem cont_len:∀ (k:Nat) (b c:By),(contF k b c).1.length+(contF k b c).2.1.length≤c.length+b.length
 |0,b,c=>by simp[contF]
 |k+1,[],c=>by simp[contF]
 |k+1,x::l,c=>by
  rw[contF_cons]
  split
  ·simp
  ·split
   ·simp;omega
   ·split
    ·simp
    ·rename_i m r hd
     split
     ·have h:=cont_len k r (c++l.take x.toNat);have h2:=congrArg List.length (List.take_append_drop x.toNat l);rw[hd] at h2;simp only[List.length_append,List.length_cons] at h h2 ⊢;omega
     ·simp
theorem contOf_len (b:By):(contOf b).1.length+(contOf b).2.1.length≤b.length:=by
 have:=cont_len b.length b []
 simpa[contOf] using this
def KeepM (lst:Nat→By→Nat × Int):Prop:=∀ m b,m≤64→(lst m b).1≤64∧m≤(lst m b).1
theorem one_keep {last:Bool} {lst:Nat→By→Nat × Int} (h:KeepM lst) (m:Nat) (b:By) (hm:m≤64):(oneF last lst m b).2.1≤64∧m≤(oneF last lst m b).2.1∧((oneF last lst m b).2.2=0→b≠[]→m+1≤(oneF last lst m b).2.1):=by
 unfold oneF
 split
 ·simp;omega
 ·rename_i h64
  split
  ·simp;omega
  ·split
   ·simp;omega
   ·split
    ·simp;omega
    ·split
     ·simp;omega
     ·split
      ·simp;omega
      ·split
       ·simp;omega
       ·split
        ·simp;omega
        ·exact⟨(h (m+1) _ (by omega)).1,Nat.le_trans (Nat.le_succ m) (h (m+1) _ (by omega)).2,fun _ _=>(h (m+1) _ (by omega)).2⟩
theorem one_rest {last:Bool} {lst:Nat→By→Nat × Int} (m:Nat) (x:BitVec 8) (b:By):(oneF last lst m (x::b)).1.length≤b.length:=by
 have h:=contOf_len b;unfold oneF
 split
 ·simp
 ·dsimp only
  split
  ·simp
  ·split
   ·simp
   ·split
    ·simp
    ·split
     ·simp
     ·split
      ·dsimp only;omega
      ·split
       ·simp
       ·dsimp only;omega
theorem loop_keep {one:Nat→By→By × Nat × Int} (h:∀ m b,m≤64→(one m b).2.1≤64∧m≤(one m b).2.1):∀ (k m:Nat) (b:By),m≤64→(loopF one k m b).1≤64∧m≤(loopF one k m b).1
 |0,m,b,hm=>⟨hm,Nat.le_refl _⟩
 |k+1,m,b,hm=>by
  unfold loopF
  split
  ·exact⟨hm,Nat.le_refl _⟩
  ·have h1:=h m b hm
   split
   ·exact h1
   ·have:=loop_keep h k (one m b).2.1 (one m b).1 h1.1;exact⟨this.1,Nat.le_trans h1.2 this.2⟩
theorem list_keep:∀ lv,KeepM (listF lv)
 |0=>fun _ _ hm=>⟨hm,Nat.le_refl _⟩
 |lv+1=>fun _ _ hm=>loop_keep (fun m b hm=>⟨(one_keep (list_keep lv) m b hm).1,(one_keep (list_keep lv) m b hm).2.1⟩) _ _ _ hm
def cur:List Value→List Sto→List Nat→List Value
 |c,[],_=>c
 |c,s::l,rem=>if s.i∈rem then c else cur s.new l rem
def linked (p g T:Nat):List Value→List Sto→Prop
 |_,[]=>True
 |c,s::l=>(s.p=p∧s.g=g∧s.T=T∧s.old=c)∧linked p g T s.new l
theorem linked_all {p g T:Nat}:∀ {l:List Sto} {c:List Value},linked p g T c l→∀ s∈l,s.p=p∧s.g=g∧s.T=T
 |t::l,c,h,s,hs=>by
  rcases List.mem_cons.1 hs with rfl|hs
  ·exact⟨h.1.1,h.1.2.1,h.1.2.2.1⟩
  ·exact linked_all h.2 s hs
theorem cur_at {p g T:Nat} {rem:List Nat}:∀ {l:List Sto} {c:List Value},linked p g T c l→(l.map (·.i)).Pairwise (·<·)→∀ s∈l,s.i∈rem→(∀ s'∈l,s'.i<s.i→s'.i∉rem)→cur c l rem=s.old
 |t::l,c,h,hp,s,hs,h1,h2=>by
  rw[List.map_cons,List.pairwise_cons] at hp;unfold cur;rcases List.mem_cons.1 hs with rfl|hs'
  ·rw[if_pos h1];exact h.1.2.2.2.symm
  ·rw[if_neg (h2 t (by simp) (hp.1 _ (List.mem_map.2 ⟨s,hs',rfl⟩)))];exact cur_at h.2 hp.2 s hs' h1 fun s' hs''=>h2 s' (by simp[hs''])
theorem cur_after {rem:List Nat}:∀ {l:List Sto} {c:List Value},(l.map (·.i)).Pairwise (·<·)→∀ s∈l,(∀ s'∈l,s'.i≤s.i→s'.i∉rem)→(∀ s'∈l,s.i<s'.i→s'.i∈rem)→cur c l rem=s.new
 |t::l,c,hp,s,hs,h1,h2=>by
  rw[List.map_cons,List.pairwise_cons] at hp;unfold cur;rcases List.mem_cons.1 hs with rfl|hs'
  ·rw[if_neg (h1 _ (by simp) (Nat.le_refl _))];cases l with
   |nil=>rfl
   |cons u l =>
    unfold cur;rw[if_pos (h2 u (by simp) (hp.1 _ (by simp)))]
  ·rw[if_neg (h1 t (by simp) (Nat.le_of_lt (hp.1 _ (List.mem_map.2 ⟨s,hs',rfl⟩))))];exact cur_after hp.2 s hs' (fun s' q=>h1 s' (by simp[q])) fun s' q=>h2 s' (by simp[q])
theorem cur_same {rem rem':List Nat}:∀ {l:List Sto} {c:List Value},(∀ s∈l,s.i∈rem↔s.i∈rem')→cur c l rem=cur c l rem'
 |[],_,_=>rfl
 |t::l,c,h=>by
  unfold cur;have ht:=h t (by simp);by_cases q:t.i∈rem
  ·rw[if_pos q,if_pos (ht.1 q)]
  ·rw[if_neg q,if_neg (fun z=>q (ht.2 z))];exact cur_same fun s hs=>h s (by simp[hs])
def curEnd:List Value→List Sto→List Value
 |c,[]=>c
 |_,s::l=>curEnd s.new l
theorem cur_nil:∀ (l:List Sto) (c:List Value),cur c l []=curEnd c l
 |[],_=>rfl
 |s::l,c=>by unfold cur curEnd;rw[if_neg (by simp)];exact cur_nil l _
theorem cur_full {rem:List Nat}:∀ {l:List Sto} {c:List Value},(∀ s∈l,s.i∈rem)→cur c l rem=c
 |[],_,_=>rfl
 |s::l,c,h=>by unfold cur;rw[if_pos (h s (by simp))]
theorem Loc.setC {w0 W w:World} {bs:List Bk} {p g T:Nat} {c0 c1:List Value} (h:Loc w0 W bs) (hin:bs[p]?=some (g,T,c0)) (ho:Out [g] W w) (hn:Lc w g T c1):Loc w0 w (bs.set p (g,T,c1)):=by
 have:=Loc.applyS (St:=[⟨0,p,g,T,c0,c1⟩]) h ⟨hin,trivial⟩ ho (fun s hs=>by obtain rfl:=List.mem_singleton.1 hs;exact hn);exact this
theorem Loc.sameC {w0 W w:World} {bs:List Bk} {p g T:Nat} {c0:List Value} (h:Loc w0 W bs) (hin:bs[p]?=some (g,T,c0)) (ho:Out [g] W w) (hn:Lc w g T c0):Loc w0 w bs:=by
 have h1:=h.setC hin ho hn
 have e:bs.set p (g,T,c0)=bs:=by
  obtain⟨hlt,he⟩:=List.getElem?_eq_some_iff.1 hin;rw[←he];exact List.set_getElem_self hlt
 rw[e] at h1;exact h1
theorem Loc.keepC {w0 W w:World} {bs:List Bk} {p g T:Nat} {c0:List Value} (h:Loc w0 W bs) (is:List Nat) (hin:bs[p]?=some (g,T,c0)) (ho:Out [g] W w) (hn:is.Nodup) (hd:is.all (fun i=>!([p]:List Nat).contains i)=true):Loc w0 w (keepS is bs):=
 Loc.keep (St:=[⟨0,p,g,T,c0,c0⟩]) h is ⟨hin,trivial⟩ ho hn hd
section
variable {P:Program} {ops:Array Oper}
structure InvC (ops:Array Oper) (S:Tmp→Value→World→Prop) (St:List Sto) (p g T:Nat) (c0:List Value) (n:Nat) (W:World) (a0:Act) (rem:List Nat) (listed:Array Bool) (a:Act) (w:World):Prop where
 head:HeadInv .any ops n listed
 nodup:rem.Nodup
 lt:∀ j∈rem,j<n
 mem:∀ j,j<n→(listed.getD j false=true↔j∉rem)
 size:a.tmps.size=a0.tmps.size
 defers:a.defers=a0.defers
 done:∀ d,(∃ j o,j<n∧j∉rem∧ops[j]?=some o∧o.dst=some d)→∃ v,a.tmps[d]?=some v∧S d v w
 open_ : ∀ d, (∀ j o, j < n → j ∉ rem → ops[j]? = some o → o.dst ≠ some d) → a.tmps[d]? = a0.tmps[d]?
 out:Out [g] W w
 now:Lc w g T (cur c0 St rem)
 pre:∀ s∈St,s.i∉rem→∀ j,j<n→Region.waitsFor .any ops s.i j=true→j∉rem
theorem InvC.step {S:Tmp→Value→World→Prop} {St:List Sto} {p g T:Nat} {c0:List Value} (hS:∀ d v w w',S d v w→Out [g] w w'→S d v w') {n:Nat} {W:World} {a0:Act} {rem:List Nat} {listed:Array Bool} {a:Act} {w w':World} (inv:InvC ops S St p g T c0 n W a0 rem listed a w)
  {i:Nat} {o:Oper} (hi:i∈Region.ready .any ops listed) (hin:i<n) (ho:ops[i]?=some o) (v:Value) (hext:Out [g] w w')
  (hsz:∀ (j:Nat) o d,j<n→ops[j]?=some o→o.dst=some d→d<a0.tmps.size)
  (hv:∀ d,o.dst=some d→S d v w')
  (hnow:Lc w' g T (cur c0 St (rem.erase i))) (hpre:∀ s∈St,s.i∉rem.erase i→∀ j,j<n→Region.waitsFor .any ops s.i j=true→j∉rem.erase i) :
  InvC ops S St p g T c0 n W a0 (rem.erase i) (listed.setIfInBounds i true) (a.put o.dst v) w':=by
 have hun:=(mem_ready.1 hi).1
 have hirem:i∈rem:=by
  rcases Classical.em (i∈rem) with h|h
  ·exact h
  ·have:=(inv.mem i hin).2 h;rw[getD_both hun] at this;cases this
 have hmem:∀ j,j<n→(j∉rem.erase i↔j∉rem∨j=i):=fun j _=>by
  rw[inv.nodup.mem_erase_iff]
  constructor
  ·intro h;by_cases hj:j=i
   ·exact .inr hj
   ·exact .inl fun hm=>h ⟨hj,hm⟩
  ·rintro (h|h) ⟨h1,h2⟩
   ·exact h h2
   ·exact h1 h
 have hlen:i<listed.size:=by
  rcases Nat.lt_or_ge i listed.size with h|h
  ·exact h
  ·simp[Array.getElem?_eq_none h] at hun
 refine⟨inv.head.set hi hin,inv.nodup.erase i,fun j hj=>inv.lt j (List.mem_of_mem_erase hj),fun j hj=>?_,by rw[put_size,inv.size],by rw[put_defers,inv.defers],fun d h=>?_,fun d h=>?_,inv.out.trans hext,hnow,hpre⟩
 ·rw[hmem j hj];by_cases hji:i=j
  ·subst hji;simp[hlen]
  ·rw[getD_set_ne false hji,inv.mem j hj];exact⟨fun h=>.inl h,fun h=>h.resolve_right fun e=>hji e.symm⟩
 ·obtain⟨j,oj,hj,hjr,hoj,hdj⟩:=h;by_cases hod:o.dst=some d
  ·rw[hod,put_get,if_pos rfl];have hlt:d<a.tmps.size:=by rw[inv.size];exact hsz i o d hin ho hod
   exact⟨v,by rw[if_pos hlt],hv d hod⟩
  ·rw[put_other _ _ _ _ hod]
   obtain⟨u,hu1,hu2⟩:=inv.done d ⟨j,oj,hj,(by
    rcases (hmem j hj).1 hjr with h|h
    ·exact h
    ·subst h;rw[ho] at hoj;cases hoj;exact absurd hdj hod),hoj,hdj⟩
   exact⟨u,hu1,hS d u w w' hu2 hext⟩
 ·have hod:o.dst≠some d:=h i o hin ((hmem i hin).2 (.inr rfl)) ho;rw[put_other _ _ _ _ hod];exact inv.open_ d fun j oj hj hjr hoj=>h j oj hj ((hmem j hj).2 (.inl hjr)) hoj
def FinC (ops:Array Oper) (S:Tmp→Value→World→Prop) (St:List Sto) (g T:Nat) (c0:List Value) (n:Nat) (W:World) (a0 a':Act) (w':World):Prop:=
 Out [g] W w'∧a'.tmps.size=a0.tmps.size∧a'.defers=a0.defers∧(∀ d,(∃ j o,j<n∧ops[j]?=some o∧o.dst=some d)→∃ v,a'.tmps[d]?=some v∧S d v w')∧(∀ d,(∀ j o,j<n→ops[j]?=some o→o.dst≠some d)→a'.tmps[d]?=a0.tmps[d]?) ∧
 Lc w' g T (curEnd c0 St)
theorem flat_freeC {S:Tmp→Value→World→Prop} {St:List Sto} {p g T:Nat} {c0:List Value} (hS:∀ d v w w',S d v w→Out [g] w w'→S d v w') {n:Nat} {W:World} {a0:Act} {Q:Exit→Act→World→Prop} (hB:flatB ops n=true) (hlk:linked p g T c0 St) (hso:(St.map (·.i)).Pairwise (·<·)) (hch:∀ s∈St,∀ s'∈St,s'.i<s.i→Region.waitsFor .any ops s.i s'.i=true)
  (hsz:∀ (j:Nat) o d,j<n→ops[j]?=some o→o.dst=some d→d<a0.tmps.size)
  (hq:∀ i o,i<n→(∀ s∈St,s.i≠i)→ops[i]?=some o→∀ (b:Act) (w:World),b.tmps.size=a0.tmps.size→(∀ d∈o.looksAt ops,(∀ j o,j<n→ops[j]?=some o→o.dst≠some d)→b.tmps[d]?=a0.tmps[d]?)→Out [g] W w→(∀ d∈o.looksAt ops,(∃ j o,j<n∧ops[j]?=some o∧o.dst=some d)→∃ v,b.tmps[d]?=some v∧S d v w)→((∀ s∈St,Region.waitsFor .any ops s.i i=true)→Lc w g T c0) →
   ∀ K:Act→World→Prop,(∀ v w',(∀ d,o.dst=some d→S d v w')→Ext w w'→K (b.put o.dst v) w')→if Region.wanted o (yielded ops b.tmps) then o.wp P b w K Q else K (b.put o.dst undef) w)
  (hst:∀ s∈St,∀ o,ops[s.i]?=some o→o.dst=none∧o.guard=none∧∀ (b:Act) (w:World),b.tmps.size=a0.tmps.size→(∀ d∈o.looksAt ops,(∀ j o,j<n→ops[j]?=some o→o.dst≠some d)→b.tmps[d]?=a0.tmps[d]?)→Out [g] W w→(∀ d∈o.looksAt ops,(∃ j o,j<n∧ops[j]?=some o∧o.dst=some d)→∃ v,b.tmps[d]?=some v∧S d v w)→Lc w s.g s.T s.old→(execOp b.eval o).run P w=.ok .skip (w.setRow s.g s.new.toArray))
  (ht:∀ a' w',FinC ops S St g T c0 n W a0 a' w'→wpList P ops Q (ops.toList.drop n) a' w') :
  ∀ (f:Nat) (rem:List Nat) (listed:Array Bool) (a:Act) (w:World),rem.length=f→InvC ops S St p g T c0 n W a0 rem listed a w→wpAny P .any ops Q (f+(ops.size-n)) listed a w:=by
 simp only[flatB,Bool.and_eq_true,Bool.or_eq_true,decide_eq_true_eq] at hB;obtain⟨⟨⟨⟨hsel,hn⟩,hsc⟩,hseq⟩,hhd⟩:=hB;intro f
 induction f with
 |zero =>
  intro rem listed a w hf inv;have hnil:rem=[]:=List.eq_nil_of_length_eq_zero hf;subst hnil
  have hlisted:listed=(List.replicate n true++List.replicate (ops.size-n) false).toArray:=by
   have hs:=inv.head.size;refine Array.ext (by simp[hs];omega) fun j h1 h2=>?_;rcases Nat.lt_or_ge j n with hj|hj
   ·have:=(inv.mem j hj).2 (by simp);simp[h1] at this;simp[this,hj,List.getElem_append_left]
   ·have:=inv.head.tail j hj (by rw[←hs];exact h1);simp[h1] at this;rw[this];simp only[List.getElem_toArray];rw[List.getElem_append_right (by simpa using hj)];simp
  have hfin:FinC ops S St g T c0 n W a0 a w:=
   ⟨inv.out,inv.size,inv.defers,fun d ⟨j,o,hj,hoj,hdj⟩=>inv.done d ⟨j,o,hj,by simp,hoj,hdj⟩,fun d h=>inv.open_ d fun j o hj _ hoj=>h j o hj hoj,(by have:=inv.now;rw[cur_nil] at this;exact this)⟩
  have hl:(ops.toList.drop n).length=ops.size-n:=by simp
  have:=wpAny_of_seq (P:=P) (md:=.any) (Q':=Q) (ops:=ops) (ops.toList.drop n) n listed a w (fun j=>by simp[List.getElem?_drop]) (by rw[hl,hlisted];exact hseq) (ht a w hfin);rw[hl] at this;rw[Nat.zero_add];exact this
 |succ f ih =>
  intro rem listed a w hf inv
  have hne:∃ i,i∈rem:=by
   cases rem with
   |nil=>simp at hf
   |cons x l=>exact⟨x,by simp⟩
  have hpos:0<n:=by obtain⟨i,hi⟩:=hne;have:=inv.lt i hi;omega
  have hleast:∀ k,(∃ i,i≤k∧i∈rem)→∃ i∈rem,∀ j∈rem,i≤j:=by
   intro k
   induction k with
   |zero=>rintro⟨i,hi,him⟩;exact⟨i,him,fun j _=>by omega⟩
   |succ k ihk =>
    rintro⟨i,hi,him⟩;rcases Classical.em (∃ i,i≤k∧i∈rem) with h|h
    ·exact ihk h
    ·refine⟨i,him,fun j hj=>?_⟩;rcases Nat.lt_or_ge j i with h'|h'
     ·exact absurd ⟨j,by omega,hj⟩ h
     ·exact h'
  obtain⟨i9,hi9⟩:=hne;obtain⟨i0,hi0,hmin⟩:=hleast i9 ⟨i9,Nat.le_refl _,hi9⟩;have hi0n:=inv.lt i0 hi0
  have hi0u:listed.getD i0 false=false:=by
   cases h:listed.getD i0 false with
   |false=>rfl
   |true=>exact absurd hi0 ((inv.mem i0 hi0n).1 h)
  have hi0s:i0<listed.size:=by rw[inv.head.size];omega
  have hrow:=fun i (hi:i<n)=>List.all_eq_true.1 hhd i (List.mem_range.2 hi)
  have hready:i0∈Region.ready .any ops listed:=by
   have hr:=hrow i0 hi0n;cases ho:ops[i0]? with
   |none=>simp[ho] at hr
   |some o =>
    simp only[ho,Bool.and_eq_true] at hr;refine mem_ready.2 ⟨getD_in hi0s hi0u,o,ho,fun e he hb=>?_⟩;have:=Array.all_eq_true'.1 hr.1 e he;simp[hb] at this;refine (inv.mem e.on (by omega)).2 fun hm=>?_;have:=hmin _ hm;omega
  rw[show f+1+(ops.size-n)=(f+(ops.size-n))+1 by omega];refine⟨fun h=>(by rw[h] at hready;cases hready),fun i hi=>?_⟩
  have hin:i<n:=by
   rcases Nat.lt_or_ge i n with h|h
   ·exact h
   ·rcases hsc with ⟨⟨hlt,hs⟩,hc⟩|heq
    ·exact absurd hi (tail_waits hs hc hlt inv.head _ i0 rfl hi0n (getD_in hi0s hi0u) i h)
    ·obtain⟨_,o,ho,_⟩:=mem_ready.1 hi;have:=(Array.getElem?_eq_some_iff.1 ho).1;omega
  obtain⟨hun,o,ho,hall⟩:=mem_ready.1 hi
  have hirem:i∈rem:=by
   rcases Classical.em (i∈rem) with h|h
   ·exact h
   ·have:=(inv.mem i hin).2 h;rw[getD_both hun] at this;cases this
  have hlen:(rem.erase i).length=f:=by rw[List.length_erase_of_mem hirem];omega
  have hlg:∀ d∈o.looksAt ops,(∃ j oj,j<n∧ops[j]?=some oj∧oj.dst=some d)→∃ v,a.tmps[d]?=some v∧S d v w:=fun d hd ⟨j,oj,hj,hoj,hdj⟩=>by
   have hr:=hrow i hin;simp only[ho,Bool.and_eq_true] at hr;have h2:=List.all_eq_true.1 hr.2 d hd;have h3:=List.all_eq_true.1 h2 j (List.mem_range.2 hj);simp only[hoj,hdj,Bool.or_eq_true] at h3
   have h4:Region.waitsFor .any ops i j=true:=by
    rcases h3 with h|h
    ·simp at h
    ·exact h
   obtain⟨oi,hoi,e,he,hb,hon⟩:=Region.waitsFor_spec h4;have:oi=o:=Option.some.inj (hoi.symm.trans ho);subst this;have:=hall e he hb;rw[hon] at this;exact inv.done d ⟨j,oj,hj,(inv.mem j hj).1 this,hoj,hdj⟩
  have hopn:∀ d∈o.looksAt ops,(∀ j o,j<n→ops[j]?=some o→o.dst≠some d)→a.tmps[d]?=a0.tmps[d]?:=fun d _ h=>inv.open_ d fun j o hj _ hoj=>h j o hj hoj;unfold wpOp;simp only[ho];have hmemE:∀ j,j∈rem.erase i↔j≠i∧j∈rem:=fun j=>inv.nodup.mem_erase_iff;by_cases hs:∃ s∈St,s.i=i
  ·obtain⟨s,hsm,hsi⟩:=hs;obtain⟨hd,hg,hrun⟩:=hst s hsm o (by rw[hsi];exact ho);obtain⟨hq1,hq2,hq3⟩:=linked_all hlk s hsm
   have hdoneA:∀ j,j<n→Region.waitsFor .any ops i j=true→j∉rem:=fun j hj hw=>by
    obtain⟨oi,hoi,e,he,hb,hon⟩:=Region.waitsFor_spec hw;rw[ho] at hoi;have:o=oi:=Option.some.inj hoi;subst this;have:=hall e he hb;rw[hon] at this;exact (inv.mem j hj).1 this
   have hdone:∀ s'∈St,s'.i<s.i→s'.i∉rem:=fun s' hs' hlt=>hdoneA s'.i (by omega) (by rw[←hsi];exact hch s hsm s' hs' hlt)
   have hopen:∀ s'∈St,s.i<s'.i→s'.i∈rem:=fun s' hs' hlt=>by
    rcases Classical.em (s'.i∈rem) with h|h
    ·exact h
    ·exact absurd (by rw[hsi];exact hirem) (inv.pre s' hs' h s.i (by omega) (hch s' hs' s hsm hlt))
   have hnow:=inv.now;rw[cur_at hlk hso s hsm (by rw[hsi];exact hirem) hdone] at hnow;rw[if_pos (by simp[Region.wanted,hg])];refine .inl ?_;unfold Oper.wp;rw[hrun a w inv.size hopn inv.out hlg (by rw[hq2,hq3];exact hnow)];simp only[Oper.upon];rw[hq2];refine ih (rem.erase i) _ _ _ hlen (inv.step hS hi hin ho undef (Out.set (by simp) w _) hsz (fun d hd'=>by rw[hd] at hd';cases hd') ?_ ?_)
   ·rw[cur_after hso s hsm (fun s' hs' hle hm=>?_) (fun s' hs' hlt=>?_)]
    ·exact hnow.set _
    ·obtain⟨h1,h2⟩:=(hmemE _).1 hm;exact hdone s' hs' (by omega) h2
    ·exact (hmemE _).2 ⟨by omega,hopen s' hs' hlt⟩
   ·intro t ht hn j hj hw hm;obtain⟨h1,h2⟩:=(hmemE _).1 hm;by_cases e:t.i=i
    ·exact hdoneA j hj (by rw[←e];exact hw) h2
    ·exact inv.pre t ht (fun z=>hn ((hmemE _).2 ⟨e,z⟩)) j hj hw h2
  ·have hnS:∀ s∈St,s.i≠i:=fun s h1 h2=>hs ⟨s,h1,h2⟩
   have H:=hq i o hin hnS ho a w inv.size hopn inv.out hlg
    (fun hA=>by
     have h9:=inv.now;rw[cur_full fun s hs'=>Classical.byContradiction fun z=>inv.pre s hs' z i hin (hA s hs') hirem] at h9
     exact h9)
    (wpAny P .any ops Q (f+(ops.size-n)) (listed.setIfInBounds i true))
    (fun v w' hv hext=>ih (rem.erase i) _ _ _ hlen (inv.step hS hi hin ho v (Out.of_ext _ hext) hsz hv (by
     rw[cur_same (rem':=rem) fun s' hs'=>⟨fun z=>((hmemE _).1 z).2,fun z=>(hmemE _).2 ⟨hnS s' hs',z⟩⟩]
     exact inv.now.ext hext) (fun t ht hn j hj hw hm=>inv.pre t ht (fun z=>hn ((hmemE _).2 ⟨hnS t ht,z⟩)) j hj hw ((hmemE _).1 hm).2)))
   split
   ·rename_i hw;rw[if_pos hw] at H;exact .inl H
   ·rename_i hw;rw[if_neg hw] at H;exact H
def wpC (P:Program) (ops:Array Oper) (W:World) (S:Tmp→Value→World→Prop) (St:List Sto) (g T:Nat) (c0:List Value) (A:List Nat) (D:List Tmp) (fin:Act→Prop):Nat→List Oper→Act→Prop
 |_,[],a=>fin a
 |k,o::l,a=>match St.find? (fun s=>s.i==k) with
  |some s=>(o.dst=none∧o.guard=none∧∀ w,Out [g] W w→(∀ d∈o.looksAt ops,d∈D→S d (a.tmps.getD d undef) w)→Lc w s.g s.T s.old→(execOp a.eval o).run P w=.ok .skip (w.setRow s.g s.new.toArray))∧wpC P ops W S St g T c0 A D fin (k+1) l a
  |none=>(∀ w,Out [g] W w→(∀ d∈o.looksAt ops,d∈D→S d (a.tmps.getD d undef) w)→(A.contains k=true→Lc w g T c0)→wpList P ops (KS S o a w) [o] a w)∧∀ v,wpC P ops W S St g T c0 A D fin (k+1) l (a.put o.dst v)
theorem free_of_walkC {W:World} {S:Tmp→Value→World→Prop} {St:List Sto} {g T:Nat} {c0:List Value} {A:List Nat} {D:List Tmp} {fin:Act→Prop} {Q:Exit→Act→World→Prop} (hsel:∀ (j:Nat) (o:Oper) cs b,ops[j]?=some o→o.op≠.select cs b):∀ (l:List Oper) (k:Nat) (a:Act),(∀ o∈l,∃ j:Nat,ops[j]?=some o)→(∀ o∈l,∀ d,o.dst=some d→d<a.tmps.size)→topoB ops l=true →
  wpC P ops W S St g T c0 A D fin k l a→∀ (j:Nat) o,l[j]?=some o→∀ (b:Act) (w:World),b.tmps.size=a.tmps.size→(∀ d∈o.looksAt ops,d∉dsts l→b.tmps[d]?=a.tmps[d]?)→Out [g] W w→(∀ d∈o.looksAt ops,d∈D→S d (b.tmps.getD d undef) w) →
   match St.find? (fun s=>s.i==k+j) with
   |some s=>o.dst=none∧o.guard=none∧(Lc w s.g s.T s.old→(execOp b.eval o).run P w=.ok .skip (w.setRow s.g s.new.toArray))
   |none=>(A.contains (k+j)=true→Lc w g T c0)→∀ K:Act→World→Prop,(∀ v w',(∀ d,o.dst=some d→S d v w')→Ext w w'→K (b.put o.dst v) w')→if Region.wanted o (yielded ops b.tmps) then o.wp P b w K Q else K (b.put o.dst undef) w
 |[],_,_,_,_,_,_,j,o,ho=>by simp at ho
 |o::l,k,a,hin,hlt,ht,h,0,o',ho'=>by
  have hoo:o=o':=by simpa using ho'
  subst hoo;simp only[topoB,Bool.and_eq_true] at ht;obtain⟨⟨t1,t2⟩,t3⟩:=ht;intro b w hb hag hext hSd
  have hl:∀ d∈o.looksAt ops,a.tmps[d]?=b.tmps[d]?:=fun d hd=>by
   have:=List.all_eq_true.1 t1 d hd;exact (hag d hd (by simpa using this)).symm
  obtain⟨j,hj⟩:=hin o (by simp);obtain⟨e1,e2⟩:=eval_same (ops:=ops) hl (fun cs b=>hsel j o cs b hj)
  have hSa:∀ d∈o.looksAt ops,d∈D→S d (a.tmps.getD d undef) w:=fun d hd hD=>by
   have:=hSd d hd hD;rw[Array.getD_eq_getD_getElem?] at this ⊢;rw[hl d hd];exact this
  unfold wpC at h;rw[Nat.add_zero];cases hf:St.find? (fun s=>s.i==k) with
  |some s =>
   rw[hf] at h;obtain⟨⟨h1,h2,h3⟩,_⟩:=h;refine⟨h1,h2,fun hL=>?_⟩;rw[←e1];exact h3 w hext hSa hL
  |none =>
   rw[hf] at h;intro hA K hK;have H:=h.1 w hext hSa hA;unfold wpList at H;rw[e2] at H
   split at H
   ·rename_i hw
    rw[if_pos hw];rcases H with H|⟨_,_,_,hc,_⟩
    ·exact wp_transfer e1 (hlt o (by simp)) (Oper.wp_mono (fun _ _ h=>h) H) hK
    ·cases hc
   ·rename_i hw
    rw[if_neg hw];obtain⟨_,u,he,hs,hx⟩:=H;refine hK undef w (fun d hd=>?_) (Ext.refl w);rw[hd] at he;rw[put_inj (hlt o (by simp) d hd) he];exact hs d hd
 |o::l,k,a,hin,hlt,ht,h,j+1,o',ho'=>by
  simp only[topoB,Bool.and_eq_true] at ht;obtain⟨⟨t1,t2⟩,t3⟩:=ht;intro b w hb hag hext hSd;rw[show k+(j+1)=(k+1)+j by omega];unfold wpC at h;have hoj:l[j]?=some o':=by simpa using ho'
  have hsame:∀ c:Act,(c=a∧o.dst=none∨c=a.put o.dst (b.tmps.getD (o.dst.getD 0) undef))→∀ d∈o'.looksAt ops,d∉dsts l→b.tmps[d]?=c.tmps[d]?:=fun c hc d hd hn=>by
   rcases hc with ⟨rfl,hod⟩|rfl
   ·exact hag d hd (by simp only[dsts,List.filterMap_cons,hod];exact hn)
   ·cases hod:o.dst with
    |none=>exact hag d hd (by simp only[dsts,List.filterMap_cons,hod];exact hn)
    |some e =>
     have he:=hlt o (by simp) e hod;rw[put_get];by_cases hde:e=d
     ·subst hde;rw[if_pos rfl,if_pos he];have heb:e<b.tmps.size:=by rw[hb];exact he
      simp[heb]
     ·rw[if_neg hde];refine hag d hd ?_;simp only[dsts,List.filterMap_cons,hod,List.mem_cons,not_or];exact⟨fun e'=>hde e'.symm,hn⟩
  cases hf:St.find? (fun s=>s.i==k) with
  |some s =>
   rw[hf] at h;exact free_of_walkC hsel l (k+1) a (fun x hx=>hin x (by simp[hx])) (fun x hx d hd=>hlt x (by simp[hx]) d hd) t3 h.2 j o' hoj b w hb (hsame a (.inl ⟨rfl,h.1.1⟩)) hext hSd
  |none =>
   rw[hf] at h;exact free_of_walkC hsel l (k+1) _ (fun x hx=>hin x (by simp[hx])) (fun x hx d hd=>by rw[put_size];exact hlt x (by simp[hx]) d hd) t3 (h.2 (b.tmps.getD (o.dst.getD 0) undef)) j o' hoj b w (by rw[put_size];exact hb) (hsame _ (.inr rfl)) hext hSd
theorem region_freeC {id:Nat} {Q:Exit→Act→World→Prop} {a:Act} {w0 W:World} {bs:List Bk} {l:List Oper} (H:Kp (Loc w0 W bs)) (S:Tmp→Value→World→Prop) (St:List Sto) (p g T:Nat) (c0:List Value) (hS:∀ d v w w',S d v w→Out [g] w w'→S d v w') (n:Nat) (hm:P.follows .mixedOrders=true)
  (hB:flatB l.toArray n=true) (hT:topoB l.toArray (l.take n)=true) (hD:((l.take n).all fun o=>match o.dst with|some d=>decide (d<a.tmps.size)|none=>true)=true)
  (is:List Nat) (his:St.map (·.i)=is) (hso:is.Pairwise (·<·)) (hil:is.all (fun i=>decide (i<n))=true) (hch:(is.all fun i=>is.all fun j=>!decide (j<i) || Region.waitsFor .any l.toArray i j)=true) (hin:bs[p]?=some (g,T,c0)) (hlk:linked p g T c0 St) (A:List Nat) (hA:(A.all fun i=>is.all fun j=>Region.waitsFor .any l.toArray j i)=true)
  (h:wpC P l.toArray W S St g T c0 A (dsts (l.take n)) (fun a'=>∀ w',Kp (Out [g] W w')→Kp (Loc w0 w' (bs.set p (g,T,curEnd c0 St)))→(∀ d∈dsts (l.take n),S d (a'.tmps.getD d undef) w')→wpList P l.toArray Q (l.drop n) a' w') 0 (l.take n) a) :
  (Code.region id l.toArray true).wp P Q a W:=by
 have hn:=flatB_le hB
 have hidx:∀ (i:Nat) (o:Oper),i<n→l.toArray[i]?=some o→(l.take n)[i]?=some o:=fun i o hi ho=>by
  rw[List.getElem?_take,if_pos hi];simpa using ho
 have hinl:∀ (i:Nat) (o:Oper),i<n→l.toArray[i]?=some o→o∈l.take n:=fun i o hi ho=>List.mem_of_getElem? (hidx i o hi ho)
 have hout:∀ o,o∈l.take n→∃ j:Nat,j<n∧l.toArray[j]?=some o:=fun o ho=>by
  obtain⟨j,hj⟩:=List.getElem?_of_mem ho;rw[List.getElem?_take] at hj
  split at hj
  ·rename_i hlt;exact⟨j,hlt,by simpa using hj⟩
  ·cases hj
 have hlt:∀ o∈l.take n,∀ d,o.dst=some d→d<a.tmps.size:=fun o ho d hd=>by
  have:=List.all_eq_true.1 hD o ho;rw[hd] at this;simpa using this
 have hni:is.Nodup:=hso.imp (fun h e=>by omega)
 have hSi:∀ s∈St,∀ s'∈St,s.i=s'.i→s=s':=by
  subst his;intro s hs s' hs' he;obtain⟨j,hj⟩:=List.getElem?_of_mem hs;obtain⟨j',hj'⟩:=List.getElem?_of_mem hs';have h1:(St.map (·.i))[j]?=some s.i:=by rw[List.getElem?_map,hj];rfl
  have h2:(St.map (·.i))[j']?=some s.i:=by rw[List.getElem?_map,hj',he];rfl
  obtain rfl:=nodup_get hni h1 h2;rw[hj] at hj';exact Option.some.inj hj'
 have hch2:∀ s∈St,∀ s'∈St,s'.i<s.i→Region.waitsFor .any l.toArray s.i s'.i=true:=fun s hs s' hs' hlt=>by
  have h1:=List.all_eq_true.1 hch s.i (by rw[←his];exact List.mem_map.2 ⟨s,hs,rfl⟩);have h2:=List.all_eq_true.1 h1 s'.i (by rw[←his];exact List.mem_map.2 ⟨s',hs',rfl⟩)
  simpa[hlt] using h2
 have hfind:∀ s∈St,St.find? (fun s'=>s'.i==s.i)=some s:=fun s hs=>by
  cases hf:St.find? (fun s'=>s'.i==s.i) with
  |none=>exact absurd (List.find?_eq_none.1 hf s hs) (by simp)
  |some s' =>
   have h1:=List.find?_some hf;rw[hSi s' (List.mem_of_find?_eq_some hf) s hs (by simpa using h1)]
 have hwalk:=free_of_walkC (P:=P) (ops:=l.toArray) (Q:=Q) (Region.noSelect_spec (flatB_sel hB)) (l.take n) 0 a (fun o' ho'=>by
   obtain⟨j,_,hj⟩:=hout o' ho';exact⟨j,hj⟩) hlt hT h
 have hSd:∀ (b:Act) (w:World) (o:Oper),(∀ d∈o.looksAt l.toArray,(∃ j o,j<n∧l.toArray[j]?=some o∧o.dst=some d)→∃ v,b.tmps[d]?=some v∧S d v w)→∀ d∈o.looksAt l.toArray,d∈dsts (l.take n)→S d (b.tmps.getD d undef) w:=fun b w o hdn d hd hdD=>by
  obtain⟨oj,hoj,hdj⟩:=mem_dsts.1 hdD;obtain⟨j,hj,hj2⟩:=hout oj hoj;obtain⟨v,hv1,hv2⟩:=hdn d hd ⟨j,oj,hj,hj2,hdj⟩;rw[Array.getD_eq_getD_getElem?,hv1];exact hv2
 refine wp_region_any hm ?_
 have HF:=flat_freeC (P:=P) (ops:=l.toArray) (S:=S) (St:=St) hS (n:=n) (W:=W) (a0:=a) (Q:=Q) hB hlk (by rw[his];exact hso) hch2
  (fun j o d hj hoj hd=>hlt o (hinl j o hj hoj) d hd)
  (fun i o hi2 hne ho b w hb hop hext hdn hAi K hK=>by
   have h1:=hwalk i o (hidx i o hi2 ho) b w hb (fun d hd hnd=>hop d hd fun j oj hj hoj hdj=>hnd (mem_dsts.2 ⟨oj,hinl j oj hj hoj,hdj⟩)) hext (hSd b w o hdn);have hno:St.find? (fun s=>s.i==0+i)=none:=List.find?_eq_none.2 fun s hs=>by simpa using hne s hs
   rw[hno] at h1
   exact h1 (fun hc=>hAi fun s hs=>List.all_eq_true.1 (List.all_eq_true.1 hA i (by simpa using hc)) s.i (by rw[←his];exact List.mem_map.2 ⟨s,hs,rfl⟩)) K hK)
  (fun s hs o ho=>by
   have hsn:s.i<n:=by subst his;simpa using List.all_eq_true.1 hil s.i (List.mem_map.2 ⟨s,hs,rfl⟩)
   have hgen:=fun (b:Act) (w:World) (hb:b.tmps.size=a.tmps.size) (hop:∀ d∈o.looksAt l.toArray,(∀ j o,j<n→l.toArray[j]?=some o→o.dst≠some d)→b.tmps[d]?=a.tmps[d]?) (hext:Out [g] W w) (hdn:∀ d∈o.looksAt l.toArray,(∃ j o,j<n∧l.toArray[j]?=some o∧o.dst=some d)→∃ v,b.tmps[d]?=some v∧S d v w) =>
    hwalk s.i o (hidx s.i o hsn ho) b w hb (fun d hd hnd=>hop d hd fun j oj hj hoj hdj=>hnd (mem_dsts.2 ⟨oj,hinl j oj hj hoj,hdj⟩)) hext (hSd b w o hdn)
   rw[Nat.zero_add,hfind s hs] at hgen
   have hdg:∀ (k:Nat) (L:List Oper) (c:Act) (fin:Act→Prop) (D:List Tmp),wpC P l.toArray W S St g T c0 A D fin k L c→∀ (j:Nat),L[j]?=some o→k+j=s.i→o.dst=none∧o.guard=none:=by
    intro k L
    induction L generalizing k with
    |nil=>intro c fin D _ j hj;simp at hj
    |cons x L ih =>
     intro c fin D hw j hj hk;unfold wpC at hw
     match j with
     |0 =>
      have:x=o:=by simpa using hj
      subst this;rw[show k=s.i by omega,hfind s hs] at hw;exact⟨hw.1.1,hw.1.2.1⟩
     |j+1 =>
      cases hf:St.find? (fun s=>s.i==k) with
      |some s'=>rw[hf] at hw;exact ih (k+1) c fin D hw.2 j (by simpa using hj) (by omega)
      |none=>rw[hf] at hw;exact ih (k+1) _ fin D (hw.2 undef) j (by simpa using hj) (by omega)
   obtain⟨hd,hg⟩:=hdg 0 _ _ _ _ h s.i (hidx s.i o hsn ho) (by omega)
   exact⟨hd,hg,fun b w hb hop hext hdn hL=>(hgen b w hb hop hext hdn).2.2 hL⟩)
  (by
   intro a' w' hf;obtain⟨ho,h2,h3,h4,h5,h6⟩:=hf
   have hend:∀ (L:List Oper) (k:Nat) (c:Act),c.tmps.size=a'.tmps.size→c.defers=a'.defers→(∀ o∈L,∀ d,o.dst=some d→d<c.tmps.size)→(∀ d,d<a'.tmps.size→d∉dsts L→c.tmps[d]?=a'.tmps[d]?)→∀ {D:List Tmp} {fin:Act→Prop},wpC P l.toArray W S St g T c0 A D fin k L c→∃ c',fin c'∧c'.tmps.size=a'.tmps.size∧c'.defers=a'.defers∧∀ d,d<a'.tmps.size→c'.tmps[d]?=a'.tmps[d]?:=by
    intro L
    induction L with
    |nil=>intro k c hs hdf _ hag D fin hw;exact⟨c,hw,hs,hdf,fun d hd=>hag d hd (by simp[dsts])⟩
    |cons o L ih =>
     intro k c hs hdf hlt2 hag D fin hw;unfold wpC at hw;cases hf:St.find? (fun s=>s.i==k) with
     |some s =>
      rw[hf] at hw;refine ih (k+1) c hs hdf (fun x hx d hd=>hlt2 x (by simp[hx]) d hd) (fun d hd hnd=>hag d hd ?_) hw.2;simp only[dsts,List.filterMap_cons,hw.1.1];exact hnd
     |none =>
      rw[hf] at hw;refine ih (k+1) (c.put o.dst (a'.tmps.getD (o.dst.getD 0) undef)) (by rw[put_size];exact hs) (by rw[put_defers];exact hdf) (fun x hx d hd=>by rw[put_size];exact hlt2 x (by simp[hx]) d hd) (fun d hd hnd=>?_) (hw.2 _);cases hod:o.dst with
      |none=>exact hag d hd (by simp only[dsts,List.filterMap_cons,hod];exact hnd)
      |some e =>
       have he:=hlt2 o (by simp) e hod;rw[put_get];by_cases hde:e=d
       ·subst hde;rw[if_pos rfl,if_pos he];have heb:e<a'.tmps.size:=by rw[←hs];exact he
        simp[heb]
       ·rw[if_neg hde];refine hag d hd ?_;simp only[dsts,List.filterMap_cons,hod,List.mem_cons,not_or];exact⟨fun e'=>hde e'.symm,hnd⟩
   obtain⟨c',hfin,hcs,hcd,hca⟩:=hend (l.take n) 0 a h2.symm h3.symm hlt (fun d hd hnd=>(h5 d fun j oj hj hoj hdj=>hnd (mem_dsts.2 ⟨oj,hinl j oj hj hoj,hdj⟩)).symm) h
   have:a'=c':=act_ext hcd.symm fun d=>by
    by_cases hd:d<a'.tmps.size
    ·exact (hca d hd).symm
    ·rw[Array.getElem?_eq_none (by omega),Array.getElem?_eq_none (by omega)]
   rw[this];have hlist:l.toArray.toList.drop n=l.drop n:=by simp
   rw[hlist];refine hfin w' (kp ho) (kp (H.out.setC hin ho h6)) fun d hd=>?_;obtain⟨oj,hoj,hdj⟩:=mem_dsts.1 hd;obtain⟨j,hj,hj2⟩:=hout oj hoj;obtain⟨v,hv1,hv2⟩:=h4 d ⟨j,oj,hj,hj2,hdj⟩
   rw[Array.getD_eq_getD_getElem?,←this,hv1];exact hv2)
  n (List.range n) (Array.replicate l.toArray.size false) a W.drew (by simp)
  (by
   refine⟨⟨by simp,fun j oj _ hl=>(by rw[getD_replicate_false] at hl;cases hl),fun t _ ht=>getD_in (by simpa using ht) (getD_replicate_false _ _)⟩,List.nodup_range,fun j hj=>List.mem_range.1 hj,fun j hj=>?_,rfl,rfl,fun d h=>?_,fun _ _=>rfl,Out.of_ext _ (Ext.drew W),?_,fun s hs hr=>?_⟩
   ·rw[getD_replicate_false];simp[hj]
   ·obtain⟨j,o,hj,hjr,_⟩:=h;exact absurd (List.mem_range.2 hj) hjr
   ·rw[cur_full fun s hs=>List.mem_range.2 (by subst his;simpa using List.all_eq_true.1 hil s.i (List.mem_map.2 ⟨s,hs,rfl⟩))];exact ((H.out.2.2 _ (List.mem_of_getElem? hin)).2).ext (Ext.drew W)
   ·have hsn:s.i<n:=by subst his;simpa using List.all_eq_true.1 hil s.i (List.mem_map.2 ⟨s,hs,rfl⟩)
    exact absurd (List.mem_range.2 hsn) hr)
 rw[show n+(l.toArray.size-n)=l.toArray.size by omega] at HF;exact HF
end
theorem run_stp {P:Program} {o:Oper} {a:Act} {w:World} {g T:Nat} {ps new:List Lf} (ty:TypeId) (x y:Operand) (ho:o.op=.store ty x y) (off:Nat) (hx:a.eval x=.pointer (some ⟨g,off,none⟩)) (i:Nat) (hf:fat ps off=some i) (n:Nat) (qs:List Lf) (v:Value) (hy:a.eval y=v) (hv:v.cells=(cat qs).toArray)
  (hn:lsum ((ps.drop i).take n)=lsum qs) (hz:(P.info? ty).map (·.size)=some (lsum qs)) (hL:Lc w g T (cat ps)) (hnew:pput ps i n qs=new):(execOp a.eval o).run P w=.ok .skip (w.setRow g (cat new).toArray):=by
 have hfit:=put_fits n hf;rw[hn] at hfit;have hs:=run_storeCells_at (P:=P) g off T (cat qs) 0 (cat ps).toArray w hL (by simp only[List.size_toArray];rw[cat_len qs];exact hfit) (fun u hu=>(List.all_eq_true.1 (cat_one qs)) u hu);rw[Nat.add_zero,show (cat ps).toArray.toList=cat ps from rfl,cat_put n hf hn,hnew] at hs
 have hvv:(storeVar ty ⟨g,off,none⟩ v).run P w=.ok () (w.setRow g (cat new).toArray):=by
  cases hq:P.info? ty with
  |none=>simp[hq] at hz
  |some k =>
   have hz2:k.size=lsum qs:=by simpa[hq] using hz
   have hz3:(cat qs).toArray.size=k.size:=by rw[List.size_toArray,cat_len,hz2]
   simp only[storeVar,sizeOf,typeInfo];simp[hq,hv,hz3,hs]
   try (rw[cat_len,hz2];simp[hs])
 unfold execOp;simp only[ho,hx,hy,Instr.storeAt,Instr.sureAddr,Sem.run_bind,Sem.run_pure,Result.andThen_ok,hvv]
theorem Loc.out {w0 W w:World} {bs:List Bk} {G:List Nat} (h:Loc w0 W bs) (ho:Out G W w) (hG:∀ g∈G,w0.heap.size≤g∧g∉bs.map (·.1)):Loc w0 w bs:=
 ⟨ho.ext h.1 (fun g hg=>(hG g hg).1),h.2.1,fun b hb=>⟨(h.2.2 b hb).1,ho.lc (h.2.2 b hb).2 (fun hm=>(hG b.1 hm).2 (List.mem_map.2 ⟨b,hb,rfl⟩))⟩⟩
end Go.Proofs.YtfecopfofkdnpaaGreat
