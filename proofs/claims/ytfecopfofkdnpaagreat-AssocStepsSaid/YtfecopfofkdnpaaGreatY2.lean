/- Texts of this proof, put together: Slices, Spine, Spine0, Eq, Com, Lc, Late, Loc. -/
import Derived.Test.YtfecopfofkdnpaaGreatY1
import Derived.Laws.AppendOwn
import Derived.Laws.AppendOwnNone
import Derived.OwnWalk
import Derived.Lib.ConvBytes
import Derived.ProofKit
import Derived.ChangeKeysEq
import Derived.Test.YtfecopfofkdnpaaGreatProg
namespace Go.Proofs.YtfecopfofkdnpaaGreat
open Go.RowKit Tryz
def SlB (w:World) (v:Value) (l:List (BitVec 8)):Prop:=
 (l=[]∧(v=.slice none 0 0∨∃ a cap,v=.slice (some a) 0 cap))∨∃ b off cap,v=.slice (some ⟨b,off,none⟩) l.length cap∧b<w.heap.size∧∀ (j:Nat) x,l[j]?=some x→w.cell? ⟨b,off+j,none⟩=some (V8 x)
theorem Ext.cell {w w':World} (h:Ext w w') {b i:Nat} (hb:b<w.heap.size):w'.cell? ⟨b,i,none⟩=w.cell? ⟨b,i,none⟩:=by
 obtain⟨x,rfl⟩:=h;exact more_cell w x b i hb
theorem Ext.size {w w':World} (h:Ext w w'):w.heap.size≤w'.heap.size:=by
 obtain⟨x,rfl⟩:=h;rw[more_size];omega
theorem SlB.ext {w w':World} {v:Value} {l:List (BitVec 8)} (h:SlB w v l) (hx:Ext w w'):SlB w' v l:=by
 rcases h with h|⟨b,off,cap,hv,hb,hc⟩
 ·exact .inl h
 ·exact .inr ⟨b,off,cap,hv,Nat.lt_of_lt_of_le hb hx.size,fun j x hj=>by rw[hx.cell hb];exact hc j x hj⟩
theorem SlB.nil (w:World):SlB w (.slice none 0 0) []:=.inl ⟨rfl,.inl rfl⟩
theorem SlB.form {w:World} {v:Value} {l:List (BitVec 8)} (h:SlB w v l):∃ a cap,v=.slice a l.length cap:=by
 rcases h with ⟨rfl,rfl|⟨a,cap,rfl⟩⟩|⟨b,off,cap,rfl,_,_⟩
 ·exact⟨none,0,rfl⟩
 ·exact⟨_,cap,rfl⟩
 ·exact⟨_,cap,rfl⟩
theorem SlB.of_owns {w:World} {base E:Nat} {v:Value} {n:Nat} {l:List (BitVec 8)} (h:w.ownsRow base E 1 v n (l.map V8)):SlB w v l:=by
 obtain⟨h1,h2⟩:=h;rcases h2 with ⟨rfl,rfl⟩|⟨g,cap,cur,rfl,_,hg,_,_,_,ht⟩
 ·have:l=[]:=by simpa using h1
  exact .inl ⟨this,.inl rfl⟩
 ·have hn:n=l.length:=by simpa using h1.symm
  subst hn;refine .inr ⟨g,0,cap,rfl,by rw[Array.getElem?_eq_some_iff] at hg;exact hg.1,fun j x hj=>?_⟩;rw[cell_of_row w g (0+j) cur E (0,0) hg];have hlt:j<l.length:=by rw[List.getElem?_eq_some_iff] at hj;exact hj.1
  have h3:(cur.toList.take (l.length*1))[j]?=some (V8 x):=by rw[ht];simp[hj]
  rw[List.getElem?_take,if_pos (by omega)] at h3
  simpa using h3
theorem SlB.of_block {w:World} {b E:Nat} {l:List (BitVec 8)} {fr:Nat × Nat} {cap:Nat} (h:w.heap[b]?=some (.cells (l.map V8).toArray E fr)):SlB w (.slice (some ⟨b,0,none⟩) l.length cap) l:=by
 refine .inr ⟨b,0,cap,rfl,by rw[Array.getElem?_eq_some_iff] at h;exact h.1,fun j x hj=>?_⟩;rw[cell_of_row w b (0+j) _ E fr h];simp[hj]
theorem wpList_append_SlB {P:Program} {w:World} {ops:Array Oper} {rest:List Oper} {o:Oper} {a:Act} {Q:Exit→Act→World→Prop} (hgd:o.guard=none) (s x:Operand) (t:TypeId)
  (ho:o.op=.call { callee:=.builtin .append,args:=#[s,x],argTypes:=#[t,t] })
  (base:Nat) (e:TypeId) (i:TypeInfo) (ht:P.underlying t=some (.slice e)) (hi:P.info? e=some i) (hz:i.zero=some (.int .u8 0)) (hsize:i.size=1) (hby:i.bytes=1)
  (v:Value) (l:List (BitVec 8)) (hs:a.eval s=v) (hown:w.ownsRow base e 1 v l.length (l.map V8)) (y:Value) (m:List (BitVec 8)) (hx:a.eval x=y) (hy:SlB w y m)
  (hlen:l.length+m.length≤1000000) (hbase:base≤w.heap.size)
  (h:∀ v' w',w'.ownsRow base e 1 v' (l++m).length ((l++m).map V8)→w.grownBy w' v.ownBlock→wpList P ops Q rest (a.put o.dst v') w'):wpList P ops Q (o::rest) a w:=by
 rcases hy with ⟨rfl,rfl|⟨ad,cap,rfl⟩⟩|⟨b,off,cap,rfl,hb,hc⟩
 ·refine wpList_append_own_none hgd s x t ho base e i 1 ht hi v l.length (l.map V8) hs hown hx ?_;exact h v w (by simpa using hown) ⟨rfl,rfl,rfl,Nat.le_refl _,fun _ _ _=>rfl⟩
 ·refine wpList_append_own w hgd s x t ho base e i (.int .u8 0) 1 1 ht hi hz hsize hby rfl (by decide) v l.length (l.map V8) hs hown ad 0 cap [] hx (by simp) (fun j u hj=>by simp at hj) (fun u hu=>by cases hu) (by simp only[maxLen];simp at hlen;omega) (by simp at hlen;omega) hbase ?_;intro v' w' h1 h2 _;exact h v' w' (by simpa using h1) h2
 ·refine wpList_append_own w hgd s x t ho base e i (.int .u8 0) 1 1 ht hi hz hsize hby rfl (by decide) v l.length (l.map V8) hs hown ⟨b,off,none⟩ m.length cap (m.map V8) hx (by simp) ?_ (mem_V8 m) (by simp only[maxLen];omega) (by omega) hbase ?_
  ·intro j u hj;rw[Addr.add_mid];rw[List.getElem?_map] at hj;cases hm:m[j]? with
   |none=>simp[hm] at hj
   |some z=>simp[hm] at hj;subst hj;exact hc j z hm
  ·intro v' w' h1 h2 _;exact h v' w' (by simpa using h1) h2
theorem Ext.grown {w w1 w2:World} {row:Option Nat} (h:Ext w w1) (hg:w1.grownBy w2 row) (hr:∀ k,row=some k→w.heap.size≤k):Ext w w2:=
 Ext.of_below (Below.grown h.below hg h.size hr)
theorem owns_block {w:World} {base E n:Nat} {v:Value} {xs:List Value} (h:w.ownsRow base E 1 v n xs):∀ k,v.ownBlock=some k→base≤k:=by
 intro k hk;obtain⟨_,h2⟩:=h;rcases h2 with ⟨rfl,_⟩|⟨g,cap,cur,rfl,hb,_⟩
 ·cases hk
 ·have:g=k:=by simpa[Value.ownBlock] using hk
  omega
section
variable {P:Program} {ops:Array Oper}
structure InvS (ops:Array Oper) (S:Tmp→Value→World→Prop) (n iA dA:Nat) (Z:Obj) (W:World) (a0:Act) (rem:List Nat) (listed:Array Bool) (a:Act) (w:World):Prop where
 head:HeadInv .any ops n listed
 nodup:rem.Nodup
 lt:∀ j∈rem,j<n
 mem:∀ j,j<n→(listed.getD j false=true↔j∉rem)
 size:a.tmps.size=a0.tmps.size
 defers:a.defers=a0.defers
 done:∀ d,d≠dA→(∃ j o,j<n∧j∉rem∧ops[j]?=some o∧o.dst=some d)→∃ v,a.tmps[d]?=some v∧S d v w
 open_ : ∀ d, d ≠ dA → (∀ j o, j < n → j ∉ rem → ops[j]? = some o → o.dst ≠ some d) → a.tmps[d]? = a0.tmps[d]?
 ext:Ext W w
 made:iA<n→iA∉rem→∃ b,W.heap.size≤b∧w.heap[b]?=some Z∧a.tmps[dA]?=some (.pointer (some ⟨b,0,none⟩))
theorem InvS.step {S:Tmp→Value→World→Prop} (hS:∀ d v w w',S d v w→Ext w w'→S d v w') {n iA dA:Nat} {Z:Obj} {W:World} {a0:Act} {rem:List Nat} {listed:Array Bool} {a:Act} {w w':World} (inv:InvS ops S n iA dA Z W a0 rem listed a w)
  {i:Nat} {o:Oper} (hi:i∈Region.ready .any ops listed) (hin:i<n) (ho:ops[i]?=some o) (v:Value) (hext:Ext w w')
  (hsz:∀ (j:Nat) o d,j<n→ops[j]?=some o→o.dst=some d→d<a0.tmps.size)
  (hv:∀ d,o.dst=some d→d≠dA→S d v w')
  (hm:iA<n→iA∉rem.erase i→∃ b,W.heap.size≤b∧w'.heap[b]?=some Z∧(a.put o.dst v).tmps[dA]?=some (.pointer (some ⟨b,0,none⟩))) :
  InvS ops S n iA dA Z W a0 (rem.erase i) (listed.setIfInBounds i true) (a.put o.dst v) w':=by
 have hun:=(mem_ready.1 hi).1
 have hirem:i∈rem:=by
  rcases Classical.em (i∈rem) with h|h
  ·exact h
  ·have:=(inv.mem i hin).2 h;rw[getD_both hun] at this;cases this
 have hmem:∀ j,j<n→(j∉rem.erase i↔j∉rem∨j=i):=fun j _=>by
  rw[inv.nodup.mem_erase_iff]
  constructor
  ·intro h;by_cases hj:j=i
   ·exact .inr hj
   ·exact .inl fun hm=>h ⟨hj,hm⟩
  ·rintro (h|h) ⟨h1,h2⟩
   ·exact h h2
   ·exact h1 h
 have hlen:i<listed.size:=by
  rcases Nat.lt_or_ge i listed.size with h|h
  ·exact h
  ·simp[Array.getElem?_eq_none h] at hun
 refine⟨inv.head.set hi hin,inv.nodup.erase i,fun j hj=>inv.lt j (List.mem_of_mem_erase hj),fun j hj=>?_,by rw[put_size,inv.size],by rw[put_defers,inv.defers],fun d hd h=>?_,fun d hd h=>?_,inv.ext.trans hext,hm⟩
 ·rw[hmem j hj];by_cases hji:i=j
  ·subst hji;simp[hlen]
  ·rw[getD_set_ne false hji,inv.mem j hj];exact⟨fun h=>.inl h,fun h=>h.resolve_right fun e=>hji e.symm⟩
 ·obtain⟨j,oj,hj,hjr,hoj,hdj⟩:=h;by_cases hod:o.dst=some d
  ·rw[hod,put_get,if_pos rfl];have hlt:d<a.tmps.size:=by rw[inv.size];exact hsz i o d hin ho hod
   exact⟨v,by rw[if_pos hlt],hv d hod hd⟩
  ·rw[put_other _ _ _ _ hod]
   obtain⟨u,hu1,hu2⟩:=inv.done d hd ⟨j,oj,hj,(by
    rcases (hmem j hj).1 hjr with h|h
    ·exact h
    ·subst h;rw[ho] at hoj;cases hoj;exact absurd hdj hod),hoj,hdj⟩
   exact⟨u,hu1,hS d u w w' hu2 hext⟩
 ·have hod:o.dst≠some d:=h i o hin ((hmem i hin).2 (.inr rfl)) ho;rw[put_other _ _ _ _ hod];exact inv.open_ d hd fun j oj hj hjr hoj=>h j oj hj ((hmem j hj).2 (.inl hjr)) hoj
theorem InvS.base {S:Tmp→Value→World→Prop} {n iA dA:Nat} {Z:Obj} {W:World} {x:Xtra} {a0:Act} {rem:List Nat} {listed:Array Bool} {a:Act} {w:World} (inv:InvS ops S n iA dA Z (more W x) a0 rem listed a w):InvS ops S n iA dA Z W a0 rem listed a w:=
 ⟨inv.head,inv.nodup,inv.lt,inv.mem,inv.size,inv.defers,inv.done,inv.open_,(Ext.more W x).trans inv.ext,fun h1 h2=>by obtain⟨b,h3,h4⟩:=inv.made h1 h2;exact⟨b,by rw[more_size] at h3;omega,h4⟩⟩
def KS (S:Tmp→Value→World→Prop) (o:Oper) (a:Act) (w:World) (ex:Exit) (a':Act) (w':World):Prop:=ex=.normal∧∃ v,a'=a.put o.dst v∧(∀ d,o.dst=some d→S d v w')∧Ext w w'
theorem put_inj {a:Act} {d:Tmp} {v u:Value} (hd:d<a.tmps.size) (h:a.put (some d) v=a.put (some d) u):v=u:=by
 have:=congrArg (fun x:Act=>x.tmps[d]?) h;simp only[put_get,if_pos,hd] at this;exact Option.some.inj this
theorem wp_transfer {S:Tmp→Value→World→Prop} {o:Oper} {a b:Act} {w:World} {K:Act→World→Prop} {Q:Exit→Act→World→Prop} (hE:execOp a.eval o=execOp b.eval o) (hd:∀ d,o.dst=some d→d<a.tmps.size)
  (h:o.wp P a w (KS S o a w .normal) (KS S o a w)) (hk:∀ v w',(∀ d,o.dst=some d→S d v w')→Ext w w'→K (b.put o.dst v) w'):o.wp P b w K Q:=by
 have key:∀ v w',KS S o a w .normal (a.put o.dst v) w'→K (b.put o.dst v) w':=by
  rintro v w' ⟨_,u,he,hs,hx⟩;refine hk v w' (fun d hdd=>?_) hx;rw[hdd] at he;rw[put_inj (hd d hdd) he];exact hs d hdd
 unfold Oper.wp at *;rw[←hE];generalize (execOp a.eval o).run P w=r at *;cases r with
 |ok n w' =>
  cases n <;> simp only[Oper.upon] at h ⊢
  case value v=>exact key v w' h
  case skip=>exact key undef w' h
  case defer d =>
   exfalso
   obtain⟨_,u,he,_,_⟩:=h;have:=congrArg Act.defers he;rw[put_defers,put_defers] at this;exact absurd (congrArg List.length this) (by simp)
  case enter f args =>
   refine Calls.mono h fun e w'' he=>?_;cases e with
   |returned v=>exact key v w'' he
   |panicked c=>exact absurd he.1 (by intro h;cases h)
   |outgrown=>obtain⟨_,_,h1,_⟩:=he;cases h1
  case row r args=>exact Rows.mono h fun v w'' he=>key v w'' he
 |halt x w' =>
  cases x <;> simp only[Oper.upon] at h ⊢
  case panic v=>exact absurd h.1 (by intro h;cases h)
theorem mem_dsts {l:List Oper} {d:Tmp}:d∈dsts l↔∃ o∈l,o.dst=some d:=by simp[dsts]
end
theorem ksr {S:Tmp→Value→World→Prop} {o:Oper} {a b:Act} {w w':World} {d:Tmp} {v:Value} (hx:Ext w w') (h1:b=a.put o.dst v:=by rfl) (h2:o.dst=some d:=by rfl) (h3:S d v w':=by rfl):KS S o a w .normal b w':=⟨rfl,v,h1,fun d' hd=>by rw[h2] at hd;cases hd;exact h3,hx⟩
theorem kso {S:Tmp→Value→World→Prop} {o:Oper} {a b:Act} {w:World} {d:Tmp} {v:Value} (h1:b=a.put o.dst v:=by rfl) (h2:o.dst=some d:=by rfl) (h3:S d v w:=by rfl):KS S o a w .normal b w:=⟨rfl,v,h1,fun d' hd=>by rw[h2] at hd;cases hd;exact h3,Ext.refl w⟩
section
variable {P:Program} {ops:Array Oper}
end
section
variable {P:Program}
theorem isAgg_int (w:World) {E:TypeId} {k:IntKind} (hE:P.underlying E=some (.int k)):(isAgg E).run P w=.ok false w:=by
 unfold isAgg;rw[Sem.run_bind,run_underlying hE w];rfl
theorem eqItems_ints {m:Nat} (w:World) (d:Nat) {E:TypeId} {k:IntKind} (hE:P.underlying E=some (.int k)) (l l':List (BitVec m)) (h:l.length=l'.length) :
  ∀ (c s:Nat),s+c=l.length →
  (Op.eqItems (d+1) E 1 (l.map fun x=>Value.int k (wI x)).toArray (l'.map fun x=>Value.int k (wI x)).toArray (List.range' s c)).run P w=.ok (l.drop s==l'.drop s) w:=by
 intro c
 induction c with
 |zero =>
  intro s hs;have e1:l.drop s=[]:=List.drop_of_length_le (by omega);have e2:l'.drop s=[]:=List.drop_of_length_le (by omega);rw[e1,e2];simp[Op.eqItems]
 |succ c ih =>
  intro s hs;have h1:s<l.length:=by omega
  have h2:s<l'.length:=by omega
  rw[List.drop_eq_getElem_cons h1,List.drop_eq_getElem_cons h2,List.range'_succ]
  have p1:(part E (l.map fun x=>Value.int k (wI x)).toArray (s*1)).run P w=.ok (.int k (wI l[s])) w:=by
   simp[part,isAgg_int w hE,h1]
  have p2:(part E (l'.map fun x=>Value.int k (wI x)).toArray (s*1)).run P w=.ok (.int k (wI l'[s])) w:=by
   simp[part,isAgg_int w hE,h2]
  simp only[Op.eqItems,Sem.run_bind,p1,p2,Result.andThen_ok,run_equalIn_int w d E k k (wI l[s]) (wI l'[s]) hE,wI_beq,Sem.run_ite];cases hb:(l[s]==l'[s]) with
  |false=>simp only[Bool.not_false,if_true,List.cons_beq_cons,hb,Bool.false_and];rfl
  |true=>simp only[Bool.not_true,Bool.false_eq_true,if_false,List.cons_beq_cons,hb,Bool.true_and];exact ih (s+1) (by omega)
theorem run_eq_ints {m:Nat} (w:World) {T E n:Nat} {k:IntKind} (hT:P.underlying T=some (.array n E)) (hE:P.underlying E=some (.int k)) (hs:(P.info? E).map (·.size)=some 1)
  (l l':List (BitVec m)) (h:l.length=n) (h':l'.length=n) (d:Nat) :
  (Op.equalIn (d+2) T (.agg (l.map fun x=>Value.int k (wI x)).toArray) (.agg (l'.map fun x=>Value.int k (wI x)).toArray)).run P w=.ok (l==l') w:=by
 cases hq:P.info? E with
 |none=>simp[hq] at hs
 |some j =>
  have hj:j.size=1:=by simpa[hq] using hs
  have hc:P.cellsOf E=1:=by simp[Program.cellsOf,hq,hj]
  rw[run_equalIn_array w (d+1) _ _ hT hq,hc,List.range_eq_range'];have:=eqItems_ints (P:=P) w d hE l l' (by omega) n 0 (by omega)
  simpa using this
theorem run_eql_V8 (w:World) {T E n:Nat} (hT:P.underlying T=some (.array n E)) (hE:P.underlying E=some (.int .u8)) (hs:(P.info? E).map (·.size)=some 1)
  (l l':List (BitVec 8)) (h:l.length=n) (h':l'.length=n) :
  (binOp .eql T (.agg (l.map V8).toArray) (.agg (l'.map V8).toArray)).run P w=.ok (.bool (l==l')) w:=by
 rw[run_eql_struct];have:=run_eq_ints (P:=P) w hT hE hs l l' h h' 9998;rw[show (9998+2:Nat)=10000 from rfl] at this;rw[this];rfl
end
section
variable {P:Program}
theorem wI_ofInt8 (n:Int):wI (BitVec.ofInt 8 n)=n % 256:=by
 unfold wI;rw[BitVec.toNat_ofInt];omega
def Parts (w:World) (vs:List Value) (ls:List (List (BitVec 8))):Prop:=vs.length=ls.length∧∀ (j:Nat) v l,vs[j]?=some v→ls[j]?=some l→SlB w v l
theorem Parts.ext {w w':World} {vs:List Value} {ls:List (List (BitVec 8))} (h:Parts w vs ls) (hx:Ext w w'):Parts w' vs ls:=
 ⟨h.1,fun j v l h1 h2=>(h.2 j v l h1 h2).ext hx⟩
theorem info_u8:(prog.info? 5).map (fun i=>(i.zero,i.size,i.bytes))=some (some (.int .u8 0),1,1):=by kernel_rfl
theorem SlB.at {w:World} {ad:Option Addr} {n cap:Nat} {l:List (BitVec 8)} (h:SlB w (.slice ad n cap) l) (j:Nat) (x:BitVec 8) (hj:l[j]?=some x):∃ b off,ad=some ⟨b,off,none⟩∧b<w.heap.size∧w.cell? ⟨b,off+j,none⟩=some (V8 x):=by
 rcases h with ⟨rfl,_⟩|⟨b,off,cap',hv,hb,hc⟩
 ·simp at hj
 ·cases hv
  exact⟨b,off,rfl,hb,hc j x hj⟩
def tabS:List (Tmp × (Value→World→Prop))→Tmp→Value→World→Prop
 |[],_,_,_=>True
 |p::l,d,v,w=>if d=p.1 then p.2 v w else tabS l d v w
theorem owns_ext {w w':World} {base E n:Nat} {v:Value} {xs:List Value} (h:w.ownsRow base E 1 v n xs) (hx:Ext w w'):w'.ownsRow base E 1 v n xs:=by
 obtain⟨h1,h2⟩:=h;rcases h2 with ⟨rfl,rfl⟩|⟨g,cap,cur,rfl,hb,hg,a,b,c,ht⟩
 ·exact⟨h1,.inl ⟨rfl,rfl⟩⟩
 ·exact⟨h1,.inr ⟨g,cap,cur,rfl,hb,ext_heap hx hg,a,b,c,ht⟩⟩
theorem SlB.take {w:World} {ad:Option Addr} {m cap n cap':Nat} {l:List (BitVec 8)} (h:SlB w (.slice ad m cap) l) (hn:n≤l.length) (hc:ad=none→cap'=0):SlB w (.slice ad n cap') (l.take n):=by
 have hl:(l.take n).length=n:=by rw[List.length_take];omega
 rcases h with ⟨rfl,h⟩|⟨b,off,cp,hv,hb,hc2⟩
 ·have:n=0:=by simpa using hn
  subst this;refine .inl ⟨by simp,?_⟩;rcases h with h|⟨a,c,h⟩
  ·cases h;left;rw[hc rfl]
  ·cases h;exact .inr ⟨_,_,rfl⟩
 ·cases hv
  refine .inr ⟨b,off,cap',by rw[hl],hb,fun j x hj=>hc2 j x ?_⟩;rw[List.getElem?_take] at hj
  split at hj
  ·exact hj
  ·cases hj
theorem info_iu:∃ iu,prog.info? 5=some iu∧iu.zero=some (.int .u8 0)∧iu.size=1∧iu.bytes=1:=by
 have h:=info_u8;cases hq:prog.info? 5 with
 |none=>simp[hq] at h
 |some iu=>simp[hq] at h;exact⟨iu,rfl,h⟩
def RetO (l:List (BitVec 8)) (w:World) (e:Ending) (w':World):Prop:=∃ v,e=.returned v∧w'.ownsRow w.heap.size 5 1 v l.length (l.map V8)∧Ext w w'
theorem V8_ofInt (n:Int):V8 (BitVec.ofInt 8 n)=.int .u8 (n % 256):=by unfold V8;rw[wI_ofInt8]
theorem results_cell_tmp_row {fn:Func} {p q:Tmp} {ty:TypeId} (h:fn.results=#[.cell p ty,.tmp q]) (tmps:Array Value) (w:World) (g:Nat) (t:TypeId) (cs:Array Value) (fr:Nat × Nat) (d:TypeDesc)
  (hp:tmps.getD p undef=.pointer (some ⟨g,0,none⟩)) (v:Value) (hv:tmps.getD q undef=v) (hg:w.heap[g]?=some (.cells cs t fr))
  (hu:P.underlying ty=some d) (hd:(match d with|.struct _|.array _ _=>true|_=>false)=true) (hi:(P.info? ty).map (·.size)=some cs.size) :
  (results fn tmps).run P w=.ok (.tuple #[.agg cs,v]) w:=by
 have hp':tmps[p]?.getD undef=.pointer (some ⟨g,0,none⟩):=by simpa using hp
 have hv':tmps[q]?.getD undef=v:=by simpa using hv
 simp[results,h,hp',hv',asAddr,run_loadVar_row w g t ty cs fr d hg hu hd hi]
theorem ret_row2 {fn:Func} {R:Ending→World→Prop} {a:Act} {w:World} {p q:Tmp} {ty:TypeId} (h:fn.results=#[.cell p ty,.tmp q]) (g:Nat) (t:TypeId) (cs:Array Value) (fr:Nat × Nat) (d:TypeDesc)
  (hp:a.tmps.getD p undef=.pointer (some ⟨g,0,none⟩)) (v:Value) (hv:a.tmps.getD q undef=v) (hg:w.heap[g]?=some (.cells cs t fr))
  (hu:P.underlying ty=some d) (hd:(match d with|.struct _|.array _ _=>true|_=>false)=true) (hi:(P.info? ty).map (·.size)=some cs.size)
  (hdf:a.defers=[]) (hR:R (.returned (.tuple #[.agg cs,v])) w):bodyPost P fn R .ret a w:=
 bodyPost_ret (results_cell_tmp_row h a.tmps w g t cs fr d hp v hv hg hu hd hi) hdf hR
theorem wpList_load_rowG {P:Program} {ops:Array Oper} {rest:List Oper} {o:Oper} {a:Act} {w:World} {Q:Exit→Act→World→Prop} (hgd:Region.wanted o (yielded ops a.tmps)=true) (ty:TypeId) (x:Operand) (ho:o.op=.load ty x)
  (g:Nat) (hx:a.eval x=.pointer (some ⟨g,0,none⟩)) (t:TypeId) (cs:Array Value) (fr:Nat × Nat) (d:TypeDesc) (hg:w.heap[g]?=some (.cells cs t fr))
  (hu:P.underlying ty=some d) (hd:(match d with|.struct _|.array _ _=>true|_=>false)=true) (hi:(P.info? ty).map (·.size)=some cs.size)
  (h:wpList P ops Q rest (a.put o.dst (.agg cs)) w):wpList P ops Q (o::rest) a w:=
 wpList_step fun _ hK=>by rw[if_pos hgd];exact wp_load_row ty x ho g hx t cs fr d hg hu hd hi (hK _ _ h)
theorem wpList_cpS {ops:Array Oper} {rest:List Oper} {o:Oper} {a:Act} {w w':World} {Q:Exit→Act→World→Prop} (hgd:o.guard=none) (d s:Operand) (dT sT:TypeId)
  (ho:o.op=.call { callee:=.builtin .copy,args:=#[d,s],argTypes:=#[dT,sT] }) (elem:TypeId) (hu:P.underlying dT=some (.slice elem)) (hsz:(P.info? elem).map (·.size)=some 1)
  (g off dLen dCap:Nat) (hd:a.eval d=.slice (some ⟨g,off,none⟩) dLen dCap) (y:Value) (hs:a.eval s=y) (m:List (BitVec 8)) (hy:SlB w y m)
  (cur:List Value) (t:TypeId) (hg:w.heap[g]?=some (.cells cur.toArray t (0,0)))
  (n:Nat) (hn:n=Nat.min m.length dLen) (hfit:off+n≤cur.length)
  (new:List Value) (hnew:cur.take off++((m.map V8).take n++cur.drop (off+n))=new) (hw:w.setRow g new.toArray=w')
  (h:wpList P ops Q rest (a.put o.dst (goInt n)) w'):wpList P ops Q (o::rest) a w:=by
 have hl:((m.map V8).take n).length=n:=by
  rw[List.length_take,List.length_map];have:=Nat.min_le_left m.length dLen;have h2:Nat.min m.length dLen=min m.length dLen:=rfl;omega
 have same:n=0→w'=w:=by
  rintro rfl;rw[←hw,←hnew];simp only[List.take_zero,List.nil_append,Nat.add_zero,List.take_append_drop];unfold World.setRow
  congr 1
  refine Array.ext_getElem? fun j=>?_;rw[Array.getElem?_modify]
  split
  ·subst_vars;rw[hg];rfl
  ·rfl
 rcases hy with ⟨rfl,hv⟩|⟨b,o2,cap,rfl,hb,hc⟩
 ·have hn0:n=0:=by rw[hn];exact Nat.zero_min dLen
  have hw2:=same hn0;subst hn0;rw[hw2] at h;rcases hv with rfl|⟨ad,cap,rfl⟩
  ·exact wpList_copy_nothing hgd d s dT sT ho elem hu hsz _ _ _ _ _ _ hd hs (Nat.zero_min dLen) h
  ·exact wpList_copy_nothing hgd d s dT sT ho elem hu hsz _ _ _ _ _ _ hd hs (Nat.zero_min dLen) h
 ·refine wpList_copy_own hgd d s dT sT ho elem hu hsz g off dLen dCap ⟨b,o2,none⟩ m.length cap hd hs cur.toArray t hg ((m.map V8).take n) (by rw[hl];exact hn) ?_ (by simpa[hl] using hfit) ?_ ?_
  ·intro j v hv;rw[Addr.add_mid];rw[List.getElem?_take] at hv
   split at hv
   ·rw[List.getElem?_map] at hv;cases hm:m[j]? with
    |none=>simp[hm] at hv
    |some z=>simp[hm] at hv;subst hv;exact hc j z hm
   ·cases hv
  ·intro v hv;exact mem_V8 m v (List.mem_of_mem_take hv)
  ·rw[hl];have e:(cur.toArray.toList.take off++((m.map V8).take n++cur.toArray.toList.drop (off+n)))=new:=by simpa using hnew
   rw[e,hw];exact h
end
theorem setRow_size (w:World) (g:Nat) (cs:Array Value):(w.setRow g cs).heap.size=w.heap.size:=by simp[World.setRow]
theorem setRow_setCell {w:World} {g i:Nat} {cs:Array Value} {t:TypeId} (v:Value) (h:w.heap[g]?=some (.cells cs t (0,0))):w.setCell ⟨g,i,none⟩ v=w.setRow g (cs.setIfInBounds i v):=by
 unfold World.setRow World.setCell
 congr 1
 refine Array.ext_getElem? fun j=>?_;simp only[Array.getElem?_modify]
 split
 ·rename_i e;subst e;rw[h];rfl
 ·rfl
abbrev Lc (w:World) (g:Nat) (T:TypeId) (cs:List Value):Prop:=w.heap[g]?=some (.cells cs.toArray T (0,0))
theorem Lc.ext {w w':World} {g T:Nat} {cs:List Value} (h:Lc w g T cs) (hx:Ext w w'):Lc w' g T cs:=ext_heap hx h
theorem Lc.lt {w:World} {g T:Nat} {cs:List Value} (h:Lc w g T cs):g<w.heap.size:=(Array.getElem?_eq_some_iff.1 h).1
theorem Lc.new (w:World) (T:TypeId) (cs:List Value):Lc (w.alloc (.cells cs.toArray T)) w.heap.size T cs:=hp_new w _
theorem Lc.set {w:World} {g T:Nat} {cs:List Value} (h:Lc w g T cs) (ds:List Value):Lc (w.setRow g ds.toArray) g T ds:=setRow_heap w g _ ds.toArray T (0,0) h
theorem Lc.other {w:World} {g b T:Nat} {cs:List Value} (h:Lc w b T cs) (hne:b≠g) (ds:Array Value):Lc (w.setRow g ds) b T cs:=(setRow_other w g b ds hne).trans h
theorem Lc.cell {w:World} {g T i:Nat} {cs:List Value} {v:Value} (h:Lc w g T cs) (hi:cs[i]?=some v):w.cell? ⟨g,i,none⟩=some v:=by
 rw[cell_of_row w g i _ _ (0,0) h];simpa using hi
theorem Lc.range {w:World} {g T o:Nat} {cs ds:List Value} (h:Lc w g T cs) (hd:(cs.drop o).take ds.length=ds):w.rangeAt g o ds:=fun j v hv=>by
 refine h.cell ?_;have hj:=(List.getElem?_eq_some_iff.1 hv).1;rw[←hd,List.getElem?_take,if_pos hj,List.getElem?_drop] at hv;exact hv
theorem Lc.setCell {w:World} {g T i:Nat} {cs:List Value} (h:Lc w g T cs) (v:Value):w.setCell ⟨g,i,none⟩ v=w.setRow g (cs.set i v).toArray:=by
 rw[setRow_setCell v h];simp
section
variable {P:Program}
theorem wpList_st_cell {ops:Array Oper} {rest:List Oper} {o:Oper} {a:Act} {w:World} {Q:Exit→Act→World→Prop} (hgd:o.guard=none) (hdst:o.dst=none) (ty:TypeId) (x y:Operand) (ho:o.op=.store ty x y)
  (g i:Nat) (v:Value) (hx:a.eval x=.pointer (some ⟨g,i,none⟩)) (hy:a.eval y=v) (h1:v.oneCell'=true) (hi:(P.info? ty).map (·.size)=some 1)
  (t:TypeId) (old new:List Value) (hg:Lc w g t old) (hf:i<old.length) (hn:old.set i v=new)
  (h:wpList P ops Q rest a (w.setRow g new.toArray)):wpList P ops Q (o::rest) a w:=by
 refine wpList_plain hgd fun K hK=>?_;have hs:=run_storeCells_at (P:=P) g i t [v] 0 old.toArray w hg (by simp;omega) (fun u hu=>by simp at hu;subst hu;exact h1)
 have hnew:(old.toArray.toList.take (i+0)++[v]++old.toArray.toList.drop (i+0+[v].length)).toArray=new.toArray:=by
  rw[←hn];simp[List.set_eq_take_append_cons_drop,hf]
 rw[hnew] at hs
 have hv:(storeVar ty ⟨g,i,none⟩ v).run P w=.ok () (w.setRow g new.toArray):=by
  cases hq:P.info? ty with
  |none=>simp[hq] at hi
  |some k =>
   have hz:k.size=1:=by simpa[hq] using hi
   have hcl:v.cells=#[v]:=by cases v <;> first|rfl|simp[Value.oneCell'] at h1
   simp[storeVar,sizeOf,typeInfo,hq,hz,hcl] at hs ⊢
   simpa using hs
 unfold Oper.wp execOp;simp only[ho,hx,hy,Instr.storeAt,Instr.sureAddr,Sem.run_bind,Sem.run_pure,Result.andThen_ok,hv]
 show K (a.put o.dst undef) _
 rw[hdst];exact hK _ _ h
end
section
variable {P:Program}
theorem wpList_st_seg {ops:Array Oper} {rest:List Oper} {o:Oper} {a:Act} {w w':World} {Q:Exit→Act→World→Prop} (hgd:o.guard=none) (hdst:o.dst=none) (ty:TypeId) (x y:Operand) (ho:o.op=.store ty x y)
  (g off:Nat) (cells:Array Value) (hx:a.eval x=.pointer (some ⟨g,off,none⟩)) (hy:a.eval y=.agg cells)
  (t:TypeId) (old:Array Value) (hg:w.heap[g]?=some (.cells old t (0,0))) (hi:(P.info? ty).map (·.size)=some cells.size)
  (hfit:off+cells.size≤old.size) (h1:cells.all (·.oneCell')=true) (new:Array Value)
  (hnew:(old.toList.take off++cells.toList++old.toList.drop (off+cells.size)).toArray=new) (hw:w.setRow g new=w')
  (h:wpList P ops Q rest a w'):wpList P ops Q (o::rest) a w:=by
 refine wpList_plain hgd fun K hK=>?_;have hs:=run_storeCells_at (P:=P) g off t cells.toList 0 old w hg (by simpa using hfit) (fun v hv=>(Array.all_eq_true_iff_forall_mem.1 h1) v (by simpa using hv));simp only[Nat.add_zero,Array.length_toList,hnew,hw] at hs
 have hv:(storeVar ty ⟨g,off,none⟩ (.agg cells)).run P w=.ok () w':=by
  cases hq:P.info? ty with
  |none=>simp[hq] at hi
  |some i =>
   have hz:cells.size=i.size:=by simp[hq] at hi;omega
   simp[storeVar,sizeOf,typeInfo,hq,Value.cells,hz,hs]
 unfold Oper.wp execOp;simp only[ho,hx,hy,Instr.storeAt,Instr.sureAddr,Sem.run_bind,Sem.run_pure,Result.andThen_ok,hv]
 show K (a.put o.dst undef) w'
 rw[hdst];exact hK _ _ h
end
section
variable {P:Program} {ops:Array Oper}
def Zat (iS:Nat) (Z Z2:Obj) (rem:List Nat):Obj:=if iS∈rem then Z else Z2
theorem ext_setRow {W w:World} {b:Nat} {cs:Array Value} (h:Ext W w) (hb:W.heap.size≤b):Ext W (w.setRow b cs):=by
 have hB:=h.below;refine Ext.of_below ⟨hB.os,hB.tape,hB.output,by simp only[World.setRow,Array.size_modify];exact hB.size,fun k hk=>?_⟩;simp only[World.setRow,Array.getElem?_modify];rw[if_neg (by omega)];exact hB.block k hk
structure InvL (ops:Array Oper) (n iA dA iS:Nat) (Z Z2:Obj) (W:World) (a0 A:Act) (rem:List Nat) (listed:Array Bool) (a:Act) (w:World):Prop where
 head:HeadInv .any ops n listed
 nodup:rem.Nodup
 lt:∀ j∈rem,j<n
 mem:∀ j,j<n→(listed.getD j false=true↔j∉rem)
 size:a.tmps.size=a0.tmps.size
 defers:a.defers=a0.defers
 done:∀ d,d≠dA→(∃ j o,j<n∧j∉rem∧ops[j]?=some o∧o.dst=some d)→a.tmps[d]?=A.tmps[d]?
 open_ : ∀ d, d ≠ dA → (∀ j o, j < n → j ∉ rem → ops[j]? = some o → o.dst ≠ some d) → a.tmps[d]? = a0.tmps[d]?
 ext:Ext W w
 made:iA<n→iA∉rem→∃ b,W.heap.size≤b∧w.heap[b]?=some (Zat iS Z Z2 rem)∧a.tmps[dA]?=some (.pointer (some ⟨b,0,none⟩))
theorem InvL.step {n iA dA iS:Nat} {Z Z2:Obj} {W:World} {a0 A:Act} {rem:List Nat} {listed:Array Bool} {a:Act} {w w':World} (inv:InvL ops n iA dA iS Z Z2 W a0 A rem listed a w)
  {i:Nat} {o:Oper} (hi:i∈Region.ready .any ops listed) (hin:i<n) (ho:ops[i]?=some o) (v:Value) (hext:Ext W w')
  (hv:∀ d,o.dst=some d→d≠dA→d<a0.tmps.size→A.tmps[d]?=some v) (hsz:A.tmps.size=a0.tmps.size)
  (hm:iA<n→iA∉rem.erase i→∃ b,W.heap.size≤b∧w'.heap[b]?=some (Zat iS Z Z2 (rem.erase i))∧(a.put o.dst v).tmps[dA]?=some (.pointer (some ⟨b,0,none⟩))) :
  InvL ops n iA dA iS Z Z2 W a0 A (rem.erase i) (listed.setIfInBounds i true) (a.put o.dst v) w':=by
 have hun:=(mem_ready.1 hi).1
 have hirem:i∈rem:=by
  rcases Classical.em (i∈rem) with h|h
  ·exact h
  ·have:=(inv.mem i hin).2 h;rw[getD_both hun] at this;cases this
 have hmem:∀ j,j<n→(j∉rem.erase i↔j∉rem∨j=i):=fun j _=>by
  rw[inv.nodup.mem_erase_iff]
  constructor
  ·intro h;by_cases hj:j=i
   ·exact .inr hj
   ·exact .inl fun hm=>h ⟨hj,hm⟩
  ·rintro (h|h) ⟨h1,h2⟩
   ·exact h h2
   ·exact h1 h
 have hlen:i<listed.size:=by
  rcases Nat.lt_or_ge i listed.size with h|h
  ·exact h
  ·simp[Array.getElem?_eq_none h] at hun
 refine⟨inv.head.set hi hin,inv.nodup.erase i,fun j hj=>inv.lt j (List.mem_of_mem_erase hj),fun j hj=>?_,by rw[put_size,inv.size],by rw[put_defers,inv.defers],fun d hd h=>?_,fun d hd h=>?_,hext,hm⟩
 ·rw[hmem j hj];by_cases hji:i=j
  ·subst hji;simp[hlen]
  ·rw[getD_set_ne false hji,inv.mem j hj];exact⟨fun h=>.inl h,fun h=>h.resolve_right fun e=>hji e.symm⟩
 ·obtain⟨j,oj,hj,hjr,hoj,hdj⟩:=h;by_cases hod:o.dst=some d
  ·rw[hod,put_get,if_pos rfl];by_cases hlt:d<a.tmps.size
   ·rw[if_pos hlt,hv d hod hd (by rw[←inv.size];exact hlt)]
   ·rw[if_neg hlt,Array.getElem?_eq_none (by rw[hsz,←inv.size];omega)]
  ·rw[put_other _ _ _ _ hod];refine inv.done d hd ⟨j,oj,hj,?_,hoj,hdj⟩;rcases (hmem j hj).1 hjr with h|h
   ·exact h
   ·subst h;rw[ho] at hoj;cases hoj;exact absurd hdj hod
 ·have hod:o.dst≠some d:=h i o hin ((hmem i hin).2 (.inr rfl)) ho;rw[put_other _ _ _ _ hod];exact inv.open_ d hd fun j oj hj hjr hoj=>h j oj hj ((hmem j hj).2 (.inl hjr)) hoj
theorem InvL.base {n iA dA iS:Nat} {Z Z2:Obj} {W:World} {x:Xtra} {a0 A:Act} {rem:List Nat} {listed:Array Bool} {a:Act} {w:World} (inv:InvL ops n iA dA iS Z Z2 (more W x) a0 A rem listed a w):InvL ops n iA dA iS Z Z2 W a0 A rem listed a w:=
 ⟨inv.head,inv.nodup,inv.lt,inv.mem,inv.size,inv.defers,inv.done,inv.open_,(Ext.more W x).trans inv.ext,fun h1 h2=>by obtain⟨b,h3,h4⟩:=inv.made h1 h2;exact⟨b,by rw[more_size] at h3;omega,h4⟩⟩
end
abbrev Bk:=Nat × TypeId × List Value
def Loc (w0 w:World) (bs:List Bk):Prop:=Ext w0 w∧(bs.map (·.1)).Nodup∧∀ b∈bs,w0.heap.size≤b.1∧Lc w b.1 b.2.1 b.2.2
theorem Loc.start (w:World):Loc w w []:=⟨Ext.refl w,List.nodup_nil,fun b hb=>by cases hb⟩
theorem Loc.ext {w0 w w':World} {bs:List Bk} (h:Loc w0 w bs) (hx:Ext w w'):Loc w0 w' bs:=⟨h.1.trans hx,h.2.1,fun b hb=>⟨(h.2.2 b hb).1,(h.2.2 b hb).2.ext hx⟩⟩
theorem Loc.at {w0 w:World} {bs:List Bk} (h:Loc w0 w bs) (i:Nat) {b:Bk} (hi:bs[i]?=some b):Lc w b.1 b.2.1 b.2.2:=(h.2.2 b (List.mem_of_getElem? hi)).2
theorem Loc.le {w0 w:World} {bs:List Bk} (h:Loc w0 w bs) (i:Nat) {b:Bk} (hi:bs[i]?=some b):w0.heap.size≤b.1:=(h.2.2 b (List.mem_of_getElem? hi)).1
theorem Loc.lt {w0 w:World} {bs:List Bk} (h:Loc w0 w bs) (i:Nat) {b:Bk} (hi:bs[i]?=some b):b.1<w.heap.size:=(h.at i hi).lt
theorem Loc.new {w0 w:World} {bs:List Bk} (h:Loc w0 w bs) (T:TypeId) (cs:List Value):Loc w0 (w.alloc (.cells cs.toArray T)) ((w.heap.size,T,cs)::bs):=by
 refine⟨h.1.trans (Ext.alloc _ _),?_,?_⟩
 ·rw[List.map_cons,List.nodup_cons];refine⟨fun hm=>?_,h.2.1⟩;obtain⟨b,hb,he⟩:=List.mem_map.1 hm;have:=(h.2.2 b hb).2.lt;rw[he] at this;omega
 ·intro b hb;rcases List.mem_cons.1 hb with rfl|hb
  ·exact⟨h.1.below.size,Lc.new w T cs⟩
  ·exact⟨(h.2.2 b hb).1,(h.2.2 b hb).2.ext (Ext.alloc _ _)⟩
theorem nodup_get:∀ {l:List Nat} (_:l.Nodup) {i j:Nat} {x:Nat},l[i]?=some x→l[j]?=some x→i=j
 |[],_,_,_,_,h,_=>by simp at h
 |y::l,hn,0,0,_,_,_=>rfl
 |y::l,hn,0,j+1,x,h,h2=>by
  have:y=x:=by simpa using h
  subst this;exact absurd (List.mem_of_getElem? (by simpa using h2)) (List.nodup_cons.1 hn).1
 |y::l,hn,i+1,0,x,h,h2=>by
  have:y=x:=by simpa using h2
  subst this;exact absurd (List.mem_of_getElem? (by simpa using h)) (List.nodup_cons.1 hn).1
 |y::l,hn,i+1,j+1,x,h,h2=>by exact congrArg (·+1) (nodup_get (List.nodup_cons.1 hn).2 (i:=i) (j:=j) (x:=x) (by simpa using h) (by simpa using h2))
theorem Loc.set {w0 w:World} {bs:List Bk} (h:Loc w0 w bs) (i:Nat) {g T:Nat} {cs:List Value} (hi:bs[i]?=some (g,T,cs)) (ds:List Value):Loc w0 (w.setRow g ds.toArray) (bs.set i (g,T,ds)):=by
 have hmap:(bs.set i (g,T,ds)).map (·.1)=bs.map (·.1):=by
  refine List.ext_getElem? fun j=>?_;rw[List.getElem?_map,List.getElem?_map,List.getElem?_set]
  split
  ·rename_i e;subst e
   have hl:=(List.getElem?_eq_some_iff.1 hi).1;rw[if_pos hl,hi];rfl
  ·rfl
 have hle:w0.heap.size≤g:=h.le i hi;refine⟨ext_setRow h.1 hle,by rw[hmap];exact h.2.1,fun b hb=>?_⟩;obtain⟨j,hj⟩:=List.getElem?_of_mem hb;rw[List.getElem?_set] at hj
 split at hj
 ·split at hj
  ·cases hj;exact⟨hle,(h.at i hi:Lc w g T cs).set ds⟩
  ·cases hj
 ·rename_i hne
  have hbm:=List.mem_of_getElem? hj;refine⟨(h.2.2 b hbm).1,(h.2.2 b hbm).2.other ?_ _⟩;intro e;have h1:(bs.map (·.1))[i]?=some g:=by rw[List.getElem?_map,hi];rfl
  have h2:(bs.map (·.1))[j]?=some g:=by rw[List.getElem?_map,hj];simp[e]
  exact hne (nodup_get h.2.1 h1 h2)
def Wrote (w w':World) (g:Nat):Prop:=∃ ds,w'=w.setRow g ds
theorem run_box_agg {P:Program} (T:TypeId) (cs:Array Value) (w:World):(Instr.box T (.agg cs)).run P w=.ok (.pointer (some ⟨w.heap.size,0,none⟩)) (w.alloc (.cells cs T)):=by
 simp[Instr.box,newVar,newRow,go_sem]
section
variable {P:Program} {ops:Array Oper} {rest:List Oper} {o:Oper} {a:Act} {w0 w:World} {Q:Exit→Act→World→Prop} {bs:List Bk}
theorem L_alloc (H:Kp (Loc w0 w bs)) (hg:o.guard=none) (t:TypeId) (_:o.op=.alloc t) (cs:List Value)
  (hrun:∀ (e:Operand→Value) (w:World),(execOp e o).run P w=.ok (.value (.pointer (some ⟨w.heap.size,0,none⟩))) (w.alloc (.cells cs.toArray t)))
  (h:∀ g w',Kp (g=w.heap.size)→Kp (Ext w w')→Kp (Loc w0 w' ((g,t,cs)::bs))→wpList P ops Q rest (a.put o.dst (.pointer (some ⟨g,0,none⟩))) w'):wpList P ops Q (o::rest) a w:=by
 refine wpList_plain hg fun K hK=>?_;unfold Oper.wp;rw[hrun];exact hK _ _ (h _ _ (kp rfl) (kp (Ext.alloc _ _)) (kp (H.out.new t cs)))
theorem L_box (H:Kp (Loc w0 w bs)) (hg:o.guard=none) (t:TypeId) (x:Operand) (ho:o.op=.box t x) (cs:List Value) (hx:a.eval x=.agg cs.toArray)
  (h:∀ g w',Kp (g=w.heap.size)→Kp (Ext w w')→Kp (Loc w0 w' ((g,t,cs)::bs))→wpList P ops Q rest (a.put o.dst (.pointer (some ⟨g,0,none⟩))) w'):wpList P ops Q (o::rest) a w:=by
 refine wpList_plain hg fun K hK=>?_;unfold Oper.wp execOp;simp only[ho,hx,Sem.run_bind,Sem.run_pure,Result.andThen_ok,run_box_agg];exact hK _ _ (h _ _ (kp rfl) (kp (Ext.alloc _ _)) (kp (H.out.new t cs)))
theorem L_load (H:Kp (Loc w0 w bs)) (hgd:o.guard=none) (ty:TypeId) (x:Operand) (ho:o.op=.load ty x) (i:Nat) {g T:Nat} {cs:List Value} (hi:bs[i]?=some (g,T,cs))
  (hx:a.eval x=.pointer (some ⟨g,0,none⟩)) {d:TypeDesc} (hu:P.underlying ty=some d) (hd:(match d with|.struct _|.array _ _=>true|_=>false)=true) (hz:(P.info? ty).map (·.size)=some cs.toArray.size)
  (h:wpList P ops Q rest (a.put o.dst (.agg cs.toArray)) w):wpList P ops Q (o::rest) a w:=
 wpList_load_row hgd ty x ho g hx T cs.toArray (0,0) d (H.out.at i hi) hu hd hz h
theorem L_loadG (H:Kp (Loc w0 w bs)) (hgd:Region.wanted o (yielded ops a.tmps)=true) (ty:TypeId) (x:Operand) (ho:o.op=.load ty x) (i:Nat) {g T:Nat} {cs:List Value} (hi:bs[i]?=some (g,T,cs))
  (hx:a.eval x=.pointer (some ⟨g,0,none⟩)) {d:TypeDesc} (hu:P.underlying ty=some d) (hd:(match d with|.struct _|.array _ _=>true|_=>false)=true) (hz:(P.info? ty).map (·.size)=some cs.toArray.size)
  (h:wpList P ops Q rest (a.put o.dst (.agg cs.toArray)) w):wpList P ops Q (o::rest) a w:=
 wpList_load_rowG hgd ty x ho g hx T cs.toArray (0,0) d (H.out.at i hi) hu hd hz h
theorem L_sub (H:Kp (Loc w0 w bs)) (hgd:o.guard=none) (ty:TypeId) (x:Operand) (ho:o.op=.load ty x) (i:Nat) {g T:Nat} {cs:List Value} (hi:bs[i]?=some (g,T,cs)) (off:Nat)
  (hx:a.eval x=.pointer (some ⟨g,off,none⟩)) (ds:List Value) (hds:(cs.drop off).take ds.length=ds) {d:TypeDesc} (hu:P.underlying ty=some d) (hd:d.isRow=true) (hz:(P.info? ty).map (·.size)=some ds.length)
  (h:wpList P ops Q rest (a.put o.dst (.agg ds.toArray)) w):wpList P ops Q (o::rest) a w:=
 wpList_load_mid hgd ty x ho g off hx ds d ((H.out.at i hi).range hds) hu hd hz h
theorem L_store (H:Kp (Loc w0 w bs)) (hgd:o.guard=none) (hdst:o.dst=none) (ty:TypeId) (x y:Operand) (ho:o.op=.store ty x y) (i:Nat) {g T:Nat} {old:List Value} (hi:bs[i]?=some (g,T,old))
  (hx:a.eval x=.pointer (some ⟨g,0,none⟩)) (cs:List Value) (hy:a.eval y=.agg cs.toArray) (hz:(P.info? ty).map (·.size)=some cs.toArray.size) (hold:old.length=cs.length) (h1:cs.toArray.all (·.oneCell')=true)
  (h:∀ w',Kp (Wrote w w' g)→Kp (Loc w0 w' (bs.set i (g,T,cs)))→wpList P ops Q rest a w'):wpList P ops Q (o::rest) a w:=
 wpList_st_row hgd hdst ty x y ho g cs.toArray hx hy T old.toArray (H.out.at i hi) hz (by simpa using hold) h1 rfl (h _ (kp ⟨_,rfl⟩) (kp (H.out.set i hi cs)))
theorem L_seg (H:Kp (Loc w0 w bs)) (hgd:o.guard=none) (hdst:o.dst=none) (ty:TypeId) (x y:Operand) (ho:o.op=.store ty x y) (i:Nat) {g T:Nat} {old:List Value} (hi:bs[i]?=some (g,T,old)) (off:Nat)
  (hx:a.eval x=.pointer (some ⟨g,off,none⟩)) (cs:List Value) (hy:a.eval y=.agg cs.toArray) (hz:(P.info? ty).map (·.size)=some cs.toArray.size) (hfit:off+cs.toArray.size≤old.toArray.size) (h1:cs.toArray.all (·.oneCell')=true)
  (new:List Value) (hn:(old.take off++cs++old.drop (off+cs.length)).toArray=new.toArray)
  (h:∀ w',Kp (Wrote w w' g)→Kp (Loc w0 w' (bs.set i (g,T,new)))→wpList P ops Q rest a w'):wpList P ops Q (o::rest) a w:=
 wpList_st_seg hgd hdst ty x y ho g off cs.toArray hx hy T old.toArray (H.out.at i hi) hz hfit h1 new.toArray hn rfl (h _ (kp ⟨_,rfl⟩) (kp (H.out.set i hi new)))
theorem L_cell (H:Kp (Loc w0 w bs)) (hgd:o.guard=none) (hdst:o.dst=none) (ty:TypeId) (x y:Operand) (ho:o.op=.store ty x y) (i:Nat) {g T:Nat} {old:List Value} (hi:bs[i]?=some (g,T,old)) (off:Nat)
  (hx:a.eval x=.pointer (some ⟨g,off,none⟩)) (v:Value) (hy:a.eval y=v) (h1:v.oneCell'=true) (hz:(P.info? ty).map (·.size)=some 1) (hfit:off<old.length)
  (new:List Value) (hn:old.set off v=new)
  (h:∀ w',Kp (Wrote w w' g)→Kp (Loc w0 w' (bs.set i (g,T,new)))→wpList P ops Q rest a w'):wpList P ops Q (o::rest) a w:=
 wpList_st_cell hgd hdst ty x y ho g off v hx hy h1 hz T old new (H.out.at i hi) hfit hn (h _ (kp ⟨_,rfl⟩) (kp (H.out.set i hi new)))
end
theorem run_load_cell {w0 w:World} {bs:List Bk} (H:Loc w0 w bs) (i:Nat) {g T:Nat} {cs:List Value} (hi:bs[i]?=some (g,T,cs)) (off:Nat) (v:Value) (hv:cs[off]?=some v):w.cell? ⟨g,off,none⟩=some v:=(H.at i hi).cell hv
theorem owns_wrote {w w':World} {base E sz n g:Nat} {v:Value} {xs:List Value} (h:w.ownsRow base E sz v n xs) (hw:Wrote w w' g) (hb:g<base):w'.ownsRow base E sz v n xs:=by
 obtain⟨ds,rfl⟩:=hw;obtain⟨h1,h2|⟨b,cap,cur,h3,hg,hh,h4⟩⟩:=h
 ·exact⟨h1,.inl h2⟩
 ·exact⟨h1,.inr ⟨b,cap,cur,h3,hg,(setRow_other w g b ds (by omega)).trans hh,h4⟩⟩
section
variable {P:Program} {ops:Array Oper} {rest:List Oper} {o:Oper} {a:Act} {w0 w:World} {Q:Exit→Act→World→Prop} {bs:List Bk}
theorem xAL (H:Kp (Loc w0 w bs)) (t:TypeId) (cs:List Value) (h:∀ g w',Kp (g=w.heap.size)→Kp (Ext w w')→Kp (Loc w0 w' ((g,t,cs)::bs))→wpList P ops Q rest (a.put o.dst (.pointer (some ⟨g,0,none⟩))) w') (hg:o.guard=none:=by exact rfl) (ho:o.op=.alloc t:=by exact rfl) (hrun:∀ (e:Operand→Value) (w:World),(execOp e o).run P w=.ok (.value (.pointer (some ⟨w.heap.size,0,none⟩))) (w.alloc (.cells cs.toArray t)):=by intros;kernel_rfl):wpList P ops Q (o::rest) a w:=L_alloc H hg t ho cs hrun h
theorem xBX (H:Kp (Loc w0 w bs)) (t:TypeId) (cs:List Value) {x:Operand} (h:∀ g w',Kp (g=w.heap.size)→Kp (Ext w w')→Kp (Loc w0 w' ((g,t,cs)::bs))→wpList P ops Q rest (a.put o.dst (.pointer (some ⟨g,0,none⟩))) w') (hg:o.guard=none:=by exact rfl) (ho:o.op=.box t x:=by exact rfl) (hx:a.eval x=.agg cs.toArray:=by exact rfl):wpList P ops Q (o::rest) a w:=L_box H hg t x ho cs hx h
theorem xSR (H:Kp (Loc w0 w bs)) (ty:TypeId) (i:Nat) {g T:Nat} {old:List Value} (hi:bs[i]?=some (g,T,old)) (cs:List Value) {x y:Operand} (hz:(P.info? ty).map (·.size)=some cs.toArray.size) (hold:old.length=cs.length) (h1:cs.toArray.all (·.oneCell')=true) (h:∀ w',Kp (Wrote w w' g)→Kp (Loc w0 w' (bs.set i (g,T,cs)))→wpList P ops Q rest a w') (hgd:o.guard=none:=by exact rfl) (hdst:o.dst=none:=by exact rfl) (ho:o.op=.store ty x y:=by exact rfl) (hx:a.eval x=.pointer (some ⟨g,0,none⟩):=by exact rfl) (hy:a.eval y=.agg cs.toArray:=by exact rfl):wpList P ops Q (o::rest) a w:=L_store H hgd hdst ty x y ho i hi hx cs hy hz hold h1 h
end
end Go.Proofs.YtfecopfofkdnpaaGreat
