/- Texts of this proof, put together: Free. -/
import Derived.Test.YtfecopfofkdnpaaGreatY2
import Derived.Test.YtfecopfofkdnpaaGreatY1
namespace Go.Proofs.YtfecopfofkdnpaaGreat
open Go.RowKit Tryz
structure Out (G:List Nat) (W w:World):Prop where
 tape:w.tape=W.tape
 os:w.os=W.os
 output:w.output=W.output
 size:W.heap.size≤w.heap.size
 block:∀ k,k<W.heap.size→k∉G→w.heap[k]?=W.heap[k]?
theorem Out.refl (G:List Nat) (W:World):Out G W W:=⟨rfl,rfl,rfl,Nat.le_refl _,fun _ _ _=>rfl⟩
theorem Out.trans {G:List Nat} {a b c:World} (h:Out G a b) (k:Out G b c):Out G a c:=
 ⟨k.tape.trans h.tape,k.os.trans h.os,k.output.trans h.output,Nat.le_trans h.size k.size,fun i hi hG=>(k.block i (Nat.lt_of_lt_of_le hi h.size) hG).trans (h.block i hi hG)⟩
theorem Out.of_ext (G:List Nat) {a b:World} (h:Ext a b):Out G a b:=by
 obtain⟨x,rfl⟩:=h;exact⟨rfl,rfl,rfl,by rw[more_size];omega,fun k hk _=>more_heap a x k hk⟩
theorem Out.set {G:List Nat} {g:Nat} (hg:g∈G) (w:World) (cs:Array Value):Out G w (w.setRow g cs):=
 ⟨rfl,rfl,rfl,by rw[setRow_size];exact Nat.le_refl _,fun k _ hG=>setRow_other w g k cs (fun e=>hG (e▸hg))⟩
theorem Out.ext {G:List Nat} {w0 W w:World} (h:Out G W w) (hx:Ext w0 W) (hG:∀ g∈G,w0.heap.size≤g):Ext w0 w:=by
 have hb:=hx.below;refine Ext.of_below ⟨h.os.trans hb.os,h.tape.trans hb.tape,h.output.trans hb.output,Nat.le_trans hb.size h.size,fun k hk=>?_⟩;rw[h.block k (Nat.lt_of_lt_of_le hk hb.size) (fun hm=>by have:=hG k hm;omega)];exact hb.block k hk
theorem Out.lc {G:List Nat} {W w:World} {g T:Nat} {cs:List Value} (h:Out G W w) (hg:Lc W g T cs) (hG:g∉G):Lc w g T cs:=(h.block g hg.lt hG).trans hg
structure Sto where
 i:Nat
 p:Nat
 g:Nat
 T:TypeId
 old:List Value
 new:List Value
section
variable {P:Program} {ops:Array Oper}
structure InvF (ops:Array Oper) (S:Tmp→Value→World→Prop) (St:List Sto) (n:Nat) (W:World) (a0:Act) (rem:List Nat) (listed:Array Bool) (a:Act) (w:World):Prop where
 head:HeadInv .any ops n listed
 nodup:rem.Nodup
 lt:∀ j∈rem,j<n
 mem:∀ j,j<n→(listed.getD j false=true↔j∉rem)
 size:a.tmps.size=a0.tmps.size
 defers:a.defers=a0.defers
 done:∀ d,(∃ j o,j<n∧j∉rem∧ops[j]?=some o∧o.dst=some d)→∃ v,a.tmps[d]?=some v∧S d v w
 open_ : ∀ d, (∀ j o, j < n → j ∉ rem → ops[j]? = some o → o.dst ≠ some d) → a.tmps[d]? = a0.tmps[d]?
 out:Out (St.map (·.g)) W w
 old:∀ s∈St,s.i∈rem→Lc w s.g s.T s.old
 new:∀ s∈St,s.i∉rem→Lc w s.g s.T s.new
theorem InvF.step {S:Tmp→Value→World→Prop} {St:List Sto} (hS:∀ d v w w',S d v w→Out (St.map (·.g)) w w'→S d v w') {n:Nat} {W:World} {a0:Act} {rem:List Nat} {listed:Array Bool} {a:Act} {w w':World} (inv:InvF ops S St n W a0 rem listed a w)
  {i:Nat} {o:Oper} (hi:i∈Region.ready .any ops listed) (hin:i<n) (ho:ops[i]?=some o) (v:Value) (hext:Out (St.map (·.g)) w w')
  (hsz:∀ (j:Nat) o d,j<n→ops[j]?=some o→o.dst=some d→d<a0.tmps.size)
  (hv:∀ d,o.dst=some d→S d v w')
  (hold:∀ s∈St,s.i∈rem.erase i→Lc w' s.g s.T s.old) (hnew:∀ s∈St,s.i∉rem.erase i→Lc w' s.g s.T s.new) :
  InvF ops S St n W a0 (rem.erase i) (listed.setIfInBounds i true) (a.put o.dst v) w':=by
 have hun:=(mem_ready.1 hi).1
 have hirem:i∈rem:=by
  rcases Classical.em (i∈rem) with h|h
  ·exact h
  ·have:=(inv.mem i hin).2 h;rw[getD_both hun] at this;cases this
 have hmem:∀ j,j<n→(j∉rem.erase i↔j∉rem∨j=i):=fun j _=>by
  rw[inv.nodup.mem_erase_iff]
  constructor
  ·intro h;by_cases hj:j=i
   ·exact .inr hj
   ·exact .inl fun hm=>h ⟨hj,hm⟩
  ·rintro (h|h) ⟨h1,h2⟩
   ·exact h h2
   ·exact h1 h
 have hlen:i<listed.size:=by
  rcases Nat.lt_or_ge i listed.size with h|h
  ·exact h
  ·simp[Array.getElem?_eq_none h] at hun
 refine⟨inv.head.set hi hin,inv.nodup.erase i,fun j hj=>inv.lt j (List.mem_of_mem_erase hj),fun j hj=>?_,by rw[put_size,inv.size],by rw[put_defers,inv.defers],fun d h=>?_,fun d h=>?_,inv.out.trans hext,hold,hnew⟩
 ·rw[hmem j hj];by_cases hji:i=j
  ·subst hji;simp[hlen]
  ·rw[getD_set_ne false hji,inv.mem j hj];exact⟨fun h=>.inl h,fun h=>h.resolve_right fun e=>hji e.symm⟩
 ·obtain⟨j,oj,hj,hjr,hoj,hdj⟩:=h;by_cases hod:o.dst=some d
  ·rw[hod,put_get,if_pos rfl];have hlt:d<a.tmps.size:=by rw[inv.size];exact hsz i o d hin ho hod
   exact⟨v,by rw[if_pos hlt],hv d hod⟩
  ·rw[put_other _ _ _ _ hod]
   obtain⟨u,hu1,hu2⟩:=inv.done d ⟨j,oj,hj,(by
    rcases (hmem j hj).1 hjr with h|h
    ·exact h
    ·subst h;rw[ho] at hoj;cases hoj;exact absurd hdj hod),hoj,hdj⟩
   exact⟨u,hu1,hS d u w w' hu2 hext⟩
 ·have hod:o.dst≠some d:=h i o hin ((hmem i hin).2 (.inr rfl)) ho;rw[put_other _ _ _ _ hod];exact inv.open_ d fun j oj hj hjr hoj=>h j oj hj ((hmem j hj).2 (.inl hjr)) hoj
def FinF (ops:Array Oper) (S:Tmp→Value→World→Prop) (St:List Sto) (n:Nat) (W:World) (a0 a':Act) (w':World):Prop:=
 Out (St.map (·.g)) W w'∧a'.tmps.size=a0.tmps.size∧a'.defers=a0.defers∧(∀ d,(∃ j o,j<n∧ops[j]?=some o∧o.dst=some d)→∃ v,a'.tmps[d]?=some v∧S d v w')∧(∀ d,(∀ j o,j<n→ops[j]?=some o→o.dst≠some d)→a'.tmps[d]?=a0.tmps[d]?) ∧
 ∀ s∈St,Lc w' s.g s.T s.new
theorem flat_free {S:Tmp→Value→World→Prop} {St:List Sto} (hS:∀ d v w w',S d v w→Out (St.map (·.g)) w w'→S d v w') {n:Nat} {W:World} {a0:Act} {Q:Exit→Act→World→Prop} (hB:flatB ops n=true) (hSi:∀ s∈St,∀ s'∈St,s.i=s'.i→s=s') (hSg:∀ s∈St,∀ s'∈St,s.g=s'.g→s=s')
  (hsz:∀ (j:Nat) o d,j<n→ops[j]?=some o→o.dst=some d→d<a0.tmps.size)
  (hq:∀ i o,i<n→(∀ s∈St,s.i≠i)→ops[i]?=some o→∀ (b:Act) (w:World),b.tmps.size=a0.tmps.size→(∀ d∈o.looksAt ops,(∀ j o,j<n→ops[j]?=some o→o.dst≠some d)→b.tmps[d]?=a0.tmps[d]?)→Out (St.map (·.g)) W w→(∀ d∈o.looksAt ops,(∃ j o,j<n∧ops[j]?=some o∧o.dst=some d)→∃ v,b.tmps[d]?=some v∧S d v w) →
   ∀ K:Act→World→Prop,(∀ v w',(∀ d,o.dst=some d→S d v w')→Ext w w'→K (b.put o.dst v) w')→if Region.wanted o (yielded ops b.tmps) then o.wp P b w K Q else K (b.put o.dst undef) w)
  (hst:∀ s∈St,∀ o,ops[s.i]?=some o→o.dst=none∧o.guard=none∧∀ (b:Act) (w:World),b.tmps.size=a0.tmps.size→(∀ d∈o.looksAt ops,(∀ j o,j<n→ops[j]?=some o→o.dst≠some d)→b.tmps[d]?=a0.tmps[d]?)→Out (St.map (·.g)) W w→(∀ d∈o.looksAt ops,(∃ j o,j<n∧ops[j]?=some o∧o.dst=some d)→∃ v,b.tmps[d]?=some v∧S d v w)→Lc w s.g s.T s.old→(execOp b.eval o).run P w=.ok .skip (w.setRow s.g s.new.toArray))
  (ht:∀ a' w',FinF ops S St n W a0 a' w'→wpList P ops Q (ops.toList.drop n) a' w') :
  ∀ (f:Nat) (rem:List Nat) (listed:Array Bool) (a:Act) (w:World),rem.length=f→InvF ops S St n W a0 rem listed a w→wpAny P .any ops Q (f+(ops.size-n)) listed a w:=by
 simp only[flatB,Bool.and_eq_true,Bool.or_eq_true,decide_eq_true_eq] at hB;obtain⟨⟨⟨⟨hsel,hn⟩,hsc⟩,hseq⟩,hhd⟩:=hB;intro f
 induction f with
 |zero =>
  intro rem listed a w hf inv;have hnil:rem=[]:=List.eq_nil_of_length_eq_zero hf;subst hnil
  have hlisted:listed=(List.replicate n true++List.replicate (ops.size-n) false).toArray:=by
   have hs:=inv.head.size;refine Array.ext (by simp[hs];omega) fun j h1 h2=>?_;rcases Nat.lt_or_ge j n with hj|hj
   ·have:=(inv.mem j hj).2 (by simp);simp[h1] at this;simp[this,hj,List.getElem_append_left]
   ·have:=inv.head.tail j hj (by rw[←hs];exact h1);simp[h1] at this;rw[this];simp only[List.getElem_toArray];rw[List.getElem_append_right (by simpa using hj)];simp
  have hfin:FinF ops S St n W a0 a w:=
   ⟨inv.out,inv.size,inv.defers,fun d ⟨j,o,hj,hoj,hdj⟩=>inv.done d ⟨j,o,hj,by simp,hoj,hdj⟩,fun d h=>inv.open_ d fun j o hj _ hoj=>h j o hj hoj,fun s hs=>inv.new s hs (by simp)⟩
  have hl:(ops.toList.drop n).length=ops.size-n:=by simp
  have:=wpAny_of_seq (P:=P) (md:=.any) (Q':=Q) (ops:=ops) (ops.toList.drop n) n listed a w (fun j=>by simp[List.getElem?_drop]) (by rw[hl,hlisted];exact hseq) (ht a w hfin);rw[hl] at this;rw[Nat.zero_add];exact this
 |succ f ih =>
  intro rem listed a w hf inv
  have hne:∃ i,i∈rem:=by
   cases rem with
   |nil=>simp at hf
   |cons x l=>exact⟨x,by simp⟩
  have hpos:0<n:=by obtain⟨i,hi⟩:=hne;have:=inv.lt i hi;omega
  have hleast:∀ k,(∃ i,i≤k∧i∈rem)→∃ i∈rem,∀ j∈rem,i≤j:=by
   intro k
   induction k with
   |zero=>rintro⟨i,hi,him⟩;exact⟨i,him,fun j _=>by omega⟩
   |succ k ihk =>
    rintro⟨i,hi,him⟩;rcases Classical.em (∃ i,i≤k∧i∈rem) with h|h
    ·exact ihk h
    ·refine⟨i,him,fun j hj=>?_⟩;rcases Nat.lt_or_ge j i with h'|h'
     ·exact absurd ⟨j,by omega,hj⟩ h
     ·exact h'
  obtain⟨i9,hi9⟩:=hne;obtain⟨i0,hi0,hmin⟩:=hleast i9 ⟨i9,Nat.le_refl _,hi9⟩;have hi0n:=inv.lt i0 hi0
  have hi0u:listed.getD i0 false=false:=by
   cases h:listed.getD i0 false with
   |false=>rfl
   |true=>exact absurd hi0 ((inv.mem i0 hi0n).1 h)
  have hi0s:i0<listed.size:=by rw[inv.head.size];omega
  have hrow:=fun i (hi:i<n)=>List.all_eq_true.1 hhd i (List.mem_range.2 hi)
  have hready:i0∈Region.ready .any ops listed:=by
   have hr:=hrow i0 hi0n;cases ho:ops[i0]? with
   |none=>simp[ho] at hr
   |some o =>
    simp only[ho,Bool.and_eq_true] at hr;refine mem_ready.2 ⟨getD_in hi0s hi0u,o,ho,fun e he hb=>?_⟩;have:=Array.all_eq_true'.1 hr.1 e he;simp[hb] at this;refine (inv.mem e.on (by omega)).2 fun hm=>?_;have:=hmin _ hm;omega
  rw[show f+1+(ops.size-n)=(f+(ops.size-n))+1 by omega];refine⟨fun h=>(by rw[h] at hready;cases hready),fun i hi=>?_⟩
  have hin:i<n:=by
   rcases Nat.lt_or_ge i n with h|h
   ·exact h
   ·rcases hsc with ⟨⟨hlt,hs⟩,hc⟩|heq
    ·exact absurd hi (tail_waits hs hc hlt inv.head _ i0 rfl hi0n (getD_in hi0s hi0u) i h)
    ·obtain⟨_,o,ho,_⟩:=mem_ready.1 hi;have:=(Array.getElem?_eq_some_iff.1 ho).1;omega
  obtain⟨hun,o,ho,hall⟩:=mem_ready.1 hi
  have hirem:i∈rem:=by
   rcases Classical.em (i∈rem) with h|h
   ·exact h
   ·have:=(inv.mem i hin).2 h;rw[getD_both hun] at this;cases this
  have hlen:(rem.erase i).length=f:=by rw[List.length_erase_of_mem hirem];omega
  have hlg:∀ d∈o.looksAt ops,(∃ j oj,j<n∧ops[j]?=some oj∧oj.dst=some d)→∃ v,a.tmps[d]?=some v∧S d v w:=fun d hd ⟨j,oj,hj,hoj,hdj⟩=>by
   have hr:=hrow i hin;simp only[ho,Bool.and_eq_true] at hr;have h2:=List.all_eq_true.1 hr.2 d hd;have h3:=List.all_eq_true.1 h2 j (List.mem_range.2 hj);simp only[hoj,hdj,Bool.or_eq_true] at h3
   have h4:Region.waitsFor .any ops i j=true:=by
    rcases h3 with h|h
    ·simp at h
    ·exact h
   obtain⟨oi,hoi,e,he,hb,hon⟩:=Region.waitsFor_spec h4;have:oi=o:=Option.some.inj (hoi.symm.trans ho);subst this;have:=hall e he hb;rw[hon] at this;exact inv.done d ⟨j,oj,hj,(inv.mem j hj).1 this,hoj,hdj⟩
  have hopn:∀ d∈o.looksAt ops,(∀ j o,j<n→ops[j]?=some o→o.dst≠some d)→a.tmps[d]?=a0.tmps[d]?:=fun d _ h=>inv.open_ d fun j o hj _ hoj=>h j o hj hoj;unfold wpOp;simp only[ho];by_cases hs:∃ s∈St,s.i=i
  ·obtain⟨s,hsm,hsi⟩:=hs;obtain⟨hd,hg,hrun⟩:=hst s hsm o (by rw[hsi];exact ho);rw[if_pos (by simp[Region.wanted,hg])];refine .inl ?_;unfold Oper.wp;rw[hrun a w inv.size hopn inv.out hlg (inv.old s hsm (by rw[hsi];exact hirem))];simp only[Oper.upon];have hgm:s.g∈St.map (·.g):=List.mem_map.2 ⟨s,hsm,rfl⟩;have hother:∀ s'∈St,s'≠s→∀ cs,Lc w s'.g s'.T cs→Lc (w.setRow s.g s.new.toArray) s'.g s'.T cs:=fun s' hs' hne cs h=>h.other (fun e=>hne (hSg s' hs' s hsm e)) _;refine ih (rem.erase i) _ _ _ hlen (inv.step hS hi hin ho undef (Out.set hgm w _) hsz (fun d hd'=>by rw[hd] at hd';cases hd') (fun s' hs' hr=>?_) (fun s' hs' hr=>?_))
   ·have hne:s'≠s:=fun e=>by subst e;rw[hsi] at hr;exact inv.nodup.not_mem_erase hr
    exact hother s' hs' hne _ (inv.old s' hs' (List.mem_of_mem_erase hr))
   ·by_cases he:s'=s
    ·subst he;exact (inv.old s' hs' (by rw[hsi];exact hirem)).set _
    ·exact hother s' hs' he _ (inv.new s' hs' (fun hm=>hr ((inv.nodup.mem_erase_iff).2 ⟨fun e=>he (hSi s' hs' s hsm (e.trans hsi.symm)),hm⟩)))
  ·have hnS:∀ s∈St,s.i≠i:=fun s h1 h2=>hs ⟨s,h1,h2⟩
   have H:=hq i o hin hnS ho a w inv.size hopn inv.out hlg
    (wpAny P .any ops Q (f+(ops.size-n)) (listed.setIfInBounds i true))
    (fun v w' hv hext=>ih (rem.erase i) _ _ _ hlen (inv.step hS hi hin ho v (Out.of_ext _ hext) hsz hv (fun s' hs' hr=>(inv.old s' hs' (List.mem_of_mem_erase hr)).ext hext) (fun s' hs' hr=>(inv.new s' hs' (fun hm=>hr ((inv.nodup.mem_erase_iff).2 ⟨hnS s' hs',hm⟩))).ext hext)))
   split
   ·rename_i hw;rw[if_pos hw] at H;exact .inl H
   ·rename_i hw;rw[if_neg hw] at H;exact H
def wpF (P:Program) (ops:Array Oper) (W:World) (S:Tmp→Value→World→Prop) (St:List Sto) (D:List Tmp) (fin:Act→Prop):Nat→List Oper→Act→Prop
 |_,[],a=>fin a
 |k,o::l,a=>match St.find? (fun s=>s.i==k) with
  |some s=>(o.dst=none∧o.guard=none∧∀ w,Out (St.map (·.g)) W w→(∀ d∈o.looksAt ops,d∈D→S d (a.tmps.getD d undef) w)→Lc w s.g s.T s.old→(execOp a.eval o).run P w=.ok .skip (w.setRow s.g s.new.toArray))∧wpF P ops W S St D fin (k+1) l a
  |none=>(∀ w,Out (St.map (·.g)) W w→(∀ d∈o.looksAt ops,d∈D→S d (a.tmps.getD d undef) w)→wpList P ops (KS S o a w) [o] a w)∧∀ v,wpF P ops W S St D fin (k+1) l (a.put o.dst v)
theorem free_of_walk {W:World} {S:Tmp→Value→World→Prop} {St:List Sto} {D:List Tmp} {fin:Act→Prop} {Q:Exit→Act→World→Prop} (hsel:∀ (j:Nat) (o:Oper) cs b,ops[j]?=some o→o.op≠.select cs b):∀ (l:List Oper) (k:Nat) (a:Act),(∀ o∈l,∃ j:Nat,ops[j]?=some o)→(∀ o∈l,∀ d,o.dst=some d→d<a.tmps.size)→topoB ops l=true →
  wpF P ops W S St D fin k l a→∀ (j:Nat) o,l[j]?=some o→∀ (b:Act) (w:World),b.tmps.size=a.tmps.size→(∀ d∈o.looksAt ops,d∉dsts l→b.tmps[d]?=a.tmps[d]?)→Out (St.map (·.g)) W w→(∀ d∈o.looksAt ops,d∈D→S d (b.tmps.getD d undef) w) →
   match St.find? (fun s=>s.i==k+j) with
   |some s=>o.dst=none∧o.guard=none∧(Lc w s.g s.T s.old→(execOp b.eval o).run P w=.ok .skip (w.setRow s.g s.new.toArray))
   |none=>∀ K:Act→World→Prop,(∀ v w',(∀ d,o.dst=some d→S d v w')→Ext w w'→K (b.put o.dst v) w')→if Region.wanted o (yielded ops b.tmps) then o.wp P b w K Q else K (b.put o.dst undef) w
 |[],_,_,_,_,_,_,j,o,ho=>by simp at ho
 |o::l,k,a,hin,hlt,ht,h,0,o',ho'=>by
  have hoo:o=o':=by simpa using ho'
  subst hoo;simp only[topoB,Bool.and_eq_true] at ht;obtain⟨⟨t1,t2⟩,t3⟩:=ht;intro b w hb hag hext hSd
  have hl:∀ d∈o.looksAt ops,a.tmps[d]?=b.tmps[d]?:=fun d hd=>by
   have:=List.all_eq_true.1 t1 d hd;exact (hag d hd (by simpa using this)).symm
  obtain⟨j,hj⟩:=hin o (by simp);obtain⟨e1,e2⟩:=eval_same (ops:=ops) hl (fun cs b=>hsel j o cs b hj)
  have hSa:∀ d∈o.looksAt ops,d∈D→S d (a.tmps.getD d undef) w:=fun d hd hD=>by
   have:=hSd d hd hD;rw[Array.getD_eq_getD_getElem?] at this ⊢;rw[hl d hd];exact this
  unfold wpF at h;rw[Nat.add_zero];cases hf:St.find? (fun s=>s.i==k) with
  |some s =>
   rw[hf] at h;obtain⟨⟨h1,h2,h3⟩,_⟩:=h;refine⟨h1,h2,fun hL=>?_⟩;rw[←e1];exact h3 w hext hSa hL
  |none =>
   rw[hf] at h;intro K hK;have H:=h.1 w hext hSa;unfold wpList at H;rw[e2] at H
   split at H
   ·rename_i hw
    rw[if_pos hw];rcases H with H|⟨_,_,_,hc,_⟩
    ·exact wp_transfer e1 (hlt o (by simp)) (Oper.wp_mono (fun _ _ h=>h) H) hK
    ·cases hc
   ·rename_i hw
    rw[if_neg hw];obtain⟨_,u,he,hs,hx⟩:=H;refine hK undef w (fun d hd=>?_) (Ext.refl w);rw[hd] at he;rw[put_inj (hlt o (by simp) d hd) he];exact hs d hd
 |o::l,k,a,hin,hlt,ht,h,j+1,o',ho'=>by
  simp only[topoB,Bool.and_eq_true] at ht;obtain⟨⟨t1,t2⟩,t3⟩:=ht;intro b w hb hag hext hSd;rw[show k+(j+1)=(k+1)+j by omega];unfold wpF at h;have hoj:l[j]?=some o':=by simpa using ho'
  have hsame:∀ c:Act,(c=a∧o.dst=none∨c=a.put o.dst (b.tmps.getD (o.dst.getD 0) undef))→∀ d∈o'.looksAt ops,d∉dsts l→b.tmps[d]?=c.tmps[d]?:=fun c hc d hd hn=>by
   rcases hc with ⟨rfl,hod⟩|rfl
   ·exact hag d hd (by simp only[dsts,List.filterMap_cons,hod];exact hn)
   ·cases hod:o.dst with
    |none=>exact hag d hd (by simp only[dsts,List.filterMap_cons,hod];exact hn)
    |some e =>
     have he:=hlt o (by simp) e hod;rw[put_get];by_cases hde:e=d
     ·subst hde;rw[if_pos rfl,if_pos he];have heb:e<b.tmps.size:=by rw[hb];exact he
      simp[heb]
     ·rw[if_neg hde];refine hag d hd ?_;simp only[dsts,List.filterMap_cons,hod,List.mem_cons,not_or];exact⟨fun e'=>hde e'.symm,hn⟩
  cases hf:St.find? (fun s=>s.i==k) with
  |some s =>
   rw[hf] at h;exact free_of_walk hsel l (k+1) a (fun x hx=>hin x (by simp[hx])) (fun x hx d hd=>hlt x (by simp[hx]) d hd) t3 h.2 j o' hoj b w hb (hsame a (.inl ⟨rfl,h.1.1⟩)) hext hSd
  |none =>
   rw[hf] at h;exact free_of_walk hsel l (k+1) _ (fun x hx=>hin x (by simp[hx])) (fun x hx d hd=>by rw[put_size];exact hlt x (by simp[hx]) d hd) t3 (h.2 (b.tmps.getD (o.dst.getD 0) undef)) j o' hoj b w (by rw[put_size];exact hb) (hsame _ (.inr rfl)) hext hSd
def applyS:List Sto→List Bk→List Bk
 |[],bs=>bs
 |s::l,bs=>applyS l (bs.set s.p (s.g,s.T,s.new))
def stoIn (bs:List Bk):List Sto→Prop
 |[]=>True
 |s::l=>bs[s.p]?=some (s.g,s.T,s.old)∧stoIn bs l
theorem stoIn_mem {bs:List Bk}:∀ {l:List Sto},stoIn bs l→∀ s∈l,bs[s.p]?=some (s.g,s.T,s.old)
 |s::l,h,s',hs'=>by
  rcases List.mem_cons.1 hs' with rfl|hs'
  ·exact h.1
  ·exact stoIn_mem h.2 s' hs'
theorem applyS_get:∀ (l:List Sto) (bs:List Bk) (j:Nat) (b:Bk),(applyS l bs)[j]?=some b→(∃ s∈l,s.p=j∧b=(s.g,s.T,s.new))∨(bs[j]?=some b∧∀ s∈l,s.p≠j)
 |[],bs,j,b,h=>.inr ⟨h,fun s hs=>by cases hs⟩
 |s::l,bs,j,b,h=>by
  rcases applyS_get l _ j b h with ⟨s',hs',h1,h2⟩|⟨h1,h2⟩
  ·exact .inl ⟨s',by simp[hs'],h1,h2⟩
  ·rw[List.getElem?_set] at h1;by_cases hp:s.p=j
   ·rw[if_pos hp] at h1
    split at h1
    ·exact .inl ⟨s,by simp,hp,by cases h1;rfl⟩
    ·cases h1
   ·rw[if_neg hp] at h1;exact .inr ⟨h1,fun s' hs'=>by rcases List.mem_cons.1 hs' with rfl|hs';exact hp;exact h2 s' hs'⟩
theorem applyS_map:∀ (l:List Sto) (bs:List Bk),(∀ s∈l,∃ b,bs[s.p]?=some b∧b.1=s.g)→(applyS l bs).map (·.1)=bs.map (·.1)
 |[],_,_=>rfl
 |s::l,bs,h=>by
  obtain⟨b0,hb0,hg0⟩:=h s (by simp)
  have e:(bs.set s.p (s.g,s.T,s.new)).map (·.1)=bs.map (·.1):=by
   refine List.ext_getElem? fun j=>?_;rw[List.getElem?_map,List.getElem?_map,List.getElem?_set]
   split
   ·rename_i e;subst e
    rw[if_pos (List.getElem?_eq_some_iff.1 hb0).1,hb0];simp[hg0]
   ·rfl
  rw[applyS,applyS_map l _ fun s' hs'=>?_,e];obtain⟨b1,hb1,hg1⟩:=h s' (by simp[hs']);rw[List.getElem?_set];by_cases hp:s.p=s'.p
  ·rw[if_pos hp,if_pos (List.getElem?_eq_some_iff.1 hb0).1];refine⟨_,rfl,?_⟩;rw[hp] at hb0;rw[hb0] at hb1;cases hb1;rw[←hg0,hg1]
  ·rw[if_neg hp];exact⟨b1,hb1,hg1⟩
theorem Loc.applyS {w0 W w:World} {bs:List Bk} {St:List Sto} (h:Loc w0 W bs) (hin:stoIn bs St) (ho:Out (St.map (·.g)) W w) (hn:∀ s∈St,Lc w s.g s.T s.new):Loc w0 w (applyS St bs):=by
 have hG:∀ g∈St.map (·.g),w0.heap.size≤g:=fun g hg=>by
  obtain⟨s,hs,rfl⟩:=List.mem_map.1 hg;exact (h.2.2 _ (List.mem_of_getElem? (stoIn_mem hin s hs))).1
 refine⟨ho.ext h.1 hG,by rw[applyS_map St bs fun s hs=>⟨_,stoIn_mem hin s hs,rfl⟩];exact h.2.1,fun b hb=>?_⟩;obtain⟨j,hj⟩:=List.getElem?_of_mem hb;rcases applyS_get St bs j b hj with ⟨s,hs,hp,rfl⟩|⟨hbj,hne⟩
 ·exact⟨hG _ (List.mem_map.2 ⟨s,hs,rfl⟩),hn s hs⟩
 ·have hbm:=h.2.2 b (List.mem_of_getElem? hbj);refine⟨hbm.1,ho.lc hbm.2 fun hm=>?_⟩;obtain⟨s,hs,he⟩:=List.mem_map.1 hm;have h1:(bs.map (·.1))[s.p]?=some s.g:=by rw[List.getElem?_map,stoIn_mem hin s hs];rfl
  have h2:(bs.map (·.1))[j]?=some s.g:=by rw[List.getElem?_map,hbj,he];rfl
  exact hne s hs (nodup_get h.2.1 h1 h2)
theorem region_free {id:Nat} {Q:Exit→Act→World→Prop} {a:Act} {w0 W:World} {bs:List Bk} {l:List Oper} (H:Kp (Loc w0 W bs)) (S:Tmp→Value→World→Prop) (St:List Sto) (hS:∀ d v w w',S d v w→Out (St.map (·.g)) w w'→S d v w') (n:Nat) (hm:P.follows .mixedOrders=true)
  (hB:flatB l.toArray n=true) (hT:topoB l.toArray (l.take n)=true) (hD:((l.take n).all fun o=>match o.dst with|some d=>decide (d<a.tmps.size)|none=>true)=true)
  (is ps:List Nat) (his:St.map (·.i)=is) (hps:St.map (·.p)=ps) (hni:is.Nodup) (hnp:ps.Nodup) (hil:is.all (fun i=>decide (i<n))=true) (hin:stoIn bs St)
  (h:wpF P l.toArray W S St (dsts (l.take n)) (fun a'=>∀ w',Kp (Out (St.map (·.g)) W w')→Kp (Loc w0 w' (applyS St bs))→(∀ d∈dsts (l.take n),S d (a'.tmps.getD d undef) w')→wpList P l.toArray Q (l.drop n) a' w') 0 (l.take n) a) :
  (Code.region id l.toArray true).wp P Q a W:=by
 have hn:=flatB_le hB
 have hidx:∀ (i:Nat) (o:Oper),i<n→l.toArray[i]?=some o→(l.take n)[i]?=some o:=fun i o hi ho=>by
  rw[List.getElem?_take,if_pos hi];simpa using ho
 have hinl:∀ (i:Nat) (o:Oper),i<n→l.toArray[i]?=some o→o∈l.take n:=fun i o hi ho=>List.mem_of_getElem? (hidx i o hi ho)
 have hout:∀ o,o∈l.take n→∃ j:Nat,j<n∧l.toArray[j]?=some o:=fun o ho=>by
  obtain⟨j,hj⟩:=List.getElem?_of_mem ho;rw[List.getElem?_take] at hj
  split at hj
  ·rename_i hlt;exact⟨j,hlt,by simpa using hj⟩
  ·cases hj
 have hlt:∀ o∈l.take n,∀ d,o.dst=some d→d<a.tmps.size:=fun o ho d hd=>by
  have:=List.all_eq_true.1 hD o ho;rw[hd] at this;simpa using this
 have hSi:∀ s∈St,∀ s'∈St,s.i=s'.i→s=s':=by
  subst his;intro s hs s' hs' he;obtain⟨j,hj⟩:=List.getElem?_of_mem hs;obtain⟨j',hj'⟩:=List.getElem?_of_mem hs';have h1:(St.map (·.i))[j]?=some s.i:=by rw[List.getElem?_map,hj];rfl
  have h2:(St.map (·.i))[j']?=some s.i:=by rw[List.getElem?_map,hj',he];rfl
  obtain rfl:=nodup_get hni h1 h2;rw[hj] at hj';exact Option.some.inj hj'
 have hSg:∀ s∈St,∀ s'∈St,s.g=s'.g→s=s':=by
  subst hps;intro s hs s' hs' he;obtain⟨j,hj⟩:=List.getElem?_of_mem hs;obtain⟨j',hj'⟩:=List.getElem?_of_mem hs';have b1:=stoIn_mem hin s hs;have b2:=stoIn_mem hin s' hs'
  have hp:s.p=s'.p:=by
   have h1:(bs.map (·.1))[s.p]?=some s.g:=by rw[List.getElem?_map,b1];rfl
   have h2:(bs.map (·.1))[s'.p]?=some s.g:=by rw[List.getElem?_map,b2,he];rfl
   exact nodup_get H.out.2.1 h1 h2
  have h1:(St.map (·.p))[j]?=some s.p:=by rw[List.getElem?_map,hj];rfl
  have h2:(St.map (·.p))[j']?=some s.p:=by rw[List.getElem?_map,hj',hp];rfl
  obtain rfl:=nodup_get hnp h1 h2;rw[hj] at hj';exact Option.some.inj hj'
 have hfind:∀ s∈St,St.find? (fun s'=>s'.i==s.i)=some s:=fun s hs=>by
  cases hf:St.find? (fun s'=>s'.i==s.i) with
  |none=>exact absurd (List.find?_eq_none.1 hf s hs) (by simp)
  |some s' =>
   have h1:=List.find?_some hf;rw[hSi s' (List.mem_of_find?_eq_some hf) s hs (by simpa using h1)]
 have hwalk:=free_of_walk (P:=P) (ops:=l.toArray) (Q:=Q) (Region.noSelect_spec (flatB_sel hB)) (l.take n) 0 a (fun o' ho'=>by
   obtain⟨j,_,hj⟩:=hout o' ho';exact⟨j,hj⟩) hlt hT h
 have hSd:∀ (b:Act) (w:World) (o:Oper),(∀ d∈o.looksAt l.toArray,(∃ j o,j<n∧l.toArray[j]?=some o∧o.dst=some d)→∃ v,b.tmps[d]?=some v∧S d v w)→∀ d∈o.looksAt l.toArray,d∈dsts (l.take n)→S d (b.tmps.getD d undef) w:=fun b w o hdn d hd hdD=>by
  obtain⟨oj,hoj,hdj⟩:=mem_dsts.1 hdD;obtain⟨j,hj,hj2⟩:=hout oj hoj;obtain⟨v,hv1,hv2⟩:=hdn d hd ⟨j,oj,hj,hj2,hdj⟩;rw[Array.getD_eq_getD_getElem?,hv1];exact hv2
 refine wp_region_any hm ?_
 have HF:=flat_free (P:=P) (ops:=l.toArray) (S:=S) (St:=St) hS (n:=n) (W:=W) (a0:=a) (Q:=Q) hB hSi hSg
  (fun j o d hj hoj hd=>hlt o (hinl j o hj hoj) d hd)
  (fun i o hi2 hne ho b w hb hop hext hdn K hK=>by
   have h1:=hwalk i o (hidx i o hi2 ho) b w hb (fun d hd hnd=>hop d hd fun j oj hj hoj hdj=>hnd (mem_dsts.2 ⟨oj,hinl j oj hj hoj,hdj⟩)) hext (hSd b w o hdn);have hno:St.find? (fun s=>s.i==0+i)=none:=List.find?_eq_none.2 fun s hs=>by simpa using hne s hs
   rw[hno] at h1
   exact h1 K hK)
  (fun s hs o ho=>by
   have hsn:s.i<n:=by subst his;simpa using List.all_eq_true.1 hil s.i (List.mem_map.2 ⟨s,hs,rfl⟩)
   have hgen:=fun (b:Act) (w:World) (hb:b.tmps.size=a.tmps.size) (hop:∀ d∈o.looksAt l.toArray,(∀ j o,j<n→l.toArray[j]?=some o→o.dst≠some d)→b.tmps[d]?=a.tmps[d]?) (hext:Out (St.map (·.g)) W w) (hdn:∀ d∈o.looksAt l.toArray,(∃ j o,j<n∧l.toArray[j]?=some o∧o.dst=some d)→∃ v,b.tmps[d]?=some v∧S d v w) =>
    hwalk s.i o (hidx s.i o hsn ho) b w hb (fun d hd hnd=>hop d hd fun j oj hj hoj hdj=>hnd (mem_dsts.2 ⟨oj,hinl j oj hj hoj,hdj⟩)) hext (hSd b w o hdn)
   rw[Nat.zero_add,hfind s hs] at hgen
   have hdg:∀ (k:Nat) (L:List Oper) (c:Act) (fin:Act→Prop) (D:List Tmp),wpF P l.toArray W S St D fin k L c→∀ (j:Nat),L[j]?=some o→k+j=s.i→o.dst=none∧o.guard=none:=by
    intro k L
    induction L generalizing k with
    |nil=>intro c fin D _ j hj;simp at hj
    |cons x L ih =>
     intro c fin D hw j hj hk;unfold wpF at hw
     match j with
     |0 =>
      have:x=o:=by simpa using hj
      subst this;rw[show k=s.i by omega,hfind s hs] at hw;exact⟨hw.1.1,hw.1.2.1⟩
     |j+1 =>
      cases hf:St.find? (fun s=>s.i==k) with
      |some s'=>rw[hf] at hw;exact ih (k+1) c fin D hw.2 j (by simpa using hj) (by omega)
      |none=>rw[hf] at hw;exact ih (k+1) _ fin D (hw.2 undef) j (by simpa using hj) (by omega)
   obtain⟨hd,hg⟩:=hdg 0 _ _ _ _ h s.i (hidx s.i o hsn ho) (by omega)
   exact⟨hd,hg,fun b w hb hop hext hdn hL=>(hgen b w hb hop hext hdn).2.2 hL⟩)
  (by
   intro a' w' hf;obtain⟨ho,h2,h3,h4,h5,h6⟩:=hf
   have hend:∀ (L:List Oper) (k:Nat) (c:Act),c.tmps.size=a'.tmps.size→c.defers=a'.defers→(∀ o∈L,∀ d,o.dst=some d→d<c.tmps.size)→(∀ d,d<a'.tmps.size→d∉dsts L→c.tmps[d]?=a'.tmps[d]?)→∀ {D:List Tmp} {fin:Act→Prop},wpF P l.toArray W S St D fin k L c→∃ c',fin c'∧c'.tmps.size=a'.tmps.size∧c'.defers=a'.defers∧∀ d,d<a'.tmps.size→c'.tmps[d]?=a'.tmps[d]?:=by
    intro L
    induction L with
    |nil=>intro k c hs hdf _ hag D fin hw;exact⟨c,hw,hs,hdf,fun d hd=>hag d hd (by simp[dsts])⟩
    |cons o L ih =>
     intro k c hs hdf hlt2 hag D fin hw;unfold wpF at hw;cases hf:St.find? (fun s=>s.i==k) with
     |some s =>
      rw[hf] at hw;refine ih (k+1) c hs hdf (fun x hx d hd=>hlt2 x (by simp[hx]) d hd) (fun d hd hnd=>hag d hd ?_) hw.2;simp only[dsts,List.filterMap_cons,hw.1.1];exact hnd
     |none =>
      rw[hf] at hw;refine ih (k+1) (c.put o.dst (a'.tmps.getD (o.dst.getD 0) undef)) (by rw[put_size];exact hs) (by rw[put_defers];exact hdf) (fun x hx d hd=>by rw[put_size];exact hlt2 x (by simp[hx]) d hd) (fun d hd hnd=>?_) (hw.2 _);cases hod:o.dst with
      |none=>exact hag d hd (by simp only[dsts,List.filterMap_cons,hod];exact hnd)
      |some e =>
       have he:=hlt2 o (by simp) e hod;rw[put_get];by_cases hde:e=d
       ·subst hde;rw[if_pos rfl,if_pos he];have heb:e<a'.tmps.size:=by rw[←hs];exact he
        simp[heb]
       ·rw[if_neg hde];refine hag d hd ?_;simp only[dsts,List.filterMap_cons,hod,List.mem_cons,not_or];exact⟨fun e'=>hde e'.symm,hnd⟩
   obtain⟨c',hfin,hcs,hcd,hca⟩:=hend (l.take n) 0 a h2.symm h3.symm hlt (fun d hd hnd=>(h5 d fun j oj hj hoj hdj=>hnd (mem_dsts.2 ⟨oj,hinl j oj hj hoj,hdj⟩)).symm) h
   have:a'=c':=act_ext hcd.symm fun d=>by
    by_cases hd:d<a'.tmps.size
    ·exact (hca d hd).symm
    ·rw[Array.getElem?_eq_none (by omega),Array.getElem?_eq_none (by omega)]
   rw[this];have hlist:l.toArray.toList.drop n=l.drop n:=by simp
   rw[hlist];refine hfin w' (kp ho) (kp (H.out.applyS hin ho h6)) fun d hd=>?_;obtain⟨oj,hoj,hdj⟩:=mem_dsts.1 hd;obtain⟨j,hj,hj2⟩:=hout oj hoj;obtain⟨v,hv1,hv2⟩:=h4 d ⟨j,oj,hj,hj2,hdj⟩
   rw[Array.getD_eq_getD_getElem?,←this,hv1];exact hv2)
  n (List.range n) (Array.replicate l.toArray.size false) a W.drew (by simp)
  (by
   refine⟨⟨by simp,fun j oj _ hl=>(by rw[getD_replicate_false] at hl;cases hl),fun t _ ht=>getD_in (by simpa using ht) (getD_replicate_false _ _)⟩,List.nodup_range,fun j hj=>List.mem_range.1 hj,fun j hj=>?_,rfl,rfl,fun d h=>?_,fun _ _=>rfl,Out.of_ext _ (Ext.drew W),fun s hs _=>?_,fun s hs hr=>?_⟩
   ·rw[getD_replicate_false];simp[hj]
   ·obtain⟨j,o,hj,hjr,_⟩:=h;exact absurd (List.mem_range.2 hj) hjr
   ·exact ((H.out.2.2 _ (List.mem_of_getElem? (stoIn_mem hin s hs))).2).ext (Ext.drew W)
   ·have hsn:s.i<n:=by subst his;simpa using List.all_eq_true.1 hil s.i (List.mem_map.2 ⟨s,hs,rfl⟩)
    exact absurd (List.mem_range.2 hsn) hr)
 rw[show n+(l.toArray.size-n)=l.toArray.size by omega] at HF;exact HF
theorem run_sto {o:Oper} {a:Act} {w:World} {g T:Nat} {old new:List Value} (ty:TypeId) (x y:Operand) (ho:o.op=.store ty x y) (hx:a.eval x=.pointer (some ⟨g,0,none⟩)) (hy:a.eval y=.agg new.toArray) (hL:Lc w g T old)
  (hz:(P.info? ty).map (·.size)=some new.toArray.size) (hold:old.length=new.length) (h1:new.toArray.all (·.oneCell')=true):(execOp a.eval o).run P w=.ok .skip (w.setRow g new.toArray):=by
 have hv:=run_storeVar_row (P:=P) w g T ty old.toArray new.toArray hL hz (by simpa using hold) h1;unfold execOp;simp only[ho,hx,hy,Instr.storeAt,Instr.sureAddr,Sem.run_bind,Sem.run_pure,Result.andThen_ok,hv]
end
def MonoO (G:List Nat) (φ:Value→World→Prop):Prop:=∀ v w w',φ v w→Out G w w'→φ v w'
theorem tabS_out (G:List Nat):∀ (l:List (Tmp × (Value→World→Prop))),(∀ p∈l,MonoO G p.2)→∀ d v w w',tabS l d v w→Out G w w'→tabS l d v w'
 |[],_,_,_,_,_,_,_=>trivial
 |p::l,h,d,v,w,w',h1,hx=>by
  unfold tabS at h1 ⊢
  split
  ·rename_i hd;rw[if_pos hd] at h1;exact h p (by simp) v w w' h1 hx
  ·rename_i hd;rw[if_neg hd] at h1;exact tabS_out G l (fun q hq=>h q (by simp[hq])) d v w w' h1 hx
theorem mono_eqO (G:List Nat) (u:Value):MonoO G (fun v _=>v=u):=fun _ _ _ h _=>h
def keepS:List Nat→List Bk→List Bk
 |[],_=>[]
 |i::is,bs=>match bs[i]? with
  |some b=>b::keepS is bs
  |none=>keepS is bs
theorem keepS_mem:∀ (is:List Nat) (bs:List Bk) (b:Bk),b∈keepS is bs→∃ i∈is,bs[i]?=some b
 |[],_,_,h=>by cases h
 |i::is,bs,b,h=>by
  unfold keepS at h;cases hb:bs[i]? with
  |none=>rw[hb] at h;obtain⟨j,hj,h2⟩:=keepS_mem is bs b h;exact⟨j,by simp[hj],h2⟩
  |some c =>
   rw[hb] at h;rcases List.mem_cons.1 h with rfl|h
   ·exact⟨i,by simp,hb⟩
   ·obtain⟨j,hj,h2⟩:=keepS_mem is bs b h;exact⟨j,by simp[hj],h2⟩
theorem keepS_nodup (bs:List Bk) (hn:(bs.map (·.1)).Nodup):∀ (is:List Nat),is.Nodup→((keepS is bs).map (·.1)).Nodup
 |[],_=>List.nodup_nil
 |i::is,h=>by
  have h1:=List.nodup_cons.1 h;unfold keepS;cases hb:bs[i]? with
  |none=>exact keepS_nodup bs hn is h1.2
  |some b =>
   simp only[List.map_cons];refine List.nodup_cons.2 ⟨fun hm=>?_,keepS_nodup bs hn is h1.2⟩;obtain⟨c,hc,he⟩:=List.mem_map.1 hm;obtain⟨j,hj,h2⟩:=keepS_mem is bs c hc;have q1:(bs.map (·.1))[i]?=some b.1:=by rw[List.getElem?_map,hb];rfl
   have q2:(bs.map (·.1))[j]?=some b.1:=by rw[List.getElem?_map,h2,←he];rfl
   exact h1.1 (nodup_get hn q1 q2▸hj)
theorem Loc.keep {w0 W w:World} {bs:List Bk} {St:List Sto} (h:Loc w0 W bs) (is:List Nat) (hin:stoIn bs St) (ho:Out (St.map (·.g)) W w) (hn:is.Nodup) (hd:is.all (fun i=>!(St.map (·.p)).contains i)=true):Loc w0 w (keepS is bs):=by
 have hG:∀ g∈St.map (·.g),w0.heap.size≤g:=fun g hg=>by
  obtain⟨s,hs,rfl⟩:=List.mem_map.1 hg;exact (h.2.2 _ (List.mem_of_getElem? (stoIn_mem hin s hs))).1
 refine⟨ho.ext h.1 hG,keepS_nodup bs h.2.1 is hn,fun b hb=>?_⟩;obtain⟨i,hi,hbi⟩:=keepS_mem is bs b hb;have hbm:=h.2.2 b (List.mem_of_getElem? hbi);refine⟨hbm.1,ho.lc hbm.2 fun hm=>?_⟩;obtain⟨s,hs,he⟩:=List.mem_map.1 hm;have h1:(bs.map (·.1))[s.p]?=some s.g:=by rw[List.getElem?_map,stoIn_mem hin s hs];rfl
 have h2:(bs.map (·.1))[i]?=some s.g:=by rw[List.getElem?_map,hbi,he];rfl
 have h3:=List.all_eq_true.1 hd i hi;simp only[Bool.not_eq_true',List.contains_eq_mem,decide_eq_false_iff_not] at h3;exact h3 (nodup_get h.2.1 h1 h2▸List.mem_map.2 ⟨s,hs,rfl⟩)
theorem kK {w0 W w:World} {bs:List Bk} (is:List Nat) (H:Kp (Loc w0 W bs)) (ho:Out [] W w) (hn:is.Nodup:=by decide) (hd:is.all (fun i=>!(([]:List Sto).map (·.p)).contains i)=true:=by kernel_rfl):Loc w0 w (keepS is bs):=H.out.keep is (St:=[]) trivial ho hn hd
end Go.Proofs.YtfecopfofkdnpaaGreat
