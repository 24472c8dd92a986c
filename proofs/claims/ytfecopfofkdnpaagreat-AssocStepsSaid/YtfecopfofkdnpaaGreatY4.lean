/- Texts of this proof, put together: Free2, Cut, Lit, SlT. -/
import Derived.Test.YtfecopfofkdnpaaGreatY3
import Derived.Test.YtfecopfofkdnpaaGreatY2
import Derived.Laws.AppendOwn
import Derived.Test.YtfecopfofkdnpaaGreatY1
namespace Go.Proofs.YtfecopfofkdnpaaGreat
open Go.RowKit Tryz
def SF (S:Tmp→Value→World→Prop) (A:List Tmp) (w:World) (d:Tmp) (v:Value) (w':World):Prop:=S d v w'∧(d∈A→∃ g,v=.pointer (some ⟨g,0,none⟩)∧w.heap.size≤g)
section
variable {P:Program} {ops:Array Oper}
structure InvG (ops:Array Oper) (S:Tmp→Value→World→Prop) (A:List Tmp) (St:List Sto) (n:Nat) (W:World) (a0:Act) (rem:List Nat) (listed:Array Bool) (a:Act) (w:World):Prop where
 head:HeadInv .any ops n listed
 nodup:rem.Nodup
 lt:∀ j∈rem,j<n
 mem:∀ j,j<n→(listed.getD j false=true↔j∉rem)
 size:a.tmps.size=a0.tmps.size
 defers:a.defers=a0.defers
 done:∀ d,(∃ j o,j<n∧j∉rem∧ops[j]?=some o∧o.dst=some d)→∃ v,a.tmps[d]?=some v∧S d v w
 open_ : ∀ d, (∀ j o, j < n → j ∉ rem → ops[j]? = some o → o.dst ≠ some d) → a.tmps[d]? = a0.tmps[d]?
 out:Out (St.map (·.g)) W w
 old:∀ s∈St,s.i∈rem→Lc w s.g s.T s.old
 new:∀ s∈St,s.i∉rem→Lc w s.g s.T s.new
 dis:∀ d∈A,∀ d2∈A,d≠d2→(∃ j o,j<n∧j∉rem∧ops[j]?=some o∧o.dst=some d)→(∃ j o,j<n∧j∉rem∧ops[j]?=some o∧o.dst=some d2)→a.tmps[d]?≠a.tmps[d2]?
theorem InvG.step {S:Tmp→Value→World→Prop} {A:List Tmp} (hA:∀ d∈A,∀ v w,S d v w→∃ g,v=.pointer (some ⟨g,0,none⟩)∧g<w.heap.size) {St:List Sto} (hS:∀ d v w w',S d v w→Out (St.map (·.g)) w w'→S d v w') {n:Nat} {W:World} {a0:Act} {rem:List Nat} {listed:Array Bool} {a:Act} {w w':World} (inv:InvG ops S A St n W a0 rem listed a w)
  {i:Nat} {o:Oper} (hi:i∈Region.ready .any ops listed) (hin:i<n) (ho:ops[i]?=some o) (v:Value) (hext:Out (St.map (·.g)) w w')
  (hsz:∀ (j:Nat) o d,j<n→ops[j]?=some o→o.dst=some d→d<a0.tmps.size)
  (hv:∀ d,o.dst=some d→SF S A w d v w')
  (hold:∀ s∈St,s.i∈rem.erase i→Lc w' s.g s.T s.old) (hnew:∀ s∈St,s.i∉rem.erase i→Lc w' s.g s.T s.new) :
  InvG ops S A St n W a0 (rem.erase i) (listed.setIfInBounds i true) (a.put o.dst v) w':=by
 have hun:=(mem_ready.1 hi).1
 have hirem:i∈rem:=by
  rcases Classical.em (i∈rem) with h|h
  ·exact h
  ·have:=(inv.mem i hin).2 h;rw[getD_both hun] at this;cases this
 have hmem:∀ j,j<n→(j∉rem.erase i↔j∉rem∨j=i):=fun j _=>by
  rw[inv.nodup.mem_erase_iff]
  constructor
  ·intro h;by_cases hj:j=i
   ·exact .inr hj
   ·exact .inl fun hm=>h ⟨hj,hm⟩
  ·rintro (h|h) ⟨h1,h2⟩
   ·exact h h2
   ·exact h1 h
 have hlen:i<listed.size:=by
  rcases Nat.lt_or_ge i listed.size with h|h
  ·exact h
  ·simp[Array.getElem?_eq_none h] at hun
 refine⟨inv.head.set hi hin,inv.nodup.erase i,fun j hj=>inv.lt j (List.mem_of_mem_erase hj),fun j hj=>?_,by rw[put_size,inv.size],by rw[put_defers,inv.defers],fun d h=>?_,fun d h=>?_,inv.out.trans hext,hold,hnew,fun d hdA d2 hdA2 hne h h2=>?_⟩
 ·rw[hmem j hj];by_cases hji:i=j
  ·subst hji;simp[hlen]
  ·rw[getD_set_ne false hji,inv.mem j hj];exact⟨fun h=>.inl h,fun h=>h.resolve_right fun e=>hji e.symm⟩
 ·obtain⟨j,oj,hj,hjr,hoj,hdj⟩:=h;by_cases hod:o.dst=some d
  ·rw[hod,put_get,if_pos rfl];have hlt:d<a.tmps.size:=by rw[inv.size];exact hsz i o d hin ho hod
   exact⟨v,by rw[if_pos hlt],(hv d hod).1⟩
  ·rw[put_other _ _ _ _ hod]
   obtain⟨u,hu1,hu2⟩:=inv.done d ⟨j,oj,hj,(by
    rcases (hmem j hj).1 hjr with h|h
    ·exact h
    ·subst h;rw[ho] at hoj;cases hoj;exact absurd hdj hod),hoj,hdj⟩
   exact⟨u,hu1,hS d u w w' hu2 hext⟩
 ·have hod:o.dst≠some d:=h i o hin ((hmem i hin).2 (.inr rfl)) ho;rw[put_other _ _ _ _ hod];exact inv.open_ d fun j oj hj hjr hoj=>h j oj hj ((hmem j hj).2 (.inl hjr)) hoj
 ·have hold2:∀ d,o.dst≠some d→(∃ j o,j<n∧j∉rem.erase i∧ops[j]?=some o∧o.dst=some d)→(∃ j o,j<n∧j∉rem∧ops[j]?=some o∧o.dst=some d):=fun d hod ⟨j,oj,hj,hjr,hoj,hdj⟩ =>
   ⟨j,oj,hj,(by
    rcases (hmem j hj).1 hjr with h|h
    ·exact h
    ·subst h;rw[ho] at hoj;cases hoj;exact absurd hdj hod),hoj,hdj⟩
  have hfr:∀ d∈A,∀ d2∈A,d≠d2→o.dst=some d→(∃ j o,j<n∧j∉rem.erase i∧ops[j]?=some o∧o.dst=some d2)→(a.put o.dst v).tmps[d]?≠(a.put o.dst v).tmps[d2]?:=fun d hdA d2 hdA2 hne hod h2=>by
   have hod2:o.dst≠some d2:=fun e=>hne (Option.some.inj (hod.symm.trans e));obtain⟨u,hu1,hu2⟩:=inv.done d2 (hold2 d2 hod2 h2);obtain⟨g,hg1,hg2⟩:=hA d2 hdA2 u w hu2;obtain⟨g',hg1',hg2'⟩:=(hv d hod).2 hdA;have hlt:d<a.tmps.size:=by rw[inv.size];exact hsz i o d hin ho hod
   rw[put_other _ _ _ _ hod2,hu1,hod,put_get,if_pos rfl,if_pos hlt];intro e;have e2:=Option.some.inj e;rw[hg1,hg1'] at e2;cases e2
   omega
  by_cases hod:o.dst=some d
  ·exact hfr d hdA d2 hdA2 hne hod h2
  ·by_cases hod2:o.dst=some d2
   ·exact fun e=>hfr d2 hdA2 d hdA hne.symm hod2 h e.symm
   ·rw[put_other _ _ _ _ hod,put_other _ _ _ _ hod2];exact inv.dis d hdA d2 hdA2 hne (hold2 d hod h) (hold2 d2 hod2 h2)
def FinG (ops:Array Oper) (S:Tmp→Value→World→Prop) (A:List Tmp) (St:List Sto) (n:Nat) (W:World) (a0 a':Act) (w':World):Prop:=
 Out (St.map (·.g)) W w'∧a'.tmps.size=a0.tmps.size∧a'.defers=a0.defers∧(∀ d,(∃ j o,j<n∧ops[j]?=some o∧o.dst=some d)→∃ v,a'.tmps[d]?=some v∧S d v w')∧(∀ d,(∀ j o,j<n→ops[j]?=some o→o.dst≠some d)→a'.tmps[d]?=a0.tmps[d]?) ∧
 (∀ s∈St,Lc w' s.g s.T s.new) ∧
 ∀ d∈A,∀ d2∈A,d≠d2→(∃ j o,j<n∧ops[j]?=some o∧o.dst=some d)→(∃ j o,j<n∧ops[j]?=some o∧o.dst=some d2)→a'.tmps[d]?≠a'.tmps[d2]?
theorem flat_free2 {S:Tmp→Value→World→Prop} {A:List Tmp} (hA:∀ d∈A,∀ v w,S d v w→∃ g,v=.pointer (some ⟨g,0,none⟩)∧g<w.heap.size) {St:List Sto} (hS:∀ d v w w',S d v w→Out (St.map (·.g)) w w'→S d v w') {n:Nat} {W:World} {a0:Act} {Q:Exit→Act→World→Prop} (hB:flatB ops n=true) (hSi:∀ s∈St,∀ s'∈St,s.i=s'.i→s=s') (hSg:∀ s∈St,∀ s'∈St,s.g=s'.g→s=s')
  (hsz:∀ (j:Nat) o d,j<n→ops[j]?=some o→o.dst=some d→d<a0.tmps.size)
  (hq:∀ i o,i<n→(∀ s∈St,s.i≠i)→ops[i]?=some o→∀ (b:Act) (w:World),b.tmps.size=a0.tmps.size→(∀ d∈o.looksAt ops,(∀ j o,j<n→ops[j]?=some o→o.dst≠some d)→b.tmps[d]?=a0.tmps[d]?)→Out (St.map (·.g)) W w→(∀ d∈o.looksAt ops,(∃ j o,j<n∧ops[j]?=some o∧o.dst=some d)→∃ v,b.tmps[d]?=some v∧S d v w) →
   ∀ K:Act→World→Prop,(∀ v w',(∀ d,o.dst=some d→SF S A w d v w')→Ext w w'→K (b.put o.dst v) w')→if Region.wanted o (yielded ops b.tmps) then o.wp P b w K Q else K (b.put o.dst undef) w)
  (hst:∀ s∈St,∀ o,ops[s.i]?=some o→o.dst=none∧o.guard=none∧∀ (b:Act) (w:World),b.tmps.size=a0.tmps.size→(∀ d∈o.looksAt ops,(∀ j o,j<n→ops[j]?=some o→o.dst≠some d)→b.tmps[d]?=a0.tmps[d]?)→Out (St.map (·.g)) W w→(∀ d∈o.looksAt ops,(∃ j o,j<n∧ops[j]?=some o∧o.dst=some d)→∃ v,b.tmps[d]?=some v∧S d v w)→Lc w s.g s.T s.old→(execOp b.eval o).run P w=.ok .skip (w.setRow s.g s.new.toArray))
  (ht:∀ a' w',FinG ops S A St n W a0 a' w'→wpList P ops Q (ops.toList.drop n) a' w') :
  ∀ (f:Nat) (rem:List Nat) (listed:Array Bool) (a:Act) (w:World),rem.length=f→InvG ops S A St n W a0 rem listed a w→wpAny P .any ops Q (f+(ops.size-n)) listed a w:=by
 simp only[flatB,Bool.and_eq_true,Bool.or_eq_true,decide_eq_true_eq] at hB;obtain⟨⟨⟨⟨hsel,hn⟩,hsc⟩,hseq⟩,hhd⟩:=hB;intro f
 induction f with
 |zero =>
  intro rem listed a w hf inv;have hnil:rem=[]:=List.eq_nil_of_length_eq_zero hf;subst hnil
  have hlisted:listed=(List.replicate n true++List.replicate (ops.size-n) false).toArray:=by
   have hs:=inv.head.size;refine Array.ext (by simp[hs];omega) fun j h1 h2=>?_;rcases Nat.lt_or_ge j n with hj|hj
   ·have:=(inv.mem j hj).2 (by simp);simp[h1] at this;simp[this,hj,List.getElem_append_left]
   ·have:=inv.head.tail j hj (by rw[←hs];exact h1);simp[h1] at this;rw[this];simp only[List.getElem_toArray];rw[List.getElem_append_right (by simpa using hj)];simp
  have hfin:FinG ops S A St n W a0 a w:=
   ⟨inv.out,inv.size,inv.defers,fun d ⟨j,o,hj,hoj,hdj⟩=>inv.done d ⟨j,o,hj,by simp,hoj,hdj⟩,fun d h=>inv.open_ d fun j o hj _ hoj=>h j o hj hoj,fun s hs=>inv.new s hs (by simp),fun d hd d2 hd2 hne ⟨j,o,hj,hoj,hdj⟩ ⟨j2,o2,hj2,hoj2,hdj2⟩=>inv.dis d hd d2 hd2 hne ⟨j,o,hj,by simp,hoj,hdj⟩ ⟨j2,o2,hj2,by simp,hoj2,hdj2⟩⟩
  have hl:(ops.toList.drop n).length=ops.size-n:=by simp
  have:=wpAny_of_seq (P:=P) (md:=.any) (Q':=Q) (ops:=ops) (ops.toList.drop n) n listed a w (fun j=>by simp[List.getElem?_drop]) (by rw[hl,hlisted];exact hseq) (ht a w hfin);rw[hl] at this;rw[Nat.zero_add];exact this
 |succ f ih =>
  intro rem listed a w hf inv
  have hne:∃ i,i∈rem:=by
   cases rem with
   |nil=>simp at hf
   |cons x l=>exact⟨x,by simp⟩
  have hpos:0<n:=by obtain⟨i,hi⟩:=hne;have:=inv.lt i hi;omega
  have hleast:∀ k,(∃ i,i≤k∧i∈rem)→∃ i∈rem,∀ j∈rem,i≤j:=by
   intro k
   induction k with
   |zero=>rintro⟨i,hi,him⟩;exact⟨i,him,fun j _=>by omega⟩
   |succ k ihk =>
    rintro⟨i,hi,him⟩;rcases Classical.em (∃ i,i≤k∧i∈rem) with h|h
    ·exact ihk h
    ·refine⟨i,him,fun j hj=>?_⟩;rcases Nat.lt_or_ge j i with h'|h'
     ·exact absurd ⟨j,by omega,hj⟩ h
     ·exact h'
  obtain⟨i9,hi9⟩:=hne;obtain⟨i0,hi0,hmin⟩:=hleast i9 ⟨i9,Nat.le_refl _,hi9⟩;have hi0n:=inv.lt i0 hi0
  have hi0u:listed.getD i0 false=false:=by
   cases h:listed.getD i0 false with
   |false=>rfl
   |true=>exact absurd hi0 ((inv.mem i0 hi0n).1 h)
  have hi0s:i0<listed.size:=by rw[inv.head.size];omega
  have hrow:=fun i (hi:i<n)=>List.all_eq_true.1 hhd i (List.mem_range.2 hi)
  have hready:i0∈Region.ready .any ops listed:=by
   have hr:=hrow i0 hi0n;cases ho:ops[i0]? with
   |none=>simp[ho] at hr
   |some o =>
    simp only[ho,Bool.and_eq_true] at hr;refine mem_ready.2 ⟨getD_in hi0s hi0u,o,ho,fun e he hb=>?_⟩;have:=Array.all_eq_true'.1 hr.1 e he;simp[hb] at this;refine (inv.mem e.on (by omega)).2 fun hm=>?_;have:=hmin _ hm;omega
  rw[show f+1+(ops.size-n)=(f+(ops.size-n))+1 by omega];refine⟨fun h=>(by rw[h] at hready;cases hready),fun i hi=>?_⟩
  have hin:i<n:=by
   rcases Nat.lt_or_ge i n with h|h
   ·exact h
   ·rcases hsc with ⟨⟨hlt,hs⟩,hc⟩|heq
    ·exact absurd hi (tail_waits hs hc hlt inv.head _ i0 rfl hi0n (getD_in hi0s hi0u) i h)
    ·obtain⟨_,o,ho,_⟩:=mem_ready.1 hi;have:=(Array.getElem?_eq_some_iff.1 ho).1;omega
  obtain⟨hun,o,ho,hall⟩:=mem_ready.1 hi
  have hirem:i∈rem:=by
   rcases Classical.em (i∈rem) with h|h
   ·exact h
   ·have:=(inv.mem i hin).2 h;rw[getD_both hun] at this;cases this
  have hlen:(rem.erase i).length=f:=by rw[List.length_erase_of_mem hirem];omega
  have hlg:∀ d∈o.looksAt ops,(∃ j oj,j<n∧ops[j]?=some oj∧oj.dst=some d)→∃ v,a.tmps[d]?=some v∧S d v w:=fun d hd ⟨j,oj,hj,hoj,hdj⟩=>by
   have hr:=hrow i hin;simp only[ho,Bool.and_eq_true] at hr;have h2:=List.all_eq_true.1 hr.2 d hd;have h3:=List.all_eq_true.1 h2 j (List.mem_range.2 hj);simp only[hoj,hdj,Bool.or_eq_true] at h3
   have h4:Region.waitsFor .any ops i j=true:=by
    rcases h3 with h|h
    ·simp at h
    ·exact h
   obtain⟨oi,hoi,e,he,hb,hon⟩:=Region.waitsFor_spec h4;have:oi=o:=Option.some.inj (hoi.symm.trans ho);subst this;have:=hall e he hb;rw[hon] at this;exact inv.done d ⟨j,oj,hj,(inv.mem j hj).1 this,hoj,hdj⟩
  have hopn:∀ d∈o.looksAt ops,(∀ j o,j<n→ops[j]?=some o→o.dst≠some d)→a.tmps[d]?=a0.tmps[d]?:=fun d _ h=>inv.open_ d fun j o hj _ hoj=>h j o hj hoj;unfold wpOp;simp only[ho];by_cases hs:∃ s∈St,s.i=i
  ·obtain⟨s,hsm,hsi⟩:=hs;obtain⟨hd,hg,hrun⟩:=hst s hsm o (by rw[hsi];exact ho);rw[if_pos (by simp[Region.wanted,hg])];refine .inl ?_;unfold Oper.wp;rw[hrun a w inv.size hopn inv.out hlg (inv.old s hsm (by rw[hsi];exact hirem))];simp only[Oper.upon];have hgm:s.g∈St.map (·.g):=List.mem_map.2 ⟨s,hsm,rfl⟩;have hother:∀ s'∈St,s'≠s→∀ cs,Lc w s'.g s'.T cs→Lc (w.setRow s.g s.new.toArray) s'.g s'.T cs:=fun s' hs' hne cs h=>h.other (fun e=>hne (hSg s' hs' s hsm e)) _;refine ih (rem.erase i) _ _ _ hlen (inv.step hA hS hi hin ho undef (Out.set hgm w _) hsz (fun d hd'=>by rw[hd] at hd';cases hd') (fun s' hs' hr=>?_) (fun s' hs' hr=>?_))
   ·have hne:s'≠s:=fun e=>by subst e;rw[hsi] at hr;exact inv.nodup.not_mem_erase hr
    exact hother s' hs' hne _ (inv.old s' hs' (List.mem_of_mem_erase hr))
   ·by_cases he:s'=s
    ·subst he;exact (inv.old s' hs' (by rw[hsi];exact hirem)).set _
    ·exact hother s' hs' he _ (inv.new s' hs' (fun hm=>hr ((inv.nodup.mem_erase_iff).2 ⟨fun e=>he (hSi s' hs' s hsm (e.trans hsi.symm)),hm⟩)))
  ·have hnS:∀ s∈St,s.i≠i:=fun s h1 h2=>hs ⟨s,h1,h2⟩
   have H:=hq i o hin hnS ho a w inv.size hopn inv.out hlg
    (wpAny P .any ops Q (f+(ops.size-n)) (listed.setIfInBounds i true))
    (fun v w' hv hext=>ih (rem.erase i) _ _ _ hlen (inv.step hA hS hi hin ho v (Out.of_ext _ hext) hsz hv (fun s' hs' hr=>(inv.old s' hs' (List.mem_of_mem_erase hr)).ext hext) (fun s' hs' hr=>(inv.new s' hs' (fun hm=>hr ((inv.nodup.mem_erase_iff).2 ⟨hnS s' hs',hm⟩))).ext hext)))
   split
   ·rename_i hw;rw[if_pos hw] at H;exact .inl H
   ·rename_i hw;rw[if_neg hw] at H;exact H
def wpG (P:Program) (ops:Array Oper) (W:World) (S:Tmp→Value→World→Prop) (A:List Tmp) (St:List Sto) (D:List Tmp) (fin:Act→Prop):Nat→List Oper→Act→Prop
 |_,[],a=>fin a
 |k,o::l,a=>match St.find? (fun s=>s.i==k) with
  |some s=>(o.dst=none∧o.guard=none∧∀ w,Out (St.map (·.g)) W w→(∀ d∈o.looksAt ops,d∈D→S d (a.tmps.getD d undef) w)→Lc w s.g s.T s.old→(execOp a.eval o).run P w=.ok .skip (w.setRow s.g s.new.toArray))∧wpG P ops W S A St D fin (k+1) l a
  |none=>(∀ w,Out (St.map (·.g)) W w→(∀ d∈o.looksAt ops,d∈D→S d (a.tmps.getD d undef) w)→wpList P ops (KS (SF S A w) o a w) [o] a w)∧∀ v,wpG P ops W S A St D fin (k+1) l (a.put o.dst v)
theorem free_of_walk2 {W:World} {S:Tmp→Value→World→Prop} {A:List Tmp} {St:List Sto} {D:List Tmp} {fin:Act→Prop} {Q:Exit→Act→World→Prop} (hsel:∀ (j:Nat) (o:Oper) cs b,ops[j]?=some o→o.op≠.select cs b):∀ (l:List Oper) (k:Nat) (a:Act),(∀ o∈l,∃ j:Nat,ops[j]?=some o)→(∀ o∈l,∀ d,o.dst=some d→d<a.tmps.size)→topoB ops l=true →
  wpG P ops W S A St D fin k l a→∀ (j:Nat) o,l[j]?=some o→∀ (b:Act) (w:World),b.tmps.size=a.tmps.size→(∀ d∈o.looksAt ops,d∉dsts l→b.tmps[d]?=a.tmps[d]?)→Out (St.map (·.g)) W w→(∀ d∈o.looksAt ops,d∈D→S d (b.tmps.getD d undef) w) →
   match St.find? (fun s=>s.i==k+j) with
   |some s=>o.dst=none∧o.guard=none∧(Lc w s.g s.T s.old→(execOp b.eval o).run P w=.ok .skip (w.setRow s.g s.new.toArray))
   |none=>∀ K:Act→World→Prop,(∀ v w',(∀ d,o.dst=some d→SF S A w d v w')→Ext w w'→K (b.put o.dst v) w')→if Region.wanted o (yielded ops b.tmps) then o.wp P b w K Q else K (b.put o.dst undef) w
 |[],_,_,_,_,_,_,j,o,ho=>by simp at ho
 |o::l,k,a,hin,hlt,ht,h,0,o',ho'=>by
  have hoo:o=o':=by simpa using ho'
  subst hoo;simp only[topoB,Bool.and_eq_true] at ht;obtain⟨⟨t1,t2⟩,t3⟩:=ht;intro b w hb hag hext hSd
  have hl:∀ d∈o.looksAt ops,a.tmps[d]?=b.tmps[d]?:=fun d hd=>by
   have:=List.all_eq_true.1 t1 d hd;exact (hag d hd (by simpa using this)).symm
  obtain⟨j,hj⟩:=hin o (by simp);obtain⟨e1,e2⟩:=eval_same (ops:=ops) hl (fun cs b=>hsel j o cs b hj)
  have hSa:∀ d∈o.looksAt ops,d∈D→S d (a.tmps.getD d undef) w:=fun d hd hD=>by
   have:=hSd d hd hD;rw[Array.getD_eq_getD_getElem?] at this ⊢;rw[hl d hd];exact this
  unfold wpG at h;rw[Nat.add_zero];cases hf:St.find? (fun s=>s.i==k) with
  |some s =>
   rw[hf] at h;obtain⟨⟨h1,h2,h3⟩,_⟩:=h;refine⟨h1,h2,fun hL=>?_⟩;rw[←e1];exact h3 w hext hSa hL
  |none =>
   rw[hf] at h;intro K hK;have H:=h.1 w hext hSa;unfold wpList at H;rw[e2] at H
   split at H
   ·rename_i hw
    rw[if_pos hw];rcases H with H|⟨_,_,_,hc,_⟩
    ·exact wp_transfer e1 (hlt o (by simp)) (Oper.wp_mono (fun _ _ h=>h) H) hK
    ·cases hc
   ·rename_i hw
    rw[if_neg hw];obtain⟨_,u,he,hs,hx⟩:=H;refine hK undef w (fun d hd=>?_) (Ext.refl w);rw[hd] at he;rw[put_inj (hlt o (by simp) d hd) he];exact hs d hd
 |o::l,k,a,hin,hlt,ht,h,j+1,o',ho'=>by
  simp only[topoB,Bool.and_eq_true] at ht;obtain⟨⟨t1,t2⟩,t3⟩:=ht;intro b w hb hag hext hSd;rw[show k+(j+1)=(k+1)+j by omega];unfold wpG at h;have hoj:l[j]?=some o':=by simpa using ho'
  have hsame:∀ c:Act,(c=a∧o.dst=none∨c=a.put o.dst (b.tmps.getD (o.dst.getD 0) undef))→∀ d∈o'.looksAt ops,d∉dsts l→b.tmps[d]?=c.tmps[d]?:=fun c hc d hd hn=>by
   rcases hc with ⟨rfl,hod⟩|rfl
   ·exact hag d hd (by simp only[dsts,List.filterMap_cons,hod];exact hn)
   ·cases hod:o.dst with
    |none=>exact hag d hd (by simp only[dsts,List.filterMap_cons,hod];exact hn)
    |some e =>
     have he:=hlt o (by simp) e hod;rw[put_get];by_cases hde:e=d
     ·subst hde;rw[if_pos rfl,if_pos he];have heb:e<b.tmps.size:=by rw[hb];exact he
      simp[heb]
     ·rw[if_neg hde];refine hag d hd ?_;simp only[dsts,List.filterMap_cons,hod,List.mem_cons,not_or];exact⟨fun e'=>hde e'.symm,hn⟩
  cases hf:St.find? (fun s=>s.i==k) with
  |some s =>
   rw[hf] at h;exact free_of_walk2 hsel l (k+1) a (fun x hx=>hin x (by simp[hx])) (fun x hx d hd=>hlt x (by simp[hx]) d hd) t3 h.2 j o' hoj b w hb (hsame a (.inl ⟨rfl,h.1.1⟩)) hext hSd
  |none =>
   rw[hf] at h;exact free_of_walk2 hsel l (k+1) _ (fun x hx=>hin x (by simp[hx])) (fun x hx d hd=>by rw[put_size];exact hlt x (by simp[hx]) d hd) t3 (h.2 (b.tmps.getD (o.dst.getD 0) undef)) j o' hoj b w (by rw[put_size];exact hb) (hsame _ (.inr rfl)) hext hSd
theorem region_free2 {id:Nat} {Q:Exit→Act→World→Prop} {a:Act} {w0 W:World} {bs:List Bk} {l:List Oper} (H:Kp (Loc w0 W bs)) (n:Nat) (S:Tmp→Value→World→Prop) (A:List Tmp) (hA:∀ d∈A,∀ v w,S d v w→∃ g,v=.pointer (some ⟨g,0,none⟩)∧g<w.heap.size) (hAD0:(A.all fun d=>(dsts (l.take n)).contains d)=true) (St:List Sto) (hS:∀ d v w w',S d v w→Out (St.map (·.g)) w w'→S d v w') (hm:P.follows .mixedOrders=true)
  (hB:flatB l.toArray n=true) (hT:topoB l.toArray (l.take n)=true) (hD:((l.take n).all fun o=>match o.dst with|some d=>decide (d<a.tmps.size)|none=>true)=true)
  (is ps:List Nat) (his:St.map (·.i)=is) (hps:St.map (·.p)=ps) (hni:is.Nodup) (hnp:ps.Nodup) (hil:is.all (fun i=>decide (i<n))=true) (hin:stoIn bs St)
  (h:wpG P l.toArray W S A St (dsts (l.take n)) (fun a'=>∀ w',Kp (Out (St.map (·.g)) W w')→Kp (Loc w0 w' (applyS St bs))→(∀ d∈dsts (l.take n),S d (a'.tmps.getD d undef) w')→(∀ d∈A,∀ d2∈A,d≠d2→a'.tmps.getD d undef≠a'.tmps.getD d2 undef)→wpList P l.toArray Q (l.drop n) a' w') 0 (l.take n) a) :
  (Code.region id l.toArray true).wp P Q a W:=by
 have hAD:∀ d∈A,d∈dsts (l.take n):=fun d hd=>by
  have:=List.all_eq_true.1 hAD0 d hd
  simpa using this
 have hn:=flatB_le hB
 have hidx:∀ (i:Nat) (o:Oper),i<n→l.toArray[i]?=some o→(l.take n)[i]?=some o:=fun i o hi ho=>by
  rw[List.getElem?_take,if_pos hi];simpa using ho
 have hinl:∀ (i:Nat) (o:Oper),i<n→l.toArray[i]?=some o→o∈l.take n:=fun i o hi ho=>List.mem_of_getElem? (hidx i o hi ho)
 have hout:∀ o,o∈l.take n→∃ j:Nat,j<n∧l.toArray[j]?=some o:=fun o ho=>by
  obtain⟨j,hj⟩:=List.getElem?_of_mem ho;rw[List.getElem?_take] at hj
  split at hj
  ·rename_i hlt;exact⟨j,hlt,by simpa using hj⟩
  ·cases hj
 have hlt:∀ o∈l.take n,∀ d,o.dst=some d→d<a.tmps.size:=fun o ho d hd=>by
  have:=List.all_eq_true.1 hD o ho;rw[hd] at this;simpa using this
 have hSi:∀ s∈St,∀ s'∈St,s.i=s'.i→s=s':=by
  subst his;intro s hs s' hs' he;obtain⟨j,hj⟩:=List.getElem?_of_mem hs;obtain⟨j',hj'⟩:=List.getElem?_of_mem hs';have h1:(St.map (·.i))[j]?=some s.i:=by rw[List.getElem?_map,hj];rfl
  have h2:(St.map (·.i))[j']?=some s.i:=by rw[List.getElem?_map,hj',he];rfl
  obtain rfl:=nodup_get hni h1 h2;rw[hj] at hj';exact Option.some.inj hj'
 have hSg:∀ s∈St,∀ s'∈St,s.g=s'.g→s=s':=by
  subst hps;intro s hs s' hs' he;obtain⟨j,hj⟩:=List.getElem?_of_mem hs;obtain⟨j',hj'⟩:=List.getElem?_of_mem hs';have b1:=stoIn_mem hin s hs;have b2:=stoIn_mem hin s' hs'
  have hp:s.p=s'.p:=by
   have h1:(bs.map (·.1))[s.p]?=some s.g:=by rw[List.getElem?_map,b1];rfl
   have h2:(bs.map (·.1))[s'.p]?=some s.g:=by rw[List.getElem?_map,b2,he];rfl
   exact nodup_get H.out.2.1 h1 h2
  have h1:(St.map (·.p))[j]?=some s.p:=by rw[List.getElem?_map,hj];rfl
  have h2:(St.map (·.p))[j']?=some s.p:=by rw[List.getElem?_map,hj',hp];rfl
  obtain rfl:=nodup_get hnp h1 h2;rw[hj] at hj';exact Option.some.inj hj'
 have hfind:∀ s∈St,St.find? (fun s'=>s'.i==s.i)=some s:=fun s hs=>by
  cases hf:St.find? (fun s'=>s'.i==s.i) with
  |none=>exact absurd (List.find?_eq_none.1 hf s hs) (by simp)
  |some s' =>
   have h1:=List.find?_some hf;rw[hSi s' (List.mem_of_find?_eq_some hf) s hs (by simpa using h1)]
 have hwalk:=free_of_walk2 (P:=P) (ops:=l.toArray) (Q:=Q) (Region.noSelect_spec (flatB_sel hB)) (l.take n) 0 a (fun o' ho'=>by
   obtain⟨j,_,hj⟩:=hout o' ho';exact⟨j,hj⟩) hlt hT h
 have hSd:∀ (b:Act) (w:World) (o:Oper),(∀ d∈o.looksAt l.toArray,(∃ j o,j<n∧l.toArray[j]?=some o∧o.dst=some d)→∃ v,b.tmps[d]?=some v∧S d v w)→∀ d∈o.looksAt l.toArray,d∈dsts (l.take n)→S d (b.tmps.getD d undef) w:=fun b w o hdn d hd hdD=>by
  obtain⟨oj,hoj,hdj⟩:=mem_dsts.1 hdD;obtain⟨j,hj,hj2⟩:=hout oj hoj;obtain⟨v,hv1,hv2⟩:=hdn d hd ⟨j,oj,hj,hj2,hdj⟩;rw[Array.getD_eq_getD_getElem?,hv1];exact hv2
 refine wp_region_any hm ?_
 have HF:=flat_free2 (P:=P) (ops:=l.toArray) (S:=S) (A:=A) hA (St:=St) hS (n:=n) (W:=W) (a0:=a) (Q:=Q) hB hSi hSg
  (fun j o d hj hoj hd=>hlt o (hinl j o hj hoj) d hd)
  (fun i o hi2 hne ho b w hb hop hext hdn K hK=>by
   have h1:=hwalk i o (hidx i o hi2 ho) b w hb (fun d hd hnd=>hop d hd fun j oj hj hoj hdj=>hnd (mem_dsts.2 ⟨oj,hinl j oj hj hoj,hdj⟩)) hext (hSd b w o hdn);have hno:St.find? (fun s=>s.i==0+i)=none:=List.find?_eq_none.2 fun s hs=>by simpa using hne s hs
   rw[hno] at h1
   exact h1 K hK)
  (fun s hs o ho=>by
   have hsn:s.i<n:=by subst his;simpa using List.all_eq_true.1 hil s.i (List.mem_map.2 ⟨s,hs,rfl⟩)
   have hgen:=fun (b:Act) (w:World) (hb:b.tmps.size=a.tmps.size) (hop:∀ d∈o.looksAt l.toArray,(∀ j o,j<n→l.toArray[j]?=some o→o.dst≠some d)→b.tmps[d]?=a.tmps[d]?) (hext:Out (St.map (·.g)) W w) (hdn:∀ d∈o.looksAt l.toArray,(∃ j o,j<n∧l.toArray[j]?=some o∧o.dst=some d)→∃ v,b.tmps[d]?=some v∧S d v w) =>
    hwalk s.i o (hidx s.i o hsn ho) b w hb (fun d hd hnd=>hop d hd fun j oj hj hoj hdj=>hnd (mem_dsts.2 ⟨oj,hinl j oj hj hoj,hdj⟩)) hext (hSd b w o hdn)
   rw[Nat.zero_add,hfind s hs] at hgen
   have hdg:∀ (k:Nat) (L:List Oper) (c:Act) (fin:Act→Prop) (D:List Tmp),wpG P l.toArray W S A St D fin k L c→∀ (j:Nat),L[j]?=some o→k+j=s.i→o.dst=none∧o.guard=none:=by
    intro k L
    induction L generalizing k with
    |nil=>intro c fin D _ j hj;simp at hj
    |cons x L ih =>
     intro c fin D hw j hj hk;unfold wpG at hw
     match j with
     |0 =>
      have:x=o:=by simpa using hj
      subst this;rw[show k=s.i by omega,hfind s hs] at hw;exact⟨hw.1.1,hw.1.2.1⟩
     |j+1 =>
      cases hf:St.find? (fun s=>s.i==k) with
      |some s'=>rw[hf] at hw;exact ih (k+1) c fin D hw.2 j (by simpa using hj) (by omega)
      |none=>rw[hf] at hw;exact ih (k+1) _ fin D (hw.2 undef) j (by simpa using hj) (by omega)
   obtain⟨hd,hg⟩:=hdg 0 _ _ _ _ h s.i (hidx s.i o hsn ho) (by omega)
   exact⟨hd,hg,fun b w hb hop hext hdn hL=>(hgen b w hb hop hext hdn).2.2 hL⟩)
  (by
   intro a' w' hf;obtain⟨ho,h2,h3,h4,h5,h6,h7⟩:=hf
   have hend:∀ (L:List Oper) (k:Nat) (c:Act),c.tmps.size=a'.tmps.size→c.defers=a'.defers→(∀ o∈L,∀ d,o.dst=some d→d<c.tmps.size)→(∀ d,d<a'.tmps.size→d∉dsts L→c.tmps[d]?=a'.tmps[d]?)→∀ {D:List Tmp} {fin:Act→Prop},wpG P l.toArray W S A St D fin k L c→∃ c',fin c'∧c'.tmps.size=a'.tmps.size∧c'.defers=a'.defers∧∀ d,d<a'.tmps.size→c'.tmps[d]?=a'.tmps[d]?:=by
    intro L
    induction L with
    |nil=>intro k c hs hdf _ hag D fin hw;exact⟨c,hw,hs,hdf,fun d hd=>hag d hd (by simp[dsts])⟩
    |cons o L ih =>
     intro k c hs hdf hlt2 hag D fin hw;unfold wpG at hw;cases hf:St.find? (fun s=>s.i==k) with
     |some s =>
      rw[hf] at hw;refine ih (k+1) c hs hdf (fun x hx d hd=>hlt2 x (by simp[hx]) d hd) (fun d hd hnd=>hag d hd ?_) hw.2;simp only[dsts,List.filterMap_cons,hw.1.1];exact hnd
     |none =>
      rw[hf] at hw;refine ih (k+1) (c.put o.dst (a'.tmps.getD (o.dst.getD 0) undef)) (by rw[put_size];exact hs) (by rw[put_defers];exact hdf) (fun x hx d hd=>by rw[put_size];exact hlt2 x (by simp[hx]) d hd) (fun d hd hnd=>?_) (hw.2 _);cases hod:o.dst with
      |none=>exact hag d hd (by simp only[dsts,List.filterMap_cons,hod];exact hnd)
      |some e =>
       have he:=hlt2 o (by simp) e hod;rw[put_get];by_cases hde:e=d
       ·subst hde;rw[if_pos rfl,if_pos he];have heb:e<a'.tmps.size:=by rw[←hs];exact he
        simp[heb]
       ·rw[if_neg hde];refine hag d hd ?_;simp only[dsts,List.filterMap_cons,hod,List.mem_cons,not_or];exact⟨fun e'=>hde e'.symm,hnd⟩
   obtain⟨c',hfin,hcs,hcd,hca⟩:=hend (l.take n) 0 a h2.symm h3.symm hlt (fun d hd hnd=>(h5 d fun j oj hj hoj hdj=>hnd (mem_dsts.2 ⟨oj,hinl j oj hj hoj,hdj⟩)).symm) h
   have:a'=c':=act_ext hcd.symm fun d=>by
    by_cases hd:d<a'.tmps.size
    ·exact (hca d hd).symm
    ·rw[Array.getElem?_eq_none (by omega),Array.getElem?_eq_none (by omega)]
   rw[this];have hlist:l.toArray.toList.drop n=l.drop n:=by simp
   rw[hlist];refine hfin w' (kp ho) (kp (H.out.applyS hin ho h6)) (fun d hd=>?_) (fun d hd d2 hd2 hne=>?_)
   ·obtain⟨oj,hoj,hdj⟩:=mem_dsts.1 hd;obtain⟨j,hj,hj2⟩:=hout oj hoj;obtain⟨v,hv1,hv2⟩:=h4 d ⟨j,oj,hj,hj2,hdj⟩;rw[Array.getD_eq_getD_getElem?,←this,hv1];exact hv2
   ·obtain⟨oj,hoj,hdj⟩:=mem_dsts.1 (hAD d hd);obtain⟨j,hj,hj2⟩:=hout oj hoj;obtain⟨ok,hok,hdk⟩:=mem_dsts.1 (hAD d2 hd2);obtain⟨k,hk,hk2⟩:=hout ok hok;obtain⟨v,hv1,_⟩:=h4 d ⟨j,oj,hj,hj2,hdj⟩;obtain⟨v2,hw1,_⟩:=h4 d2 ⟨k,ok,hk,hk2,hdk⟩;have hd:=h7 d hd d2 hd2 hne ⟨j,oj,hj,hj2,hdj⟩ ⟨k,ok,hk,hk2,hdk⟩;rw[Array.getD_eq_getD_getElem?,Array.getD_eq_getD_getElem?,←this,hv1,hw1];rw[hv1,hw1] at hd
    exact fun e=>hd (congrArg some e))
  n (List.range n) (Array.replicate l.toArray.size false) a W.drew (by simp)
  (by
   refine⟨⟨by simp,fun j oj _ hl=>(by rw[getD_replicate_false] at hl;cases hl),fun t _ ht=>getD_in (by simpa using ht) (getD_replicate_false _ _)⟩,List.nodup_range,fun j hj=>List.mem_range.1 hj,fun j hj=>?_,rfl,rfl,fun d h=>?_,fun _ _=>rfl,Out.of_ext _ (Ext.drew W),fun s hs _=>?_,fun s hs hr=>?_,fun d _ d2 _ _ h _=>?_⟩
   ·rw[getD_replicate_false];simp[hj]
   ·obtain⟨j,o,hj,hjr,_⟩:=h;exact absurd (List.mem_range.2 hj) hjr
   ·exact ((H.out.2.2 _ (List.mem_of_getElem? (stoIn_mem hin s hs))).2).ext (Ext.drew W)
   ·have hsn:s.i<n:=by subst his;simpa using List.all_eq_true.1 hil s.i (List.mem_map.2 ⟨s,hs,rfl⟩)
    exact absurd (List.mem_range.2 hsn) hr
   ·obtain⟨j,o,hj,hjr,_⟩:=h;exact absurd (List.mem_range.2 hj) hjr)
 rw[show n+(l.toArray.size-n)=l.toArray.size by omega] at HF;exact HF
end
def putMany (vs:Tmp→Value):List Tmp→Array Value→Array Value
 |[],t=>t
 |d::l,t=>putMany vs l (t.setIfInBounds d (vs d))
def CutP (D:List Tmp) (R:(Tmp→Value)→World→Prop) (a:Act) (ex:Exit) (a':Act) (w':World):Prop:=
 ex=.normal∧a'.defers=a.defers∧a'.tmps=putMany (fun d=>a'.tmps.getD d undef) D a.tmps∧R (fun d=>a'.tmps.getD d undef) w'
theorem CutP.of {D:List Tmp} {R:(Tmp→Value)→World→Prop} {a a':Act} {w':World} (hd:a'.defers=a.defers) (ht:a'.tmps=putMany (fun d=>a'.tmps.getD d undef) D a.tmps) (hr:R (fun d=>a'.tmps.getD d undef) w'):CutP D R a .normal a' w':=⟨rfl,hd,ht,hr⟩
theorem wp_cut {P:Program} {c:Code} {Q:Exit→Act→World→Prop} {a:Act} {w:World} (D:List Tmp) (R:(Tmp→Value)→World→Prop)
  (h1:c.wp P (CutP D R a) a w)
  (h2:∀ vs w',R vs w'→Q .normal ⟨putMany vs D a.tmps,a.defers⟩ w'):c.wp P Q a w:=
 Code.wp_mono (fun e a' w' ⟨he,hd,ht,hr⟩=>by
  subst he;have h:=h2 _ _ hr
  have e:a'=⟨putMany (fun d=>a'.tmps.getD d undef) D a.tmps,a.defers⟩:=by
   cases a' with
   |mk t d=>simp only at hd ht;rw[←hd];congr 1
  rw[e]
  exact h) h1
theorem Loc.tl {w0 w:World} {b:Bk} {bs:List Bk} (h:Loc w0 w (b::bs)):Loc w0 w bs:=
 ⟨h.1,(List.nodup_cons.1 h.2.1).2,fun c hc=>h.2.2 c (by simp[hc])⟩
section
variable {P:Program} {ops:Array Oper} {rest:List Oper} {o:Oper} {a:Act} {w0 w:World} {Q:Exit→Act→World→Prop} {bs:List Bk}
theorem L_bd (hgd:Region.wanted o (yielded ops a.tmps)=true) (t:TypeId) (parts:Array (Nat × Operand)) (ho:o.op=.build t parts) (ps:Array (Nat × Value)) (hp:parts.map (fun p=>(p.1,a.eval p.2))=ps) (cs:List Value)
  (hrun:∀ w,(Instr.build t ps).run P w=.ok (.agg cs.toArray) w) (h:wpList P ops Q rest (a.put o.dst (.agg cs.toArray)) w):wpList P ops Q (o::rest) a w:=by
 refine wpList_step fun K hK=>?_;rw[if_pos hgd];unfold Oper.wp execOp;simp only[ho,Sem.run_bind,hp,hrun w,Result.andThen_ok,Sem.run_pure];exact hK _ _ h
theorem L_bs (H:Kp (Loc w0 w bs)) (hgd:Region.wanted o (yielded ops a.tmps)=true) (t:TypeId) (n:Nat) (parts:Array (Nat × Operand)) (ho:o.op=.buildSlice t n parts) (ps:Array (Nat × Value)) (hp:parts.map (fun p=>(p.1,a.eval p.2))=ps) (e:TypeId) (cs:List Value)
  (hrun:∀ w,(Instr.buildSlice t n ps).run P w=.ok (.slice (some ⟨w.heap.size,0,none⟩) n n) (w.alloc (.cells cs.toArray e)))
  (h:∀ g w',Kp (g=w.heap.size)→Kp (Ext w w')→Kp (Loc w0 w' ((g,e,cs)::bs))→wpList P ops Q rest (a.put o.dst (.slice (some ⟨g,0,none⟩) n n)) w'):wpList P ops Q (o::rest) a w:=by
 refine wpList_step fun K hK=>?_;rw[if_pos hgd];unfold Oper.wp execOp;simp only[ho,Sem.run_bind,hp,hrun w,Result.andThen_ok,Sem.run_pure];exact hK _ _ (h _ _ (kp rfl) (kp (Ext.alloc _ _)) (kp (H.out.new e cs)))
theorem L_mk (H:Kp (Loc w0 w bs)) (hgd:Region.wanted o (yielded ops a.tmps)=true) (t:TypeId) (x y:Operand) (ho:o.op=.makeSlice t x y) (u v:Value) (hx:a.eval x=u) (hy:a.eval y=v) (n c:Nat) (e:TypeId) (cs:List Value)
  (hrun:∀ w,(Instr.makeSlice t u v).run P w=.ok (.slice (some ⟨w.heap.size,0,none⟩) n c) (w.alloc (.cells cs.toArray e)))
  (h:∀ g w',Kp (g=w.heap.size)→Kp (Ext w w')→Kp (Loc w0 w' ((g,e,cs)::bs))→wpList P ops Q rest (a.put o.dst (.slice (some ⟨g,0,none⟩) n c)) w'):wpList P ops Q (o::rest) a w:=by
 refine wpList_step fun K hK=>?_;rw[if_pos hgd];unfold Oper.wp execOp;simp only[ho,hx,hy,Sem.run_bind,hrun w,Result.andThen_ok,Sem.run_pure];exact hK _ _ (h _ _ (kp rfl) (kp (Ext.alloc _ _)) (kp (H.out.new e cs)))
end
section
variable {P:Program} {ops:Array Oper} {rest:List Oper} {o:Oper} {a:Act} {w0 w:World} {Q:Exit→Act→World→Prop} {bs:List Bk}
theorem xBD (t:TypeId) (ps:Array (Nat × Value)) (cs:List Value) {parts:Array (Nat × Operand)} (h:wpList P ops Q rest (a.put o.dst (.agg cs.toArray)) w) (hgd:Region.wanted o (yielded ops a.tmps)=true:=by kernel_rfl) (ho:o.op=.build t parts:=by exact rfl) (hp:parts.map (fun p=>(p.1,a.eval p.2))=ps:=by kernel_rfl) (hrun:∀ w,(Instr.build t ps).run P w=.ok (.agg cs.toArray) w:=by intros;kernel_rfl):wpList P ops Q (o::rest) a w:=L_bd hgd t parts ho ps hp cs hrun h
theorem xBS (H:Kp (Loc w0 w bs)) (t n:Nat) (ps:Array (Nat × Value)) (e:TypeId) (cs:List Value) {parts:Array (Nat × Operand)} (hrun:∀ w,(Instr.buildSlice t n ps).run P w=.ok (.slice (some ⟨w.heap.size,0,none⟩) n n) (w.alloc (.cells cs.toArray e))) (h:∀ g w',Kp (g=w.heap.size)→Kp (Ext w w')→Kp (Loc w0 w' ((g,e,cs)::bs))→wpList P ops Q rest (a.put o.dst (.slice (some ⟨g,0,none⟩) n n)) w') (hgd:Region.wanted o (yielded ops a.tmps)=true:=by kernel_rfl) (ho:o.op=.buildSlice t n parts:=by exact rfl) (hp:parts.map (fun p=>(p.1,a.eval p.2))=ps:=by kernel_rfl):wpList P ops Q (o::rest) a w:=L_bs H hgd t n parts ho ps hp e cs hrun h
end
theorem rangeAt_ext {w w':World} {b o:Nat} {cs:List Value} (h:w.rangeAt b o cs) (hb:b<w.heap.size) (hx:Ext w w'):w'.rangeAt b o cs:=fun j v hv=>(hx.cell hb).trans (h j v hv)
theorem Loc.tail {w0 w:World} {b:Bk} {bs:List Bk} (h:Loc w0 w (b::bs)):Loc w0 w bs:=
 ⟨h.1,(List.nodup_cons.1 h.2.1).2,fun c hc=>h.2.2 c (by simp[hc])⟩
theorem wpList_load_midG {P:Program} {ops:Array Oper} {rest:List Oper} {op:Oper} {a:Act} {w:World} {Q:Exit→Act→World→Prop} (hgd:Region.wanted op (yielded ops a.tmps)=true) (ty:TypeId) (x:Operand) (ho:op.op=.load ty x)
  (b o:Nat) (hx:a.eval x=.pointer (some ⟨b,o,none⟩)) (cs:List Value) (d:TypeDesc) (hc:w.rangeAt b o cs)
  (hu:P.underlying ty=some d) (hd:d.isRow=true) (hi:(P.info? ty).map (·.size)=some cs.length)
  (h:wpList P ops Q rest (a.put op.dst (.agg cs.toArray)) w):wpList P ops Q (op::rest) a w:=
 wpList_step fun _ hK=>by rw[if_pos hgd];exact wp_load_mid ty x ho b o hx cs d hc hu hd hi (hK _ _ h)
theorem L_subG {P:Program} {ops:Array Oper} {rest:List Oper} {o:Oper} {a:Act} {w0 w:World} {Q:Exit→Act→World→Prop} {bs:List Bk} (H:Kp (Loc w0 w bs)) (hgd:Region.wanted o (yielded ops a.tmps)=true) (ty:TypeId) (x:Operand) (ho:o.op=.load ty x) (i:Nat) {g T:Nat} {cs:List Value} (hi:bs[i]?=some (g,T,cs)) (off:Nat)
  (hx:a.eval x=.pointer (some ⟨g,off,none⟩)) (ds:List Value) (hds:(cs.drop off).take ds.length=ds) {d:TypeDesc} (hu:P.underlying ty=some d) (hd:d.isRow=true) (hz:(P.info? ty).map (·.size)=some ds.length)
  (h:wpList P ops Q rest (a.put o.dst (.agg ds.toArray)) w):wpList P ops Q (o::rest) a w:=
 wpList_load_midG hgd ty x ho g off hx ds d ((H.out.at i hi).range hds) hu hd hz h
def Chg (lo:Nat) (a b:World):Prop:=lo≤b.heap.size∧∀ k,k<lo→b.heap[k]?=a.heap[k]?
theorem Chg.refl (w:World):Chg w.heap.size w w:=⟨Nat.le_refl _,fun _ _=>rfl⟩
theorem Chg.ext {lo:Nat} {a b c:World} (h:Chg lo a b) (hx:Ext b c):Chg lo a c:=by
 obtain⟨x,rfl⟩:=hx;exact⟨by rw[more_size];have:=h.1;omega,fun k hk=>(more_heap b x k (Nat.lt_of_lt_of_le hk h.1)).trans (h.2 k hk)⟩
theorem Chg.wrote {lo g:Nat} {a b c:World} (h:Chg lo a b) (hw:Wrote b c g) (hg:lo≤g):Chg lo a c:=by
 obtain⟨ds,rfl⟩:=hw;exact⟨by rw[setRow_size];exact h.1,fun k hk=>(setRow_other b g k ds (by omega)).trans (h.2 k hk)⟩
theorem Chg.of_ext {a b:World} (h:Ext a b):Chg a.heap.size a b:=(Chg.refl a).ext h
theorem Chg.le {lo lo':Nat} {a b:World} (h:Chg lo a b) (hl:lo'≤lo):Chg lo' a b:=⟨Nat.le_trans hl h.1,fun k hk=>h.2 k (Nat.lt_of_lt_of_le hk hl)⟩
theorem Chg.trans {lo:Nat} {a b c:World} (h:Chg lo a b) (k:Chg lo b c):Chg lo a c:=⟨k.1,fun i hi=>(k.2 i hi).trans (h.2 i hi)⟩
theorem Chg.cell {lo b i:Nat} {w w':World} (h:Chg lo w w') (hb:b<lo):w'.cell? ⟨b,i,none⟩=w.cell? ⟨b,i,none⟩:=by
 simp only[World.cell?,h.2 b hb]
theorem Chg.range {lo b o:Nat} {w w':World} {cs:List Value} (h:Chg lo w w') (hb:b<lo) (hr:w.rangeAt b o cs):w'.rangeAt b o cs:=fun j v hv=>(h.cell hb).trans (hr j v hv)
theorem Loc.add {w0 w:World} {bs:List Bk} (h:Loc w0 w bs) (n:Nat) (hn:∀ g∈bs.map (·.1),g<n) (h0:w0.heap.size≤n) {g T:Nat} {cs:List Value} (hg:n≤g) (hl:Lc w g T cs):Loc w0 w ((g,T,cs)::bs):=by
 refine⟨h.1,?_,fun b hb=>?_⟩
 ·rw[List.map_cons,List.nodup_cons];exact⟨fun hm=>by have:=hn g hm;omega,h.2.1⟩
 ·rcases List.mem_cons.1 hb with rfl|hb
  ·exact⟨by omega,hl⟩
  ·exact h.2.2 b hb
theorem Loc.allLt {w0 w:World} {bs:List Bk} (h:Loc w0 w bs):∀ g∈bs.map (·.1),g<w.heap.size:=fun g hg=>by
 obtain⟨b,hb,rfl⟩:=List.mem_map.1 hg;exact (h.2.2 b hb).2.lt
section
variable {α:Type} {sz:Nat} {f:α→List Value}
def SlT (sz:Nat) (f:α→List Value) (w:World) (v:Value) (xs:List α):Prop:=
 ∃ ad n c,v=.slice ad n c∧n=xs.length∧n≤c∧∀ (j:Nat) x,xs[j]?=some x→∃ b off,ad=some ⟨b,off,none⟩∧b<w.heap.size∧w.rangeAt b (off+j*sz) (f x)
theorem SlT.ext {w w':World} {v:Value} {xs:List α} (h:SlT sz f w v xs) (hx:Ext w w'):SlT sz f w' v xs:=by
 obtain⟨ad,n,c,h1,h2,h3,h4⟩:=h;exact⟨ad,n,c,h1,h2,h3,fun j x hj=>by obtain⟨b,off,q1,q2,q3⟩:=h4 j x hj;exact⟨b,off,q1,Nat.lt_of_lt_of_le q2 hx.size,rangeAt_ext q3 q2 hx⟩⟩
theorem SlT.nil (w:World):SlT sz f w (.slice none 0 0) []:=⟨none,0,0,rfl,rfl,Nat.le_refl _,fun j x hj=>by simp at hj⟩
theorem flatMap_at:∀ (xs:List α),(∀ x∈xs,(f x).length=sz)→∀ (j:Nat) x,xs[j]?=some x→((xs.flatMap f).drop (j*sz)).take sz=f x
 |[],_,j,x,h=>by simp at h
 |y::ys,hf,0,x,h=>by
  have:y=x:=by simpa using h
  subst this;have hy:=hf y (by simp);rw[List.flatMap_cons,Nat.zero_mul,List.drop_zero,List.take_append_of_le_length (by rw[hy];exact Nat.le_refl _),List.take_of_length_le (by rw[hy];exact Nat.le_refl _)]
 |y::ys,hf,j+1,x,h=>by
  have hy:=hf y (by simp);rw[List.flatMap_cons,Nat.succ_mul,Nat.add_comm,←List.drop_drop,List.drop_append_of_le_length (by rw[hy];exact Nat.le_refl _),show (f y).drop sz=[] from List.drop_of_length_le (by rw[hy];exact Nat.le_refl _),List.nil_append];exact flatMap_at ys (fun z hz=>hf z (by simp[hz])) j x (by simpa using h)
theorem flatMap_len:∀ (xs:List α),(∀ x∈xs,(f x).length=sz)→(xs.flatMap f).length=xs.length*sz
 |[],_=>by simp
 |y::ys,hf=>by rw[List.flatMap_cons,List.length_append,hf y (by simp),flatMap_len ys (fun z hz=>hf z (by simp[hz])),List.length_cons,Nat.succ_mul];omega
theorem SlT.of_block {w:World} {g T c:Nat} {cs:List Value} {xs:List α} (hf:∀ x∈xs,(f x).length=sz) (h:Lc w g T cs) (hx:cs.take (xs.length*sz)=xs.flatMap f) (hc:xs.length≤c):SlT sz f w (.slice (some ⟨g,0,none⟩) xs.length c) xs:=by
 refine⟨_,_,_,rfl,rfl,hc,fun j x hj=>⟨g,0,rfl,h.lt,?_⟩⟩;refine h.range ?_;have h1:=flatMap_at xs hf j x hj;have hjl:=(List.getElem?_eq_some_iff.1 hj).1;rw[←hx,List.drop_take,List.take_take] at h1;rw[Nat.zero_add,hf x (List.mem_of_getElem? hj)]
 have h2:min sz (xs.length*sz-j*sz)=sz:=by
  have:(j+1)*sz≤xs.length*sz:=Nat.mul_le_mul_right _ hjl;rw[Nat.succ_mul] at this;omega
 rwa [h2] at h1
theorem SlT.of_owns {w:World} {base E:Nat} {v:Value} {xs:List α} (hf:∀ x∈xs,(f x).length=sz) (h:w.ownsRow base E sz v xs.length (xs.flatMap f)):SlT sz f w v xs:=by
 obtain⟨_,⟨rfl,hn⟩|⟨g,cap,cur,rfl,_,hg,hle,_,_,ht⟩⟩:=h
 ·have:xs=[]:=List.length_eq_zero_iff.1 hn;subst this;exact SlT.nil w
 ·exact SlT.of_block (cs:=cur.toList) hf (by rw[Lc];simpa using hg) ht hle
end
theorem ownsT_ext {w w':World} {base E n sz:Nat} {v:Value} {xs:List Value} (h:w.ownsRow base E sz v n xs) (hx:Ext w w'):w'.ownsRow base E sz v n xs:=by
 obtain⟨h1,h2⟩:=h;rcases h2 with ⟨rfl,rfl⟩|⟨g,cap,cur,rfl,hb,hg,a,b,c,ht⟩
 ·exact⟨h1,.inl ⟨rfl,rfl⟩⟩
 ·exact⟨h1,.inr ⟨g,cap,cur,rfl,hb,ext_heap hx hg,a,b,c,ht⟩⟩
theorem ownsT_block {w:World} {base E n sz:Nat} {v:Value} {xs:List Value} (h:w.ownsRow base E sz v n xs):∀ k,v.ownBlock=some k→base≤k:=by
 intro k hk;obtain⟨_,h2⟩:=h;rcases h2 with ⟨rfl,_⟩|⟨g,cap,cur,rfl,hb,_⟩
 ·cases hk
 ·have:g=k:=by simpa[Value.ownBlock] using hk
  omega
theorem ownsT_nil (w:World) (base E sz:Nat):w.ownsRow base E sz (.slice none 0 0) 0 []:=⟨by simp,.inl ⟨rfl,rfl⟩⟩
theorem ownsT_keep {w w':World} {base E n sz:Nat} {v:Value} {xs:List Value} (h:w.ownsRow base E sz v n xs) (hk:∀ k,v.ownBlock=some k→w'.heap[k]?=w.heap[k]?):w'.ownsRow base E sz v n xs:=by
 obtain⟨h1,h2⟩:=h;rcases h2 with ⟨rfl,rfl⟩|⟨g,cap,cur,rfl,hb,hg,a,b,c,ht⟩
 ·exact⟨h1,.inl ⟨rfl,rfl⟩⟩
 ·exact⟨h1,.inr ⟨g,cap,cur,rfl,hb,(hk g rfl).trans hg,a,b,c,ht⟩⟩
end Go.Proofs.YtfecopfofkdnpaaGreat
