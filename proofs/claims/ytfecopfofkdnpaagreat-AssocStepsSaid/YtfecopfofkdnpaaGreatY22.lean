/- Texts of this proof, put together: Pl30e, St, Any, Hn1. -/
import Derived.Test.YtfecopfofkdnpaaGreatY21
import Derived.Test.YtfecopfofkdnpaaGreatY9
import Derived.RegionTactic
import Derived.Test.YtfecopfofkdnpaaGreatY1
namespace Go.Proofs.YtfecopfofkdnpaaGreat
open Go.RowKit Tryz
def Kept (l:List En) (e:En):Prop:=∃ was,lookF l e.addr=some was∧was.state=2∧was.aid=e.aid
def L6 (l:List En):Prop:=∀ e∈l,e.addr.length=6
theorem L6.put {l:List En} {s:En} (h:L6 l) (hs:s.addr.length=6):L6 (putF l s):=fun e he=>by
 rcases mem_put.1 he with rfl|⟨he,_⟩
 ·exact hs
 ·exact h e he
theorem L6.sub {l l':List En} (h:L6 l) (hs:List.Sublist l' l):L6 l':=fun e he=>h e (hs.subset he)
theorem kept_self {a:As} {l:List En} (h:OkL a l) {e:En} (he:e∈l) (h2:e.state=2):Kept l e:=⟨e,look_mem h.sorted he,h2,rfl⟩
theorem put_len_some {a:As} {l:List En} (h:OkL a l) {s w:En} (hw:lookF l s.addr=some w):(putF l s).length=l.length:=by
 rw[put_len,del_len h.sorted hw]
theorem put_mem_some {a:As} {l:List En} (h:OkL a l) {s w:En} (hw:lookF l s.addr=some w):membersF (putF l s)+(if w.state=2 then 1 else 0)=membersF l+(if s.state=2 then 1 else 0):=by
 have h1:=put_members l s;have h2:=del_members h.sorted hw;omega
theorem put_mem_none {l:List En} (hl:L6 l) {s:En} (hs:s.addr.length=6) (hw:lookF l s.addr=none):membersF (putF l s)=membersF l+(if s.state=2 then 1 else 0):=by
 rw[put_members,del_none hl hs hw]
theorem put_len_none {l:List En} (hl:L6 l) {s:En} (hs:s.addr.length=6) (hw:lookF l s.addr=none):(putF l s).length=l.length+1:=by
 rw[put_len,del_none hl hs hw]
theorem ok_same {a:As} {l:List En} (h:OkL a l) {s w:En} (hw:lookF l s.addr=some w) (hE:entF s=true) (hst:s.state=2→w.state=2∧w.aid=s.aid):OkL a (putF l s):=by
 obtain⟨h1,h2⟩:=look_some hw;refine ok_put h hE ?_ ?_ ?_ ?_
 ·rw[←h2];exact h.own w h1
 ·rw[put_len_some h hw];exact ok_len h
 ·intro q e he hne q2 hid;obtain⟨q3,q4⟩:=hst q;have:=h.uniq e he w h1 q2 q3 (by rw[q4];exact hid);apply hne;rw[this,h2]
 ·have h3:=put_mem_some h hw;have h4:=h.mem;by_cases c:s.state=2
  ·rw[if_pos c,if_pos (hst c).1] at h3;omega
  ·rw[if_neg c] at h3;omega
theorem moment_iff {t:Int}:momentF t=true↔0≤t∧t≤1099511627776:=by simp[momentF,inF]
theorem ent_seen {e:En} (h:entF e=true) (t:Int) (ht:momentF t=true):entF { e with seen:=t }=true:=by
 unfold entF at h ⊢;rw[moment_iff] at ht;simp only[Bool.and_eq_true] at h ⊢;refine⟨⟨h.1.1,by simp[inF,ht]⟩,h.2⟩
theorem ent_seen_range {e:En} (h:entF e=true):momentF e.seen=true:=by
 unfold entF at h;simp only[Bool.and_eq_true] at h;exact h.1.2
theorem moment_max {s t:Int} (h1:momentF s=true) (h2:momentF t=true):momentF (max s t)=true:=by
 rw[moment_iff] at h1 h2 ⊢;omega
theorem ent_group {e:En} (h:entF e=true):groupF e.addr=false:=by
 unfold entF at h;simp only[Bool.and_eq_true,Bool.not_eq_true'] at h;exact h.1.1
theorem ent_auth {t:List (BitVec 8)} {s:Int} (hg:groupF t=false) (hm:momentF s=true):entF ⟨t,1,0,0,0,s⟩=true:=by
 rw[moment_iff] at hm;simp[entF,hg,inF,hm]
theorem ent_assoc {t:List (BitVec 8)} {s i ca li:Int} (hg:groupF t=false) (hm:momentF s=true) (hi:1≤i∧i≤255) (hc:0≤ca∧ca≤65535) (hl:0≤li∧li≤65535):entF ⟨t,2,i,ca,li,s⟩=true:=by
 rw[moment_iff] at hm;simp[entF,hg,inF,hm,hi,hc,hl]
structure Snd (a:As) (t:List (BitVec 8)):Prop where
 len:t.length=6
 grp:groupF t=false
 own:t≠a.own
theorem seen_none {l:List En} {t:List (BitVec 8)} {now:Int} (h:lookF l t=none):seenF l t now=l:=by unfold seenF;rw[h]
theorem seen_some {l:List En} {t:List (BitVec 8)} {now:Int} {w:En} (h:lookF l t=some w):seenF l t now=putF l { w with seen:=max w.seen now }:=by unfold seenF;rw[h]
theorem seen_ok {a:As} {l:List En} (h:OkL a l) {t:List (BitVec 8)} {now:Int} (hn:momentF now=true):OkL a (seenF l t now):=by
 cases hc:lookF l t with
 |none=>rw[seen_none hc];exact h
 |some w =>
  obtain⟨h1,h2⟩:=look_some hc;rw[seen_some hc];have he:=h.ent w h1;refine ok_same h (w:=w) (by rw[show ({ w with seen:=max w.seen now }:En).addr=w.addr from rfl,h2];exact hc) (ent_seen he _ (moment_max (ent_seen_range he) hn)) (fun q=>⟨q,rfl⟩)
theorem seen_l6 {l:List En} (h:L6 l) {t:List (BitVec 8)} {now:Int}:L6 (seenF l t now):=by
 cases hc:lookF l t with
 |none=>rw[seen_none hc];exact h
 |some w=>rw[seen_some hc];exact h.put (by exact h w (look_some hc).1)
theorem look_seen {a:As} {l:List En} (h:OkL a l) (hl:L6 l) {t u:List (BitVec 8)} (hu:u.length=6) {now:Int}:lookF (seenF l t now) u=if u=t then (lookF l t).map (fun w=>{ w with seen:=max w.seen now }) else lookF l u:=by
 cases hc:lookF l t with
 |none =>
  rw[seen_none hc];by_cases c:u=t
  ·rw[if_pos c,c,hc];rfl
  ·rw[if_neg c]
 |some w =>
  obtain⟨h1,h2⟩:=look_some hc;rw[seen_some hc,look_put h.sorted hl (by exact hl w h1) hu]
  show (if u=w.addr then _ else _)=_
  by_cases c:u=t
  ·rw[if_pos (c.trans h2.symm),if_pos c];rfl
  ·rw[if_neg (fun q=>c (q.trans h2)),if_neg c]
theorem seen_kept {a:As} {l:List En} (h:OkL a l) (_:L6 l) {t:List (BitVec 8)} {now:Int} {e:En} (he:e∈seenF l t now) (h2:e.state=2):Kept l e:=by
 cases hc:lookF l t with
 |none=>rw[seen_none hc] at he;exact kept_self h he h2
 |some w =>
  obtain⟨h1,h3⟩:=look_some hc;rw[seen_some hc] at he;rcases mem_put.1 he with rfl|⟨he,_⟩
  ·exact⟨w,by rw[show ({ w with seen:=max w.seen now }:En).addr=w.addr from rfl,h3];exact hc,h2,rfl⟩
  ·exact kept_self h he h2
theorem look_len {l:List En} (hl:L6 l) {t:List (BitVec 8)} {w:En} (h:lookF l t=some w):t.length=6:=by
 obtain⟨h1,h2⟩:=look_some h;rw[←h2];exact hl w h1
structure StepOk (a:As) (l:List En) (r:Rs) (ans:En→Prop):Prop where
 ok:OkL a r.1
 l6:L6 r.1
 kept:∀ e∈r.1,e.state=2→Kept l e∨((∀ w,lookF l e.addr=some w→w.state≠2)∧ans e)
theorem auth_ok {a:As} {l:List En} (h:OkL a l) (hl:L6 l) {hd:Hd} (hs:Snd a hd.a2) {b:List (BitVec 8)} {now:Int} (hn:momentF now=true) (he:(authF dA a l hd b now).2.2=0):OkL a (authF dA a l hd b now).1∧L6 (authF dA a l hd b now).1∧∀ e∈(authF dA a l hd b now).1,e.state=2→e∈l:=by
 unfold authF at he ⊢;cases hd0:dA b with
 |none=>rw[hd0] at he;cases he
 |some p =>
  obtain⟨al,st⟩:=p;dsimp only;by_cases c:authStat l hd.a2 al st=0
  ·rw[if_pos c];refine⟨?_,hl.put hs.len,fun e he h2=>?_⟩
   ·cases hc:lookF l hd.a2 with
    |some w=>exact ok_same h (w:=w) hc (ent_auth hs.grp hn) (fun q=>by cases q)
    |none =>
     have hlen:l.length≠64:=fun q=>by
      unfold authStat at c
      split at c
      ·cases c
      ·split at c
       ·cases c
       ·rw[hc,q] at c;simp at c
     refine ok_put h (ent_auth hs.grp hn) hs.own ?_ (fun q=>by cases q) ?_
     ·have:=put_len_none (s:=freshE hd.a2 now) hl hs.len hc;have:=ok_len h;omega
     ·have:=put_mem_none (s:=freshE hd.a2 now) hl hs.len hc;rw[if_neg (by unfold freshE;simp)] at this;have:=h.mem;omega
   ·rcases mem_put.1 he with rfl|⟨he,_⟩
    ·cases h2
    ·exact he
  ·rw[if_neg c];exact⟨h,hl,fun e he _=>he⟩
theorem free_range {a:As} {l:List En} (h:OkL a l):1≤freeF l∧freeF l≤255∧∀ e∈l,e.aid≠freeF l:=by
 obtain⟨k,e,h1,h2,h3,_⟩:=free_spec l;have:=ok_len h;rw[e];refine⟨by omega,by omega,fun x hx q=>?_⟩;have:heldBy l k=true:=List.any_eq_true.2 ⟨x,hx,by simp[q]⟩;rw[h1] at this;cases this
theorem join_ok {a:As} {l:List En} (h:OkL a l) (hl:L6 l) {hd:Hd} {b:List (BitVec 8)} (he:(joinF dJ a l hd b).2.2=0) :
  StepOk a l (joinF dJ a l hd b) fun e=>e.addr=hd.a2∧(joinF dJ a l hd b).2.1=[(msgH a hd.a2 (hd.sub+1),respB a 0 e.aid)]:=by
 unfold joinF at he ⊢;cases hd0:dJ (hd.sub==2) b with
 |none=>rw[hd0] at he;cases he
 |some p =>
  obtain⟨ca,li⟩:=p;have hr:=dJ_range hd0;dsimp only;cases hc:lookF l hd.a2 with
  |none=>exact⟨h,hl,fun e he h2=>.inl (kept_self h he h2)⟩
  |some s =>
   dsimp only;obtain⟨h1,h2⟩:=look_some hc;have hE:=h.ent s h1;by_cases c:joinStat a l s ca=0
   ·rw[if_pos c];have hg:groupF s.addr=false:=ent_group hE;have hfr:=free_range h;have hc2:lookF l s.addr=some s:=by rw[h2];exact hc
    refine⟨?_,hl.put (by exact hl s h1),fun e he h3=>?_⟩
    ·by_cases q:s.state=2
     ·have ha:=ent_cases hE;refine ok_same (s:=⟨s.addr,2,joinAid l s,ca,li,s.seen⟩) h (w:=s) hc2 (ent_assoc hg (ent_seen_range hE) ?_ ⟨hr.1,hr.2.1⟩ ⟨hr.2.2.1,hr.2.2.2⟩) (fun _=>⟨q,by show s.aid=joinAid l s;rw[joinAid,if_pos q]⟩);rw[joinAid,if_pos q];omega
     ·have hj:joinAid l s=freeF l:=if_neg q;refine ok_put h (ent_assoc hg (ent_seen_range hE) (by rw[hj];exact⟨hfr.1,hfr.2.1⟩) ⟨hr.1,hr.2.1⟩ ⟨hr.2.2.1,hr.2.2.2⟩) (h.own s h1) ?_ ?_ ?_
      ·rw[put_len_some (s:=⟨s.addr,2,joinAid l s,ca,li,s.seen⟩) h hc2];exact ok_len h
      ·intro _ e he _ _
       show e.aid≠joinAid l s
       rw[hj];exact hfr.2.2 e he
      ·have h4:=put_mem_some (s:=⟨s.addr,2,joinAid l s,ca,li,s.seen⟩) h hc2;rw[if_neg q,if_pos rfl] at h4;unfold joinStat at c
       split at c
       ·cases c
       ·split at c
        ·cases c
        ·rename_i q2
         have:¬ a.limit≤(membersF l:Int):=by
          intro q3;apply q2;simp[q,q3]
         omega
    ·rcases mem_put.1 he with rfl|⟨he,_⟩
     ·by_cases q:s.state=2
      ·exact .inl ⟨s,hc2,q,by show s.aid=joinAid l s;rw[joinAid,if_pos q]⟩
      ·refine .inr ⟨fun w hw=>?_,h2,rfl⟩;have hw:lookF l s.addr=some w:=hw;rw[hc2] at hw;cases hw;exact q
     ·exact .inl (kept_self h he h3)
   ·rw[if_neg c];exact⟨h,hl,fun e he h2=>.inl (kept_self h he h2)⟩
theorem leave_ok {a:As} {l:List En} (h:OkL a l) (hl:L6 l) {hd:Hd} {b:List (BitVec 8)} (he:(leaveF dL l hd b).2.2=0):OkL a (leaveF dL l hd b).1∧L6 (leaveF dL l hd b).1∧∀ e∈(leaveF dL l hd b).1,e.state=2→e∈l:=by
 unfold leaveF at he ⊢;by_cases c0:dL b=true
 ·rw[if_pos c0] at he ⊢;cases hc:lookF l hd.a2 with
  |none=>exact⟨h,hl,fun e he _=>he⟩
  |some s =>
   dsimp only;obtain⟨h1,h2⟩:=look_some hc;have hE:=h.ent s h1
   split
   ·exact⟨ok_sub h (del_sub _ _),hl.sub (del_sub _ _),fun e he _=>(del_sub _ _).subset he⟩
   ·refine⟨ok_same (s:=⟨s.addr,1,0,0,0,s.seen⟩) h (w:=s) (by rw[h2];exact hc) (ent_auth (ent_group hE) (ent_seen_range hE)) (fun q=>by cases q),hl.put (by exact hl s h1),fun e he q=>?_⟩;rcases mem_put.1 he with rfl|⟨he,_⟩
    ·cases q
    ·exact he
 ·rw[if_neg c0] at he;cases he
theorem data_list (a:As) (l:List En) (hd:Hd):(dataF a l hd).1=l:=by
 unfold dataF;cases lookF l hd.a2 with
 |none=>rfl
 |some s=>dsimp only;split <;> rfl
theorem handle_cases (a:As) (l:List En) (hd:Hd) (b:List (BitVec 8)) (now:Int) (he:(handleF dA dJ dL a l hd b now).2.2=0) :
  validA a l=true∧momentF now=true∧validH hd=true∧((addrF a hd=false∧handleF dA dJ dL a l hd b now=(l,[],0)) ∨
   (addrF a hd=true∧hd.kind=0∧handleF dA dJ dL a l hd b now=manageF dA dJ dL a (seenF l hd.a2 now) hd b now)∨(addrF a hd=true∧hd.kind=2∧handleF dA dJ dL a l hd b now=dataF a (seenF l hd.a2 now) hd)):=by
 unfold handleF at he ⊢;cases h1:validA a l with
 |false=>rw[h1] at he;cases he
 |true =>
  cases h2:momentF now with
  |false=>rw[h1,h2] at he;cases he
  |true =>
   cases h3:validH hd with
   |false=>rw[h1,h2,h3] at he;cases he
   |true =>
    refine⟨rfl,rfl,rfl,?_⟩;cases h4:addrF a hd with
    |false=>exact .inl ⟨rfl,rfl⟩
    |true =>
     by_cases c:hd.kind=0
     ·exact .inr (.inl ⟨rfl,c,by simp[c]⟩)
     ·refine .inr (.inr ⟨rfl,?_,by simp[c]⟩);simp only[addrF,Bool.and_eq_true,Bool.or_eq_true,beq_iff_eq] at h4;rcases h4.2 with q|q
      ·exact absurd q.1 c
      ·exact q.1.1
theorem snd_of {a:As} {hd:Hd} (ok:hd.Ok) (hv:validH hd=true) (ha:addrF a hd=true):Snd a hd.a2:=by
 refine⟨ok.l2,?_,?_⟩
 ·simp only[validH,groupsF,Bool.and_eq_true,Bool.not_eq_true'] at hv;exact hv.1.2.1
 ·simp only[addrF,Bool.and_eq_true,bne_iff_ne] at ha;exact ha.1.2
def Gives (a:As) (hd:Hd) (outs:List Fm) (e:En):Prop:=e.addr=hd.a2∧∃ sub,outs=[(msgH a hd.a2 sub,respB a 0 e.aid)]
theorem manage_ok {a:As} {l:List En} (h:OkL a l) (hl:L6 l) {hd:Hd} (hs:Snd a hd.a2) {b:List (BitVec 8)} {now:Int} (hn:momentF now=true) (he:(manageF dA dJ dL a l hd b now).2.2=0):StepOk a l (manageF dA dJ dL a l hd b now) (Gives a hd (manageF dA dJ dL a l hd b now).2.1):=by
 unfold manageF at he ⊢
 split at he
 ·rename_i c
  rw[if_pos c];obtain⟨h1,h2,h3⟩:=auth_ok h hl hs hn he;exact⟨h1,h2,fun e he q=>.inl (kept_self h (h3 e he q) q)⟩
 ·rename_i c
  rw[if_neg c]
  split at he
  ·rename_i c2
   rw[if_pos c2];obtain⟨h1,h2,h3⟩:=join_ok h hl he;exact⟨h1,h2,fun e he q=>(h3 e he q).imp id fun ⟨p1,p2,p3⟩=>⟨p1,p2,_,p3⟩⟩
  ·rename_i c2
   rw[if_neg c2]
   split at he
   ·rename_i c3
    rw[if_pos c3];obtain⟨h1,h2,h3⟩:=leave_ok h hl he;exact⟨h1,h2,fun e he q=>.inl (kept_self h (h3 e he q) q)⟩
   ·rename_i c3
    rw[if_neg c3];exact⟨h,hl,fun e he q=>.inl (kept_self h he q)⟩
theorem handle_ok {a:As} {l:List En} (h:OkL a l) (hl:L6 l) {hd:Hd} (ok:hd.Ok) {b:List (BitVec 8)} {now:Int} (he:(handleF dA dJ dL a l hd b now).2.2=0):StepOk a l (handleF dA dJ dL a l hd b now) (Gives a hd (handleF dA dJ dL a l hd b now).2.1):=by
 obtain⟨_,hn,hv,c|⟨ha,_,c⟩|⟨ha,_,c⟩⟩:=handle_cases a l hd b now he
 ·rw[c.2];exact⟨h,hl,fun e he q=>.inl (kept_self h he q)⟩
 ·rw[c] at he ⊢;obtain⟨h1,h2,h3⟩:=manage_ok (seen_ok h hn) (seen_l6 hl) (snd_of ok hv ha) hn he;refine⟨h1,h2,fun e he q=>?_⟩;rcases h3 e he q with ⟨w,w1,w2,w3⟩|⟨w1,w2⟩
  ·obtain⟨p1,p2⟩:=look_some w1;obtain⟨x,x1,x2,x3⟩:=seen_kept h hl p1 w2;rw[p2] at x1;exact .inl ⟨x,x1,x2,by rw[x3,w3]⟩
  ·refine .inr ⟨fun w hw q2=>?_,w2⟩;have h6:e.addr.length=6:=h2 e he;have hk:=look_seen (now:=now) (t:=hd.a2) h hl h6;by_cases c3:e.addr=hd.a2
   ·rw[if_pos c3,←c3,hw] at hk;exact w1 { w with seen:=max w.seen now } (by rw[←c3];exact hk) q2
   ·rw[if_neg c3,hw] at hk;exact w1 _ hk q2
 ·rw[c];refine⟨?_,?_,?_⟩
  ·rw[data_list];exact seen_ok h hn
  ·rw[data_list];exact seen_l6 hl
  ·rw[data_list];exact fun e he q=>.inl (seen_kept h hl he q)
theorem tick_ok {a:As} {l:List En} (h:OkL a l) (hl:L6 l) {now:Int} (he:(tickF a l now).2.2=0):(tickF a l now).1=l.filter (fun s=>!goneE a now s)∧StepOk a l (tickF a l now) fun _=>False:=by
 unfold tickF at he ⊢
 split at he
 ·cases he
 ·rename_i c1
  split at he
  ·cases he
  ·rename_i c2
   rw[if_neg c1,if_neg c2];exact⟨rfl,ok_sub h List.filter_sublist,hl.sub List.filter_sublist,fun e he q=>.inl (kept_self h ((List.filter_sublist).subset he) q)⟩
theorem remove_ok {a:As} {l:List En} (h:OkL a l) (hl:L6 l) {t:List (BitVec 8)} (he:(removeF a l t).2.2=0):(removeF a l t).1=delF l t∧StepOk a l (removeF a l t) fun _=>False:=by
 unfold removeF at he ⊢
 split at he
 ·cases he
 ·rename_i c1
  split at he
  ·cases he
  ·rename_i c2
   rw[if_neg c1,if_neg c2];exact⟨rfl,ok_sub h (del_sub _ _),hl.sub (del_sub _ _),fun e he q=>.inl (kept_self h ((del_sub _ _).subset he) q)⟩
theorem admit_ok {a:As} {l:List En} (h:OkL a l) (hl:L6 l) {t:List (BitVec 8)} (ht:t.length=6) {now:Int} (he:(admitF a l t now).2.2=0):(admitF a l t now).1=putF l (freshE t now)∧(admitF a l t now).2.1=[]∧StepOk a l (admitF a l t now) fun _=>False:=by
 unfold admitF at he ⊢
 split at he
 ·cases he
 ·rename_i c1
  split at he
  ·cases he
  ·rename_i c2
   split at he
   ·cases he
   ·rename_i c3
    rw[if_neg c1,if_neg c2,if_neg c3];simp only[Bool.or_eq_true,not_or,Bool.not_eq_true,beq_eq_false_iff_ne,Bool.not_eq_false'] at c2;obtain⟨⟨g1,g2⟩,g3⟩:=c2;refine⟨rfl,rfl,?_,hl.put ht,fun e he q=>?_⟩
    ·cases hc:lookF l t with
     |some w=>exact ok_same h (w:=w) hc (ent_auth g1 g3) (fun q=>by cases q)
     |none =>
      have hlen:l.length≠64:=fun q=>by rw[hc,q] at c3;simp at c3
      refine ok_put h (ent_auth g1 g3) g2 ?_ (fun q=>by cases q) ?_
      ·have:=put_len_none (s:=freshE t now) hl ht hc;have:=ok_len h;omega
      ·have:=put_mem_none (s:=freshE t now) hl ht hc;rw[if_neg (by unfold freshE;simp)] at this;have:=h.mem;omega
    ·rcases mem_put.1 he with rfl|⟨he,_⟩
     ·cases q
     ·exact .inl (kept_self h he q)
theorem OwE.of {B:Nat} {w:World} {g c n:Nat} {l:List En} {cs:List Value} (hl:∀ x∈l,x.addr.length=6) (h:Lc w g 45 cs) (hb:B≤g) (hnl:n=l.length) (hn:n≤c) (hm:c≤maxLen) (hz:cs.length=c*11) (ht:cs.take (l.length*11)=l.flatMap cellsE):OwE B w (.slice (some ⟨g,0,none⟩) n c) l:=by
 subst hnl;exact⟨flatE_len hl,.inr ⟨g,c,cs.toArray,rfl,hb,h,hn,hm,by simpa using hz,by simpa using ht⟩⟩
def TB (B:Nat) (ad:Option Addr) (n c:Nat) (t:List Bk) (l:List En):Prop:=
 (l=[]∧t=[]∧ad=none∧n=0∧c=0)∨∃ b zs,ad=some ⟨b,0,none⟩∧t=[(b,45,l.flatMap cellsE++zs)]∧B≤b∧n=l.length∧n≤c∧c≤maxLen∧(l.flatMap cellsE++zs).length=c*11
theorem TB.len {B:Nat} {ad:Option Addr} {n c:Nat} {t:List Bk} {l:List En} (h:TB B ad n c t l):n=l.length:=by
 rcases h with ⟨rfl,_,_,rfl,_⟩|⟨_,_,_,_,_,h,_⟩
 ·rfl
 ·exact h
theorem TB.own {B:Nat} {ad:Option Addr} {n c:Nat} {t:List Bk} {l:List En} (h:TB B ad n c t l) (hl:L6 l) {w0 w:World} (H:Loc w0 w t):OwE B w (.slice ad n c) l:=by
 rcases h with ⟨rfl,_,rfl,rfl,rfl⟩|⟨b,zs,rfl,rfl,hb,h1,h2,h3,h4⟩
 ·exact OwE.nil B w
 ·exact OwE.of hl (H.at 0 rfl) hb h1 h2 h3 h4 (by rw[←flatE_len hl,List.take_left])
theorem TB.slt {B:Nat} {ad:Option Addr} {n c:Nat} {t:List Bk} {l:List En} (h:TB B ad n c t l) (hl:L6 l) {w0 w:World} (H:Loc w0 w t):SlT 11 cellsE w (.slice ad n c) l:=(h.own hl H).slt hl
theorem TB.sep {B:Nat} {ad:Option Addr} {n c:Nat} {t:List Bk} {l:List En} (h:TB B ad n c t l) {w0 w:World} {bs:List Bk} (H:Loc w0 w (t++bs)):∀ z∈bs.map (·.1),(Value.slice ad n c).ownBlock≠some z:=by
 rcases h with ⟨_,_,rfl,_,_⟩|⟨b,zs,rfl,rfl,_⟩
 ·intro z _ e;cases e
 ·intro z hz e;have e:b=z:=by simpa[Value.ownBlock] using e
  subst e;exact (List.nodup_cons.1 H.2.1).1 hz
theorem TB.ofOwn {B:Nat} {ad:Option Addr} {n c:Nat} {l:List En} {w:World} (h:OwE B w (.slice ad n c) l):∃ t,TB B ad n c t l∧∀ w0 bs,w0.heap.size≤B→Loc w0 w bs→(∀ z∈bs.map (·.1),(Value.slice ad n c).ownBlock≠some z)→Loc w0 w (t++bs):=by
 obtain⟨h1,⟨h2,h3⟩|⟨g,cap,cur,h2,hb,hg,a,b,k,ht⟩⟩:=h
 ·cases h2
  have:l=[]:=List.length_eq_zero_iff.1 h3;exact⟨[],.inl ⟨this,rfl,rfl,rfl,rfl⟩,fun _ _ _ H _=>H⟩
 ·cases h2
  have hcur:cur.toList=l.flatMap cellsE++cur.toList.drop (l.length*11):=by
   conv=>lhs;rw[←List.take_append_drop (l.length*11) cur.toList,ht]
  refine⟨[(g,45,cur.toList)],.inr ⟨g,cur.toList.drop (l.length*11),rfl,by rw[←hcur],hb,rfl,a,b,by rw[←hcur,Array.length_toList];exact k⟩,fun w0 bs hB H hs=>⟨H.1,?_,fun q hq=>?_⟩⟩
  ·rw[List.cons_append,List.nil_append,List.map_cons,List.nodup_cons];exact⟨fun hm=>hs g hm rfl,H.2.1⟩
  ·rcases List.mem_cons.1 hq with rfl|hq
   ·exact⟨Nat.le_trans hB hb,by show w.heap[g]?=some (.cells cur.toList.toArray 45 (0,0));rw[Array.toArray_toList];exact hg⟩
   ·exact H.2.2 q hq
def St (B:Nat) (w0 w:World) (g:Nat) (a:As) (ha:a.own.length=6) (l:List En) (rest:List Bk):Prop:=
 ∃ ad n c t,TB B ad n c t l∧Loc w0 w ((g,26,cat (partsA a ha ad n c))::(t++rest))
theorem St.mk {B:Nat} {w0 w:World} {g:Nat} {a:As} {ha:a.own.length=6} {l:List En} {rest bs:List Bk} {ad:Option Addr} {n c:Nat} {t:List Bk} (ht:TB B ad n c t l) (H:Loc w0 w bs) (hs:List.Sublist ((g,26,cat (partsA a ha ad n c))::(t++rest)) bs):St B w0 w g a ha l rest:=⟨ad,n,c,t,ht,H.sub hs⟩
theorem St.ofOwn {B:Nat} {w0 w:World} {g:Nat} {a:As} {ha:a.own.length=6} {l:List En} {rest bs:List Bk} {ad:Option Addr} {n c:Nat} (ho:OwE B w (.slice ad n c) l) (hB:w0.heap.size≤B) (H:Loc w0 w bs) (hsep:∀ z∈bs.map (·.1),(Value.slice ad n c).ownBlock≠some z) (hs:List.Sublist ((g,26,cat (partsA a ha ad n c))::rest) bs):St B w0 w g a ha l rest:=by
 obtain⟨t,ht,h⟩:=TB.ofOwn ho;have h2:=h w0 _ hB (H.sub hs) fun z hz=>hsep z ((hs.map _).subset hz);exact⟨ad,n,c,t,ht,h2.perm List.perm_middle⟩
theorem St.ext {B:Nat} {w0 w w':World} {g:Nat} {a:As} {ha:a.own.length=6} {l:List En} {rest:List Bk} (h:St B w0 w g a ha l rest) (hx:Ext w w'):St B w0 w' g a ha l rest:=by
 obtain⟨ad,n,c,t,ht,H⟩:=h;exact⟨ad,n,c,t,ht,H.ext hx⟩
def FrS (B:Nat) (outs:List Fm) (v:Value) (w:World):Prop:=
 ∃ vs:List Value,vs.length=outs.length∧w.ownsRow B 31 41 v (outs.zip vs).length ((outs.zip vs).flatMap fun p=>cellsF p.1.1 p.2)∧∀ p∈outs.zip vs,OwB B w p.2 p.1.2
theorem FrS.nil (B:Nat) (w:World):FrS B [] (.slice none 0 0) w:=⟨[],rfl,ownsT_nil w B _ 41,fun p hp=>by cases hp⟩
theorem FrS.ext {B:Nat} {outs:List Fm} {v:Value} {w w':World} (h:FrS B outs v w) (hx:Ext w w'):FrS B outs v w':=by
 obtain⟨vs,h1,h2,h3⟩:=h;exact⟨vs,h1,ownsT_ext h2 hx,fun p hp=>owns_ext (h3 p hp) hx⟩
theorem FrS.wrote {B:Nat} {outs:List Fm} {v:Value} {w w':World} {g:Nat} (h:FrS B outs v w) (hw:Wrote w w' g) (hb:g<B):FrS B outs v w':=by
 obtain⟨vs,h1,h2,h3⟩:=h;exact⟨vs,h1,owns_wrote h2 hw hb,fun p hp=>owns_wrote (h3 p hp) hw hb⟩
theorem FrS.weak {B B':Nat} {outs:List Fm} {v:Value} {w:World} (h:FrS B outs v w) (hb:B'≤B):FrS B' outs v w:=by
 obtain⟨vs,h1,h2,h3⟩:=h;exact⟨vs,h1,owns_weak h2 hb,fun p hp=>owns_weak (h3 p hp) hb⟩
theorem FrS.one {B:Nat} {o:Fm} {w:World} {g:Nat} {ad:Option Addr} {n c:Nat} (ok:o.1.Ok) (h:Lc w g 31 (cellsF o.1 (.slice ad n c))) (hb:B≤g) (ho:OwB B w (.slice ad n c) o.2):FrS B [o] (.slice (some ⟨g,0,none⟩) 1 1) w:=by
 refine⟨[.slice ad n c],rfl,?_,fun p hp=>by rw[List.mem_singleton.1 hp];exact ho⟩;have e:(([o].zip [Value.slice ad n c]).flatMap fun p=>cellsF p.1.1 p.2)=cellsF o.1 (.slice ad n c):=by simp
 have hl:=len_F ok (.slice ad n c);rw[e];exact⟨by rw[hl];rfl,.inr ⟨g,1,_,rfl,hb,h,Nat.le_refl _,by decide,by rw[List.size_toArray,hl],List.take_of_length_le (Nat.le_of_eq hl)⟩⟩
theorem cut_ex (t:List (BitVec 8)):∀ {l:List En},l.Pairwise (fun e f=>numF e.addr<numF f.addr)→∃ i,i≤l.length∧(∀ k,k<i→numF (enAt l k).addr<numF t)∧∀ k,i≤k→k<l.length→numF t≤numF (enAt l k).addr
 |[],_=>⟨0,Nat.le_refl _,(fun k hk=>absurd hk (by omega)),fun k _ hk=>absurd hk (by simp)⟩
 |e::l,h=>by
  obtain⟨h1,h2⟩:=List.pairwise_cons.1 h;by_cases c:numF e.addr<numF t
  ·obtain⟨i,a1,a2,a3⟩:=cut_ex t h2;refine⟨i+1,Nat.succ_le_succ a1,fun k hk=>?_,fun k hk hl=>?_⟩
   ·cases k with
    |zero=>exact c
    |succ k=>exact a2 k (by omega)
   ·cases k with
    |zero=>omega
    |succ k=>exact a3 k (by omega) (by simpa using hl)
  ·refine⟨0,Nat.zero_le _,(fun k hk=>absurd hk (by omega)),fun k _ hl=>?_⟩;cases k with
   |zero=>show numF t≤numF e.addr;omega
   |succ k =>
    have hl:k<l.length:=by simpa using hl
    have:=h1 l[k] (List.getElem_mem hl)
    show numF t≤numF (enAt l k).addr
    rw[enAt_get hl];omega
theorem placeP_pl {l:List En} (h:l.Pairwise (fun e f=>numF e.addr<numF f.addr)) (hl:L6 l) {t:List (BitVec 8)} (ht:t.length=6):PlaceP l t (plI l t) (plB l t):=by
 obtain⟨i,a1,a2,a3⟩:=cut_ex t h;have hp:PlaceP l t i (decide (i<l.length)&&decide (numF (enAt l i).addr=numF t)):=⟨a1,rfl,fun _=>⟨a2,a3⟩⟩
 obtain⟨e1,e2⟩:=place_is hp (sorted_of_pair h) hl ht;rw[←e1,←e2];exact hp
theorem pl_found {l:List En} (h:l.Pairwise (fun e f=>numF e.addr<numF f.addr)) (hl:L6 l) {t:List (BitVec 8)} (ht:t.length=6) {e:En} (hc:lookF l t=some e) :
  plI l t<l.length∧l[plI l t]?=some e∧e.addr=t∧(∀ s:En,s.addr=t→putF l s=l.set (plI l t) s)∧delF l t=l.take (plI l t)++l.drop (plI l t+1):=by
 have hp:=placeP_pl h hl ht;have hs:=sorted_of_pair h;rw[show plB l t=true by unfold plB;rw[hc];rfl] at hp;have h1:=look_found hp hs hl ht;rw[if_pos rfl,hc] at h1;have hd:=del_found hp hs;refine⟨hd.2,?_,(look_some hc).2,fun s q=>?_,hd.1⟩
 ·rw[Option.some.inj h1,enAt_get hd.2];simp
 ·subst q;exact (put_found hp hs).1
theorem pl_new {l:List En} (h:l.Pairwise (fun e f=>numF e.addr<numF f.addr)) (hl:L6 l) {t:List (BitVec 8)} (ht:t.length=6) (hc:lookF l t=none):plI l t≤l.length∧∀ s:En,s.addr=t→putF l s=l.take (plI l t)++s::l.drop (plI l t):=by
 have hp:=placeP_pl h hl ht;have hs:=sorted_of_pair h;rw[show plB l t=false by unfold plB;rw[hc];rfl] at hp;exact⟨hp.1,fun s q=>by subst q;exact put_new hp hs⟩
theorem flat_cell {l:List En} (hl:L6 l) {i:Nat} {e:En} (h:l[i]?=some e) (zs:List Value) (k:Nat) (hk:k<11):(l.flatMap cellsE++zs)[i*11+k]?=(cellsE e)[k]?:=by
 have hi:=(List.getElem?_eq_some_iff.1 h).1;have hL:=flatE_len hl;have h1:=flatMap_at (sz:=11) (f:=cellsE) l (fun x hx=>cellsE_len (hl x hx)) i e h;rw[List.getElem?_append_left (by rw[hL];omega),←h1,List.getElem?_take,if_pos hk,List.getElem?_drop]
theorem flat_set {l:List En} (hl:L6 l) {i:Nat} (hi:i<l.length) (s:En) (_:s.addr.length=6) (zs:List Value):(l.flatMap cellsE++zs).take (i*11)++cellsE s++(l.flatMap cellsE++zs).drop (i*11+11)=(l.set i s).flatMap cellsE++zs:=by
 rw[flatE_take hl zs i (by omega),show i*11+11=(i+1)*11 by omega,flatE_drop hl zs (i+1) (by omega),List.set_eq_take_append_cons_drop,if_pos hi];simp[List.flatMap_append]
theorem flat_setc {l:List En} (hl:L6 l) {i:Nat} {e:En} (h:l[i]?=some e) (zs:List Value) (k:Nat) (hk:k<11) (s:En) (hs:s.addr.length=6) (v:Value) (hc:cellsE s=(cellsE e).set k v):(l.flatMap cellsE++zs).set (i*11+k) v=(l.set i s).flatMap cellsE++zs:=by
 have hi:=(List.getElem?_eq_some_iff.1 h).1;rw[←flat_set hl hi s hs zs];have hL:(l.flatMap cellsE++zs).length=l.length*11+zs.length:=by rw[List.length_append,flatE_len hl]
 have hcl:=cellsE_len hs;have hce:=cellsE_len (hl e (List.mem_of_getElem? h));have h9:∀ q,q<11→(l.flatMap cellsE++zs)[i*11+q]?=(cellsE e)[q]?:=fun q hq=>flat_cell hl h zs q hq;generalize l.flatMap cellsE++zs=X at *;refine List.ext_getElem? fun j=>?_;rw[List.getElem?_set];by_cases c1:i*11+k=j
 ·subst c1;rw[if_pos rfl,if_pos (by omega),List.append_assoc,List.getElem?_append_right (by rw[List.length_take];omega),List.getElem?_append_left (by rw[List.length_take,hcl,hL];omega),List.length_take,hL,Nat.min_eq_left (by omega),Nat.add_sub_cancel_left,hc,List.getElem?_set,if_pos rfl,if_pos (by omega)]
 ·rw[if_neg c1];by_cases c2:j<i*11
  ·rw[List.append_assoc,List.getElem?_append_left (by rw[List.length_take,hL];omega),List.getElem?_take,if_pos c2]
  ·by_cases c3:j<i*11+11
   ·have e1:=h9 (j-i*11) (by omega);rw[show i*11+(j-i*11)=j by omega] at e1;rw[e1,List.append_assoc,List.getElem?_append_right (by rw[List.length_take];omega),List.getElem?_append_left (by rw[List.length_take,hcl,hL];omega),List.length_take,hL,Nat.min_eq_left (by omega),hc,List.getElem?_set,if_neg (by omega)]
   ·rw[List.getElem?_append_right (by rw[List.length_append,List.length_take,hcl,hL];omega),List.length_append,List.length_take,hcl,hL,Nat.min_eq_left (by omega),List.getElem?_drop]
    congr 1;omega
theorem TB.set {B:Nat} {n c:Nat} {b:Nat} {zs:List Value} {l:List En} (hl:L6 l) (i:Nat) (s:En) (hs:s.addr.length=6) (hb:B≤b) (hn:n=l.length) (hc:n≤c) (hm:c≤maxLen) (hz:(l.flatMap cellsE++zs).length=c*11):TB B (some ⟨b,0,none⟩) n c [(b,45,(l.set i s).flatMap cellsE++zs)] (l.set i s):=by
 refine .inr ⟨b,zs,rfl,rfl,hb,by rw[List.length_set];exact hn,hc,hm,?_⟩
 have h1:L6 (l.set i s):=fun x hx=>by
  rcases List.mem_or_eq_of_mem_set hx with h|rfl
  ·exact hl x h
  ·exact hs
 rw[List.length_append,flatE_len h1,List.length_set];rw[List.length_append,flatE_len hl] at hz;exact hz
def thenQ (K:Act→World→Prop) (Q:Exit→Act→World→Prop):Exit→Act→World→Prop
 |.normal,a,w=>K a w
 |e,a,w=>Q e a w
section
variable {P:Program} {ops:Array Oper} {Q:Exit→Act→World→Prop} {md:Region.Mode}
theorem wp_thenQ {o:Oper} {a:Act} {w:World} {K:Act→World→Prop} (h:o.wp P a w (wpList P ops (thenQ K Q) []) (thenQ K Q)):o.wp P a w K Q:=by
 unfold Oper.wp at *;generalize (execOp a.eval o).run P w=r at *;cases r with
 |ok n w' =>
  cases n <;> simp only[Oper.upon] at h ⊢ <;>
   first
    |exact h
    |exact Calls.mono h (fun e w'' he=>by cases e <;> exact he)
    |exact Rows.mono h (fun _ _ he=>he)
 |halt x w'=>cases x <;> simp only[Oper.upon] at h ⊢ <;> exact h
theorem wpOp_list {i:Nat} {o:Oper} {K:Act→World→Prop} {a:Act} {w:World} (ho:ops[i]?=some o)
  (h:∀ K':Act→World→Prop,(∀ a w,K a w→K' a w)→wpList P ops (thenQ K' Q) [o] a w):wpOp P ops Q i K a w:=by
 have h:=h K (fun _ _ h=>h);unfold wpOp;rw[ho];unfold wpList at h
 show if Region.wanted o (yielded ops a.tmps)=true then _ else _
 split
 ·rename_i hw
  rw[if_pos hw] at h;rcases h with h|⟨h1,a',w',h2⟩
  ·exact .inl (wp_thenQ h)
  ·exact .inr ⟨h1,a',w',h2⟩
 ·rename_i hw
  rw[if_neg hw] at h;exact h
theorem any_one {i:Nat} {o:Oper} {fuel:Nat} {listed:Array Bool} {a:Act} {w:World} (hr:Region.ready md ops listed=[i]) (ho:ops[i]?=some o)
  (h:∀ K:Act→World→Prop,(∀ a w,wpAny P md ops Q fuel (listed.setIfInBounds i true) a w→K a w)→wpList P ops (thenQ K Q) [o] a w):wpAny P md ops Q (fuel+1) listed a w:=
 wpAny_all hr (by simp) fun j hj=>by
  obtain rfl:=List.mem_singleton.1 hj;exact wpOp_list ho h
theorem any_two {i j:Nat} {o p:Oper} {fuel:Nat} {listed:Array Bool} {a:Act} {w:World} (hr:Region.ready md ops listed=[i,j]) (ho:ops[i]?=some o) (hp:ops[j]?=some p)
  (h:∀ K:Act→World→Prop,(∀ a w,wpAny P md ops Q fuel (listed.setIfInBounds i true) a w→K a w)→wpList P ops (thenQ K Q) [o] a w)
  (h2:∀ K:Act→World→Prop,(∀ a w,wpAny P md ops Q fuel (listed.setIfInBounds j true) a w→K a w)→wpList P ops (thenQ K Q) [p] a w):wpAny P md ops Q (fuel+1) listed a w:=
 wpAny_all hr (by simp) fun k hk=>by
  rcases List.mem_cons.1 hk with rfl|hk
  ·exact wpOp_list ho h
  ·obtain rfl:=List.mem_singleton.1 hk;exact wpOp_list hp h2
theorem any_take {i:Nat} {oi:Oper} {v:Value} {d:Tmp} {fuel:Nat} {listed:Array Bool} {a:Act} {w:World} (hi:ops[i]?=some oi) (hd:oi.dst=some d)
  (hs:Region.noSelect ops=true) (hf:Region.free md ops listed i=true) (hr:(Region.ready md ops listed).contains i=true)
  (hQ:∀ c a w,Q (.panic c) (a.put oi.dst v) w→Q (.panic c) a w) (hy:Yields P ops oi v a)
  (h:wpAny P md ops Q fuel (listed.setIfInBounds i true) (a.put (some d) v) w):wpAny P md ops Q (fuel+1) listed a w:=
 wpAny_take hi hs hf hr hQ hy (by rw[hd];exact h)
end
def HndR (B:Nat) (w0 w:World) (g:Nat) (a:As) (ha:a.own.length=6) (r:Rs) (rest:List Bk) (e:Ending) (w':World):Prop:=
 ∃ v l',e=.returned (.tuple #[v,.int .i64 r.2.2])∧St B w0 w' g a ha l' rest∧(r.2.2=0→l'=r.1)∧FrS w.heap.size r.2.1 v w'
theorem cE {e:En} (h:e.addr.length=6):(cellsE e)[6]?=some (.int .u8 e.state)∧(cellsE e)[7]?=some (.int .i64 e.aid)∧(cellsE e)[8]?=some (.int .i64 e.caps)∧(cellsE e)[9]?=some (.int .i64 e.listen)∧(cellsE e)[10]?=some (.int .i64 e.seen):=by
 obtain⟨ad,st,ai,ca,li,se⟩:=e;obtain⟨_,_,_,_,_,_,rfl⟩:=six h;exact⟨rfl,rfl,rfl,rfl,rfl⟩
theorem bs_frame {h:Hd} (k:h.Ok) (ad:Option Addr) (n c:Nat) (w:World):(Instr.buildSlice 36 1 #[(0,.agg (cellsF h (.slice ad n c)).toArray)]).run prog w=.ok (.slice (some ⟨w.heap.size,0,none⟩) 1 1) (w.alloc (.cells (cellsF h (.slice ad n c)).toArray 31)):=by
 obtain⟨_,_,_,_,_,_,h1,h2,h3,h4⟩:=k;obtain⟨ki,su,b1,b2,b3,b4,b5,b6,b7,du,a1,a2,a3,a4,sq,fr,ti,ac,am,eo⟩:=h;obtain⟨_,_,_,_,_,_,rfl⟩:=six h1;obtain⟨_,_,_,_,_,_,rfl⟩:=six h2;obtain⟨_,_,_,_,_,_,rfl⟩:=six h3;obtain⟨_,_,_,_,_,_,rfl⟩:=six h4
 kernel_rfl
theorem fr_cells (h:Hd) (k:h.Ok) (ad:Option Addr) (n c:Nat):cellsF h (.slice ad n c)=cat (partsFr h k ad n c):=cat_Fr h k ad n c
set_option maxRecDepth 4000 in
set_option maxHeartbeats 1600000 in
theorem data_any (a:As) (ha:a.own.length=6) (l:List En) (hl:L6 l) (hn:l.length≤64) (hso:l.Pairwise (fun e f=>numF e.addr<numF f.addr)) (h:Hd) (ok:h.Ok) (fa:Option Addr) (fn fc:Nat) (now:Int) (B:Nat) (g:Nat) (w0 w:World) (rest:List Bk) (hst:St B w0 w g a ha l rest) :
  Calls prog 25 #[.pointer (some ⟨g,0,none⟩),.agg (cellsF h (.slice fa fn fc)).toArray,.int .i64 now] w (HndR B w0 w g a ha (dataF a l h) rest):=by
 obtain⟨ad,n,c,tb,hT,H0⟩:=hst;have H:=kp H0;clear H0;have HT:=kp hT;have hnl:=hT.len;have HPL:=kp (fun W (hW:Loc w0 W tb)=>place_one a ha (.slice ad n c) l hl (by omega) (sorted_of_pair hso) h.a2 ok.l2 W (hT.slt hl hW));have HB0:=fun sub s0 s1 code c0 c1 w=>bye_any a ha (.slice ad n c) h.a2 ok.l2 sub s0 s1 code c0 c1 w;rw[cat_A a ha] at HPL HB0;rw[fr_cells h ok];cases hc:lookF l h.a2 with
 |none =>
  have hb:plB l h.a2=false:=by unfold plB;rw[hc];rfl
  rw[hb] at HPL;have HR:=kp (show dataF a l h=(l,[byeF a h.a2 12 6],0) by unfold dataF;rw[hc]);have HOK:=kp (msg_ok (t:=h.a2) ha ok.l2 (show (0:Int)≤12 by decide) (by decide));have HBY:=kp (fun w=>HB0 12 (by decide) (by decide) 6 (by decide) (by decide) w);have HBF:=kp (fun ad n c w=>bs_frame HOK.out ad n c w);generalize plI l h.a2=i at *;clear hc hb hl hn hso hT HB0 hnl;go_enter func25,ntmps25;generalize h1:Code.region 1 _ _=R1;generalize h3:Code.region 3 _ _=R3;go_wp2_with ((with_reducible refine isBx 4 31 ?_);(refine xBX H 31 (cat (partsFr h ok fa fn fc)) ?_);clear H;intro g4 w4 HGg4 HEg4 H;simp only[pA]);subst h1;refine xRZ H 11 ?_;apply Exists.intro;refine⟨fun xz2=>?_,fun wz2 HXZ H=>?_⟩
  ·simp only[tK];unfold Cx;repeat (first|((with_reducible refine isQl 26 ?_);go_big_quiet_want;(refine xQA H 26 1 underlying26 ?_);simp only[pA];go_big_quiet_on)|((with_reducible refine isQl 23 ?_);go_big_quiet_want;(refine xQV H 23 0 underlying23 ?_);simp only[pA];go_big_quiet_on)|go_big_quiet_step (exact Calls.cx_of (HPL.out _ ((H.out.ext (Ext.more _ _)).sub (by (try simp only[List.cons_append,List.nil_append]);repeat (first|with_reducible exact List.sublist_append_left _ _|with_reducible apply List.Sublist.cons))))))
   exact wpQuiet_nil rfl
  simp only[dR];go_wp2_with fail;subst h3;refine xRZ H 6 ?_;apply Exists.intro;refine⟨fun xz3=>?_,fun wz3 HXZ H=>?_⟩
  ·simp only[tK];unfold Cx;repeat (first|((with_reducible refine isQl 26 ?_);go_big_quiet_want;(refine xQA H 26 1 underlying26 ?_);simp only[pA];go_big_quiet_on)|((with_reducible refine isQl 23 ?_);go_big_quiet_want;(refine xQV H 23 0 underlying23 ?_);simp only[pA];go_big_quiet_on)|go_big_quiet_step (fail))
   exact wpQuiet_nil rfl
  simp only[dR];go_wp2_with (first|(go_at_call 27;have HSZ:=kp (Nat.le_of_lt (H.out.lt 0 rfl));refine (HBY.out _).mono ?_;rintro e wa ⟨bd,bn,bc,rfl,ho,hx⟩;have HOB:=kp ho;clear ho;replace H:=kp (H.out.ext hx);have HXC:=kp hx;clear hx)|((with_reducible refine isBs 30 36 ?_);(refine xBS H 36 1 (#[(0,.agg (cellsF (msgH a h.a2 12) (.slice bd bn bc)).toArray)]) 31 (cellsF (msgH a h.a2 12) (.slice bd bn bc)) (HBF.out bd bn bc) ?_);clear H;intro gf wf HGgf HEgf H;simp only[pA]));go_ret2
  rw[HR.out];exact⟨_,l,rfl,St.mk HT.out H.out (by (try simp only[List.cons_append,List.nil_append]);repeat (first|with_reducible exact List.Sublist.cons_cons _ (List.Sublist.refl _)|with_reducible apply List.Sublist.cons)),fun _=>rfl,by rw[←HGg4.out];exact FrS.one HOK.out (H.out.at 0 rfl) (by have h1:=H.out.at 1 rfl;have h2:=HSZ.out;have h3:=HXC.out.size;have h4:=HGgf.out;omega) (owns_weak (owns_ext HOB.out HEgf.out) HSZ.out)⟩
 |some s =>
  have hb:plB l h.a2=true:=by unfold plB;rw[hc];rfl
  rw[hb] at HPL;have hF:=pl_found hso hl ok.l2 hc;have HCS:=kp (fun zs=>(flat_cell hl hF.2.1 zs 6 (by omega)).trans (cE (hl s (List.mem_of_getElem? hF.2.1))).1);have HIN:=kp hF.1;generalize plI l h.a2=i at *;rcases hT with ⟨rfl,_⟩|⟨b,zs,rfl,rfl,hbb,-,hcap,hm,hz⟩
  ·cases hc
  have hin:i<n:=by rw[hnl];exact HIN.out
  have hn64:n≤64:=by omega
  simp only[List.cons_append,List.nil_append] at H;have HCZ:=kp (HCS.out zs);obtain⟨cs,hcs⟩:∃ cs,cs=l.flatMap cellsE++zs:=⟨_,rfl⟩
  rw[←hcs] at H HPL HCZ HT;by_cases hs2:s.state=2
  ·have HR:=kp (show dataF a l h=(l,[],0) by unfold dataF;rw[hc];simp[hs2]);rw[hs2] at HCZ;clear hc hb hl hn hso HB0 hnl hF HCS hs2 hcs hz hbb hcap hm;go_enter func25,ntmps25;generalize h1:Code.region 1 _ _=R1;generalize h4:Code.region 4 _ _=R4;go_wp2_with ((with_reducible refine isBx 4 31 ?_);(refine xBX H 31 (cat (partsFr h ok fa fn fc)) ?_);clear H;intro g4 w4 HGg4 HEg4 H;simp only[pA]);subst h1;refine xRZ H 11 ?_;apply Exists.intro;refine⟨fun xz5=>?_,fun wz5 HXZ H=>?_⟩
   ·simp only[tK];unfold Cx;repeat (first|((with_reducible refine isQl 26 ?_);go_big_quiet_want;(refine xQA H 26 1 underlying26 ?_);simp only[pA];go_big_quiet_on)|((with_reducible refine isQl 23 ?_);go_big_quiet_want;(refine xQV H 23 0 underlying23 ?_);simp only[pA];go_big_quiet_on)|go_big_quiet_step (exact Calls.cx_of (HPL.out _ ((H.out.ext (Ext.more _ _)).sub (by (try simp only[List.cons_append,List.nil_append]);repeat (first|with_reducible exact List.Sublist.cons_cons _ (List.nil_sublist _)|with_reducible apply List.Sublist.cons))))))
    exact wpQuiet_nil rfl
   simp only[dR];go_wp2_with fail;subst h4;have hcell:=run_load_cell H.out 2 rfl (i*11+6) _ HCZ.out;go_wp2_with ((with_reducible refine isLd 24 ?_);(refine xF1 H 24 1 underlying24 ?_);simp only[pA]);go_ret2
   rw[HR.out];exact⟨_,l,rfl,St.mk HT.out H.out (by (try simp only[List.cons_append,List.nil_append]);repeat (first|with_reducible exact List.Sublist.cons_cons _ (List.Sublist.refl _)|with_reducible apply List.Sublist.cons)),fun _=>rfl,FrS.nil _ _⟩
  ·have HR:=kp (show dataF a l h=(l,[byeF a h.a2 10 7],0) by unfold dataF;rw[hc];simp[hs2]);have HOK:=kp (msg_ok (t:=h.a2) ha ok.l2 (show (0:Int)≤10 by decide) (by decide));have HBY:=kp (fun w=>HB0 10 (by decide) (by decide) 7 (by decide) (by decide) w);have HBF:=kp (fun ad n c w=>bs_frame HOK.out ad n c w);clear hc hb hl hn hso HB0 hnl hF HCS hcs hz hbb hcap hm;go_enter func25,ntmps25;generalize h1:Code.region 1 _ _=R1;generalize h4:Code.region 4 _ _=R4;generalize h5:Code.region 5 _ _=R5;go_wp2_with ((with_reducible refine isBx 4 31 ?_);(refine xBX H 31 (cat (partsFr h ok fa fn fc)) ?_);clear H;intro g4 w4 HGg4 HEg4 H;simp only[pA]);subst h1;refine xRZ H 11 ?_;apply Exists.intro;refine⟨fun xz7=>?_,fun wz7 HXZ H=>?_⟩
   ·simp only[tK];unfold Cx;repeat (first|((with_reducible refine isQl 26 ?_);go_big_quiet_want;(refine xQA H 26 1 underlying26 ?_);simp only[pA];go_big_quiet_on)|((with_reducible refine isQl 23 ?_);go_big_quiet_want;(refine xQV H 23 0 underlying23 ?_);simp only[pA];go_big_quiet_on)|go_big_quiet_step (exact Calls.cx_of (HPL.out _ ((H.out.ext (Ext.more _ _)).sub (by (try simp only[List.cons_append,List.nil_append]);repeat (first|with_reducible exact List.Sublist.cons_cons _ (List.nil_sublist _)|with_reducible apply List.Sublist.cons))))))
    exact wpQuiet_nil rfl
   simp only[dR];go_wp2_with fail;subst h4;have hcell:=run_load_cell H.out 2 rfl (i*11+6) _ HCZ.out;go_wp2_with ((with_reducible refine isLd 24 ?_);(refine xF1 H 24 1 underlying24 ?_);simp only[pA]);subst h5;clear hcell;refine xRZ H 6 ?_;apply Exists.intro;refine⟨fun xz8=>?_,fun wz8 HXZ H=>?_⟩
   ·simp only[tK];unfold Cx;repeat (first|((with_reducible refine isQl 26 ?_);go_big_quiet_want;(refine xQA H 26 1 underlying26 ?_);simp only[pA];go_big_quiet_on)|((with_reducible refine isQl 23 ?_);go_big_quiet_want;(refine xQV H 23 0 underlying23 ?_);simp only[pA];go_big_quiet_on)|go_big_quiet_step (fail))
    exact wpQuiet_nil rfl
   simp only[dR];go_wp2_with (first|(go_at_call 27;have HSZ:=kp (Nat.le_of_lt (H.out.lt 0 rfl));refine (HBY.out _).mono ?_;rintro e wa ⟨bd,bn,bc,rfl,ho,hx⟩;have HOB:=kp ho;clear ho;replace H:=kp (H.out.ext hx);have HXC:=kp hx;clear hx)|((with_reducible refine isBs 48 36 ?_);(refine xBS H 36 1 (#[(0,.agg (cellsF (msgH a h.a2 10) (.slice bd bn bc)).toArray)]) 31 (cellsF (msgH a h.a2 10) (.slice bd bn bc)) (HBF.out bd bn bc) ?_);clear H;intro gf wf HGgf HEgf H;simp only[pA]));go_ret2
   rw[HR.out];exact⟨_,l,rfl,St.mk HT.out H.out (by (try simp only[List.cons_append,List.nil_append]);repeat (first|with_reducible exact List.Sublist.cons_cons _ (List.Sublist.refl _)|with_reducible apply List.Sublist.cons)),fun _=>rfl,by rw[←HGg4.out];exact FrS.one HOK.out (H.out.at 0 rfl) (by have h1:=H.out.at 1 rfl;have h2:=HSZ.out;have h3:=HXC.out.size;have h4:=HGgf.out;omega) (owns_weak (owns_ext HOB.out HEgf.out) HSZ.out)⟩
end Go.Proofs.YtfecopfofkdnpaaGreat
