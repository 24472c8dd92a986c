/- Texts of this proof, put together: Rh0, Val5, Used5. -/
import Derived.Test.YtfecopfofkdnpaaGreatY34
import Derived.Test.YtfecopfofkdnpaaGreatY36
import Derived.Test.YtfecopfofkdnpaaGreatY8
import Derived.Test.YtfecopfofkdnpaaGreatY1
namespace Go.Proofs.YtfecopfofkdnpaaGreat
open Go.RowKit Tryz
def stF (l:List En) (t:List (BitVec 8)):Int:=match lookF l t with|some s=>s.state|none=>0
theorem seen_cases {a:As} {l:List En} (hok:OkL a l) (hl:L6 l) {t:List (BitVec 8)} (ht:t.length=6) (now:Int) :
  (lookF l t=none∧lookF (seenF l t now) t=none∧findI l t=-1∧stF l t=0∧seenF l t now=l)∨∃ (i:Nat) (s:En),lookF l t=some s∧findI l t=(i:Int)∧l[i]?=some s∧s.addr=t∧stF l t=s.state∧(s.state=1∨s.state=2)∧seenF l t now=putF l { s with seen:=max s.seen now }∧lookF (seenF l t now) t=some { s with seen:=max s.seen now }∧(seenF l t now)[i]?=some { s with seen:=max s.seen now }:=by
 have h1:=look_seen (now:=now) (t:=t) hok hl ht;rw[if_pos rfl] at h1;cases hc:lookF l t with
 |none =>
  rw[hc] at h1;exact .inl ⟨rfl,h1,findI_neg hc,by unfold stF;rw[hc],seen_none hc⟩
 |some s =>
  rw[hc] at h1;obtain⟨i,h2,h3,h4⟩:=findI_some' hc;have h5:=hok.ent s (List.mem_of_getElem? h3);refine .inr ⟨i,s,rfl,h2,h3,h4,by unfold stF;rw[hc],(ent_cases h5).imp (·.1) (·.1),seen_some hc,h1,?_⟩;have h6:seenF l t now=l.set i { s with seen:=max s.seen now }:=by rw[seen_some hc];exact put_at hok.sorted hl ht h3 h4 _ h4
  rw[h6,List.getElem?_set,if_pos rfl,if_pos (List.getElem?_eq_some_iff.1 h3).1]
theorem data_0 {a:As} {l:List En} {h:Hd} (hc:lookF l h.a2=none):dataF a l h=(l,[byeF a h.a2 12 6],0):=by unfold dataF;rw[hc]
theorem data_1 {a:As} {l:List En} {h:Hd} {s:En} (hc:lookF l h.a2=some s) (hs:s.state=1):dataF a l h=(l,[byeF a h.a2 10 7],0):=by unfold dataF;rw[hc];dsimp only;rw[if_neg (by rw[hs];decide)]
theorem data_2 {a:As} {l:List En} {h:Hd} {s:En} (hc:lookF l h.a2=some s) (hs:s.state=2):dataF a l h=(l,[],0):=by unfold dataF;rw[hc];dsimp only;rw[if_pos hs]
theorem leave_no {l:List En} {h:Hd} {b:List (BitVec 8)} (hb:frontE b 2≠0):leaveF dL l h b=([],[],12):=by unfold leaveF dL;rw[decide_eq_false hb];rfl
theorem leave_12 {l:List En} (hl:L6 l) {h:Hd} (ht:h.a2.length=6) {b:List (BitVec 8)} (hb:frontE b 2=0) (hs:h.sub=12):leaveF dL l h b=(delF l h.a2,[],0):=by
 unfold leaveF dL;rw[decide_eq_true hb,if_pos rfl];cases hc:lookF l h.a2 with
 |none=>dsimp only;rw[del_none hl ht hc]
 |some s=>dsimp only;rw[if_pos hs]
theorem leave_0 {l:List En} {h:Hd} {b:List (BitVec 8)} (hb:frontE b 2=0) (hc:lookF l h.a2=none):leaveF dL l h b=(l,[],0):=by
 unfold leaveF dL;rw[decide_eq_true hb,if_pos rfl,hc]
theorem leave_2 {l:List En} {h:Hd} {b:List (BitVec 8)} (hb:frontE b 2=0) (hs:h.sub=10) {s:En} (hc:lookF l h.a2=some s):leaveF dL l h b=(putF l (freshE h.a2 s.seen),[],0):=by
 unfold leaveF dL;rw[decide_eq_true hb,if_pos rfl,hc];dsimp only;rw[if_neg (by rw[hs];decide),(look_some hc).2];rfl
theorem leave_1 {a:As} {l:List En} (hok:OkL a l) (hl:L6 l) {h:Hd} {b:List (BitVec 8)} (hb:frontE b 2=0) (hs:h.sub=10) {s:En} (hc:lookF l h.a2=some s) (h1:s.state=1):leaveF dL l h b=(l,[],0):=by
 rw[leave_2 hb hs hc];obtain⟨hm,ha⟩:=look_some hc;have he:=hok.ent s hm
 have:freshE h.a2 s.seen=s:=by
  unfold entF at he;rw[if_pos h1] at he;obtain⟨sa,ss,si,sc,sl,sn⟩:=s;simp at he h1 ha;unfold freshE;obtain⟨_,⟨rfl,rfl⟩,rfl⟩:=he;rw[h1,ha]
 rw[this,put_self hok.sorted hl hc]
theorem FrS.wroteT {B g T:Nat} {outs:List Fm} {v:Value} {w w':World} {cs:List Value} (h:FrS B outs v w) (hw:Wrote w w' g) (hg:Lc w g T cs) (h1:31≠T) (h2:5≠T):FrS B outs v w':=by
 obtain⟨vs,h3,h4,h5⟩:=h;exact⟨vs,h3,owns_wroteT h4 hw hg h1,fun p hp=>owns_wroteT (h5 p hp) hw hg h2⟩
theorem NxL.join {vi v1 v2:Value} {li l1 l2:List En} {B:Nat} {W w':World} (h1:NxL vi li B v1 l1 W) (hx:Ext W w') (hB:B≤W.heap.size) (h2:NxL v1 l1 W.heap.size v2 l2 w'):NxL vi li B v2 l2 w':=by
 rcases h2 with ⟨rfl,rfl⟩|h
 ·exact h1.ext hx
 ·exact .inr (owns_weak h hB)
theorem known5_step (L:List Int) (s:Int) (j:Nat) (x:Int) (h:L[j]?=some x) (hT:s∉L.take j) (hx:x≠s):s∉L.take (j+1):=by
 rw[List.take_add_one,h,Option.toList_some,List.mem_append,List.mem_singleton];rintro (c|c)
 ·exact hT c
 ·exact hx c.symm
def tab5 (g7 g8 g9:Nat):List Value:=[.slice (some ⟨g7,0,none⟩) 11 11,.slice (some ⟨g8,0,none⟩) 6 6,.slice (some ⟨g9,0,none⟩) 4 4]
set_option maxHeartbeats 1600000 in
theorem known5_0 (s:Int) (w:World) :
  Calls prog 64 #[.int .u8 0,.int .u8 s] w fun e w'=>e=.returned (.bool (known5F 0 s))∧Ext w w':=by
 have H:=kp (Loc.start w);go_enter func64,ntmps64;go_wp2_with (first|((with_reducible refine isBs 7 29 ?_);(refine xBS H 29 11 (#[(0,.int .u8 0),(1,.int .u8 1),(2,.int .u8 2),(3,.int .u8 3),(4,.int .u8 4),(5,.int .u8 5),(6,.int .u8 8),(7,.int .u8 10),(8,.int .u8 11),(9,.int .u8 12),(10,.int .u8 13)]) 5 ((subs5 0).map (fun z=>Value.int .u8 z)) (fun _=>by kernel_rfl) ?_);clear H;intro g7 w7 HGg7 HEg7 H;simp only[pA])|((with_reducible refine isBs 8 29 ?_);(refine xBS H 29 6 (#[(0,.int .u8 8),(1,.int .u8 9),(2,.int .u8 10),(3,.int .u8 11),(4,.int .u8 12),(5,.int .u8 13)]) 5 ((subs5 1).map (fun z=>Value.int .u8 z)) (fun _=>by kernel_rfl) ?_);clear H;intro g8 w8 HGg8 HEg8 H;simp only[pA])|((with_reducible refine isBs 9 29 ?_);(refine xBS H 29 4 (#[(0,.int .u8 0),(1,.int .u8 4),(2,.int .u8 8),(3,.int .u8 12)]) 5 ((subs5 2).map (fun z=>Value.int .u8 z)) (fun _=>by kernel_rfl) ?_);clear H;intro g9 w9 HGg9 HEg9 H;simp only[pA])|((with_reducible refine isBs 10 154 ?_);(refine xBS H 154 3 (#[(0,.slice (some ⟨g7,0,none⟩) 11 11),(1,.slice (some ⟨g8,0,none⟩) 6 6),(2,.slice (some ⟨g9,0,none⟩) 4 4)]) 29 (tab5 g7 g8 g9) (fun _=>by kernel_rfl) ?_);clear H;intro g10 w10 HGg10 HEg10 H;simp only[pA]));go_loopw [6] (fun i wr=>∃ j:Nat,j≤11∧i=.int .i64 j∧Kp (s∉(subs5 0).take j)∧Kp (Loc w wr [(g10,_,tab5 g7 g8 g9),(g9,_,(subs5 2).map (fun z=>Value.int .u8 z)),(g8,_,(subs5 1).map (fun z=>Value.int .u8 z)),(g7,_,(subs5 0).map (fun z=>Value.int .u8 z))])) (fun i _=>11-(intOf i).toNat)
 case atStart=>exact⟨0,by omega,rfl,kp (by simp),H⟩
 case round =>
  obtain⟨j,hj,rfl,HT,H⟩:=hrel;have hcs:=run_load_cell H.out 0 rfl 0 _ rfl;by_cases hlt:j<11
  ·obtain⟨x,hx⟩:∃ x,(subs5 0)[j]?=some x:=⟨(subs5 0)[j]'(by show j<11;exact hlt),by simp⟩
   have hcx:=run_load_cell H.out 3 rfl j (.int .u8 x) (by rw[List.getElem?_map,hx];rfl);have HX:=kp hx;clear hx;by_cases he:x=s
   ·have HK:=kp (show known5F 0 s=true by rw[known5F,decide_eq_true_eq,←he];exact List.mem_of_getElem? HX.out);have hb:(x==s)=true:=by simp[he]
    clear he;go_wp2_with fail;go_ret;exact⟨congrArg (fun z=>Ending.returned (.bool z)) HK.out.symm,H.out.1⟩
   ·have HK:=kp (known5_step _ s j x HX.out HT.out he);have hb:(x==s)=false:=by simp[he]
    clear he;go_wp2_with fail;go_roundw
    case rel=>exact⟨j+1,by omega,by go_num,HK,H⟩
    case measure=>simp[intOf];omega
  ·obtain rfl:j=11:=by omega
   have HK:=kp (show known5F 0 s=false by
    have h:=HT.out;rw[List.take_of_length_le (show (subs5 0).length≤11 from Nat.le_refl _)] at h
    simp[known5F,h])
   go_wp2_with fail;go_ret;exact⟨congrArg (fun z=>Ending.returned (.bool z)) HK.out.symm,H.out.1⟩
set_option maxHeartbeats 1600000 in
theorem known5_1 (s:Int) (w:World) :
  Calls prog 64 #[.int .u8 1,.int .u8 s] w fun e w'=>e=.returned (.bool (known5F 1 s))∧Ext w w':=by
 have H:=kp (Loc.start w);go_enter func64,ntmps64;go_wp2_with (first|((with_reducible refine isBs 7 29 ?_);(refine xBS H 29 11 (#[(0,.int .u8 0),(1,.int .u8 1),(2,.int .u8 2),(3,.int .u8 3),(4,.int .u8 4),(5,.int .u8 5),(6,.int .u8 8),(7,.int .u8 10),(8,.int .u8 11),(9,.int .u8 12),(10,.int .u8 13)]) 5 ((subs5 0).map (fun z=>Value.int .u8 z)) (fun _=>by kernel_rfl) ?_);clear H;intro g7 w7 HGg7 HEg7 H;simp only[pA])|((with_reducible refine isBs 8 29 ?_);(refine xBS H 29 6 (#[(0,.int .u8 8),(1,.int .u8 9),(2,.int .u8 10),(3,.int .u8 11),(4,.int .u8 12),(5,.int .u8 13)]) 5 ((subs5 1).map (fun z=>Value.int .u8 z)) (fun _=>by kernel_rfl) ?_);clear H;intro g8 w8 HGg8 HEg8 H;simp only[pA])|((with_reducible refine isBs 9 29 ?_);(refine xBS H 29 4 (#[(0,.int .u8 0),(1,.int .u8 4),(2,.int .u8 8),(3,.int .u8 12)]) 5 ((subs5 2).map (fun z=>Value.int .u8 z)) (fun _=>by kernel_rfl) ?_);clear H;intro g9 w9 HGg9 HEg9 H;simp only[pA])|((with_reducible refine isBs 10 154 ?_);(refine xBS H 154 3 (#[(0,.slice (some ⟨g7,0,none⟩) 11 11),(1,.slice (some ⟨g8,0,none⟩) 6 6),(2,.slice (some ⟨g9,0,none⟩) 4 4)]) 29 (tab5 g7 g8 g9) (fun _=>by kernel_rfl) ?_);clear H;intro g10 w10 HGg10 HEg10 H;simp only[pA]));go_loopw [6] (fun i wr=>∃ j:Nat,j≤6∧i=.int .i64 j∧Kp (s∉(subs5 1).take j)∧Kp (Loc w wr [(g10,_,tab5 g7 g8 g9),(g9,_,(subs5 2).map (fun z=>Value.int .u8 z)),(g8,_,(subs5 1).map (fun z=>Value.int .u8 z)),(g7,_,(subs5 0).map (fun z=>Value.int .u8 z))])) (fun i _=>6-(intOf i).toNat)
 case atStart=>exact⟨0,by omega,rfl,kp (by simp),H⟩
 case round =>
  obtain⟨j,hj,rfl,HT,H⟩:=hrel;have hcs:=run_load_cell H.out 0 rfl 1 _ rfl;by_cases hlt:j<6
  ·obtain⟨x,hx⟩:∃ x,(subs5 1)[j]?=some x:=⟨(subs5 1)[j]'(by show j<6;exact hlt),by simp⟩
   have hcx:=run_load_cell H.out 2 rfl j (.int .u8 x) (by rw[List.getElem?_map,hx];rfl);have HX:=kp hx;clear hx;by_cases he:x=s
   ·have HK:=kp (show known5F 1 s=true by rw[known5F,decide_eq_true_eq,←he];exact List.mem_of_getElem? HX.out);have hb:(x==s)=true:=by simp[he]
    clear he;go_wp2_with fail;go_ret;exact⟨congrArg (fun z=>Ending.returned (.bool z)) HK.out.symm,H.out.1⟩
   ·have HK:=kp (known5_step _ s j x HX.out HT.out he);have hb:(x==s)=false:=by simp[he]
    clear he;go_wp2_with fail;go_roundw
    case rel=>exact⟨j+1,by omega,by go_num,HK,H⟩
    case measure=>simp[intOf];omega
  ·obtain rfl:j=6:=by omega
   have HK:=kp (show known5F 1 s=false by
    have h:=HT.out;rw[List.take_of_length_le (show (subs5 1).length≤6 from Nat.le_refl _)] at h
    simp[known5F,h])
   go_wp2_with fail;go_ret;exact⟨congrArg (fun z=>Ending.returned (.bool z)) HK.out.symm,H.out.1⟩
set_option maxHeartbeats 1600000 in
theorem known5_2 (s:Int) (w:World) :
  Calls prog 64 #[.int .u8 2,.int .u8 s] w fun e w'=>e=.returned (.bool (known5F 2 s))∧Ext w w':=by
 have H:=kp (Loc.start w);go_enter func64,ntmps64;go_wp2_with (first|((with_reducible refine isBs 7 29 ?_);(refine xBS H 29 11 (#[(0,.int .u8 0),(1,.int .u8 1),(2,.int .u8 2),(3,.int .u8 3),(4,.int .u8 4),(5,.int .u8 5),(6,.int .u8 8),(7,.int .u8 10),(8,.int .u8 11),(9,.int .u8 12),(10,.int .u8 13)]) 5 ((subs5 0).map (fun z=>Value.int .u8 z)) (fun _=>by kernel_rfl) ?_);clear H;intro g7 w7 HGg7 HEg7 H;simp only[pA])|((with_reducible refine isBs 8 29 ?_);(refine xBS H 29 6 (#[(0,.int .u8 8),(1,.int .u8 9),(2,.int .u8 10),(3,.int .u8 11),(4,.int .u8 12),(5,.int .u8 13)]) 5 ((subs5 1).map (fun z=>Value.int .u8 z)) (fun _=>by kernel_rfl) ?_);clear H;intro g8 w8 HGg8 HEg8 H;simp only[pA])|((with_reducible refine isBs 9 29 ?_);(refine xBS H 29 4 (#[(0,.int .u8 0),(1,.int .u8 4),(2,.int .u8 8),(3,.int .u8 12)]) 5 ((subs5 2).map (fun z=>Value.int .u8 z)) (fun _=>by kernel_rfl) ?_);clear H;intro g9 w9 HGg9 HEg9 H;simp only[pA])|((with_reducible refine isBs 10 154 ?_);(refine xBS H 154 3 (#[(0,.slice (some ⟨g7,0,none⟩) 11 11),(1,.slice (some ⟨g8,0,none⟩) 6 6),(2,.slice (some ⟨g9,0,none⟩) 4 4)]) 29 (tab5 g7 g8 g9) (fun _=>by kernel_rfl) ?_);clear H;intro g10 w10 HGg10 HEg10 H;simp only[pA]));go_loopw [6] (fun i wr=>∃ j:Nat,j≤4∧i=.int .i64 j∧Kp (s∉(subs5 2).take j)∧Kp (Loc w wr [(g10,_,tab5 g7 g8 g9),(g9,_,(subs5 2).map (fun z=>Value.int .u8 z)),(g8,_,(subs5 1).map (fun z=>Value.int .u8 z)),(g7,_,(subs5 0).map (fun z=>Value.int .u8 z))])) (fun i _=>4-(intOf i).toNat)
 case atStart=>exact⟨0,by omega,rfl,kp (by simp),H⟩
 case round =>
  obtain⟨j,hj,rfl,HT,H⟩:=hrel;have hcs:=run_load_cell H.out 0 rfl 2 _ rfl;by_cases hlt:j<4
  ·obtain⟨x,hx⟩:∃ x,(subs5 2)[j]?=some x:=⟨(subs5 2)[j]'(by show j<4;exact hlt),by simp⟩
   have hcx:=run_load_cell H.out 1 rfl j (.int .u8 x) (by rw[List.getElem?_map,hx];rfl);have HX:=kp hx;clear hx;by_cases he:x=s
   ·have HK:=kp (show known5F 2 s=true by rw[known5F,decide_eq_true_eq,←he];exact List.mem_of_getElem? HX.out);have hb:(x==s)=true:=by simp[he]
    clear he;go_wp2_with fail;go_ret;exact⟨congrArg (fun z=>Ending.returned (.bool z)) HK.out.symm,H.out.1⟩
   ·have HK:=kp (known5_step _ s j x HX.out HT.out he);have hb:(x==s)=false:=by simp[he]
    clear he;go_wp2_with fail;go_roundw
    case rel=>exact⟨j+1,by omega,by go_num,HK,H⟩
    case measure=>simp[intOf];omega
  ·obtain rfl:j=4:=by omega
   have HK:=kp (show known5F 2 s=false by
    have h:=HT.out;rw[List.take_of_length_le (show (subs5 2).length≤4 from Nat.le_refl _)] at h
    simp[known5F,h])
   go_wp2_with fail;go_ret;exact⟨congrArg (fun z=>Ending.returned (.bool z)) HK.out.symm,H.out.1⟩
theorem known5_high (k s:Int) (hk:2<k) (w:World) :
  Calls prog 64 #[.int .u8 k,.int .u8 s] w fun e w'=>e=.returned (.bool (known5F k s))∧Ext w w':=by
 have H:=kp (Loc.start w);have HK:=kp (show known5F k s=false by simp[known5F,subs5,show k≠0 by omega,show k≠1 by omega,show k≠2 by omega]);go_enter func64,ntmps64;go_wp2_with (first|((with_reducible refine isBs 7 29 ?_);(refine xBS H 29 11 (#[(0,.int .u8 0),(1,.int .u8 1),(2,.int .u8 2),(3,.int .u8 3),(4,.int .u8 4),(5,.int .u8 5),(6,.int .u8 8),(7,.int .u8 10),(8,.int .u8 11),(9,.int .u8 12),(10,.int .u8 13)]) 5 ((subs5 0).map (fun z=>Value.int .u8 z)) (fun _=>by kernel_rfl) ?_);clear H;intro g7 w7 HGg7 HEg7 H;simp only[pA])|((with_reducible refine isBs 8 29 ?_);(refine xBS H 29 6 (#[(0,.int .u8 8),(1,.int .u8 9),(2,.int .u8 10),(3,.int .u8 11),(4,.int .u8 12),(5,.int .u8 13)]) 5 ((subs5 1).map (fun z=>Value.int .u8 z)) (fun _=>by kernel_rfl) ?_);clear H;intro g8 w8 HGg8 HEg8 H;simp only[pA])|((with_reducible refine isBs 9 29 ?_);(refine xBS H 29 4 (#[(0,.int .u8 0),(1,.int .u8 4),(2,.int .u8 8),(3,.int .u8 12)]) 5 ((subs5 2).map (fun z=>Value.int .u8 z)) (fun _=>by kernel_rfl) ?_);clear H;intro g9 w9 HGg9 HEg9 H;simp only[pA])|((with_reducible refine isBs 10 154 ?_);(refine xBS H 154 3 (#[(0,.slice (some ⟨g7,0,none⟩) 11 11),(1,.slice (some ⟨g8,0,none⟩) 6 6),(2,.slice (some ⟨g9,0,none⟩) 4 4)]) 29 (tab5 g7 g8 g9) (fun _=>by kernel_rfl) ?_);clear H;intro g10 w10 HGg10 HEg10 H;simp only[pA]))
 all_goals (go_ret;exact⟨congrArg (fun z=>Ending.returned (.bool z)) HK.out.symm,H.out.1⟩)
theorem known5_any (k s:Int) (h0:0≤k) (w:World) :
  Calls prog 64 #[.int .u8 k,.int .u8 s] w fun e w'=>e=.returned (.bool (known5F k s))∧Ext w w':=by
 by_cases c0:k=0
 ·subst c0;exact known5_0 s w
 by_cases c1:k=1
 ·subst c1;exact known5_1 s w
 by_cases c2:k=2
 ·subst c2;exact known5_2 s w
 exact known5_high k s (by omega) w
theorem setHa2 (r:Hd) (l:List (BitVec 8)) (h1:r.a1.length=6) (h2:r.a2.length=6) (hl:l.length=6):((cellsH r).take 16++l.map V8++(cellsH r).drop (16+(l.map V8).length)).toArray=(cellsH { r with a2:=l }).toArray:=by
 obtain⟨_,_,_,_,_,_,q1⟩:=six h1;obtain⟨_,_,_,_,_,_,q2⟩:=six h2;obtain⟨_,_,_,_,_,_,q3⟩:=six hl;simp[cellsH,q1,q2,q3]
theorem setHa3 (r:Hd) (l:List (BitVec 8)) (h1:r.a1.length=6) (h2:r.a2.length=6) (h3:r.a3.length=6) (hl:l.length=6):((cellsH r).take 22++l.map V8++(cellsH r).drop (22+(l.map V8).length)).toArray=(cellsH { r with a3:=l }).toArray:=by
 obtain⟨_,_,_,_,_,_,q1⟩:=six h1;obtain⟨_,_,_,_,_,_,q2⟩:=six h2;obtain⟨_,_,_,_,_,_,q3⟩:=six hl;obtain⟨_,_,_,_,_,_,q4⟩:=six h3;simp[cellsH,q1,q2,q3,q4]
theorem setHa4 (r:Hd) (l:List (BitVec 8)) (h1:r.a1.length=6) (h2:r.a2.length=6) (h3:r.a3.length=6) (h4:r.a4.length=6) (hl:l.length=6):((cellsH r).take 28++l.map V8++(cellsH r).drop (28+(l.map V8).length)).toArray=(cellsH { r with a4:=l }).toArray:=by
 obtain⟨_,_,_,_,_,_,q1⟩:=six h1;obtain⟨_,_,_,_,_,_,q2⟩:=six h2;obtain⟨_,_,_,_,_,_,q3⟩:=six hl;obtain⟨_,_,_,_,_,_,q4⟩:=six h3;obtain⟨_,_,_,_,_,_,q5⟩:=six h4;simp[cellsH,q1,q2,q3,q4,q5]
theorem fitA (r:Hd) (ok:r.Ok) (l:List (BitVec 8)) (hl:l.length=6) (o:Nat) (ho:o≤28):o+(l.map V8).toArray.size≤(cellsH r).toArray.size:=by
 simp[cellsH_len ok,hl];omega
def used0 (h:Hd):Hd:=⟨h.kind,h.sub,false,false,false,false,h.sleep,h.mdata,false,h.dur,h.a1,zero6,zero6,zero6,0,0,0,0,false,false⟩
theorem used0_ok {h:Hd} (ok:h.Ok):(used0 h).Ok:=⟨ok.k0,ok.k1,ok.s0,ok.s1,by show (0:Int)≤0;decide,by show (0:Int)<256;decide,ok.l1,rfl,rfl,rfl⟩
theorem used1_ok {h:Hd} (ok:h.Ok):(used1 h).Ok:=⟨ok.k0,ok.k1,ok.s0,ok.s1,by show (0:Int)≤0;decide,by show (0:Int)<256;decide,ok.l1,rfl,rfl,rfl⟩
def u2a (h:Hd):Hd:={ used1 h with a2:=if 1<addrsF (used1 h) then h.a2 else zero6 }
def u2b (h:Hd):Hd:={ u2a h with a3:=if 2<addrsF (used1 h) then h.a3 else zero6 }
theorem u2a_ok {h:Hd} (ok:h.Ok):(u2a h).Ok:=by
 have:=used1_ok ok;refine⟨this.k0,this.k1,this.s0,this.s1,this.c0,this.c1,this.l1,?_,this.l3,this.l4⟩
 show (if _ then _ else _:List (BitVec 8)).length=6
 split
 ·exact ok.l2
 ·rfl
theorem u2b_ok {h:Hd} (ok:h.Ok):(u2b h).Ok:=by
 have:=u2a_ok ok;refine⟨this.k0,this.k1,this.s0,this.s1,this.c0,this.c1,this.l1,this.l2,?_,this.l4⟩
 show (if _ then _ else _:List (BitVec 8)).length=6
 split
 ·exact ok.l3
 ·rfl
theorem used2_ok {h:Hd} (ok:h.Ok):(used2 h).Ok:=by
 have:=u2b_ok ok;refine⟨this.k0,this.k1,this.s0,this.s1,this.c0,this.c1,this.l1,this.l2,this.l3,?_⟩
 show (if _ then _ else _:List (BitVec 8)).length=6
 split
 ·exact ok.l4
 ·rfl
theorem used3_ok {h:Hd} (ok:h.Ok):(used3 h).Ok:=by
 have:=used2_ok ok;unfold used3;split
 ·exact this
 ·exact⟨this.k0,this.k1,this.s0,this.s1,this.c0,this.c1,this.l1,this.l2,this.l3,this.l4⟩
theorem usedF_ok {h:Hd} (ok:h.Ok):(usedF h).Ok:=by
 have:=used3_ok ok;unfold usedF;split
 ·exact⟨this.k0,this.k1,this.s0,this.s1,ok.c0,ok.c1,this.l1,this.l2,this.l3,this.l4⟩
 ·exact this
set_option maxHeartbeats 6400000 in
theorem used5_any (h:Hd) (ok:h.Ok) (w:World) :
  Calls prog 65 #[.agg (cellsH h).toArray] w fun e w'=>e=.returned (.agg (cellsH (usedF h)).toArray)∧Ext w w':=by
 have H:=kp (Loc.start w);have OK:=kp ok;have O0:=kp (used0_ok ok);have O1:=kp (used1_ok ok);have Oa:=kp (u2a_ok ok);have Ob:=kp (u2b_ok ok);have O2:=kp (used2_ok ok);have O3:=kp (used3_ok ok);have OF:=kp (usedF_ok ok);have HAD:=kp (addrs_any (used1 h));have HQO:=kp (qos_any h);have HZb:=kp (show (prog.info? 4).map (·.size)=some 1 by kernel_rfl);have HZi:=kp (show (prog.info? 3).map (·.size)=some 1 by kernel_rfl);have HZ8:=kp (show (prog.info? 5).map (·.size)=some 1 by kernel_rfl);have HP1:=kp (pH1 ok);have HP2:=kp (pH2 ok);have HP3:=kp (pH3 ok);have HP4:=kp (pH4 ok);have HA1:=kp (sizeA8 ok.l1);have HA2:=kp (sizeA8 ok.l2);have HA3:=kp (sizeA8 ok.l3);have HA4:=kp (sizeA8 ok.l4);have HB2:=kp (sizeA8a ok.l2);have HB3:=kp (sizeA8a ok.l3);have HB4:=kp (sizeA8a ok.l4);have HZ0:=kp (sizeH (used0_ok ok));have HZ1:=kp (sizeH (used1_ok ok));have HZh:=kp (sizeH ok);have HZF:=kp (sizeH (usedF_ok ok));have HO1:=kp (fun l:List (BitVec 8)=>show (l.map V8).toArray.all (·.oneCell')=true by simp[Value.oneCell',List.all_map]);have HOH:=kp one_cellsH;have HF2:=kp (fitA (used1 h) (used1_ok ok) h.a2 ok.l2 16 (by omega));have HF3:=kp (fitA (u2a h) (u2a_ok ok) h.a3 ok.l3 22 (by omega));have HF4:=kp (fitA (u2b h) (u2b_ok ok) h.a4 ok.l4 28 (by omega));have HS2:=kp (setHa2 (used1 h) h.a2 (used1_ok ok).l1 (used1_ok ok).l2 ok.l2);have HS3:=kp (setHa3 (u2a h) h.a3 (u2a_ok ok).l1 (u2a_ok ok).l2 (u2a_ok ok).l3 ok.l3);have HS4:=kp (setHa4 (u2b h) h.a4 (u2b_ok ok).l1 (u2b_ok ok).l2 (u2b_ok ok).l3 (u2b_ok ok).l4 ok.l4)
 have BLD:Kp (∀ w,(Instr.build 28 #[(0,.int .u8 h.kind),(1,.int .u8 h.sub),(6,.bool h.sleep),(7,.bool h.mdata),(9,.int .i64 h.dur),(10,.agg (h.a1.map V8).toArray)]).run prog w=.ok (.agg (cellsH (used0 h)).toArray) w):=kp (by
  obtain⟨k,s,b1,b2,b3,b4,b5,b6,b7,du,a1,a2,a3,a4,sq,fr,ti,ac,am,eo⟩:=h;have hl1:=ok.l1;dsimp only at hl1;obtain⟨_,_,_,_,_,_,rfl⟩:=six hl1;intro w
  kernel_rfl)
 have HL0:=kp (show (cellsH zeroHd).length=(cellsH (used0 h)).length by rw[cellsH_len zeroHd_ok,cellsH_len (used0_ok ok)]);have HLF:=kp (show (cellsH zeroHd).length=(cellsH (usedF h)).length by rw[cellsH_len zeroHd_ok,cellsH_len (usedF_ok ok)]);clear ok;go_enter func65,ntmps65;generalize h2:((Code.region 2 _ _:Code).seq _)=C2;generalize h6:((Code.region 6 _ _:Code).seq _)=C6;generalize h8:((Code.region 8 _ _:Code).seq _)=C8;generalize h10:((Code.region 10 _ _:Code).seq _)=C10;generalize h12:((Code.region 12 _ _:Code).seq _)=C12;generalize h18:((Code.region 18 _ _:Code).seq _)=C18;generalize h23:Code.region 23 _ _=R23;go_wp2_with (first|(((with_reducible refine isBx 1 28 ?_);(refine xBX H 28 (cellsH h) ?_);clear H;intro g1 w1 HGg1 HEg1 H;simp only[pA]);have hc0:=run_load_cell H.out 0 rfl 0 _ rfl;have hc1:=run_load_cell H.out 0 rfl 1 _ rfl;have hc6:=run_load_cell H.out 0 rfl 6 _ rfl;have hc7:=run_load_cell H.out 0 rfl 7 _ rfl;have hc9:=run_load_cell H.out 0 rfl 9 _ rfl)|(((with_reducible refine isAl 2 28 ?_);(with_reducible refine xAL H 28 (cellsH zeroHd) ?_);clear H;intro g2 w2 HGg2 HEg2 H;simp only[pA]);have hc0:=run_load_cell H.out 1 rfl 0 _ rfl;have hc1:=run_load_cell H.out 1 rfl 1 _ rfl;have hc6:=run_load_cell H.out 1 rfl 6 _ rfl;have hc7:=run_load_cell H.out 1 rfl 7 _ rfl;have hc9:=run_load_cell H.out 1 rfl 9 _ rfl)|((with_reducible refine isLd 23 ?_);(refine L_subG H (by kernel_rfl) 23 _ rfl 1 rfl (10) rfl (h.a1.map V8) (HP1.out) underlying23 rfl (HA1.out) ?_);simp only[pA])|((with_reducible refine isBd 17 28 ?_);(refine L_bd (by kernel_rfl) 28 _ rfl (#[(0,.int .u8 h.kind),(1,.int .u8 h.sub),(6,.bool h.sleep),(7,.bool h.mdata),(9,.int .i64 h.dur),(10,.agg (h.a1.map V8).toArray)]) (by kernel_rfl) (cellsH (used0 h)) (fun w=>BLD.out w) ?_);simp only[pA])|((with_reducible refine isAl 3 28 ?_);(with_reducible refine xAL H 28 (cellsH zeroHd) ?_);clear H;intro g3 w3 HGg3 HEg3 H;simp only[pA])|((with_reducible refine isSt 28 ?_);(refine xSR H 28 0 rfl (cellsH (used0 h)) (HZ0.out) (HL0.out) (HOH.out _) ?_;clear H;intro w4 HWw4 H;simp only[szA] at H)));clear hc0 hc1 hc6 hc7 hc9;subst h2;refine wp_cut [18,19,20,21,22,23,24,25,26] (fun _ w'=>Kp (Loc w w' [(g3,28,cellsH (used1 h)),(g2,28,cellsH zeroHd),(g1,28,cellsH h)])) ?_ ?_
 ·have hc0:=run_load_cell H.out 2 rfl 0 _ rfl;have hc1:=run_load_cell H.out 2 rfl 1 _ rfl;have hc2:=run_load_cell H.out 2 rfl 2 _ rfl;have hc3:=run_load_cell H.out 2 rfl 3 _ rfl;have hc4:=run_load_cell H.out 2 rfl 4 _ rfl;have hc5:=run_load_cell H.out 2 rfl 5 _ rfl;have hc8:=run_load_cell H.out 2 rfl 8 _ rfl;by_cases hk:h.kind=2
  ·have hkb:(h.kind==2)=true:=by simp[hk]
   rw[show used1 h={ used0 h with toDs:=h.toDs,fromDs:=h.fromDs } from by simp[used1,used0,hk]];clear hk;go_wp2_with (first|(((with_reducible refine isSt 4 ?_);(refine L_cell H rfl rfl 4 _ _ rfl 0 rfl (2) rfl (.bool h.toDs) rfl (rfl) (HZb.out) (fitH _ 2 (Nat.le_of_ble_eq_true rfl)) (cellsH { used0 h with toDs:=h.toDs }) (rfl) ?_;clear H;intro wA HWwA H;simp only[szA] at H));have hc0:=run_load_cell H.out 2 rfl 0 _ rfl;have hc1:=run_load_cell H.out 2 rfl 1 _ rfl;have hc2:=run_load_cell H.out 2 rfl 2 _ rfl;have hc3:=run_load_cell H.out 2 rfl 3 _ rfl;have hc4:=run_load_cell H.out 2 rfl 4 _ rfl;have hc5:=run_load_cell H.out 2 rfl 5 _ rfl;have hc8:=run_load_cell H.out 2 rfl 8 _ rfl)|((with_reducible refine isSt 4 ?_);(refine L_cell H rfl rfl 4 _ _ rfl 0 rfl (3) rfl (.bool h.fromDs) rfl (rfl) (HZb.out) (fitH _ 3 (Nat.le_of_ble_eq_true rfl)) (cellsH { used0 h with toDs:=h.toDs,fromDs:=h.fromDs }) (rfl) ?_;clear H;intro wB HWwB H;simp only[szA] at H)));exact CutP.of rfl (by kernel_rfl) H
  ·have hkb:(h.kind==2)=false:=by simp[hk]
   rw[show used1 h=used0 h from by simp[used1,used0,hk]];go_wp2_with fail;exact CutP.of rfl (by kernel_rfl) H
 rintro vs1 w5 H;simp only[putMany,sbA,szA,ssA];go_wp2_with (first|((with_reducible refine isLd 28 ?_);(refine L_load H rfl 28 _ rfl 0 rfl rfl underlying28 rfl (HZ1.out) ?_);simp only[pA])|(go_at_call 89;refine (HAD.out _).mono ?_;rintro e wa ⟨rfl,hx⟩;replace H:=kp (H.out.ext hx);have HXC:=kp hx;clear hx));subst h6;refine wp_cut [29,30,31,32,33] (fun _ w'=>Kp (Loc w w' [(g3,28,cellsH (u2a h)),(g2,28,cellsH zeroHd),(g1,28,cellsH h)])) ?_ ?_
 ·by_cases hn:1<addrsF (used1 h)
  ·rw[show u2a h={ used1 h with a2:=h.a2 } from by simp[u2a,hn]];have hnb:decide (1<addrsF (used1 h))=true:=decide_eq_true hn;go_wp2_with (first|((with_reducible refine isLd 23 ?_);(refine L_sub H rfl 23 _ rfl 2 rfl (16) rfl (h.a2.map V8) (HP2.out) underlying23 rfl (HA2.out) ?_);simp only[pA])|((with_reducible refine isSt 23 ?_);(refine L_seg H rfl rfl 23 _ _ rfl 0 rfl (16) rfl (h.a2.map V8) rfl (HB2.out) (HF2.out) (HO1.out _) (cellsH { used1 h with a2:=h.a2 }) (HS2.out) ?_;clear H;intro wA HWwA H;simp only[szA] at H)));exact CutP.of rfl (by kernel_rfl) H
  ·rw[show u2a h=used1 h from by simp[u2a,hn];rfl];have hnb:decide (1<addrsF (used1 h))=false:=decide_eq_false hn;go_wp2_with fail;exact CutP.of rfl (by kernel_rfl) H
 rintro vs2 w6 H;simp only[putMany,sbA,szA,ssA];go_wp2_with fail;subst h8;refine wp_cut [34,35,36,37,38] (fun _ w'=>Kp (Loc w w' [(g3,28,cellsH (u2b h)),(g2,28,cellsH zeroHd),(g1,28,cellsH h)])) ?_ ?_
 ·by_cases hn:2<addrsF (used1 h)
  ·rw[show u2b h={ u2a h with a3:=h.a3 } from by simp[u2b,hn]];have hnb:decide (2<addrsF (used1 h))=true:=decide_eq_true hn;go_wp2_with (first|((with_reducible refine isLd 23 ?_);(refine L_sub H rfl 23 _ rfl 2 rfl (22) rfl (h.a3.map V8) (HP3.out) underlying23 rfl (HA3.out) ?_);simp only[pA])|((with_reducible refine isSt 23 ?_);(refine L_seg H rfl rfl 23 _ _ rfl 0 rfl (22) rfl (h.a3.map V8) rfl (HB3.out) (HF3.out) (HO1.out _) (cellsH { u2a h with a3:=h.a3 }) (HS3.out) ?_;clear H;intro wA HWwA H;simp only[szA] at H)));exact CutP.of rfl (by kernel_rfl) H
  ·rw[show u2b h=u2a h from by simp[u2b,hn];rfl];have hnb:decide (2<addrsF (used1 h))=false:=decide_eq_false hn;go_wp2_with fail;exact CutP.of rfl (by kernel_rfl) H
 rintro vs3 w7 H;simp only[putMany,sbA,szA,ssA];go_wp2_with fail;subst h10;refine wp_cut [39,40,41,42,43] (fun _ w'=>Kp (Loc w w' [(g3,28,cellsH (used2 h)),(g2,28,cellsH zeroHd),(g1,28,cellsH h)])) ?_ ?_
 ·by_cases hn:3<addrsF (used1 h)
  ·rw[show used2 h={ u2b h with a4:=h.a4 } from by simp[used2,u2b,u2a,hn]];have hnb:decide (3<addrsF (used1 h))=true:=decide_eq_true hn;go_wp2_with (first|((with_reducible refine isLd 23 ?_);(refine L_sub H rfl 23 _ rfl 2 rfl (28) rfl (h.a4.map V8) (HP4.out) underlying23 rfl (HA4.out) ?_);simp only[pA])|((with_reducible refine isSt 23 ?_);(refine L_seg H rfl rfl 23 _ _ rfl 0 rfl (28) rfl (h.a4.map V8) rfl (HB4.out) (HF4.out) (HO1.out _) (cellsH { u2b h with a4:=h.a4 }) (HS4.out) ?_;clear H;intro wA HWwA H;simp only[szA] at H)));exact CutP.of rfl (by kernel_rfl) H
  ·rw[show used2 h=u2b h from by simp[used2,u2b,u2a,hn];rfl];have hnb:decide (3<addrsF (used1 h))=false:=decide_eq_false hn;go_wp2_with fail;exact CutP.of rfl (by kernel_rfl) H
 rintro vs4 w8 H;simp only[putMany,sbA,szA,ssA];go_wp2_with fail;subst h12;refine wp_cut [44,45,46,47,48,49,50,51,52,53,54,55,56,57,58,59,60,61] (fun _ w'=>Kp (Loc w w' [(g3,28,cellsH (used3 h)),(g2,28,cellsH zeroHd),(g1,28,cellsH h)])) ?_ ?_
 ·have hc0:=run_load_cell H.out 2 rfl 0 _ rfl;have hc1:=run_load_cell H.out 2 rfl 1 _ rfl;have hc2:=run_load_cell H.out 2 rfl 2 _ rfl;have hc3:=run_load_cell H.out 2 rfl 3 _ rfl;have hc4:=run_load_cell H.out 2 rfl 4 _ rfl;have hc5:=run_load_cell H.out 2 rfl 5 _ rfl;have hc8:=run_load_cell H.out 2 rfl 8 _ rfl;have hc34:=run_load_cell H.out 2 rfl _ _ (cH34 OK.out);have hc35:=run_load_cell H.out 2 rfl _ _ (cH35 OK.out);have hc36:=run_load_cell H.out 2 rfl _ _ (cH36 OK.out);have hc37:=run_load_cell H.out 2 rfl _ _ (cH37 OK.out);have hc38:=run_load_cell H.out 2 rfl _ _ (cH38 OK.out);have hc39:=run_load_cell H.out 2 rfl _ _ (cH39 OK.out);by_cases hk:h.kind=1
  ·have hkb:(h.kind==1)=true:=by simp[hk]
   rw[show used3 h=used2 h from if_pos hk];go_wp2_with fail;exact CutP.of rfl (by kernel_rfl) H
  ·have hkb:(h.kind==1)=false:=by simp[hk]
   rw[show used3 h={ used2 h with more:=h.more,retry:=h.retry,prot:=h.prot,seq:=h.seq,frag:=h.frag } from if_neg hk];clear hk;go_wp2_with (first|(((with_reducible refine isSt 4 ?_);(refine L_cell H rfl rfl 4 _ _ rfl 0 rfl (4) rfl (.bool h.more) rfl (rfl) (HZb.out) (fitH _ 4 (Nat.le_of_ble_eq_true rfl)) (cellsH { used2 h with more:=h.more }) (rfl) ?_;clear H;intro wA HWwA H;simp only[szA] at H));have hc0:=run_load_cell H.out 2 rfl 0 _ rfl;have hc1:=run_load_cell H.out 2 rfl 1 _ rfl;have hc2:=run_load_cell H.out 2 rfl 2 _ rfl;have hc3:=run_load_cell H.out 2 rfl 3 _ rfl;have hc4:=run_load_cell H.out 2 rfl 4 _ rfl;have hc5:=run_load_cell H.out 2 rfl 5 _ rfl;have hc8:=run_load_cell H.out 2 rfl 8 _ rfl;have hc34:=run_load_cell H.out 2 rfl _ _ (cH34 OK.out);have hc35:=run_load_cell H.out 2 rfl _ _ (cH35 OK.out);have hc36:=run_load_cell H.out 2 rfl _ _ (cH36 OK.out);have hc37:=run_load_cell H.out 2 rfl _ _ (cH37 OK.out);have hc38:=run_load_cell H.out 2 rfl _ _ (cH38 OK.out);have hc39:=run_load_cell H.out 2 rfl _ _ (cH39 OK.out))|(((with_reducible refine isSt 4 ?_);(refine L_cell H rfl rfl 4 _ _ rfl 0 rfl (5) rfl (.bool h.retry) rfl (rfl) (HZb.out) (fitH _ 5 (Nat.le_of_ble_eq_true rfl)) (cellsH { used2 h with more:=h.more,retry:=h.retry }) (rfl) ?_;clear H;intro wB HWwB H;simp only[szA] at H));have hc0:=run_load_cell H.out 2 rfl 0 _ rfl;have hc1:=run_load_cell H.out 2 rfl 1 _ rfl;have hc2:=run_load_cell H.out 2 rfl 2 _ rfl;have hc3:=run_load_cell H.out 2 rfl 3 _ rfl;have hc4:=run_load_cell H.out 2 rfl 4 _ rfl;have hc5:=run_load_cell H.out 2 rfl 5 _ rfl;have hc8:=run_load_cell H.out 2 rfl 8 _ rfl;have hc34:=run_load_cell H.out 2 rfl _ _ (cH34 OK.out);have hc35:=run_load_cell H.out 2 rfl _ _ (cH35 OK.out);have hc36:=run_load_cell H.out 2 rfl _ _ (cH36 OK.out);have hc37:=run_load_cell H.out 2 rfl _ _ (cH37 OK.out);have hc38:=run_load_cell H.out 2 rfl _ _ (cH38 OK.out);have hc39:=run_load_cell H.out 2 rfl _ _ (cH39 OK.out))|(((with_reducible refine isSt 4 ?_);(refine L_cell H rfl rfl 4 _ _ rfl 0 rfl (8) rfl (.bool h.prot) rfl (rfl) (HZb.out) (fitH _ 8 (Nat.le_of_ble_eq_true rfl)) (cellsH { used2 h with more:=h.more,retry:=h.retry,prot:=h.prot }) (rfl) ?_;clear H;intro wC HWwC H;simp only[szA] at H));have hc0:=run_load_cell H.out 2 rfl 0 _ rfl;have hc1:=run_load_cell H.out 2 rfl 1 _ rfl;have hc2:=run_load_cell H.out 2 rfl 2 _ rfl;have hc3:=run_load_cell H.out 2 rfl 3 _ rfl;have hc4:=run_load_cell H.out 2 rfl 4 _ rfl;have hc5:=run_load_cell H.out 2 rfl 5 _ rfl;have hc8:=run_load_cell H.out 2 rfl 8 _ rfl;have hc34:=run_load_cell H.out 2 rfl _ _ (cH34 OK.out);have hc35:=run_load_cell H.out 2 rfl _ _ (cH35 OK.out);have hc36:=run_load_cell H.out 2 rfl _ _ (cH36 OK.out);have hc37:=run_load_cell H.out 2 rfl _ _ (cH37 OK.out);have hc38:=run_load_cell H.out 2 rfl _ _ (cH38 OK.out);have hc39:=run_load_cell H.out 2 rfl _ _ (cH39 OK.out))|(((with_reducible refine isSt 3 ?_);(refine L_cell H rfl rfl 3 _ _ rfl 0 rfl (34) rfl (.int .i64 h.seq) rfl (rfl) (HZi.out) (fitL { used2 h with more:=h.more,retry:=h.retry,prot:=h.prot } O2.out.l1 O2.out.l2 O2.out.l3 O2.out.l4 34 (Nat.le_of_ble_eq_true rfl)) (cellsH { used2 h with more:=h.more,retry:=h.retry,prot:=h.prot,seq:=h.seq }) (setH34 { used2 h with more:=h.more,retry:=h.retry,prot:=h.prot } h.seq O2.out.l1 O2.out.l2 O2.out.l3 O2.out.l4) ?_;clear H;intro wD HWwD H;simp only[szA] at H));have hc0:=run_load_cell H.out 2 rfl 0 _ rfl;have hc1:=run_load_cell H.out 2 rfl 1 _ rfl;have hc2:=run_load_cell H.out 2 rfl 2 _ rfl;have hc3:=run_load_cell H.out 2 rfl 3 _ rfl;have hc4:=run_load_cell H.out 2 rfl 4 _ rfl;have hc5:=run_load_cell H.out 2 rfl 5 _ rfl;have hc8:=run_load_cell H.out 2 rfl 8 _ rfl;have hc34:=run_load_cell H.out 2 rfl _ _ (cH34 OK.out);have hc35:=run_load_cell H.out 2 rfl _ _ (cH35 OK.out);have hc36:=run_load_cell H.out 2 rfl _ _ (cH36 OK.out);have hc37:=run_load_cell H.out 2 rfl _ _ (cH37 OK.out);have hc38:=run_load_cell H.out 2 rfl _ _ (cH38 OK.out);have hc39:=run_load_cell H.out 2 rfl _ _ (cH39 OK.out))|((with_reducible refine isSt 3 ?_);(refine L_cell H rfl rfl 3 _ _ rfl 0 rfl (35) rfl (.int .i64 h.frag) rfl (rfl) (HZi.out) (fitL { used2 h with more:=h.more,retry:=h.retry,prot:=h.prot,seq:=h.seq } O2.out.l1 O2.out.l2 O2.out.l3 O2.out.l4 35 (Nat.le_of_ble_eq_true rfl)) (cellsH { used2 h with more:=h.more,retry:=h.retry,prot:=h.prot,seq:=h.seq,frag:=h.frag }) (setH35 { used2 h with more:=h.more,retry:=h.retry,prot:=h.prot,seq:=h.seq } h.frag O2.out.l1 O2.out.l2 O2.out.l3 O2.out.l4) ?_;clear H;intro wE HWwE H;simp only[szA] at H)));exact CutP.of rfl (by kernel_rfl) H
 rintro vs5 w9 H;simp only[putMany,sbA,szA,ssA];go_wp2_with fail;subst h18;refine wp_cut [62,63,64,65,66,67,68,69,70,71,72,73,74,75] (fun _ w'=>Kp (Loc w w' [(g3,28,cellsH (usedF h)),(g2,28,cellsH zeroHd),(g1,28,cellsH h)])) ?_ ?_
 ·have hc0:=run_load_cell H.out 2 rfl 0 _ rfl;have hc1:=run_load_cell H.out 2 rfl 1 _ rfl;have hc2:=run_load_cell H.out 2 rfl 2 _ rfl;have hc3:=run_load_cell H.out 2 rfl 3 _ rfl;have hc4:=run_load_cell H.out 2 rfl 4 _ rfl;have hc5:=run_load_cell H.out 2 rfl 5 _ rfl;have hc8:=run_load_cell H.out 2 rfl 8 _ rfl;have hc34:=run_load_cell H.out 2 rfl _ _ (cH34 OK.out);have hc35:=run_load_cell H.out 2 rfl _ _ (cH35 OK.out);have hc36:=run_load_cell H.out 2 rfl _ _ (cH36 OK.out);have hc37:=run_load_cell H.out 2 rfl _ _ (cH37 OK.out);have hc38:=run_load_cell H.out 2 rfl _ _ (cH38 OK.out);have hc39:=run_load_cell H.out 2 rfl _ _ (cH39 OK.out);cases hq:qosF h with
  |false =>
   rw[show usedF h=used3 h from by simp[usedF,hq]];rw[hq] at HQO;go_wp2_with (first|((with_reducible refine isLd 28 ?_);(refine wpList_load_rowG (by kernel_rfl) 28 _ rfl (g1) rfl 28 (cellsH h).toArray (0,0) _ (H.out.at 2 rfl) underlying28 rfl (HZh.out) ?_);simp only[pA])|(go_at_call 90;refine (HQO.out _).mono ?_;rintro e wa ⟨rfl,hx⟩;replace H:=kp (H.out.ext hx);have HXC:=kp hx;clear hx));exact CutP.of rfl (by kernel_rfl) H
  |true =>
   rw[show usedF h={ used3 h with tid:=h.tid,ack:=h.ack,amsdu:=h.amsdu,eosp:=h.eosp } from by simp[usedF,hq]];rw[hq] at HQO;clear hq;go_wp2_with (first|((with_reducible refine isLd 28 ?_);(refine wpList_load_rowG (by kernel_rfl) 28 _ rfl (g1) rfl 28 (cellsH h).toArray (0,0) _ (H.out.at 2 rfl) underlying28 rfl (HZh.out) ?_);simp only[pA])|(go_at_call 90;refine (HQO.out _).mono ?_;rintro e wa ⟨rfl,hx⟩;replace H:=kp (H.out.ext hx);have HXC:=kp hx;clear hx;have hc0:=run_load_cell H.out 2 rfl 0 _ rfl;have hc1:=run_load_cell H.out 2 rfl 1 _ rfl;have hc2:=run_load_cell H.out 2 rfl 2 _ rfl;have hc3:=run_load_cell H.out 2 rfl 3 _ rfl;have hc4:=run_load_cell H.out 2 rfl 4 _ rfl;have hc5:=run_load_cell H.out 2 rfl 5 _ rfl;have hc8:=run_load_cell H.out 2 rfl 8 _ rfl;have hc34:=run_load_cell H.out 2 rfl _ _ (cH34 OK.out);have hc35:=run_load_cell H.out 2 rfl _ _ (cH35 OK.out);have hc36:=run_load_cell H.out 2 rfl _ _ (cH36 OK.out);have hc37:=run_load_cell H.out 2 rfl _ _ (cH37 OK.out);have hc38:=run_load_cell H.out 2 rfl _ _ (cH38 OK.out);have hc39:=run_load_cell H.out 2 rfl _ _ (cH39 OK.out))|(((with_reducible refine isSt 3 ?_);(refine L_cell H rfl rfl 3 _ _ rfl 0 rfl (36) rfl (.int .i64 h.tid) rfl (rfl) (HZi.out) (fitL (used3 h) O3.out.l1 O3.out.l2 O3.out.l3 O3.out.l4 36 (Nat.le_of_ble_eq_true rfl)) (cellsH { used3 h with tid:=h.tid }) (setH36 (used3 h) h.tid O3.out.l1 O3.out.l2 O3.out.l3 O3.out.l4) ?_;clear H;intro wA HWwA H;simp only[szA] at H));have hc0:=run_load_cell H.out 2 rfl 0 _ rfl;have hc1:=run_load_cell H.out 2 rfl 1 _ rfl;have hc2:=run_load_cell H.out 2 rfl 2 _ rfl;have hc3:=run_load_cell H.out 2 rfl 3 _ rfl;have hc4:=run_load_cell H.out 2 rfl 4 _ rfl;have hc5:=run_load_cell H.out 2 rfl 5 _ rfl;have hc8:=run_load_cell H.out 2 rfl 8 _ rfl;have hc34:=run_load_cell H.out 2 rfl _ _ (cH34 OK.out);have hc35:=run_load_cell H.out 2 rfl _ _ (cH35 OK.out);have hc36:=run_load_cell H.out 2 rfl _ _ (cH36 OK.out);have hc37:=run_load_cell H.out 2 rfl _ _ (cH37 OK.out);have hc38:=run_load_cell H.out 2 rfl _ _ (cH38 OK.out);have hc39:=run_load_cell H.out 2 rfl _ _ (cH39 OK.out))|(((with_reducible refine isSt 5 ?_);(refine L_cell H rfl rfl 5 _ _ rfl 0 rfl (37) rfl (.int .u8 h.ack) rfl (rfl) (HZ8.out) (fitL { used3 h with tid:=h.tid } O3.out.l1 O3.out.l2 O3.out.l3 O3.out.l4 37 (Nat.le_of_ble_eq_true rfl)) (cellsH { used3 h with tid:=h.tid,ack:=h.ack }) (setH37 { used3 h with tid:=h.tid } h.ack O3.out.l1 O3.out.l2 O3.out.l3 O3.out.l4) ?_;clear H;intro wB HWwB H;simp only[szA] at H));have hc0:=run_load_cell H.out 2 rfl 0 _ rfl;have hc1:=run_load_cell H.out 2 rfl 1 _ rfl;have hc2:=run_load_cell H.out 2 rfl 2 _ rfl;have hc3:=run_load_cell H.out 2 rfl 3 _ rfl;have hc4:=run_load_cell H.out 2 rfl 4 _ rfl;have hc5:=run_load_cell H.out 2 rfl 5 _ rfl;have hc8:=run_load_cell H.out 2 rfl 8 _ rfl;have hc34:=run_load_cell H.out 2 rfl _ _ (cH34 OK.out);have hc35:=run_load_cell H.out 2 rfl _ _ (cH35 OK.out);have hc36:=run_load_cell H.out 2 rfl _ _ (cH36 OK.out);have hc37:=run_load_cell H.out 2 rfl _ _ (cH37 OK.out);have hc38:=run_load_cell H.out 2 rfl _ _ (cH38 OK.out);have hc39:=run_load_cell H.out 2 rfl _ _ (cH39 OK.out))|(((with_reducible refine isSt 4 ?_);(refine L_cell H rfl rfl 4 _ _ rfl 0 rfl (38) rfl (.bool h.amsdu) rfl (rfl) (HZb.out) (fitL { used3 h with tid:=h.tid,ack:=h.ack } O3.out.l1 O3.out.l2 O3.out.l3 O3.out.l4 38 (Nat.le_of_ble_eq_true rfl)) (cellsH { used3 h with tid:=h.tid,ack:=h.ack,amsdu:=h.amsdu }) (setH38 { used3 h with tid:=h.tid,ack:=h.ack } h.amsdu O3.out.l1 O3.out.l2 O3.out.l3 O3.out.l4) ?_;clear H;intro wC HWwC H;simp only[szA] at H));have hc0:=run_load_cell H.out 2 rfl 0 _ rfl;have hc1:=run_load_cell H.out 2 rfl 1 _ rfl;have hc2:=run_load_cell H.out 2 rfl 2 _ rfl;have hc3:=run_load_cell H.out 2 rfl 3 _ rfl;have hc4:=run_load_cell H.out 2 rfl 4 _ rfl;have hc5:=run_load_cell H.out 2 rfl 5 _ rfl;have hc8:=run_load_cell H.out 2 rfl 8 _ rfl;have hc34:=run_load_cell H.out 2 rfl _ _ (cH34 OK.out);have hc35:=run_load_cell H.out 2 rfl _ _ (cH35 OK.out);have hc36:=run_load_cell H.out 2 rfl _ _ (cH36 OK.out);have hc37:=run_load_cell H.out 2 rfl _ _ (cH37 OK.out);have hc38:=run_load_cell H.out 2 rfl _ _ (cH38 OK.out);have hc39:=run_load_cell H.out 2 rfl _ _ (cH39 OK.out))|((with_reducible refine isSt 4 ?_);(refine L_cell H rfl rfl 4 _ _ rfl 0 rfl (39) rfl (.bool h.eosp) rfl (rfl) (HZb.out) (fitL { used3 h with tid:=h.tid,ack:=h.ack,amsdu:=h.amsdu } O3.out.l1 O3.out.l2 O3.out.l3 O3.out.l4 39 (Nat.le_of_ble_eq_true rfl)) (cellsH { used3 h with tid:=h.tid,ack:=h.ack,amsdu:=h.amsdu,eosp:=h.eosp }) (setH39 { used3 h with tid:=h.tid,ack:=h.ack,amsdu:=h.amsdu } h.eosp O3.out.l1 O3.out.l2 O3.out.l3 O3.out.l4) ?_;clear H;intro wD HWwD H;simp only[szA] at H)));exact CutP.of rfl (by kernel_rfl) H
 rintro vs6 w10 H;simp only[putMany,sbA,szA,ssA];go_wp2_with fail;subst h23;go_wp2_with (first|((with_reducible refine isLd 28 ?_);(refine wpList_load_rowG (by kernel_rfl) 28 _ rfl (g3) rfl 28 (cellsH (usedF h)).toArray (0,0) _ (H.out.at 0 rfl) underlying28 rfl (HZF.out) ?_);simp only[pA])|((with_reducible refine isSt 28 ?_);(refine xSR H 28 1 rfl (cellsH (usedF h)) (HZF.out) (HLF.out) (HOH.out _) ?_;clear H;intro w11 HWw11 H;simp only[ssA,szA] at H)));exact ret_row Tryz.results65 g2 28 (cellsH (usedF h)).toArray (0,0) _ rfl (H.out.at 1 rfl) underlying28 rfl HZF.out rfl ⟨rfl,H.out.1⟩
end Go.Proofs.YtfecopfofkdnpaaGreat
