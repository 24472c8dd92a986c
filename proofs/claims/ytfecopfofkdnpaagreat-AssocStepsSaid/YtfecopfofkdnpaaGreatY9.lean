/- Texts of this proof, put together: En0, Wr2, Qz, Slc, ElF, Rd, Rf1. -/
import Derived.Test.YtfecopfofkdnpaaGreatY8
import Derived.Test.YtfecopfofkdnpaaGreatY5
import Derived.Test.YtfecopfofkdnpaaGreatY6
import Derived.Test.YtfecopfofkdnpaaGreatY1
namespace Go.Proofs.YtfecopfofkdnpaaGreat
open Go.RowKit Tryz
theorem walk0_any (d:Int) (f:Value) (w:World) :
  Calls prog 122 #[.slice none 0 0,.int .i64 d,f] w fun e w'=>e=.returned (.tuple #[])∧w'=w:=by
 go_enter func122,ntmps122;go_wp2_with fail;go_loopw [10] (fun i wr=>i=.int .i64 0∧wr=w) (fun _ _=>0)
 case atStart=>exact⟨rfl,rfl⟩
 case round =>
  obtain⟨rfl,rfl⟩:=hrel;go_wp2_with fail;go_end0
  exact⟨rfl,rfl⟩
theorem write0_any (w:World) :
  Calls prog 114 #[.slice none 0 0] w fun e w'=>e=.returned (.tuple #[.slice none 0 0,.bool true])∧Ext w w':=by
 have H:=kp (Loc.start w);go_enter func114,ntmps114;generalize h5:((Code.region 5 _ _:Code).seq _)=C5;go_wp2_with ((with_reducible refine isAl 4 29 ?_);(with_reducible refine xAL H 29 ([.slice none 0 0]) ?_);clear H;intro g4 w4 HGg4 HEg4 H;simp only[pA]);go_loopw [15] (fun i wr=>i=.int .i64 0∧Kp (Loc w wr [(g4,29,[.slice none 0 0])])) (fun _ _=>0)
 case atStart=>exact⟨rfl,H⟩
 case round =>
  clear H;obtain⟨rfl,H⟩:=hrel;have hc:=run_load_cell H.out 0 rfl 0 _ rfl;go_wp2_with fail;go_ret2
  exact⟨rfl,H.out.1⟩
set_option maxHeartbeats 1600000 in
theorem checkE0_any (w:World) :
  Calls prog 113 #[.slice none 0 0] w fun e w'=>e=.returned (.int .i64 0)∧Ext w w':=by
 have H:=kp (Loc.start w);have HZI:=kp (show (prog.info? 3).map (·.size)=some 1 by kernel_rfl);have HZB:=kp (show (prog.info? 4).map (·.size)=some 1 by kernel_rfl);go_enter func113,ntmps113;go_wp2_with (first|((with_reducible refine isAl 3 3 ?_);(with_reducible refine xAL H 3 ([.int .i64 0]) ?_);clear H;intro g3 w3 HGg3 HEg3 H;simp only[pA])|((with_reducible refine isAl 4 3 ?_);(with_reducible refine xAL H 3 ([.int .i64 0]) ?_);clear H;intro g4 w4 HGg4 HEg4 H;simp only[pA])|((with_reducible refine isAl 5 4 ?_);(with_reducible refine xAL H 4 ([.bool false]) ?_);clear H;intro g5 w5 HGg5 HEg5 H;simp only[pA])|((with_reducible refine isSt 3 ?_);(first|(refine L_cell H rfl rfl 3 _ _ rfl 0 rfl (0) rfl (.int .i64 0) rfl (rfl) (HZI.out) (Nat.zero_lt_one) ([.int .i64 0]) (rfl) ?_;clear H;intro wa HWwa H;simp only[szA] at H)|(refine L_cell H rfl rfl 3 _ _ rfl 1 rfl (0) rfl (.int .i64 0) rfl (rfl) (HZI.out) (Nat.zero_lt_one) ([.int .i64 0]) (rfl) ?_;clear H;intro wa HWwa H;simp only[ssA,szA] at H)|(refine L_cell H rfl rfl 3 _ _ rfl 2 rfl (0) rfl (.int .i64 0) rfl (rfl) (HZI.out) (Nat.zero_lt_one) ([.int .i64 0]) (rfl) ?_;clear H;intro wa HWwa H;simp only[ssA,szA] at H)|(refine L_cell H rfl rfl 3 _ _ rfl 3 rfl (0) rfl (.int .i64 0) rfl (rfl) (HZI.out) (Nat.zero_lt_one) ([.int .i64 0]) (rfl) ?_;clear H;intro wa HWwa H;simp only[ssA,szA] at H)|(refine L_cell H rfl rfl 3 _ _ rfl 4 rfl (0) rfl (.int .i64 0) rfl (rfl) (HZI.out) (Nat.zero_lt_one) ([.int .i64 0]) (rfl) ?_;clear H;intro wa HWwa H;simp only[ssA,szA] at H)|(refine L_cell H rfl rfl 3 _ _ rfl 5 rfl (0) rfl (.int .i64 0) rfl (rfl) (HZI.out) (Nat.zero_lt_one) ([.int .i64 0]) (rfl) ?_;clear H;intro wa HWwa H;simp only[ssA,szA] at H)))|(((with_reducible refine isSt 4 ?_);(first|(refine L_cell H rfl rfl 4 _ _ rfl 0 rfl (0) rfl (.bool false) rfl (rfl) (HZB.out) (Nat.zero_lt_one) ([.bool false]) (rfl) ?_;clear H;intro wc HWwc H;simp only[szA] at H)|(refine L_cell H rfl rfl 4 _ _ rfl 1 rfl (0) rfl (.bool false) rfl (rfl) (HZB.out) (Nat.zero_lt_one) ([.bool false]) (rfl) ?_;clear H;intro wc HWwc H;simp only[ssA,szA] at H)|(refine L_cell H rfl rfl 4 _ _ rfl 2 rfl (0) rfl (.bool false) rfl (rfl) (HZB.out) (Nat.zero_lt_one) ([.bool false]) (rfl) ?_;clear H;intro wc HWwc H;simp only[ssA,szA] at H)|(refine L_cell H rfl rfl 4 _ _ rfl 3 rfl (0) rfl (.bool false) rfl (rfl) (HZB.out) (Nat.zero_lt_one) ([.bool false]) (rfl) ?_;clear H;intro wc HWwc H;simp only[ssA,szA] at H)|(refine L_cell H rfl rfl 4 _ _ rfl 4 rfl (0) rfl (.bool false) rfl (rfl) (HZB.out) (Nat.zero_lt_one) ([.bool false]) (rfl) ?_;clear H;intro wc HWwc H;simp only[ssA,szA] at H)|(refine L_cell H rfl rfl 4 _ _ rfl 5 rfl (0) rfl (.bool false) rfl (rfl) (HZB.out) (Nat.zero_lt_one) ([.bool false]) (rfl) ?_;clear H;intro wc HWwc H;simp only[ssA,szA] at H)));have hc3:=run_load_cell H.out 2 rfl 0 _ rfl;have hc4:=run_load_cell H.out 1 rfl 0 _ rfl;have hc5:=run_load_cell H.out 0 rfl 0 _ rfl)|(go_at_call 122;refine (walk0_any _ _ _).mono ?_;rintro e wa ⟨rfl,rfl⟩)|(go_at_call 114;refine (write0_any _).mono ?_;rintro e wa ⟨rfl,hx⟩;clear hc3 hc4 hc5;replace H:=kp (H.out.ext hx);have HXC:=kp hx;clear hx));go_ret;exact⟨rfl,H.out.1⟩
set_option maxHeartbeats 1600000 in
theorem encode0_any (w:World) :
  Calls prog 103 #[.slice none 0 0] w fun e w'=>e=.returned (.tuple #[.slice none 0 0,.int .i64 0])∧Ext w w':=by
 have H:=kp (Loc.start w);go_enter func103,ntmps103;go_wp2_with (first|(go_at_call 113;refine (checkE0_any _).mono ?_;rintro e wa ⟨rfl,hx⟩;replace H:=kp (H.out.ext hx);have HXC:=kp hx;clear hx)|(go_at_call 114;refine (write0_any _).mono ?_;rintro e wa ⟨rfl,hx⟩;replace H:=kp (H.out.ext hx);have HXC:=kp hx;clear hx));go_ret2
 exact⟨rfl,H.out.1⟩
theorem L_appB2 {w0 w:World} {bs:List Bk} {ops:Array Oper} {rest:List Oper} {o:Oper} {a:Act} {Q:Exit→Act→World→Prop} (H:Kp (Loc w0 w bs)) (hgd:o.guard=none) (s x:Operand)
  (ho:o.op=.call { callee:=.builtin .append,args:=#[s,x],argTypes:=#[29,29] })
  (base:Nat) (hb0:w0.heap.size≤base) (hbase:base≤w.heap.size) (v:Value) (l:List (BitVec 8)) (hs:a.eval s=v) (hown:w.ownsRow base 5 1 v l.length (l.map V8)) (hsep:∀ g∈bs.map (·.1),v.ownBlock≠some g)
  (vx:Value) (m:List (BitVec 8)) (hx:a.eval x=vx) (hsl:SlB w vx m) (hlen:l.length+m.length≤1000000)
  (h:∀ v' w',Kp (w'.ownsRow base 5 1 v' (l++m).length ((l++m).map V8))→Kp (w.grownBy w' v.ownBlock)→Kp (Loc w0 w' bs)→wpList prog ops Q rest (a.put o.dst v') w'):wpList prog ops Q (o::rest) a w:=by
 obtain⟨iu,hiu,hu⟩:=info_iu;refine wpList_append_SlB hgd s x 29 ho base 5 iu underlying29 hiu hu.1 hu.2.1 hu.2.2 v l hs hown vx m hx hsl hlen hbase ?_;intro v' w' ho1 hg1;refine h v' w' (kp ho1) (kp hg1) (kp ⟨H.out.1.grown hg1 (fun k hk=>Nat.le_trans hb0 (owns_block hown k hk)),H.out.2.1,fun b hb=>⟨(H.out.2.2 b hb).1,?_⟩⟩);have h5:=(H.out.2.2 b hb).2;exact (hg1.block b.1 h5.lt (fun e=>hsep b.1 (List.mem_map.2 ⟨b,hb,rfl⟩) e.symm)).trans h5
theorem sep_ty {w:World} {base E T sz n g:Nat} {v:Value} {xs cs:List Value} (h:w.ownsRow base E sz v n xs) (hg:Lc w g T cs) (hne:E≠T):v.ownBlock≠some g:=by
 obtain⟨h1,⟨h2,h3⟩|⟨b,cap,cur,h3,hb,hh,h4⟩⟩:=h
 ·subst h2;intro e;cases e
 ·subst h3;intro e;have e2:b=g:=by simpa[Value.ownBlock] using e
  subst e2;have h5:w.heap[b]?=some (.cells cs.toArray T (0,0)):=hg;rw[h5] at hh;cases hh
  exact hne rfl
theorem sep_one {v:Value} {g T:Nat} {cs:List Value} (h:v.ownBlock≠some g):∀ z∈([(g,T,cs)]:List Bk).map (·.1),v.ownBlock≠some z:=fun z hz=>by
 have e:z=g:=by simpa using hz
 rw[e];exact h
set_option maxHeartbeats 1600000 in
theorem end0_any (g:Nat) (ad:Option Addr) (n c:Nat) (lb:By) (hl:lb.length≤100) (w0 w:World) (H:Kp (Loc w0 w [(g,147,[.slice ad n c])])) (ho:OwB w0.heap.size w (.slice ad n c) lb) :
  Calls prog 104 #[.pointer (some ⟨g,0,none⟩),.slice none 0 0] w fun e w'=>∃ v,e=.returned (.tuple #[v,.int .i64 0])∧OwB w0.heap.size w' v lb∧Ext w0 w':=by
 have HO:=kp ho;have HN:=kp (show n=lb.length from (SlB.of_owns ho).len);have hn:n≤100:=by rw[HN.out];exact hl
 have HS:=kp (sep_ty ho (H.out.at 0 rfl) (show 5≠147 from by decide));have HL:=kp hl;have hc:=run_load_cell H.out 0 rfl 0 _ rfl;clear ho hl;go_enter func104,ntmps104;go_wp2_with (at_builtin;refine L_appB2 H rfl _ _ rfl w0.heap.size (Nat.le_refl _) H.out.1.size _ _ rfl HO.out (sep_one HS.out) _ _ rfl (show SlB _ (.slice none 0 0) [] from .inl ⟨rfl,.inl rfl⟩) (by have:=HL.out;simp;omega) ?_;clear H;intro vb wb HO2 HGB H;simp only[pA]);go_ret2
 exact⟨vb,rfl,by have:=HO2.out;rw[List.append_nil] at this;exact this,H.out.1⟩
set_option maxHeartbeats 1600000 in
theorem elements0_any (g:Nat) (ad:Option Addr) (n c:Nat) (lb:By) (hl:lb.length≤100) (w0 w:World) (H:Kp (Loc w0 w [(g,147,[.slice ad n c])])) (ho:OwB w0.heap.size w (.slice ad n c) lb) :
  Calls prog 85 #[.pointer (some ⟨g,0,none⟩),.slice none 0 0] w fun e w'=>∃ v,e=.returned (.tuple #[v,.int .i64 0])∧OwB w0.heap.size w' v lb∧Ext w0 w':=by
 have HO:=kp ho;have HEN:=kp (fun w H ho=>end0_any g ad n c lb hl w0 w H ho);clear ho hl;go_enter func85,ntmps85;go_wp2_with (first|(go_at_call 103;refine (encode0_any _).mono ?_;rintro e wa ⟨rfl,hx⟩;replace H:=kp (H.out.ext hx);have HXC:=kp hx;clear hx)|(go_at_call 104;refine (HEN.out _ H (owns_ext HO.out HXC.out)).mono ?_;rintro e wb ⟨v,rfl,ho,hx⟩;have HO2:=kp ho;have HX:=kp hx;clear H ho hx));go_ret2
 exact⟨v,rfl,HO2.out,HX.out⟩
def WrO (l:By) (w:World) (e:Ending) (w':World):Prop:=∃ v,e=.returned (.tuple #[v,.int .i64 0])∧OwB w.heap.size w' v l∧Ext w w'
theorem build_wr (w:World):(Instr.build 147 #[]).run prog w=.ok (.agg [Value.slice none 0 0].toArray) w:=by kernel_rfl
theorem bsl_u1 (w:World) (x:Int):(Instr.buildSlice 168 1 #[(0,.int .u16 x)]).run prog w=.ok (.slice (some ⟨w.heap.size,0,none⟩) 1 1) (w.alloc (.cells ([x].flatMap cU).toArray 72)):=by kernel_rfl
theorem bsl_u3 (w:World) (x y z:Int):(Instr.buildSlice 168 3 #[(0,.int .u16 x),(1,.int .u16 y),(2,.int .u16 z)]).run prog w=.ok (.slice (some ⟨w.heap.size,0,none⟩) 3 3) (w.alloc (.cells ([x,y,z].flatMap cU).toArray 72)):=by kernel_rfl
abbrev Loc.sw {w0 w:World} {a b:Bk} {l:List Bk} (h:Loc w0 w (a::b::l)):Loc w0 w (b::a::l):=by
 refine⟨h.1,?_,fun c hc=>h.2.2 c ?_⟩
 ·have:=h.2.1;simp only[List.map_cons,List.nodup_cons,List.mem_cons,not_or] at this ⊢;exact⟨⟨fun e=>this.1.1 e.symm,this.2.1⟩,this.1.2,this.2.2⟩
 ·simp only[List.mem_cons] at hc ⊢;rcases hc with h|h|h
  ·exact .inr (.inl h)
  ·exact .inl h
  ·exact .inr (.inr h)
theorem Loc.only {w0 w:World} {a:Bk} {l:List Bk} (h:Loc w0 w (a::l)):Loc w0 w [a]:=
 ⟨h.1,by simp,fun c hc=>h.2.2 c (by simp only[List.mem_singleton] at hc;simp[hc])⟩
theorem flat2_1 (x:Int):[]++flat2 [x]=two16 x:=by simp[flat2]
theorem flat2_3 (x y z:Int):[]++flat2 [x,y,z]=two16 x++two16 y++two16 z:=by simp[flat2]
def partsRe (code:Int):List Lf:=[Lf.i .u16 code,Lf.s none 0 0]
set_option maxHeartbeats 1600000 in
theorem encReason_any (x:Int) (h0:0≤x) (h1:x≤65535) (w:World) :
  Calls prog 58 #[.agg (cat (partsRe x)).toArray] w (WrO (two16 x) w):=by
 have H:=kp (Loc.start w);have HX2:=kp (show ∀ v∈[x],0≤v∧v≤65535 by intro v hv;simp at hv;subst hv;exact⟨h0,h1⟩);clear h0 h1;go_enter func58,ntmps58;go_wp2_with (first|((with_reducible refine isBx 1 85 ?_);(refine xBX H 85 (cat (partsRe x)) ?_);clear H;intro g1 w1 HGg1 HEg1 H;simp only[pA])|((with_reducible refine isBd 5 147 ?_);(refine L_bd (by kernel_rfl) 147 _ rfl (#[]) (by kernel_rfl) ([.slice none 0 0]) (build_wr) ?_);simp only[pA])|((with_reducible refine isBx 6 147 ?_);(refine xBX H 147 ([.slice none 0 0]) ?_);clear H;intro g6 w6 HGg6 HEg6 H;simp only[pA])|((with_reducible refine isLd 72 ?_);(refine xF1 H 72 1 underlying72 ?_);simp only[pA])|((with_reducible refine isLd 83 ?_);(refine xF1 H 83 2 underlying83 ?_);simp only[pA])|(((with_reducible refine isBs 10 168 ?_);(refine xBS H 168 1 (#[(0,.int .u16 x)]) 72 ([x].flatMap cU) (fun w=>bsl_u1 w x) ?_);clear H;intro g10 w10 HGg10 HEg10 H;simp only[pA]);have H2:=kp H.out.sw;clear H;have H:=H2;clear H2)|(go_at_call 84;refine (two_any [x] HX2.out (by simp) g6 g10 1 rfl none 0 0 [] (by decide) w _ _ H (ownsT_nil _ _ _ _)).mono ?_;rintro e wa ⟨rfl,ad,n,c,hl,ho⟩;have H2:=kp hl;have HO:=kp ho;clear H hl ho;have H:=H2;clear H2)|(go_at_call 85;refine (elements0_any g6 ad n c _ (by simp[two16,flat2]) w _ (kp H.out.only) HO.out).mono ?_;rintro e wb ⟨v,rfl,ho,hx⟩;have HO2:=kp ho;have HX:=kp hx;clear H ho hx));go_ret2
 exact⟨v,rfl,by have:=HO2.out;rw[flat2_1] at this;exact this,HX.out⟩
def partsAu (x y z:Int):List Lf:=[Lf.i .u16 x,Lf.i .u16 y,Lf.i .u16 z,Lf.s none 0 0]
theorem three_range {x y z:Int} (hx:0≤x∧x≤65535) (hy:0≤y∧y≤65535) (hz:0≤z∧z≤65535):∀ v∈[x,y,z],0≤v∧v≤65535:=by
 intro v hv;simp only[List.mem_cons,List.not_mem_nil,or_false] at hv;rcases hv with rfl|rfl|rfl <;> assumption
set_option maxHeartbeats 1600000 in
theorem encAuth_any (x y z:Int) (hx:0≤x∧x≤65535) (hy:0≤y∧y≤65535) (hz:0≤z∧z≤65535) (w:World) :
  Calls prog 79 #[.agg (cat (partsAu x y z)).toArray] w (WrO (two16 x++two16 y++two16 z) w):=by
 have H:=kp (Loc.start w);have HX2:=kp (three_range hx hy hz);clear hx hy hz;go_enter func79,ntmps79;go_wp2_with (first|((with_reducible refine isBx 1 119 ?_);(refine xBX H 119 (cat (partsAu x y z)) ?_);clear H;intro g1 w1 HGg1 HEg1 H;simp only[pA])|((with_reducible refine isBd 5 147 ?_);(refine L_bd (by kernel_rfl) 147 _ rfl (#[]) (by kernel_rfl) ([.slice none 0 0]) (build_wr) ?_);simp only[pA])|((with_reducible refine isBx 6 147 ?_);(refine xBX H 147 ([.slice none 0 0]) ?_);clear H;intro g6 w6 HGg6 HEg6 H;simp only[pA])|((with_reducible refine isLd 72 ?_);(refine xF1 H 72 1 underlying72 ?_);simp only[pA])|((with_reducible refine isLd 83 ?_);(refine xF1 H 83 2 underlying83 ?_);simp only[pA])|(((with_reducible refine isBs 14 168 ?_);(refine xBS H 168 3 (#[(0,.int .u16 x),(1,.int .u16 y),(2,.int .u16 z)]) 72 ([x,y,z].flatMap cU) (fun w=>bsl_u3 w x y z) ?_);clear H;intro g14 w14 HGg14 HEg14 H;simp only[pA]);have H2:=kp H.out.sw;clear H;have H:=H2;clear H2)|(go_at_call 84;refine (two_any [x,y,z] HX2.out (by simp) g6 g14 3 rfl none 0 0 [] (by decide) w _ _ H (ownsT_nil _ _ _ _)).mono ?_;rintro e wa ⟨rfl,ad,n,c,hl,ho⟩;have H2:=kp hl;have HO:=kp ho;clear H hl ho;have H:=H2;clear H2)|(go_at_call 85;refine (elements0_any g6 ad n c _ (by simp[two16,flat2]) w _ (kp H.out.only) HO.out).mono ?_;rintro e wb ⟨v,rfl,ho,hx⟩;have HO2:=kp ho;have HX:=kp hx;clear H ho hx));go_ret2
 exact⟨v,rfl,by have:=HO2.out;rw[flat2_3] at this;exact this,HX.out⟩
def partsRs (x y aid:Int):List Lf:=[Lf.i .u16 x,Lf.i .u16 y,Lf.i .i64 aid,Lf.s none 0 0]
set_option maxHeartbeats 1600000 in
theorem encResp_any (x y z:Int) (hx:0≤x∧x≤65535) (hy:0≤y∧y≤65535) (hz:0≤z∧z≤255) (w:World) :
  Calls prog 82 #[.agg (cat (partsRs x y z)).toArray] w (WrO (two16 x++two16 y++two16 z) w):=by
 have H:=kp (Loc.start w);have HX2:=kp (three_range hx hy (show 0≤z∧z≤65535 by omega));have hz0:¬ z<0:=by omega
 have hz1:¬ 255<z:=by omega
 have hz2:0≤z:=hz.1;have hz3:z≤255:=hz.2;clear hx hy hz;go_enter func82,ntmps82;go_wp2_with (first|((with_reducible refine isBx 1 128 ?_);(refine xBX H 128 (cat (partsRs x y z)) ?_);clear H;intro g1 w1 HGg1 HEg1 H;simp only[pA])|((with_reducible refine isBd 13 147 ?_);(refine L_bd (by kernel_rfl) 147 _ rfl (#[]) (by kernel_rfl) ([.slice none 0 0]) (build_wr) ?_);simp only[pA])|((with_reducible refine isBx 14 147 ?_);(refine xBX H 147 ([.slice none 0 0]) ?_);clear H;intro g14 w14 HGg14 HEg14 H;simp only[pA])|((with_reducible refine isLd 3 ?_);(first|(refine xF1 H 3 0 underlying3 ?_)|(refine xF1 H 3 1 underlying3 ?_));simp only[pA])|((with_reducible refine isLd 72 ?_);(refine xF1 H 72 1 underlying72 ?_);simp only[pA])|((with_reducible refine isLd 83 ?_);(refine xF1 H 83 2 underlying83 ?_);simp only[pA])|(((with_reducible refine isBs 23 168 ?_);(refine xBS H 168 3 (#[(0,.int .u16 x),(1,.int .u16 y),(2,.int .u16 z)]) 72 ([x,y,z].flatMap cU) (fun w=>bsl_u3 w x y z) ?_);clear H;intro g23 w23 HGg23 HEg23 H;simp only[pA]);have H2:=kp H.out.sw;clear H;have H:=H2;clear H2)|(go_at_call 84;refine (two_any [x,y,z] HX2.out (by simp) g14 g23 3 rfl none 0 0 [] (by decide) w _ _ H (ownsT_nil _ _ _ _)).mono ?_;rintro e wa ⟨rfl,ad,n,c,hl,ho⟩;have H2:=kp hl;have HO:=kp ho;clear H hl ho;have H:=H2;clear H2)|(go_at_call 85;refine (elements0_any g14 ad n c _ (by simp[two16,flat2]) w _ (kp H.out.only) HO.out).mono ?_;rintro e wb ⟨v,rfl,ho,hx⟩;have HO2:=kp ho;have HX:=kp hx;clear H ho hx));go_ret2
 exact⟨v,rfl,by have:=HO2.out;rw[flat2_3] at this;exact this,HX.out⟩
def partsRq (x y:Int) (old:Vc 6) (ad:Option Addr) (n c:Nat):List Lf:=[Lf.i .u16 x,Lf.i .u16 y,Lf.v old,Lf.s ad n c]
def zv6:Vc 6:=⟨List.replicate 6 0#8,by simp⟩
section
variable {P:Program}
theorem region_z {id:Nat} {Q:Exit→Act→World→Prop} {a:Act} {w0 w:World} {bs:List Bk} {l:List Oper} (H:Kp (Loc w0 w bs)) (n:Nat) (hm:P.follows .mixedOrders=true)
  (hB:flatB l.toArray n=true) (hT:topoB l.toArray (l.take n)=true) (hF:freshB l.toArray n 1000 100000=true) (hN:n≤1000) (hS:a.tmps.size≤100000)
  (h:∃ A,(∀ x0,wpQuiet P l.toArray (Cx w x0) (fun a'=>a'=A) (l.take n) a)∧∀ w',Kp (Ext w w')→Kp (Loc w0 w' bs)→wpList P l.toArray Q (l.drop n) A w'):(Code.region id l.toArray true).wp P Q a w:=by
 obtain⟨A,h1,h2⟩:=h;exact region_f n hm hB hT hF hN hS ⟨A,h1,fun x=>h2 _ (kp (Ext.more w x)) (kp (H.out.ext (Ext.more w x)))⟩
theorem cx_ext {W w':World} {x0:Xtra} (h:Cx W x0 w'):Ext W w':=(Ext.more _ _).trans (ext_of_cx h)
variable {o:Oper} {a:Act} {w0 w:World} {x0:Xtra} {K:Act→Prop} {bs:List Bk}
theorem qz_1 (H:Kp (Loc w0 w bs)) (ty:TypeId) (x:Operand) (ho:o.op=.load ty x) (k:Nat) {g T:Nat} {ps:List Lf} (hi:bs[k]?=some (g,T,cat ps)) (off:Nat)
  (hx:a.eval x=.pointer (some ⟨g,off,none⟩)) (i:Nat) (hf:fat ps off=some i) (v:Value) {hv ho'} (hp:nth ps i=some ⟨1,[v],hv,ho'⟩) {d:TypeDesc} (hu:P.underlying ty=some d) (hd:d.isRow=false)
  (h:K (a.put o.dst v)):o.quiet P a (Cx w x0) K:=by
 refine⟨v,fun w' hw=>?_,h⟩;have hc:w'.cell? ⟨g,off,none⟩=some v:=((H.out.ext (cx_ext hw)).at k hi).cell (cat_cell hf hp);unfold Oper.quietAt execOp;simp only[ho,hx,Instr.loadAt,Instr.sureAddr,Sem.run_bind,Sem.run_pure,Result.andThen_ok,run_loadVar_cell w' g off ty v hc hu hd];exact⟨rfl,rfl⟩
theorem qz_l (H:Kp (Loc w0 w bs)) (ty:TypeId) (x:Operand) (ho:o.op=.load ty x) (k:Nat) {g T:Nat} {cs:List Value} (hi:bs[k]?=some (g,T,cs)) (off:Nat)
  (hx:a.eval x=.pointer (some ⟨g,off,none⟩)) (ds:List Value) (hds:(cs.drop off).take ds.length=ds) {d:TypeDesc} (hu:P.underlying ty=some d) (hd:d.isRow=true) (hz:(P.info? ty).map (·.size)=some ds.length)
  (h:K (a.put o.dst (.agg ds.toArray))):o.quiet P a (Cx w x0) K:=by
 refine⟨_,fun w' hw=>?_,h⟩;unfold Oper.quietAt execOp;simp only[ho,hx,Instr.loadAt,Instr.sureAddr,Sem.run_bind,Sem.run_pure,Result.andThen_ok,run_loadVar_mid w' g off ty ds d (((H.out.ext (cx_ext hw)).at k hi).range hds) hu hd hz];exact⟨rfl,rfl⟩
theorem qz_v (H:Kp (Loc w0 w bs)) (ty:TypeId) (x:Operand) (ho:o.op=.load ty x) (k:Nat) {g T:Nat} {ps:List Lf} (hi:bs[k]?=some (g,T,cat ps)) (off:Nat)
  (hx:a.eval x=.pointer (some ⟨g,off,none⟩)) (i:Nat) (hf:fat ps off=some i) {n:Nat} {cs:List Value} {hn ho'} (hp:nth ps i=some ⟨n,cs,hn,ho'⟩) {d:TypeDesc} (hu:P.underlying ty=some d) (hd:d.isRow=true) (hz:(P.info? ty).map (·.size)=some n)
  (h:K (a.put o.dst (.agg cs.toArray))):o.quiet P a (Cx w x0) K:=qz_l H ty x ho k hi off hx cs (cat_part hf hp) hu hd (by rw[hz,hn]) h
theorem qz_a (H:Kp (Loc w0 w bs)) (ty:TypeId) (x:Operand) (ho:o.op=.load ty x) (k:Nat) {g T:Nat} {ps:List Lf} (hi:bs[k]?=some (g,T,cat ps))
  (hx:a.eval x=.pointer (some ⟨g,0,none⟩)) {d:TypeDesc} (hu:P.underlying ty=some d) (hd:d.isRow=true) (hz:(P.info? ty).map (·.size)=some (lsum ps))
  (h:K (a.put o.dst (.agg (cat ps).toArray))):o.quiet P a (Cx w x0) K:=qz_l H ty x ho k hi 0 hx (cat ps) (by rw[List.drop_zero,List.take_of_length_le (Nat.le_refl _)]) hu hd (by rw[hz,cat_len]) h
theorem qz_b (b:BinOp) (t u:TypeId) (x y:Operand) (ho:o.op=.binOp b t x y u) (vx vy v:Value) (hx:a.eval x=vx) (hy:a.eval y=vy) (hgm:∀ w',(eqGuard b t x y vx vy).run P w'=.ok () w') (hrun:∀ w',(binOp b t vx vy).run P w'=.ok v w')
  (h:K (a.put o.dst v)):o.quiet P a (Cx w x0) K:=by
 refine⟨v,fun w' hw=>?_,h⟩;unfold Oper.quietAt;simp[execOp,ho,hx,hy,hgm,hrun,Result.andThen];exact⟨rfl,rfl⟩
theorem qz_eq (t u:TypeId) (x y:Operand) (ho:o.op=.binOp .eql t x y u) (cx cy:List Value) (b:Bool) (hx:a.eval x=.agg cx.toArray) (hy:a.eval y=.agg cy.toArray) (hg:P.eqGuardType P.depth t=false) (hq:∀ w',(Op.equalIn 10000 t (.agg cx.toArray) (.agg cy.toArray)).run P w'=.ok b w')
  (h:K (a.put o.dst (.bool b))):o.quiet P a (Cx w x0) K:=
 qz_b .eql t u x y ho _ _ _ hx hy (fun _=>run_eqGuard_agg _ _ _ _ _ _ _ hg) (fun w'=>by rw[run_eql_struct,hq w'];rfl) h
theorem qz_ne (t u:TypeId) (x y:Operand) (ho:o.op=.binOp .neq t x y u) (cx cy:List Value) (b:Bool) (hx:a.eval x=.agg cx.toArray) (hy:a.eval y=.agg cy.toArray) (hg:P.eqGuardType P.depth t=false) (hq:∀ w',(Op.equalIn 10000 t (.agg cx.toArray) (.agg cy.toArray)).run P w'=.ok b w')
  (h:K (a.put o.dst (.bool (!b)))):o.quiet P a (Cx w x0) K:=
 qz_b .neq t u x y ho _ _ _ hx hy (fun _=>run_eqGuard_agg _ _ _ _ _ _ _ hg) (fun w'=>by rw[run_neq_struct,hq w'];rfl) h
theorem qz_c (ty:TypeId) (x:Operand) (ho:o.op=.load ty x) (b off:Nat) (hx:a.eval x=.pointer (some ⟨b,off,none⟩)) (v:Value) (hc:∀ w',Ext w w'→w'.cell? ⟨b,off,none⟩=some v) {d:TypeDesc} (hu:P.underlying ty=some d) (hd:d.isRow=false)
  (h:K (a.put o.dst v)):o.quiet P a (Cx w x0) K:=by
 refine⟨v,fun w' hw=>?_,h⟩;unfold Oper.quietAt execOp;simp only[ho,hx,Instr.loadAt,Instr.sureAddr,Sem.run_bind,Sem.run_pure,Result.andThen_ok,run_loadVar_cell w' b off ty v (hc w' (cx_ext hw)) hu hd];exact⟨rfl,rfl⟩
theorem qz_bd (t:TypeId) (parts:Array (Nat × Operand)) (ho:o.op=.build t parts) (ps:Array (Nat × Value)) (hp:parts.map (fun p=>(p.1,a.eval p.2))=ps) (cs:List Value) (hrun:∀ w',(Instr.build t ps).run P w'=.ok (.agg cs.toArray) w')
  (h:K (a.put o.dst (.agg cs.toArray))):o.quiet P a (Cx w x0) K:=by
 refine⟨_,fun w' hw=>?_,h⟩;unfold Oper.quietAt execOp;simp only[ho,Sem.run_bind,hp,hrun w',Result.andThen_ok,Sem.run_pure];exact⟨rfl,rfl⟩
end
section
variable {P:Program} {o:Oper} {a:Act} {w0 w:World} {x0:Xtra} {K:Act→Prop} {bs:List Bk}
theorem xRZ {id:Nat} {Q:Exit→Act→World→Prop} {l:List Oper} (H:Kp (Loc w0 w bs)) (n:Nat) (h:∃ A,(∀ x0,wpQuiet P l.toArray (Cx w x0) (fun a'=>a'=A) (l.take n) a)∧∀ w',Kp (Ext w w')→Kp (Loc w0 w' bs)→wpList P l.toArray Q (l.drop n) A w') (hm:P.follows .mixedOrders=true:=by kernel_rfl) (hB:flatB l.toArray n=true:=by kernel_rfl) (hT:topoB l.toArray (l.take n)=true:=by kernel_rfl) (hF:freshB l.toArray n 1000 100000=true:=by kernel_rfl) (hN:n≤1000:=by decide) (hS:a.tmps.size≤100000:=by exact Nat.le_of_ble_eq_true (by kernel_rfl)):(Code.region id l.toArray true).wp P Q a w:=region_z H n hm hB hT hF hN hS h
theorem xQA (H:Kp (Loc w0 w bs)) (ty:TypeId) (k:Nat) {x:Operand} {g T:Nat} {ps:List Lf} {d:TypeDesc} (hu:P.underlying ty=some d) (h:K (a.put o.dst (.agg (cat ps).toArray))) (ho:o.op=.load ty x:=by exact rfl) (hi:bs[k]?=some (g,T,cat ps):=by exact rfl) (hx:a.eval x=.pointer (some ⟨g,0,none⟩):=by exact rfl) (hd:d.isRow=true:=by exact rfl) (hz:(P.info? ty).map (·.size)=some (lsum ps):=by kernel_rfl):o.quiet P a (Cx w x0) K:=qz_a H ty x ho k hi hx hu hd hz h
theorem xQV (H:Kp (Loc w0 w bs)) (ty:TypeId) (k:Nat) {x:Operand} {g T:Nat} {ps:List Lf} {off i n:Nat} {cs:List Value} {hn ho'} {d:TypeDesc} (hu:P.underlying ty=some d) (h:K (a.put o.dst (.agg cs.toArray))) (ho:o.op=.load ty x:=by exact rfl) (hi:bs[k]?=some (g,T,cat ps):=by exact rfl) (hx:a.eval x=.pointer (some ⟨g,off,none⟩):=by exact rfl) (hf:fat ps off=some i:=by exact rfl) (hp:nth ps i=some ⟨n,cs,hn,ho'⟩:=by exact rfl) (hd:d.isRow=true:=by exact rfl) (hz:(P.info? ty).map (·.size)=some n:=by kernel_rfl):o.quiet P a (Cx w x0) K:=qz_v H ty x ho k hi off hx i hf hp hu hd hz h
theorem xQ1 (H:Kp (Loc w0 w bs)) (ty:TypeId) (k:Nat) {x:Operand} {g T:Nat} {ps:List Lf} {off i:Nat} {v:Value} {hv ho'} {d:TypeDesc} (hu:P.underlying ty=some d) (h:K (a.put o.dst v)) (ho:o.op=.load ty x:=by exact rfl) (hi:bs[k]?=some (g,T,cat ps):=by exact rfl) (hx:a.eval x=.pointer (some ⟨g,off,none⟩):=by exact rfl) (hf:fat ps off=some i:=by exact rfl) (hp:nth ps i=some ⟨1,[v],hv,ho'⟩:=by exact rfl) (hd:d.isRow=false:=by exact rfl):o.quiet P a (Cx w x0) K:=qz_1 H ty x ho k hi off hx i hf v hp hu hd h
end
def cutA (ad:Option Addr) (l c s:Nat):Option Addr:=if c=l then ad else ad.map (·.add (l*s))
theorem cutA_some (b o l c s:Nat) (h:c≠l):cutA (some ⟨b,o,none⟩) l c s=some ⟨b,o+l*s,none⟩:=by
 unfold cutA;rw[if_neg h];simp[Addr.add_mid]
theorem cutA_none (l c s:Nat):cutA none l c s=none:=by unfold cutA;split <;> rfl
section
variable {P:Program} {t e:TypeId} {s:Nat}
theorem elem_of (hu:P.underlying t=some (.slice e)):P.underlying t=some (.slice (P.elem t))∧P.elem t=e:=by
 have:P.elem t=e:=by simp[Program.elem,hu]
 exact⟨by rw[this];exact hu,this⟩
theorem run_sz (w:World) (hz:(P.info? e).map (·.size)=some s):(sizeOf e).run P w=.ok s w:=by
 cases hq:P.info? e with
 |none=>simp[hq] at hz
 |some i =>
  have:i.size=s:=by simpa[hq] using hz
  simp[sizeOf,typeInfo,hq,this]
theorem run_cut2 (w:World) (hu:P.underlying t=some (.slice e)) (hz:(P.info? e).map (·.size)=some s) (ad:Option Addr) (n c l h:Nat) (h1:l≤h) (h2:h≤c):(Instr.sliceAt t (.slice ad n c) (some (.int .i64 (l:Int))) (some (.int .i64 (h:Int))) none).run P w=.ok (.slice (cutA ad l c s) (h-l) (c-l)) w:=by
 obtain⟨hu2,he⟩:=elem_of hu;rw[run_sliceAt_slice w t _ _ _ _ hu2,run_slice_lh w t ad n c hu2 .i64 .i64 l h (by omega) (by omega) (by omega),he,run_sz w hz];simp[Result.andThen,sliced,cutA]
theorem run_cutL (w:World) (hu:P.underlying t=some (.slice e)) (hz:(P.info? e).map (·.size)=some s) (ad:Option Addr) (n c l:Nat) (h1:l≤n):(Instr.sliceAt t (.slice ad n c) (some (.int .i64 (l:Int))) none none).run P w=.ok (.slice (cutA ad l c s) (n-l) (c-l)) w:=by
 obtain⟨hu2,he⟩:=elem_of hu;rw[run_sliceAt_slice w t _ _ _ _ hu2,run_slice_l w t ad n c hu2 .i64 l (by omega) (by omega),he,run_sz w hz];simp[Result.andThen,sliced,cutA]
theorem run_cutH (w:World) (hu:P.underlying t=some (.slice e)) (hz:(P.info? e).map (·.size)=some s) (ad:Option Addr) (n c h:Nat) (h2:h≤c):(Instr.sliceAt t (.slice ad n c) none (some (.int .i64 (h:Int))) none).run P w=.ok (.slice ad h c) w:=by
 obtain⟨hu2,he⟩:=elem_of hu;rw[run_sliceAt_slice w t _ _ _ _ hu2,run_slice_h w t ad n c hu2 .i64 h (by omega) (by omega),he,run_sz w hz];simp only[Result.andThen,sliced,Int.toNat_natCast,Nat.zero_mul,Nat.sub_zero]
 congr 2
 split
 ·rfl
 ·cases ad with
  |none=>rfl
  |some a=>simp[Addr.add]
theorem run_cut3 (w:World) (hu:P.underlying t=some (.slice e)) (hz:(P.info? e).map (·.size)=some s) (ad:Option Addr) (n c l h m:Nat) (h1:l≤h) (h2:h≤m) (h3:m≤c):(Instr.sliceAt t (.slice ad n c) (some (.int .i64 (l:Int))) (some (.int .i64 (h:Int))) (some (.int .i64 (m:Int)))).run P w=.ok (.slice (cutA ad l m s) (h-l) (m-l)) w:=by
 obtain⟨hu2,he⟩:=elem_of hu;rw[run_sliceAt_slice w t _ _ _ _ hu2,run_slice_lhm w t ad n c hu2 .i64 .i64 .i64 l h m (by omega) (by omega) (by omega) (by omega),he,run_sz w hz];simp[Result.andThen,sliced,cutA]
variable {ops:Array Oper} {rest:List Oper} {o:Oper} {a:Act} {w:World} {Q:Exit→Act→World→Prop}
theorem L_cut (hgd:Region.wanted o (yielded ops a.tmps)=true) (t:TypeId) (x:Operand) (lo hi mx:Option Operand) (ho:o.op=.slice t x lo hi mx) (v:Value) (vx:Value) (vl vh vm:Option Value) (hx:a.eval x=vx) (hl:lo.map a.eval=vl) (hh:hi.map a.eval=vh) (hm:mx.map a.eval=vm)
  (hrun:(Instr.sliceAt t vx vl vh vm).run P w=.ok v w) (h:wpList P ops Q rest (a.put o.dst v) w):wpList P ops Q (o::rest) a w:=by
 refine wpList_step fun K hK=>?_;rw[if_pos hgd];unfold Oper.wp execOp;simp only[ho,hx,hl,hh,hm,Sem.run_bind,Sem.run_pure,hrun,Result.andThen_ok];exact hK _ _ h
theorem qz_cut {x0:Xtra} {K:Act→Prop} (t:TypeId) (x:Operand) (lo hi mx:Option Operand) (ho:o.op=.slice t x lo hi mx) (v:Value) (vx:Value) (vl vh vm:Option Value) (hx:a.eval x=vx) (hl:lo.map a.eval=vl) (hh:hi.map a.eval=vh) (hm:mx.map a.eval=vm)
  (hrun:∀ w,(Instr.sliceAt t vx vl vh vm).run P w=.ok v w) (h:K (a.put o.dst v)):o.quiet P a (Cx w x0) K:=by
 refine⟨v,fun w' hw=>?_,h⟩;unfold Oper.quietAt execOp;simp only[ho,hx,hl,hh,hm,Sem.run_bind,Sem.run_pure,hrun,Result.andThen_ok];exact⟨rfl,rfl⟩
end
theorem SlB.cut {w:World} {ad:Option Addr} {n c:Nat} {b:By} (h:SlB w (.slice ad n c) b) (hc:n≤c) (l m:Nat) (h1:l≤m) (h2:m≤n):SlB w (.slice (cutA ad l c 1) (m-l) (c-l)) ((b.take m).drop l):=by
 have hn:=h.len;have hr:((b.take m).drop l).length=m-l:=by simp;omega
 by_cases hz:l=m
 ·subst hz;have e:(b.take l).drop l=[]:=List.length_eq_zero_iff.1 (by rw[hr];omega);rw[e];refine .inl ⟨rfl,?_⟩;rw[Nat.sub_self];cases ad with
  |none =>
   rw[cutA_none];rcases h with ⟨_,h|⟨a,c',h⟩⟩|⟨b',off,c',h,_⟩
   ·cases h;exact .inl (by simp)
   ·cases h
   ·cases h
  |some a =>
   right
   unfold cutA
   split
   ·exact⟨_,_,rfl⟩
   ·exact⟨_,_,rfl⟩
 ·rcases h with ⟨h,_⟩|⟨b',off,c',h,hb,hat⟩
  ·subst h;simp at hn;omega
  ·cases h
   rw[cutA_some _ _ _ _ _ (by omega)];refine .inr ⟨b',off+l,c-l,by rw[hr];simp,hb,fun j x hj=>?_⟩;rw[List.getElem?_drop,List.getElem?_take] at hj
   split at hj
   ·have:=hat _ _ hj
    rwa [show off+l+j=off+(l+j) by omega]
   ·cases hj
def contF:Nat→List (BitVec 8)→List (BitVec 8)→List (BitVec 8) × List (BitVec 8) × Int
 |0,_,_=>([],[],10)
 |k+1,b,c=>match b with
  |[]=>([],[],10)
  |n::b'=>if b'.length<n.toNat then ([],[],10)
   else if n.toNat<255 then (c++b'.take n.toNat,b'.drop n.toNat,0)
   else match b'.drop n.toNat with
    |[]=>([],[],10)
    |m::r=>if m.toNat=254 then contF k r (c++b'.take n.toNat) else ([],[],12)
def contOf (b:List (BitVec 8)):List (BitVec 8) × List (BitVec 8) × Int:=contF b.length b []
def containerF (i:BitVec 8):Bool:=decide (200≤i.toNat)&&decide (i.toNat<220)
def mostF (i:BitVec 8):Nat:=if i.toNat=255 then 1025 else 1024
def oneF (last:Bool) (lst:Nat→List (BitVec 8)→Nat × Int) (m:Nat) (b:List (BitVec 8)):List (BitVec 8) × Nat × Int:=
 if m=64 then ([],m,4) else match b with
 |[]=>([],m+1,0)
 |i::b1=>if i.toNat=254 then ([],m+1,12)
  else if (contOf b1).2.2≠0 then ([],m+1,(contOf b1).2.2)
  else if mostF i<(contOf b1).1.length then ([],m+1,11)
  else if i.toNat=255∧(contOf b1).1=[] then ([],m+1,12)
  else if containerF i=false then ((contOf b1).2.1,m+1,0)
  else if last=true∧(contOf b1).1≠[] then ([],m+1,4)
  else ((contOf b1).2.1,(lst (m+1) (contOf b1).1).1,(lst (m+1) (contOf b1).1).2)
def loopF (one:Nat→List (BitVec 8)→List (BitVec 8) × Nat × Int):Nat→Nat→List (BitVec 8)→Nat × Int
 |0,m,_=>(m,0)
 |k+1,m,b=>if b=[] then (m,0) else if (one m b).2.2≠0 then ((one m b).2.1,(one m b).2.2) else loopF one k (one m b).2.1 (one m b).1
def listF:Nat→Nat→List (BitVec 8)→Nat × Int
 |0,m,_=>(m,0)
 |lv+1,m,b=>loopF (oneF (lv==0) (listF lv)) b.length m b
def elemE (b:List (BitVec 8)):Int:=(listF 4 0 b).2
def frontE (b:List (BitVec 8)) (n:Nat):Int:=if 2304<b.length then 11 else if b.length<n then 10 else elemE (b.drop n)
def dA (b:List (BitVec 8)):Option (Int × Int):=if frontE b 6=0 then some (rdF b 0,rdF b 2) else none
def dJ (again:Bool) (b:List (BitVec 8)):Option (Int × Int):=if frontE b (if again then 10 else 4)=0 then some (rdF b 0,rdF b 2) else none
def dL (b:List (BitVec 8)):Bool:=decide (frontE b 2=0)
theorem wI_bound (x:BitVec 8):0≤wI x∧wI x≤255:=by have:=x.isLt;unfold wI;omega
theorem rd_range (b:List (BitVec 8)) (i:Nat):0≤rdF b i∧rdF b i≤65535:=by
 have h1:=wI_bound (b.getD i 0);have h2:=wI_bound (b.getD (i+1) 0);unfold rdF;omega
theorem dJ_range {g:Bool} {b:List (BitVec 8)} {ca li:Int} (h:dJ g b=some (ca,li)):0≤ca∧ca≤65535∧0≤li∧li≤65535:=by
 unfold dJ at h;by_cases c:frontE b (if g then 10 else 4)=0
 ·rw[if_pos c] at h;have h1:=rd_range b 0;have h2:=rd_range b 2;simp only[Option.some.injEq,Prod.mk.injEq] at h;omega
 ·rw[if_neg c] at h;cases h
theorem ret_tct {P:Program} {fn:Func} {R:Ending→World→Prop} {w0 w:World} {bs:List Bk} {a:Act} {p q r:Tmp} {ty:TypeId} (H:Kp (Loc w0 w bs)) (h:fn.results=#[.tmp r,.cell p ty,.tmp q]) (k:Nat) {g T:Nat} {ps:List Lf} (hi:bs[k]?=some (g,T,cat ps)) (hp:a.tmps.getD p undef=.pointer (some ⟨g,0,none⟩)) (v u:Value) (hr:a.tmps.getD r undef=v) (hv:a.tmps.getD q undef=u)
  {d:TypeDesc} (hu:P.underlying ty=some d) (hd:(match d with|.struct _|.array _ _=>true|_=>false)=true) (hz:(P.info? ty).map (·.size)=some (lsum ps)) (hdf:a.defers=[]) (hR:R (.returned (.tuple #[v,.agg (cat ps).toArray,u])) w):bodyPost P fn R .ret a w:=by
 refine bodyPost_ret ?_ hdf hR;have hp':a.tmps[p]?.getD undef=.pointer (some ⟨g,0,none⟩):=by simpa using hp
 have hv':a.tmps[q]?.getD undef=u:=by simpa using hv
 have hr':a.tmps[r]?.getD undef=v:=by simpa using hr
 have hg:=H.out.at k hi;simp[results,h,hr',hp',hv',asAddr,run_loadVar_row w g T ty (cat ps).toArray (0,0) d hg hu hd (by rw[hz,List.size_toArray,cat_len])]
theorem Loc.sepHd {w0 w:World} {g T n c:Nat} {cs:List Value} {bs:List Bk} (h:Loc w0 w ((g,T,cs)::bs)):∀ z∈bs.map (·.1),(Value.slice (some ⟨g,0,none⟩) n c).ownBlock≠some z:=fun z hz e=>by
 have e2:g=z:=by simpa[Value.ownBlock] using e
 subst e2;exact (List.nodup_cons.1 h.2.1).1 hz
theorem take_drop (b:By) (p m:Nat):(b.take (p+m)).drop p=(b.drop p).take m:=by
 rw[List.drop_take];congr 1;omega
def partsRd (ad:Option Addr) (n c:Nat) (at_:Int):List Lf:=[Lf.s ad n c,Lf.i .i64 at_]
def partsR (ad:Option Addr) (n c:Nat) (at_ e:Int):List Lf:=[Lf.s ad n c,Lf.i .i64 at_,Lf.i .i64 e]
set_option maxHeartbeats 1600000 in
theorem ocheck_any (ad:Option Addr) (n c:Nat) (p:Nat) (hp:p≤n) (w:World) :
  Calls prog 121 #[.agg (cat (partsRd ad n c p)).toArray] w fun e w'=>e=.returned (.int .i64 0)∧Ext w w':=by
 have H:=kp (Loc.start w);go_enter func121,ntmps121;go_wp2_with (first|((with_reducible refine isBx 1 180 ?_);(refine xBX H 180 (cat (partsRd ad n c p)) ?_);clear H;intro g1 w1 HGg1 HEg1 H;simp only[pA])|((with_reducible refine isLd 3 ?_);(refine xF1 H 3 0 underlying3 ?_);simp only[pA])|((with_reducible refine isLd 29 ?_);(refine xF1 H 29 0 underlying29 ?_);simp only[pA]));go_ret;exact⟨rfl,H.out.1⟩
def TakeR (ad:Option Addr) (n c:Nat) (b:By) (p m:Nat) (w:World) (e:Ending) (w':World):Prop:=∃ v,Ext w w'∧((p+m≤n∧e=.returned (.tuple #[v,.agg (cat (partsRd ad n c ((p+m:Nat):Int))).toArray,.int .i64 0])∧OwB w.heap.size w' v ((b.drop p).take m))∨(n<p+m∧e=.returned (.tuple #[v,.agg (cat (partsRd none 0 0 0)).toArray,.int .i64 10])))
set_option maxHeartbeats 1600000 in
theorem take_any (ad:Option Addr) (n c:Nat) (b:By) (hb:n≤1000000) (hcap:n≤c) (p m:Nat) (hp:p≤n) (hm:m≤1000000) (w:World) (hs:SlB w (.slice ad n c) b) :
  Calls prog 111 #[.agg (cat (partsRd ad n c p)).toArray,.int .i64 m] w (TakeR ad n c b p m w):=by
 have H:=kp (Loc.start w);have HS:=kp hs;have HN:=kp hs.len;have HCK:=kp (fun w=>ocheck_any ad n c p hp w);clear hs;by_cases hpm:p+m≤n
 ·have HPM:=kp hpm;have hlt:¬ ((n:Int)-(p:Int)<(m:Int)):=by omega
  have HLB:=kp (show ([]:By).length+((b.take (p+m)).drop p).length≤1000000 by simp;omega);have HSC:=kp (fun w hs=>SlB.cut (w:=w) (ad:=ad) (n:=n) (c:=c) (b:=b) hs hcap p (p+m) (by omega) hpm);have HRB:=kp (take_drop b p m);go_enter func111,ntmps111;generalize h10:Code.region 10 _ _=R10;go_wp2_with (first|((at_builtin;(have HSX:=kp (HSC.out _ (HS.out.ext H.out.1));have HOX2:=kp (HOW.out);have HSPX:=kp (HSP.out);refine L_appB2 H rfl _ _ rfl _ (Nat.le_refl _) H.out.1.size _ _ rfl HOX2.out HSPX.out _ _ rfl HSX.out (HLB.out) ?_;clear H HSX HOX2 HSPX;intro vb wb HO HGwb H;simp only[pA]));have HG2:=kp (show Lc wb g2 180 _ from H.out.at 1 rfl))|((with_reducible refine isBx 2 180 ?_);(refine xBX H 180 (cat (partsRd ad n c p)) ?_);clear H;intro g2 w2 HGg2 HEg2 H;simp only[pA])|((with_reducible refine isAl 5 180 ?_);(refine xAL H 180 (cat (partsRd none 0 0 0)) ?_);clear H;intro g5 w5 HGg5 HEg5 H;simp only[pA])|((with_reducible refine isLd 180 ?_);(refine xFA H 180 1 underlying180 ?_);simp only[pA])|((with_reducible refine isLd 3 ?_);(refine xF1 H 3 1 underlying3 ?_);simp only[pA])|((with_reducible refine isLd 29 ?_);(refine xF1 H 29 1 underlying29 ?_);simp only[pA])|(go_at_call 121;refine (HCK.out _).mono ?_;rintro e wa ⟨rfl,hx⟩;replace H:=kp (H.out.ext hx);have HXC:=kp hx;clear hx)|(((with_reducible refine isBs 27 29 ?_);(refine xBS H 29 0 (#[]) 5 ([]) (fun _=>by kernel_rfl) ?_);clear H;intro g27 w27 HGg27 HEg27 H;simp only[pA]);have HOW:=kp (owns_room (l:=[]) (zs:=[]) (n:=0) (c:=0) (H.out.at 0 rfl) (H.out.le 0 rfl) rfl rfl (by decide));have HSP:=kp (H.out.sepHd (n:=0) (c:=0));have H2:=kp H.out.tl;clear H;have H:=H2;clear H2)|((with_reducible show wpList _ _ _ (Oper.mk _ (Op.slice 29 _ _ _ _) _ _ _ _::_) _ _);(refine L_cut (by kernel_rfl) 29 _ _ _ _ rfl _ _ _ _ _ rfl rfl rfl rfl (run_cut2 _ underlying29 (sizeU8q) _ _ _ (p) (p+m) (by omega) (by omega)) ?_);simp only[pA])|((with_reducible refine isSt 3 ?_);(refine xS1 H 3 1 (partsRd ad n c ((p+m:Nat):Int)) ?_;clear H;intro wc HWwc H;simp only[ssA,szA] at H)));have HO2:=kp (owns_wroteT HO.out HWwc.out HG2.out (show 5≠180 from by decide));subst h10;refine xRZ H 3 ?_;apply Exists.intro;refine⟨fun xz2=>?_,fun wz2 HXZ H=>?_⟩
  ·simp only[tK];unfold Cx;repeat (first|((with_reducible refine isQl 180 ?_);go_big_quiet_want;(refine xQA H 180 1 underlying180 ?_);simp only[pA];go_big_quiet_on)|go_big_quiet_step (fail))
   exact wpQuiet_nil rfl
  simp only[dR];have HG5:=kp (show Lc _ g5 180 _ from H.out.at 0 rfl);have HO3:=kp (owns_ext HO2.out HXZ.out);go_wp2_with ((with_reducible refine isSt 180 ?_);(refine xSA H 180 0 (partsRd ad n c ((p+m:Nat):Int)) ?_;clear H;intro wd HWwd H;simp only[szA] at H));have HO4:=kp (owns_wroteT HO3.out HWwd.out HG5.out (show 5≠180 from by decide));rw[List.nil_append,HRB.out] at HO4;exact ret_tct H Tryz.results111 0 rfl rfl _ _ rfl rfl underlying180 rfl (by kernel_rfl) rfl ⟨vb,H.out.1,.inl ⟨HPM.out,rfl,HO4.out⟩⟩
 ·have hlt:(n:Int)-(p:Int)<(m:Int):=by omega
  go_enter func111,ntmps111;go_wp2_with (first|((with_reducible refine isBx 2 180 ?_);(refine xBX H 180 (cat (partsRd ad n c p)) ?_);clear H;intro g2 w2 HGg2 HEg2 H;simp only[pA])|((with_reducible refine isAl 5 180 ?_);(refine xAL H 180 (cat (partsRd none 0 0 0)) ?_);clear H;intro g5 w5 HGg5 HEg5 H;simp only[pA])|((with_reducible refine isLd 180 ?_);(refine xFA H 180 1 underlying180 ?_);simp only[pA])|((with_reducible refine isLd 3 ?_);(refine xF1 H 3 1 underlying3 ?_);simp only[pA])|((with_reducible refine isLd 29 ?_);(refine xF1 H 29 1 underlying29 ?_);simp only[pA])|(go_at_call 121;refine (HCK.out _).mono ?_;rintro e wa ⟨rfl,hx⟩;replace H:=kp (H.out.ext hx);have HXC:=kp hx;clear hx)|((with_reducible refine isBd 26 180 ?_);(refine xBD 180 (#[]) (cat (partsRd none 0 0 0)) ?_);simp only[pA])|((with_reducible refine isSt 180 ?_);(refine xSA H 180 0 (partsRd none 0 0 0) ?_;clear H;intro wa HWwa H;simp only[szA] at H)));exact ret_tct H Tryz.results111 0 rfl rfl _ _ rfl rfl underlying180 rfl (by kernel_rfl) rfl ⟨_,H.out.1,.inr ⟨by omega,rfl⟩⟩
theorem copyR_any (v:Value) (l:By) (hn:l.length≤100000) (w:World) (hs:SlB w v l) :
  Calls prog 118 #[v] w (RetO l w):=by
 have H:=kp (Loc.start w);have HS:=kp hs;have HN:=kp hn;clear hs;go_enter func118,ntmps118;go_wp2_with (first|(((with_reducible refine isBs 3 29 ?_);(refine xBS H 29 0 (#[]) 5 ([]) (fun _=>by kernel_rfl) ?_);clear H;intro ge we HGge HEge H;simp only[pA]);have HOW:=kp (owns_room (l:=[]) (zs:=[]) (n:=0) (c:=0) (H.out.at 0 rfl) (H.out.le 0 rfl) rfl rfl (by decide));have HSP:=kp (H.out.sepHd (n:=0) (c:=0));have H2:=kp H.out.tl;clear H;have H:=H2;clear H2)|(at_builtin;(have HSX:=kp (HS.out.ext H.out.1);have HOX2:=kp (HOW.out);have HSPX:=kp (HSP.out);refine L_appB2 H rfl _ _ rfl _ (Nat.le_refl _) H.out.1.size _ _ rfl HOX2.out HSPX.out _ _ rfl HSX.out ((by have:=HN.out;simp;omega)) ?_;clear H HSX HOX2 HSPX;intro vb wb HO HGwb H;simp only[pA])));go_ret;exact⟨_,rfl,by have:=HO.out;rw[List.nil_append] at this;exact this,H.out.1⟩
set_option maxHeartbeats 1600000 in
theorem putR_any (vb:Value) (lb:By) (hb:lb.length≤100) (v:Int) (h0:0≤v) (h1:v≤65535) (w:World) (hs:SlB w vb lb) :
  Calls prog 107 #[vb,.int .u64 v,.int .i64 2] w (RetO (lb++two16 v) w):=by
 have H:=kp (Loc.start w);have HCP:=kp (copyR_any vb lb (by omega) w hs);have HLB:=kp hb;clear hs hb;go_enter func107,ntmps107;go_wp2_with (go_at_call 118;refine HCP.out.mono ?_;rintro e wa ⟨v',rfl,ho,hx⟩;have HO:=kp ho;clear ho;replace H:=kp (H.out.ext hx);have HXC:=kp hx;clear hx);have HO1:=kp (show OwB w.heap.size wa v' (lb++(two16 v).take 0) by rw[List.take_zero,List.append_nil];exact HO.out);clear HO;have HO:=HO1;clear HO1;go_loopw [1,7,8] (fun x b i wr=>∃ j:Nat,j≤2∧i=.int .i64 j∧x=.int .u64 (if j=0 then v else if j=1 then v / 256 else 0)∧Kp (OwB w.heap.size wr b (lb++(two16 v).take j))∧Kp (Loc w wr [])) (fun _ _ i _=>2-(intOf i).toNat)
 case atStart=>exact⟨0,by omega,rfl,rfl,HO,H⟩
 case round =>
  obtain⟨j,hj,rfl,rfl,HO,H⟩:=hrel;have HLN:=kp (show (lb++(two16 v).take j).length≤102 by have:=HLB.out;simp[two16];omega);by_cases hlt:j<2
  ·have hj2:j=0∨j=1:=by omega
   rcases hj2 with rfl|rfl
   ·rw[if_pos rfl];go_wp2_with (first|((with_reducible refine isBs 20 29 ?_);(refine xBS H 29 1 (#[(0,.int .u8 (v % 256))]) 5 ([.int .u8 (v % 256)]) (fun _=>by kernel_rfl) ?_);clear H;intro g20 w20 HGg20 HEg20 H;simp only[pA])|(at_builtin;(have HSX:=kp (slb1 (H.out.at 0 rfl));have HOX2:=kp (owns_ext HO.out HEg20.out);have H2:=kp H.out.tl;clear H;have H:=H2;clear H2;refine L_appB H rfl _ _ rfl (w.heap.size) (by have q1:=H.out.1.size;omega) (by have q1:=H.out.1.size;omega) (by intro zz hz;first|(simp at hz;done)|(simp at hz;have q1:=H.out.1.size;omega)) _ _ rfl HOX2.out _ _ rfl HSX.out ((by have:=HLN.out;exact Nat.le_trans (Nat.add_le_add_right this 1) (by omega))) ?_;clear H HSX HOX2;intro vc wc HO2 HGwc H;simp only[pA])));go_roundw
    case rel=>exact⟨1,by omega,by go_num,by simp;try omega,kp (by have:=HO2.out;rw[List.append_assoc] at this;exact this),H⟩
    case measure=>simp[intOf]
   ·rw[if_neg (by decide),if_pos rfl];go_wp2_with (first|((with_reducible refine isBs 20 29 ?_);(refine xBS H 29 1 (#[(0,.int .u8 (v / 256 % 256))]) 5 ([.int .u8 (v / 256 % 256)]) (fun _=>by kernel_rfl) ?_);clear H;intro g20 w20 HGg20 HEg20 H;simp only[pA])|(at_builtin;(have HSX:=kp (slb1 (H.out.at 0 rfl));have HOX2:=kp (owns_ext HO.out HEg20.out);have H2:=kp H.out.tl;clear H;have H:=H2;clear H2;refine L_appB H rfl _ _ rfl (w.heap.size) (by have q1:=H.out.1.size;omega) (by have q1:=H.out.1.size;omega) (by intro zz hz;first|(simp at hz;done)|(simp at hz;have q1:=H.out.1.size;omega)) _ _ rfl HOX2.out _ _ rfl HSX.out ((by have:=HLN.out;exact Nat.le_trans (Nat.add_le_add_right this 1) (by omega))) ?_;clear H HSX HOX2;intro vc wc HO2 HGwc H;simp only[pA])));go_roundw
    case rel=>exact⟨2,by omega,by go_num,by simp;try omega,kp (by have:=HO2.out;rw[List.append_assoc] at this;exact this),H⟩
    case measure=>simp[intOf]
  ·obtain rfl:j=2:=by omega
   go_wp2_with fail;go_ret;exact⟨_,rfl,HO.out,H.out.1⟩
end Go.Proofs.YtfecopfofkdnpaaGreat
