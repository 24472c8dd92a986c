/- Texts of this proof, put together: Rf7, Mp3, Pt, Open, Opn, Opn30, Msg3. -/
import Derived.Test.YtfecopfofkdnpaaGreatY18
import Derived.Test.YtfecopfofkdnpaaGreatY9
import Derived.MapKept
import Derived.Test.YtfecopfofkdnpaaGreatY5
import Derived.Test.YtfecopfofkdnpaaGreatY6
import Derived.Test.YtfecopfofkdnpaaGreatY1
import Derived.ProofKit
import Derived.OpenShut
import Derived.Test.YtfecopfofkdnpaaGreatY2
import Derived.ChangeArms
import Derived.Deep.Slices
import Derived.Test.YtfecopfofkdnpaaGreatY8
namespace Go.Proofs.YtfecopfofkdnpaaGreat
open Go.RowKit Tryz
theorem slb_drop {w:World} {ad:Option Addr} {n c:Nat} {b:By} (h:SlB w (.slice ad n c) b) (hc:n≤c) (p:Nat) (hp:p≤n):SlB w (.slice (cutA ad p c 1) (n-p) (c-p)) (b.drop p):=by
 have h1:=h.cut hc p n hp (Nat.le_refl _)
 rwa [List.take_of_length_le (by have:=h.len;omega)] at h1
theorem front_fr {b:By} {m:Nat}:frontE b m=if frE b.length m≠0 then frE b.length m else elemE (b.drop m):=by
 unfold frontE frE
 split
 ·rfl
 ·split
  ·rfl
  ·rfl
theorem fr_le {n m:Nat} (h:frE n m=0):m≤n:=by
 unfold frE at h
 split at h
 ·cases h
 ·split at h
  ·cases h
  ·omega
theorem rsnR_bad {b:By} {w w':World} {E:Int} (h:frontE b 2=E) (h0:E≠0) (hx:Ext w w'):RsnR b w (.returned (.tuple #[.agg (cat (pRe 0 none 0 0)).toArray,.int .i64 E])) w':=by
 subst h;exact⟨none,0,0,by unfold codF;rw[if_neg h0],hx⟩
theorem rsnR_good {b:By} {w w':World} {x:Int} {a:Option Addr} {k q:Nat} (h:frontE b 2=0) (h0:x=rdF b 0) (hx:Ext w w'):RsnR b w (.returned (.tuple #[.agg (cat (pRe x a k q)).toArray,.int .i64 0])) w':=
 ⟨a,k,q,by unfold codF;rw[if_pos h,h,h0],hx⟩
set_option maxRecDepth 4000 in
set_option maxHeartbeats 1600000 in
theorem decReasonR_any (ad:Option Addr) (n c:Nat) (b:By) (hb:n≤100000) (hcap:n≤c) (w:World) (hs:SlB w (.slice ad n c) b) :
  Calls prog 40 #[.slice ad n c] w (RsnR b w):=by
 have H:=kp (Loc.start w);have hnb:=hs.len;have HFR:=kp (fun W=>frontR_any ad n c 2 W);have HFE:=kp (show frontE b 2=if frE n 2≠0 then frE n 2 else elemE (b.drop 2) by rw[hnb];exact front_fr);by_cases hf:frE n 2=0
 ·have hpn:2≤n:=fr_le hf;rw[hf] at HFR HFE;have HDC:=kp (fun W (hW:Ext w W)=>show Calls prog 75 #[.slice (cutA ad 2 c 1) (n-2) (c-2)] W (fun e w'=>∃ a k q,e=.returned (.tuple #[.slice a k q,.int .i64 (elemE (b.drop 2))])∧Ext W w') from decodeR_any _ _ _ (b.drop 2) (by rw[List.length_drop];omega) (by omega) W (slb_drop (hs.ext hW) hcap 2 hpn));have HFE2:=kp (show frontE b 2=elemE (b.drop 2) by rw[HFE.out,if_neg (by simp)]);have HT0:=kp (fun W (hW:Ext w W)=>show Calls prog 76 #[.slice ad n c,.int .i64 0] W (fun e w'=>e=.returned (.int .i64 (rdF b 0))∧Ext W w') from twoR_any ad n c b 0 (by omega) (by omega) W (hs.ext hW));obtain⟨E,hE⟩:∃ E,E=elemE (b.drop 2):=⟨_,rfl⟩
  rw[←hE] at HFE2 HDC;by_cases hE0:E=0
  ·subst hE0;obtain⟨x0,hx0⟩:∃ x,x=rdF b 0:=⟨_,rfl⟩
   have HR0:=kp hx0;have h00:0≤x0:=by have:=rd_range b 0;omega
   have h01:x0≤65535:=by have:=rd_range b 0;omega
   rw[←hx0] at HT0;clear hs hf hE hnb HFE hx0;go_enter func40,ntmps40;go_wp2_with (first|((with_reducible refine isAl 2 85 ?_);(refine xAL H 85 (cat (pRe 0 none 0 0)) ?_);clear H;intro g2 w2 HGg2 HEg2 H;simp only[pA])|(go_at_call 74;refine (HFR.out _).mono ?_;rintro e wx ⟨rfl,rfl⟩)|((with_reducible show wpList _ _ _ (Oper.mk _ (Op.slice 29 _ _ _ _) _ _ _ _::_) _ _);(refine L_cut (by kernel_rfl) 29 _ _ _ _ rfl _ _ _ _ _ rfl rfl rfl rfl (run_cutL _ underlying29 (sizeU8q) _ _ _ (2) (hpn)) ?_);simp only[pA])|(go_at_call 75;refine (HDC.out _ H.out.1).mono ?_;rintro e wx ⟨a9,k9,q9,rfl,hx⟩;replace H:=kp (H.out.ext hx);have HXC:=kp hx;clear hx)|(go_at_call 76;(with_reducible show Calls _ _ #[_,Value.int .i64 0] _ _);refine (HT0.out _ H.out.1).mono ?_;rintro e wx ⟨rfl,hx⟩;replace H:=kp (H.out.ext hx);have HXC:=kp hx;clear hx)|((with_reducible refine isBd 27 85 ?_);(refine xBD 85 (#[(0,.int .u16 x0),(1,.slice a9 k9 q9)]) (cat (pRe x0 a9 k9 q9)) ?_);simp only[pA])|((with_reducible refine isSt 85 ?_);refine xSA H 85 0 (pRe x0 a9 k9 q9) ?_;clear H;intro w3 HWw3 H;simp only[szA] at H));exact ret_f2 H Tryz.results40 0 rfl rfl _ rfl underlying85 rfl (by kernel_rfl) rfl (rsnR_good HFE2.out HR0.out H.out.1)
  ·have hE2:(E != 0)=true:=by simp[hE0]
   have HE0:=kp hE0;clear hs hf hE hnb HFE hE0;go_enter func40,ntmps40;go_wp2_with (first|((with_reducible refine isAl 2 85 ?_);(refine xAL H 85 (cat (pRe 0 none 0 0)) ?_);clear H;intro g2 w2 HGg2 HEg2 H;simp only[pA])|(go_at_call 74;refine (HFR.out _).mono ?_;rintro e wx ⟨rfl,rfl⟩)|((with_reducible show wpList _ _ _ (Oper.mk _ (Op.slice 29 _ _ _ _) _ _ _ _::_) _ _);(refine L_cut (by kernel_rfl) 29 _ _ _ _ rfl _ _ _ _ _ rfl rfl rfl rfl (run_cutL _ underlying29 (sizeU8q) _ _ _ (2) (hpn)) ?_);simp only[pA])|(go_at_call 75;refine (HDC.out _ H.out.1).mono ?_;rintro e wx ⟨a9,k9,q9,rfl,hx⟩;replace H:=kp (H.out.ext hx);have HXC:=kp hx;clear hx)|((with_reducible refine isBd 21 85 ?_);(refine xBD 85 (#[]) (cat (pRe 0 none 0 0)) ?_);simp only[pA])|((with_reducible refine isSt 85 ?_);refine xSA H 85 0 (pRe 0 none 0 0) ?_;clear H;intro w3 HWw3 H;simp only[szA] at H));exact ret_f2 H Tryz.results40 0 rfl rfl _ rfl underlying85 rfl (by kernel_rfl) rfl (rsnR_bad HFE2.out HE0.out H.out.1)
 ·have HFE2:=kp (show frontE b 2=frE n 2 by rw[HFE.out,if_pos hf]);obtain⟨E,hE⟩:∃ E,E=frE n 2:=⟨_,rfl⟩
  rw[←hE] at HFE2 HFR hf;have hE2:(E != 0)=true:=by simp[hf]
  have HE0:=kp hf;clear hs hf hE hnb HFE;go_enter func40,ntmps40;go_wp2_with (first|((with_reducible refine isAl 2 85 ?_);(refine xAL H 85 (cat (pRe 0 none 0 0)) ?_);clear H;intro g2 w2 HGg2 HEg2 H;simp only[pA])|(go_at_call 74;refine (HFR.out _).mono ?_;rintro e wx ⟨rfl,rfl⟩)|((with_reducible refine isBd 11 85 ?_);(refine xBD 85 (#[]) (cat (pRe 0 none 0 0)) ?_);simp only[pA])|((with_reducible refine isSt 85 ?_);refine xSA H 85 0 (pRe 0 none 0 0) ?_;clear H;intro w3 HWw3 H;simp only[szA] at H));exact ret_f2 H Tryz.results40 0 rfl rfl _ rfl underlying85 rfl (by kernel_rfl) rfl (rsnR_bad HFE2.out HE0.out H.out.1)
theorem auR_bad {b:By} {w w':World} {E:Int} (h:frontE b 6=E) (h0:E≠0) (hx:Ext w w'):AuR b w (.returned (.tuple #[.agg (cat (pAu 0 0 0 none 0 0)).toArray,.int .i64 E])) w':=by
 subst h;exact⟨0,0,0,none,0,0,rfl,hx,fun h=>absurd h h0,fun _=>⟨rfl,rfl,rfl⟩⟩
theorem auR_good {b:By} {w w':World} {x y z:Int} {a:Option Addr} {k q:Nat} (h:frontE b 6=0) (h0:x=rdF b 0) (h1:y=rdF b 2) (h2:z=rdF b 4) (hx:Ext w w'):AuR b w (.returned (.tuple #[.agg (cat (pAu x y z a k q)).toArray,.int .i64 0])) w':=
 ⟨x,y,z,a,k,q,by rw[h],hx,fun _=>⟨h0,h1,h2⟩,fun h3=>absurd h h3⟩
set_option maxRecDepth 4000 in
set_option maxHeartbeats 1600000 in
theorem decAuthR_any (ad:Option Addr) (n c:Nat) (b:By) (hb:n≤100000) (hcap:n≤c) (w:World) (hs:SlB w (.slice ad n c) b) :
  Calls prog 69 #[.slice ad n c] w (AuR b w):=by
 have H:=kp (Loc.start w);have hnb:=hs.len;have HFR:=kp (fun W=>frontR_any ad n c 6 W);have HFE:=kp (show frontE b 6=if frE n 6≠0 then frE n 6 else elemE (b.drop 6) by rw[hnb];exact front_fr);by_cases hf:frE n 6=0
 ·have hpn:6≤n:=fr_le hf;rw[hf] at HFR HFE;have HDC:=kp (fun W (hW:Ext w W)=>show Calls prog 75 #[.slice (cutA ad 6 c 1) (n-6) (c-6)] W (fun e w'=>∃ a k q,e=.returned (.tuple #[.slice a k q,.int .i64 (elemE (b.drop 6))])∧Ext W w') from decodeR_any _ _ _ (b.drop 6) (by rw[List.length_drop];omega) (by omega) W (slb_drop (hs.ext hW) hcap 6 hpn));have HFE2:=kp (show frontE b 6=elemE (b.drop 6) by rw[HFE.out,if_neg (by simp)]);have HT0:=kp (fun W (hW:Ext w W)=>show Calls prog 76 #[.slice ad n c,.int .i64 0] W (fun e w'=>e=.returned (.int .i64 (rdF b 0))∧Ext W w') from twoR_any ad n c b 0 (by omega) (by omega) W (hs.ext hW));have HT1:=kp (fun W (hW:Ext w W)=>show Calls prog 76 #[.slice ad n c,.int .i64 2] W (fun e w'=>e=.returned (.int .i64 (rdF b 2))∧Ext W w') from twoR_any ad n c b 2 (by omega) (by omega) W (hs.ext hW));have HT2:=kp (fun W (hW:Ext w W)=>show Calls prog 76 #[.slice ad n c,.int .i64 4] W (fun e w'=>e=.returned (.int .i64 (rdF b 4))∧Ext W w') from twoR_any ad n c b 4 (by omega) (by omega) W (hs.ext hW));obtain⟨E,hE⟩:∃ E,E=elemE (b.drop 6):=⟨_,rfl⟩
  rw[←hE] at HFE2 HDC;by_cases hE0:E=0
  ·subst hE0;obtain⟨x0,hx0⟩:∃ x,x=rdF b 0:=⟨_,rfl⟩
   have HR0:=kp hx0;have h00:0≤x0:=by have:=rd_range b 0;omega
   have h01:x0≤65535:=by have:=rd_range b 0;omega
   rw[←hx0] at HT0;obtain⟨x1,hx1⟩:∃ x,x=rdF b 2:=⟨_,rfl⟩
   have HR1:=kp hx1;have h10:0≤x1:=by have:=rd_range b 2;omega
   have h11:x1≤65535:=by have:=rd_range b 2;omega
   rw[←hx1] at HT1;obtain⟨x2,hx2⟩:∃ x,x=rdF b 4:=⟨_,rfl⟩
   have HR2:=kp hx2;have h20:0≤x2:=by have:=rd_range b 4;omega
   have h21:x2≤65535:=by have:=rd_range b 4;omega
   rw[←hx2] at HT2;clear hs hf hE hnb HFE hx0 hx1 hx2;go_enter func69,ntmps69;go_wp2_with (first|((with_reducible refine isAl 2 119 ?_);(refine xAL H 119 (cat (pAu 0 0 0 none 0 0)) ?_);clear H;intro g2 w2 HGg2 HEg2 H;simp only[pA])|(go_at_call 74;refine (HFR.out _).mono ?_;rintro e wx ⟨rfl,rfl⟩)|((with_reducible show wpList _ _ _ (Oper.mk _ (Op.slice 29 _ _ _ _) _ _ _ _::_) _ _);(refine L_cut (by kernel_rfl) 29 _ _ _ _ rfl _ _ _ _ _ rfl rfl rfl rfl (run_cutL _ underlying29 (sizeU8q) _ _ _ (6) (hpn)) ?_);simp only[pA])|(go_at_call 75;refine (HDC.out _ H.out.1).mono ?_;rintro e wx ⟨a9,k9,q9,rfl,hx⟩;replace H:=kp (H.out.ext hx);have HXC:=kp hx;clear hx)|(go_at_call 76;(with_reducible show Calls _ _ #[_,Value.int .i64 0] _ _);refine (HT0.out _ H.out.1).mono ?_;rintro e wx ⟨rfl,hx⟩;replace H:=kp (H.out.ext hx);have HXC:=kp hx;clear hx)|(go_at_call 76;(with_reducible show Calls _ _ #[_,Value.int .i64 2] _ _);refine (HT1.out _ H.out.1).mono ?_;rintro e wx ⟨rfl,hx⟩;replace H:=kp (H.out.ext hx);have HXC:=kp hx;clear hx)|(go_at_call 76;(with_reducible show Calls _ _ #[_,Value.int .i64 4] _ _);refine (HT2.out _ H.out.1).mono ?_;rintro e wx ⟨rfl,hx⟩;replace H:=kp (H.out.ext hx);have HXC:=kp hx;clear hx)|((with_reducible refine isBd 33 119 ?_);(refine xBD 119 (#[(0,.int .u16 x0),(1,.int .u16 x1),(2,.int .u16 x2),(3,.slice a9 k9 q9)]) (cat (pAu x0 x1 x2 a9 k9 q9)) ?_);simp only[pA])|((with_reducible refine isSt 119 ?_);refine xSA H 119 0 (pAu x0 x1 x2 a9 k9 q9) ?_;clear H;intro w3 HWw3 H;simp only[szA] at H));exact ret_f2 H Tryz.results69 0 rfl rfl _ rfl underlying119 rfl (by kernel_rfl) rfl (auR_good HFE2.out HR0.out HR1.out HR2.out H.out.1)
  ·have hE2:(E != 0)=true:=by simp[hE0]
   have HE0:=kp hE0;clear hs hf hE hnb HFE hE0;go_enter func69,ntmps69;go_wp2_with (first|((with_reducible refine isAl 2 119 ?_);(refine xAL H 119 (cat (pAu 0 0 0 none 0 0)) ?_);clear H;intro g2 w2 HGg2 HEg2 H;simp only[pA])|(go_at_call 74;refine (HFR.out _).mono ?_;rintro e wx ⟨rfl,rfl⟩)|((with_reducible show wpList _ _ _ (Oper.mk _ (Op.slice 29 _ _ _ _) _ _ _ _::_) _ _);(refine L_cut (by kernel_rfl) 29 _ _ _ _ rfl _ _ _ _ _ rfl rfl rfl rfl (run_cutL _ underlying29 (sizeU8q) _ _ _ (6) (hpn)) ?_);simp only[pA])|(go_at_call 75;refine (HDC.out _ H.out.1).mono ?_;rintro e wx ⟨a9,k9,q9,rfl,hx⟩;replace H:=kp (H.out.ext hx);have HXC:=kp hx;clear hx)|((with_reducible refine isBd 21 119 ?_);(refine xBD 119 (#[]) (cat (pAu 0 0 0 none 0 0)) ?_);simp only[pA])|((with_reducible refine isSt 119 ?_);refine xSA H 119 0 (pAu 0 0 0 none 0 0) ?_;clear H;intro w3 HWw3 H;simp only[szA] at H));exact ret_f2 H Tryz.results69 0 rfl rfl _ rfl underlying119 rfl (by kernel_rfl) rfl (auR_bad HFE2.out HE0.out H.out.1)
 ·have HFE2:=kp (show frontE b 6=frE n 6 by rw[HFE.out,if_pos hf]);obtain⟨E,hE⟩:∃ E,E=frE n 6:=⟨_,rfl⟩
  rw[←hE] at HFE2 HFR hf;have hE2:(E != 0)=true:=by simp[hf]
  have HE0:=kp hf;clear hs hf hE hnb HFE;go_enter func69,ntmps69;go_wp2_with (first|((with_reducible refine isAl 2 119 ?_);(refine xAL H 119 (cat (pAu 0 0 0 none 0 0)) ?_);clear H;intro g2 w2 HGg2 HEg2 H;simp only[pA])|(go_at_call 74;refine (HFR.out _).mono ?_;rintro e wx ⟨rfl,rfl⟩)|((with_reducible refine isBd 11 119 ?_);(refine xBD 119 (#[]) (cat (pAu 0 0 0 none 0 0)) ?_);simp only[pA])|((with_reducible refine isSt 119 ?_);refine xSA H 119 0 (pAu 0 0 0 none 0 0) ?_;clear H;intro w3 HWw3 H;simp only[szA] at H));exact ret_f2 H Tryz.results69 0 rfl rfl _ rfl underlying119 rfl (by kernel_rfl) rfl (auR_bad HFE2.out HE0.out H.out.1)
def setM (w:World) (m:Nat) (o:Obj):World:={ w with heap:=w.heap.setIfInBounds m o }
def Mp (w0 w:World) (m:Nat) (es:List MapEntry):Prop:=w0.heap.size≤m∧w.heap[m]?=some (.map es.toArray es.length)
theorem setM_other {w:World} {m b:Nat} (o:Obj) (h:b≠m):(setM w m o).heap[b]?=w.heap[b]?:=by
 unfold setM;simp only[Array.getElem?_setIfInBounds];rw[if_neg (fun e=>h e.symm)]
theorem Ext.setM {w0 w:World} {m:Nat} (h:Ext w0 w) (hm:w0.heap.size≤m) (o:Obj):Ext w0 (setM w m o):=by
 have hb:=h.below;refine Ext.of_below ⟨hb.os,hb.tape,hb.output,?_,fun k hk=>?_⟩
 ·show w0.heap.size≤(w.heap.setIfInBounds m o).size
  rw[Array.size_setIfInBounds];exact hb.size
 ·rw[setM_other o (by omega)];exact hb.block k hk
theorem Loc.setM {w0 w:World} {bs:List Bk} {m:Nat} {es:List MapEntry} (h:Loc w0 w bs) (hm:Mp w0 w m es) (o:Obj):Loc w0 (setM w m o) bs:=by
 refine⟨h.1.setM hm.1 o,h.2.1,fun b hb=>⟨(h.2.2 b hb).1,?_⟩⟩;have h2:=(h.2.2 b hb).2;refine (setM_other o ?_).trans h2;intro e;have h3:=hm.2;rw[←e,h2] at h3;cases h3
theorem Mp.ext {w0 w w':World} {m:Nat} {es:List MapEntry} (h:Mp w0 w m es) (hx:Ext w w'):Mp w0 w' m es:=by
 refine⟨h.1,?_⟩;obtain⟨x,rfl⟩:=hx;rw[more_heap w x m (Array.getElem?_eq_some_iff.1 h.2).1];exact h.2
section
variable {P:Program} {ops:Array Oper} {rest:List Oper} {o:Oper} {a:Act} {w0 w:World} {Q:Exit→Act→World→Prop} {bs:List Bk}
theorem L_mk0 (H:Kp (Loc w0 w bs)) (hg:o.guard=none) (t:TypeId) (ho:o.op=.makeMap t none)
  (h:∀ m w',Kp (Ext w w')→Kp (Mp w0 w' m [])→Kp (Loc w0 w' bs)→wpList P ops Q rest (a.put o.dst (.map (some m))) w'):wpList P ops Q (o::rest) a w:=by
 refine wpList_plain hg fun K hK=>?_;unfold Oper.wp execOp;simp only[ho,Option.map_none,Sem.run_bind,run_makeMap,Result.andThen_ok,Sem.run_pure];exact hK _ _ (h _ _ (kp (Ext.alloc w _)) (kp ⟨H.out.1.below.size,hp_new w _⟩) (kp (H.out.ext (Ext.alloc w _))))
theorem L_ins (H:Kp (Loc w0 w bs)) (hg:o.guard=none) (hd:o.dst=none) (t:TypeId) (x y z:Operand) (ho:o.op=.insert t x y z) (K E:TypeId) (hu:P.underlying t=some (.map K E)) {m:Nat} {es:List MapEntry} (HM:Kp (Mp w0 w m es)) (hx:a.eval x=.map (some m)) (k v:Value) (hy:a.eval y=k) (hz:a.eval z=v)
  (hc:∀ w,(Instr.checkKey false 10000 K k).run P w=.ok () w) (hf:∀ w,(Instr.findKey K k es).run P w=.ok none w)
  (h:∀ w',Kp (Mp w0 w' m (es++[⟨k,v,es.length⟩]))→Kp (Loc w0 w' bs)→wpList P ops Q rest a w'):wpList P ops Q (o::rest) a w:=by
 refine wpList_plain hg fun K2 hK=>?_;unfold Oper.wp execOp;have hm:=HM.out.2;have hl:=(Array.getElem?_eq_some_iff.1 hm).1;simp only[ho,hx,hy,hz,Instr.mapUpdate,Sem.run_bind,run_underlying hu,Result.andThen_ok,MapKept.run_getObj_map hm,hc,hf,MapKept.run_setObj_map _ hm,Sem.run_pure]
 show K2 (a.put o.dst undef) _
 rw[hd];refine hK _ _ (h _ (kp ⟨HM.out.1,?_⟩) (kp (H.out.setM HM.out _)));simp[hl]
theorem L_lk (hg:o.guard=none) (t:TypeId) (x y:Operand) (c:Bool) (ho:o.op=.lookup t x y c) (K E:TypeId) (hu:P.underlying t=some (.map K E)) {m:Nat} {es:List MapEntry} (HM:Kp (Mp w0 w m es)) (hx:a.eval x=.map (some m)) (k:Value) (hy:a.eval y=k)
  (hc:∀ b w,(Instr.checkKey b 10000 K k).run P w=.ok () w) (r:Option (Nat × Value)) (hf:∀ w,(Instr.findKey K k es).run P w=.ok r w) (z:Value) (hz:∀ w,(zeroValue E).run P w=.ok z w) (u:Value) (hv:(if c then .tuple #[(r.map (·.2)).getD z,.bool r.isSome] else (r.map (·.2)).getD z)=u)
  (h:wpList P ops Q rest (a.put o.dst u) w):wpList P ops Q (o::rest) a w:=by
 refine wpList_plain hg fun K2 hK=>?_;unfold Oper.wp execOp;have hm:=HM.out.2;subst hv;cases r with
 |none =>
  simp only[ho,hx,hy,Instr.lookup,Sem.run_bind,run_underlying hu,Result.andThen_ok,MapKept.run_getObj_map hm,hc,hf,hz,Sem.run_pure];exact hK _ _ h
 |some q =>
  obtain⟨i,v⟩:=q;simp only[ho,hx,hy,Instr.lookup,Sem.run_bind,run_underlying hu,Result.andThen_ok,MapKept.run_getObj_map hm,hc,hf,Sem.run_pure];exact hK _ _ h
end
theorem find_u8 {K:TypeId} (hK:prog.underlying K=some (.int .u8)) (r:Int) (es:List (Int × Value)) (w:World):∀ n:Nat→Nat,(Instr.findKey K (.int .u8 r) (es.zipIdx.map fun p=>⟨.int .u8 p.1.1,p.1.2,n p.2⟩)).run prog w=.ok ((es.zipIdx.find? fun p=>r==p.1.1).map fun p=>(p.2,p.1.2)) w:=by
 intro n
 have h:∀ (es:List (Int × Value)) (i j:Nat),Instr.findNow (.int .u8) (.int .u8 r) ((es.zipIdx j).map fun p=>⟨.int .u8 p.1.1,p.1.2,n p.2⟩) i=some (((es.zipIdx i).find? fun p=>r==p.1.1).map fun p=>(p.2,p.1.2)):=by
  intro es
  induction es with
  |nil=>intro i j;rfl
  |cons e es ih =>
   intro i j;simp only[List.zipIdx_cons,List.map_cons,Instr.findNow,Instr.sameNow,if_true,List.find?_cons];cases hq:(r==e.1) with
   |true=>rfl
   |false=>simp only;rw[ih]
 unfold Instr.findKey;rw[Sem.run_bind,run_underlying hK w,Result.andThen_ok,h];rfl
def partsE (e:En) (h:e.addr.length=6):List Lf:=[Lf.v ⟨e.addr,h⟩,Lf.i .u8 e.state,Lf.i .i64 e.aid,Lf.i .i64 e.caps,Lf.i .i64 e.listen,Lf.i .i64 e.seen]
theorem cat_E (e:En) (h:e.addr.length=6):cellsE e=cat (partsE e h):=by simp[partsE,cat,cellsE]
def partsA (a:As) (h:a.own.length=6) (ad:Option Addr) (n c:Nat):List Lf:=[Lf.v ⟨a.own,h⟩,Lf.i .i64 a.caps,Lf.i .i64 a.limit,Lf.i .i64 a.idle,Lf.s ad n c]
theorem cat_A (a:As) (h:a.own.length=6) (ad:Option Addr) (n c:Nat):cellsA a (.slice ad n c)=cat (partsA a h ad n c):=by simp[partsA,cat,cellsA]
def partsH (h:Hd) (k:h.Ok):List Lf:=[Lf.i .u8 h.kind,Lf.i .u8 h.sub,Lf.b h.toDs,Lf.b h.fromDs,Lf.b h.more,Lf.b h.retry,Lf.b h.sleep,Lf.b h.mdata,Lf.b h.prot,Lf.i .i64 h.dur,Lf.v ⟨h.a1,k.l1⟩,Lf.v ⟨h.a2,k.l2⟩,Lf.v ⟨h.a3,k.l3⟩,Lf.v ⟨h.a4,k.l4⟩,Lf.i .i64 h.seq,Lf.i .i64 h.frag,Lf.i .i64 h.tid,Lf.i .u8 h.ack,Lf.b h.amsdu,Lf.b h.eosp]
theorem cat_H (h:Hd) (k:h.Ok):cellsH h=cat (partsH h k):=by simp[partsH,cat,cellsH]
def partsFr (h:Hd) (k:h.Ok) (ad:Option Addr) (n c:Nat):List Lf:=partsH h k++[Lf.s ad n c]
theorem cat_Fr (h:Hd) (k:h.Ok) (ad:Option Addr) (n c:Nat):cellsH h++[.slice ad n c]=cat (partsFr h k ad n c):=by rw[partsFr,cat_append,cat_H h k];rfl
end Go.Proofs.YtfecopfofkdnpaaGreat
namespace Go.Proofs.YtfecopfofkdnpaaGreat
open Go.RowKit Tryz
open Go.ChangeShapes Go.WideShapes Go.ChangeAt Go.RowKit
section
variable {P:Program} {H:Type} {enc:TypeId × Value→H} {w:World}
theorem bv_of_wf {m:Nat} (k:IntKind) (hm:(k=.u8∧m=8)∨(k=.u32∧m=32)∨(k=.u64∧m=64)) {n:Int} (h:(Lit.int k n).wf=true):∃ x:BitVec m,n=wI x:=by
 have hb:0≤n∧n<(2:Int) ^ m:=by
  rcases hm with ⟨rfl,rfl⟩|⟨rfl,rfl⟩|⟨rfl,rfl⟩ <;>
   (simp[Lit.wf,IntKind.min,IntKind.max,IntKind.signed,IntKind.bits] at h;omega)
 obtain⟨q,rfl⟩:=Int.eq_ofNat_of_zero_le hb.1;have hq:q<2 ^ m:=by have:=hb.2;exact_mod_cast this
 exact⟨BitVec.ofNat m q,by unfold wI;rw[BitVec.toNat_ofNat,Nat.mod_eq_of_lt hq]⟩
end
def Tr {H:Type} (enc:TypeId × Value→H) (P:Program) (w:World) (base:Nat) (T:TypeId) (cs:List Value):Prop:=∃ fuel x,DataW.trod enc P w base (fun _=>true) true fuel T cs=some x
theorem spot_none {w:World} {a:Addr} {v:Value} (h:w.cell? a=some v):a.spot=none:=by
 unfold World.cell? at h
 split at h
 ·split at h
  ·cases h
  ·rename_i h2;cases hs:a.spot with
   |none=>rfl
   |some s=>rw[hs] at h2;exact absurd rfl h2
 ·cases h
section
variable {H:Type} {enc:TypeId × Value→H} {P:Program} {w:World} {base:Nat} {T:TypeId} {cs:List Value}
theorem Tr.of {v:Value} {d:DataW H} {p:List MemPlace} (h:DataW.Trod enc P w base (fun _=>true) true T v d p):Tr enc P w base T v.cells.toList:=by
 obtain⟨fuel,hf⟩:=h;exact⟨fuel,_,hf⟩
theorem Tr.int {k:IntKind} (hT:P.underlying T=some (.int k)) (h:Tr enc P w base T cs):∃ n,cs=[.int k n]∧(Lit.int k n).wf=true:=by
 obtain⟨f,x,h⟩:=h;obtain⟨n,h1,_,h2⟩:=DataW.trod_int hT h;exact⟨n,h1,h2⟩
theorem Tr.bool (hT:P.underlying T=some .bool) (h:Tr enc P w base T cs):∃ b,cs=[.bool b]:=by
 obtain⟨f,x,h⟩:=h;obtain⟨b,h1,_⟩:=DataW.trod_bool hT h;exact⟨b,h1⟩
theorem Tr.string (hT:P.underlying T=some .string) (h:Tr enc P w base T cs):∃ s:ByteArray,cs=[.string s]∧s.size≤maxLen:=by
 obtain⟨f,x,h⟩:=h;obtain⟨s,h1,_,h2⟩:=DataW.trod_string hT h;exact⟨s,h1,h2⟩
theorem Tr.struct {fs:Array Field} (hT:P.underlying T=some (.struct fs)) (h:Tr enc P w base T cs):cs.length=P.cellsOf T∧∀ (i:Nat) (f:Field),fs[i]?=some f→Tr enc P w base f.type ((cs.drop f.offset).take (P.cellsOf f.type)):=by
 obtain⟨f,x,h⟩:=h;obtain⟨xs,n,_,_,hl,hn,hf⟩:=DataW.trod_struct hT h;refine⟨hl,fun i f hi=>?_⟩;have h1:=hf i f hi;have hlt:=(Array.getElem?_eq_some_iff.1 hi).1;rw[List.getElem?_eq_getElem (by omega)] at h1;exact⟨n,_,h1⟩
theorem Tr.field {fs:Array Field} (hT:P.underlying T=some (.struct fs)) (h:Tr enc P w base T cs) (i t off n:Nat) (hf:(fs[i]?).map (fun f=>(f.type,f.offset))=some (t,off)) (hn:P.cellsOf t=n):Tr enc P w base t ((cs.drop off).take n):=by
 cases hq:fs[i]? with
 |none=>rw[hq] at hf;cases hf
 |some f =>
  rw[hq] at hf;have h1:=(h.struct hT).2 i f hq;cases hf
  rw[←hn];exact h1
theorem Tr.len {fs:Array Field} (hT:P.underlying T=some (.struct fs)) (h:Tr enc P w base T cs) (n:Nat) (hn:P.cellsOf T=n):cs.length=n:=by rw[←hn];exact (h.struct hT).1
theorem Tr.array {n:Nat} {e:TypeId} (hT:P.underlying T=some (.array n e)) (h:Tr enc P w base T cs):cs.length=P.cellsOf T∧∀ i:Nat,i<n→Tr enc P w base e ((cs.drop (i*P.cellsOf e)).take (P.cellsOf e)):=by
 obtain⟨f,x,h⟩:=h;obtain⟨xs,m,_,_,hl,hn,hf⟩:=DataW.trod_array hT h;refine⟨hl,fun i hi=>?_⟩;have h1:=hf i hi;rw[List.getElem?_eq_getElem (by omega)] at h1;exact⟨m,_,h1⟩
theorem Tr.slice {e:TypeId} (hT:P.underlying T=some (.slice e)) (hc:0<P.cellsOf e) (h:Tr enc P w base T cs):∃ (ad:Option Addr) (len cap:Nat),cs=[.slice ad len cap]∧len≤cap∧cap≤maxLen∧(ad=none→len=0∧cap=0) ∧
  ∀ i:Nat,i<len→∃ b off es,ad=some ⟨b,off,none⟩∧b<w.heap.size∧es.length=P.cellsOf e∧Tr enc P w base e es∧w.rangeAt b (off+i*P.cellsOf e) es:=by
 obtain⟨f,x,h⟩:=h;rcases Deep.open_slice hT h with ⟨h0,_⟩|⟨a,len,cap,m,n,D,Pl,h1,h2,h3,h4,hm,_,hx⟩
 ·exact⟨none,0,0,h0,Nat.le_refl _,Nat.zero_le _,(fun _=>⟨rfl,rfl⟩),fun i hi=>absurd hi (by omega)⟩
 ·refine⟨some a,len,cap,h1,h3,h4,(fun h=>by cases h),fun i hi=>?_⟩
  have hsp:a.spot=none:=by
   obtain⟨es,he,_⟩:=hx 0 (by rw[hm];simp;omega);obtain⟨_,hl,hcell⟩:=World.cells?_some he;have h0:=hcell 0 hc;rw[List.getElem?_eq_getElem (by omega)] at h0;rw[show (a.add (0*P.cellsOf e)).add 0=a by simp[Addr.add]] at h0;exact spot_none h0
  obtain⟨b,off,s⟩:=a;cases hsp
  obtain⟨es,he,ht⟩:=hx i (by rw[hm];simp;omega);obtain⟨_,hl,hcell⟩:=World.cells?_some he
  have hr:w.rangeAt b (off+i*P.cellsOf e) es:=fun j v hv=>by
   have hj:=(List.getElem?_eq_some_iff.1 hv).1;have h0:=hcell j (by omega);rw[Addr.add_mid,Addr.add_mid,hv] at h0;exact h0
  have h0:∃ v,es[0]?=some v:=⟨es[0]'(by omega),by simp⟩
  obtain⟨v,hv⟩:=h0;exact⟨b,off,es,rfl,block_lt_of_cell (hr 0 v hv),hl,⟨n,_,ht⟩,hr⟩
theorem bytes_of {m:List Value} (h:∀ i:Nat,i<m.length→∃ n,m[i]?=some (.int .u8 n)∧(Lit.int .u8 n).wf=true):∃ l:List (BitVec 8),m=l.map V8:=by
 induction m with
 |nil=>exact⟨[],rfl⟩
 |cons v m ih =>
  obtain⟨l,hl⟩:=ih fun i hi=>by simpa using h (i+1) (by simpa using hi)
  obtain⟨n,hn,hw⟩:=h 0 (by simp);obtain⟨x,rfl⟩:=bv_of_wf (m:=8) .u8 (.inl ⟨rfl,rfl⟩) hw;have:v=V8 x:=by simpa using hn
  exact⟨x::l,by rw[this,hl];rfl⟩
theorem Tr.bytes {n:Nat} {e:TypeId} (hT:P.underlying T=some (.array n e)) (hE:P.underlying e=some (.int .u8)) (hc:P.cellsOf e=1) (hC:P.cellsOf T=n) (h:Tr enc P w base T cs):∃ l:List (BitVec 8),l.length=n∧cs=l.map V8:=by
 obtain⟨hl,ha⟩:=h.array hT;rw[hC] at hl
 obtain⟨l,rfl⟩:=bytes_of (m:=cs) fun i hi=>by
  obtain⟨k,hk,hw⟩:=(ha i (by omega)).int hE;rw[hc] at hk;refine⟨k,?_,hw⟩;have:((cs.drop (i*1)).take 1)[0]?=some (.int .u8 k):=by rw[hk];rfl
  simpa using this
 exact⟨l,by simpa using hl,rfl⟩
theorem Tr.slb {e:TypeId} (hT:P.underlying T=some (.slice e)) (hE:P.underlying e=some (.int .u8)) (hc:P.cellsOf e=1) (h:Tr enc P w base T cs):∃ (ad:Option Addr) (cap:Nat) (l:List (BitVec 8)),cs=[.slice ad l.length cap]∧l.length≤cap∧cap≤maxLen∧(ad=none→cap=0)∧SlB w (.slice ad l.length cap) l:=by
 obtain⟨ad,len,cap,h1,h2,h3,h4,h5⟩:=h.slice hT (by omega)
 have key:∀ k,k≤len→∃ l:List (BitVec 8),l.length=k∧∀ j x,l[j]?=some x→∃ b off,ad=some ⟨b,off,none⟩∧b<w.heap.size∧w.cell? ⟨b,off+j,none⟩=some (V8 x):=by
  intro k
  induction k with
  |zero=>intro _;exact⟨[],rfl,fun j x hj=>by simp at hj⟩
  |succ k ih =>
   intro hk;obtain⟨l,hl,hL⟩:=ih (by omega);obtain⟨b,off,es,ha,hb,hel,ht,hr⟩:=h5 k (by omega);obtain⟨n,hn,hw⟩:=ht.int hE;obtain⟨x,rfl⟩:=bv_of_wf (m:=8) .u8 (.inl ⟨rfl,rfl⟩) hw;refine⟨l++[x],by simp[hl],fun j y hy=>?_⟩;by_cases hj:j<l.length
   ·rw[List.getElem?_append_left hj] at hy;exact hL j y hy
   ·rw[List.getElem?_append_right (by omega)] at hy
    have hj0:j-l.length=0:=by
     have:=(List.getElem?_eq_some_iff.1 hy).1;simp at this;omega
    rw[hj0] at hy;have:x=y:=by simpa using hy
    subst this;refine⟨b,off,ha,hb,?_⟩;have h0:=hr 0 (V8 x) (by rw[hn];rfl);rw[hc] at h0
    rwa [show off+k*1+0=off+j by omega] at h0
 obtain⟨l,hl,hL⟩:=key len (Nat.le_refl _);subst hl;refine⟨ad,cap,l,h1,h2,h3,fun h=>(h4 h).2,?_⟩;cases l with
 |nil =>
  refine .inl ⟨rfl,?_⟩;cases ad with
  |none=>obtain⟨_,rfl⟩:=h4 rfl;exact .inl rfl
  |some a=>exact .inr ⟨a,cap,rfl⟩
 |cons x l =>
  obtain⟨b,off,rfl,hb,_⟩:=hL 0 x rfl;refine .inr ⟨b,off,cap,rfl,hb,fun j y hy=>?_⟩;obtain⟨b',off',he,_,hc'⟩:=hL j y hy;cases he
  exact hc'
end
end Go.Proofs.YtfecopfofkdnpaaGreat
namespace Go.Proofs.YtfecopfofkdnpaaGreat
open Go.RowKit Go.WideShapes Tryz
def cellsF (h:Hd) (v:Value):List Value:=cellsH h++[v]
section
variable {H:Type} {enc:TypeId × Value→H} {w:World} {base:Nat} {cs:List Value}
theorem peel {cs l:List Value} {o n:Nat} (h:(cs.drop o).take n=l):cs.drop o=l++cs.drop (o+n):=by rw[←h,←List.drop_drop,List.take_append_drop]
theorem u8_wf {n:Int} (h:(Lit.int .u8 n).wf=true):0≤n∧n<256:=by
 obtain⟨x,rfl⟩:=bv_of_wf (m:=8) .u8 (.inl ⟨rfl,rfl⟩) h;have:=x.isLt;unfold wI;omega
theorem Tr.addr (h:Tr enc prog w base 23 cs):∃ l:List (BitVec 8),l.length=6∧cs=l.map V8:=
 h.bytes underlying23 underlying5 (by kernel_rfl) (by kernel_rfl)
theorem Tr.header (h:Tr enc prog w base 28 cs):∃ x:Hd,x.Ok∧cs=cellsH x:=by
 have hl:=h.len underlying28 40 (by kernel_rfl);obtain⟨k,h0,w0⟩:=(h.field underlying28 0 5 0 1 rfl (by kernel_rfl)).int underlying5;obtain⟨s,h1,w1⟩:=(h.field underlying28 1 5 1 1 rfl (by kernel_rfl)).int underlying5;obtain⟨b2,h2⟩:=(h.field underlying28 2 4 2 1 rfl (by kernel_rfl)).bool underlying4;obtain⟨b3,h3⟩:=(h.field underlying28 3 4 3 1 rfl (by kernel_rfl)).bool underlying4;obtain⟨b4,h4⟩:=(h.field underlying28 4 4 4 1 rfl (by kernel_rfl)).bool underlying4;obtain⟨b5,h5⟩:=(h.field underlying28 5 4 5 1 rfl (by kernel_rfl)).bool underlying4;obtain⟨b6,h6⟩:=(h.field underlying28 6 4 6 1 rfl (by kernel_rfl)).bool underlying4;obtain⟨b7,h7⟩:=(h.field underlying28 7 4 7 1 rfl (by kernel_rfl)).bool underlying4;obtain⟨b8,h8⟩:=(h.field underlying28 8 4 8 1 rfl (by kernel_rfl)).bool underlying4;obtain⟨du,h9,_⟩:=(h.field underlying28 9 3 9 1 rfl (by kernel_rfl)).int underlying3;obtain⟨a1,l1,h10⟩:=Tr.addr (h.field underlying28 10 23 10 6 rfl (by kernel_rfl));obtain⟨a2,l2,h11⟩:=Tr.addr (h.field underlying28 11 23 16 6 rfl (by kernel_rfl));obtain⟨a3,l3,h12⟩:=Tr.addr (h.field underlying28 12 23 22 6 rfl (by kernel_rfl));obtain⟨a4,l4,h13⟩:=Tr.addr (h.field underlying28 13 23 28 6 rfl (by kernel_rfl));obtain⟨sq,h14,_⟩:=(h.field underlying28 14 3 34 1 rfl (by kernel_rfl)).int underlying3;obtain⟨fr,h15,_⟩:=(h.field underlying28 15 3 35 1 rfl (by kernel_rfl)).int underlying3;obtain⟨ti,h16,_⟩:=(h.field underlying28 16 3 36 1 rfl (by kernel_rfl)).int underlying3;obtain⟨ac,h17,w17⟩:=(h.field underlying28 17 5 37 1 rfl (by kernel_rfl)).int underlying5;obtain⟨am,h18⟩:=(h.field underlying28 18 4 38 1 rfl (by kernel_rfl)).bool underlying4;obtain⟨eo,h19⟩:=(h.field underlying28 19 4 39 1 rfl (by kernel_rfl)).bool underlying4;refine⟨⟨k,s,b2,b3,b4,b5,b6,b7,b8,du,a1,a2,a3,a4,sq,fr,ti,ac,am,eo⟩,⟨(u8_wf w0).1,(u8_wf w0).2,(u8_wf w1).1,(u8_wf w1).2,(u8_wf w17).1,(u8_wf w17).2,l1,l2,l3,l4⟩,?_⟩;have hend:cs.drop 40=[]:=List.drop_eq_nil_of_le (by omega);rw[show cs=cs.drop 0 from rfl,peel h0,peel h1,peel h2,peel h3,peel h4,peel h5,peel h6,peel h7,peel h8,peel h9,peel h10,peel h11,peel h12,peel h13,peel h14,peel h15,peel h16,peel h17,peel h18,peel h19];simp only[Nat.reduceAdd,hend,cellsH,List.append_nil,List.cons_append,List.nil_append]
theorem Tr.entry (h:Tr enc prog w base 45 cs):∃ x:En,x.Ok∧cs=cellsE x:=by
 have hl:=h.len underlying45 11 (by kernel_rfl);obtain⟨a,la,h0⟩:=Tr.addr (h.field underlying45 0 23 0 6 rfl (by kernel_rfl));obtain⟨s,h1,w1⟩:=(h.field underlying45 1 5 6 1 rfl (by kernel_rfl)).int underlying5;obtain⟨ai,h2,_⟩:=(h.field underlying45 2 3 7 1 rfl (by kernel_rfl)).int underlying3;obtain⟨ca,h3,_⟩:=(h.field underlying45 3 3 8 1 rfl (by kernel_rfl)).int underlying3;obtain⟨li,h4,_⟩:=(h.field underlying45 4 3 9 1 rfl (by kernel_rfl)).int underlying3;obtain⟨se,h5,_⟩:=(h.field underlying45 5 3 10 1 rfl (by kernel_rfl)).int underlying3;refine⟨⟨a,s,ai,ca,li,se⟩,⟨la,(u8_wf w1).1,(u8_wf w1).2⟩,?_⟩;have hend:cs.drop 11=[]:=List.drop_eq_nil_of_le (by omega);rw[show cs=cs.drop 0 from rfl,peel h0,peel h1,peel h2,peel h3,peel h4,peel h5];simp only[Nat.reduceAdd,hend,cellsE,List.append_nil,List.cons_append,List.nil_append]
theorem Tr.entries (h:Tr enc prog w base 24 cs):∃ (v:Value) (es:List En),cs=[v]∧SlT 11 cellsE w v es∧(∀ e∈es,e.Ok)∧es.length≤9223372036854775807:=by
 obtain⟨a,ln,cp,h1,h2,h3,h4,h5⟩:=h.slice underlying24 (by rw[show prog.cellsOf 45=11 by kernel_rfl];decide);simp only[show prog.cellsOf 45=11 by kernel_rfl] at h5
 have key:∀ k,k≤ln→∃ l:List En,l.length=k∧(∀ q∈l,q.Ok)∧∀ (j:Nat) q,l[j]?=some q→∃ b off,a=some ⟨b,off,none⟩∧b<w.heap.size∧w.rangeAt b (off+j*11) (cellsE q):=by
  intro k
  induction k with
  |zero=>intro _;exact⟨[],rfl,fun q hq=>(by cases hq),fun j x hj=>by simp at hj⟩
  |succ k ih =>
   intro hk;obtain⟨l,hl,h16,hL⟩:=ih (by omega);obtain⟨b,off,es,ha,hb,hel,ht,hr⟩:=h5 k (by omega);obtain⟨q,hq16,rfl⟩:=ht.entry;refine⟨l++[q],by simp[hl],fun x hx=>by rcases List.mem_append.1 hx with hx|hx;exact h16 x hx;simp at hx;rw[hx];exact hq16,fun j y hy=>?_⟩;by_cases hj:j<l.length
   ·rw[List.getElem?_append_left hj] at hy;exact hL j y hy
   ·rw[List.getElem?_append_right (by omega)] at hy
    have hj0:j-l.length=0:=by
     have:=(List.getElem?_eq_some_iff.1 hy).1;simp at this;omega
    rw[hj0] at hy;have:q=y:=by simpa using hy
    subst this;obtain rfl:j=k:=by omega
    exact⟨b,off,ha,hb,hr⟩
 obtain⟨l,hl,h16,hL⟩:=key ln (Nat.le_refl _);exact⟨_,l,h1,⟨a,ln,cp,rfl,hl.symm,h2,hL⟩,h16,by unfold maxLen at h3;omega⟩
theorem Tr.assoc (h:Tr enc prog w base 26 cs):∃ (x:As) (v:Value) (es:List En),x.own.length=6∧SlT 11 cellsE w v es∧(∀ e∈es,e.Ok)∧es.length≤9223372036854775807∧cs=cellsA x v:=by
 have hl:=h.len underlying26 10 (by kernel_rfl);obtain⟨a,la,h0⟩:=Tr.addr (h.field underlying26 0 23 0 6 rfl (by kernel_rfl));obtain⟨ca,h1,_⟩:=(h.field underlying26 1 3 6 1 rfl (by kernel_rfl)).int underlying3;obtain⟨li,h2,_⟩:=(h.field underlying26 2 3 7 1 rfl (by kernel_rfl)).int underlying3;obtain⟨di,h3,_⟩:=(h.field underlying26 3 3 8 1 rfl (by kernel_rfl)).int underlying3;obtain⟨v,es,h4,hs,hok,hn⟩:=Tr.entries (h.field underlying26 4 24 9 1 rfl (by kernel_rfl));refine⟨⟨a,ca,li,di⟩,v,es,la,hs,hok,hn,?_⟩;have hend:cs.drop 10=[]:=List.drop_eq_nil_of_le (by omega);rw[show cs=cs.drop 0 from rfl,peel h0,peel h1,peel h2,peel h3,peel h4];simp only[Nat.reduceAdd,hend,cellsA,List.append_nil,List.cons_append,List.nil_append]
theorem Tr.frame (h:Tr enc prog w base 31 cs):∃ (x:Hd) (ad:Option Addr) (cap:Nat) (l:List (BitVec 8)),x.Ok∧l.length≤cap∧cap≤maxLen∧(ad=none→cap=0)∧SlB w (.slice ad l.length cap) l∧cs=cellsF x (.slice ad l.length cap):=by
 have hl:=h.len underlying31 41 (by kernel_rfl);obtain⟨x,hx,h0⟩:=Tr.header (h.field underlying31 0 28 0 40 rfl (by kernel_rfl));obtain⟨ad,cap,l,h1,q1,q2,q3,q4⟩:=(h.field underlying31 1 29 40 1 rfl (by kernel_rfl)).slb underlying29 underlying5 (by kernel_rfl);refine⟨x,ad,cap,l,hx,q1,q2,q3,q4,?_⟩;have hend:cs.drop 41=[]:=List.drop_eq_nil_of_le (by omega);rw[show cs=cs.drop 0 from rfl,peel h0,peel h1];simp only[Nat.reduceAdd,hend,List.append_nil,cellsF]
end
set_option maxRecDepth 10000 in
theorem open_assoc {H:Type} {enc:TypeId × Value→H} {w:World} {r:Reach} {b0 base:Nat} {v:Value} {d:DataW H} {p:List MemPlace}
  (hv:Value.okWide prog w r b0 26 v) (h:DataW.Trod enc prog w base (fun _=>true) true 26 v d p):∃ (x:As) (u:Value) (es:List En),x.own.length=6∧SlT 11 cellsE w u es∧(∀ e∈es,e.Ok)∧es.length≤9223372036854775807∧v=.agg (cellsA x u).toArray:=by
 obtain⟨cs,hcs,_⟩:=okWide_struct (P:=prog) underlying26 hv;have ht:=Tr.of h;rw[hcs] at ht;obtain⟨x,u,es,h1,h2,h3,h4,h5⟩:=ht.assoc;refine⟨x,u,es,h1,h2,h3,h4,?_⟩;have h5:cs.toList=cellsA x u:=h5;rw[hcs,←h5]
theorem msg_ok {a:As} {t:By} {sub:Int} (ha:a.own.length=6) (ht:t.length=6) (h0:0≤sub) (h1:sub<256):(msgH a t sub).Ok:=⟨Int.le_refl _,by show (0:Int)<256;omega,h0,h1,by show (0:Int)≤0;omega,by show (0:Int)<256;omega,ht,ha,ha,rfl⟩
theorem build_msg (a:As) (t:By) (sub:Int) (ha:a.own.length=6) (ht:t.length=6) (w:World):(Instr.build 28 #[(0,.int .u8 0),(1,.int .u8 sub),(10,.agg (t.map V8).toArray),(11,.agg (a.own.map V8).toArray),(12,.agg (a.own.map V8).toArray)]).run prog w=.ok (.agg (cellsH (msgH a t sub)).toArray) w:=by
 obtain⟨own,ca,li,id⟩:=a;dsimp only at ha;obtain⟨_,_,_,_,_,_,rfl⟩:=six ha;obtain⟨_,_,_,_,_,_,rfl⟩:=six ht
 kernel_rfl
theorem build_fr (a:As) (t:By) (sub:Int) (ha:a.own.length=6) (ht:t.length=6) (ad:Option Addr) (n c:Nat) (w:World):(Instr.build 31 #[(0,.agg (cellsH (msgH a t sub)).toArray),(1,.slice ad n c)]).run prog w=.ok (.agg (cellsF (msgH a t sub) (.slice ad n c)).toArray) w:=by
 obtain⟨own,ca,li,id⟩:=a;dsimp only at ha;obtain⟨_,_,_,_,_,_,rfl⟩:=six ha;obtain⟨_,_,_,_,_,_,rfl⟩:=six ht
 kernel_rfl
def hd0:Hd:=⟨0,0,false,false,false,false,false,false,false,0,zero6,zero6,zero6,zero6,0,0,0,0,false,false⟩
theorem len_F {h:Hd} (k:h.Ok) (v:Value):(cellsF h v).length=41:=by simp[cellsF,cellsH,k.l1,k.l2,k.l3,k.l4]
theorem one_F (h:Hd) (ad:Option Addr) (n c:Nat):(cellsF h (.slice ad n c)).toArray.all (·.oneCell')=true:=by simp[cellsF,cellsH,Value.oneCell',List.all_map,Function.comp_def]
set_option maxHeartbeats 1600000 in
theorem message_any (a:As) (ha:a.own.length=6) (v:Value) (t:By) (ht:t.length=6) (sub:Int) (h0:0≤sub) (h1:sub<256) (ad:Option Addr) (n c:Nat) (e0:Int) (w:World) :
  Calls prog 59 #[.agg (cellsA a v).toArray,.agg (t.map V8).toArray,.int .u8 sub,.slice ad n c,.int .i64 e0] w fun e w'=>e=.returned (.agg (cellsF (msgH a t sub) (.slice ad n c)).toArray)∧Ext w w':=by
 have H:=kp (Loc.start w);have HB1:=kp (build_msg a t sub ha ht);have HB2:=kp (build_fr a t sub ha ht ad n c);have HZT:=kp (sizeA8a ht);have HZO:=kp (sizeA8a ha);have HP0:=kp (cellsA_own (a:=a) v ha);have HOK:=kp (msg_ok ha ht h0 h1);have HZF:=kp (show (prog.info? 31).map (·.size)=some (cellsF (msgH a t sub) (.slice ad n c)).toArray.size by rw[List.size_toArray,len_F HOK.out];kernel_rfl);have HLF:=kp (show (cellsF hd0 (.slice none 0 0)).length=(cellsF (msgH a t sub) (.slice ad n c)).length by rw[len_F HOK.out];rfl);have HO1:=kp (one_F (msgH a t sub) ad n c);clear ha ht h0 h1;go_enter func59,ntmps59;go_wp2_with (first|((with_reducible refine isBx 5 26 ?_);(refine xBX H 26 (cellsA a v) ?_);clear H;intro g5 w5 HGg5 HEg5 H;simp only[pA])|((with_reducible refine isBx 6 23 ?_);(refine xBX H 23 (t.map V8) ?_);clear H;intro g6 w6 HGg6 HEg6 H;simp only[pA])|((with_reducible refine isAl 10 31 ?_);(with_reducible refine xAL H 31 (cellsF hd0 (.slice none 0 0)) ?_);clear H;intro g10 w10 HGg10 HEg10 H;simp only[pA])|((with_reducible refine isLd 23 ?_);(refine wpList_load_rowG (by kernel_rfl) 23 _ rfl (g6) rfl 23 (t.map V8).toArray (0,0) _ (H.out.at 1 rfl) underlying23 rfl (HZT.out) ?_);simp only[pA])|((with_reducible refine isLd 23 ?_);refine L_subG H (by kernel_rfl) 23 _ rfl 2 rfl (0) rfl (a.own.map V8) (HP0.out) underlying23 rfl (HZO.out) ?_;simp only[pA])|((with_reducible refine isBd 17 28 ?_);(refine L_bd (by kernel_rfl) 28 _ rfl (#[(0,.int .u8 0),(1,.int .u8 sub),(10,.agg (t.map V8).toArray),(11,.agg (a.own.map V8).toArray),(12,.agg (a.own.map V8).toArray)]) (by kernel_rfl) (cellsH (msgH a t sub)) (HB1.out) ?_);simp only[pA])|((with_reducible refine isBd 19 31 ?_);(refine L_bd (by kernel_rfl) 31 _ rfl (#[(0,.agg (cellsH (msgH a t sub)).toArray),(1,.slice ad n c)]) (by kernel_rfl) (cellsF (msgH a t sub) (.slice ad n c)) (HB2.out) ?_);simp only[pA])|((with_reducible refine isSt 31 ?_);(first|(refine xSR H 31 0 rfl (cellsF (msgH a t sub) (.slice ad n c)) (HZF.out) (HLF.out) (HO1.out) ?_;clear H;intro w11 HWw11 H;simp only[szA] at H)|(refine xSR H 31 1 rfl (cellsF (msgH a t sub) (.slice ad n c)) (HZF.out) (HLF.out) (HO1.out) ?_;clear H;intro w11 HWw11 H;simp only[ssA,szA] at H)|(refine xSR H 31 2 rfl (cellsF (msgH a t sub) (.slice ad n c)) (HZF.out) (HLF.out) (HO1.out) ?_;clear H;intro w11 HWw11 H;simp only[ssA,szA] at H)|(refine xSR H 31 3 rfl (cellsF (msgH a t sub) (.slice ad n c)) (HZF.out) (HLF.out) (HO1.out) ?_;clear H;intro w11 HWw11 H;simp only[ssA,szA] at H)|(refine xSR H 31 4 rfl (cellsF (msgH a t sub) (.slice ad n c)) (HZF.out) (HLF.out) (HO1.out) ?_;clear H;intro w11 HWw11 H;simp only[ssA,szA] at H)|(refine xSR H 31 5 rfl (cellsF (msgH a t sub) (.slice ad n c)) (HZF.out) (HLF.out) (HO1.out) ?_;clear H;intro w11 HWw11 H;simp only[ssA,szA] at H))));exact ret_row Tryz.results59 g10 31 (cellsF (msgH a t sub) (.slice ad n c)).toArray (0,0) _ rfl (H.out.at 0 rfl) underlying31 rfl HZF.out rfl ⟨rfl,H.out.1⟩
def ByeR (a:As) (t:By) (sub code:Int) (w:World) (e:Ending) (w':World):Prop:=∃ ad n c,e=.returned (.agg (cellsF (msgH a t sub) (.slice ad n c)).toArray)∧OwB w.heap.size w' (.slice ad n c) (two16 code)∧Ext w w'
set_option maxHeartbeats 1600000 in
theorem bye_any (a:As) (ha:a.own.length=6) (v:Value) (t:By) (ht:t.length=6) (sub:Int) (h0:0≤sub) (h1:sub<256) (code:Int) (hc0:0≤code) (hc1:code≤65535) (w:World) :
  Calls prog 27 #[.agg (cellsA a v).toArray,.agg (t.map V8).toArray,.int .u8 sub,.int .u16 code] w (ByeR a t sub code w):=by
 have H:=kp (Loc.start w);have HZT:=kp (sizeA8a ht);have HOK:=kp (msg_ok ha ht h0 h1);have HZA:=kp (sizeAs (a:=a) v ha);have HLF:=kp (fun ad n c=>show (cellsF hd0 (.slice none 0 0)).length=(cellsF (msgH a t sub) (.slice ad n c)).length by rw[len_F HOK.out];rfl);have HZF:=kp (fun ad n c=>show (prog.info? 31).map (·.size)=some (cellsF (msgH a t sub) (.slice ad n c)).toArray.size by rw[List.size_toArray,len_F HOK.out];kernel_rfl);have HO1:=kp (fun ad n c=>one_F (msgH a t sub) ad n c);have HBR:=kp (show ∀ w,(Instr.build 85 #[(0,.int .u16 code)]).run prog w=.ok (.agg (cat (partsRe code)).toArray) w by intro w;kernel_rfl);have HER:=kp (fun w=>encReason_any code hc0 hc1 w);have HMS:=kp (fun ad n c e0 w=>message_any a ha v t ht sub h0 h1 ad n c e0 w);clear ha ht h0 h1 hc0 hc1;generalize hP:cat (partsRe code)=P at *;have HP:=kp hP;clear hP;go_enter func27,ntmps27;go_wp2_with (first|((with_reducible refine isBx 4 26 ?_);(refine xBX H 26 (cellsA a v) ?_);clear H;intro g4 w4 HGg4 HEg4 H;simp only[pA])|((with_reducible refine isBx 5 23 ?_);(refine xBX H 23 (t.map V8) ?_);clear H;intro g5 w5 HGg5 HEg5 H;simp only[pA])|((with_reducible refine isAl 8 31 ?_);(with_reducible refine xAL H 31 (cellsF hd0 (.slice none 0 0)) ?_);clear H;intro g8 w8 HGg8 HEg8 H;simp only[pA])|((with_reducible refine isLd 23 ?_);(refine wpList_load_rowG (by kernel_rfl) 23 _ rfl (g5) rfl 23 (t.map V8).toArray (0,0) _ (H.out.at 1 rfl) underlying23 rfl (HZT.out) ?_);simp only[pA])|((with_reducible refine isLd 26 ?_);(refine wpList_load_rowG (by kernel_rfl) 26 _ rfl (g4) rfl 26 (cellsA a v).toArray (0,0) _ (H.out.at 2 rfl) underlying26 rfl (HZA.out) ?_);simp only[pA])|(go_at_call 58;refine (HER.out _).mono ?_;rintro e wa ⟨v2,rfl,ho,hx⟩;obtain⟨ad,n,c,rfl⟩:=owns_form2 ho;have HO:=kp ho;clear ho;replace H:=kp (H.out.ext hx);have HXC:=kp hx;clear hx)|(go_at_call 59;refine (HMS.out _ _ _ _ _).mono ?_;rintro e wa ⟨rfl,hx⟩;replace H:=kp (H.out.ext hx);have HXC:=kp hx;clear hx)|((with_reducible refine isBd 13 85 ?_);(refine L_bd (by kernel_rfl) 85 _ rfl (#[(0,.int .u16 code)]) (by kernel_rfl) (P) (HBR.out) ?_);simp only[pA])|(have HGG:=kp (H.out.at 0 rfl);((with_reducible refine isSt 31 ?_);(first|(refine xSR H 31 0 rfl (cellsF (msgH a t sub) (.slice ad n c)) (HZF.out _ _ _) (HLF.out _ _ _) (HO1.out _ _ _) ?_;clear H;intro w22 HWw22 H;simp only[szA] at H)|(refine xSR H 31 1 rfl (cellsF (msgH a t sub) (.slice ad n c)) (HZF.out _ _ _) (HLF.out _ _ _) (HO1.out _ _ _) ?_;clear H;intro w22 HWw22 H;simp only[ssA,szA] at H)|(refine xSR H 31 2 rfl (cellsF (msgH a t sub) (.slice ad n c)) (HZF.out _ _ _) (HLF.out _ _ _) (HO1.out _ _ _) ?_;clear H;intro w22 HWw22 H;simp only[ssA,szA] at H)|(refine xSR H 31 3 rfl (cellsF (msgH a t sub) (.slice ad n c)) (HZF.out _ _ _) (HLF.out _ _ _) (HO1.out _ _ _) ?_;clear H;intro w22 HWw22 H;simp only[ssA,szA] at H)|(refine xSR H 31 4 rfl (cellsF (msgH a t sub) (.slice ad n c)) (HZF.out _ _ _) (HLF.out _ _ _) (HO1.out _ _ _) ?_;clear H;intro w22 HWw22 H;simp only[ssA,szA] at H)|(refine xSR H 31 5 rfl (cellsF (msgH a t sub) (.slice ad n c)) (HZF.out _ _ _) (HLF.out _ _ _) (HO1.out _ _ _) ?_;clear H;intro w22 HWw22 H;simp only[ssA,szA] at H)))));have HO2:=owns_wroteT (owns_ext HO.out HXC.out) HWw22.out HGG.out (show 5≠31 from by decide);exact ret_row Tryz.results27 g8 31 (cellsF (msgH a t sub) (.slice ad n c)).toArray (0,0) _ rfl (H.out.at 0 rfl) underlying31 rfl (HZF.out _ _ _) rfl ⟨ad,n,c,rfl,owns_weak HO2 ((HEg4.out.trans HEg5.out).trans HEg8.out).size,H.out.1⟩
end Go.Proofs.YtfecopfofkdnpaaGreat
