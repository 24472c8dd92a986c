/- Texts of this proof, put together: Tick30, Rf8, Rf9, Rg1, Rg2, Rp1, Av1, Av2, Av3, Av4, Av5, Av6. -/
import Derived.Test.YtfecopfofkdnpaaGreatY29
import Derived.Test.YtfecopfofkdnpaaGreatY19
import Derived.Test.YtfecopfofkdnpaaGreatY25
import Derived.Test.YtfecopfofkdnpaaGreatY9
import Derived.Test.YtfecopfofkdnpaaGreatY18
import Derived.Test.YtfecopfofkdnpaaGreatY21
import Derived.Test.YtfecopfofkdnpaaGreatY1
namespace Go.Proofs.YtfecopfofkdnpaaGreat
open Go.RowKit Tryz
theorem owns_grown_ne {w w':World} {B1 E1 s1 n1 B2 E2 s2 n2:Nat} {v1 v2:Value} {x1 x2:List Value} (h1:w.ownsRow B1 E1 s1 v1 n1 x1) (h2:w.ownsRow B2 E2 s2 v2 n2 x2) (hE:E1≠E2) (hg:w.grownBy w' v2.ownBlock):w'.ownsRow B1 E1 s1 v1 n1 x1:=by
 refine ownsT_keep h1 fun k hk=>hg.block k (ownsT_lt h1 k hk) fun e=>?_;obtain⟨_,⟨r1,_⟩|⟨g1,c1,q1,r1,_,hg1,_⟩⟩:=h1
 ·rw[r1] at hk;cases hk
 ·obtain⟨_,⟨r2,_⟩|⟨g2,c2,q2,r2,_,hg2,_⟩⟩:=h2
  ·rw[r2] at e;cases e
  ·rw[r1] at hk;rw[r2] at e;cases hk;cases e
   rw[hg1] at hg2;cases hg2;exact hE rfl
theorem frs_app {B:Nat} {outs:List Fm} {v v':Value} {w w':World} {o:Fm} {u:Value} {vs:List Value} (h1:vs.length=outs.length) (h2:w.ownsRow B 31 41 v (outs.zip vs).length ((outs.zip vs).flatMap fun p=>cellsF p.1.1 p.2)) (h3:∀ p∈outs.zip vs,OwB B w p.2 p.1.2) (hu:OwB B w u o.2)
  (hg:w.grownBy w' v.ownBlock) (hn:w'.ownsRow B 31 41 v' (outs.zip vs++[(o,u)]).length ((outs.zip vs++[(o,u)]).flatMap fun p=>cellsF p.1.1 p.2)):FrS B (outs++[o]) v' w':=by
 have hz:(outs++[o]).zip (vs++[u])=outs.zip vs++[(o,u)]:=by rw[List.zip_append h1.symm];rfl
 refine⟨vs++[u],by simp[h1],by rw[hz];exact hn,fun p hp=>?_⟩;rw[hz] at hp;rcases List.mem_append.1 hp with h|h
 ·exact owns_grown_ne (h3 p h) h2 (by decide) hg
 ·rw[List.mem_singleton.1 h];exact owns_grown_ne hu h2 (by decide) hg
theorem frs_grown {B B2 E2 s2 n2:Nat} {outs:List Fm} {v v2:Value} {w w':World} {x2:List Value} (h:FrS B outs v w) (h2:w.ownsRow B2 E2 s2 v2 n2 x2) (hE:31≠E2) (hU:5≠E2) (hg:w.grownBy w' v2.ownBlock):FrS B outs v w':=by
 obtain⟨vs,h1,h3,h4⟩:=h;exact⟨vs,h1,owns_grown_ne h3 h2 hE hg,fun p hp=>owns_grown_ne (h4 p hp) h2 hU hg⟩
theorem ext_wrote {w0 w w':World} {g:Nat} (h:Ext w0 w) (hw:Wrote w w' g) (hg:w0.heap.size≤g):Ext w0 w':=by
 obtain⟨ds,rfl⟩:=hw;exact ext_setRow h hg
theorem frs_lt {B:Nat} {outs:List Fm} {v:Value} {w:World} (h:FrS B outs v w):∀ k,v.ownBlock=some k→k<w.heap.size:=by
 obtain⟨vs,_,h2,_⟩:=h;exact ownsT_lt h2
theorem sep4 {g4 g2 g9 gf B m z:Nat} (h:g4<B∧g2<B) (_:B≤m) (h9:g9=m) (hf:m≤gf) (h1:B≤z) (h2:z<m) (hz:z∈[gf,g9,g4,g2]):False:=by
 simp only[List.mem_cons,List.not_mem_nil,or_false] at hz;omega
def bx (a:As) (s:En):Fm:=byeF a s.addr 12 4
def TikR (a:As) (ha:a.own.length=6) (l:List En) (now:Int) (w:World) (g4 B:Nat) (b2:Bk) (vs:Tmp→Value) (wr:World):Prop:=
 ∃ j vo ad n c,j≤l.length∧vs 25=.int .i64 (j:Nat)∧vs 5=vo∧Kp (Loc w wr [(g4,26,cat (partsA a ha ad n c)),b2])∧Kp (OwE B wr (.slice ad n c) ((l.take j).filter fun s=>!goneE a now s))∧Kp (FrS B (((l.take j).filter (goneE a now)).map (bx a)) vo wr)∧Kp (B≤wr.heap.size)
theorem fil_snoc {l:List En} {j:Nat} {x:En} (h:l[j]?=some x) (p:En→Bool):(l.take (j+1)).filter p=(l.take j).filter p++if p x then [x] else []:=by
 rw[List.take_add_one,h,Option.toList_some,List.filter_append];cases hp:p x <;> simp[hp]
theorem bs_entry (x:En) (hx:x.addr.length=6) (w:World):(Instr.buildSlice 24 1 #[(0,.agg (cat (partsE x hx)).toArray)]).run prog w=.ok (.slice (some ⟨w.heap.size,0,none⟩) 1 1) (w.alloc (.cells (cat (partsE x hx)).toArray 45)):=by
 obtain⟨ad,st,ai,ca,li,se⟩:=x;obtain⟨_,_,_,_,_,_,rfl⟩:=six hx
 kernel_rfl
theorem frs_form {B:Nat} {outs:List Fm} {v:Value} {w:World} (h:FrS B outs v w):∃ a n c,v=.slice a n c:=by
 obtain⟨vs,_,h2,_⟩:=h;exact owns_form2 h2
theorem size_setRow9 (w:World) (g:Nat) (cs:Array Value):(w.setRow g cs).heap.size=w.heap.size:=by unfold World.setRow;simp
theorem one_E (x:En):∀ u∈cellsE x,u.oneCell'=true:=by have:=one_flat [x];simpa using this
set_option maxRecDepth 4000 in
set_option maxHeartbeats 1600000 in
theorem tick_any (a:As) (ha:a.own.length=6) (v:Value) (l:List En) (hl:L6 l) (hn:l.length≤100000) (now:Int) (w:World) (hs:SlT 11 cellsE w v l) :
  Calls prog 12 #[.agg (cellsA a v).toArray,.int .i64 now] w (HanR a (tickF a l now) w):=by
 have H:=kp (Loc.start w);have HSL:=kp hs;have HLK:=kp hl;have HCH:=kp (fun w' hs=>check_any a ha v l hl hn w' hs);have HMO:=kp (fun w'=>moment_any now w');have HBY:=kp (fun t ht w'=>bye_any a ha v t ht 12 (by decide) (by decide) 4 (by decide) (by decide) w');obtain⟨ad,n,c,rfl,hnl,hcap,hat⟩:=hs;have HAT:=kp hat;have HNL:=kp hnl;rw[cat_A a ha] at HCH HBY;rw[cat_A a ha];clear hcap hat;cases hv:validA a l with
 |false =>
  have HR:=kp (show tickF a l now=([],[],8) by unfold tickF;rw[hv];rfl);have HCC:=kp (chk_bad hv);rw[HCC.out] at HCH;clear hv hl hn hnl;go_enter func12,ntmps12;go_wp2_with (first|((with_reducible refine isBx 2 26 ?_);(refine xBX H 26 (cat (partsA a ha ad n c)) ?_);clear H;intro g2 w2 HGg2 HEg2 H;simp only[pA])|((with_reducible refine isAl 4 26 ?_);(refine xAL H 26 (cat (partsA as0 rfl none 0 0)) ?_);clear H;intro g4 w4 HGg4 HEg4 H;simp only[pA])|((with_reducible refine isLd 26 ?_);(refine xFA H 26 1 underlying26 ?_);simp only[pA])|(go_at_call 19;refine (HCH.out _ (HSL.out.ext H.out.1)).mono ?_;rintro e wa ⟨rfl,hx⟩;replace H:=kp (H.out.ext hx);have HXC:=kp hx;clear hx)|((with_reducible refine isBd 14 26 ?_);(refine xBD 26 (#[]) (cat (partsA as0 rfl none 0 0)) ?_);simp only[pA])|((with_reducible refine isSt 26 ?_);(refine xSA H 26 0 (partsA as0 rfl none 0 0) ?_;clear H;intro wz HWwz H;simp only[szA] at H)));exact ret_f3 H Tryz.results12 0 rfl rfl _ _ rfl rfl underlying26 rfl (by kernel_rfl) rfl (hanR_err HR.out (by decide) H.out.1)
 |true =>
  have HCC:=kp (chk_good hv);rw[HCC.out] at HCH;cases hm:momentF now with
  |false =>
   have HR:=kp (show tickF a l now=([],[],2) by unfold tickF;rw[hv,hm];rfl);unfold momentF at hm;rw[hm] at HMO;clear hv hl hn hm hnl;go_enter func12,ntmps12;go_wp2_with (first|((with_reducible refine isBx 2 26 ?_);(refine xBX H 26 (cat (partsA a ha ad n c)) ?_);clear H;intro g2 w2 HGg2 HEg2 H;simp only[pA])|((with_reducible refine isAl 4 26 ?_);(refine xAL H 26 (cat (partsA as0 rfl none 0 0)) ?_);clear H;intro g4 w4 HGg4 HEg4 H;simp only[pA])|((with_reducible refine isLd 26 ?_);(refine xFA H 26 1 underlying26 ?_);simp only[pA])|(go_at_call 19;refine (HCH.out _ (HSL.out.ext H.out.1)).mono ?_;rintro e wa ⟨rfl,hx⟩;replace H:=kp (H.out.ext hx);have HXC:=kp hx;clear hx)|(go_at_call 20;refine (HMO.out _).mono ?_;rintro e wa ⟨rfl,hx⟩;replace H:=kp (H.out.ext hx);have HXC:=kp hx;clear hx)|((with_reducible refine isBd 19 26 ?_);(refine xBD 26 (#[]) (cat (partsA as0 rfl none 0 0)) ?_);simp only[pA])|((with_reducible refine isSt 26 ?_);(refine xSA H 26 0 (partsA as0 rfl none 0 0) ?_;clear H;intro wz HWwz H;simp only[szA] at H)));exact ret_f3 H Tryz.results12 0 rfl rfl _ _ rfl rfl underlying26 rfl (by kernel_rfl) rfl (hanR_err HR.out (by decide) H.out.1)
  |true =>
   have HR:=kp (show tickF a l now=(l.filter (fun s=>!goneE a now s),(l.filter (goneE a now)).map (fun s=>byeF a s.addr 12 4),0) by unfold tickF;rw[hv,hm];rfl);have hok:=(valid_iff a l).1 hv;have hn64:n≤64:=by rw[hnl];exact ok_len hok
   have HEN:=kp (fun (x:En) (hx:x∈l)=>moment_iff.1 (ent_seen_range (hok.ent x hx)))
   have hid:1≤a.idle∧a.idle≤1073741824:=by
    have:=hok.head;simp only[headF,inF,Bool.and_eq_true,decide_eq_true_eq] at this;exact this.1.2
   unfold momentF at hm;rw[hm] at HMO;clear hv hl hn hm hok hnl;go_enter func12,ntmps12;generalize h8:Code.region 8 _ _=R8;go_wp2_with (first|((with_reducible refine isBx 2 26 ?_);(refine xBX H 26 (cat (partsA a ha ad n c)) ?_);clear H;intro g2 w2 HGg2 HEg2 H;simp only[pA])|((with_reducible refine isAl 4 26 ?_);(refine xAL H 26 (cat (partsA as0 rfl none 0 0)) ?_);clear H;intro g4 w4 HGg4 HEg4 H;simp only[pA])|((with_reducible refine isLd 26 ?_);(refine xFA H 26 1 underlying26 ?_);simp only[pA])|(go_at_call 19;refine (HCH.out _ (HSL.out.ext H.out.1)).mono ?_;rintro e wa ⟨rfl,hx⟩;replace H:=kp (H.out.ext hx);have HXC:=kp hx;clear hx)|(go_at_call 20;refine (HMO.out _).mono ?_;rintro e wa ⟨rfl,hx⟩;replace H:=kp (H.out.ext hx);have HXC:=kp hx;clear hx)|((with_reducible refine isSt 26 ?_);((with_reducible refine isSt 26 ?_);refine xSA H 26 0 (partsA a ha ad n c) ?_;clear H;intro wz HWwz H;simp only[szA] at H))|((with_reducible refine isSt 24 ?_);(refine xS1 H 24 0 (partsA a ha none 0 0) ?_;clear H;intro wz1 HWwz1 H;simp only[szA] at H)));subst h8;go_wp2_with ((with_reducible refine isLd 24 ?_);(refine xF1 H 24 1 underlying24 ?_);simp only[pA]);have hgl:=H.out.lt 0 rfl;have hgl2:=H.out.lt 1 rfl;have HGB:=kp (show g4<wz1.heap.size∧g2<wz1.heap.size from⟨hgl,hgl2⟩);have HB0:=kp H.out.1.size;clear hgl hgl2;refine wp_loopC (5::9::25::26::27::28::29::30::31::32::33::34::35::36::37::38::39::40::41::42::43::44::45::46::47::48::49::[]) (TikR a ha l now w g4 wz1.heap.size (g2,26,cat (partsA a ha ad n c))) (fun vs _=>n-(intOf (vs 25)).toNat) (by kernel_rfl) ⟨0,_,none,0,0,Nat.zero_le _,rfl,rfl,H,kp (OwE.nil _ _),kp (FrS.nil _ _),kp (Nat.le_refl _)⟩ ?_;clear H;rintro vs wr ⟨j,vo,ad2,n2,c2,hj,q25,q5,H,HO,HF,HB⟩;simp only[putMany,sbA,szA,ssA];rw[q25,q5];clear q25 q5;generalize h12:Code.region 12 _ _=R12;generalize h13:Code.region 13 _ _=R13;by_cases hlt:j<n
   ·obtain⟨x,hx⟩:∃ x,l[j]?=some x:=⟨l[j]'(by rw[←HNL.out];exact hlt),by simp⟩
    obtain⟨b,off,rfl,hb,hr⟩:=HAT.out j x hx;have hxm:=List.mem_of_getElem? hx;have HXA:=kp (HLK.out x hxm);have hse:=HEN.out x hxm;have HR3:=kp (show wr.rangeAt b (off+j*11) (cat (partsE x HXA.out)) from cat_E x HXA.out▸rangeAt_ext hr hb H.out.1);have HZX:=kp (show (prog.info? 45).map (·.size)=some (cat (partsE x HXA.out)).length by rw[cat_len];kernel_rfl);have HG:=kp (fil_snoc hx (goneE a now));have HK:=kp (fil_snoc hx (fun s=>!goneE a now s));have HOL:=kp (ownsT_lt HO.out);have HJ:=kp (show (l.take j).length≤64 from Nat.le_trans (List.length_take_le _ _) (by omega));clear hb hr hx hxm;generalize hgn:(l.take j).filter (goneE a now)=ga at *;generalize hkn:(l.take j).filter (fun s=>!goneE a now s)=ka at *;have HGA:=kp (show ga.length≤64 by rw[←hgn];exact Nat.le_trans (List.length_filter_le _ _) HJ.out);have HKA:=kp (show ka.length≤64 by rw[←hkn];exact Nat.le_trans (List.length_filter_le _ _) HJ.out);clear hgn hkn;by_cases hg:x.seen+a.idle≤now
    ·have HGE:=kp (show goneE a now x=true from decide_eq_true hg);rw[HGE.out,if_pos rfl] at HG;rw[HGE.out,if_neg (by simp),List.append_nil] at HK;go_wp2_with (first|((with_reducible refine isLd 45 ?_);(refine wpList_load_midG (by kernel_rfl) 45 _ rfl (b) (off+j*11) rfl (cat (partsE x HXA.out)) _ (HR3.out) underlying45 rfl (HZX.out) ?_);simp only[pA])|((with_reducible refine isAl 9 45 ?_);(refine xAL H 45 (cat (partsE en0 rfl)) ?_);clear H;intro g9 w9 HGg9 HEg9 H;simp only[pA])|((with_reducible refine isSt 45 ?_);refine xSA H 45 0 (partsE x HXA.out) ?_;clear H;intro w9b HWw9b H;simp only[szA] at H)|((with_reducible refine isLd 3 ?_);(first|(refine xF1 H 3 0 underlying3 ?_)|(refine xF1 H 3 2 underlying3 ?_));simp only[pA]));have HX9:=kp (ext_wrote HEg9.out HWw9b.out (Nat.le_of_eq HGg9.out.symm));have HOKM:=kp (msg_ok (t:=x.addr) ha HXA.out (show (0:Int)≤12 by decide) (by decide));have HBF:=kp (fun ad n c w=>bs_frame HOKM.out ad n c w);have HBX:=kp (HBY.out x.addr HXA.out);subst h12;go_wp2_with (first|((with_reducible refine isLd 26 ?_);refine xFA H 26 2 underlying26 ?_;simp only[pA])|((with_reducible refine isLd 23 ?_);(refine xFV H 23 0 underlying23 ?_);simp only[pA])|(go_at_call 27;refine (HBX.out _).mono ?_;rintro e wa ⟨bd,bn,bc,rfl,ho,hx⟩;have HOB:=kp (owns_weak ho (Nat.le_trans HB.out HX9.out.size));clear ho;replace H:=kp (H.out.ext hx);have HXC:=kp hx;clear hx)|((with_reducible refine isBs 41 36 ?_);(refine xBS H 36 1 (#[(0,.agg (cellsF (msgH a x.addr 12) (.slice bd bn bc)).toArray)]) 31 (cellsF (msgH a x.addr 12) (.slice bd bn bc)) (HBF.out bd bn bc) ?_);clear H;intro gf wf HGgf HEgf H;simp only[pA])|((with_reducible refine isAp ?_);have HXW:=kp (HX9.out.trans (HXC.out.trans HEgf.out));obtain⟨vs0,f1,f2,f3⟩:=HF.out.ext HXW.out;have HFF:=kp (And.intro f1 (And.intro f2 f3));have HOW:=kp (ownsT_ext HO.out HXW.out);have HOF:=kp (fun k hk=>frs_lt HF.out k hk);go_loud (refine L_appT (f:=fun p:Fm × Value=>cellsF p.1.1 p.2) elemFr H rfl _ _ rfl wz1.heap.size HB0.out (Nat.le_trans HB.out HXW.out.size) _ ((ga.map (bx a)).zip vs0) rfl f2 (fun z hz e=>sep4 (gf:=gf) (g9:=g9) (m:=wr.heap.size) HGB.out HB.out HGg9.out (by have q1:=HX9.out.size;have q2:=HXC.out.size;have q3:=HGgf.out;omega) (ownsT_block f2 z e) (HOF.out z e) hz) gf (bx a x,.slice bd bn bc) rfl 31 (H.out.at 0 rfl) (len_F HOKM.out _) (fun u hu=>by have q:=one_F (msgH a x.addr 12) bd bn bc;rw[←Array.all_toList] at q;exact List.all_eq_true.1 q u hu) (by have q:=HGA.out;rw[List.length_zip,List.length_map];omega) (by have q:=HGA.out;rw[List.length_zip,List.length_map];omega) ?_);clear f1 f2 f3;intro v2 w2 HO2 HG2 HW2 H2;simp only[pA]));obtain⟨f1,f2,f3⟩:=HFF.out;have HFN:=frs_app (o:=bx a x) (u:=.slice bd bn bc) f1 f2 f3 (owns_ext HOB.out HEgf.out) HG2.out HO2.out;exact LoopP.of rfl (by kernel_rfl) ⟨j+1,v2,ad2,n2,c2,(by have q:=HNL.out;rw[←q];exact hlt),by simp,rfl,kp H2.out.tail.tail,kp (by rw[HK.out];exact owns_grown_ne HOW.out f2 (by decide) HG2.out),kp (by rw[HG.out,List.map_append];exact HFN),kp (Nat.le_trans (Nat.le_trans HB.out HXW.out.size) HG2.out.size)⟩ (by simp[intOf];omega)
    ·have HGE:=kp (show goneE a now x=false from decide_eq_false hg);rw[HGE.out,if_neg (by simp),List.append_nil] at HG;rw[HGE.out,if_pos (show (!false)=true from rfl)] at HK;have HBS:=kp (bs_entry x HXA.out);go_wp2_with (first|((with_reducible refine isLd 45 ?_);(refine wpList_load_midG (by kernel_rfl) 45 _ rfl (b) (off+j*11) rfl (cat (partsE x HXA.out)) _ (HR3.out) underlying45 rfl (HZX.out) ?_);simp only[pA])|((with_reducible refine isAl 9 45 ?_);(refine xAL H 45 (cat (partsE en0 rfl)) ?_);clear H;intro g9 w9 HGg9 HEg9 H;simp only[pA])|((with_reducible refine isSt 45 ?_);refine xSA H 45 0 (partsE x HXA.out) ?_;clear H;intro w9b HWw9b H;simp only[szA] at H)|((with_reducible refine isLd 3 ?_);(first|(refine xF1 H 3 0 underlying3 ?_)|(refine xF1 H 3 2 underlying3 ?_));simp only[pA]));have HX9:=kp (ext_wrote HEg9.out HWw9b.out (Nat.le_of_eq HGg9.out.symm));subst h13;go_wp2_with (first|((with_reducible refine isLd 24 ?_);(refine xF1 H 24 1 underlying24 ?_);simp only[pA])|((with_reducible refine isLd 45 ?_);refine xFA H 45 0 underlying45 ?_;simp only[pA])|((with_reducible refine isBs 46 24 ?_);(refine xBS H 24 1 (#[(0,.agg (cat (partsE x HXA.out)).toArray)]) 45 (cat (partsE x HXA.out)) (HBS.out) ?_);clear H;intro gf wf HGgf HEgf H;simp only[pA])|((with_reducible refine isAp ?_);have HXW:=kp (HX9.out.trans HEgf.out);have HFW:=kp (HF.out.ext HXW.out);have HOW:=kp (ownsT_ext HO.out HXW.out);go_loud (refine L_appT (f:=cellsE) elemEn H rfl _ _ rfl wz1.heap.size HB0.out (Nat.le_trans HB.out HXW.out.size) _ ka rfl HOW.out (fun z hz e=>sep4 (gf:=gf) (g9:=g9) (m:=wr.heap.size) HGB.out HB.out HGg9.out (by have q1:=HX9.out.size;have q3:=HGgf.out;omega) (ownsT_block HOW.out z e) (HOL.out z e) hz) gf x rfl 45 (by rw[cat_E x HXA.out];exact H.out.at 0 rfl) (cellsE_len HXA.out) (one_E x) (by have q:=HKA.out;omega) (by have q:=HKA.out;omega) ?_);intro v2 w2 HO2 HG2 HW2 H2;obtain⟨ad3,n3,c3,rfl⟩:=owns_form2 HO2.out;simp only[pA];clear H;have H:=H2;have H4:=kp (H.out.at 2 rfl);clear H2)|((with_reducible refine isSt 24 ?_);(refine xS1 H 24 2 (partsA a ha ad3 n3 c3) ?_;clear H;intro wz2 HWwz2 H;simp only[ssA,szA] at H)));have HLG:=H4.out;exact LoopP.of rfl (by kernel_rfl) ⟨j+1,vo,ad3,n3,c3,(by have q:=HNL.out;rw[←q];exact hlt),by simp,rfl,kp H.out.tail.tail,kp (by rw[HK.out];exact owns_wroteT HO2.out HWwz2.out HLG (by decide)),kp (by rw[HG.out];exact (frs_grown HFW.out HOW.out (by decide) (by decide) HG2.out).wrote HWwz2.out HGB.out.1),kp (Nat.le_trans (Nat.le_trans HB.out HXW.out.size) (by have q:=HG2.out.size;obtain⟨ds,rfl⟩:=HWwz2.out;rw[size_setRow9];exact q))⟩ (by simp[intOf];omega)
   ·obtain rfl:j=n:=by have:=HNL.out;omega
    have HTL:=kp (show l.take j=l from List.take_of_length_le (by rw[HNL.out];exact Nat.le_refl _));rw[HTL.out] at HO HF;have HG4:=kp (H.out.at 0 rfl);obtain⟨va,vn,vc,rfl⟩:=frs_form HF.out;go_wp2_with (first|((with_reducible refine isLd 26 ?_);refine xFA H 26 0 underlying26 ?_;simp only[pA])|((with_reducible refine isSt 26 ?_);((with_reducible refine isSt 26 ?_);refine xSA H 26 0 (partsA a ha ad2 n2 c2) ?_;clear H;intro wz9 HWwz9 H;simp only[szA] at H)));have HOO:=owns_wroteT HO.out HWwz9.out HG4.out (show 45≠26 from by decide);exact ret_f3 H Tryz.results12 0 rfl rfl _ _ rfl rfl underlying26 rfl (by kernel_rfl) rfl (by rw[HR.out];exact hanR_ok ha rfl (owns_weak HOO HB0.out) ((HF.out.wrote HWwz9.out HGB.out.1).weak HB0.out) H.out.1)
theorem build_freshR (t:By) (ht:t.length=6) (now:Int) (w:World):(Instr.build 45 #[(0,.agg (cat [Lf.v ⟨t,ht⟩]).toArray),(1,.int .u8 1),(5,.int .i64 now)]).run prog w=.ok (.agg (cat (partsE (freshE t now) ht)).toArray) w:=by
 obtain⟨_,_,_,_,_,_,rfl⟩:=six ht
 kernel_rfl
set_option maxHeartbeats 1600000 in
theorem freshR_any (t:By) (ht:t.length=6) (now:Int) (w:World) :
  Calls prog 42 #[.agg (t.map V8).toArray,.int .i64 now] w fun e w'=>e=.returned (.agg (cat (partsE (freshE t now) ht)).toArray)∧Ext w w':=by
 have H:=kp (Loc.start w);have HST:=kp ht;have HBF:=kp (fun w=>build_freshR t ht now w);have HTE:=kp (show (t.map V8)=cat [Lf.v ⟨t,HST.out⟩] by simp[cat,Lf.v]);rw[HTE.out];clear HTE;go_enter func42,ntmps42;go_wp2_with (first|((with_reducible refine isBx 2 23 ?_);(refine xBX H 23 (cat ([Lf.v ⟨t,HST.out⟩])) ?_);clear H;intro g2 w2 HGg2 HEg2 H;simp only[pA])|((with_reducible refine isAl 4 45 ?_);(refine xAL H 45 (cat (partsE en0 rfl)) ?_);clear H;intro g4 w4 HGg4 HEg4 H;simp only[pA])|((with_reducible refine isLd 23 ?_);(first|(refine xFA H 23 0 underlying23 ?_)|(refine xFA H 23 1 underlying23 ?_)|(refine xFA H 23 2 underlying23 ?_)|(refine xFA H 23 3 underlying23 ?_)|(refine xFA H 23 4 underlying23 ?_)|(refine xFA H 23 5 underlying23 ?_));simp only[pA])|((with_reducible refine isBd 7 45 ?_);(refine L_bd (by kernel_rfl) 45 _ rfl (#[(0,.agg (cat [Lf.v ⟨t,HST.out⟩]).toArray),(1,.int .u8 1),(5,.int .i64 now)]) (by kernel_rfl) (cat (partsE (freshE t now) HST.out)) (HBF.out) ?_);simp only[pA])|((with_reducible refine isSt 45 ?_);refine xSA H 45 0 (partsE (freshE t now) HST.out) ?_;clear H;intro w5 HWw5 H;simp only[szA] at H));exact ret_f1 H Tryz.results42 0 rfl rfl underlying45 rfl (by kernel_rfl) rfl ⟨rfl,H.out.1⟩
def hdM (sub:Int) (t1 o2 o3:By):Hd:=⟨0,sub,false,false,false,false,false,false,false,0,t1,o2,o3,zero6,0,0,0,0,false,false⟩
theorem okM {sub:Int} {t1 o2 o3:By} (h1:t1.length=6) (h2:o2.length=6) (h3:o3.length=6) (g0:0≤sub) (g1:sub<256):(hdM sub t1 o2 o3).Ok:=⟨Int.le_refl _,by show (0:Int)<256;omega,g0,g1,by show (0:Int)≤0;omega,by show (0:Int)<256;omega,h1,h2,h3,rfl⟩
set_option maxRecDepth 4000 in
set_option maxHeartbeats 1600000 in
theorem messageR_any (a:As) (ha:a.own.length=6) (la:Option Addr) (ln lc:Nat) (t:By) (ht:t.length=6) (sub:Int) (h0:0≤sub) (h1:sub<256) (ad:Option Addr) (n c:Nat) (w:World) :
  Calls prog 68 #[.agg (cat (partsA a ha la ln lc)).toArray,.agg (cat [Lf.v ⟨t,ht⟩]).toArray,.int .u8 sub,.slice ad n c] w fun e w'=>e=.returned (.agg (cellsF (msgH a t sub) (.slice ad n c)).toArray)∧Ext w w':=by
 have H:=kp (Loc.start w);have HA:=kp ha;have HT:=kp ht;have O0:=kp (okM (sub:=0) (t1:=zero6) (o2:=zero6) (o3:=zero6) rfl rfl rfl (by decide) (by decide));have O1:=kp (okM (sub:=sub) (t1:=zero6) (o2:=zero6) (o3:=zero6) rfl rfl rfl h0 h1);have O2:=kp (okM (sub:=sub) (t1:=t) (o2:=zero6) (o3:=zero6) ht rfl rfl h0 h1);have O3:=kp (okM (sub:=sub) (t1:=t) (o2:=a.own) (o3:=zero6) ht ha rfl h0 h1);have O4:=kp (okM (sub:=sub) (t1:=t) (o2:=a.own) (o3:=a.own) ht ha ha h0 h1);have HC:=kp (cat_Fr (hdM sub t a.own a.own) O4.out ad n c);clear h0 h1;go_enter func68,ntmps68;generalize h3:Code.region 3 _ _=R3;generalize h4:Code.region 4 _ _=R4;generalize h5:Code.region 5 _ _=R5;generalize h6:Code.region 6 _ _=R6;go_wp2_with (first|((with_reducible refine isBx 4 26 ?_);(refine xBX H 26 (cat (partsA a HA.out la ln lc)) ?_);clear H;intro g4 w4 HGg4 HEg4 H;simp only[pA])|((with_reducible refine isBx 5 23 ?_);(refine xBX H 23 (cat ([Lf.v ⟨t,HT.out⟩])) ?_);clear H;intro g5 w5 HGg5 HEg5 H;simp only[pA])|((with_reducible refine isAl 8 31 ?_);(refine xAL H 31 (cat (partsFr (hdM 0 zero6 zero6 zero6) O0.out none 0 0)) ?_);clear H;intro g8 w8 HGg8 HEg8 H;simp only[pA])|((with_reducible refine isAl 9 31 ?_);(refine xAL H 31 (cat (partsFr (hdM 0 zero6 zero6 zero6) O0.out none 0 0)) ?_);clear H;intro g9 w9 HGg9 HEg9 H;simp only[pA])|((with_reducible refine isSt 5 ?_);(refine xS1 H 5 0 (partsFr (hdM sub zero6 zero6 zero6) O1.out none 0 0) ?_;clear H;intro w10 HWw10 H;simp only[szA] at H)));subst h3;go_wp2_with (first|((with_reducible refine isLd 23 ?_);(refine xFV H 23 2 underlying23 ?_);simp only[pA])|((with_reducible refine isSt 23 ?_);(refine L_sv H rfl rfl 23 _ _ rfl 0 rfl _ rfl _ rfl (Lf.v ⟨t,HT.out⟩) rfl rfl rfl (by kernel_rfl) (partsFr (hdM sub t zero6 zero6) O2.out none 0 0) rfl ?_;clear H;intro w11 HWw11 H;simp only[szA] at H)));subst h4;go_wp2_with (first|((with_reducible refine isLd 23 ?_);(refine xFV H 23 3 underlying23 ?_);simp only[pA])|((with_reducible refine isSt 23 ?_);(refine L_sv H rfl rfl 23 _ _ rfl 0 rfl _ rfl _ rfl (Lf.v ⟨a.own,HA.out⟩) rfl rfl rfl (by kernel_rfl) (partsFr (hdM sub t a.own zero6) O3.out none 0 0) rfl ?_;clear H;intro w12 HWw12 H;simp only[szA] at H)));subst h5;go_wp2_with (first|((with_reducible refine isLd 23 ?_);(refine xFV H 23 3 underlying23 ?_);simp only[pA])|((with_reducible refine isSt 23 ?_);(refine L_sv H rfl rfl 23 _ _ rfl 0 rfl _ rfl _ rfl (Lf.v ⟨a.own,HA.out⟩) rfl rfl rfl (by kernel_rfl) (partsFr (hdM sub t a.own a.own) O4.out none 0 0) rfl ?_;clear H;intro w13 HWw13 H;simp only[szA] at H)));subst h6;go_wp2_with (first|((with_reducible refine isSt 29 ?_);(refine xS1 H 29 0 (partsFr (hdM sub t a.own a.own) O4.out ad n c) ?_;clear H;intro w14 HWw14 H;simp only[szA] at H))|((with_reducible refine isLd 31 ?_);(refine xFA H 31 0 underlying31 ?_);simp only[pA])|((with_reducible refine isSt 31 ?_);refine xSA H 31 1 (partsFr (hdM sub t a.own a.own) O4.out ad n c) ?_;clear H;intro w15 HWw15 H;simp only[ssA,szA] at H));exact ret_f1 H Tryz.results68 1 rfl rfl underlying31 rfl (by kernel_rfl) rfl ⟨by rw[←HC.out];rfl,H.out.1⟩
def ByP (a:As) (t:By) (sub code:Int) (B:Nat) (v:Value) (w:World):Prop:=∃ g ad n c,v=.slice (some ⟨g,0,none⟩) 1 1∧B≤g∧Lc w g 31 (cellsF (msgH a t sub) (.slice ad n c))∧OwB B w (.slice ad n c) (two16 code)
theorem ByP.weak {a:As} {t:By} {sub code:Int} {B B':Nat} {v:Value} {w:World} (h:ByP a t sub code B v w) (hb:B'≤B):ByP a t sub code B' v w:=by
 obtain⟨g,ad,n,c,h1,h2,h3,h4⟩:=h;exact⟨g,ad,n,c,h1,Nat.le_trans hb h2,h3,owns_weak h4 hb⟩
theorem ByP.frs {a:As} {t:By} {sub code:Int} {B:Nat} {v:Value} {w:World} (h:ByP a t sub code B v w) (ok:(msgH a t sub).Ok):FrS B [byeF a t sub code] v w:=by
 obtain⟨g,ad,n,c,rfl,h2,h3,h4⟩:=h;exact FrS.one ok h3 h2 h4
theorem mono_ByP (a:As) (t:By) (sub code:Int) (B:Nat):MonoO [] (ByP a t sub code B):=fun _ _ _ ⟨g,ad,n,c,h1,h2,h3,h4⟩ ho=>⟨g,ad,n,c,h1,h2,h3.ext (out_ext ho),owns_ext h4 (out_ext ho)⟩
def ByR (a:As) (t:By) (sub code:Int) (w:World) (e:Ending) (w':World):Prop:=∃ v,e=.returned v∧ByP a t sub code w.heap.size v w'∧Ext w w'
set_option maxRecDepth 4000 in
set_option maxHeartbeats 1600000 in
theorem byeR_any (a:As) (ha:a.own.length=6) (la:Option Addr) (ln lc:Nat) (t:By) (ht:t.length=6) (sub:Int) (h0:0≤sub) (h1:sub<256) (code:Int) (hc0:0≤code) (hc1:code≤65535) (w:World) :
  Calls prog 37 #[.agg (cat (partsA a ha la ln lc)).toArray,.agg (cat [Lf.v ⟨t,ht⟩]).toArray,.int .u8 sub,.int .i64 code] w (ByR a t sub code w):=by
 have H:=kp (Loc.start w);have HA:=kp ha;have HT:=kp ht;have HOKM:=kp (msg_ok ha ht h0 h1);have HBF:=kp (fun ad n c w=>bs_frame HOKM.out ad n c w);have HER:=kp (fun W=>encReasonR_any code hc0 hc1 W);have HMS:=kp (fun ad n c W=>messageR_any a HA.out la ln lc t HT.out sub h0 h1 ad n c W);clear h0 h1;go_enter func37,ntmps37;go_wp2_with (first|((with_reducible refine isBx 4 26 ?_);(refine xBX H 26 (cat (partsA a HA.out la ln lc)) ?_);clear H;intro g4 w4 HGg4 HEg4 H;simp only[pA])|((with_reducible refine isBx 5 23 ?_);(refine xBX H 23 (cat ([Lf.v ⟨t,HT.out⟩])) ?_);clear H;intro g5 w5 HGg5 HEg5 H;simp only[pA])|((with_reducible refine isBd 14 85 ?_);(refine xBD 85 (#[(0,.int .u16 code)]) (cat (partsRe code)) ?_);simp only[pA])|(go_at_call 67;have HSZ:=kp H.out.1.size;refine (HER.out _).mono ?_;rintro e wa ⟨u,rfl,ho,hx⟩;obtain⟨ua,un,uc,rfl⟩:=owns_form2 ho;have HOB:=kp (owns_weak ho HSZ.out);clear ho;replace H:=kp (H.out.ext hx);have HXC:=kp hx;clear hx)|((with_reducible refine isLd 26 ?_);(first|(refine xFA H 26 0 underlying26 ?_)|(refine xFA H 26 1 underlying26 ?_)|(refine xFA H 26 2 underlying26 ?_)|(refine xFA H 26 3 underlying26 ?_)|(refine xFA H 26 4 underlying26 ?_)|(refine xFA H 26 5 underlying26 ?_));simp only[pA])|((with_reducible refine isLd 23 ?_);(first|(refine xFA H 23 0 underlying23 ?_)|(refine xFA H 23 1 underlying23 ?_)|(refine xFA H 23 2 underlying23 ?_)|(refine xFA H 23 3 underlying23 ?_)|(refine xFA H 23 4 underlying23 ?_)|(refine xFA H 23 5 underlying23 ?_));simp only[pA])|(go_at_call 68;refine (HMS.out _ _ _ _).mono ?_;rintro e wb ⟨rfl,hx⟩;have HOB2:=kp (owns_ext HOB.out hx);replace H:=kp (H.out.ext hx);have HXC:=kp hx;clear hx)|((with_reducible refine isBs 23 36 ?_);(refine xBS H 36 1 (#[(0,.agg (cellsF (msgH a t sub) (.slice ua un uc)).toArray)]) 31 (cellsF (msgH a t sub) (.slice ua un uc)) (HBF.out ua un uc) ?_);clear H;intro gf wf HGgf HEgf H;simp only[pA]));go_ret;exact⟨_,rfl,⟨_,_,_,_,rfl,H.out.le 0 rfl,H.out.at 0 rfl,owns_ext HOB2.out HEgf.out⟩,H.out.1⟩
def covN:Nat→Nat→Nat→Bool
 |0,_,_=>true
 |k+1,a,s=>if s % 2=1∧a % 2=0 then false else covN k (a / 2) (s / 2)
set_option maxHeartbeats 1600000 in
theorem coversR_any (a s:Nat) (ha:a≤65535) (hs:s≤65535) (w:World) :
  Calls prog 72 #[.int .i64 (a:Int),.int .i64 (s:Int)] w fun e w'=>e=.returned (.bool (covN 16 a s))∧Ext w w':=by
 have H:=kp (Loc.start w);obtain⟨r,hr⟩:∃ r,r=covN 16 a s:=⟨_,rfl⟩
 rw[←hr];have HR:=kp hr.symm;clear hr;go_enter func72,ntmps72;go_wp2_with fail;go_loopw [0,1,5] (fun x y i wr=>∃ a s k:Nat,x=.int .i64 (a:Int)∧y=.int .i64 (s:Int)∧i=.int .i64 ((16-k:Nat):Int)∧a≤65535∧s≤65535∧k≤16∧Kp (covN k a s=r)∧Kp (Loc w wr [])) (fun _ _ i _=>16-(intOf i).toNat)
 case atStart=>exact⟨a,s,16,rfl,rfl,rfl,ha,hs,by omega,HR,H⟩
 case round =>
  clear H HR ha hs;obtain⟨a,s,k,rfl,rfl,rfl,ha,hs,hk,HR,H⟩:=hrel;obtain⟨i,hi⟩:∃ i,i=16-k:=⟨_,rfl⟩
  rw[←hi];cases k with
  |zero =>
   have h16:¬ (i:Int)<16:=by omega
   have HT:=kp (show true=r from HR.out);clear hi;go_wp2_with fail;go_ret;exact⟨by rw[←HT.out];rfl,H.out.1⟩
  |succ k =>
   have h16:(i:Int)<16:=by omega
   have e3:(s:Int).tdiv 2=((s / 2:Nat):Int):=by rw[Int.tdiv_eq_ediv_of_nonneg (by omega)];omega
   have e4:(a:Int).tdiv 2=((a / 2:Nat):Int):=by rw[Int.tdiv_eq_ediv_of_nonneg (by omega)];omega
   have HI:=kp hi;have HS:=kp (show s / 2≤65535∧a / 2≤65535 by omega);clear hi;by_cases c1:s % 2=1
   ·have e1:(s:Int).tmod 2=1:=by rw[Int.tmod_eq_emod_of_nonneg (by omega)];omega
    by_cases c2:a % 2=0
    ·have e2:(a:Int).tmod 2=0:=by rw[Int.tmod_eq_emod_of_nonneg (by omega)];omega
     have HT:=kp (show false=r by rw[←HR.out,covN,if_pos ⟨c1,c2⟩]);clear c1 c2;go_wp2_with fail;go_ret;exact⟨by rw[←HT.out];rfl,H.out.1⟩
    ·have e2:(a:Int).tmod 2=1:=by rw[Int.tmod_eq_emod_of_nonneg (by omega)];omega
     have HT:=kp (show covN k (a / 2) (s / 2)=r by rw[←HR.out,covN,if_neg (fun h=>c2 h.2)]);clear c1 c2;go_wp2_with fail;go_roundw
     case rel=>exact⟨a / 2,s / 2,k,by congr 1,by congr 1,by have:=HI.out;congr 1;omega,HS.out.2,HS.out.1,by omega,HT,H⟩
     case measure=>have:=HI.out;show 16-((i:Int)+1).toNat<16-(i:Int).toNat;omega
   ·have e1:(s:Int).tmod 2=0:=by rw[Int.tmod_eq_emod_of_nonneg (by omega)];omega
    have HT:=kp (show covN k (a / 2) (s / 2)=r by rw[←HR.out,covN,if_neg (fun h=>c1 h.1)]);clear c1;go_wp2_with fail;go_roundw
    case rel=>exact⟨a / 2,s / 2,k,by congr 1,by congr 1,by have:=HI.out;congr 1;omega,HS.out.2,HS.out.1,by omega,HT,H⟩
    case measure=>have:=HI.out;show 16-((i:Int)+1).toNat<16-(i:Int).toNat;omega
theorem cov_iff:∀ (k a s:Nat),covN k a s=true↔∀ i,i<k→s.testBit i=true→a.testBit i=true
 |0,a,s=>by simp[covN]
 |k+1,a,s=>by
  unfold covN;by_cases c:s % 2=1∧a % 2=0
  ·rw[if_pos c];refine⟨fun h=>(by cases h),fun h=>?_⟩;have:=h 0 (by omega) (by simp[Nat.testBit_zero,c.1]);simp[Nat.testBit_zero,c.2] at this
  ·rw[if_neg c,cov_iff k]
   constructor
   ·intro h i hi hs;cases i with
    |zero=>simp only[Nat.testBit_zero,decide_eq_true_eq] at hs ⊢;omega
    |succ i=>rw[Nat.testBit_succ] at hs ⊢;exact h i (by omega) hs
   ·intro h i hi hs;have:=h (i+1) (by omega) (by rw[Nat.testBit_succ];exact hs)
    rwa [Nat.testBit_succ] at this
theorem cov_and {a s:Nat} (hs:s≤65535):covN 16 a s=decide (a &&& s=s):=by
 refine Bool.eq_iff_iff.2 ?_;rw[cov_iff,decide_eq_true_eq]
 constructor
 ·intro h;refine Nat.eq_of_testBit_eq fun i=>?_;rw[Nat.testBit_and];by_cases c:i<16
  ·cases hb:s.testBit i with
   |false=>simp
   |true=>simp[h i c hb]
  ·have:s.testBit i=false:=Nat.testBit_lt_two_pow (Nat.lt_of_lt_of_le (show s<2 ^ 16 by omega) (Nat.pow_le_pow_right (by decide) (by omega)));simp[this]
 ·intro h i _ hb;rw[←h,Nat.testBit_and,Bool.and_eq_true] at hb;exact hb.1
theorem cov_eq {a s:Nat} (ha:a≤65535) (hs:s≤65535):covN 16 a s=coverF a s:=by
 have h2:a &&& s≤a:=Nat.and_le_left
 have h1:bits .and .i64 (a:Int) (s:Int)=((a &&& s:Nat):Int):=by
  have h3:bits .and .i64 (a:Int) (s:Int)=IntKind.i64.wrap ((BitVec.ofInt 64 (a:Int) &&& BitVec.ofInt 64 (s:Int)).toNat:Int):=rfl
  have h4:(BitVec.ofInt 64 (a:Int) &&& BitVec.ofInt 64 (s:Int)).toNat=a &&& s:=by
   rw[BitVec.ofInt_natCast,BitVec.ofInt_natCast,BitVec.toNat_and,BitVec.toNat_ofNat,BitVec.toNat_ofNat,Nat.mod_eq_of_lt (by omega),Nat.mod_eq_of_lt (by omega)]
  rw[h3,h4];generalize a &&& s=x at *;have h5:(x:Int)<9223372036854775808:=by omega
  unfold IntKind.wrap;simp[IntKind.bits,IntKind.signed];omega
 rw[cov_and hs];unfold coverF;rw[h1];refine Bool.eq_iff_iff.2 ?_;rw[decide_eq_true_eq,beq_iff_eq];omega
def neA (t:List (BitVec 8)) (e:En):Bool:=e.addr != t
theorem del_addr {l:List En} (hl:L6 l) {t:List (BitVec 8)} (ht:t.length=6):l.filter (neA t)=delF l t:=List.filter_congr fun e he=>by
 unfold neA neE;refine Bool.eq_iff_iff.2 ?_;rw[bne_iff_ne,decide_eq_true_eq];exact⟨fun h c=>h (num_inj (by rw[hl e he,ht]) c),fun h c=>h (by rw[c])⟩
def stepW (s:En) (o:List En × Bool) (x:En):List En × Bool:=if !o.2&&gtE s.addr x then (o.1++[s]++[x],true) else (o.1++[x],o.2)
def foldW (s:En) (l:List En):List En × Bool:=l.foldl (stepW s) ([],false)
def finW (s:En) (o:List En × Bool):List En:=if o.2 then o.1 else o.1++[s]
theorem foldW_snoc (s:En) (l:List En) (x:En):foldW s (l++[x])=stepW s (foldW s l) x:=by unfold foldW;rw[List.foldl_append];rfl
theorem foldW_len (s:En) (l:List En):(foldW s l).1.length=l.length+if (foldW s l).2 then 1 else 0:=by
 unfold foldW
 suffices h:∀ (l:List En) (o:List En × Bool),((l.foldl (stepW s) o).1.length+if o.2 then 1 else 0)=o.1.length+l.length+if (l.foldl (stepW s) o).2 then 1 else 0 by
  have:=h l ([],false)
  simpa using this
 intro l
 induction l with
 |nil=>intro o;rfl
 |cons x l ih =>
  intro o;have:=ih (stepW s o x);rw[List.foldl_cons,List.length_cons];obtain⟨o,d⟩:=o;unfold stepW at this ⊢;cases d with
  |true=>simp at this ⊢;omega
  |false =>
   cases hg:gtE s.addr x with
   |true=>simp[hg] at this ⊢;omega
   |false=>simp[hg] at this ⊢;omega
theorem fold_done (s:En):∀ (l acc:List En),l.foldl (stepW s) (acc,true)=(acc++l,true)
 |[],acc=>by simp
 |x::l,acc=>by rw[List.foldl_cons,show stepW s (acc,true) x=(acc++[x],true) from rfl,fold_done s l];simp
theorem fold_put (s:En):∀ (l acc:List En),l.Pairwise (fun e f=>numF e.addr<numF f.addr)→(∀ e∈l,numF e.addr≠numF s.addr)→finW s (l.foldl (stepW s) (acc,false))=acc++l.filter (ltE s.addr)++s::l.filter (gtE s.addr)
 |[],acc,_,_=>by simp[finW]
 |x::l,acc,hp,hne=>by
  obtain⟨h1,h2⟩:=List.pairwise_cons.1 hp;rw[List.foldl_cons];by_cases c:numF s.addr<numF x.addr
  ·rw[show stepW s (acc,false) x=(acc++[s]++[x],true) by simp[stepW,gtE,c],fold_done]
   have e1:(x::l).filter (ltE s.addr)=[]:=List.filter_eq_nil_iff.2 fun e he=>by
    rcases List.mem_cons.1 he with rfl|he
    ·simp[ltE];omega
    ·have:=h1 e he;simp[ltE];omega
   have e2:(x::l).filter (gtE s.addr)=x::l:=List.filter_eq_self.2 fun e he=>by
    rcases List.mem_cons.1 he with rfl|he
    ·simp[gtE];omega
    ·have:=h1 e he;simp[gtE];omega
   rw[e1,e2];simp[finW]
  ·have hx:=hne x (by simp);rw[show stepW s (acc,false) x=(acc++[x],false) by simp[stepW,gtE,c],fold_put s l _ h2 (fun e he=>hne e (by simp[he])),List.filter_cons_of_pos (by simp[ltE];omega),List.filter_cons_of_neg (by simp[gtE];omega)];simp
theorem put_fold {l:List En} (s:En) (h:l.Pairwise (fun e f=>numF e.addr<numF f.addr)):finW s (foldW s (delF l s.addr))=putF l s:=by
 unfold foldW;rw[fold_put s _ _ (h.sublist (del_sub _ _)) (fun e he=>(mem_del.1 he).2)];unfold putF delF;rw[List.filter_filter,List.filter_filter,List.nil_append]
 have e1:l.filter (fun e=>ltE s.addr e&&neE s.addr e)=l.filter (ltE s.addr):=List.filter_congr fun e _=>by
  unfold ltE neE;refine Bool.eq_iff_iff.2 ?_;simp;omega
 have e2:l.filter (fun e=>gtE s.addr e&&neE s.addr e)=l.filter (gtE s.addr):=List.filter_congr fun e _=>by
  unfold gtE neE;refine Bool.eq_iff_iff.2 ?_;simp;omega
 rw[e1,e2]
theorem put_at {l:List En} (h:l.Pairwise (fun e f=>numF e.addr<numF f.addr)) (hl:L6 l) {t:List (BitVec 8)} (ht:t.length=6) {e:En} {i:Nat} (hi:l[i]?=some e) (he:e.addr=t) (s:En) (hs:s.addr=t):putF l s=l.set i s:=by
 have hm:lookF l t=some e:=by rw[←he];exact look_mem h (List.mem_of_getElem? hi)
 obtain⟨h1,h2,_,h4,_⟩:=pl_found h hl ht hm
 have:plI l t=i:=by
  obtain⟨hi1,hi2⟩:=List.getElem?_eq_some_iff.1 hi;obtain⟨hj1,hj2⟩:=List.getElem?_eq_some_iff.1 h2;have hp:=List.pairwise_iff_getElem.1 h;rcases Nat.lt_trichotomy (plI l t) i with c|c|c
  ·have:=hp _ _ hj1 hi1 c;rw[hi2,hj2] at this;omega
  ·exact c
  ·have:=hp _ _ hi1 hj1 c;rw[hi2,hj2] at this;omega
 rw[h4 s hs,this]
theorem put_self {l:List En} (h:l.Pairwise (fun e f=>numF e.addr<numF f.addr)) (hl:L6 l) {t:List (BitVec 8)} {e:En} (hm:lookF l t=some e):putF l e=l:=by
 obtain⟨he,ha⟩:=look_some hm;have ht:=look_len hl hm;obtain⟨h1,h2,h3,h4,_⟩:=pl_found h hl ht hm;rw[h4 e h3];refine List.ext_getElem? fun j=>?_;rw[List.getElem?_set]
 split
 ·rename_i c
  rw[←c,h2]
 ·rfl
theorem holder_held {a:As} {l:List En} (h:OkL a l) (k:Nat) (hk:1≤k):decide (0≤holderF l k)=heldBy l k:=by
 refine Bool.eq_iff_iff.2 ?_;rw[decide_eq_true_eq];unfold heldBy holderF;rw[List.any_eq_true];cases hf:l.findIdx? (isHeld k) with
 |none =>
  rw[List.findIdx?_eq_none_iff] at hf;refine⟨fun q=>absurd q (by decide),fun ⟨e,he,q⟩=>?_⟩
  exfalso
  have h1:=hf e he;have q:=beq_iff_eq.1 q;rcases ent_cases (h.ent e he) with c|c
  ·omega
  ·simp[isHeld,c.1,q] at h1
 |some i =>
  rw[List.findIdx?_eq_some_iff_getElem] at hf;obtain⟨hi,hh,_⟩:=hf;refine⟨fun _=>⟨l[i],List.getElem_mem hi,?_⟩,fun _=>by show (0:Int)≤(i:Int);omega⟩;simp only[isHeld,Bool.and_eq_true] at hh;exact hh.2
def tickL (l gs:List En):List En:=gs.foldl (fun m s=>delF m s.addr) l
theorem tickL_snoc (l gs:List En) (g:En):tickL l (gs++[g])=delF (tickL l gs) g.addr:=by unfold tickL;rw[List.foldl_append];rfl
theorem tickL_filter:∀ (gs l:List En),tickL l gs=l.filter (fun e=>gs.all (fun g=>neE g.addr e))
 |[],l=>(List.filter_eq_self.2 fun _ _=>rfl).symm
 |g::gs,l=>by
  show tickL (delF l g.addr) gs=_
  rw[tickL_filter gs];unfold delF;rw[List.filter_filter];exact List.filter_congr fun e _=>by rw[List.all_cons,Bool.and_comm]
theorem tickL_sub (l gs:List En):List.Sublist (tickL l gs) l:=by rw[tickL_filter];exact List.filter_sublist
theorem tick_done {l:List En} (h:l.Pairwise (fun e f=>numF e.addr<numF f.addr)) (p:En→Bool):tickL l (l.filter p)=l.filter (fun s=>!p s):=by
 rw[tickL_filter];refine List.filter_congr fun e he=>?_;cases hp:p e with
 |false =>
  refine List.all_eq_true.2 fun g hg=>decide_eq_true fun hn=>?_;obtain⟨g1,g2⟩:=List.mem_filter.1 hg;rw[pair_inj h he g1 hn,g2] at hp;cases hp
 |true=>exact List.all_eq_false.2 ⟨e,List.mem_filter.2 ⟨he,hp⟩,by simp[neE]⟩
def stB (i:BitVec 8):By:=[4#8,i,0#8,0#8,0#8,0#8]
def bAu:By:=two16 0++two16 1++two16 0
def bRq:By:=two16 3++two16 5
def bRe:By:=two16 1
theorem k0:(0:Int)≤0∧(0:Int)<256:=by decide
theorem hs6 (i:BitVec 8):(stB i).length=6:=rfl
def L2:List En:=[⟨stB 1,2,1,3,5,2⟩]
def L3:List En:=[⟨stB 1,2,1,3,5,2⟩,⟨stB 2,1,0,0,0,3⟩]
def L5:List En:=[⟨stB 1,1,0,0,0,5⟩,⟨stB 2,1,0,0,0,4⟩]
def Bods (B:Nat) (W:World) (s0 s1 s2 s3 s4:Value):Prop:=OwB B W s0 bAu∧OwB B W s1 bRq∧OwB B W s2 bRe∧OwB B W s3 bAu∧OwB B W s4 bRq
theorem Bods.ext {B:Nat} {W W':World} {s0 s1 s2 s3 s4:Value} (h:Bods B W s0 s1 s2 s3 s4) (hx:Ext W W'):Bods B W' s0 s1 s2 s3 s4:=
 ⟨owns_ext h.1 hx,owns_ext h.2.1 hx,owns_ext h.2.2.1 hx,owns_ext h.2.2.2.1 hx,owns_ext h.2.2.2.2 hx⟩
theorem Bods.wrote {B:Nat} {W W':World} {s0 s1 s2 s3 s4:Value} {g T:Nat} {cs:List Value} (h:Bods B W s0 s1 s2 s3 s4) (hw:Wrote W W' g) (hg:Lc W g T cs) (hT:5≠T):Bods B W' s0 s1 s2 s3 s4:=
 ⟨owns_wroteT h.1 hw hg hT,owns_wroteT h.2.1 hw hg hT,owns_wroteT h.2.2.1 hw hg hT,owns_wroteT h.2.2.2.1 hw hg hT,owns_wroteT h.2.2.2.2 hw hg hT⟩
end Go.Proofs.YtfecopfofkdnpaaGreat
