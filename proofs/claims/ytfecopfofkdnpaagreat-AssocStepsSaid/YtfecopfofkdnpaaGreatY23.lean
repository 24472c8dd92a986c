/- Texts of this proof, put together: InsA, Ins, Ins2, Au. -/
import Derived.Test.YtfecopfofkdnpaaGreatY22
import Derived.Lib.Overlaps
import Derived.Test.YtfecopfofkdnpaaGreatY1
namespace Go.Proofs.YtfecopfofkdnpaaGreat
open Go.RowKit Tryz
def InsR (l:List En) (i:Nat) (s:En) (B:Nat) (w0:World) (rest:List Bk) (e:Ending) (w':World):Prop:=
 ∃ ad n c,e=.returned (.slice ad n c)∧OwE B w' (.slice ad n c) (l.take i++s::l.drop i)∧Loc w0 w' rest∧∀ z∈rest.map (·.1),(Value.slice ad n c).ownBlock≠some z
theorem overlap_no {w:World} {g b1:Nat} {cs ds:List Value} (h1:Lc w b1 45 cs) (h2:Lc w g 45 ds) (hne:b1≠g) (hd:ds.length≠0) (off la ca lb cb:Nat) :
  (Extern.SlicesOverlaps.overlaps #[24,24] #[4] #[.slice (some ⟨b1,0,none⟩) la ca,.slice (some ⟨g,off,none⟩) lb cb]).run prog w=.ok (.bool false) w:=by
 refine Lib.run_overlaps_apart w 24 4 45 underlying24 11 (fun w=>run_sz w sizeEn) ⟨b1,0,none⟩ ⟨g,off,none⟩ la ca lb cb hne 45 45 cs.length ds.length ?_ ?_ hd ?_ ?_
 ·simp only[World.shape?,show w.heap[b1]?=some (.cells cs.toArray 45 (0,0)) from h1];simp
 ·simp only[World.shape?,show w.heap[g]?=some (.cells ds.toArray 45 (0,0)) from h2];simp
 ·simp[World.frozen?,show w.heap[b1]?=some (.cells cs.toArray 45 (0,0)) from h1]
 ·simp[World.frozen?,show w.heap[b1]?=some (.cells cs.toArray 45 (0,0)) from h1]
theorem rd_one {w:World} {b:Nat} {s:En} (h:Lc w b 45 (cellsE s)):Rd9 w (.slice (some ⟨b,0,none⟩) 1 1) 1 (cellsE s):=⟨⟨b,0,none⟩,1,1,rfl,rfl,fun j u hu=>by rw[Addr.add_mid,Nat.zero_add];exact h.cell hu⟩
theorem underInt:prog.underlying 3=some (.int .i64):=by kernel_rfl
section
variable {P:Program} {w0 w:World} {bs:List Bk} {ops:Array Oper} {rest:List Oper} {o:Oper} {a:Act} {Q:Exit→Act→World→Prop} {t e:TypeId} {sz bytes:Nat}
theorem L_cpU (he:ElemT P t e sz bytes) (H:Kp (Loc w0 w bs)) (hgd:o.guard=none) (d s:Operand) (ho:o.op=.call { callee:=.builtin .copy,args:=#[d,s],argTypes:=#[t,t] })
  (k:Nat) {g T:Nat} {cs:List Value} (hi:bs[k]?=some (g,T,cs)) (off n c:Nat) (hd:a.eval d=.slice (some ⟨g,off,none⟩) n c) (A:Addr) (sl sc:Nat) (hs:a.eval s=.slice (some A) sl sc) (hle:n≤sl) (ds:List Value) (hr:∀ j u,ds[j]?=some u→w.cell? (A.add j)=some u) (hl:ds.length=n*sz) (h1:∀ u∈ds,u.oneCell'=true) (hfit:off+n*sz≤cs.length) (new:List Value) (hnew:cs.take off++ds++cs.drop (off+n*sz)=new)
  (h:∀ w',Kp (Wrote w w' g)→Kp (Loc w0 w' (bs.set k (g,T,new)))→wpList P ops Q rest (a.put o.dst (goInt (n:Int))) w'):wpList P ops Q (o::rest) a w:=by
 obtain⟨i,z,hin,hz,hsz,hby,hzs⟩:=he.info;subst hsz;refine wpList_plain hgd fun K hK=>?_;have hrun:=run_copyT (P:=P) w t t o.type e i he.under hin g off n c A sl sc n (Nat.min_eq_right hle) cs.toArray T ds (H.out.at k hi) hl hr (by rw[hl];simpa using hfit) h1;rw[hl] at hrun;have e1:cs.toArray.toList.take off++ds++cs.toArray.toList.drop (off+n*i.size)=new:=hnew;rw[e1] at hrun;unfold Oper.wp execOp;simp only[ho,resolve,invoke,builtin,Sem.run_bind,Sem.run_pure,Result.andThen_ok,List.map_toArray,List.map_cons,List.map_nil,hd,hs,hrun];exact hK _ _ (h _ (kp ⟨_,rfl⟩) (kp (H.out.set k hi new)))
end
set_option maxRecDepth 4000 in
theorem insert_end (l:List En) (hn:l.length≤100000) (s:En) (hs:s.addr.length=6) (B:Nat) (v:Value) (b1:Nat) (w0 w:World) (rest:List Bk) (hB0:w0.heap.size≤B) (hB:B≤w.heap.size)
  (H:Kp (Loc w0 w ((b1,45,cellsE s)::rest))) (HO:Kp (OwE B w v l)) (hsep:∀ z∈((b1,45,cellsE s)::rest).map (·.1),v.ownBlock≠some z) :
  Calls prog 60 #[v,.int .i64 (l.length:Nat),.slice (some ⟨b1,0,none⟩) 1 1] w (InsR l l.length s B w0 rest):=by
 obtain⟨ad,c,rfl,hc⟩:=owns_formN HO.out;obtain⟨n,hnl⟩:∃ n,n=l.length:=⟨_,rfl⟩
 have HLN:=kp (show (l.length+1)*40≤140737488355328∧l.length+1≤100000000 by omega);have HLE:=kp (cellsE_len hs);have HOS:=kp (show ∀ u∈cellsE s,u.oneCell'=true by have:=one_flat [s];simpa using this);rw[←hnl] at hc hn HO hsep ⊢;have HB0:=kp hB0;have HB:=kp hB;have HSP:=kp hsep;have HN:=kp hnl;have HNN:=kp (Nat.le_refl n);clear hB0 hB hsep hnl hs;go_enter func60,ntmps60;generalize h8:Code.region 8 _ _=R8;go_wp2_with (first|((with_reducible show wpList _ _ _ (Oper.mk _ (Op.slice 24 _ _ _ _) _ _ _ _::_) _ _);(refine L_cut (by kernel_rfl) 24 _ _ _ _ rfl _ _ _ _ _ rfl rfl rfl rfl (run_cutL _ underlying24 (sizeEn) _ _ _ (n) (HNN.out)) ?_);simp only[pA])|((with_reducible refine isAp ?_);go_loud (refine L_appT elemEn H rfl _ _ rfl B HB0.out HB.out _ l rfl HO.out HSP.out b1 s rfl _ (H.out.at 0 rfl) HLE.out HOS.out HLN.out.1 HLN.out.2 ?_);intro v2 w2 HO2 HG2 HW2 H2;simp only[pA]))
 all_goals (
  obtain⟨ad2,n2,c2,rfl⟩:=owns_form2 HO2.out;go_ret;refine⟨ad2,n2,c2,rfl,?_,H2.out.tail,fun z hz=>?_⟩
  ·rw[HN.out,List.take_length,List.drop_length];exact HO2.out
  ·rcases HW2.out with q|q
   ·rw[q];exact HSP.out z (List.mem_cons_of_mem _ hz)
   ·rw[q];intro e;have h9:w.heap.size=z:=by simpa using e
    have:=H.out.tail.allLt z hz
    omega)
set_option maxRecDepth 4000 in
set_option maxHeartbeats 3200000 in
theorem insert_grow (l:List En) (hl:∀ x∈l,x.addr.length=6) (n:Nat) (hnl:n=l.length) (hn:n≤99000) (s:En) (hs:s.addr.length=6) (i:Nat) (hi:i<n) (g c:Nat) (zs:List Value) (hc:n≤c) (hc2:c<n+1) (B:Nat) (b1:Nat) (w0 w:World) (rest:List Bk) (hB:B≤w.heap.size)
  (H:Kp (Loc w0 w ((b1,45,cellsE s)::(g,45,l.flatMap cellsE++zs)::rest))) :
  Calls prog 60 #[.slice (some ⟨g,0,none⟩) n c,.int .i64 (i:Int),.slice (some ⟨b1,0,none⟩) 1 1] w (InsR l i s B w0 rest):=by
 obtain⟨r,hr⟩:∃ r,r=n+1:=⟨_,rfl⟩
 obtain⟨j,hj⟩:∃ j,j=i+1:=⟨_,rfl⟩
 obtain⟨k,hk⟩:∃ k,k=r-i:=⟨_,rfl⟩
 have hr1:(n:Int)+1=(r:Int):=by omega
 have hj1:(i:Int)+1=(j:Int):=by omega
 have hk1:(r:Int)-(i:Int)=(k:Int):=by omega
 have hne:¬ ((i:Int)=(n:Int)):=by omega
 have HB:=kp hB;have HX:=kp (show i<n∧r=n+1∧j=i+1∧k=r-i∧n≤c∧c<r∧i≤n∧n≤99000∧n=l.length by omega);have HLE:=kp (cellsE_len hs);have HOS:=kp (show ∀ u∈cellsE s,u.oneCell'=true by have:=one_flat [s];simpa using this);have hi2:i≤99000:=by omega
 have hr2:r≤99001:=by omega
 obtain⟨cs,hcs⟩:∃ cs,cs=l.flatMap cellsE++zs:=⟨_,rfl⟩
 obtain⟨os,hos⟩:∃ os,os=(l.take i).flatMap cellsE:=⟨_,rfl⟩
 rw[←hcs] at H;have HOL:=kp (show os.length=i*11 by rw[hos,flatE_len (fun x hx=>hl x (List.mem_of_mem_take hx)),List.length_take];omega)
 have HRO:=kp (fun W (hW:Lc W g 45 cs) j u (hu:os[j]?=some u)=>show W.cell? ((⟨g,0,none⟩:Addr).add j)=some u by
  rw[Addr.add_mid,Nat.zero_add];refine hW.cell ?_;have h1:=flatE_take hl zs i (by omega);have hlt:=(List.getElem?_eq_some_iff.1 hu).1;rw[hos,←h1,←hcs,List.getElem?_take] at hu
  split at hu
  ·exact hu
  ·cases hu)
 have hsa:=hs;have HCS:=kp hcs;have HOSD:=kp hos;have HCR:=kp (show decide (c<r)=true by simp;omega);clear hc hc2 hB hr hj hk hnl hs hi hcs hos;have HLL:=kp hl;have HSA:=kp hsa;clear hl hsa;go_enter func60,ntmps60;generalize h8:Code.region 8 _ _=R8;generalize h9:Code.region 9 _ _=R9;generalize h10:Code.region 10 _ _=R10;generalize h11:Code.region 11 _ _=R11;generalize h13:Code.region 13 _ _=R13;go_wp2_with (first|((with_reducible show wpList _ _ _ (Oper.mk _ (Op.slice 24 _ _ _ _) _ _ _ _::_) _ _);(refine L_cut (by kernel_rfl) 24 _ _ _ _ rfl _ _ _ _ _ rfl rfl rfl rfl (run_cutL _ underlying24 (sizeEn) _ _ _ (i) (HX.out.2.2.2.2.2.2.1)) ?_);simp only[pA]));subst h8;go_wp2_with fail
 all_goals try (exfalso;have:=HX.out;omega)
 subst h9;go_wp2_with (first|((with_reducible show wpList _ _ _ (Oper.mk _ (Op.slice 24 _ _ _ _) _ _ _ _::_) _ _);(refine L_cut (by kernel_rfl) 24 _ _ _ _ rfl _ _ _ _ _ rfl rfl rfl rfl (run_cutL _ underlying24 (sizeEn) _ _ _ (i) (HX.out.2.2.2.2.2.2.1)) ?_);simp only[pA])|((with_reducible show wpList _ _ _ (Oper.mk _ (Op.slice 24 _ _ _ _) _ _ _ _::_) _ _);(refine L_cut (by kernel_rfl) 24 _ _ _ _ rfl _ _ _ _ _ rfl rfl rfl rfl (run_cutH _ underlying24 (sizeEn) _ _ _ (i) ((by have:=HX.out;omega))) ?_);simp only[pA])|((with_reducible refine isAp ?_);refine L_apZ (elemEn) (underInt) H rfl _ _ rfl (i) (c) (k) (g) (0) rfl _ rfl (os) (HOL.out) (HRO.out _ (H.out.at 1 rfl)) ((by have:=HX.out;omega)) ((by have:=HX.out;omega)) ((by have:=HX.out;omega)) ((by decide)) (r) ((by have:=HX.out;omega)) ?_;clear H;intro cq zz gn wn HGgn HGcq HMcq HLzz HKzz HEwn H;simp only[pA]));clear hk1 hr1
 have HZL:=kp (show os.length+zz.length=cq*11∧k*11≤zz.length∧i<cq∧j<cq∧r≤cq by
  have h1:=HLzz.out;have h2:=HKzz.out;have h3:=HGcq.out;have h4:=HX.out;omega)
 have HCI:=kp (cutA_some gn 0 i cq 11 (by have:=HZL.out;omega));have HCJ:=kp (cutA_some gn 0 j cq 11 (by have:=HZL.out;omega));obtain⟨n1,hn1⟩:∃ n1,n1=os++cellsE s++zz.drop 11:=⟨_,rfl⟩
 have HN1:=kp (show (os++zz).take (i*11)++cellsE s++(os++zz).drop (i*11+1*11)=n1 by
  have h1:=HOL.out
  rw[hn1,←h1,List.take_left,Nat.one_mul,←List.drop_drop,List.drop_left])
 have HN1L:=kp (show n1.length=cq*11 by
  have h1:=HOL.out;have h2:=HLE.out;have h3:=HZL.out;have h4:=HX.out
  rw[hn1];simp only[List.length_append,List.length_drop,h2];omega)
 have HN1D:=kp hn1;clear hn1;subst h10;go_wp2_with (first|(((with_reducible show wpList _ _ _ (Oper.mk _ (Op.slice 24 _ _ _ _) _ _ _ _::_) _ _);(refine L_cut (by kernel_rfl) 24 _ _ _ _ rfl _ _ _ _ _ rfl rfl rfl rfl (run_cutL _ underlying24 (sizeEn) _ _ _ (i) ((by have:=HX.out;omega))) ?_);simp only[pA]);rw[HCI.out,Nat.zero_add])|((with_reducible show wpList _ _ _ (Oper.mk _ (Op.call { callee:=.builtin .copy,args:=_,argTypes:=_ }) _ _ _ _::_) _ _);refine L_cpT (elemEn) H rfl _ _ rfl 0 rfl (i*11) (r-i) (cq-i) rfl _ rfl (1) (cellsE s) (rd_one (H.out.at 1 rfl)) ((by have:=HX.out;omega)) (HLE.out) (HOS.out) ((by rw[List.length_append];have:=HZL.out;have:=HX.out;omega)) (n1) (HN1.out) ?_;clear H;intro wc HWwc H;simp only[szA] at H;simp only[pA]));subst h11;refine xRZ H 8 ?_;apply Exists.intro;refine⟨fun xz2=>?_,fun wz2 HXZ H=>?_⟩
 ·simp only[tK];unfold Cx;repeat (first|((with_reducible show wpQuiet _ _ _ _ (Oper.mk _ (Op.slice 24 _ _ _ _) _ _ _ _::_) _);go_big_quiet_want;refine qz_cut 24 _ _ _ _ rfl _ _ _ _ _ rfl rfl rfl rfl (fun _=>run_cutL _ underlying24 (sizeEn) _ _ _ (j) ((by have:=HX.out;omega))) ?_;simp only[pA];go_big_quiet_on)|((with_reducible show wpQuiet _ _ _ _ (Oper.mk _ (Op.slice 24 _ _ _ _) _ _ _ _::_) _);go_big_quiet_want;refine qz_cut 24 _ _ _ _ rfl _ _ _ _ _ rfl rfl rfl rfl (fun _=>run_cutL _ underlying24 (sizeEn) _ _ _ (i) ((by have:=HX.out;omega))) ?_;simp only[pA];go_big_quiet_on)|go_big_quiet_step (fail))
  exact wpQuiet_nil rfl
 simp only[dR];rw[HCJ.out,Nat.zero_add];obtain⟨ds,hds⟩:∃ ds,ds=(l.drop i).flatMap cellsE:=⟨_,rfl⟩
 have HRP:=kp (show Rd9 wz2 (.slice (cutA (some ⟨g,0,none⟩) i c 11) (n-i) (c-i)) (n-i) ds by
  have h1:Lc wz2 g 45 cs:=H.out.at 2 rfl;rw[HCS.out] at h1;have h2:=HX.out;have h3:=rd_part HLL.out h1 (c:=c) (by omega) i (by omega) (c-i);rw[←h2.2.2.2.2.2.2.2.2] at h3
  rw[hds];exact h3)
 have HDL:=kp (show ds.length=(n-i)*11 by
  have h2:=HX.out
  rw[hds,flatE_len (fun x hx=>HLL.out x (List.mem_of_mem_drop hx)),List.length_drop,h2.2.2.2.2.2.2.2.2])
 have HD1:=kp (show ∀ u∈ds,u.oneCell'=true by rw[hds];exact one_flat _);have HDD:=kp hds;clear hds;go_wp2_with (first|((with_reducible show wpList _ _ _ (Oper.mk _ (Op.call { callee:=.builtin .copy,args:=_,argTypes:=_ }) _ _ _ _::_) _ _);refine L_cpT (elemEn) H rfl _ _ rfl 0 rfl (j*11) (r-j) (cq-j) rfl _ rfl (n-i) (ds) (HRP.out) ((by have:=HX.out;omega)) (HDL.out) (HD1.out) ((by rw[HN1L.out];have:=HZL.out;have:=HX.out;omega)) (_) (rfl) ?_;clear H;intro wd HWwd H;simp only[szA] at H;simp only[pA]));go_ret;have h1:=HX.out;have h2:=HZL.out
 have hT:n1.take (j*11)=os++cellsE s:=by
  rw[HN1D.out,show j*11=(os++cellsE s).length by rw[List.length_append,HOL.out,HLE.out];omega,List.take_left]
 refine⟨some ⟨gn,0,none⟩,r,cq,rfl,OwE.of ?_ (H.out.at 0 rfl) (by have:=HGgn.out;have:=HB.out;omega) ?_ h2.2.2.2.2 HMcq.out ?_ ?_,H.out.tail.tail.tail,fun z hz e=>?_⟩
 ·intro x hx;rcases List.mem_append.1 hx with h|h
  ·exact HLL.out x (List.mem_of_mem_take h)
  ·rcases List.mem_cons.1 h with rfl|h
   ·exact HSA.out
   ·exact HLL.out x (List.mem_of_mem_drop h)
 ·simp only[List.length_append,List.length_cons,List.length_take,List.length_drop];omega
 ·simp only[List.length_append,List.length_take,List.length_drop,HN1L.out,HDL.out];omega
 ·have e2:(l.take i++s::l.drop i).length*11=(os++cellsE s++ds).length:=by
   simp only[List.length_append,List.length_cons,List.length_take,List.length_drop,HOL.out,HLE.out,HDL.out];omega
  rw[e2,hT,List.take_left,HOSD.out,HDD.out];simp[List.flatMap_append]
 ·have e3:gn=z:=by simpa[Value.ownBlock] using e
  subst e3;have h9:=H.out.2.1;simp only[List.map_cons,List.nodup_cons] at h9;exact h9.1 (List.mem_cons_of_mem _ (List.mem_cons_of_mem _ hz))
set_option maxRecDepth 4000 in
set_option maxHeartbeats 3200000 in
theorem insert_room (l:List En) (hl:∀ x∈l,x.addr.length=6) (n:Nat) (hnl:n=l.length) (hn:n≤99000) (s:En) (hs:s.addr.length=6) (i:Nat) (hi:i<n) (g c:Nat) (zs:List Value) (hc:n+1≤c) (hcm:c≤maxLen) (hz:(l.flatMap cellsE++zs).length=c*11) (B:Nat) (hgB:B≤g) (b1:Nat) (w0 w:World) (rest:List Bk)
  (H:Kp (Loc w0 w ((b1,45,cellsE s)::(g,45,l.flatMap cellsE++zs)::rest))) :
  Calls prog 60 #[.slice (some ⟨g,0,none⟩) n c,.int .i64 (i:Int),.slice (some ⟨b1,0,none⟩) 1 1] w (InsR l i s B w0 rest):=by
 obtain⟨r,hr⟩:∃ r,r=n+1:=⟨_,rfl⟩
 obtain⟨j,hj⟩:∃ j,j=i+1:=⟨_,rfl⟩
 have hr1:(n:Int)+1=(r:Int):=by omega
 have hj1:(i:Int)+1=(j:Int):=by omega
 have hne:¬ ((i:Int)=(n:Int)):=by omega
 have HX:=kp (show i<n∧r=n+1∧j=i+1∧r≤c∧i≤n∧n≤99000∧n=l.length∧j≤r∧i≤r∧r-j=n-i∧i<c∧j<c by omega);have HCM:=kp hcm;have HGB:=kp hgB;have HLE:=kp (cellsE_len hs);have HOS:=kp (show ∀ u∈cellsE s,u.oneCell'=true by have:=one_flat [s];simpa using this);have hi2:i≤99000:=by omega
 have hr2:r≤99001:=by omega
 have HNO:=kp (show g≠b1 by
  have h9:=H.out.2.1;simp only[List.map_cons,List.nodup_cons] at h9
  intro e;exact h9.1 (by rw[e];exact List.mem_cons_self ..))
 obtain⟨cs,hcs⟩:∃ cs,cs=l.flatMap cellsE++zs:=⟨_,rfl⟩
 obtain⟨ds,hds⟩:∃ ds,ds=(l.drop i).flatMap cellsE:=⟨_,rfl⟩
 rw[←hcs] at H hz;have HZ:=kp hz;have HDL:=kp (show ds.length=(n-i)*11 by rw[hds,flatE_len (fun x hx=>hl x (List.mem_of_mem_drop hx)),List.length_drop,hnl]);have HD1:=kp (show ∀ u∈ds,u.oneCell'=true by rw[hds];exact one_flat _)
 have HRD:=kp (fun W (hW:Lc W g 45 cs) q u (hu:ds[q]?=some u)=>show W.cell? ((⟨g,i*11,none⟩:Addr).add q)=some u by
  rw[Addr.add_mid];refine hW.cell ?_;rw[←List.getElem?_drop,hcs,flatE_drop hl zs i (by omega),←hds]
  exact (List.getElem?_append_left (List.getElem?_eq_some_iff.1 hu).1).trans hu)
 have HCI:=kp (cutA_some g 0 i c 11 (by omega));have HCJ:=kp (cutA_some g 0 j c 11 (by omega));have HCR:=kp (show decide (c<r)=false by simp;omega);obtain⟨n1,hn1⟩:∃ n1,n1=cs.take (j*11)++ds++cs.drop (j*11+(r-j)*11):=⟨_,rfl⟩
 obtain⟨n2,hn2⟩:∃ n2,n2=n1.take (i*11)++cellsE s++n1.drop (i*11+1*11):=⟨_,rfl⟩
 have HN1:=kp hn1.symm;have HN2:=kp hn2.symm
 have HN1L:=kp (show n1.length=c*11 by
  rw[hn1];have:=HDL.out;simp only[List.length_append,List.length_take,List.length_drop,this,hz];omega)
 have HN2L:=kp (show n2.length=c*11 by
  have h1:=HLE.out;have h2:=HN1L.out;rw[hn2];simp only[List.length_append,List.length_take,List.length_drop,h1];omega)
 have HFIN:=kp (show n2.take ((n+1)*11)=(l.take i++s::l.drop i).flatMap cellsE by
  have e1:n1.take (i*11)=(l.take i).flatMap cellsE:=by
   rw[hn1,List.append_assoc,List.take_append_of_le_length (by rw[List.length_take,hz];omega),List.take_take,Nat.min_eq_left (by omega),hcs];exact flatE_take hl zs i (by omega)
  have e2:n1.drop (i*11+1*11)=ds++cs.drop (j*11+(r-j)*11):=by
   rw[hn1,List.append_assoc,show i*11+1*11=(cs.take (j*11)).length by rw[List.length_take,hz];omega,List.drop_left]
  rw[hn2,e1,e2,List.flatMap_append,List.flatMap_cons,←hds];have h2:=flatE_len (l:=l.take i) (fun x hx=>hl x (List.mem_of_mem_take hx));rw[List.length_take,Nat.min_eq_left (by omega)] at h2
  have e3:(n+1)*11=((l.take i).flatMap cellsE++(cellsE s++ds)).length:=by
   simp only[List.length_append,h2,HLE.out,HDL.out];omega
  rw[show (l.take i).flatMap cellsE++cellsE s++(ds++cs.drop (j*11+(r-j)*11))=((l.take i).flatMap cellsE++(cellsE s++ds))++cs.drop (j*11+(r-j)*11) by simp only[List.append_assoc],e3,List.take_left])
 have HOV:=kp (fun W (hW:Loc w0 W ((b1,45,cellsE s)::(g,45,cs)::rest))=>overlap_no (w:=W) (hW.at 0 rfl) (hW.at 1 rfl) HNO.out.symm (by rw[HZ.out];have:=HX.out;omega) (j*11) 1 1 (r-j) (c-j));have HLL:=kp hl;have HSA:=kp hs;clear hn1 hn2 hcs hds hz hc hr hj hnl hs hi hl hcm hgB;go_enter func60,ntmps60;generalize h8:Code.region 8 _ _=R8;generalize h13:Code.region 13 _ _=R13;generalize h14:Code.region 14 _ _=R14;generalize h15:Code.region 15 _ _=R15;generalize h16:Code.region 16 _ _=R16;go_wp2_with (first|((with_reducible show wpList _ _ _ (Oper.mk _ (Op.slice 24 _ _ _ _) _ _ _ _::_) _ _);(refine L_cut (by kernel_rfl) 24 _ _ _ _ rfl _ _ _ _ _ rfl rfl rfl rfl (run_cutL _ underlying24 (sizeEn) _ _ _ (i) (HX.out.2.2.2.2.1)) ?_);simp only[pA]));subst h8;go_wp2_with fail
 all_goals try (exfalso;have:=HX.out;omega)
 subst h13;go_wp2_with (first|((with_reducible show wpList _ _ _ (Oper.mk _ (Op.slice 24 _ _ _ _) _ _ _ _::_) _ _);(refine L_cut (by kernel_rfl) 24 _ _ _ _ rfl _ _ _ _ _ rfl rfl rfl rfl (run_cutH _ underlying24 (sizeEn) _ _ _ (r) (HX.out.2.2.2.1)) ?_);simp only[pA]));subst h14;go_wp2_with (first|(((with_reducible show wpList _ _ _ (Oper.mk _ (Op.slice 24 _ _ _ _) _ _ _ _::_) _ _);(refine L_cut (by kernel_rfl) 24 _ _ _ _ rfl _ _ _ _ _ rfl rfl rfl rfl (run_cutL _ underlying24 (sizeEn) _ _ _ (j) (HX.out.2.2.2.2.2.2.2.1)) ?_);simp only[pA]);rw[HCJ.out,Nat.zero_add]));rw[run_callFunc_extern func86 (by kernel_rfl) (by kernel_rfl) (by kernel_rfl) (e:=Extern.SlicesOverlaps.overlaps #[24,24] #[4]) (by kernel_rfl),HOV.out _ H.out];simp only[Result.andThen];rw[Oper.upon_value];go_wp2_with fail;subst h15;refine xRZ H 8 ?_;apply Exists.intro;refine⟨fun xz2=>?_,fun wz2 HXZ H=>?_⟩
 ·simp only[tK];unfold Cx;repeat (first|((with_reducible show wpQuiet _ _ _ _ (Oper.mk _ (Op.slice 24 _ _ _ _) _ _ _ _::_) _);go_big_quiet_want;refine qz_cut 24 _ _ _ _ rfl _ _ _ _ _ rfl rfl rfl rfl (fun _=>run_cutL _ underlying24 (sizeEn) _ _ _ (j) (HX.out.2.2.2.2.2.2.2.1)) ?_;simp only[pA];go_big_quiet_on)|((with_reducible show wpQuiet _ _ _ _ (Oper.mk _ (Op.slice 24 _ _ _ _) _ _ _ _::_) _);go_big_quiet_want;refine qz_cut 24 _ _ _ _ rfl _ _ _ _ _ rfl rfl rfl rfl (fun _=>run_cutL _ underlying24 (sizeEn) _ _ _ (i) (HX.out.2.2.2.2.2.2.2.2.1)) ?_;simp only[pA];go_big_quiet_on)|go_big_quiet_step (fail))
  exact wpQuiet_nil rfl
 simp only[dR];rw[HCJ.out,HCI.out,Nat.zero_add,Nat.zero_add];go_wp2_with (first|((with_reducible show wpList _ _ _ (Oper.mk _ (Op.call { callee:=.builtin .copy,args:=_,argTypes:=_ }) _ _ _ _::_) _ _);refine L_cpU (elemEn) H rfl _ _ rfl 1 rfl (j*11) (r-j) (c-j) rfl (⟨g,i*11,none⟩) (r-i) (c-i) rfl ((by have:=HX.out;omega)) (ds) (HRD.out _ (H.out.at 1 rfl)) ((by rw[HDL.out];have:=HX.out;omega)) (HD1.out) ((by rw[HZ.out];have:=HX.out;omega)) (n1) (HN1.out) ?_;clear H;intro wc HWwc H;simp only[ssA,szA] at H;simp only[pA]));subst h16;go_wp2_with (first|(((with_reducible show wpList _ _ _ (Oper.mk _ (Op.slice 24 _ _ _ _) _ _ _ _::_) _ _);(refine L_cut (by kernel_rfl) 24 _ _ _ _ rfl _ _ _ _ _ rfl rfl rfl rfl (run_cutL _ underlying24 (sizeEn) _ _ _ (i) (HX.out.2.2.2.2.2.2.2.2.1)) ?_);simp only[pA]);rw[HCI.out,Nat.zero_add])|((with_reducible show wpList _ _ _ (Oper.mk _ (Op.call { callee:=.builtin .copy,args:=_,argTypes:=_ }) _ _ _ _::_) _ _);refine L_cpT (elemEn) H rfl _ _ rfl 1 rfl (i*11) (r-i) (c-i) rfl _ rfl (1) (cellsE s) (rd_one (H.out.at 0 rfl)) ((by have:=HX.out;omega)) (HLE.out) (HOS.out) ((by rw[HN1L.out];have:=HX.out;omega)) (n2) (HN2.out) ?_;clear H;intro wd HWwd H;simp only[ssA,szA] at H;simp only[pA]));go_ret;have h1:=HX.out;refine⟨some ⟨g,0,none⟩,r,c,rfl,OwE.of ?_ (H.out.at 1 rfl) HGB.out ?_ h1.2.2.2.1 HCM.out HN2L.out ?_,H.out.tail.tail,fun z hz e=>?_⟩
 ·intro x hx;rcases List.mem_append.1 hx with h|h
  ·exact HLL.out x (List.mem_of_mem_take h)
  ·rcases List.mem_cons.1 h with rfl|h
   ·exact HSA.out
   ·exact HLL.out x (List.mem_of_mem_drop h)
 ·simp only[List.length_append,List.length_cons,List.length_take,List.length_drop];omega
 ·rw[←HFIN.out]
  congr 2
  simp only[List.length_append,List.length_cons,List.length_take,List.length_drop];omega
 ·have e3:g=z:=by simpa[Value.ownBlock] using e
  subst e3;have h9:=H.out.tail.2.1;simp only[List.map_cons,List.nodup_cons] at h9;exact h9.1 hz
theorem insert_any (l:List En) (hl:L6 l) (hn:l.length≤64) (s:En) (hs:s.addr.length=6) (i:Nat) (hi:i≤l.length) (B:Nat) (ad:Option Addr) (n c:Nat) (t:List Bk) (hT:TB B ad n c t l) (b1:Nat) (w0 w:World) (rest:List Bk) (hB0:w0.heap.size≤B) (hB:B≤w.heap.size)
  (H:Loc w0 w ((b1,45,cellsE s)::(t++rest))) :
  Calls prog 60 #[.slice ad n c,.int .i64 (i:Int),.slice (some ⟨b1,0,none⟩) 1 1] w (InsR l i s B w0 rest):=by
 by_cases hin:i=l.length
 ·subst hin;have hp:List.Perm ((b1,45,cellsE s)::(t++rest)) (t++((b1,45,cellsE s)::rest)):=List.perm_middle.symm;refine insert_end l (by omega) s hs B (.slice ad n c) b1 w0 w rest hB0 hB (kp (H.sub (List.Sublist.cons_cons _ (List.sublist_append_right _ _)))) (kp (hT.own hl (H.tail.sub (List.sublist_append_left _ _)))) (hT.sep (H.perm hp))
 ·rcases hT with ⟨rfl,_,_,_,_⟩|⟨b,zs,rfl,rfl,hb,hnl,hc,hm,hz⟩
  ·simp at hi hin;exact absurd hi hin
  ·by_cases hr:n+1≤c
   ·exact insert_room l hl n hnl (by omega) s hs i (by omega) b c zs hr hm hz B hb b1 w0 w rest (kp H)
   ·exact insert_grow l hl n hnl (by omega) s hs i (by omega) b c zs hc (by omega) B b1 w0 w rest hB (kp H)
def authO (l:List En) (t:By):Bool:=!((lookF l t).isNone&&l.length==64)
def authL (l:List En) (t:By) (now:Int):List En:=if authO l t then putF l (freshE t now) else l
def AuthR (B:Nat) (w0:World) (g:Nat) (a:As) (ha:a.own.length=6) (l:List En) (t:By) (now:Int) (rest:List Bk) (e:Ending) (w':World):Prop:=e=.returned (.bool (authO l t))∧St B w0 w' g a ha (authL l t now) rest
theorem build_fresh (t:By) (ht:t.length=6) (now:Int) (w:World):(Instr.build 45 #[(0,.agg (t.map V8).toArray),(1,.int .u8 1),(5,.int .i64 now)]).run prog w=.ok (.agg (cat (partsE (freshE t now) ht)).toArray) w:=by
 obtain⟨_,_,_,_,_,_,rfl⟩:=six ht
 kernel_rfl
theorem bs_fresh (t:By) (ht:t.length=6) (now:Int) (w:World):(Instr.buildSlice 24 1 #[(0,.agg (cat (partsE (freshE t now) ht)).toArray)]).run prog w=.ok (.slice (some ⟨w.heap.size,0,none⟩) 1 1) (w.alloc (.cells (cat (partsE (freshE t now) ht)).toArray 45)):=by
 obtain⟨_,_,_,_,_,_,rfl⟩:=six ht
 kernel_rfl
set_option maxRecDepth 4000 in
set_option maxHeartbeats 1600000 in
theorem authenticate_any (a:As) (ha:a.own.length=6) (l:List En) (hl:L6 l) (hn:l.length≤64) (hso:l.Pairwise (fun e f=>numF e.addr<numF f.addr)) (t:By) (ht:t.length=6) (now:Int) (B:Nat) (g:Nat) (w0 w:World) (rest:List Bk) (hB0:w0.heap.size≤B) (hB:B≤w.heap.size) (hst:St B w0 w g a ha l rest) :
  Calls prog 30 #[.pointer (some ⟨g,0,none⟩),.agg (t.map V8).toArray,.int .i64 now] w (AuthR B w0 g a ha l t now rest):=by
 obtain⟨ad,n,c,tb,hT,H0⟩:=hst;have H:=kp H0;clear H0;have HST:=kp ht;have HT:=kp hT;have HPL:=kp (fun W (hW:Loc w0 W tb)=>place_one a ha (.slice ad n c) l hl (by omega) (sorted_of_pair hso) t ht W (hT.slt hl hW));have HBF:=kp (build_fresh t HST.out now);have hnn:n≤64:=by rw[hT.len];exact hn
 rw[cat_A a ha] at HPL;have HB:=kp hB;cases hc:lookF l t with
 |some e =>
  have hb:plB l t=true:=by unfold plB;rw[hc];rfl
  have hF:=pl_found hso hl ht hc;rw[hb] at HPL;have HO:=kp (show authO l t=true by unfold authO;rw[hc];rfl);have HLL:=kp (show authL l t now=l.set (plI l t) (freshE t now) by unfold authL;rw[HO.out,if_pos rfl];exact hF.2.2.2.1 (freshE t now) rfl);generalize plI l t=i at *;rcases hT with ⟨rfl,_⟩|⟨b,zs,rfl,rfl,hbb,hnl,hcap,hm,hz⟩
  ·cases hc
  have HIL:=kp hF.1;have hin:i<n:=by rw[hnl];exact hF.1
  have HX:=kp (show B≤b∧n=l.length∧n≤c∧c≤maxLen∧(l.flatMap cellsE++zs).length=c*11∧i<n by exact⟨hbb,hnl,hcap,hm,hz,hin⟩);have HL6:=kp hl;have HNW:=kp (flat_set hl hF.1 (freshE t now) ht zs);have HZZ:=kp hz;obtain⟨cs,hcs⟩:∃ cs,cs=l.flatMap cellsE++zs:=⟨_,rfl⟩
  obtain⟨ns,hns⟩:∃ ns,ns=(l.set i (freshE t now)).flatMap cellsE++zs:=⟨_,rfl⟩
  have HNS:=kp hns;rw[←hcs,←hns] at HNW;rw[←hcs] at H HX HPL;simp only[List.cons_append,List.nil_append] at H;rw[cat_E (freshE t now) HST.out] at HNW;have HFT:=kp (show i*11+(cat (partsE (freshE t now) HST.out)).toArray.size≤cs.toArray.size by rw[List.size_toArray,List.size_toArray,cat_len,HX.out.2.2.2.2.1];have:=HX.out;show i*11+11≤c*11;omega);clear hF hc hb hl hn hso ht hns hcs hz hm hcap hnl hbb hB hB0;go_enter func30,ntmps30;generalize h2:Code.region 2 _ _=R2;generalize h5:Code.region 5 _ _=R5;go_wp2_with (first|((with_reducible refine isBx 4 23 ?_);(refine xBX H 23 (cat ([Lf.v ⟨t,HST.out⟩])) ?_);clear H;intro g4 w4 HGg4 HEg4 H;simp only[pA])|((with_reducible refine isLd 23 ?_);(refine xFA H 23 0 underlying23 ?_);simp only[pA])|((with_reducible refine isBd 12 45 ?_);(refine L_bd (by kernel_rfl) 45 _ rfl (#[(0,.agg (t.map V8).toArray),(1,.int .u8 1),(5,.int .i64 now)]) (by kernel_rfl) (cat (partsE (freshE t now) HST.out)) (HBF.out) ?_);simp only[pA])|((with_reducible refine isAl 7 45 ?_);(refine xAL H 45 (cat (partsE en0 rfl)) ?_);clear H;intro g7 w7 HGg7 HEg7 H;simp only[pA])|((with_reducible refine isSt 45 ?_);(refine xSA H 45 0 (partsE (freshE t now) HST.out) ?_;clear H;intro w8 HWw8 H;simp only[szA] at H)));subst h2;refine xRZ H 9 ?_;apply Exists.intro;refine⟨fun xz2=>?_,fun wz2 HXZ H=>?_⟩
  ·simp only[tK];unfold Cx;repeat (first|((with_reducible refine isQl 26 ?_);go_big_quiet_want;(refine xQA H 26 2 underlying26 ?_);simp only[pA];go_big_quiet_on)|((with_reducible refine isQl 23 ?_);go_big_quiet_want;(refine xQA H 23 1 underlying23 ?_);simp only[pA];go_big_quiet_on)|go_big_quiet_step (exact Calls.cx_of (HPL.out _ ((H.out.ext (Ext.more _ _)).sub (by repeat (first|exact List.sublist_append_left _ _|apply List.Sublist.cons))))))
   exact wpQuiet_nil rfl
  simp only[dR];go_wp2_with fail;subst h5;refine xRZ H 6 ?_;apply Exists.intro;refine⟨fun xz3=>?_,fun wz3 HXZ H=>?_⟩
  ·simp only[tK];unfold Cx;repeat (first|((with_reducible refine isQl 24 ?_);go_big_quiet_want;(refine xQ1 H 24 2 underlying24 ?_);simp only[pA];go_big_quiet_on)|((with_reducible refine isQl 45 ?_);go_big_quiet_want;(refine xQA H 45 0 underlying45 ?_);simp only[pA];go_big_quiet_on)|go_big_quiet_step (fail))
   exact wpQuiet_nil rfl
  simp only[dR];go_wp2_with ((with_reducible refine isSt 45 ?_);go_loud (refine L_seg H rfl rfl 45 _ _ rfl 3 rfl (i*11) rfl (cat (partsE (freshE t now) HST.out)) rfl (by rw[List.size_toArray,cat_len];kernel_rfl) HFT.out (by simpa using cat_one (partsE (freshE t now) HST.out)) ns (by rw[cat_len];exact congrArg List.toArray HNW.out) ?_);clear H;intro wd HWwd H;simp only[ssA,szA] at H);go_ret;have hx:=HX.out;refine⟨congrArg (fun z=>Ending.returned (.bool z)) HO.out.symm,?_⟩;rw[HLL.out];rw[HNS.out] at H;exact St.mk (TB.set HL6.out i (freshE t now) HST.out hx.1 hx.2.1 hx.2.2.1 hx.2.2.2.1 HZZ.out) H.out (by (try simp only[List.cons_append,List.nil_append]);repeat (first|with_reducible exact List.Sublist.cons_cons _ (List.Sublist.refl _)|with_reducible apply List.Sublist.cons))
 |none =>
  have hb:plB l t=false:=by unfold plB;rw[hc];rfl
  have hF:=pl_new hso hl ht hc;rw[hb] at HPL;by_cases hfull:n=64
  ·subst hfull;have h64:=hT.len;have HO:=kp (show authO l t=false by unfold authO;rw[hc,←h64];rfl);have HLL:=kp (show authL l t now=l by unfold authL;rw[HO.out,if_neg (by simp)]);generalize plI l t=i at *;clear hF hc hb hl hn hso ht hT hB hB0 h64;go_enter func30,ntmps30;generalize h2:Code.region 2 _ _=R2;go_wp2_with (first|((with_reducible refine isBx 4 23 ?_);(refine xBX H 23 (cat ([Lf.v ⟨t,HST.out⟩])) ?_);clear H;intro g4 w4 HGg4 HEg4 H;simp only[pA])|((with_reducible refine isLd 23 ?_);(refine xFA H 23 0 underlying23 ?_);simp only[pA])|((with_reducible refine isBd 12 45 ?_);(refine L_bd (by kernel_rfl) 45 _ rfl (#[(0,.agg (t.map V8).toArray),(1,.int .u8 1),(5,.int .i64 now)]) (by kernel_rfl) (cat (partsE (freshE t now) HST.out)) (HBF.out) ?_);simp only[pA])|((with_reducible refine isAl 7 45 ?_);(refine xAL H 45 (cat (partsE en0 rfl)) ?_);clear H;intro g7 w7 HGg7 HEg7 H;simp only[pA])|((with_reducible refine isSt 45 ?_);(refine xSA H 45 0 (partsE (freshE t now) HST.out) ?_;clear H;intro w8 HWw8 H;simp only[szA] at H)));subst h2;refine xRZ H 9 ?_;apply Exists.intro;refine⟨fun xz5=>?_,fun wz5 HXZ H=>?_⟩
   ·simp only[tK];unfold Cx;repeat (first|((with_reducible refine isQl 26 ?_);go_big_quiet_want;(refine xQA H 26 2 underlying26 ?_);simp only[pA];go_big_quiet_on)|((with_reducible refine isQl 23 ?_);go_big_quiet_want;(refine xQA H 23 1 underlying23 ?_);simp only[pA];go_big_quiet_on)|go_big_quiet_step (exact Calls.cx_of (HPL.out _ ((H.out.ext (Ext.more _ _)).sub (by (try simp only[List.cons_append,List.nil_append]);repeat (first|with_reducible exact List.sublist_append_left _ _|with_reducible apply List.Sublist.cons))))))
    exact wpQuiet_nil rfl
   simp only[dR];go_wp2_with ((with_reducible refine isLd 24 ?_);(refine xF1 H 24 2 underlying24 ?_);simp only[pA]);go_ret;exact⟨congrArg (fun z=>Ending.returned (.bool z)) HO.out.symm,by rw[HLL.out];exact St.mk HT.out H.out (by (try simp only[List.cons_append,List.nil_append]);repeat (first|with_reducible exact List.Sublist.cons_cons _ (List.Sublist.refl _)|with_reducible apply List.Sublist.cons))⟩
  ·have hne:¬ ((n:Int)=64):=by omega
   have HO:=kp (show authO l t=true by unfold authO;rw[hc,←hT.len];simp;omega);have HLL:=kp (show authL l t now=l.take (plI l t)++freshE t now::l.drop (plI l t) by unfold authL;rw[HO.out,if_pos rfl];exact hF.2 (freshE t now) rfl);have HIN:=kp (fun b1 w rest h2 h3=>insert_any l hl hn (freshE t now) ht (plI l t) hF.1 B ad n c tb hT b1 w0 w rest hB0 h2 h3);have HBS:=kp (bs_fresh t HST.out now);generalize plI l t=i at *;clear hF hc hb hl hn hso ht hT hB;go_enter func30,ntmps30;generalize h2:Code.region 2 _ _=R2;generalize h3:Code.region 3 _ _=R3;go_wp2_with (first|((with_reducible refine isBx 4 23 ?_);(refine xBX H 23 (cat ([Lf.v ⟨t,HST.out⟩])) ?_);clear H;intro g4 w4 HGg4 HEg4 H;simp only[pA])|((with_reducible refine isLd 23 ?_);(refine xFA H 23 0 underlying23 ?_);simp only[pA])|((with_reducible refine isBd 12 45 ?_);(refine L_bd (by kernel_rfl) 45 _ rfl (#[(0,.agg (t.map V8).toArray),(1,.int .u8 1),(5,.int .i64 now)]) (by kernel_rfl) (cat (partsE (freshE t now) HST.out)) (HBF.out) ?_);simp only[pA])|((with_reducible refine isAl 7 45 ?_);(refine xAL H 45 (cat (partsE en0 rfl)) ?_);clear H;intro g7 w7 HGg7 HEg7 H;simp only[pA])|((with_reducible refine isSt 45 ?_);(refine xSA H 45 0 (partsE (freshE t now) HST.out) ?_;clear H;intro w8 HWw8 H;simp only[szA] at H)));subst h2;refine xRZ H 9 ?_;apply Exists.intro;refine⟨fun xz7=>?_,fun wz7 HXZ H=>?_⟩
   ·simp only[tK];unfold Cx;repeat (first|((with_reducible refine isQl 26 ?_);go_big_quiet_want;(refine xQA H 26 2 underlying26 ?_);simp only[pA];go_big_quiet_on)|((with_reducible refine isQl 23 ?_);go_big_quiet_want;(refine xQA H 23 1 underlying23 ?_);simp only[pA];go_big_quiet_on)|go_big_quiet_step (exact Calls.cx_of (HPL.out _ ((H.out.ext (Ext.more _ _)).sub (by (try simp only[List.cons_append,List.nil_append]);repeat (first|with_reducible exact List.sublist_append_left _ _|with_reducible apply List.Sublist.cons))))))
    exact wpQuiet_nil rfl
   simp only[dR];go_wp2_with ((with_reducible refine isLd 24 ?_);(refine xF1 H 24 2 underlying24 ?_);simp only[pA]);subst h3;refine wp_region_any (by kernel_rfl) ?_
   change wpAny _ _ _ _ _ _ _ (World.drew _)
   have H2:=kp (H.out.ext (Ext.drew _));clear H;have H:=H2;clear H2
   (refine any_take (i:=0) (v:=?_) rfl rfl (by kernel_rfl) (by kernel_rfl) (by kernel_rfl) (fun _ _ _ h=>h) (Or.inl ⟨by rfl,?_⟩) ?_;rotate_left;focus (intro w;go_simp;first|done|(with_reducible rfl)));simp only[pA]
   (refine any_take (i:=1) (v:=?_) rfl rfl (by kernel_rfl) (by kernel_rfl) (by kernel_rfl) (fun _ _ _ h=>h) (Or.inl ⟨by rfl,?_⟩) ?_;rotate_left;focus (intro w;go_simp;first|done|(with_reducible rfl)));simp only[pA]
   (refine any_take (i:=2) (v:=?_) rfl rfl (by kernel_rfl) (by kernel_rfl) (by kernel_rfl) (fun _ _ _ h=>h) (Or.inl ⟨by rfl,?_⟩) ?_;rotate_left;focus (intro w;go_simp;first|done|(with_reducible rfl)));simp only[pA]
   (refine any_take (i:=3) (v:=?_) rfl rfl (by kernel_rfl) (by kernel_rfl) (by kernel_rfl) (fun _ _ _ h=>h) (Or.inl ⟨by rfl,?_⟩) ?_;rotate_left;focus (intro w;go_simp;first|done|(with_reducible rfl)));simp only[pA]
   (refine any_take (i:=5) (v:=?_) rfl rfl (by kernel_rfl) (by kernel_rfl) (by kernel_rfl) (fun _ _ _ h=>h) (Or.inl ⟨by rfl,?_⟩) ?_;rotate_left;focus (intro w;go_simp;first|done|(with_reducible rfl)));simp only[pA]
   refine any_two (i:=4) (j:=6) (by kernel_rfl) rfl rfl (fun K hK=>?_) (fun K hK=>?_)
   ·change wpList _ _ _ [Oper.mk _ _ _ _ _ _] _ _
    go_wp2_with ((with_reducible refine isLd 24 ?_);(refine xF1 H 24 2 underlying24 ?_);simp only[pA])
    (refine hK _ _ ?_;clear hK K)
    (refine any_one (i:=6) (by kernel_rfl) rfl (fun K hK=>?_);change wpList _ _ _ [Oper.mk _ _ _ _ _ _] _ _)
    go_wp2_with ((with_reducible refine isLd 45 ?_);(refine xFA H 45 0 underlying45 ?_);simp only[pA])
    (refine hK _ _ ?_;clear hK K)
    (refine any_one (i:=7) (by kernel_rfl) rfl (fun K hK=>?_);change wpList _ _ _ [Oper.mk _ _ _ _ _ _] _ _)
    go_wp2_with ((with_reducible refine isBs 28 24 ?_);(refine xBS H 24 1 (#[(0,.agg (cat (partsE (freshE t now) HST.out)).toArray)]) 45 (cat (partsE (freshE t now) HST.out)) (HBS.out) ?_);clear H;intro g28 w28 HGg28 HEg28 H;simp only[pA])
    (refine hK _ _ ?_;clear hK K)
    have HXY:=kp (show B≤w28.heap.size by have h1:=HB.out;have h2:=HGg4.out;have h3:g4<w28.heap.size:=H.out.lt 2 rfl;omega)
    (refine any_one (i:=8) (by kernel_rfl) rfl (fun K hK=>?_);change wpList _ _ _ [Oper.mk _ _ _ _ _ _] _ _)
    go_wp2_with (go_at_call 60;refine (HIN.out _ _ _ HXY.out (H.out.perm (List.Perm.cons _ (List.perm_append_comm_assoc [_,_,_] tb rest)))).mono ?_;rintro e wi ⟨ad2,n2,c2,rfl,ho,hl,hs⟩;have HO2:=kp ho;have HS2:=kp hs;clear H ho hs;simp only[List.cons_append,List.nil_append] at hl;have H:=kp hl;clear hl)
    (refine hK _ _ ?_;clear hK K)
    (refine any_one (i:=9) (by kernel_rfl) rfl (fun K hK=>?_);change wpList _ _ _ [Oper.mk _ _ _ _ _ _] _ _)
    go_wp2_with fail
    (refine hK _ _ ?_;clear hK K)
    (refine any_one (i:=10) (by kernel_rfl) rfl (fun K hK=>?_);change wpList _ _ _ [Oper.mk _ _ _ _ _ _] _ _)
    go_wp2_with fail
    (refine hK _ _ ?_;clear hK K)
    (refine any_one (i:=11) (by kernel_rfl) rfl (fun K hK=>?_);change wpList _ _ _ [Oper.mk _ _ _ _ _ _] _ _)
    have HGG:=kp (H.out.at 2 rfl);go_wp2_with ((with_reducible refine isSt 24 ?_);(refine xS1 H 24 2 (partsA a ha ad2 n2 c2) ?_;clear H;intro wz HWwz H;simp only[ssA,szA] at H))
    (refine hK _ _ ?_;clear hK K)
    refine wpAny_done (by kernel_rfl) ?_ _;go_wp2_with fail;go_ret;refine⟨congrArg (fun z=>Ending.returned (.bool z)) HO.out.symm,?_⟩;rw[HLL.out];exact St.ofOwn (owns_wroteT HO2.out HWwz.out HGG.out (show 45≠26 from by decide)) hB0 H.out HS2.out (by (try simp only[List.cons_append,List.nil_append]);repeat (first|with_reducible exact List.Sublist.cons_cons _ (List.Sublist.refl _)|with_reducible apply List.Sublist.cons))
   ·change wpList _ _ _ [Oper.mk _ _ _ _ _ _] _ _
    go_wp2_with ((with_reducible refine isLd 45 ?_);(refine xFA H 45 0 underlying45 ?_);simp only[pA])
    (refine hK _ _ ?_;clear hK K)
    refine any_two (i:=4) (j:=7) (by kernel_rfl) rfl rfl (fun K hK=>?_) (fun K hK=>?_)
    ·change wpList _ _ _ [Oper.mk _ _ _ _ _ _] _ _
     go_wp2_with ((with_reducible refine isLd 24 ?_);(refine xF1 H 24 2 underlying24 ?_);simp only[pA])
     (refine hK _ _ ?_;clear hK K)
     (refine any_one (i:=7) (by kernel_rfl) rfl (fun K hK=>?_);change wpList _ _ _ [Oper.mk _ _ _ _ _ _] _ _)
     go_wp2_with ((with_reducible refine isBs 28 24 ?_);(refine xBS H 24 1 (#[(0,.agg (cat (partsE (freshE t now) HST.out)).toArray)]) 45 (cat (partsE (freshE t now) HST.out)) (HBS.out) ?_);clear H;intro g28 w28 HGg28 HEg28 H;simp only[pA])
     (refine hK _ _ ?_;clear hK K)
     have HXY:=kp (show B≤w28.heap.size by have h1:=HB.out;have h2:=HGg4.out;have h3:g4<w28.heap.size:=H.out.lt 2 rfl;omega)
     (refine any_one (i:=8) (by kernel_rfl) rfl (fun K hK=>?_);change wpList _ _ _ [Oper.mk _ _ _ _ _ _] _ _)
     go_wp2_with (go_at_call 60;refine (HIN.out _ _ _ HXY.out (H.out.perm (List.Perm.cons _ (List.perm_append_comm_assoc [_,_,_] tb rest)))).mono ?_;rintro e wi ⟨ad2,n2,c2,rfl,ho,hl,hs⟩;have HO2:=kp ho;have HS2:=kp hs;clear H ho hs;simp only[List.cons_append,List.nil_append] at hl;have H:=kp hl;clear hl)
     (refine hK _ _ ?_;clear hK K)
     (refine any_one (i:=9) (by kernel_rfl) rfl (fun K hK=>?_);change wpList _ _ _ [Oper.mk _ _ _ _ _ _] _ _)
     go_wp2_with fail
     (refine hK _ _ ?_;clear hK K)
     (refine any_one (i:=10) (by kernel_rfl) rfl (fun K hK=>?_);change wpList _ _ _ [Oper.mk _ _ _ _ _ _] _ _)
     go_wp2_with fail
     (refine hK _ _ ?_;clear hK K)
     (refine any_one (i:=11) (by kernel_rfl) rfl (fun K hK=>?_);change wpList _ _ _ [Oper.mk _ _ _ _ _ _] _ _)
     have HGG:=kp (H.out.at 2 rfl);go_wp2_with ((with_reducible refine isSt 24 ?_);(refine xS1 H 24 2 (partsA a ha ad2 n2 c2) ?_;clear H;intro wz HWwz H;simp only[ssA,szA] at H))
     (refine hK _ _ ?_;clear hK K)
     refine wpAny_done (by kernel_rfl) ?_ _;go_wp2_with fail;go_ret;refine⟨congrArg (fun z=>Ending.returned (.bool z)) HO.out.symm,?_⟩;rw[HLL.out];exact St.ofOwn (owns_wroteT HO2.out HWwz.out HGG.out (show 45≠26 from by decide)) hB0 H.out HS2.out (by (try simp only[List.cons_append,List.nil_append]);repeat (first|with_reducible exact List.Sublist.cons_cons _ (List.Sublist.refl _)|with_reducible apply List.Sublist.cons))
    ·change wpList _ _ _ [Oper.mk _ _ _ _ _ _] _ _
     go_wp2_with ((with_reducible refine isBs 28 24 ?_);(refine xBS H 24 1 (#[(0,.agg (cat (partsE (freshE t now) HST.out)).toArray)]) 45 (cat (partsE (freshE t now) HST.out)) (HBS.out) ?_);clear H;intro g28 w28 HGg28 HEg28 H;simp only[pA])
     (refine hK _ _ ?_;clear hK K)
     (refine any_one (i:=4) (by kernel_rfl) rfl (fun K hK=>?_);change wpList _ _ _ [Oper.mk _ _ _ _ _ _] _ _)
     go_wp2_with ((with_reducible refine isLd 24 ?_);(refine xF1 H 24 3 underlying24 ?_);simp only[pA])
     (refine hK _ _ ?_;clear hK K)
     have HXY:=kp (show B≤w28.heap.size by have h1:=HB.out;have h2:=HGg4.out;have h3:g4<w28.heap.size:=H.out.lt 2 rfl;omega)
     (refine any_one (i:=8) (by kernel_rfl) rfl (fun K hK=>?_);change wpList _ _ _ [Oper.mk _ _ _ _ _ _] _ _)
     go_wp2_with (go_at_call 60;refine (HIN.out _ _ _ HXY.out (H.out.perm (List.Perm.cons _ (List.perm_append_comm_assoc [_,_,_] tb rest)))).mono ?_;rintro e wi ⟨ad2,n2,c2,rfl,ho,hl,hs⟩;have HO2:=kp ho;have HS2:=kp hs;clear H ho hs;simp only[List.cons_append,List.nil_append] at hl;have H:=kp hl;clear hl)
     (refine hK _ _ ?_;clear hK K)
     (refine any_one (i:=9) (by kernel_rfl) rfl (fun K hK=>?_);change wpList _ _ _ [Oper.mk _ _ _ _ _ _] _ _)
     go_wp2_with fail
     (refine hK _ _ ?_;clear hK K)
     (refine any_one (i:=10) (by kernel_rfl) rfl (fun K hK=>?_);change wpList _ _ _ [Oper.mk _ _ _ _ _ _] _ _)
     go_wp2_with fail
     (refine hK _ _ ?_;clear hK K)
     (refine any_one (i:=11) (by kernel_rfl) rfl (fun K hK=>?_);change wpList _ _ _ [Oper.mk _ _ _ _ _ _] _ _)
     have HGG:=kp (H.out.at 2 rfl);go_wp2_with ((with_reducible refine isSt 24 ?_);(refine xS1 H 24 2 (partsA a ha ad2 n2 c2) ?_;clear H;intro wz HWwz H;simp only[ssA,szA] at H))
     (refine hK _ _ ?_;clear hK K)
     refine wpAny_done (by kernel_rfl) ?_ _;go_wp2_with fail;go_ret;refine⟨congrArg (fun z=>Ending.returned (.bool z)) HO.out.symm,?_⟩;rw[HLL.out];exact St.ofOwn (owns_wroteT HO2.out HWwz.out HGG.out (show 45≠26 from by decide)) hB0 H.out HS2.out (by (try simp only[List.cons_append,List.nil_append]);repeat (first|with_reducible exact List.Sublist.cons_cons _ (List.Sublist.refl _)|with_reducible apply List.Sublist.cons))
end Go.Proofs.YtfecopfofkdnpaaGreat
