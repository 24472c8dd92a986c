/- Texts of this proof, put together: Fld, AppB, Fl3, Hd, HdA. -/
import Derived.Test.YtfecopfofkdnpaaGreatY4
import Derived.Test.YtfecopfofkdnpaaGreatY2
import Derived.Test.YtfecopfofkdnpaaGreatY1
namespace Go.Proofs.YtfecopfofkdnpaaGreat
open Go.RowKit Tryz
abbrev By:=List (BitVec 8)
abbrev Vc (n:Nat):={l:By // l.length=n}
structure Lf where
 n:Nat
 cs:List Value
 h:cs.length=n
 o:cs.all (·.oneCell')=true
theorem one_V8 (l:By):(l.map V8).all (·.oneCell')=true:=by simp[List.all_map,Function.comp_def,Value.oneCell']
abbrev Lf.v {n:Nat} (x:Vc n):Lf:=⟨n,x.1.map V8,by simpa using x.2,one_V8 _⟩
abbrev Lf.i (k:IntKind) (x:Int):Lf:=⟨1,[.int k x],rfl,rfl⟩
abbrev Lf.b (x:Bool):Lf:=⟨1,[.bool x],rfl,rfl⟩
abbrev Lf.s (a:Option Addr) (n c:Nat):Lf:=⟨1,[.slice a n c],rfl,rfl⟩
abbrev Lf.w (x:Value) (h:x.oneCell'=true):Lf:=⟨1,[x],rfl,by simp[h]⟩
def cat:List Lf→List Value
 |[]=>[]
 |[p]=>p.cs
 |p::q::l=>p.cs++cat (q::l)
theorem cat_cons (p:Lf) (l:List Lf):cat (p::l)=p.cs++cat l:=by cases l <;> simp[cat]
def lsum:List Lf→Nat
 |[]=>0
 |p::l=>p.n+lsum l
def nth:List Lf→Nat→Option Lf
 |[],_=>none
 |p::_,0=>some p
 |_::l,i+1=>nth l i
def fat:List Lf→Nat→Option Nat
 |[],_=>none
 |_::_,0=>some 0
 |p::l,k+1=>match Nat.ble p.n (k+1) with
  |true=>match fat l (k+1-p.n) with
   |some i=>some (i+1)
   |none=>none
  |false=>none
theorem cat_len:∀ l,(cat l).length=lsum l
 |[]=>rfl
 |p::l=>by rw[cat_cons,List.length_append,cat_len l,p.h,lsum]
theorem cat_one:∀ l,(cat l).all (·.oneCell')=true
 |[]=>rfl
 |p::l=>by rw[cat_cons,List.all_append,p.o,cat_one l];rfl
theorem cat_append:∀ l m,cat (l++m)=cat l++cat m
 |[],_=>rfl
 |p::l,m=>by rw[List.cons_append,cat_cons,cat_append l m,cat_cons,List.append_assoc]
theorem fat_spec:∀ {l:List Lf} {off i:Nat},fat l off=some i→i<l.length∧(cat l).drop off=cat (l.drop i)∧off=lsum (l.take i)
 |[],off,i,h=>by simp[fat] at h
 |p::l,0,i,h=>by
  simp only[fat,Option.some.injEq] at h;subst h;exact⟨by simp,rfl,rfl⟩
 |p::l,k+1,i,h=>by
  unfold fat at h
  split at h
  ·rename_i hb
   have hb:=Nat.le_of_ble_eq_true hb
   split at h
   ·rename_i j hj
    simp only[Option.some.injEq] at h;subst h;obtain⟨h1,h2,h3⟩:=fat_spec hj;refine⟨by simp;omega,?_,?_⟩
    ·rw[cat_cons,List.drop_append,List.drop_of_length_le (by rw[p.h];exact hb),List.nil_append,p.h,List.drop_succ_cons,h2]
    ·rw[List.take_succ_cons,lsum,←h3];omega
   ·cases h
  ·cases h
theorem nth_get:∀ {l:List Lf} {i:Nat} {p:Lf},nth l i=some p→l.drop i=p::l.drop (i+1)
 |[],_,_,h=>by simp[nth] at h
 |q::l,0,p,h=>by simp only[nth,Option.some.injEq] at h;subst h;rfl
 |q::l,i+1,p,h=>by rw[List.drop_succ_cons,List.drop_succ_cons];exact nth_get (by simpa[nth] using h)
theorem cat_part {ps:List Lf} {off i:Nat} {p:Lf} (h:fat ps off=some i) (hp:nth ps i=some p):((cat ps).drop off).take p.cs.length=p.cs:=by
 obtain⟨h1,h2,h3⟩:=fat_spec h;rw[h2,nth_get hp,cat_cons,List.take_append_of_le_length (Nat.le_refl _),List.take_of_length_le (Nat.le_refl _)]
theorem cat_group {ps qs:List Lf} {off i:Nat} (h:fat ps off=some i) (hp:(ps.drop i).take qs.length=qs):((cat ps).drop off).take (cat qs).length=cat qs:=by
 obtain⟨h1,h2,h3⟩:=fat_spec h;rw[h2]
 conv=>lhs;rw[←List.take_append_drop qs.length (ps.drop i),hp,cat_append]
 rw[List.take_append_of_le_length (Nat.le_refl _),List.take_of_length_le (Nat.le_refl _)]
theorem cat_cell {ps:List Lf} {off i:Nat} {v:Value} {h:[v].length=1} {o:[v].all (·.oneCell')=true} (hf:fat ps off=some i) (hp:nth ps i=some ⟨1,[v],h,o⟩):(cat ps)[off]?=some v:=by
 obtain⟨h1,h2,h3⟩:=fat_spec hf;have:=nth_get hp;rw[show off=off+0 from rfl,←List.getElem?_drop,h2,this,cat_cons];rfl
theorem cat_split {ps:List Lf} {off i:Nat} (h:fat ps off=some i):(cat ps).take off=cat (ps.take i):=by
 obtain⟨h1,h2,h3⟩:=fat_spec h
 conv=>lhs;rw[←List.take_append_drop i ps,cat_append]
 have hl:(cat (ps.take i)).length=off:=by rw[cat_len,←h3]
 rw[←hl,List.take_append_of_le_length (Nat.le_refl _),List.take_of_length_le (Nat.le_refl _)]
def pput (ps:List Lf) (i n:Nat) (qs:List Lf):List Lf:=ps.take i++qs++ps.drop (i+n)
theorem lsum_append:∀ l m,lsum (l++m)=lsum l+lsum m
 |[],_=>by simp[lsum]
 |p::l,m=>by rw[List.cons_append,lsum,lsum_append l m,lsum];omega
theorem cat_put {ps qs:List Lf} {off i:Nat} (n:Nat) (h:fat ps off=some i) (hn:lsum ((ps.drop i).take n)=lsum qs):(cat ps).take off++cat qs++(cat ps).drop (off+(cat qs).length)=cat (pput ps i n qs):=by
 obtain⟨h1,h2,h3⟩:=fat_spec h;rw[cat_split h,pput,cat_append,cat_append]
 congr 1
 rw[cat_len,←List.drop_drop,h2]
 conv=>lhs;rw[←List.take_append_drop n (ps.drop i),cat_append]
 have hl:(cat ((ps.drop i).take n)).length=lsum qs:=by rw[cat_len,hn]
 rw[←hl,List.drop_append_of_le_length (Nat.le_refl _),List.drop_of_length_le (Nat.le_refl _),List.nil_append,List.drop_drop]
theorem put_fits {ps:List Lf} {off i:Nat} (n:Nat) (h:fat ps off=some i):off+lsum ((ps.drop i).take n)≤(cat ps).length:=by
 obtain⟨h1,h2,h3⟩:=fat_spec h;rw[cat_len]
 conv=>rhs;rw[←List.take_append_drop i ps,lsum_append,←h3,←List.take_append_drop n (ps.drop i),lsum_append]
 omega
theorem cat1 (p:Lf):cat [p]=p.cs:=by simp[cat]
section
variable {P:Program}
theorem run_loadVar_cell (w:World) (b o:Nat) (ty:TypeId) (v:Value) (hc:w.cell? ⟨b,o,none⟩=some v) {d:TypeDesc} (hu:P.underlying ty=some d) (hd:d.isRow=false):(loadVar ty ⟨b,o,none⟩).run P w=.ok v w:=by
 have hg:(isAgg ty).run P w=.ok false w:=by
  unfold isAgg;rw[Sem.run_bind,run_underlying hu w];cases d <;> simp_all
 simp[loadVar,hg,run_load,hc]
variable {ops:Array Oper} {rest:List Oper} {o:Oper} {a:Act} {w0 w:World} {Q:Exit→Act→World→Prop} {bs:List Bk}
theorem L_f1 (H:Kp (Loc w0 w bs)) (hgd:Region.wanted o (yielded ops a.tmps)=true) (ty:TypeId) (x:Operand) (ho:o.op=.load ty x) (k:Nat) {g T:Nat} {ps:List Lf} (hi:bs[k]?=some (g,T,cat ps)) (off:Nat)
  (hx:a.eval x=.pointer (some ⟨g,off,none⟩)) (i:Nat) (hf:fat ps off=some i) (v:Value) {hv ho'} (hp:nth ps i=some ⟨1,[v],hv,ho'⟩) {d:TypeDesc} (hu:P.underlying ty=some d) (hd:d.isRow=false)
  (h:wpList P ops Q rest (a.put o.dst v) w):wpList P ops Q (o::rest) a w:=by
 refine wpList_step fun K hK=>?_;rw[if_pos hgd];have hc:w.cell? ⟨g,off,none⟩=some v:=(H.out.at k hi).cell (cat_cell hf hp);unfold Oper.wp execOp;simp only[ho,hx,Instr.loadAt,Instr.sureAddr,Sem.run_bind,Sem.run_pure,Result.andThen_ok,run_loadVar_cell w g off ty v hc hu hd];exact hK _ _ h
theorem L_fv (H:Kp (Loc w0 w bs)) (hgd:Region.wanted o (yielded ops a.tmps)=true) (ty:TypeId) (x:Operand) (ho:o.op=.load ty x) (k:Nat) {g T:Nat} {ps:List Lf} (hi:bs[k]?=some (g,T,cat ps)) (off:Nat)
  (hx:a.eval x=.pointer (some ⟨g,off,none⟩)) (i:Nat) (hf:fat ps off=some i) {n:Nat} {cs:List Value} {hn ho'} (hp:nth ps i=some ⟨n,cs,hn,ho'⟩) {d:TypeDesc} (hu:P.underlying ty=some d) (hd:d.isRow=true) (hz:(P.info? ty).map (·.size)=some n)
  (h:wpList P ops Q rest (a.put o.dst (.agg cs.toArray)) w):wpList P ops Q (o::rest) a w:=
 L_subG H hgd ty x ho k hi off hx cs (cat_part hf hp) hu hd (by rw[hz,hn]) h
theorem L_fg (H:Kp (Loc w0 w bs)) (hgd:Region.wanted o (yielded ops a.tmps)=true) (ty:TypeId) (x:Operand) (ho:o.op=.load ty x) (k:Nat) {g T:Nat} {ps:List Lf} (hi:bs[k]?=some (g,T,cat ps)) (off:Nat)
  (hx:a.eval x=.pointer (some ⟨g,off,none⟩)) (i:Nat) (hf:fat ps off=some i) (qs:List Lf) (hp:(ps.drop i).take qs.length=qs) {d:TypeDesc} (hu:P.underlying ty=some d) (hd:d.isRow=true) (hz:(P.info? ty).map (·.size)=some (lsum qs))
  (h:wpList P ops Q rest (a.put o.dst (.agg (cat qs).toArray)) w):wpList P ops Q (o::rest) a w:=
 L_subG H hgd ty x ho k hi off hx (cat qs) (cat_group hf hp) hu hd (by rw[hz,cat_len]) h
theorem L_fa (H:Kp (Loc w0 w bs)) (hgd:Region.wanted o (yielded ops a.tmps)=true) (ty:TypeId) (x:Operand) (ho:o.op=.load ty x) (k:Nat) {g T:Nat} {ps:List Lf} (hi:bs[k]?=some (g,T,cat ps))
  (hx:a.eval x=.pointer (some ⟨g,0,none⟩)) {d:TypeDesc} (hu:P.underlying ty=some d) (hd:d.isRow=true) (hz:(P.info? ty).map (·.size)=some (lsum ps))
  (h:wpList P ops Q rest (a.put o.dst (.agg (cat ps).toArray)) w):wpList P ops Q (o::rest) a w:=
 L_subG H hgd ty x ho k hi 0 hx (cat ps) (by rw[List.drop_zero,List.take_of_length_le (Nat.le_refl _)]) hu hd (by rw[hz,cat_len]) h
theorem L_sg (H:Kp (Loc w0 w bs)) (hgd:o.guard=none) (hdst:o.dst=none) (ty:TypeId) (x y:Operand) (ho:o.op=.store ty x y) (k:Nat) {g T:Nat} {ps:List Lf} (hi:bs[k]?=some (g,T,cat ps)) (off:Nat)
  (hx:a.eval x=.pointer (some ⟨g,off,none⟩)) (i:Nat) (hf:fat ps off=some i) (n:Nat) (qs:List Lf) (hy:a.eval y=.agg (cat qs).toArray) (hn:lsum ((ps.drop i).take n)=lsum qs) (hz:(P.info? ty).map (·.size)=some (lsum qs)) (new:List Lf) (hnew:pput ps i n qs=new)
  (h:∀ w',Kp (Wrote w w' g)→Kp (Loc w0 w' (bs.set k (g,T,cat new)))→wpList P ops Q rest a w'):wpList P ops Q (o::rest) a w:=
 L_seg H hgd hdst ty x y ho k hi off hx (cat qs) hy (by rw[hz,List.size_toArray,cat_len]) (by
  have:=put_fits n hf;rw[hn] at this
  simp only[List.size_toArray];rw[cat_len qs];exact this) (by have:=cat_one qs;simpa using this) (cat new) (by rw[cat_put n hf hn,hnew]) h
theorem L_sv (H:Kp (Loc w0 w bs)) (hgd:o.guard=none) (hdst:o.dst=none) (ty:TypeId) (x y:Operand) (ho:o.op=.store ty x y) (k:Nat) {g T:Nat} {ps:List Lf} (hi:bs[k]?=some (g,T,cat ps)) (off:Nat)
  (hx:a.eval x=.pointer (some ⟨g,off,none⟩)) (i:Nat) (hf:fat ps off=some i) (q:Lf) (hy:a.eval y=.agg q.cs.toArray) {p:Lf} (hp:nth ps i=some p) (hn:p.n=q.n) (hz:(P.info? ty).map (·.size)=some q.n) (new:List Lf) (hnew:pput ps i 1 [q]=new)
  (h:∀ w',Kp (Wrote w w' g)→Kp (Loc w0 w' (bs.set k (g,T,cat new)))→wpList P ops Q rest a w'):wpList P ops Q (o::rest) a w:=
 L_sg H hgd hdst ty x y ho k hi off hx i hf 1 [q] (by rw[cat1];exact hy) (by rw[nth_get hp];simp[lsum,hn]) (by rw[hz];simp[lsum]) new hnew h
theorem L_s1 (H:Kp (Loc w0 w bs)) (hgd:o.guard=none) (hdst:o.dst=none) (ty:TypeId) (x y:Operand) (ho:o.op=.store ty x y) (k:Nat) {g T:Nat} {ps:List Lf} (hi:bs[k]?=some (g,T,cat ps)) (off:Nat)
  (hx:a.eval x=.pointer (some ⟨g,off,none⟩)) (i:Nat) (hf:fat ps off=some i) (v:Value) (hy:a.eval y=v) (h1:v.oneCell'=true) {p:Lf} (hp:nth ps i=some p) (hn:p.n=1) (hz:(P.info? ty).map (·.size)=some 1) (new:List Lf) (hnew:pput ps i 1 [Lf.w v h1]=new)
  (h:∀ w',Kp (Wrote w w' g)→Kp (Loc w0 w' (bs.set k (g,T,cat new)))→wpList P ops Q rest a w'):wpList P ops Q (o::rest) a w:=by
 refine L_cell H hgd hdst ty x y ho k hi off hx v hy h1 hz ?_ (cat new) ?_ h
 ·have:=put_fits 1 hf;rw[nth_get hp] at this;simp only[List.take_succ_cons,List.take_zero,lsum,hn] at this;omega
 ·have h2:=cat_put (qs:=[Lf.w v h1]) 1 hf (by rw[nth_get hp];simp[lsum,hn]);rw[hnew] at h2;rw[←h2,cat1];have h3:=put_fits 1 hf;rw[nth_get hp] at h3;simp only[List.take_succ_cons,List.take_zero,lsum,hn] at h3;rw[List.set_eq_take_append_cons_drop,if_pos (by omega)];simp
theorem L_sa (H:Kp (Loc w0 w bs)) (hgd:o.guard=none) (hdst:o.dst=none) (ty:TypeId) (x y:Operand) (ho:o.op=.store ty x y) (k:Nat) {g T:Nat} {ps:List Lf} (hi:bs[k]?=some (g,T,cat ps))
  (hx:a.eval x=.pointer (some ⟨g,0,none⟩)) (qs:List Lf) (hy:a.eval y=.agg (cat qs).toArray) (hn:lsum ps=lsum qs) (hz:(P.info? ty).map (·.size)=some (lsum qs))
  (h:∀ w',Kp (Wrote w w' g)→Kp (Loc w0 w' (bs.set k (g,T,cat qs)))→wpList P ops Q rest a w'):wpList P ops Q (o::rest) a w:=
 L_store H hgd hdst ty x y ho k hi hx (cat qs) hy (by rw[hz,List.size_toArray,cat_len]) (by rw[cat_len,cat_len,hn]) (by have:=cat_one qs;simpa using this) h
end
theorem cell_f {w0 w:World} {bs:List Bk} (H:Loc w0 w bs) (k:Nat) {g T:Nat} {ps:List Lf} (hi:bs[k]?=some (g,T,cat ps)) (off i:Nat) (hf:fat ps off=some i) (v:Value) {hv ho'} (hp:nth ps i=some ⟨1,[v],hv,ho'⟩):w.cell? ⟨g,off,none⟩=some v:=(H.at k hi).cell (cat_cell hf hp)
section
variable {P:Program} {ops:Array Oper} {rest:List Oper} {o:Oper} {a:Act} {w0 w:World} {Q:Exit→Act→World→Prop} {bs:List Bk}
theorem xF1 (H:Kp (Loc w0 w bs)) (ty:TypeId) (k:Nat) {x:Operand} {g T:Nat} {ps:List Lf} {off i:Nat} {v:Value} {hv ho'} {d:TypeDesc} (hu:P.underlying ty=some d) (h:wpList P ops Q rest (a.put o.dst v) w) (hgd:Region.wanted o (yielded ops a.tmps)=true:=by exact rfl) (ho:o.op=.load ty x:=by exact rfl) (hi:bs[k]?=some (g,T,cat ps):=by exact rfl) (hx:a.eval x=.pointer (some ⟨g,off,none⟩):=by exact rfl) (hf:fat ps off=some i:=by exact rfl) (hp:nth ps i=some ⟨1,[v],hv,ho'⟩:=by exact rfl) (hd:d.isRow=false:=by exact rfl):wpList P ops Q (o::rest) a w:=L_f1 H hgd ty x ho k hi off hx i hf v hp hu hd h
theorem xFA (H:Kp (Loc w0 w bs)) (ty:TypeId) (k:Nat) {x:Operand} {g T:Nat} {ps:List Lf} {d:TypeDesc} (hu:P.underlying ty=some d) (h:wpList P ops Q rest (a.put o.dst (.agg (cat ps).toArray)) w) (hgd:Region.wanted o (yielded ops a.tmps)=true:=by exact rfl) (ho:o.op=.load ty x:=by exact rfl) (hi:bs[k]?=some (g,T,cat ps):=by exact rfl) (hx:a.eval x=.pointer (some ⟨g,0,none⟩):=by exact rfl) (hd:d.isRow=true:=by exact rfl) (hz:(P.info? ty).map (·.size)=some (lsum ps):=by kernel_rfl):wpList P ops Q (o::rest) a w:=L_fa H hgd ty x ho k hi hx hu hd hz h
theorem xFV (H:Kp (Loc w0 w bs)) (ty:TypeId) (k:Nat) {x:Operand} {g T:Nat} {ps:List Lf} {off i n:Nat} {cs:List Value} {hn ho'} {d:TypeDesc} (hu:P.underlying ty=some d) (h:wpList P ops Q rest (a.put o.dst (.agg cs.toArray)) w) (hgd:Region.wanted o (yielded ops a.tmps)=true:=by exact rfl) (ho:o.op=.load ty x:=by exact rfl) (hi:bs[k]?=some (g,T,cat ps):=by exact rfl) (hx:a.eval x=.pointer (some ⟨g,off,none⟩):=by exact rfl) (hf:fat ps off=some i:=by exact rfl) (hp:nth ps i=some ⟨n,cs,hn,ho'⟩:=by exact rfl) (hd:d.isRow=true:=by exact rfl) (hz:(P.info? ty).map (·.size)=some n:=by kernel_rfl):wpList P ops Q (o::rest) a w:=L_fv H hgd ty x ho k hi off hx i hf hp hu hd hz h
theorem xFG (H:Kp (Loc w0 w bs)) (ty:TypeId) (k:Nat) (qs:List Lf) {x:Operand} {g T:Nat} {ps:List Lf} {off i:Nat} {d:TypeDesc} (hu:P.underlying ty=some d) (h:wpList P ops Q rest (a.put o.dst (.agg (cat qs).toArray)) w) (hgd:Region.wanted o (yielded ops a.tmps)=true:=by exact rfl) (ho:o.op=.load ty x:=by exact rfl) (hi:bs[k]?=some (g,T,cat ps):=by exact rfl) (hx:a.eval x=.pointer (some ⟨g,off,none⟩):=by exact rfl) (hf:fat ps off=some i:=by exact rfl) (hp:(ps.drop i).take qs.length=qs:=by exact rfl) (hd:d.isRow=true:=by exact rfl) (hz:(P.info? ty).map (·.size)=some (lsum qs):=by kernel_rfl):wpList P ops Q (o::rest) a w:=L_fg H hgd ty x ho k hi off hx i hf qs hp hu hd hz h
theorem xSA (H:Kp (Loc w0 w bs)) (ty:TypeId) (k:Nat) (qs:List Lf) {x y:Operand} {g T:Nat} {ps:List Lf} (h:∀ w',Kp (Wrote w w' g)→Kp (Loc w0 w' (bs.set k (g,T,cat qs)))→wpList P ops Q rest a w') (hgd:o.guard=none:=by exact rfl) (hdst:o.dst=none:=by exact rfl) (ho:o.op=.store ty x y:=by exact rfl) (hi:bs[k]?=some (g,T,cat ps):=by exact rfl) (hx:a.eval x=.pointer (some ⟨g,0,none⟩):=by exact rfl) (hy:a.eval y=.agg (cat qs).toArray:=by exact rfl) (hn:lsum ps=lsum qs:=by exact rfl) (hz:(P.info? ty).map (·.size)=some (lsum qs):=by kernel_rfl):wpList P ops Q (o::rest) a w:=L_sa H hgd hdst ty x y ho k hi hx qs hy hn hz h
theorem xS1 (H:Kp (Loc w0 w bs)) (ty:TypeId) (k:Nat) (new:List Lf) {x y:Operand} {g T:Nat} {ps:List Lf} {off i:Nat} {v:Value} {p:Lf} (h:∀ w',Kp (Wrote w w' g)→Kp (Loc w0 w' (bs.set k (g,T,cat new)))→wpList P ops Q rest a w') (hgd:o.guard=none:=by exact rfl) (hdst:o.dst=none:=by exact rfl) (ho:o.op=.store ty x y:=by exact rfl) (hi:bs[k]?=some (g,T,cat ps):=by exact rfl) (hx:a.eval x=.pointer (some ⟨g,off,none⟩):=by exact rfl) (hf:fat ps off=some i:=by exact rfl) (hy:a.eval y=v:=by exact rfl) (h1:v.oneCell'=true:=by exact rfl) (hp:nth ps i=some p:=by exact rfl) (hn:p.n=1:=by exact rfl) (hz:(P.info? ty).map (·.size)=some 1:=by kernel_rfl) (hnew:pput ps i 1 [Lf.w v h1]=new:=by exact rfl):wpList P ops Q (o::rest) a w:=L_s1 H hgd hdst ty x y ho k hi off hx i hf v hy h1 hp hn hz new hnew h
end
theorem L_appB {w0 w:World} {bs:List Bk} {ops:Array Oper} {rest:List Oper} {o:Oper} {a:Act} {Q:Exit→Act→World→Prop} (H:Kp (Loc w0 w bs)) (hgd:o.guard=none) (s x:Operand)
  (ho:o.op=.call { callee:=.builtin .append,args:=#[s,x],argTypes:=#[29,29] })
  (base:Nat) (hb0:w0.heap.size≤base) (hbase:base≤w.heap.size) (hlt:∀ g∈bs.map (·.1),g<base) (v:Value) (l:List (BitVec 8)) (hs:a.eval s=v) (hown:w.ownsRow base 5 1 v l.length (l.map V8))
  (vx:Value) (m:List (BitVec 8)) (hx:a.eval x=vx) (hsl:SlB w vx m) (hlen:l.length+m.length≤1000000)
  (h:∀ v' w',Kp (w'.ownsRow base 5 1 v' (l++m).length ((l++m).map V8))→Kp (w.grownBy w' v.ownBlock)→Kp (Loc w0 w' bs)→wpList prog ops Q rest (a.put o.dst v') w'):wpList prog ops Q (o::rest) a w:=by
 obtain⟨iu,hiu,hu⟩:=info_iu;refine wpList_append_SlB hgd s x 29 ho base 5 iu underlying29 hiu hu.1 hu.2.1 hu.2.2 v l hs hown vx m hx hsl hlen hbase ?_;intro v' w' ho1 hg1;refine h v' w' (kp ho1) (kp hg1) (kp ⟨H.out.1.grown hg1 (fun k hk=>Nat.le_trans hb0 (owns_block hown k hk)),H.out.2.1,fun b hb=>⟨(H.out.2.2 b hb).1,?_⟩⟩);have h5:=(H.out.2.2 b hb).2;have h6:=hlt b.1 (List.mem_map.2 ⟨b,hb,rfl⟩);exact (hg1.block b.1 h5.lt (fun e=>by have:=owns_block hown b.1 e.symm;omega)).trans h5
theorem SlB.blk {w:World} {b off len cap:Nat} {l:List (BitVec 8)} (h:SlB w (.slice (some ⟨b,off,none⟩) len cap) l) (h0:0<len):b<w.heap.size:=by
 rcases h with ⟨rfl,h2|⟨a,c,h2⟩⟩|⟨b',off',cap',h2,hb,hc⟩
 ·cases h2
 ·cases h2;omega
 ·cases h2;exact hb
def over {n:Nat} (m:By) (x:Vc n):Vc n:=⟨(m++x.1.drop m.length).take n,by have:=x.2;simp;omega⟩
theorem over_val {n:Nat} (m:By) (x:Vc n):(over m x).1=m.take (min m.length n)++x.1.drop (min m.length n):=by
 show (m++x.1.drop m.length).take n=_
 have hx:=x.2;rcases Nat.le_total m.length n with h|h
 ·rw[Nat.min_eq_left h,List.take_of_length_le (Nat.le_refl m.length),List.take_of_length_le (by simp;omega)]
 ·rw[Nat.min_eq_right h,List.take_append_of_le_length h,List.drop_of_length_le (by omega),List.append_nil]
theorem fat_v {ps:List Lf} {off i n:Nat} {x:Vc n} (hf:fat ps off=some i) (hp:nth ps i=some (Lf.v x)):(cat ps).drop off=x.1.map V8++cat (ps.drop (i+1)):=by
 obtain⟨h1,h2,h3⟩:=fat_spec hf;rw[h2,nth_get hp,cat_cons]
theorem SlB.ne {w:World} {ad:Option Addr} {n c:Nat} {l:By} (h:SlB w (.slice ad n c) l) (h0:l≠[]):∃ b off,ad=some ⟨b,off,none⟩:=by
 cases l with
 |nil=>exact absurd rfl h0
 |cons x l=>obtain⟨b,off,h1,_⟩:=h.at 0 x rfl;exact⟨b,off,h1⟩
theorem SlB.len {w:World} {ad:Option Addr} {n c:Nat} {l:By} (h:SlB w (.slice ad n c) l):n=l.length:=by
 obtain⟨a,c',e⟩:=h.form;cases e;rfl
theorem SlB.from {w:World} {b off n c:Nat} {l:By} (h:SlB w (.slice (some ⟨b,off,none⟩) n c) l) (k m c':Nat) (hm:m=l.length-k) (h0:0<m):SlB w (.slice (some ⟨b,off+k,none⟩) m c') (l.drop k):=by
 have hn:=h.len;refine .inr ⟨b,off+k,c',by rw[List.length_drop,hm],h.blk (by omega),fun j x hj=>?_⟩;rw[List.getElem?_drop] at hj;obtain⟨b2,o2,h1,h2,h3⟩:=h.at (k+j) x hj;cases h1
 rw[show off+k+j=off+(k+j) by omega];exact h3
theorem owns_wroteT {w w':World} {base E T sz n g:Nat} {v:Value} {xs cs:List Value} (h:w.ownsRow base E sz v n xs) (hw:Wrote w w' g) (hg:Lc w g T cs) (hne:E≠T):w'.ownsRow base E sz v n xs:=by
 obtain⟨ds,rfl⟩:=hw;obtain⟨h1,h2|⟨b,cap,cur,h3,hb,hh,h4⟩⟩:=h
 ·exact⟨h1,.inl h2⟩
 ·refine⟨h1,.inr ⟨b,cap,cur,h3,hb,(setRow_other w g b ds ?_).trans hh,h4⟩⟩;intro e;subst e;have h5:w.heap[b]?=some (.cells cs.toArray T (0,0)):=hg;rw[h5] at hh;cases hh
  exact hne rfl
theorem Wrote.size {w w':World} {g:Nat} (h:Wrote w w' g):w'.heap.size=w.heap.size:=by obtain⟨ds,rfl⟩:=h;exact setRow_size _ _ _
theorem out_ext {w w':World} (h:Out [] w w'):Ext w w':=h.ext (Ext.refl w) fun g hg=>by cases hg
def NewS (T:Nat) (n:Nat) (cs:List Value) (v:Value) (w:World):Prop:=∃ g,v=.slice (some ⟨g,0,none⟩) n n∧Lc w g T cs
theorem mono_NewS (T n:Nat) (cs:List Value):MonoO [] (NewS T n cs):=fun _ _ _ ⟨g,h1,h2⟩ ho=>⟨g,h1,h2.ext (out_ext ho)⟩
section
variable {P:Program} {ops:Array Oper} {rest:List Oper} {o:Oper} {a:Act} {w0 w:World} {Q:Exit→Act→World→Prop} {bs:List Bk}
theorem L_cpV (H:Kp (Loc w0 w bs)) (hgd:o.guard=none) (d s:Operand) (dT sT:TypeId) (ho:o.op=.call { callee:=.builtin .copy,args:=#[d,s],argTypes:=#[dT,sT] }) (elem:TypeId) (hu:P.underlying dT=some (.slice elem)) (hsz:(P.info? elem).map (·.size)=some 1)
  (k:Nat) {g T:Nat} {ps:List Lf} (hi:bs[k]?=some (g,T,cat ps)) (off n c:Nat) (hd:a.eval d=.slice (some ⟨g,off,none⟩) n c) (i:Nat) (hf:fat ps off=some i) (x:Vc n) (hp:nth ps i=some (Lf.v x)) (y:Value) (hs:a.eval s=y) (m:By) (hy:SlB w y m) (new:List Lf) (hnew:pput ps i 1 [Lf.v (over m x)]=new)
  (h:∀ w',Kp (Wrote w w' g)→Kp (Loc w0 w' (bs.set k (g,T,cat new)))→wpList P ops Q rest (a.put o.dst (goInt ((min m.length n:Nat):Int))) w'):wpList P ops Q (o::rest) a w:=by
 have hx:=x.2;have hdr:=fat_v hf hp;refine wpList_cpS hgd d s dT sT ho elem hu hsz g off n c hd y hs m hy (cat ps) T (H.out.at k hi) (min m.length n) rfl ?_ (cat new) ?_ rfl (h _ (kp ⟨_,rfl⟩) (kp (H.out.set k hi (cat new))))
 ·have h1:((cat ps).drop off).length=(x.1.map V8++cat (ps.drop (i+1))).length:=by rw[hdr]
  rw[List.length_drop,List.length_append,List.length_map,hx] at h1;have h2:=put_fits 1 hf;have h4:(ps.drop i).take 1=[Lf.v x]:=by rw[nth_get hp];rfl
  have h3:lsum ((ps.drop i).take 1)=n:=by rw[h4];simp[lsum]
  rw[h3] at h2;omega
 ·have h2:=cat_put (qs:=[Lf.v (over m x)]) 1 hf (by
   have h4:(ps.drop i).take 1=[Lf.v x]:=by rw[nth_get hp];rfl
   rw[h4];simp[lsum])
  rw[hnew] at h2;rw[←h2,List.append_assoc,cat1]
  congr 1
  show _=(over m x).1.map V8++_
  have hl:((over m x).1.map V8).length=n:=by rw[List.length_map,(over m x).2]
  rw[hl,←List.drop_drop,←List.drop_drop,hdr,over_val,List.map_append,List.append_assoc,List.map_take]
  congr 1
  rw[List.drop_append_of_le_length (by rw[List.length_map,hx];exact Nat.min_le_right _ _),List.drop_append,List.drop_of_length_le (i:=n) (by rw[List.length_map,hx];exact Nat.le_refl _),List.map_drop,List.length_map,hx,Nat.sub_self,List.nil_append,List.drop_zero]
theorem ret_f1 {fn:Func} {R:Ending→World→Prop} {p:Tmp} {ty:TypeId} (H:Kp (Loc w0 w bs)) (h:fn.results=#[.cell p ty]) (k:Nat) {g T:Nat} {ps:List Lf} (hi:bs[k]?=some (g,T,cat ps)) (hp:a.tmps.getD p undef=.pointer (some ⟨g,0,none⟩))
  {d:TypeDesc} (hu:P.underlying ty=some d) (hd:(match d with|.struct _|.array _ _=>true|_=>false)=true) (hz:(P.info? ty).map (·.size)=some (lsum ps)) (hdf:a.defers=[]) (hR:R (.returned (.agg (cat ps).toArray)) w):bodyPost P fn R .ret a w:=
 ret_row h g T (cat ps).toArray (0,0) d hp (H.out.at k hi) hu hd (by rw[hz,List.size_toArray,cat_len]) hdf hR
theorem ret_f2 {fn:Func} {R:Ending→World→Prop} {p q:Tmp} {ty:TypeId} (H:Kp (Loc w0 w bs)) (h:fn.results=#[.cell p ty,.tmp q]) (k:Nat) {g T:Nat} {ps:List Lf} (hi:bs[k]?=some (g,T,cat ps)) (hp:a.tmps.getD p undef=.pointer (some ⟨g,0,none⟩)) (v:Value) (hv:a.tmps.getD q undef=v)
  {d:TypeDesc} (hu:P.underlying ty=some d) (hd:(match d with|.struct _|.array _ _=>true|_=>false)=true) (hz:(P.info? ty).map (·.size)=some (lsum ps)) (hdf:a.defers=[]) (hR:R (.returned (.tuple #[.agg (cat ps).toArray,v])) w):bodyPost P fn R .ret a w:=
 ret_row2 h g T (cat ps).toArray (0,0) d hp v hv (H.out.at k hi) hu hd (by rw[hz,List.size_toArray,cat_len]) hdf hR
theorem results_ctt (fn:Func) {p q r:Tmp} {ty:TypeId} (h:fn.results=#[.cell p ty,.tmp q,.tmp r]) (tmps:Array Value) (w:World) (g:Nat) (t:TypeId) (cs:Array Value) (fr:Nat × Nat) (d:TypeDesc)
  (hp:tmps.getD p undef=.pointer (some ⟨g,0,none⟩)) (v u:Value) (hv:tmps.getD q undef=v) (hr:tmps.getD r undef=u) (hg:w.heap[g]?=some (.cells cs t fr))
  (hu:P.underlying ty=some d) (hd:(match d with|.struct _|.array _ _=>true|_=>false)=true) (hi:(P.info? ty).map (·.size)=some cs.size):(results fn tmps).run P w=.ok (.tuple #[.agg cs,v,u]) w:=by
 have hp':tmps[p]?.getD undef=.pointer (some ⟨g,0,none⟩):=by simpa using hp
 have hv':tmps[q]?.getD undef=v:=by simpa using hv
 have hr':tmps[r]?.getD undef=u:=by simpa using hr
 simp[results,h,hp',hv',hr',asAddr,run_loadVar_row w g t ty cs fr d hg hu hd hi]
theorem ret_f3 {fn:Func} {R:Ending→World→Prop} {p q r:Tmp} {ty:TypeId} (H:Kp (Loc w0 w bs)) (h:fn.results=#[.cell p ty,.tmp q,.tmp r]) (k:Nat) {g T:Nat} {ps:List Lf} (hi:bs[k]?=some (g,T,cat ps)) (hp:a.tmps.getD p undef=.pointer (some ⟨g,0,none⟩)) (v u:Value) (hv:a.tmps.getD q undef=v) (hr:a.tmps.getD r undef=u)
  {d:TypeDesc} (hu:P.underlying ty=some d) (hd:(match d with|.struct _|.array _ _=>true|_=>false)=true) (hz:(P.info? ty).map (·.size)=some (lsum ps)) (hdf:a.defers=[]) (hR:R (.returned (.tuple #[.agg (cat ps).toArray,v,u])) w):bodyPost P fn R .ret a w:=
 bodyPost_ret (results_ctt fn h a.tmps w g T (cat ps).toArray (0,0) d hp v u hv hr (H.out.at k hi) hu hd (by rw[hz,List.size_toArray,cat_len])) hdf hR
end
theorem owns_weak {w:World} {b b' E n sz:Nat} {v:Value} {xs:List Value} (h:w.ownsRow b E sz v n xs) (hb:b'≤b):w.ownsRow b' E sz v n xs:=by
 obtain⟨h1,h2|⟨g,cap,cur,h3,h4,h5⟩⟩:=h
 ·exact⟨h1,.inl h2⟩
 ·exact⟨h1,.inr ⟨g,cap,cur,h3,Nat.le_trans hb h4,h5⟩⟩
theorem slb1 {w:World} {g T:Nat} {x:Int} (h:Lc w g T [.int .u8 (x % 256)]):SlB w (.slice (some ⟨g,0,none⟩) 1 1) [BitVec.ofInt 8 x]:=
 SlB.of_block (l:=[BitVec.ofInt 8 x]) (by show _=some (Obj.cells #[V8 (BitVec.ofInt 8 x)] T (0,0));rw[V8_ofInt];exact h)
theorem owns_form2 {w:World} {base E n sz:Nat} {v:Value} {xs:List Value} (h:w.ownsRow base E sz v n xs):∃ a m c,v=.slice a m c:=by
 obtain⟨h1,⟨h2,h3⟩|⟨g,cap,cur,h3,hb,hg,a,b,c,ht⟩⟩:=h
 ·exact⟨_,_,_,h2⟩
 ·exact⟨_,_,_,h3⟩
theorem owns_formN {w:World} {base E n sz:Nat} {v:Value} {xs:List Value} (h:w.ownsRow base E sz v n xs):∃ a c,v=.slice a n c∧n≤c:=by
 obtain⟨h1,⟨h2,h3⟩|⟨g,cap,cur,h3,hb,hg,a,b,c,ht⟩⟩:=h
 ·subst h3;exact⟨_,_,h2,Nat.le_refl _⟩
 ·exact⟨_,_,h3,a⟩
structure Hd where
 kind:Int
 sub:Int
 toDs:Bool
 fromDs:Bool
 more:Bool
 retry:Bool
 sleep:Bool
 mdata:Bool
 prot:Bool
 dur:Int
 a1:List (BitVec 8)
 a2:List (BitVec 8)
 a3:List (BitVec 8)
 a4:List (BitVec 8)
 seq:Int
 frag:Int
 tid:Int
 ack:Int
 amsdu:Bool
 eosp:Bool
deriving DecidableEq
structure Hd.Ok (h:Hd):Prop where
 k0:0≤h.kind
 k1:h.kind<256
 s0:0≤h.sub
 s1:h.sub<256
 c0:0≤h.ack
 c1:h.ack<256
 l1:h.a1.length=6
 l2:h.a2.length=6
 l3:h.a3.length=6
 l4:h.a4.length=6
def cellsH (h:Hd):List Value:=
 [.int .u8 h.kind,.int .u8 h.sub,.bool h.toDs,.bool h.fromDs,.bool h.more,.bool h.retry,.bool h.sleep,.bool h.mdata,.bool h.prot,.int .i64 h.dur]++(h.a1.map V8++(h.a2.map V8++(h.a3.map V8++(h.a4.map V8++[.int .i64 h.seq,.int .i64 h.frag,.int .i64 h.tid,.int .u8 h.ack,.bool h.amsdu,.bool h.eosp]))))
theorem six {α:Type} {l:List α} (h:l.length=6):∃ a b c d e f,l=[a,b,c,d,e,f]:=by
 match l,h with
 |[a,b,c,d,e,f],_=>exact⟨a,b,c,d,e,f,rfl⟩
def b8 (n m:Int):Int:=bits .and .u8 n m
def knownF (k s:Int):(Bool × Bool × Bool) × Bool:=
 if k=0 then ((true,true,false),decide (s≤5) || s==8 || (decide (10≤s)&&decide (s≤13)))
 else if k=1 then ((false,false,false),decide (8≤s)&&decide (s≤13))
 else if k=2 then ((true,true,bits .and .u8 s 8 != 0),bits .and .u8 s 3==0&&decide (s≤12))
 else ((false,false,false),false)
def cellsFm (f:Bool × Bool × Bool):List Value:=[.bool f.1,.bool f.2.1,.bool f.2.2]
theorem known_any (k s:Int) (w:World) :
  Calls prog 48 #[.int .u8 k,.int .u8 s] w fun e w'=>e=.returned (.tuple #[.agg (cellsFm (knownF k s).1).toArray,.bool (knownF k s).2])∧Ext w w':=by
 have H:=kp (Loc.start w);have HZ:=kp (fun f:Bool × Bool × Bool=>show (prog.info? 95).map (·.size)=some (cellsFm f).toArray.size by kernel_rfl);have HO:=kp (fun f:Bool × Bool × Bool=>show (cellsFm f).toArray.all (·.oneCell')=true by simp[cellsFm,Value.oneCell']);by_cases h0:k=0
 ·subst h0;go_enter func48,ntmps48;go_wp2_with (first|((with_reducible refine isAl 4 95 ?_);(with_reducible refine xAL H 95 (cellsFm (false,false,false)) ?_);clear H;intro g4 w4 HGg4 HEg4 H;simp only[pA])|((with_reducible refine isSt 95 ?_);(first|(refine xSR H 95 0 rfl (cellsFm (true,true,false)) (HZ.out _) (rfl) (HO.out _) ?_;clear H;intro wz HWwz H;simp only[szA] at H)|(refine xSR H 95 1 rfl (cellsFm (true,true,false)) (HZ.out _) (rfl) (HO.out _) ?_;clear H;intro wz HWwz H;simp only[ssA,szA] at H)|(refine xSR H 95 2 rfl (cellsFm (true,true,false)) (HZ.out _) (rfl) (HO.out _) ?_;clear H;intro wz HWwz H;simp only[ssA,szA] at H)|(refine xSR H 95 3 rfl (cellsFm (true,true,false)) (HZ.out _) (rfl) (HO.out _) ?_;clear H;intro wz HWwz H;simp only[ssA,szA] at H)|(refine xSR H 95 4 rfl (cellsFm (true,true,false)) (HZ.out _) (rfl) (HO.out _) ?_;clear H;intro wz HWwz H;simp only[ssA,szA] at H)|(refine xSR H 95 5 rfl (cellsFm (true,true,false)) (HZ.out _) (rfl) (HO.out _) ?_;clear H;intro wz HWwz H;simp only[ssA,szA] at H))))
  all_goals exact ret_row2 Tryz.results48 _ _ _ (0,0) _ rfl _ rfl (H.out.at 0 rfl) underlying95 rfl (HZ.out _) rfl ⟨by simp[knownF, *] <;> omega,H.out.1⟩
 by_cases h1:k=1
 ·subst h1;go_enter func48,ntmps48;go_wp2_with (first|((with_reducible refine isAl 4 95 ?_);(with_reducible refine xAL H 95 (cellsFm (false,false,false)) ?_);clear H;intro g4 w4 HGg4 HEg4 H;simp only[pA])|((with_reducible refine isSt 95 ?_);(first|(refine xSR H 95 0 rfl (cellsFm (false,false,false)) (HZ.out _) (rfl) (HO.out _) ?_;clear H;intro wz HWwz H;simp only[szA] at H)|(refine xSR H 95 1 rfl (cellsFm (false,false,false)) (HZ.out _) (rfl) (HO.out _) ?_;clear H;intro wz HWwz H;simp only[ssA,szA] at H)|(refine xSR H 95 2 rfl (cellsFm (false,false,false)) (HZ.out _) (rfl) (HO.out _) ?_;clear H;intro wz HWwz H;simp only[ssA,szA] at H)|(refine xSR H 95 3 rfl (cellsFm (false,false,false)) (HZ.out _) (rfl) (HO.out _) ?_;clear H;intro wz HWwz H;simp only[ssA,szA] at H)|(refine xSR H 95 4 rfl (cellsFm (false,false,false)) (HZ.out _) (rfl) (HO.out _) ?_;clear H;intro wz HWwz H;simp only[ssA,szA] at H)|(refine xSR H 95 5 rfl (cellsFm (false,false,false)) (HZ.out _) (rfl) (HO.out _) ?_;clear H;intro wz HWwz H;simp only[ssA,szA] at H))))
  all_goals exact ret_row2 Tryz.results48 _ _ _ (0,0) _ rfl _ rfl (H.out.at 0 rfl) underlying95 rfl (HZ.out _) rfl ⟨by simp[knownF, *] <;> omega,H.out.1⟩
 by_cases h2:k=2
 ·subst h2;go_enter func48,ntmps48;go_wp2_with (first|((with_reducible refine isAl 4 95 ?_);(with_reducible refine xAL H 95 (cellsFm (false,false,false)) ?_);clear H;intro g4 w4 HGg4 HEg4 H;simp only[pA])|((with_reducible refine isSt 95 ?_);(first|(refine xSR H 95 0 rfl (cellsFm (true,true,bits .and .u8 s 8 != 0)) (HZ.out _) (rfl) (HO.out _) ?_;clear H;intro wz HWwz H;simp only[szA] at H)|(refine xSR H 95 1 rfl (cellsFm (true,true,bits .and .u8 s 8 != 0)) (HZ.out _) (rfl) (HO.out _) ?_;clear H;intro wz HWwz H;simp only[ssA,szA] at H)|(refine xSR H 95 2 rfl (cellsFm (true,true,bits .and .u8 s 8 != 0)) (HZ.out _) (rfl) (HO.out _) ?_;clear H;intro wz HWwz H;simp only[ssA,szA] at H)|(refine xSR H 95 3 rfl (cellsFm (true,true,bits .and .u8 s 8 != 0)) (HZ.out _) (rfl) (HO.out _) ?_;clear H;intro wz HWwz H;simp only[ssA,szA] at H)|(refine xSR H 95 4 rfl (cellsFm (true,true,bits .and .u8 s 8 != 0)) (HZ.out _) (rfl) (HO.out _) ?_;clear H;intro wz HWwz H;simp only[ssA,szA] at H)|(refine xSR H 95 5 rfl (cellsFm (true,true,bits .and .u8 s 8 != 0)) (HZ.out _) (rfl) (HO.out _) ?_;clear H;intro wz HWwz H;simp only[ssA,szA] at H))))
  all_goals exact ret_row2 Tryz.results48 _ _ _ (0,0) _ rfl _ rfl (H.out.at 0 rfl) underlying95 rfl (HZ.out _) rfl ⟨by simp[knownF, *] <;> omega,H.out.1⟩
 have e0:(k==0)=false:=by simp[h0]
 have e1:(k==1)=false:=by simp[h1]
 have e2:(k==2)=false:=by simp[h2]
 go_enter func48,ntmps48;go_wp2_with (first|((with_reducible refine isAl 4 95 ?_);(with_reducible refine xAL H 95 (cellsFm (false,false,false)) ?_);clear H;intro g4 w4 HGg4 HEg4 H;simp only[pA])|((with_reducible refine isSt 95 ?_);(first|(refine xSR H 95 0 rfl (cellsFm (false,false,false)) (HZ.out _) (rfl) (HO.out _) ?_;clear H;intro wz HWwz H;simp only[szA] at H)|(refine xSR H 95 1 rfl (cellsFm (false,false,false)) (HZ.out _) (rfl) (HO.out _) ?_;clear H;intro wz HWwz H;simp only[ssA,szA] at H)|(refine xSR H 95 2 rfl (cellsFm (false,false,false)) (HZ.out _) (rfl) (HO.out _) ?_;clear H;intro wz HWwz H;simp only[ssA,szA] at H)|(refine xSR H 95 3 rfl (cellsFm (false,false,false)) (HZ.out _) (rfl) (HO.out _) ?_;clear H;intro wz HWwz H;simp only[ssA,szA] at H)|(refine xSR H 95 4 rfl (cellsFm (false,false,false)) (HZ.out _) (rfl) (HO.out _) ?_;clear H;intro wz HWwz H;simp only[ssA,szA] at H)|(refine xSR H 95 5 rfl (cellsFm (false,false,false)) (HZ.out _) (rfl) (HO.out _) ?_;clear H;intro wz HWwz H;simp only[ssA,szA] at H))))
 all_goals exact ret_row2 Tryz.results48 _ _ _ (0,0) _ rfl _ rfl (H.out.at 0 rfl) underlying95 rfl (HZ.out _) rfl ⟨by simp[knownF, *] <;> omega,H.out.1⟩
theorem u8_and1 (x:BitVec 8):bits .and .u8 (wI x) 1=wI (x &&& 1#8):=by
 revert x;decide +kernel
theorem group8 (x:BitVec 8):(x &&& 1#8==0#8)=!decide (wI x % 2=1):=by
 revert x;decide +kernel
def groupF (l:List (BitVec 8)):Bool:=decide (wI (l.headD 0#8) % 2=1)
def inF (n a b:Int):Bool:=decide (a≤n)&&decide (n≤b)
def nullF (h:Hd):Bool:=h.kind==2&&bits .and .u8 h.sub 4 != 0
def null5F (h:Hd):Bool:=h.kind==2&&(h.sub==4 || h.sub==12)
def qosF (h:Hd):Bool:=h.kind==2&&(h.sub==8 || h.sub==12)
def addrsF (h:Hd):Int:=if h.kind=1∧(h.sub=12∨h.sub=13) then 1 else if h.kind=1 then 2 else if h.toDs&&h.fromDs then 4 else 3
structure As where
 own:List (BitVec 8)
 caps:Int
 limit:Int
 idle:Int
deriving DecidableEq
def cellsA (a:As) (v:Value):List Value:=a.own.map V8++[.int .i64 a.caps,.int .i64 a.limit,.int .i64 a.idle,v]
def addrF (a:As) (h:Hd):Bool:=h.a1==a.own&&h.a2 != a.own&&(h.kind==0&&h.a3==a.own || h.kind==2&&h.toDs&&!h.fromDs)
theorem cH34 {h:Hd} (ok:h.Ok):(cellsH h)[34]?=some (.int .i64 h.seq):=by
 obtain⟨_,_,_,_,_,_,h1⟩:=six ok.l1;obtain⟨_,_,_,_,_,_,h2⟩:=six ok.l2;obtain⟨_,_,_,_,_,_,h3⟩:=six ok.l3;obtain⟨_,_,_,_,_,_,h4⟩:=six ok.l4;simp[cellsH,h1,h2,h3,h4]
theorem cH35 {h:Hd} (ok:h.Ok):(cellsH h)[35]?=some (.int .i64 h.frag):=by
 obtain⟨_,_,_,_,_,_,h1⟩:=six ok.l1;obtain⟨_,_,_,_,_,_,h2⟩:=six ok.l2;obtain⟨_,_,_,_,_,_,h3⟩:=six ok.l3;obtain⟨_,_,_,_,_,_,h4⟩:=six ok.l4;simp[cellsH,h1,h2,h3,h4]
theorem cH36 {h:Hd} (ok:h.Ok):(cellsH h)[36]?=some (.int .i64 h.tid):=by
 obtain⟨_,_,_,_,_,_,h1⟩:=six ok.l1;obtain⟨_,_,_,_,_,_,h2⟩:=six ok.l2;obtain⟨_,_,_,_,_,_,h3⟩:=six ok.l3;obtain⟨_,_,_,_,_,_,h4⟩:=six ok.l4;simp[cellsH,h1,h2,h3,h4]
theorem cH37 {h:Hd} (ok:h.Ok):(cellsH h)[37]?=some (.int .u8 h.ack):=by
 obtain⟨_,_,_,_,_,_,h1⟩:=six ok.l1;obtain⟨_,_,_,_,_,_,h2⟩:=six ok.l2;obtain⟨_,_,_,_,_,_,h3⟩:=six ok.l3;obtain⟨_,_,_,_,_,_,h4⟩:=six ok.l4;simp[cellsH,h1,h2,h3,h4]
theorem cH38 {h:Hd} (ok:h.Ok):(cellsH h)[38]?=some (.bool h.amsdu):=by
 obtain⟨_,_,_,_,_,_,h1⟩:=six ok.l1;obtain⟨_,_,_,_,_,_,h2⟩:=six ok.l2;obtain⟨_,_,_,_,_,_,h3⟩:=six ok.l3;obtain⟨_,_,_,_,_,_,h4⟩:=six ok.l4;simp[cellsH,h1,h2,h3,h4]
theorem cH39 {h:Hd} (ok:h.Ok):(cellsH h)[39]?=some (.bool h.eosp):=by
 obtain⟨_,_,_,_,_,_,h1⟩:=six ok.l1;obtain⟨_,_,_,_,_,_,h2⟩:=six ok.l2;obtain⟨_,_,_,_,_,_,h3⟩:=six ok.l3;obtain⟨_,_,_,_,_,_,h4⟩:=six ok.l4;simp[cellsH,h1,h2,h3,h4]
theorem pH1 {h:Hd} (ok:h.Ok):((cellsH h).drop 10).take (h.a1.map V8).length=h.a1.map V8:=by
 obtain⟨_,_,_,_,_,_,h1⟩:=six ok.l1;obtain⟨_,_,_,_,_,_,h2⟩:=six ok.l2;obtain⟨_,_,_,_,_,_,h3⟩:=six ok.l3;obtain⟨_,_,_,_,_,_,h4⟩:=six ok.l4;simp[cellsH,h1,h2,h3,h4]
theorem pH2 {h:Hd} (ok:h.Ok):((cellsH h).drop 16).take (h.a2.map V8).length=h.a2.map V8:=by
 obtain⟨_,_,_,_,_,_,h1⟩:=six ok.l1;obtain⟨_,_,_,_,_,_,h2⟩:=six ok.l2;obtain⟨_,_,_,_,_,_,h3⟩:=six ok.l3;obtain⟨_,_,_,_,_,_,h4⟩:=six ok.l4;simp[cellsH,h1,h2,h3,h4]
theorem pH3 {h:Hd} (ok:h.Ok):((cellsH h).drop 22).take (h.a3.map V8).length=h.a3.map V8:=by
 obtain⟨_,_,_,_,_,_,h1⟩:=six ok.l1;obtain⟨_,_,_,_,_,_,h2⟩:=six ok.l2;obtain⟨_,_,_,_,_,_,h3⟩:=six ok.l3;obtain⟨_,_,_,_,_,_,h4⟩:=six ok.l4;simp[cellsH,h1,h2,h3,h4]
theorem pH4 {h:Hd} (ok:h.Ok):((cellsH h).drop 28).take (h.a4.map V8).length=h.a4.map V8:=by
 obtain⟨_,_,_,_,_,_,h1⟩:=six ok.l1;obtain⟨_,_,_,_,_,_,h2⟩:=six ok.l2;obtain⟨_,_,_,_,_,_,h3⟩:=six ok.l3;obtain⟨_,_,_,_,_,_,h4⟩:=six ok.l4;simp[cellsH,h1,h2,h3,h4]
theorem cellsH_len {h:Hd} (ok:h.Ok):(cellsH h).length=40:=by
 obtain⟨_,_,_,_,_,_,h1⟩:=six ok.l1;obtain⟨_,_,_,_,_,_,h2⟩:=six ok.l2;obtain⟨_,_,_,_,_,_,h3⟩:=six ok.l3;obtain⟨_,_,_,_,_,_,h4⟩:=six ok.l4;simp[cellsH,h1,h2,h3,h4]
theorem sizeH {h:Hd} (ok:h.Ok):(prog.info? 28).map (·.size)=some (cellsH h).toArray.size:=by
 rw[List.size_toArray,cellsH_len ok];kernel_rfl
theorem one_cellsH (h:Hd):(cellsH h).toArray.all (·.oneCell')=true:=by
 simp[cellsH,Value.oneCell',List.all_map]
theorem sizeA8 {l:List (BitVec 8)} (h:l.length=6):(prog.info? 23).map (·.size)=some (l.map V8).length:=by
 rw[List.length_map,h];kernel_rfl
theorem sizeA8a {l:List (BitVec 8)} (h:l.length=6):(prog.info? 23).map (·.size)=some (l.map V8).toArray.size:=by
 rw[List.size_toArray];exact sizeA8 h
theorem sizeU8:(prog.info? 5).map (·.size)=some 1:=by kernel_rfl
theorem eqAddr (l m:List (BitVec 8)) (h:l.length=6) (h':m.length=6) (w:World):(binOp .eql 23 (.agg (l.map V8).toArray) (.agg (m.map V8).toArray)).run prog w=.ok (.bool (l==m)) w:=
 run_eql_V8 w underlying23 underlying5 sizeU8 l m h h'
theorem neAddr (l m:List (BitVec 8)) (h:l.length=6) (h':m.length=6) (w:World):(binOp .neq 23 (.agg (l.map V8).toArray) (.agg (m.map V8).toArray)).run prog w=.ok (.bool (!(l==m))) w:=
 by
 rw[run_neq_struct];have:=run_eq_ints (P:=prog) w underlying23 underlying5 sizeU8 l m h h' 9998;rw[this];rfl
theorem within_any (n a b:Int) (w:World) :
  Calls prog 44 #[.int .i64 n,.int .i64 a,.int .i64 b] w fun e w'=>e=.returned (.bool (inF n a b))∧Ext w w':=by
 have H:=kp (Loc.start w);go_enter func44,ntmps44;go_wp2_with fail
 all_goals (go_ret;exact⟨by simp[inF, *] <;> omega,H.out.1⟩)
theorem in30_any (n a b:Int) (w:World) :
  Calls prog 32 #[.int .i64 n,.int .i64 a,.int .i64 b] w fun e w'=>e=.returned (.bool (inF n a b))∧Ext w w':=by
 have H:=kp (Loc.start w);go_enter func32,ntmps32;go_wp2_with fail
 all_goals (go_ret;exact⟨by simp[inF, *] <;> omega,H.out.1⟩)
theorem in0_any (n b:Int) (w:World) :
  Calls prog 50 #[.int .i64 n,.int .i64 b] w fun e w'=>e=.returned (.bool (inF n 0 b))∧Ext w w':=by
 have H:=kp (Loc.start w);go_enter func50,ntmps50;go_wp2_with fail
 all_goals (go_ret;exact⟨by simp[inF, *] <;> omega,H.out.1⟩)
theorem moment_any (n:Int) (w:World) :
  Calls prog 20 #[.int .i64 n] w fun e w'=>e=.returned (.bool (inF n 0 1099511627776))∧Ext w w':=by
 have H:=kp (Loc.start w);have HW:=kp (within_any n 0 1099511627776);go_enter func20,ntmps20;go_wp2_with (go_at_call 44;refine (HW.out _).mono ?_;rintro e w2 ⟨rfl,hx⟩;have H2:=kp (H.out.ext hx);clear H hx;have H:=H2;clear H2)
 all_goals (go_ret;exact⟨by rfl,H.out.1⟩)
theorem null_any (h:Hd) (w:World) :
  Calls prog 51 #[.agg (cellsH h).toArray] w fun e w'=>e=.returned (.bool (nullF h))∧Ext w w':=by
 have H:=kp (Loc.start w);go_enter func51,ntmps51;go_wp2_with (((with_reducible refine isBx 1 28 ?_);(refine xBX H 28 (cellsH h) ?_);clear H;intro g1 w1 HGg1 HEg1 H;simp only[pA]);have hc0:=run_load_cell H.out 0 rfl 0 _ rfl;have hc1:=run_load_cell H.out 0 rfl 1 _ rfl;have hc2:=run_load_cell H.out 0 rfl 2 _ rfl;have hc3:=run_load_cell H.out 0 rfl 3 _ rfl)
 all_goals (go_ret;exact⟨by simp[nullF, *],H.out.1⟩)
theorem null5_any (h:Hd) (w:World) :
  Calls prog 66 #[.agg (cellsH h).toArray] w fun e w'=>e=.returned (.bool (null5F h))∧Ext w w':=by
 have H:=kp (Loc.start w);go_enter func66,ntmps66;go_wp2_with (((with_reducible refine isBx 1 28 ?_);(refine xBX H 28 (cellsH h) ?_);clear H;intro g1 w1 HGg1 HEg1 H;simp only[pA]);have hc0:=run_load_cell H.out 0 rfl 0 _ rfl;have hc1:=run_load_cell H.out 0 rfl 1 _ rfl;have hc2:=run_load_cell H.out 0 rfl 2 _ rfl;have hc3:=run_load_cell H.out 0 rfl 3 _ rfl)
 all_goals (go_ret;exact⟨by simp[null5F, *],H.out.1⟩)
theorem qos_any (h:Hd) (w:World) :
  Calls prog 90 #[.agg (cellsH h).toArray] w fun e w'=>e=.returned (.bool (qosF h))∧Ext w w':=by
 have H:=kp (Loc.start w);go_enter func90,ntmps90;go_wp2_with (((with_reducible refine isBx 1 28 ?_);(refine xBX H 28 (cellsH h) ?_);clear H;intro g1 w1 HGg1 HEg1 H;simp only[pA]);have hc0:=run_load_cell H.out 0 rfl 0 _ rfl;have hc1:=run_load_cell H.out 0 rfl 1 _ rfl;have hc2:=run_load_cell H.out 0 rfl 2 _ rfl;have hc3:=run_load_cell H.out 0 rfl 3 _ rfl)
 all_goals (go_ret;exact⟨by simp[qosF, *],H.out.1⟩)
theorem addrs_any (h:Hd) (w:World) :
  Calls prog 89 #[.agg (cellsH h).toArray] w fun e w'=>e=.returned (.int .i64 (addrsF h))∧Ext w w':=by
 have H:=kp (Loc.start w);go_enter func89,ntmps89;go_wp2_with (((with_reducible refine isBx 1 28 ?_);(refine xBX H 28 (cellsH h) ?_);clear H;intro g1 w1 HGg1 HEg1 H;simp only[pA]);have hc0:=run_load_cell H.out 0 rfl 0 _ rfl;have hc1:=run_load_cell H.out 0 rfl 1 _ rfl;have hc2:=run_load_cell H.out 0 rfl 2 _ rfl;have hc3:=run_load_cell H.out 0 rfl 3 _ rfl)
 all_goals (go_ret;exact⟨by simp[addrsF, *] <;> simp_all,H.out.1⟩)
theorem group_any (l:List (BitVec 8)) (hl:l.length=6) (w:World) :
  Calls prog 29 #[.agg (l.map V8).toArray] w fun e w'=>e=.returned (.bool (groupF l))∧Ext w w':=by
 have H:=kp (Loc.start w);obtain⟨x,x1,x2,x3,x4,x5,rfl⟩:=six hl;go_enter func29,ntmps29;go_wp2_with (((with_reducible refine isBx 1 23 ?_);(refine xBX H 23 ([x,x1,x2,x3,x4,x5].map V8) ?_);clear H;intro g1 w1 HGg1 HEg1 H;simp only[pA]);have hc0:=run_load_cell H.out 0 rfl 0 _ rfl)
 all_goals (go_ret;exact⟨by simp[groupF,u8_and1,group8,wI_beq0,bne],H.out.1⟩)
theorem group2_any (l:List (BitVec 8)) (hl:l.length=6) (w:World) :
  Calls prog 43 #[.agg (l.map V8).toArray] w fun e w'=>e=.returned (.bool (groupF l))∧Ext w w':=by
 have H:=kp (Loc.start w);obtain⟨x,x1,x2,x3,x4,x5,rfl⟩:=six hl;go_enter func43,ntmps43;go_wp2_with (((with_reducible refine isBx 1 23 ?_);(refine xBX H 23 ([x,x1,x2,x3,x4,x5].map V8) ?_);clear H;intro g1 w1 HGg1 HEg1 H;simp only[pA]);have hc0:=run_load_cell H.out 0 rfl 0 _ rfl)
 all_goals (go_ret;exact⟨by simp[groupF,Int.tmod_eq_emod_of_nonneg (wI_nonneg x),Bool.beq_eq_decide_eq],H.out.1⟩)
theorem cellsA_own {a:As} (v:Value) (h:a.own.length=6):((cellsA a v).drop 0).take (a.own.map V8).length=a.own.map V8:=by
 obtain⟨_,_,_,_,_,_,h1⟩:=six h;simp[cellsA,h1]
theorem cA6 {a:As} (v:Value) (h:a.own.length=6):(cellsA a v)[6]?=some (.int .i64 a.caps):=by
 obtain⟨_,_,_,_,_,_,h1⟩:=six h;simp[cellsA,h1]
theorem cA7 {a:As} (v:Value) (h:a.own.length=6):(cellsA a v)[7]?=some (.int .i64 a.limit):=by
 obtain⟨_,_,_,_,_,_,h1⟩:=six h;simp[cellsA,h1]
theorem cA8 {a:As} (v:Value) (h:a.own.length=6):(cellsA a v)[8]?=some (.int .i64 a.idle):=by
 obtain⟨_,_,_,_,_,_,h1⟩:=six h;simp[cellsA,h1]
theorem cA9 {a:As} (v:Value) (h:a.own.length=6):(cellsA a v)[9]?=some v:=by
 obtain⟨_,_,_,_,_,_,h1⟩:=six h;simp[cellsA,h1]
theorem cellsA_len {a:As} (v:Value) (h:a.own.length=6):(cellsA a v).length=10:=by simp[cellsA,h]
theorem sizeAs {a:As} (v:Value) (h:a.own.length=6):(prog.info? 26).map (·.size)=some (cellsA a v).toArray.size:=by
 rw[List.size_toArray,cellsA_len v h];kernel_rfl
set_option maxHeartbeats 6400000 in
theorem addressed_any (a:As) (v:Value) (ha:a.own.length=6) (h:Hd) (ok:h.Ok) (w:World) :
  Calls prog 23 #[.agg (cellsA a v).toArray,.agg (cellsH h).toArray] w fun e w'=>e=.returned (.bool (addrF a h))∧Ext w w':=by
 have H:=kp (Loc.start w);have HOW:=kp (cellsA_own v ha);have HP1:=kp (pH1 ok);have HP2:=kp (pH2 ok);have HP3:=kp (pH3 ok);have HZo:=kp (sizeA8 ha);have HZ1:=kp (sizeA8 ok.l1);have HZ2:=kp (sizeA8 ok.l2);have HZ3:=kp (sizeA8 ok.l3);have he1:=eqAddr h.a1 a.own ok.l1 ha;have he2:=neAddr h.a2 a.own ok.l2 ha;have he3:=eqAddr h.a3 a.own ok.l3 ha;go_enter func23,ntmps23;go_wp2_with (first|((with_reducible refine isBx 2 26 ?_);(refine xBX H 26 (cellsA a v) ?_);clear H;intro g2 w2 HGg2 HEg2 H;simp only[pA])|(((with_reducible refine isBx 3 28 ?_);(refine xBX H 28 (cellsH h) ?_);clear H;intro g3 w3 HGg3 HEg3 H;simp only[pA]);have hc0:=run_load_cell H.out 0 rfl 0 _ rfl;have hc2:=run_load_cell H.out 0 rfl 2 _ rfl;have hc3:=run_load_cell H.out 0 rfl 3 _ rfl)|((with_reducible refine isLd 23 ?_);(refine L_subG H (by kernel_rfl) 23 _ rfl 0 rfl (10) rfl (h.a1.map V8) (HP1.out) underlying23 rfl (HZ1.out) ?_);simp only[pA])|((with_reducible refine isLd 23 ?_);(refine L_subG H (by kernel_rfl) 23 _ rfl 0 rfl (16) rfl (h.a2.map V8) (HP2.out) underlying23 rfl (HZ2.out) ?_);simp only[pA])|((with_reducible refine isLd 23 ?_);(refine L_subG H (by kernel_rfl) 23 _ rfl 0 rfl (22) rfl (h.a3.map V8) (HP3.out) underlying23 rfl (HZ3.out) ?_);simp only[pA])|((with_reducible refine isLd 23 ?_);(refine L_subG H (by kernel_rfl) 23 _ rfl 1 rfl (0) rfl (a.own.map V8) (HOW.out) underlying23 rfl (HZo.out) ?_);simp only[pA]))
 all_goals (go_ret;exact⟨by simp[addrF,bne, *] <;> simp_all,H.out.1⟩)
set_option maxHeartbeats 6400000 in
theorem addressed30_any (a:As) (v:Value) (ha:a.own.length=6) (h:Hd) (ok:h.Ok) (w:World) :
  Calls prog 34 #[.agg (cellsA a v).toArray,.agg (cellsH h).toArray] w fun e w'=>e=.returned (.bool (addrF a h))∧Ext w w':=by
 have H:=kp (Loc.start w);have HOW:=kp (cellsA_own v ha);have HP1:=kp (pH1 ok);have HP2:=kp (pH2 ok);have HP3:=kp (pH3 ok);have HZo:=kp (sizeA8 ha);have HZ1:=kp (sizeA8 ok.l1);have HZ2:=kp (sizeA8 ok.l2);have HZ3:=kp (sizeA8 ok.l3);have he1:=neAddr h.a1 a.own ok.l1 ha;have he2:=eqAddr h.a2 a.own ok.l2 ha;have he3:=eqAddr h.a3 a.own ok.l3 ha;go_enter func34,ntmps34;go_wp2_with (first|((with_reducible refine isBx 2 26 ?_);(refine xBX H 26 (cellsA a v) ?_);clear H;intro g2 w2 HGg2 HEg2 H;simp only[pA])|(((with_reducible refine isBx 3 28 ?_);(refine xBX H 28 (cellsH h) ?_);clear H;intro g3 w3 HGg3 HEg3 H;simp only[pA]);have hc0:=run_load_cell H.out 0 rfl 0 _ rfl;have hc2:=run_load_cell H.out 0 rfl 2 _ rfl;have hc3:=run_load_cell H.out 0 rfl 3 _ rfl)|((with_reducible refine isLd 23 ?_);(refine L_subG H (by kernel_rfl) 23 _ rfl 0 rfl (10) rfl (h.a1.map V8) (HP1.out) underlying23 rfl (HZ1.out) ?_);simp only[pA])|((with_reducible refine isLd 23 ?_);(refine L_subG H (by kernel_rfl) 23 _ rfl 0 rfl (16) rfl (h.a2.map V8) (HP2.out) underlying23 rfl (HZ2.out) ?_);simp only[pA])|((with_reducible refine isLd 23 ?_);(refine L_subG H (by kernel_rfl) 23 _ rfl 0 rfl (22) rfl (h.a3.map V8) (HP3.out) underlying23 rfl (HZ3.out) ?_);simp only[pA])|((with_reducible refine isLd 23 ?_);(refine L_subG H (by kernel_rfl) 23 _ rfl 1 rfl (0) rfl (a.own.map V8) (HOW.out) underlying23 rfl (HZo.out) ?_);simp only[pA]))
 all_goals (go_ret;exact⟨by simp[addrF,bne, *] <;> simp_all,H.out.1⟩)
end Go.Proofs.YtfecopfofkdnpaaGreat
