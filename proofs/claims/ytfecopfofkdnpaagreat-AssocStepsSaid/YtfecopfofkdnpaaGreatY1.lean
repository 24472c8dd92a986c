/- Texts of this proof, put together: Base, More, Flat, Laws. -/
import Derived.Tactics
import Derived.Tactics2
import Derived.WalkKit
import Derived.WalkSpells
import Derived.WalkLawsBesides
import Derived.KernelRfl
import Derived.Deep.QuietTactic
import Derived.Laws.Rows
import Derived.Deep.MidRow
import Derived.StillTail
import Derived.Deep.Quiet
import Derived.BigQuiet
import Derived.Laws.CopyOwn
import Derived.Laws.AppendOwn
import Derived.Laws.AppendOwnNone
import Derived.OwnWalk
import Derived.Lib.ConvBytes
import Derived.ProofKit
import Derived.ChangeKeysEq
import Derived.ArgAppend
import Derived.Laws.BitsAllLaws
import Derived.Deep.RegionLaw
import Derived.Deep.RegionHeld3
import Derived.Deep.DrawnRows
import Derived.Lib.SlicesDelete
import Derived.Lib.Bytealg
import Derived.Laws.Externs
import Derived.MapKept
import Derived.OpenShut
import Derived.ChangeArms
import Derived.Deep.Slices
import Derived.Lib.AppendZerosOnto
import Derived.RegionTactic
import Derived.Lib.Overlaps
import Derived.WalkMore
import Derived.Laws.BytesArg
namespace Go.Proofs.YtfecopfofkdnpaaGreat
open Go.RowKit
theorem szA {α:Type} {a x:α} {l:List α}:(a::l).set 0 x=x::l:=rfl
theorem ssA {α:Type} {a x:α} {l:List α} {n:Nat}:(a::l).set (n+1) x=a::l.set n x:=rfl
theorem sbA {α:Type} {l:List α} {i:Nat} {x:α}:l.toArray.setIfInBounds i x=(l.set i x).toArray:=List.setIfInBounds_toArray l i x
theorem pA:(∀ (a:Act) (d:Tmp) (v:Value),a.put (some d) v=⟨a.tmps.setIfInBounds d v,a.defers⟩)∧(∀ (a:Act) (v:Value),a.put none v=a)∧(∀ (l:List Value) (i:Nat) (v:Value),l.toArray.setIfInBounds i v=(l.set i v).toArray)∧(∀ (x v:Value) (l:List Value),(x::l).set 0 v=v::l)∧∀ (x v:Value) (l:List Value) (n:Nat),(x::l).set (n+1) v=x::l.set n v:=⟨fun _ _ _=>rfl,fun _ _=>rfl,fun l i v=>List.setIfInBounds_toArray l i v,fun _ _ _=>rfl,fun _ _ _ _=>rfl⟩
theorem isAl (d T:Nat) {P:Program} {ops:Array Oper} {rest:List Oper} {t:TypeId} {p:String} {f:Array Edge} {g:Option (Nat × Bool)} {a:Act} {w:World} {Q:Exit→Act→World→Prop} (h:wpList P ops Q (Oper.mk (some d) (Op.alloc T) t p f g::rest) a w):wpList P ops Q (Oper.mk (some d) (Op.alloc T) t p f g::rest) a w:=h
theorem isBx (d T:Nat) {P:Program} {ops:Array Oper} {rest:List Oper} {x:Operand} {t:TypeId} {p:String} {f:Array Edge} {g:Option (Nat × Bool)} {a:Act} {w:World} {Q:Exit→Act→World→Prop} (h:wpList P ops Q (Oper.mk (some d) (Op.box T x) t p f g::rest) a w):wpList P ops Q (Oper.mk (some d) (Op.box T x) t p f g::rest) a w:=h
theorem isLd (T:Nat) {P:Program} {ops:Array Oper} {rest:List Oper} {d:Option Tmp} {x:Operand} {t:TypeId} {p:String} {f:Array Edge} {g:Option (Nat × Bool)} {a:Act} {w:World} {Q:Exit→Act→World→Prop} (h:wpList P ops Q (Oper.mk d (Op.load T x) t p f g::rest) a w):wpList P ops Q (Oper.mk d (Op.load T x) t p f g::rest) a w:=h
theorem hsR {L D:List Tmp} {p:Tmp→Prop} (h:∀ d∈L,d∈D→p d) (d:Tmp) (hb:(L.contains d&&D.contains d)=true):p d:=by
 simp only[Bool.and_eq_true,List.contains_iff_mem] at hb;exact h d hb.1 hb.2
theorem rT {A:Type} {B C D:A→Prop} {E:Value→Prop} (h:∀ w,D w) (k:∀ v,E v):(∀ w,B w→C w→D w)∧∀ v,E v:=⟨fun w _ _=>h w,k⟩
theorem rO {A:Type} {B D:A→Prop} {E:Value→Prop} {L M:List Tmp} {p:A→Tmp→Prop} (d:Tmp) (hb:(L.contains d&&M.contains d)=true) (h:∀ w,p w d→D w) (k:∀ v,E v):(∀ w,B w→(∀ d∈L,d∈M→p w d)→D w)∧∀ v,E v:=⟨fun w _ s=>h w (hsR s d hb),k⟩
theorem rP {A:Type} {B D:A→Prop} {E:Value→Prop} {L M:List Tmp} {p:A→Tmp→Prop} (d e:Tmp) (hb:(L.contains d&&M.contains d)=true) (hc:(L.contains e&&M.contains e)=true) (h:∀ w,p w d→p w e→D w) (k:∀ v,E v):(∀ w,B w→(∀ d∈L,d∈M→p w d)→D w)∧∀ v,E v:=⟨fun w _ s=>h w (hsR s d hb) (hsR s e hc),k⟩
theorem rQ {A:Type} {B D:A→Prop} {E:Value→Prop} {L M:List Tmp} {p:A→Tmp→Prop} (d e f:Tmp) (hb:(L.contains d&&M.contains d)=true) (hc:(L.contains e&&M.contains e)=true) (hf:(L.contains f&&M.contains f)=true) (h:∀ w,p w d→p w e→p w f→D w) (k:∀ v,E v):(∀ w,B w→(∀ d∈L,d∈M→p w d)→D w)∧∀ v,E v:=⟨fun w _ s=>h w (hsR s d hb) (hsR s e hc) (hsR s f hf),k⟩
theorem isBd (D T:Nat) {P:Program} {ops:Array Oper} {rest:List Oper} {t:TypeId} {p:String} {f:Array Edge} {g:Option (Nat × Bool)} {a:Act} {w:World} {Q:Exit→Act→World→Prop} {ps:Array (Nat × Operand)} (h:wpList P ops Q (Oper.mk (some D) (Op.build T ps) t p f g::rest) a w):wpList P ops Q (Oper.mk (some D) (Op.build T ps) t p f g::rest) a w:=h
theorem isBs (D T:Nat) {P:Program} {ops:Array Oper} {rest:List Oper} {t:TypeId} {p:String} {f:Array Edge} {g:Option (Nat × Bool)} {a:Act} {w:World} {Q:Exit→Act→World→Prop} {n:Nat} {ps:Array (Nat × Operand)} (h:wpList P ops Q (Oper.mk (some D) (Op.buildSlice T n ps) t p f g::rest) a w):wpList P ops Q (Oper.mk (some D) (Op.buildSlice T n ps) t p f g::rest) a w:=h
theorem isSu (T D:Nat) {P:Program} {ops:Array Oper} {rest:List Oper} {t:TypeId} {p:String} {f:Array Edge} {g:Option (Nat × Bool)} {a:Act} {w:World} {Q:Exit→Act→World→Prop} {y:Operand} (h:wpList P ops Q (Oper.mk none (Op.store T (.tmp D) y) t p f g::rest) a w):wpList P ops Q (Oper.mk none (Op.store T (.tmp D) y) t p f g::rest) a w:=h
theorem isSv (T D:Nat) {P:Program} {ops:Array Oper} {rest:List Oper} {t:TypeId} {p:String} {f:Array Edge} {g:Option (Nat × Bool)} {a:Act} {w:World} {Q:Exit→Act→World→Prop} {x:Operand} (h:wpList P ops Q (Oper.mk none (Op.store T x (.tmp D)) t p f g::rest) a w):wpList P ops Q (Oper.mk none (Op.store T x (.tmp D)) t p f g::rest) a w:=h
theorem isAt (D:Nat) {P:Program} {ops:Array Oper} {rest:List Oper} {t:TypeId} {p:String} {f:Array Edge} {g:Option (Nat × Bool)} {a:Act} {w:World} {Q:Exit→Act→World→Prop} {r:Op} (h:wpList P ops Q (Oper.mk (some D) r t p f g::rest) a w):wpList P ops Q (Oper.mk (some D) r t p f g::rest) a w:=h
theorem isAp  {P:Program} {ops:Array Oper} {rest:List Oper} {t:TypeId} {p:String} {f:Array Edge} {g:Option (Nat × Bool)} {a:Act} {w:World} {Q:Exit→Act→World→Prop} {d:Option Tmp} {s:Array Operand} {u:Array TypeId} (h:wpList P ops Q (Oper.mk d (Op.call { callee:=.builtin .append,args:=s,argTypes:=u }) t p f g::rest) a w):wpList P ops Q (Oper.mk d (Op.call { callee:=.builtin .append,args:=s,argTypes:=u }) t p f g::rest) a w:=h
theorem isQl (T:Nat) {P:Program} {ops:Array Oper} {rest:List Oper} {x:Operand} {d:Option Tmp} {t:TypeId} {p:String} {f:Array Edge} {g:Option (Nat × Bool)} {a:Act} {C:World→Prop} {K:Act→Prop} (h:wpQuiet P ops C K (Oper.mk d (Op.load T x) t p f g::rest) a):wpQuiet P ops C K (Oper.mk d (Op.load T x) t p f g::rest) a:=h
theorem dR:(∀ (n:Nat) (x:Oper) (l:List Oper),(x::l).drop (n+1)=l.drop n)∧∀ l:List Oper,l.drop 0=l:=⟨fun _ _ _=>rfl,fun _=>rfl⟩
theorem tK:(∀ (n:Nat) (x:Oper) (l:List Oper),(x::l).take (n+1)=x::l.take n)∧∀ l:List Oper,l.take 0=[]:=⟨fun _ _ _=>rfl,fun _=>rfl⟩
abbrev eT (v:Value):Value→World→Prop:=fun x _=>x=v
theorem hF {L:List Tmp} {p:Tmp→Prop} (h:∀ d∈L,p d) (d:Tmp) (hb:L.contains d=true):p d:=h d (List.contains_iff_mem.1 hb)
theorem isSt (T:Nat) {P:Program} {ops:Array Oper} {rest:List Oper} {x y:Operand} {t:TypeId} {p:String} {f:Array Edge} {g:Option (Nat × Bool)} {a:Act} {w:World} {Q:Exit→Act→World→Prop} (h:wpList P ops Q (Oper.mk none (Op.store T x y) t p f g::rest) a w):wpList P ops Q (Oper.mk none (Op.store T x y) t p f g::rest) a w:=h
def Kp (p:Prop):Prop:=True→p
theorem kp {p:Prop} (h:p):Kp p:=fun _=>h
theorem Kp.out {p:Prop} (h:Kp p):p:=h trivial
def wI {n:Nat} (x:BitVec n):Int:=(x.toNat:Int)
abbrev V8 (x:BitVec 8):Value:=.int .u8 (wI x)
theorem wI_nonneg {n:Nat} (x:BitVec n):0≤wI x:=by unfold wI;omega
theorem wI_inj {n:Nat} (x y:BitVec n):(wI x=wI y)=(x=y):=by
 unfold wI;rw[Int.ofNat_inj];exact propext BitVec.toNat_inj
theorem wI_beq {n:Nat} (x y:BitVec n):(wI x==wI y)=(x==y):=by
 have h:(wI x=wI y)=(x=y):=wI_inj x y;rw[Bool.eq_iff_iff];simp only[beq_iff_eq];rw[h]
theorem wI_bne {n:Nat} (x y:BitVec n):(wI x != wI y)=(x != y):=by
 simp only[bne,wI_beq]
theorem wI_beq0 {n:Nat} (x:BitVec n):(wI x==0)=(x==0#n):=by
 have h:=wI_beq x 0#n;have h0:wI (0#n)=0:=by simp[wI]
 rw[h0] at h;exact h
theorem wI_xor8 (x y:BitVec 8):bits .xor .u8 (wI x) (wI y)=wI (x ^^^ y):=by
 unfold wI;rw[u8_xor_nat _ _ x.isLt y.isLt,BitVec.toNat_xor]
theorem wI_xor32 (x y:BitVec 32):bits .xor .u32 (wI x) (wI y)=wI (x ^^^ y):=by
 unfold wI;rw[u32_xor_nat _ _ x.isLt y.isLt,BitVec.toNat_xor]
theorem wI_or32 (x y:BitVec 32):bits .or .u32 (wI x) (wI y)=wI (x ||| y):=by
 unfold wI;rw[u32_or_nat _ _ x.isLt y.isLt,BitVec.toNat_or]
theorem wI_or64 (x y:BitVec 64):bits .or .u64 (wI x) (wI y)=wI (x ||| y):=by
 unfold wI;rw[u64_or_nat _ _ x.isLt y.isLt,BitVec.toNat_or]
theorem wI_and64 (x y:BitVec 64):bits .and .u64 (wI x) (wI y)=wI (x &&& y):=by
 unfold wI;rw[u64_and_nat _ _ x.isLt y.isLt,BitVec.toNat_and]
theorem wI_add32 (x y:BitVec 32):(wI x+wI y) % 4294967296=wI (x+y):=by
 unfold wI;rw[BitVec.toNat_add];omega
theorem wI_sub32 (x y:BitVec 32):(wI x-wI y) % 4294967296=wI (x-y):=by
 unfold wI;rw[BitVec.toNat_sub];have:=x.isLt;have:=y.isLt;omega
theorem wrap_u32 (n:Int):IntKind.u32.wrap n=n % 4294967296:=by simp[IntKind.wrap,IntKind.signed,IntKind.bits]
theorem wI_wadd32 (x y:BitVec 32):IntKind.u32.wrap (wI x+wI y)=wI (x+y):=by rw[wrap_u32,wI_add32]
theorem wI_wsub32 (x y:BitVec 32):IntKind.u32.wrap (wI x-wI y)=wI (x-y):=by rw[wrap_u32,wI_sub32]
theorem wI_shl32 (x:BitVec 32) (n:Nat):wI x*2 ^ n % 4294967296=wI (x <<< n):=by
 unfold wI;rw[BitVec.toNat_shiftLeft,Nat.shiftLeft_eq];simp
theorem wI_shr32 (x:BitVec 32) (n:Nat):wI x / 2 ^ n=wI (x >>> n):=by
 unfold wI;rw[BitVec.toNat_ushiftRight,Nat.shiftRight_eq_div_pow];simp
theorem wI_wid (x:BitVec 8):wI x % 4294967296=wI (x.setWidth 32):=by
 unfold wI;have:=x.isLt;rw[BitVec.toNat_setWidth];omega
theorem wI_wwid (x:BitVec 8):IntKind.u32.wrap (wI x)=wI (x.setWidth 32):=by rw[wrap_u32,wI_wid]
theorem wrap_u8 (n:Int):IntKind.u8.wrap n=n % 256:=by simp[IntKind.wrap,IntKind.signed,IntKind.bits]
theorem wI_low (x:BitVec 32):wI x % 256=wI (x.setWidth 8):=by
 unfold wI;rw[BitVec.toNat_setWidth];omega
theorem wI_wlow (x:BitVec 32):IntKind.u8.wrap (wI x)=wI (x.setWidth 8):=by rw[wrap_u8,wI_low]
attribute [go_sem] wI_beq0 wI_wid wI_wwid wI_low wI_wlow wI_shl32 wI_shr32 wI_xor8 wI_xor32 wI_or32 wI_or64 wI_and64 wI_add32 wI_sub32 wI_wadd32 wI_wsub32 wI_beq wI_bne
theorem wrap_u64 (n:Int):IntKind.u64.wrap n=n % 18446744073709551616:=by simp[IntKind.wrap,IntKind.signed,IntKind.bits]
theorem wI_shl64 (x:BitVec 64) (n:Nat):wI x*2 ^ n % 18446744073709551616=wI (x <<< n):=by
 unfold wI;rw[BitVec.toNat_shiftLeft,Nat.shiftLeft_eq];simp
theorem wI_shr64 (x:BitVec 64) (n:Nat):wI x / 2 ^ n=wI (x >>> n):=by
 unfold wI;rw[BitVec.toNat_ushiftRight,Nat.shiftRight_eq_div_pow];simp
theorem wI_wshl64 (x:BitVec 64) (n:Nat):IntKind.u64.wrap (wI x*2 ^ n)=wI (x <<< n):=by rw[wrap_u64,wI_shl64]
theorem wI_wone64 (n:Nat):IntKind.u64.wrap (2 ^ n)=wI (1#64 <<< n):=by
 rw[←wI_wshl64,show wI 1#64=1 from rfl,Int.one_mul]
theorem wI_wand1 (x:BitVec 64):bits .and .u64 (wI x) 1=wI (x &&& 1#64):=by
 rw[←wI_and64];rfl
theorem wI_beq1 (x:BitVec 64):(wI x==1)=(x==1#64):=wI_beq x 1#64
attribute [go_sem] wI_shl64 wI_shr64 wI_wshl64 wI_wone64 wI_wand1 wI_beq1
structure Xtra where
 blocks:Array Obj
 draws:Nat
instance:Inhabited Xtra:=⟨⟨#[],0⟩⟩
def more (w:World) (x:Xtra):World:={ w with heap:=w.heap++x.blocks,drawn:=x.draws }
section
variable (w:World) (x y:Xtra)
theorem more_size:(more w x).heap.size=w.heap.size+x.blocks.size:=by simp[more]
theorem more_heap (n:Nat) (h:n<w.heap.size):(more w x).heap[n]?=w.heap[n]?:=by
 simp[more,Array.getElem?_append_left h]
theorem more_cell (n i:Nat) (h:n<w.heap.size):(more w x).cell? ⟨n,i,none⟩=w.cell? ⟨n,i,none⟩:=
 World.cell?_of_block (w:=w) (more_heap w x n h)
theorem more_frozen (n i:Nat) (h:n<w.heap.size):(more w x).frozen? ⟨n,i,none⟩=w.frozen? ⟨n,i,none⟩:=
 World.frozen?_of_block (w:=w) (more_heap w x n h)
theorem more_setCell (n i:Nat) (v:Value) (h:n<w.heap.size):(more w x).setCell ⟨n,i,none⟩ v=more (w.setCell ⟨n,i,none⟩ v) x:=by
 unfold more World.setCell
 congr 1
 refine Array.ext_getElem? fun j=>?_;by_cases hj:j<w.heap.size
 ·rw[Array.getElem?_append_left (by simpa using hj)];simp only[Array.getElem?_modify];rw[Array.getElem?_append_left hj]
 ·rw[Array.getElem?_append_right (by simpa using hj)];simp only[Array.getElem?_modify,Array.size_modify];rw[if_neg (by omega),Array.getElem?_append_right (by omega)]
theorem more_more:more (more w x) y=more w ⟨x.blocks++y.blocks,y.draws⟩:=by simp[more,Array.append_assoc]
theorem more_drew:(more w x).drew=more w ⟨x.blocks,x.draws+1⟩:=rfl
theorem more_drewN (n:Nat):(more w x).drewN n=more w ⟨x.blocks,x.draws+n⟩:=rfl
theorem drew_more:w.drew=more w ⟨#[],w.drawn+1⟩:=by
 show World.mk w.heap w.tape (w.drawn+1) w.os w.output=World.mk (w.heap++#[]) w.tape (w.drawn+1) w.os w.output
 rw[Array.append_empty]
theorem drewN_more (n:Nat):w.drewN n=more w ⟨#[],w.drawn+n⟩:=by
 show World.mk w.heap w.tape (w.drawn+n) w.os w.output=World.mk (w.heap++#[]) w.tape (w.drawn+n) w.os w.output
 rw[Array.append_empty]
theorem more_self:w=more w ⟨#[],w.drawn⟩:=by simp[more]
theorem alloc_more (o:Obj):w.alloc o=more w ⟨#[o],w.drawn⟩:=by
 show World.mk (w.heap.push o) w.tape w.drawn w.os w.output=World.mk (w.heap++#[o]) w.tape w.drawn w.os w.output
 rw[Array.push_eq_append]
theorem more_tape:(more w x).tape=w.tape:=rfl
end
attribute [simp] more_size
attribute [go_sem] more_size more_cell more_frozen more_setCell more_more more_drew more_drewN more_tape more_heap
theorem ar_lt_0_1 (n b:Nat):n<n+1+b:=by omega
theorem ar_le_0_1 (n b:Nat):n≤n+1+b:=by omega
theorem ar_le_1_1 (n b:Nat):n+1≤n+1+b:=by omega
theorem ar_lt_0_2 (n b:Nat):n<n+1+1+b:=by omega
theorem ar_lt_1_2 (n b:Nat):n+1<n+1+1+b:=by omega
theorem ar_le_0_2 (n b:Nat):n≤n+1+1+b:=by omega
theorem ar_le_1_2 (n b:Nat):n+1≤n+1+1+b:=by omega
theorem ar_le_2_2 (n b:Nat):n+1+1≤n+1+1+b:=by omega
theorem ar_lt_0_3 (n b:Nat):n<n+1+1+1+b:=by omega
theorem ar_lt_1_3 (n b:Nat):n+1<n+1+1+1+b:=by omega
theorem ar_lt_2_3 (n b:Nat):n+1+1<n+1+1+1+b:=by omega
theorem ar_le_0_3 (n b:Nat):n≤n+1+1+1+b:=by omega
theorem ar_le_1_3 (n b:Nat):n+1≤n+1+1+1+b:=by omega
theorem ar_le_2_3 (n b:Nat):n+1+1≤n+1+1+1+b:=by omega
theorem ar_le_3_3 (n b:Nat):n+1+1+1≤n+1+1+1+b:=by omega
theorem ar_lt_0_4 (n b:Nat):n<n+1+1+1+1+b:=by omega
theorem ar_lt_1_4 (n b:Nat):n+1<n+1+1+1+1+b:=by omega
theorem ar_lt_2_4 (n b:Nat):n+1+1<n+1+1+1+1+b:=by omega
theorem ar_lt_3_4 (n b:Nat):n+1+1+1<n+1+1+1+1+b:=by omega
theorem ar_le_0_4 (n b:Nat):n≤n+1+1+1+1+b:=by omega
theorem ar_le_1_4 (n b:Nat):n+1≤n+1+1+1+1+b:=by omega
theorem ar_le_2_4 (n b:Nat):n+1+1≤n+1+1+1+1+b:=by omega
theorem ar_le_3_4 (n b:Nat):n+1+1+1≤n+1+1+1+1+b:=by omega
theorem ar_le_4_4 (n b:Nat):n+1+1+1+1≤n+1+1+1+1+b:=by omega
theorem ar_lt_0_5 (n b:Nat):n<n+1+1+1+1+1+b:=by omega
theorem ar_lt_1_5 (n b:Nat):n+1<n+1+1+1+1+1+b:=by omega
theorem ar_lt_2_5 (n b:Nat):n+1+1<n+1+1+1+1+1+b:=by omega
theorem ar_lt_3_5 (n b:Nat):n+1+1+1<n+1+1+1+1+1+b:=by omega
theorem ar_lt_4_5 (n b:Nat):n+1+1+1+1<n+1+1+1+1+1+b:=by omega
theorem ar_le_0_5 (n b:Nat):n≤n+1+1+1+1+1+b:=by omega
theorem ar_le_1_5 (n b:Nat):n+1≤n+1+1+1+1+1+b:=by omega
theorem ar_le_2_5 (n b:Nat):n+1+1≤n+1+1+1+1+1+b:=by omega
theorem ar_le_3_5 (n b:Nat):n+1+1+1≤n+1+1+1+1+1+b:=by omega
theorem ar_le_4_5 (n b:Nat):n+1+1+1+1≤n+1+1+1+1+1+b:=by omega
theorem ar_le_5_5 (n b:Nat):n+1+1+1+1+1≤n+1+1+1+1+1+b:=by omega
theorem ar_lt_0_6 (n b:Nat):n<n+1+1+1+1+1+1+b:=by omega
theorem ar_lt_1_6 (n b:Nat):n+1<n+1+1+1+1+1+1+b:=by omega
theorem ar_lt_2_6 (n b:Nat):n+1+1<n+1+1+1+1+1+1+b:=by omega
theorem ar_lt_3_6 (n b:Nat):n+1+1+1<n+1+1+1+1+1+1+b:=by omega
theorem ar_lt_4_6 (n b:Nat):n+1+1+1+1<n+1+1+1+1+1+1+b:=by omega
theorem ar_lt_5_6 (n b:Nat):n+1+1+1+1+1<n+1+1+1+1+1+1+b:=by omega
theorem ar_le_0_6 (n b:Nat):n≤n+1+1+1+1+1+1+b:=by omega
theorem ar_le_1_6 (n b:Nat):n+1≤n+1+1+1+1+1+1+b:=by omega
theorem ar_le_2_6 (n b:Nat):n+1+1≤n+1+1+1+1+1+1+b:=by omega
theorem ar_le_3_6 (n b:Nat):n+1+1+1≤n+1+1+1+1+1+1+b:=by omega
theorem ar_le_4_6 (n b:Nat):n+1+1+1+1≤n+1+1+1+1+1+1+b:=by omega
theorem ar_le_5_6 (n b:Nat):n+1+1+1+1+1≤n+1+1+1+1+1+1+b:=by omega
theorem ar_le_6_6 (n b:Nat):n+1+1+1+1+1+1≤n+1+1+1+1+1+1+b:=by omega
theorem ar_lt_0_1_1 (n b c:Nat):n<n+1+b+1+c:=by omega
theorem ar_lt_0_1_2 (n b c:Nat):n<n+1+b+1+1+c:=by omega
theorem ar_lt_0_1_3 (n b c:Nat):n<n+1+b+1+1+1+c:=by omega
theorem ar_lt_0_2_1 (n b c:Nat):n<n+1+1+b+1+c:=by omega
theorem ar_lt_1_2_1 (n b c:Nat):n+1<n+1+1+b+1+c:=by omega
theorem ar_lt_0_2_2 (n b c:Nat):n<n+1+1+b+1+1+c:=by omega
theorem ar_lt_1_2_2 (n b c:Nat):n+1<n+1+1+b+1+1+c:=by omega
theorem ar_lt_0_2_3 (n b c:Nat):n<n+1+1+b+1+1+1+c:=by omega
theorem ar_lt_1_2_3 (n b c:Nat):n+1<n+1+1+b+1+1+1+c:=by omega
theorem ar_lt_0_3_1 (n b c:Nat):n<n+1+1+1+b+1+c:=by omega
theorem ar_lt_1_3_1 (n b c:Nat):n+1<n+1+1+1+b+1+c:=by omega
theorem ar_lt_2_3_1 (n b c:Nat):n+1+1<n+1+1+1+b+1+c:=by omega
theorem ar_lt_0_3_2 (n b c:Nat):n<n+1+1+1+b+1+1+c:=by omega
theorem ar_lt_1_3_2 (n b c:Nat):n+1<n+1+1+1+b+1+1+c:=by omega
theorem ar_lt_2_3_2 (n b c:Nat):n+1+1<n+1+1+1+b+1+1+c:=by omega
theorem ar_lt_0_3_3 (n b c:Nat):n<n+1+1+1+b+1+1+1+c:=by omega
theorem ar_lt_1_3_3 (n b c:Nat):n+1<n+1+1+1+b+1+1+1+c:=by omega
theorem ar_lt_2_3_3 (n b c:Nat):n+1+1<n+1+1+1+b+1+1+1+c:=by omega
theorem ar_lt_0_4_1 (n b c:Nat):n<n+1+1+1+1+b+1+c:=by omega
theorem ar_lt_1_4_1 (n b c:Nat):n+1<n+1+1+1+1+b+1+c:=by omega
theorem ar_lt_2_4_1 (n b c:Nat):n+1+1<n+1+1+1+1+b+1+c:=by omega
theorem ar_lt_3_4_1 (n b c:Nat):n+1+1+1<n+1+1+1+1+b+1+c:=by omega
theorem ar_lt_0_4_2 (n b c:Nat):n<n+1+1+1+1+b+1+1+c:=by omega
theorem ar_lt_1_4_2 (n b c:Nat):n+1<n+1+1+1+1+b+1+1+c:=by omega
theorem ar_lt_2_4_2 (n b c:Nat):n+1+1<n+1+1+1+1+b+1+1+c:=by omega
theorem ar_lt_3_4_2 (n b c:Nat):n+1+1+1<n+1+1+1+1+b+1+1+c:=by omega
theorem ar_lt_0_4_3 (n b c:Nat):n<n+1+1+1+1+b+1+1+1+c:=by omega
theorem ar_lt_1_4_3 (n b c:Nat):n+1<n+1+1+1+1+b+1+1+1+c:=by omega
theorem ar_lt_2_4_3 (n b c:Nat):n+1+1<n+1+1+1+1+b+1+1+1+c:=by omega
theorem ar_lt_3_4_3 (n b c:Nat):n+1+1+1<n+1+1+1+1+b+1+1+1+c:=by omega
theorem ar_lt_0_5_1 (n b c:Nat):n<n+1+1+1+1+1+b+1+c:=by omega
theorem ar_lt_1_5_1 (n b c:Nat):n+1<n+1+1+1+1+1+b+1+c:=by omega
theorem ar_lt_2_5_1 (n b c:Nat):n+1+1<n+1+1+1+1+1+b+1+c:=by omega
theorem ar_lt_3_5_1 (n b c:Nat):n+1+1+1<n+1+1+1+1+1+b+1+c:=by omega
theorem ar_lt_4_5_1 (n b c:Nat):n+1+1+1+1<n+1+1+1+1+1+b+1+c:=by omega
theorem ar_lt_0_5_2 (n b c:Nat):n<n+1+1+1+1+1+b+1+1+c:=by omega
theorem ar_lt_1_5_2 (n b c:Nat):n+1<n+1+1+1+1+1+b+1+1+c:=by omega
theorem ar_lt_2_5_2 (n b c:Nat):n+1+1<n+1+1+1+1+1+b+1+1+c:=by omega
theorem ar_lt_3_5_2 (n b c:Nat):n+1+1+1<n+1+1+1+1+1+b+1+1+c:=by omega
theorem ar_lt_4_5_2 (n b c:Nat):n+1+1+1+1<n+1+1+1+1+1+b+1+1+c:=by omega
theorem ar_lt_0_5_3 (n b c:Nat):n<n+1+1+1+1+1+b+1+1+1+c:=by omega
theorem ar_lt_1_5_3 (n b c:Nat):n+1<n+1+1+1+1+1+b+1+1+1+c:=by omega
theorem ar_lt_2_5_3 (n b c:Nat):n+1+1<n+1+1+1+1+1+b+1+1+1+c:=by omega
theorem ar_lt_3_5_3 (n b c:Nat):n+1+1+1<n+1+1+1+1+1+b+1+1+1+c:=by omega
theorem ar_lt_4_5_3 (n b c:Nat):n+1+1+1+1<n+1+1+1+1+1+b+1+1+1+c:=by omega
attribute [simp] ar_lt_0_1 ar_le_0_1 ar_le_1_1 ar_lt_0_2 ar_lt_1_2 ar_le_0_2 ar_le_1_2 ar_le_2_2 ar_lt_0_3 ar_lt_1_3 ar_lt_2_3 ar_le_0_3 ar_le_1_3 ar_le_2_3 ar_le_3_3 ar_lt_0_4 ar_lt_1_4 ar_lt_2_4 ar_lt_3_4 ar_le_0_4 ar_le_1_4 ar_le_2_4 ar_le_3_4 ar_le_4_4 ar_lt_0_5 ar_lt_1_5 ar_lt_2_5 ar_lt_3_5 ar_lt_4_5 ar_le_0_5 ar_le_1_5 ar_le_2_5 ar_le_3_5 ar_le_4_5 ar_le_5_5 ar_lt_0_6 ar_lt_1_6 ar_lt_2_6 ar_lt_3_6 ar_lt_4_6 ar_lt_5_6 ar_le_0_6 ar_le_1_6 ar_le_2_6 ar_le_3_6 ar_le_4_6 ar_le_5_6 ar_le_6_6 ar_lt_0_1_1 ar_lt_0_1_2 ar_lt_0_1_3 ar_lt_0_2_1 ar_lt_1_2_1 ar_lt_0_2_2 ar_lt_1_2_2 ar_lt_0_2_3 ar_lt_1_2_3 ar_lt_0_3_1 ar_lt_1_3_1 ar_lt_2_3_1 ar_lt_0_3_2 ar_lt_1_3_2 ar_lt_2_3_2 ar_lt_0_3_3 ar_lt_1_3_3 ar_lt_2_3_3 ar_lt_0_4_1 ar_lt_1_4_1 ar_lt_2_4_1 ar_lt_3_4_1 ar_lt_0_4_2 ar_lt_1_4_2 ar_lt_2_4_2 ar_lt_3_4_2 ar_lt_0_4_3 ar_lt_1_4_3 ar_lt_2_4_3 ar_lt_3_4_3 ar_lt_0_5_1 ar_lt_1_5_1 ar_lt_2_5_1 ar_lt_3_5_1 ar_lt_4_5_1 ar_lt_0_5_2 ar_lt_1_5_2 ar_lt_2_5_2 ar_lt_3_5_2 ar_lt_4_5_2 ar_lt_0_5_3 ar_lt_1_5_3 ar_lt_2_5_3 ar_lt_3_5_3 ar_lt_4_5_3
def Ext (w w':World):Prop:=∃ x,w'=more w x
theorem Ext.refl (w:World):Ext w w:=⟨_,more_self w⟩
theorem Ext.drew (w:World):Ext w w.drew:=⟨_,drew_more w⟩
theorem Ext.drewN (w:World) (n:Nat):Ext w (w.drewN n):=⟨_,drewN_more w n⟩
theorem Ext.alloc (w:World) (o:Obj):Ext w (w.alloc o):=⟨_,alloc_more w o⟩
theorem Ext.more (w:World) (x:Xtra):Ext w (more w x):=⟨x,rfl⟩
theorem Ext.trans {a b c:World} (h:Ext a b) (k:Ext b c):Ext a c:=by
 obtain⟨x,rfl⟩:=h;obtain⟨y,rfl⟩:=k;exact⟨_,more_more _ _ _⟩
theorem Ext.below {w w':World} (h:Ext w w'):Below w.heap.size w w':=by
 obtain⟨x,rfl⟩:=h;exact⟨rfl,rfl,rfl,by rw[more_size];omega,fun k hk=>more_heap w x k hk⟩
theorem Ext.of_below {w w':World} (h:Below w.heap.size w w'):Ext w w':=by
 refine⟨⟨w'.heap.extract w.heap.size w'.heap.size,w'.drawn⟩,?_⟩
 have hh:w'.heap=w.heap++w'.heap.extract w.heap.size w'.heap.size:=by
  refine Array.ext_getElem? fun j=>?_;by_cases hj:j<w.heap.size
  ·rw[Array.getElem?_append_left hj,h.block j hj]
  ·rw[Array.getElem?_append_right (by omega),Array.getElem?_extract]
   split
   ·congr 1;omega
   ·rw[Array.getElem?_eq_none (by omega)]
 have h1:=h.os;have h2:=h.tape;have h3:=h.output;clear h;obtain⟨H,T,D,O,U⟩:=w';obtain⟨H',T',D',O',U'⟩:=w;dsimp only at h1 h2 h3 hh;subst h1 h2 h3
 show World.mk H _ D _ _=World.mk (H'++H.extract H'.size H.size) _ D _ _
 rw[←hh]
section
variable {P:Program} {ops:Array Oper}
def dsts (l:List Oper):List Tmp:=l.filterMap (·.dst)
theorem put_get (a:Act) (d:Tmp) (v:Value) (e:Tmp):(a.put (some d) v).tmps[e]?=if d=e then (if d<a.tmps.size then some v else none) else a.tmps[e]?:=by
 simp only[Act.put,Array.getElem?_setIfInBounds]
theorem put_size (a:Act) (d:Option Tmp) (v:Value):(a.put d v).tmps.size=a.tmps.size:=by cases d <;> simp[Act.put]
theorem put_defers (a:Act) (d:Option Tmp) (v:Value):(a.put d v).defers=a.defers:=by cases d <;> rfl
theorem put_other (a:Act) (d:Option Tmp) (v:Value) (e:Tmp) (h:d≠some e):(a.put d v).tmps[e]?=a.tmps[e]?:=by
 cases d with
 |none=>rfl
 |some d=>rw[put_get,if_neg (fun he=>h (by rw[he]))]
theorem quiet_keep {C:World→Prop} {A:Act}:∀ (l:List Oper) (a:Act),wpQuiet P ops C (fun a'=>a'=A) l a →
  A.tmps.size=a.tmps.size∧A.defers=a.defers∧∀ e,e∉dsts l→A.tmps[e]?=a.tmps[e]?
 |[],a,h=>by cases (show a=A from h);exact⟨rfl,rfl,fun _ _=>rfl⟩
 |o::l,a,h=>by
  unfold wpQuiet at h
  have key:∃ v,wpQuiet P ops C (fun a'=>a'=A) l (a.put o.dst v):=by
   split at h
   ·obtain⟨v,_,h2⟩:=h;exact⟨v,h2⟩
   ·exact⟨_,h⟩
  obtain⟨v,hv⟩:=key;obtain⟨h1,h2,h3⟩:=quiet_keep l _ hv;refine⟨by rw[h1,put_size],by rw[h2,put_defers],fun e he=>?_⟩;have he1:o.dst≠some e:=fun hd=>he (by simp[dsts,hd]);have he2:e∉dsts l:=fun hm=>he (by simp only[dsts,List.filterMap_cons] at hm ⊢;split <;> simp_all);rw[h3 e he2,put_other _ _ _ _ he1]
def FlatAt (P:Program) (ops:Array Oper) (C:World→Prop) (A:Act) (o:Oper):Prop:=
 ∃ v,(∀ d,o.dst=some d→d<A.tmps.size→A.tmps[d]?=some v) ∧
  ((Region.wanted o (yielded ops A.tmps)=true∧∀ w,C w→o.quietAt P A C w v)∨(Region.wanted o (yielded ops A.tmps)=false∧v=undef))
def topoB (ops:Array Oper):List Oper→Bool
 |[]=>true
 |o::l=>((o.looksAt ops).all fun d=>!(dsts (o::l)).contains d)&&(match o.dst with|some d=>!(dsts l).contains d|none=>true)&&topoB ops l
theorem eval_same {a A:Act} {o:Oper} (h:∀ d∈o.looksAt ops,a.tmps[d]?=A.tmps[d]?) (hs:∀ cs b,o.op≠.select cs b) :
  execOp a.eval o=execOp A.eval o∧Region.wanted o (yielded ops a.tmps)=Region.wanted o (yielded ops A.tmps):=by
 constructor
 ·refine execOp_congr o hs fun x hx=>?_;cases x with
  |tmp t =>
   have:=h t (List.mem_append_left _ (List.mem_filterMap.2 ⟨.tmp t,by simpa using hx,rfl⟩));simp[Act.eval,this]
  |_=>rfl
 ·unfold Region.wanted;cases hg:o.guard with
  |none=>rfl
  |some gw =>
   obtain⟨g,want⟩:=gw
   have:yielded ops a.tmps g=yielded ops A.tmps g:=by
    unfold yielded;cases ht:(ops[g]?).bind (·.dst) with
    |none=>rfl
    |some t =>
     have:=h t (by simp[Oper.looksAt,hg,ht]);simp[this]
   simp only[this]
theorem flat_of_walk {C:World→Prop} {A:Act} (hsel:∀ (j:Nat) (o:Oper) cs b,ops[j]?=some o→o.op≠.select cs b):∀ (l:List Oper) (a:Act),(∀ o∈l,∃ j:Nat,ops[j]?=some o)→topoB ops l=true →
  wpQuiet P ops C (fun a'=>a'=A) l a→∀ o∈l,FlatAt P ops C A o
 |[],_,_,_,_,o,ho=>by cases ho
 |o::l,a,hin,ht,h,o',ho'=>by
  have hk:=quiet_keep (o::l) a h;simp only[topoB,Bool.and_eq_true] at ht;obtain⟨⟨t1,t2⟩,t3⟩:=ht;unfold wpQuiet at h
  have key:∃ v,wpQuiet P ops C (fun a'=>a'=A) l (a.put o.dst v)∧((Region.wanted o (yielded ops a.tmps)=true∧∀ w,C w→o.quietAt P a C w v)∨(Region.wanted o (yielded ops a.tmps)=false∧v=undef)):=by
   split at h
   ·rename_i hw;obtain⟨v,h1,h2⟩:=h;exact⟨v,h2,.inl ⟨hw,h1⟩⟩
   ·rename_i hw;exact⟨_,h,.inr ⟨by simpa using hw,rfl⟩⟩
  obtain⟨v,hv,hc⟩:=key;rcases List.mem_cons.1 ho' with rfl|hm
  ·have hl:∀ d∈o'.looksAt ops,a.tmps[d]?=A.tmps[d]?:=fun d hd=>by
    have:=List.all_eq_true.1 t1 d hd;exact (hk.2.2 d (by simpa using this)).symm
   obtain⟨j,hj⟩:=hin o' (by simp);obtain⟨e1,e2⟩:=eval_same (ops:=ops) hl (fun cs b=>hsel j o' cs b hj);refine⟨v,fun d hd hlt=>?_,?_⟩
   ·rw[hd] at t2;have hk2:=quiet_keep l _ hv;rw[hk2.2.2 d (by simpa using t2),hd,put_get,if_pos rfl,if_pos (by rw[←hk.1];exact hlt)]
   ·rw[←e2];rcases hc with ⟨h1,h2⟩|h1
    ·exact .inl ⟨h1,fun w hw=>by have:=h2 w hw;unfold Oper.quietAt at *;rwa [←e1]⟩
    ·exact .inr h1
  ·exact flat_of_walk hsel l _ (fun x hx=>hin x (by simp[hx])) t3 hv o' hm
def flatB (ops:Array Oper) (n:Nat):Bool:=
 Region.noSelect ops&&decide (n≤ops.size)&&(decide (n<ops.size)&&Region.sinkB .any ops n&&Region.chainB .any ops n || decide (n=ops.size)) &&
 Region.seqB .any ops (ops.size-n) n ((List.replicate n true++List.replicate (ops.size-n) false).toArray) &&
 ((List.range n).all fun i=>match ops[i]? with
  |none=>false
  |some o=>(o.after.all fun e=>!Region.binds .any e || decide (e.on<i)) &&
   ((o.looksAt ops).all fun d=>(List.range n).all fun j=>match ops[j]? with
    |some oj=>oj.dst != some d || Region.waitsFor .any ops i j
    |none=>true))
theorem ext_heap {w w':World} (h:Ext w w') {b:Nat} {o:Obj} (hb:w.heap[b]?=some o):w'.heap[b]?=some o:=by
 obtain⟨x,rfl⟩:=h;rw[more_heap w x b (by rw[Array.getElem?_eq_some_iff] at hb;exact hb.1)];exact hb
def Cx (W:World) (x0:Xtra):World→Prop:=fun w'=>∃ x:Xtra,w'=more W ⟨x0.blocks++x.blocks,x.draws⟩
theorem cx_of_ext {W:World} {x0:Xtra} {w':World} (h:Ext (more W x0) w'):Cx W x0 w':=by
 obtain⟨y,rfl⟩:=h;exact⟨y,by rw[more_more]⟩
theorem ext_of_cx {W:World} {x0:Xtra} {w':World} (h:Cx W x0 w'):Ext (more W x0) w':=by
 obtain⟨y,rfl⟩:=h;exact⟨y,by rw[more_more]⟩
structure Inv (ops:Array Oper) (n iA dA:Nat) (Z:Obj) (W:World) (a0 A:Act) (rem:List Nat) (listed:Array Bool) (a:Act) (w:World):Prop where
 head:HeadInv .any ops n listed
 nodup:rem.Nodup
 lt:∀ j∈rem,j<n
 mem:∀ j,j<n→(listed.getD j false=true↔j∉rem)
 size:a.tmps.size=a0.tmps.size
 defers:a.defers=a0.defers
 done:∀ d,d≠dA→(∃ j o,j<n∧j∉rem∧ops[j]?=some o∧o.dst=some d)→a.tmps[d]?=A.tmps[d]?
 open_ : ∀ d, d ≠ dA → (∀ j o, j < n → j ∉ rem → ops[j]? = some o → o.dst ≠ some d) → a.tmps[d]? = a0.tmps[d]?
 ext:Ext W w
 made:iA<n→iA∉rem→∃ b,W.heap.size≤b∧w.heap[b]?=some Z∧a.tmps[dA]?=some (.pointer (some ⟨b,0,none⟩))
theorem Inv.step {n iA dA:Nat} {Z:Obj} {W:World} {a0 A:Act} {rem:List Nat} {listed:Array Bool} {a:Act} {w w':World} (inv:Inv ops n iA dA Z W a0 A rem listed a w)
  {i:Nat} {o:Oper} (hi:i∈Region.ready .any ops listed) (hin:i<n) (ho:ops[i]?=some o) (v:Value) (hext:Ext w w')
  (hv:∀ d,o.dst=some d→d≠dA→d<a0.tmps.size→A.tmps[d]?=some v) (hsz:A.tmps.size=a0.tmps.size)
  (hm:iA<n→iA∉rem.erase i→∃ b,W.heap.size≤b∧w'.heap[b]?=some Z∧(a.put o.dst v).tmps[dA]?=some (.pointer (some ⟨b,0,none⟩))) :
  Inv ops n iA dA Z W a0 A (rem.erase i) (listed.setIfInBounds i true) (a.put o.dst v) w':=by
 have hun:=(mem_ready.1 hi).1
 have hirem:i∈rem:=by
  rcases Classical.em (i∈rem) with h|h
  ·exact h
  ·have:=(inv.mem i hin).2 h;rw[getD_both hun] at this;cases this
 have hmem:∀ j,j<n→(j∉rem.erase i↔j∉rem∨j=i):=fun j _=>by
  rw[inv.nodup.mem_erase_iff]
  constructor
  ·intro h;by_cases hj:j=i
   ·exact .inr hj
   ·exact .inl fun hm=>h ⟨hj,hm⟩
  ·rintro (h|h) ⟨h1,h2⟩
   ·exact h h2
   ·exact h1 h
 have hlen:i<listed.size:=by
  rcases Nat.lt_or_ge i listed.size with h|h
  ·exact h
  ·simp[Array.getElem?_eq_none h] at hun
 refine⟨inv.head.set hi hin,inv.nodup.erase i,fun j hj=>inv.lt j (List.mem_of_mem_erase hj),fun j hj=>?_,by rw[put_size,inv.size],by rw[put_defers,inv.defers],fun d hd h=>?_,fun d hd h=>?_,inv.ext.trans hext,hm⟩
 ·rw[hmem j hj];by_cases hji:i=j
  ·subst hji;simp[hlen]
  ·rw[getD_set_ne false hji,inv.mem j hj];exact⟨fun h=>.inl h,fun h=>h.resolve_right fun e=>hji e.symm⟩
 ·obtain⟨j,oj,hj,hjr,hoj,hdj⟩:=h;by_cases hod:o.dst=some d
  ·rw[hod,put_get,if_pos rfl];by_cases hlt:d<a.tmps.size
   ·rw[if_pos hlt,hv d hod hd (by rw[←inv.size];exact hlt)]
   ·rw[if_neg hlt,Array.getElem?_eq_none (by rw[hsz,←inv.size];omega)]
  ·rw[put_other _ _ _ _ hod];refine inv.done d hd ⟨j,oj,hj,?_,hoj,hdj⟩;rcases (hmem j hj).1 hjr with h|h
   ·exact h
   ·subst h;rw[ho] at hoj;cases hoj;exact absurd hdj hod
 ·have hod:o.dst≠some d:=h i o hin ((hmem i hin).2 (.inr rfl)) ho;rw[put_other _ _ _ _ hod];exact inv.open_ d hd fun j oj hj hjr hoj=>h j oj hj ((hmem j hj).2 (.inl hjr)) hoj
def Fin (n iA dA:Nat) (Z:Obj) (W:World) (A a':Act) (w':World):Prop:=
 Ext W w'∧a'.tmps.size=A.tmps.size∧a'.defers=A.defers∧(∀ d,d≠dA→a'.tmps[d]?=A.tmps[d]?) ∧
 (iA<n→∃ b,W.heap.size≤b∧w'.heap[b]?=some Z∧a'.tmps[dA]?=some (.pointer (some ⟨b,0,none⟩)))
theorem flat_any {n iA dA:Nat} {Z:Obj} {W:World} {a0 A:Act} {Q:Exit→Act→World→Prop} (hB:flatB ops n=true)
  (hA:A.tmps.size=a0.tmps.size∧A.defers=a0.defers∧∀ d,(∀ j o,j<n→ops[j]?=some o→o.dst≠some d)→A.tmps[d]?=a0.tmps[d]?)
  (hq:∀ i o,i<n→i≠iA→ops[i]?=some o→∀ x0,FlatAt P ops (Cx W x0) A o)
  (hdA:∀ i o,i<n→i≠iA→ops[i]?=some o→o.dst≠some dA∧dA∉o.looksAt ops)
  (hmk:∀ o,iA<n→ops[iA]?=some o→o.dst=some dA∧o.guard=none∧dA<a0.tmps.size∧∀ (e:Operand→Value) (w:World),(execOp e o).run P w=.ok (.value (.pointer (some ⟨w.heap.size,0,none⟩))) (w.alloc Z))
  (ht:∀ a' w',Fin n iA dA Z W A a' w'→wpList P ops Q (ops.toList.drop n) a' w') :
  ∀ (f:Nat) (rem:List Nat) (listed:Array Bool) (a:Act) (w:World),rem.length=f→Inv ops n iA dA Z W a0 A rem listed a w→wpAny P .any ops Q (f+(ops.size-n)) listed a w:=by
 simp only[flatB,Bool.and_eq_true,Bool.or_eq_true,decide_eq_true_eq] at hB;obtain⟨⟨⟨⟨hsel,hn⟩,hsc⟩,hseq⟩,hhd⟩:=hB;have hselS:=Region.noSelect_spec hsel;intro f
 induction f with
 |zero =>
  intro rem listed a w hf inv;have hnil:rem=[]:=List.eq_nil_of_length_eq_zero hf;subst hnil
  have hlisted:listed=(List.replicate n true++List.replicate (ops.size-n) false).toArray:=by
   have hs:=inv.head.size;refine Array.ext (by simp[hs];omega) fun j h1 h2=>?_;rcases Nat.lt_or_ge j n with hj|hj
   ·have:=(inv.mem j hj).2 (by simp);simp[h1] at this;simp[this,hj,List.getElem_append_left]
   ·have:=inv.head.tail j hj (by rw[←hs];exact h1);simp[h1] at this;rw[this];simp only[List.getElem_toArray];rw[List.getElem_append_right (by simpa using hj)];simp
  have hfin:Fin n iA dA Z W A a w:=by
   refine⟨inv.ext,by rw[inv.size,hA.1],by rw[inv.defers,hA.2.1],fun d hd=>?_,fun h=>inv.made h (by simp)⟩;rcases Classical.em (∃ j o,j<n∧ops[j]?=some o∧o.dst=some d) with ⟨j,o,hj,hoj,hdj⟩|hno
   ·exact inv.done d hd ⟨j,o,hj,by simp,hoj,hdj⟩
   ·have h2:∀ j o,j<n→ops[j]?=some o→o.dst≠some d:=fun j o hj hoj hdj=>hno ⟨j,o,hj,hoj,hdj⟩;rw[inv.open_ d hd fun j o hj _ hoj=>h2 j o hj hoj,hA.2.2 d h2]
  have hl:(ops.toList.drop n).length=ops.size-n:=by simp
  have:=wpAny_of_seq (P:=P) (md:=.any) (Q':=Q) (ops:=ops) (ops.toList.drop n) n listed a w (fun j=>by simp[List.getElem?_drop]) (by rw[hl,hlisted];exact hseq) (ht a w hfin);rw[hl] at this;rw[Nat.zero_add];exact this
 |succ f ih =>
  intro rem listed a w hf inv
  have hne:∃ i,i∈rem:=by
   cases rem with
   |nil=>simp at hf
   |cons x l=>exact⟨x,by simp⟩
  have hpos:0<n:=by obtain⟨i,hi⟩:=hne;have:=inv.lt i hi;omega
  -- the least one that is not listed is ready
  have hleast:∀ k,(∃ i,i≤k∧i∈rem)→∃ i∈rem,∀ j∈rem,i≤j:=by
   intro k
   induction k with
   |zero=>rintro⟨i,hi,him⟩;exact⟨i,him,fun j _=>by omega⟩
   |succ k ihk =>
    rintro⟨i,hi,him⟩;rcases Classical.em (∃ i,i≤k∧i∈rem) with h|h
    ·exact ihk h
    ·refine⟨i,him,fun j hj=>?_⟩;rcases Nat.lt_or_ge j i with h'|h'
     ·exact absurd ⟨j,by omega,hj⟩ h
     ·exact h'
  obtain⟨i9,hi9⟩:=hne;obtain⟨i0,hi0,hmin⟩:=hleast i9 ⟨i9,Nat.le_refl _,hi9⟩;have hi0n:=inv.lt i0 hi0
  have hi0u:listed.getD i0 false=false:=by
   cases h:listed.getD i0 false with
   |false=>rfl
   |true=>exact absurd hi0 ((inv.mem i0 hi0n).1 h)
  have hi0s:i0<listed.size:=by rw[inv.head.size];omega
  have hrow:=fun i (hi:i<n)=>List.all_eq_true.1 hhd i (List.mem_range.2 hi)
  have hready:i0∈Region.ready .any ops listed:=by
   have hr:=hrow i0 hi0n;cases ho:ops[i0]? with
   |none=>simp[ho] at hr
   |some o =>
    simp only[ho,Bool.and_eq_true] at hr;refine mem_ready.2 ⟨getD_in hi0s hi0u,o,ho,fun e he hb=>?_⟩;have:=Array.all_eq_true'.1 hr.1 e he;simp[hb] at this;refine (inv.mem e.on (by omega)).2 fun hm=>?_;have:=hmin _ hm;omega
  rw[show f+1+(ops.size-n)=(f+(ops.size-n))+1 by omega];refine⟨fun h=>(by rw[h] at hready;cases hready),fun i hi=>?_⟩
  have hin:i<n:=by
   rcases Nat.lt_or_ge i n with h|h
   ·exact h
   ·rcases hsc with ⟨⟨hlt,hs⟩,hc⟩|heq
    ·exact absurd hi (tail_waits hs hc hlt inv.head _ i0 rfl hi0n (getD_in hi0s hi0u) i h)
    ·obtain⟨_,o,ho,_⟩:=mem_ready.1 hi;have:=(Array.getElem?_eq_some_iff.1 ho).1;omega
  obtain⟨hun,o,ho,hall⟩:=mem_ready.1 hi
  have hirem:i∈rem:=by
   rcases Classical.em (i∈rem) with h|h
   ·exact h
   ·have:=(inv.mem i hin).2 h;rw[getD_both hun] at this;cases this
  have hlen:(rem.erase i).length=f:=by rw[List.length_erase_of_mem hirem];omega
  have hkeep:∀ {w':World},Ext w w'→∀ v,i≠iA→iA<n→iA∉rem.erase i→∃ b,W.heap.size≤b∧w'.heap[b]?=some Z∧(a.put o.dst v).tmps[dA]?=some (.pointer (some ⟨b,0,none⟩)):=by
   intro w' hext v hiA hlt hnr;have hnr':iA∉rem:=fun hm=>hnr ((inv.nodup.mem_erase_iff).2 ⟨fun e=>hiA e.symm,hm⟩);obtain⟨b,h1,h2,h3⟩:=inv.made hlt hnr';exact⟨b,h1,ext_heap hext h2,by rw[put_other _ _ _ _ (hdA i o hin hiA ho).1];exact h3⟩
  unfold wpOp;simp only[ho];by_cases hiA:i=iA
  ·subst hiA;obtain⟨hd,hg,hlt,hrun⟩:=hmk o hin ho;rw[if_pos (by simp[Region.wanted,hg])];refine .inl ?_;unfold Oper.wp;rw[hrun a.eval w];refine ih (rem.erase i) _ _ _ hlen (inv.step hi hin ho _ (Ext.alloc w Z) (fun d hd' hne=>absurd (by rw[hd] at hd';exact (Option.some.inj hd').symm) hne) hA.1 fun _ _=>?_);refine⟨w.heap.size,?_,heap_alloc_new w Z,by rw[hd,put_get,if_pos rfl,if_pos (by rw[inv.size];exact hlt)]⟩;obtain⟨x,hx⟩:=inv.ext;rw[hx,more_size];omega
  ·have hl:∀ d∈o.looksAt ops,a.tmps[d]?=A.tmps[d]?:=fun d hd=>by
    have hdne:d≠dA:=fun e=>(hdA i o hin hiA ho).2 (e▸hd);have hr:=hrow i hin;simp only[ho,Bool.and_eq_true] at hr;have h2:=List.all_eq_true.1 hr.2 d hd;rcases Classical.em (∃ j oj,j<n∧ops[j]?=some oj∧oj.dst=some d) with ⟨j,oj,hj,hoj,hdj⟩|hno
    ·have h3:=List.all_eq_true.1 h2 j (List.mem_range.2 hj);simp only[hoj,hdj,Bool.or_eq_true] at h3
     have h4:Region.waitsFor .any ops i j=true:=by
      rcases h3 with h|h
      ·simp at h
      ·exact h
     obtain⟨oi,hoi,e,he,hb,hon⟩:=Region.waitsFor_spec h4;have:oi=o:=Option.some.inj (hoi.symm.trans ho);subst this;have:=hall e he hb;rw[hon] at this;exact inv.done d hdne ⟨j,oj,hj,(inv.mem j hj).1 this,hoj,hdj⟩
    ·have h3:∀ j o,j<n→ops[j]?=some o→o.dst≠some d:=fun j oj hj hoj hdj=>hno ⟨j,oj,hj,hoj,hdj⟩;rw[inv.open_ d hdne fun j oj hj _ hoj=>h3 j oj hj hoj,hA.2.2 d h3]
   obtain⟨e1,e2⟩:=eval_same (ops:=ops) hl (fun cs b=>hselS i o cs b ho);obtain⟨x,hx⟩:=inv.ext;obtain⟨v,hv,hcase⟩:=hq i o hin hiA ho x;rw[e2]
   have hstep:∀ w',Ext w w'→wpAny P .any ops Q (f+(ops.size-n)) (listed.setIfInBounds i true) (a.put o.dst v) w':=fun w' hext =>
    ih (rem.erase i) _ _ _ hlen (inv.step hi hin ho v hext (fun d hd _ hlt=>hv d hd (by rw[hA.1];exact hlt)) hA.1 (hkeep hext v hiA))
   rcases hcase with ⟨hw,hqa⟩|⟨hw,hvu⟩
   ·rw[if_pos hw];refine .inl ?_;have h3:=hqa w (cx_of_ext (by rw[hx];exact Ext.refl _));unfold Oper.quietAt at h3;rw[←e1] at h3;unfold Oper.wp;generalize (execOp a.eval o).run P w=r at *;cases r with
    |ok nx w' =>
     cases nx <;> simp only[Oper.quietUpon] at h3 <;> simp only[Oper.upon]
     case value u=>obtain⟨q1,q2⟩:=h3;rw[q1,q2];exact hstep w (Ext.refl w)
     case skip=>obtain⟨q1,q2⟩:=h3;rw[q1,←q2];exact hstep w (Ext.refl w)
     case enter fn args =>
      obtain⟨q1,hc⟩:=h3;rw[q1];exact hc.mono fun e w'' ⟨he,hw''⟩=>by subst he;exact hstep w'' (by have:=ext_of_cx hw'';rw[←hx] at this;exact this)
    |halt x' w'=>simp only[Oper.quietUpon] at h3
   ·rw[if_neg (by rw[hw];exact Bool.false_ne_true)];rw[←hvu];exact hstep w (Ext.refl w)
theorem inv_start {l:List Oper} {n iA dA:Nat} {Z:Obj} {a A:Act} {w:World}:Inv l.toArray n iA dA Z w a A (List.range n) (Array.replicate l.toArray.size false) a w.drew:=by
 refine⟨⟨by simp,fun j oj _ hl=>(by rw[getD_replicate_false] at hl;cases hl),fun t _ ht=>getD_in (by simpa using ht) (getD_replicate_false _ _)⟩,List.nodup_range,fun j hj=>List.mem_range.1 hj,fun j hj=>?_,rfl,rfl,fun d _ h=>?_,fun _ _ _=>rfl,Ext.drew w,fun h hn'=>?_⟩
 ·rw[getD_replicate_false];simp[hj]
 ·obtain⟨j,o,hj,hjr,_⟩:=h;exact absurd (List.mem_range.2 hj) hjr
 ·exact absurd (List.mem_range.2 h) hn'
theorem Inv.base {n iA dA:Nat} {Z:Obj} {W:World} {x:Xtra} {a0 A:Act} {rem:List Nat} {listed:Array Bool} {a:Act} {w:World} (inv:Inv ops n iA dA Z (more W x) a0 A rem listed a w):Inv ops n iA dA Z W a0 A rem listed a w:=
 ⟨inv.head,inv.nodup,inv.lt,inv.mem,inv.size,inv.defers,inv.done,inv.open_,(Ext.more W x).trans inv.ext,fun h1 h2=>by obtain⟨b,h3,h4⟩:=inv.made h1 h2;exact⟨b,by rw[more_size] at h3;omega,h4⟩⟩
theorem flatB_le {n:Nat} (h:flatB ops n=true):n≤ops.size:=by
 simp only[flatB,Bool.and_eq_true,decide_eq_true_eq] at h;exact h.1.1.1.2
theorem flatB_sel {n:Nat} (h:flatB ops n=true):Region.noSelect ops=true:=by
 simp only[flatB,Bool.and_eq_true] at h;exact h.1.1.1.1
theorem act_ext {a b:Act} (h1:a.defers=b.defers) (h2:∀ d:Nat,a.tmps[d]?=b.tmps[d]?):a=b:=by
 obtain⟨t,d⟩:=a;obtain⟨t',d'⟩:=b;simp only at h1 h2;rw[h1,Array.ext_getElem? h2]
def freshB (ops:Array Oper) (n iA dA:Nat):Bool:=
 (List.range n).all fun i=>match ops[i]? with
  |some o=>i==iA || (o.dst != some dA&&!(o.looksAt ops).contains dA)
  |none=>true
theorem freshB_spec {n iA dA:Nat} (h:freshB ops n iA dA=true):∀ i o,i<n→i≠iA→ops[i]?=some o→o.dst≠some dA∧dA∉o.looksAt ops:=by
 intro i o hi hne ho;have:=List.all_eq_true.1 h i (List.mem_range.2 hi);simp only[ho,Bool.or_eq_true,beq_iff_eq,Bool.and_eq_true,bne_iff_ne] at this;rcases this with h|h
 ·exact absurd h hne
 ·exact⟨h.1,by simpa using h.2⟩
theorem region_core {id:Nat} {Q:Exit→Act→World→Prop} {a:Act} {w:World} {l:List Oper} (n iA dA:Nat) (Z:Obj) (A:Act) (hm:P.follows .mixedOrders=true)
  (hB:flatB l.toArray n=true) (hT:topoB l.toArray ((l.take n).eraseIdx iA)=true) (hF:freshB l.toArray n iA dA=true)
  (hmk:∀ o,iA<n→l.toArray[iA]?=some o→o.dst=some dA∧o.guard=none∧dA<a.tmps.size∧∀ (e:Operand→Value) (w:World),(execOp e o).run P w=.ok (.value (.pointer (some ⟨w.heap.size,0,none⟩))) (w.alloc Z))
  (W:World) (hw:w=W∨∃ x00,w=more W x00)
  (h:∀ x0,wpQuiet P l.toArray (Cx W x0) (fun a'=>a'=A) ((l.take n).eraseIdx iA) a)
  (ht:∀ a' w',Fin n iA dA Z W A a' w'→wpList P l.toArray Q (l.drop n) a' w'):(Code.region id l.toArray true).wp P Q a w:=by
 have hn:=flatB_le hB;have hmem:∀ o,o∈(l.take n).eraseIdx iA→o∈l.take n:=fun o ho=>List.mem_of_mem_eraseIdx ho
 have hin:∀ (i:Nat) (o:Oper),i<n→i≠iA→l.toArray[i]?=some o→o∈(l.take n).eraseIdx iA:=fun i o hi hne ho=>by
  have:(l.take n)[i]?=some o:=by rw[List.getElem?_take,if_pos hi];simpa using ho
  exact List.mem_eraseIdx_iff_getElem?.2 ⟨i,hne,this⟩
 have hk:=quiet_keep ((l.take n).eraseIdx iA) a (h default)
 have hA:A.tmps.size=a.tmps.size∧A.defers=a.defers∧∀ d,(∀ (j:Nat) o,j<n→l.toArray[j]?=some o→o.dst≠some d)→A.tmps[d]?=a.tmps[d]?:=by
  refine⟨hk.1,hk.2.1,fun d hd=>hk.2.2 d fun hm=>?_⟩;simp only[dsts,List.mem_filterMap] at hm;obtain⟨o,ho,hod⟩:=hm;obtain⟨j,hj⟩:=List.getElem?_of_mem (hmem o ho);rw[List.getElem?_take] at hj
  split at hj
  ·rename_i hlt;exact hd j o hlt (by simpa using hj) hod
  ·cases hj
 refine wp_region_any hm ?_
 have H:=flat_any (P:=P) (ops:=l.toArray) (n:=n) (iA:=iA) (dA:=dA) (Z:=Z) (W:=W) (a0:=a) (A:=A) (Q:=Q) hB hA
  (fun i o hi hne ho x0=>flat_of_walk (Region.noSelect_spec (flatB_sel hB)) ((l.take n).eraseIdx iA) a (fun o' ho'=>by
   obtain⟨j,hj⟩:=List.getElem?_of_mem (List.mem_of_mem_take (hmem o' ho'));exact⟨j,by simpa using hj⟩) hT (h x0) o (hin i o hi hne ho))
  (freshB_spec hF) hmk (by simpa using ht) n (List.range n) (Array.replicate l.toArray.size false) a w.drew (by simp)
  (by
   rcases hw with rfl|⟨x00,rfl⟩
   ·exact inv_start
   ·exact inv_start.base)
 rw[show n+(l.toArray.size-n)=l.toArray.size by omega] at H;exact H
theorem region_f {id:Nat} {Q:Exit→Act→World→Prop} {a:Act} {w:World} {l:List Oper} (n:Nat) (hm:P.follows .mixedOrders=true)
  (hB:flatB l.toArray n=true) (hT:topoB l.toArray (l.take n)=true) (hF:freshB l.toArray n 1000 100000=true) (hN:n≤1000) (hS:a.tmps.size≤100000)
  (h:∃ A,(∀ x0,wpQuiet P l.toArray (Cx w x0) (fun a'=>a'=A) (l.take n) a)∧∀ x,wpList P l.toArray Q (l.drop n) A (more w x)):(Code.region id l.toArray true).wp P Q a w:=by
 obtain⟨A,h,ht⟩:=h;have he:(l.take n).eraseIdx 1000=l.take n:=List.eraseIdx_of_length_le (by simp;omega);refine region_core n 1000 100000 (.cells #[] 0) A hm hB (by rw[he];exact hT) hF (fun _ hlt=>absurd hlt (by omega)) w (.inl rfl) (by rw[he];exact h) fun a' w' hf=>?_;obtain⟨⟨x,rfl⟩,h2,h3,h4,_⟩:=hf;have hk:=quiet_keep _ a (h default)
 have:a'=A:=act_ext h3 fun d=>by
  by_cases hd:d=100000
  ·subst hd;rw[Array.getElem?_eq_none (by rw[h2,hk.1];exact hS),Array.getElem?_eq_none (by rw[hk.1];exact hS)]
  ·exact h4 d hd
 rw[this];exact ht x
theorem Calls.cx_of {P:Program} {f:FuncId} {args:Array Value} {w:World} {x0 x:Xtra} {v:Value}
  (h:Calls P f args (more w ⟨x0.blocks++x.blocks,x.draws⟩) fun e w'=>e=.returned v∧Ext (more w ⟨x0.blocks++x.blocks,x.draws⟩) w') :
  Calls P f args (more w ⟨x0.blocks++x.blocks,x.draws⟩) fun e w''=>e=.returned v∧∃ y:Xtra,w''=more w ⟨x0.blocks++y.blocks,y.draws⟩:=
 h.mono fun _ _ ⟨he,y,hy⟩=>⟨he,⟨x.blocks++y.blocks,y.draws⟩,hy.trans (by rw[more_more];simp[Array.append_assoc])⟩
end
theorem mem_V8 (l:List (BitVec 8)):∀ v∈l.map V8,v.oneCell'=true:=by simp[Value.oneCell']
section
variable {P:Program}
theorem hp_at (w:World) (o:Obj) (n:Nat) (h:n=w.heap.size):(w.alloc o).heap[n]?=some o:=by subst h;exact heap_alloc_new w o
theorem hp_past (w:World) (o:Obj) (n:Nat) (h:n<w.heap.size):(w.alloc o).heap[n]?=w.heap[n]?:=heap_alloc_old w o h
theorem hp_new (w:World) (o:Obj):(w.alloc o).heap[w.heap.size]?=some o:=heap_alloc_new w o
theorem setRow_at (w:World) (c c':Array Value) (t:TypeId) (fr:Nat × Nat) (n:Nat) (h:n=w.heap.size):(w.alloc (.cells c t fr)).setRow n c'=w.alloc (.cells c' t fr):=by
 subst h
 show World.mk ((w.heap.push _).modify _ _) _ _ _ _=World.mk (w.heap.push _) _ _ _ _
 congr 1
 refine Array.ext_getElem? fun j=>?_;simp only[Array.getElem?_modify,Array.getElem?_push];by_cases hj:j=w.heap.size
 ·subst hj;simp
 ·rw[if_neg (fun e=>hj e.symm)];simp[hj]
theorem setRow_past (w:World) (o:Obj) (c':Array Value) (n:Nat) (h:n<w.heap.size):(w.alloc o).setRow n c'=(w.setRow n c').alloc o:=by
 show World.mk ((w.heap.push _).modify _ _) _ _ _ _=World.mk ((w.heap.modify _ _).push _) _ _ _ _
 congr 1
 refine Array.ext_getElem? fun j=>?_;simp only[Array.getElem?_modify,Array.getElem?_push,Array.size_modify];by_cases hj:j=w.heap.size
 ·subst hj;rw[if_neg (by omega)];simp
 ·simp[hj]
theorem setRow_more (w:World) (x:Xtra) (c':Array Value) (n:Nat) (h:n<w.heap.size):(more w x).setRow n c'=more (w.setRow n c') x:=by
 unfold more World.setRow
 congr 1
 refine Array.ext_getElem? fun j=>?_;by_cases hj:j<w.heap.size
 ·rw[Array.getElem?_append_left (by simpa using hj)];simp only[Array.getElem?_modify];rw[Array.getElem?_append_left hj]
 ·rw[Array.getElem?_append_right (by simpa using hj)];simp only[Array.getElem?_modify,Array.size_modify];rw[if_neg (by omega),Array.getElem?_append_right (by omega)]
attribute [go_sem] hp_at hp_past setRow_at setRow_past setRow_more
theorem wpList_st_row {ops:Array Oper} {rest:List Oper} {o:Oper} {a:Act} {w w':World} {Q:Exit→Act→World→Prop} (hgd:o.guard=none) (hdst:o.dst=none) (ty:TypeId) (x y:Operand) (ho:o.op=.store ty x y)
  (g:Nat) (cells:Array Value) (hx:a.eval x=.pointer (some ⟨g,0,none⟩)) (hy:a.eval y=.agg cells)
  (t:TypeId) (old:Array Value) (hg:w.heap[g]?=some (.cells old t (0,0))) (hi:(P.info? ty).map (·.size)=some cells.size)
  (hold:old.size=cells.size) (h1:cells.all (·.oneCell')=true) (hw:w.setRow g cells=w')
  (h:wpList P ops Q rest a w'):wpList P ops Q (o::rest) a w:=by
 refine wpList_store_row hgd ty x y ho g cells hx hy t old hg hi hold h1 ?_;rw[hw,hdst];exact h
theorem ret_row {fn:Func} {R:Ending→World→Prop} {a:Act} {w:World} {p:Tmp} {ty:TypeId} (h:fn.results=#[.cell p ty]) (g:Nat) (t:TypeId) (cs:Array Value) (fr:Nat × Nat) (d:TypeDesc)
  (hp:a.tmps.getD p undef=.pointer (some ⟨g,0,none⟩)) (hg:w.heap[g]?=some (.cells cs t fr))
  (hu:P.underlying ty=some d) (hd:(match d with|.struct _|.array _ _=>true|_=>false)=true) (hi:(P.info? ty).map (·.size)=some cs.size)
  (hdf:a.defers=[]) (hR:R (.returned (.agg cs)) w):bodyPost P fn R .ret a w:=
 bodyPost_ret (results_cell_row h a.tmps w g t cs fr d hp hg hu hd hi) hdf hR
end
end Go.Proofs.YtfecopfofkdnpaaGreat
