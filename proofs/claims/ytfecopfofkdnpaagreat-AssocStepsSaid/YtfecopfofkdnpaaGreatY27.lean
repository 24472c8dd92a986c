/- Texts of this proof, put together: Hm3. -/
import Derived.Test.YtfecopfofkdnpaaGreatY19
import Derived.Test.YtfecopfofkdnpaaGreatY26
import Derived.Test.YtfecopfofkdnpaaGreatY1
namespace Go.Proofs.YtfecopfofkdnpaaGreat
open Go.RowKit Tryz
def fnV (f:Nat):Value:=.func (.func f) #[] #[]
def hks:List (Int × Value):=[(11,fnV 55),(0,fnV 56),(2,fnV 56),(10,fnV 57),(12,fnV 57)]
def es5:List MapEntry:=hks.zipIdx.map fun p=>⟨.int .u8 p.1.1,p.1.2,p.2⟩
def HMap (v:Value) (w:World):Prop:=∃ m,v=.map (some m)∧w.heap[m]?=some (.map es5.toArray es5.length)
theorem mono_HMap:MonoO [] HMap:=fun _ _ _ ⟨m,h1,h2⟩ ho=>⟨m,h1,by
 rw[ho.block m (Array.getElem?_eq_some_iff.1 h2).1 (by simp)];exact h2⟩
theorem chk_u8 (k:Int) (e:Bool) (w:World):(Instr.checkKey e 10000 5 (.int .u8 k)).run prog w=.ok () w:=by kernel_rfl
theorem find_none (k:Int) (es:List (Int × Value)) (h:∀ p∈es,k≠p.1) (w:World):(Instr.findKey 5 (.int .u8 k) (es.zipIdx.map fun p=>⟨.int .u8 p.1.1,p.1.2,p.2⟩)).run prog w=.ok none w:=by
 rw[find_u8 underlying5 k es w (fun n=>n)]
 have:es.zipIdx.find? (fun p=>k==p.1.1)=none:=List.find?_eq_none.2 fun p hp=>by
  have:=h p.1 (List.fst_mem_of_mem_zipIdx hp)
  simpa using this
 rw[this];rfl
theorem find_some (k:Int) (F:Nat) (i:Nat) (h:(hks.zipIdx.find? fun p=>k==p.1.1)=some ((k,fnV F),i)) (w:World):(Instr.findKey 5 (.int .u8 k) es5).run prog w=.ok (some (i,fnV F)) w:=by
 unfold es5;rw[find_u8 underlying5 k hks w (fun n=>n),h];rfl
theorem L_lk2 {P:Program} {ops:Array Oper} {rest:List Oper} {o:Oper} {a:Act} {w:World} {Q:Exit→Act→World→Prop} (hg:o.guard=none) (t:TypeId) (x y:Operand) (c:Bool) (ho:o.op=.lookup t x y c) (K E:TypeId) (hu:P.underlying t=some (.map K E)) {m:Nat} {es:List MapEntry} (hm:w.heap[m]?=some (.map es.toArray es.length)) (hx:a.eval x=.map (some m)) (k:Value) (hy:a.eval y=k)
  (hc:∀ b w,(Instr.checkKey b 10000 K k).run P w=.ok () w) (r:Option (Nat × Value)) (hf:∀ w,(Instr.findKey K k es).run P w=.ok r w) (z:Value) (hz:∀ w,(zeroValue E).run P w=.ok z w) (u:Value) (hv:(if c then .tuple #[(r.map (·.2)).getD z,.bool r.isSome] else (r.map (·.2)).getD z)=u)
  (h:wpList P ops Q rest (a.put o.dst u) w):wpList P ops Q (o::rest) a w:=by
 refine L_lk (w0:={ w with heap:=#[] }) hg t x y c ho K E hu (kp ⟨?_,hm⟩) hx k hy hc r hf z hz u hv h;exact Nat.zero_le _
theorem handlers_any (w:World):Calls prog 26 #[] w fun e w'=>∃ v,e=.returned v∧HMap v w'∧Ext w w':=by
 have H:=kp (Loc.start w);go_enter func26,ntmps26;go_wp2_with (first|((with_reducible show wpList _ _ _ (Oper.mk _ (Op.makeMap _ _) _ _ _ _::_) _ _);refine L_mk0 H rfl 67 rfl ?_;clear H;intro m wm HEm HM H;simp only[pA])|((with_reducible show wpList _ _ _ (Oper.mk _ (Op.insert _ _ (.const (.int .u8 11)) _) _ _ _ _::_) _ _);refine L_ins H rfl rfl 67 _ _ _ rfl _ _ underlying67 HM rfl (.int .u8 11) (fnV 55) rfl rfl (chk_u8 _ _) (fun _=>by kernel_rfl) ?_;clear H HM;intro wi HM H)|((with_reducible show wpList _ _ _ (Oper.mk _ (Op.insert _ _ (.const (.int .u8 0)) _) _ _ _ _::_) _ _);refine L_ins H rfl rfl 67 _ _ _ rfl _ _ underlying67 HM rfl (.int .u8 0) (fnV 56) rfl rfl (chk_u8 _ _) (fun _=>by kernel_rfl) ?_;clear H HM;intro wi HM H)|((with_reducible show wpList _ _ _ (Oper.mk _ (Op.insert _ _ (.const (.int .u8 2)) _) _ _ _ _::_) _ _);refine L_ins H rfl rfl 67 _ _ _ rfl _ _ underlying67 HM rfl (.int .u8 2) (fnV 56) rfl rfl (chk_u8 _ _) (fun _=>by kernel_rfl) ?_;clear H HM;intro wi HM H)|((with_reducible show wpList _ _ _ (Oper.mk _ (Op.insert _ _ (.const (.int .u8 10)) _) _ _ _ _::_) _ _);refine L_ins H rfl rfl 67 _ _ _ rfl _ _ underlying67 HM rfl (.int .u8 10) (fnV 57) rfl rfl (chk_u8 _ _) (fun _=>by kernel_rfl) ?_;clear H HM;intro wi HM H)|((with_reducible show wpList _ _ _ (Oper.mk _ (Op.insert _ _ (.const (.int .u8 12)) _) _ _ _ _::_) _ _);refine L_ins H rfl rfl 67 _ _ _ rfl _ _ underlying67 HM rfl (.int .u8 12) (fnV 57) rfl rfl (chk_u8 _ _) (fun _=>by kernel_rfl) ?_;clear H HM;intro wi HM H));go_ret;exact⟨_,rfl,⟨m,rfl,HM.out.2⟩,H.out.1⟩
end Go.Proofs.YtfecopfofkdnpaaGreat
