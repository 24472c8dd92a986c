/- Texts of this proof, put together: Base, More. -/
import Derived.Tactics
import Derived.Tactics2
import Derived.WalkKit
import Derived.WalkSpells
import Derived.WalkLawsBesides
import Derived.KernelRfl
import Derived.Deep.QuietTactic
import Derived.Laws.Rows
import Derived.Deep.MidRow
import Derived.StillTail
import Derived.Deep.Quiet
import Derived.BigQuiet
import Derived.Laws.CopyOwn
import Derived.Laws.AppendOwn
import Derived.Laws.AppendOwnNone
import Derived.OwnWalk
import Derived.Lib.ConvBytes
import Derived.ProofKit
import Derived.ChangeKeysEq
import Derived.MapKept
import Derived.ArgAppend
import Derived.Laws.BitsAllLaws
import Derived.Deep.RegionLaw
import Derived.Deep.RegionHeld3
import Derived.Deep.DrawnRows
import Derived.Lib.SlicesDelete
import Derived.OpenShut
import Derived.ChangeArms
import Derived.Deep.Slices
import Derived.Lib.Bytealg
import Derived.Laws.Externs
import Derived.Lib.AppendZerosOnto
import Derived.RegionTactic
import Derived.Lib.Overlaps
import Derived.WalkMore
namespace Go.Proofs.Ytfecopfofkdnpaa
open Go.RowKit
theorem szA {α : Type} {a x : α} {l : List α} : (a :: l).set 0 x = x :: l := rfl
theorem ssA {α : Type} {a x : α} {l : List α} {n : Nat} : (a :: l).set (n + 1) x = a :: l.set n x := rfl
theorem sbA {α : Type} {l : List α} {i : Nat} {x : α} : l.toArray.setIfInBounds i x = (l.set i x).toArray := List.setIfInBounds_toArray l i x
theorem pA : (∀ (a : Act) (d : Tmp) (v : Value), a.put (some d) v = ⟨a.tmps.setIfInBounds d v, a.defers⟩) ∧ (∀ (a : Act) (v : Value), a.put none v = a) ∧ (∀ (l : List Value) (i : Nat) (v : Value), l.toArray.setIfInBounds i v = (l.set i v).toArray) ∧ (∀ (x v : Value) (l : List Value), (x :: l).set 0 v = v :: l) ∧ ∀ (x v : Value) (l : List Value) (n : Nat), (x :: l).set (n + 1) v = x :: l.set n v := ⟨fun _ _ _ => rfl, fun _ _ => rfl, fun l i v => List.setIfInBounds_toArray l i v, fun _ _ _ => rfl, fun _ _ _ _ => rfl⟩
theorem isAl (d T : Nat) {P : Program} {ops : Array Oper} {rest : List Oper} {t : TypeId} {p : String} {f : Array Edge} {g : Option (Nat × Bool)} {a : Act} {w : World} {Q : Exit → Act → World → Prop} (h : wpList P ops Q (Oper.mk (some d) (Op.alloc T) t p f g :: rest) a w) : wpList P ops Q (Oper.mk (some d) (Op.alloc T) t p f g :: rest) a w := h
theorem isBx (d T : Nat) {P : Program} {ops : Array Oper} {rest : List Oper} {x : Operand} {t : TypeId} {p : String} {f : Array Edge} {g : Option (Nat × Bool)} {a : Act} {w : World} {Q : Exit → Act → World → Prop} (h : wpList P ops Q (Oper.mk (some d) (Op.box T x) t p f g :: rest) a w) : wpList P ops Q (Oper.mk (some d) (Op.box T x) t p f g :: rest) a w := h
theorem isLd (T : Nat) {P : Program} {ops : Array Oper} {rest : List Oper} {d : Option Tmp} {x : Operand} {t : TypeId} {p : String} {f : Array Edge} {g : Option (Nat × Bool)} {a : Act} {w : World} {Q : Exit → Act → World → Prop} (h : wpList P ops Q (Oper.mk d (Op.load T x) t p f g :: rest) a w) : wpList P ops Q (Oper.mk d (Op.load T x) t p f g :: rest) a w := h
theorem hsR {L D : List Tmp} {p : Tmp → Prop} (h : ∀ d ∈ L, d ∈ D → p d) (d : Tmp) (hb : (L.contains d && D.contains d) = true) : p d := by
 simp only [Bool.and_eq_true, List.contains_iff_mem] at hb
 exact h d hb.1 hb.2
theorem isSt (T : Nat) {P : Program} {ops : Array Oper} {rest : List Oper} {x y : Operand} {t : TypeId} {p : String} {f : Array Edge} {g : Option (Nat × Bool)} {a : Act} {w : World} {Q : Exit → Act → World → Prop} (h : wpList P ops Q (Oper.mk none (Op.store T x y) t p f g :: rest) a w) : wpList P ops Q (Oper.mk none (Op.store T x y) t p f g :: rest) a w := h
def Kp (p : Prop) : Prop := True → p
theorem kp {p : Prop} (h : p) : Kp p := fun _ => h
theorem Kp.out {p : Prop} (h : Kp p) : p := h trivial
def wI {n : Nat} (x : BitVec n) : Int := (x.toNat : Int)
abbrev V8 (x : BitVec 8) : Value := .int .u8 (wI x)
theorem wI_inj {n : Nat} (x y : BitVec n) : (wI x = wI y) = (x = y) := by
 unfold wI; rw [Int.ofNat_inj]; exact propext BitVec.toNat_inj
theorem wI_beq {n : Nat} (x y : BitVec n) : (wI x == wI y) = (x == y) := by
 have h : (wI x = wI y) = (x = y) := wI_inj x y
 rw [Bool.eq_iff_iff]; simp only [beq_iff_eq]; rw [h]
theorem wI_bne {n : Nat} (x y : BitVec n) : (wI x != wI y) = (x != y) := by
 simp only [bne, wI_beq]
theorem wI_beq0 {n : Nat} (x : BitVec n) : (wI x == 0) = (x == 0#n) := by
 have h := wI_beq x 0#n
 have h0 : wI (0#n) = 0 := by simp [wI]
 rw [h0] at h; exact h
theorem wI_xor8 (x y : BitVec 8) : bits .xor .u8 (wI x) (wI y) = wI (x ^^^ y) := by
 unfold wI; rw [u8_xor_nat _ _ x.isLt y.isLt, BitVec.toNat_xor]
theorem wI_xor32 (x y : BitVec 32) : bits .xor .u32 (wI x) (wI y) = wI (x ^^^ y) := by
 unfold wI; rw [u32_xor_nat _ _ x.isLt y.isLt, BitVec.toNat_xor]
theorem wI_or32 (x y : BitVec 32) : bits .or .u32 (wI x) (wI y) = wI (x ||| y) := by
 unfold wI; rw [u32_or_nat _ _ x.isLt y.isLt, BitVec.toNat_or]
theorem wI_or64 (x y : BitVec 64) : bits .or .u64 (wI x) (wI y) = wI (x ||| y) := by
 unfold wI; rw [u64_or_nat _ _ x.isLt y.isLt, BitVec.toNat_or]
theorem wI_and64 (x y : BitVec 64) : bits .and .u64 (wI x) (wI y) = wI (x &&& y) := by
 unfold wI; rw [u64_and_nat _ _ x.isLt y.isLt, BitVec.toNat_and]
theorem wI_add32 (x y : BitVec 32) : (wI x + wI y) % 4294967296 = wI (x + y) := by
 unfold wI; rw [BitVec.toNat_add]; omega
theorem wI_sub32 (x y : BitVec 32) : (wI x - wI y) % 4294967296 = wI (x - y) := by
 unfold wI; rw [BitVec.toNat_sub]; have := x.isLt; have := y.isLt; omega
theorem wrap_u32 (n : Int) : IntKind.u32.wrap n = n % 4294967296 := by simp [IntKind.wrap, IntKind.signed, IntKind.bits]
theorem wI_wadd32 (x y : BitVec 32) : IntKind.u32.wrap (wI x + wI y) = wI (x + y) := by rw [wrap_u32, wI_add32]
theorem wI_wsub32 (x y : BitVec 32) : IntKind.u32.wrap (wI x - wI y) = wI (x - y) := by rw [wrap_u32, wI_sub32]
theorem wI_shl32 (x : BitVec 32) (n : Nat) : wI x * 2 ^ n % 4294967296 = wI (x <<< n) := by
 unfold wI; rw [BitVec.toNat_shiftLeft, Nat.shiftLeft_eq]; simp
theorem wI_shr32 (x : BitVec 32) (n : Nat) : wI x / 2 ^ n = wI (x >>> n) := by
 unfold wI; rw [BitVec.toNat_ushiftRight, Nat.shiftRight_eq_div_pow]; simp
theorem wI_wid (x : BitVec 8) : wI x % 4294967296 = wI (x.setWidth 32) := by
 unfold wI; have := x.isLt; rw [BitVec.toNat_setWidth]; omega
theorem wI_wwid (x : BitVec 8) : IntKind.u32.wrap (wI x) = wI (x.setWidth 32) := by rw [wrap_u32, wI_wid]
theorem wrap_u8 (n : Int) : IntKind.u8.wrap n = n % 256 := by simp [IntKind.wrap, IntKind.signed, IntKind.bits]
theorem wI_low (x : BitVec 32) : wI x % 256 = wI (x.setWidth 8) := by
 unfold wI; rw [BitVec.toNat_setWidth]; omega
theorem wI_wlow (x : BitVec 32) : IntKind.u8.wrap (wI x) = wI (x.setWidth 8) := by rw [wrap_u8, wI_low]
attribute [go_sem] wI_beq0 wI_wid wI_wwid wI_low wI_wlow wI_shl32 wI_shr32 wI_xor8 wI_xor32 wI_or32 wI_or64 wI_and64 wI_add32 wI_sub32 wI_wadd32 wI_wsub32 wI_beq wI_bne
theorem wrap_u64 (n : Int) : IntKind.u64.wrap n = n % 18446744073709551616 := by simp [IntKind.wrap, IntKind.signed, IntKind.bits]
theorem wI_shl64 (x : BitVec 64) (n : Nat) : wI x * 2 ^ n % 18446744073709551616 = wI (x <<< n) := by
 unfold wI; rw [BitVec.toNat_shiftLeft, Nat.shiftLeft_eq]; simp
theorem wI_shr64 (x : BitVec 64) (n : Nat) : wI x / 2 ^ n = wI (x >>> n) := by
 unfold wI; rw [BitVec.toNat_ushiftRight, Nat.shiftRight_eq_div_pow]; simp
theorem wI_wshl64 (x : BitVec 64) (n : Nat) : IntKind.u64.wrap (wI x * 2 ^ n) = wI (x <<< n) := by rw [wrap_u64, wI_shl64]
theorem wI_wone64 (n : Nat) : IntKind.u64.wrap (2 ^ n) = wI (1#64 <<< n) := by
 rw [← wI_wshl64, show wI 1#64 = 1 from rfl, Int.one_mul]
theorem wI_wand1 (x : BitVec 64) : bits .and .u64 (wI x) 1 = wI (x &&& 1#64) := by
 rw [← wI_and64]; rfl
theorem wI_beq1 (x : BitVec 64) : (wI x == 1) = (x == 1#64) := wI_beq x 1#64
attribute [go_sem] wI_shl64 wI_shr64 wI_wshl64 wI_wone64 wI_wand1 wI_beq1
structure Xtra where
 blocks : Array Obj
 draws : Nat
instance : Inhabited Xtra := ⟨⟨#[], 0⟩⟩
def more (w : World) (x : Xtra) : World := { w with heap := w.heap ++ x.blocks, drawn := x.draws }
section
variable (w : World) (x y : Xtra)
theorem more_size : (more w x).heap.size = w.heap.size + x.blocks.size := by simp [more]
theorem more_heap (n : Nat) (h : n < w.heap.size) : (more w x).heap[n]? = w.heap[n]? := by
 simp [more, Array.getElem?_append_left h]
theorem more_cell (n i : Nat) (h : n < w.heap.size) : (more w x).cell? ⟨n, i, none⟩ = w.cell? ⟨n, i, none⟩ :=
 World.cell?_of_block (w := w) (more_heap w x n h)
theorem more_frozen (n i : Nat) (h : n < w.heap.size) : (more w x).frozen? ⟨n, i, none⟩ = w.frozen? ⟨n, i, none⟩ :=
 World.frozen?_of_block (w := w) (more_heap w x n h)
theorem more_setCell (n i : Nat) (v : Value) (h : n < w.heap.size) : (more w x).setCell ⟨n, i, none⟩ v = more (w.setCell ⟨n, i, none⟩ v) x := by
 unfold more World.setCell
 congr 1
 refine Array.ext_getElem? fun j => ?_
 by_cases hj : j < w.heap.size
 ·rw [Array.getElem?_append_left (by simpa using hj)]
  simp only [Array.getElem?_modify]
  rw [Array.getElem?_append_left hj]
 ·rw [Array.getElem?_append_right (by simpa using hj)]
  simp only [Array.getElem?_modify, Array.size_modify]
  rw [if_neg (by omega), Array.getElem?_append_right (by omega)]
theorem more_more : more (more w x) y = more w ⟨x.blocks ++ y.blocks, y.draws⟩ := by simp [more, Array.append_assoc]
theorem more_drew : (more w x).drew = more w ⟨x.blocks, x.draws + 1⟩ := rfl
theorem more_drewN (n : Nat) : (more w x).drewN n = more w ⟨x.blocks, x.draws + n⟩ := rfl
theorem drew_more : w.drew = more w ⟨#[], w.drawn + 1⟩ := by
 show World.mk w.heap w.tape (w.drawn + 1) w.os w.output = World.mk (w.heap ++ #[]) w.tape (w.drawn + 1) w.os w.output
 rw [Array.append_empty]
theorem drewN_more (n : Nat) : w.drewN n = more w ⟨#[], w.drawn + n⟩ := by
 show World.mk w.heap w.tape (w.drawn + n) w.os w.output = World.mk (w.heap ++ #[]) w.tape (w.drawn + n) w.os w.output
 rw [Array.append_empty]
theorem more_self : w = more w ⟨#[], w.drawn⟩ := by simp [more]
theorem alloc_more (o : Obj) : w.alloc o = more w ⟨#[o], w.drawn⟩ := by
 show World.mk (w.heap.push o) w.tape w.drawn w.os w.output = World.mk (w.heap ++ #[o]) w.tape w.drawn w.os w.output
 rw [Array.push_eq_append]
theorem more_tape : (more w x).tape = w.tape := rfl
end
attribute [simp] more_size
attribute [go_sem] more_size more_cell more_frozen more_setCell more_more more_drew more_drewN more_tape more_heap
theorem ar_lt_0_1 (n b : Nat) : n < n + 1 + b := by omega
theorem ar_le_0_1 (n b : Nat) : n ≤ n + 1 + b := by omega
theorem ar_le_1_1 (n b : Nat) : n + 1 ≤ n + 1 + b := by omega
theorem ar_lt_0_2 (n b : Nat) : n < n + 1 + 1 + b := by omega
theorem ar_lt_1_2 (n b : Nat) : n + 1 < n + 1 + 1 + b := by omega
theorem ar_le_0_2 (n b : Nat) : n ≤ n + 1 + 1 + b := by omega
theorem ar_le_1_2 (n b : Nat) : n + 1 ≤ n + 1 + 1 + b := by omega
theorem ar_le_2_2 (n b : Nat) : n + 1 + 1 ≤ n + 1 + 1 + b := by omega
theorem ar_lt_0_3 (n b : Nat) : n < n + 1 + 1 + 1 + b := by omega
theorem ar_lt_1_3 (n b : Nat) : n + 1 < n + 1 + 1 + 1 + b := by omega
theorem ar_lt_2_3 (n b : Nat) : n + 1 + 1 < n + 1 + 1 + 1 + b := by omega
theorem ar_le_0_3 (n b : Nat) : n ≤ n + 1 + 1 + 1 + b := by omega
theorem ar_le_1_3 (n b : Nat) : n + 1 ≤ n + 1 + 1 + 1 + b := by omega
theorem ar_le_2_3 (n b : Nat) : n + 1 + 1 ≤ n + 1 + 1 + 1 + b := by omega
theorem ar_le_3_3 (n b : Nat) : n + 1 + 1 + 1 ≤ n + 1 + 1 + 1 + b := by omega
theorem ar_lt_0_4 (n b : Nat) : n < n + 1 + 1 + 1 + 1 + b := by omega
theorem ar_lt_1_4 (n b : Nat) : n + 1 < n + 1 + 1 + 1 + 1 + b := by omega
theorem ar_lt_2_4 (n b : Nat) : n + 1 + 1 < n + 1 + 1 + 1 + 1 + b := by omega
theorem ar_lt_3_4 (n b : Nat) : n + 1 + 1 + 1 < n + 1 + 1 + 1 + 1 + b := by omega
theorem ar_le_0_4 (n b : Nat) : n ≤ n + 1 + 1 + 1 + 1 + b := by omega
theorem ar_le_1_4 (n b : Nat) : n + 1 ≤ n + 1 + 1 + 1 + 1 + b := by omega
theorem ar_le_2_4 (n b : Nat) : n + 1 + 1 ≤ n + 1 + 1 + 1 + 1 + b := by omega
theorem ar_le_3_4 (n b : Nat) : n + 1 + 1 + 1 ≤ n + 1 + 1 + 1 + 1 + b := by omega
theorem ar_le_4_4 (n b : Nat) : n + 1 + 1 + 1 + 1 ≤ n + 1 + 1 + 1 + 1 + b := by omega
theorem ar_lt_0_5 (n b : Nat) : n < n + 1 + 1 + 1 + 1 + 1 + b := by omega
theorem ar_lt_1_5 (n b : Nat) : n + 1 < n + 1 + 1 + 1 + 1 + 1 + b := by omega
theorem ar_lt_2_5 (n b : Nat) : n + 1 + 1 < n + 1 + 1 + 1 + 1 + 1 + b := by omega
theorem ar_lt_3_5 (n b : Nat) : n + 1 + 1 + 1 < n + 1 + 1 + 1 + 1 + 1 + b := by omega
theorem ar_lt_4_5 (n b : Nat) : n + 1 + 1 + 1 + 1 < n + 1 + 1 + 1 + 1 + 1 + b := by omega
theorem ar_le_0_5 (n b : Nat) : n ≤ n + 1 + 1 + 1 + 1 + 1 + b := by omega
theorem ar_le_1_5 (n b : Nat) : n + 1 ≤ n + 1 + 1 + 1 + 1 + 1 + b := by omega
theorem ar_le_2_5 (n b : Nat) : n + 1 + 1 ≤ n + 1 + 1 + 1 + 1 + 1 + b := by omega
theorem ar_le_3_5 (n b : Nat) : n + 1 + 1 + 1 ≤ n + 1 + 1 + 1 + 1 + 1 + b := by omega
theorem ar_le_4_5 (n b : Nat) : n + 1 + 1 + 1 + 1 ≤ n + 1 + 1 + 1 + 1 + 1 + b := by omega
theorem ar_le_5_5 (n b : Nat) : n + 1 + 1 + 1 + 1 + 1 ≤ n + 1 + 1 + 1 + 1 + 1 + b := by omega
theorem ar_lt_0_6 (n b : Nat) : n < n + 1 + 1 + 1 + 1 + 1 + 1 + b := by omega
theorem ar_lt_1_6 (n b : Nat) : n + 1 < n + 1 + 1 + 1 + 1 + 1 + 1 + b := by omega
theorem ar_lt_2_6 (n b : Nat) : n + 1 + 1 < n + 1 + 1 + 1 + 1 + 1 + 1 + b := by omega
theorem ar_lt_3_6 (n b : Nat) : n + 1 + 1 + 1 < n + 1 + 1 + 1 + 1 + 1 + 1 + b := by omega
theorem ar_lt_4_6 (n b : Nat) : n + 1 + 1 + 1 + 1 < n + 1 + 1 + 1 + 1 + 1 + 1 + b := by omega
theorem ar_lt_5_6 (n b : Nat) : n + 1 + 1 + 1 + 1 + 1 < n + 1 + 1 + 1 + 1 + 1 + 1 + b := by omega
theorem ar_le_0_6 (n b : Nat) : n ≤ n + 1 + 1 + 1 + 1 + 1 + 1 + b := by omega
theorem ar_le_1_6 (n b : Nat) : n + 1 ≤ n + 1 + 1 + 1 + 1 + 1 + 1 + b := by omega
theorem ar_le_2_6 (n b : Nat) : n + 1 + 1 ≤ n + 1 + 1 + 1 + 1 + 1 + 1 + b := by omega
theorem ar_le_3_6 (n b : Nat) : n + 1 + 1 + 1 ≤ n + 1 + 1 + 1 + 1 + 1 + 1 + b := by omega
theorem ar_le_4_6 (n b : Nat) : n + 1 + 1 + 1 + 1 ≤ n + 1 + 1 + 1 + 1 + 1 + 1 + b := by omega
theorem ar_le_5_6 (n b : Nat) : n + 1 + 1 + 1 + 1 + 1 ≤ n + 1 + 1 + 1 + 1 + 1 + 1 + b := by omega
theorem ar_le_6_6 (n b : Nat) : n + 1 + 1 + 1 + 1 + 1 + 1 ≤ n + 1 + 1 + 1 + 1 + 1 + 1 + b := by omega
theorem ar_lt_0_1_1 (n b c : Nat) : n < n + 1 + b + 1 + c := by omega
theorem ar_lt_0_1_2 (n b c : Nat) : n < n + 1 + b + 1 + 1 + c := by omega
theorem ar_lt_0_1_3 (n b c : Nat) : n < n + 1 + b + 1 + 1 + 1 + c := by omega
theorem ar_lt_0_2_1 (n b c : Nat) : n < n + 1 + 1 + b + 1 + c := by omega
theorem ar_lt_1_2_1 (n b c : Nat) : n + 1 < n + 1 + 1 + b + 1 + c := by omega
theorem ar_lt_0_2_2 (n b c : Nat) : n < n + 1 + 1 + b + 1 + 1 + c := by omega
theorem ar_lt_1_2_2 (n b c : Nat) : n + 1 < n + 1 + 1 + b + 1 + 1 + c := by omega
theorem ar_lt_0_2_3 (n b c : Nat) : n < n + 1 + 1 + b + 1 + 1 + 1 + c := by omega
theorem ar_lt_1_2_3 (n b c : Nat) : n + 1 < n + 1 + 1 + b + 1 + 1 + 1 + c := by omega
theorem ar_lt_0_3_1 (n b c : Nat) : n < n + 1 + 1 + 1 + b + 1 + c := by omega
theorem ar_lt_1_3_1 (n b c : Nat) : n + 1 < n + 1 + 1 + 1 + b + 1 + c := by omega
theorem ar_lt_2_3_1 (n b c : Nat) : n + 1 + 1 < n + 1 + 1 + 1 + b + 1 + c := by omega
theorem ar_lt_0_3_2 (n b c : Nat) : n < n + 1 + 1 + 1 + b + 1 + 1 + c := by omega
theorem ar_lt_1_3_2 (n b c : Nat) : n + 1 < n + 1 + 1 + 1 + b + 1 + 1 + c := by omega
theorem ar_lt_2_3_2 (n b c : Nat) : n + 1 + 1 < n + 1 + 1 + 1 + b + 1 + 1 + c := by omega
theorem ar_lt_0_3_3 (n b c : Nat) : n < n + 1 + 1 + 1 + b + 1 + 1 + 1 + c := by omega
theorem ar_lt_1_3_3 (n b c : Nat) : n + 1 < n + 1 + 1 + 1 + b + 1 + 1 + 1 + c := by omega
theorem ar_lt_2_3_3 (n b c : Nat) : n + 1 + 1 < n + 1 + 1 + 1 + b + 1 + 1 + 1 + c := by omega
theorem ar_lt_0_4_1 (n b c : Nat) : n < n + 1 + 1 + 1 + 1 + b + 1 + c := by omega
theorem ar_lt_1_4_1 (n b c : Nat) : n + 1 < n + 1 + 1 + 1 + 1 + b + 1 + c := by omega
theorem ar_lt_2_4_1 (n b c : Nat) : n + 1 + 1 < n + 1 + 1 + 1 + 1 + b + 1 + c := by omega
theorem ar_lt_3_4_1 (n b c : Nat) : n + 1 + 1 + 1 < n + 1 + 1 + 1 + 1 + b + 1 + c := by omega
theorem ar_lt_0_4_2 (n b c : Nat) : n < n + 1 + 1 + 1 + 1 + b + 1 + 1 + c := by omega
theorem ar_lt_1_4_2 (n b c : Nat) : n + 1 < n + 1 + 1 + 1 + 1 + b + 1 + 1 + c := by omega
theorem ar_lt_2_4_2 (n b c : Nat) : n + 1 + 1 < n + 1 + 1 + 1 + 1 + b + 1 + 1 + c := by omega
theorem ar_lt_3_4_2 (n b c : Nat) : n + 1 + 1 + 1 < n + 1 + 1 + 1 + 1 + b + 1 + 1 + c := by omega
theorem ar_lt_0_4_3 (n b c : Nat) : n < n + 1 + 1 + 1 + 1 + b + 1 + 1 + 1 + c := by omega
theorem ar_lt_1_4_3 (n b c : Nat) : n + 1 < n + 1 + 1 + 1 + 1 + b + 1 + 1 + 1 + c := by omega
theorem ar_lt_2_4_3 (n b c : Nat) : n + 1 + 1 < n + 1 + 1 + 1 + 1 + b + 1 + 1 + 1 + c := by omega
theorem ar_lt_3_4_3 (n b c : Nat) : n + 1 + 1 + 1 < n + 1 + 1 + 1 + 1 + b + 1 + 1 + 1 + c := by omega
theorem ar_lt_0_5_1 (n b c : Nat) : n < n + 1 + 1 + 1 + 1 + 1 + b + 1 + c := by omega
theorem ar_lt_1_5_1 (n b c : Nat) : n + 1 < n + 1 + 1 + 1 + 1 + 1 + b + 1 + c := by omega
theorem ar_lt_2_5_1 (n b c : Nat) : n + 1 + 1 < n + 1 + 1 + 1 + 1 + 1 + b + 1 + c := by omega
theorem ar_lt_3_5_1 (n b c : Nat) : n + 1 + 1 + 1 < n + 1 + 1 + 1 + 1 + 1 + b + 1 + c := by omega
theorem ar_lt_4_5_1 (n b c : Nat) : n + 1 + 1 + 1 + 1 < n + 1 + 1 + 1 + 1 + 1 + b + 1 + c := by omega
theorem ar_lt_0_5_2 (n b c : Nat) : n < n + 1 + 1 + 1 + 1 + 1 + b + 1 + 1 + c := by omega
theorem ar_lt_1_5_2 (n b c : Nat) : n + 1 < n + 1 + 1 + 1 + 1 + 1 + b + 1 + 1 + c := by omega
theorem ar_lt_2_5_2 (n b c : Nat) : n + 1 + 1 < n + 1 + 1 + 1 + 1 + 1 + b + 1 + 1 + c := by omega
theorem ar_lt_3_5_2 (n b c : Nat) : n + 1 + 1 + 1 < n + 1 + 1 + 1 + 1 + 1 + b + 1 + 1 + c := by omega
theorem ar_lt_4_5_2 (n b c : Nat) : n + 1 + 1 + 1 + 1 < n + 1 + 1 + 1 + 1 + 1 + b + 1 + 1 + c := by omega
theorem ar_lt_0_5_3 (n b c : Nat) : n < n + 1 + 1 + 1 + 1 + 1 + b + 1 + 1 + 1 + c := by omega
theorem ar_lt_1_5_3 (n b c : Nat) : n + 1 < n + 1 + 1 + 1 + 1 + 1 + b + 1 + 1 + 1 + c := by omega
theorem ar_lt_2_5_3 (n b c : Nat) : n + 1 + 1 < n + 1 + 1 + 1 + 1 + 1 + b + 1 + 1 + 1 + c := by omega
theorem ar_lt_3_5_3 (n b c : Nat) : n + 1 + 1 + 1 < n + 1 + 1 + 1 + 1 + 1 + b + 1 + 1 + 1 + c := by omega
theorem ar_lt_4_5_3 (n b c : Nat) : n + 1 + 1 + 1 + 1 < n + 1 + 1 + 1 + 1 + 1 + b + 1 + 1 + 1 + c := by omega
attribute [simp] ar_lt_0_1 ar_le_0_1 ar_le_1_1 ar_lt_0_2 ar_lt_1_2 ar_le_0_2 ar_le_1_2 ar_le_2_2 ar_lt_0_3 ar_lt_1_3 ar_lt_2_3 ar_le_0_3 ar_le_1_3 ar_le_2_3 ar_le_3_3 ar_lt_0_4 ar_lt_1_4 ar_lt_2_4 ar_lt_3_4 ar_le_0_4 ar_le_1_4 ar_le_2_4 ar_le_3_4 ar_le_4_4 ar_lt_0_5 ar_lt_1_5 ar_lt_2_5 ar_lt_3_5 ar_lt_4_5 ar_le_0_5 ar_le_1_5 ar_le_2_5 ar_le_3_5 ar_le_4_5 ar_le_5_5 ar_lt_0_6 ar_lt_1_6 ar_lt_2_6 ar_lt_3_6 ar_lt_4_6 ar_lt_5_6 ar_le_0_6 ar_le_1_6 ar_le_2_6 ar_le_3_6 ar_le_4_6 ar_le_5_6 ar_le_6_6 ar_lt_0_1_1 ar_lt_0_1_2 ar_lt_0_1_3 ar_lt_0_2_1 ar_lt_1_2_1 ar_lt_0_2_2 ar_lt_1_2_2 ar_lt_0_2_3 ar_lt_1_2_3 ar_lt_0_3_1 ar_lt_1_3_1 ar_lt_2_3_1 ar_lt_0_3_2 ar_lt_1_3_2 ar_lt_2_3_2 ar_lt_0_3_3 ar_lt_1_3_3 ar_lt_2_3_3 ar_lt_0_4_1 ar_lt_1_4_1 ar_lt_2_4_1 ar_lt_3_4_1 ar_lt_0_4_2 ar_lt_1_4_2 ar_lt_2_4_2 ar_lt_3_4_2 ar_lt_0_4_3 ar_lt_1_4_3 ar_lt_2_4_3 ar_lt_3_4_3 ar_lt_0_5_1 ar_lt_1_5_1 ar_lt_2_5_1 ar_lt_3_5_1 ar_lt_4_5_1 ar_lt_0_5_2 ar_lt_1_5_2 ar_lt_2_5_2 ar_lt_3_5_2 ar_lt_4_5_2 ar_lt_0_5_3 ar_lt_1_5_3 ar_lt_2_5_3 ar_lt_3_5_3 ar_lt_4_5_3
def Ext (w w' : World) : Prop := ∃ x, w' = more w x
theorem Ext.refl (w : World) : Ext w w := ⟨_, more_self w⟩
theorem Ext.drew (w : World) : Ext w w.drew := ⟨_, drew_more w⟩
theorem Ext.drewN (w : World) (n : Nat) : Ext w (w.drewN n) := ⟨_, drewN_more w n⟩
theorem Ext.alloc (w : World) (o : Obj) : Ext w (w.alloc o) := ⟨_, alloc_more w o⟩
theorem Ext.more (w : World) (x : Xtra) : Ext w (more w x) := ⟨x, rfl⟩
theorem Ext.trans {a b c : World} (h : Ext a b) (k : Ext b c) : Ext a c := by
 obtain ⟨x, rfl⟩ := h; obtain ⟨y, rfl⟩ := k; exact ⟨_, more_more _ _ _⟩
theorem Ext.below {w w' : World} (h : Ext w w') : Below w.heap.size w w' := by
 obtain ⟨x, rfl⟩ := h
 exact ⟨rfl, rfl, rfl, by rw [more_size]; omega, fun k hk => more_heap w x k hk⟩
theorem Ext.of_below {w w' : World} (h : Below w.heap.size w w') : Ext w w' := by
 refine ⟨⟨w'.heap.extract w.heap.size w'.heap.size, w'.drawn⟩, ?_⟩
 have hh : w'.heap = w.heap ++ w'.heap.extract w.heap.size w'.heap.size := by
  refine Array.ext_getElem? fun j => ?_
  by_cases hj : j < w.heap.size
  ·rw [Array.getElem?_append_left hj, h.block j hj]
  ·rw [Array.getElem?_append_right (by omega), Array.getElem?_extract]
   split
   ·congr 1; omega
   ·rw [Array.getElem?_eq_none (by omega)]
 have h1 := h.os
 have h2 := h.tape
 have h3 := h.output
 clear h
 obtain ⟨H, T, D, O, U⟩ := w'
 obtain ⟨H', T', D', O', U'⟩ := w
 dsimp only at h1 h2 h3 hh
 subst h1 h2 h3
 show World.mk H _ D _ _ = World.mk (H' ++ H.extract H'.size H.size) _ D _ _
 rw [← hh]
end Go.Proofs.Ytfecopfofkdnpaa
