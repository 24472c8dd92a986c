/- Plain words and laws for the walks: bytes and words as bit vectors behind one opaque name, wI. -/
import Derived.Tactics
import Derived.Tactics2
import Derived.WalkKit
import Derived.WalkSpells
import Derived.WalkLawsBesides
import Derived.KernelRfl
namespace Go.Proofs.Ytfecopfofkdnpaa
open Go.RowKit

/-- A fact kept from the walk: neither its simp nor 'contradiction' looks behind it. -/
def Kp (p : Prop) : Prop := True → p
theorem kp {p : Prop} (h : p) : Kp p := fun _ => h
theorem Kp.out {p : Prop} (h : Kp p) : p := h trivial
/-- The number of a bit vector, as an integer; the walk does not look behind this name. -/
def wI {n : Nat} (x : BitVec n) : Int := (x.toNat : Int)
abbrev V8 (x : BitVec 8) : Value := .int .u8 (wI x)
abbrev V32 (x : BitVec 32) : Value := .int .u32 (wI x)
abbrev V64 (x : BitVec 64) : Value := .int .u64 (wI x)

theorem wI_nonneg {n : Nat} (x : BitVec n) : 0 ≤ wI x := by unfold wI; omega
theorem wI_lt8 (x : BitVec 8) : wI x < 256 := by unfold wI; have := x.isLt; omega
theorem wI_lt32 (x : BitVec 32) : wI x < 4294967296 := by unfold wI; have := x.isLt; omega
theorem wI_lt64 (x : BitVec 64) : wI x < 18446744073709551616 := by unfold wI; have := x.isLt; omega
theorem wI_inj {n : Nat} (x y : BitVec n) : (wI x = wI y) = (x = y) := by
  unfold wI; rw [Int.ofNat_inj]; exact propext BitVec.toNat_inj
theorem wI_beq {n : Nat} (x y : BitVec n) : (wI x == wI y) = (x == y) := by
  have h : (wI x = wI y) = (x = y) := wI_inj x y
  rw [Bool.eq_iff_iff]; simp only [beq_iff_eq]; rw [h]
theorem wI_bne {n : Nat} (x y : BitVec n) : (wI x != wI y) = (x != y) := by
  simp only [bne, wI_beq]

theorem wI_beq0 {n : Nat} (x : BitVec n) : (wI x == 0) = (x == 0#n) := by
  have h := wI_beq x 0#n
  have h0 : wI (0#n) = 0 := by simp [wI]
  rw [h0] at h; exact h
theorem wI_xor8 (x y : BitVec 8) : bits .xor .u8 (wI x) (wI y) = wI (x ^^^ y) := by
  unfold wI; rw [u8_xor_nat _ _ x.isLt y.isLt, BitVec.toNat_xor]
theorem wI_xor32 (x y : BitVec 32) : bits .xor .u32 (wI x) (wI y) = wI (x ^^^ y) := by
  unfold wI; rw [u32_xor_nat _ _ x.isLt y.isLt, BitVec.toNat_xor]
theorem wI_or32 (x y : BitVec 32) : bits .or .u32 (wI x) (wI y) = wI (x ||| y) := by
  unfold wI; rw [u32_or_nat _ _ x.isLt y.isLt, BitVec.toNat_or]
theorem wI_or64 (x y : BitVec 64) : bits .or .u64 (wI x) (wI y) = wI (x ||| y) := by
  unfold wI; rw [u64_or_nat _ _ x.isLt y.isLt, BitVec.toNat_or]
theorem wI_and64 (x y : BitVec 64) : bits .and .u64 (wI x) (wI y) = wI (x &&& y) := by
  unfold wI; rw [u64_and_nat _ _ x.isLt y.isLt, BitVec.toNat_and]
theorem wI_add32 (x y : BitVec 32) : (wI x + wI y) % 4294967296 = wI (x + y) := by
  unfold wI; rw [BitVec.toNat_add]; omega
theorem wI_sub32 (x y : BitVec 32) : (wI x - wI y) % 4294967296 = wI (x - y) := by
  unfold wI; rw [BitVec.toNat_sub]; have := x.isLt; have := y.isLt; omega
theorem wrap_u32 (n : Int) : IntKind.u32.wrap n = n % 4294967296 := by simp [IntKind.wrap, IntKind.signed, IntKind.bits]
theorem wI_wadd32 (x y : BitVec 32) : IntKind.u32.wrap (wI x + wI y) = wI (x + y) := by rw [wrap_u32, wI_add32]
theorem wI_wsub32 (x y : BitVec 32) : IntKind.u32.wrap (wI x - wI y) = wI (x - y) := by rw [wrap_u32, wI_sub32]
theorem wI_shl32 (x : BitVec 32) (n : Nat) : wI x * 2 ^ n % 4294967296 = wI (x <<< n) := by
  unfold wI; rw [BitVec.toNat_shiftLeft, Nat.shiftLeft_eq]; simp
theorem wI_shr32 (x : BitVec 32) (n : Nat) : wI x / 2 ^ n = wI (x >>> n) := by
  unfold wI; rw [BitVec.toNat_ushiftRight, Nat.shiftRight_eq_div_pow]; simp
theorem wI_wid (x : BitVec 8) : wI x % 4294967296 = wI (x.setWidth 32) := by
  unfold wI; have := x.isLt; rw [BitVec.toNat_setWidth]; omega
theorem wI_wwid (x : BitVec 8) : IntKind.u32.wrap (wI x) = wI (x.setWidth 32) := by rw [wrap_u32, wI_wid]
theorem wrap_u8 (n : Int) : IntKind.u8.wrap n = n % 256 := by simp [IntKind.wrap, IntKind.signed, IntKind.bits]
theorem wI_low (x : BitVec 32) : wI x % 256 = wI (x.setWidth 8) := by
  unfold wI; rw [BitVec.toNat_setWidth]; omega
theorem wI_wlow (x : BitVec 32) : IntKind.u8.wrap (wI x) = wI (x.setWidth 8) := by rw [wrap_u8, wI_low]
theorem ret_int {k : IntKind} {a b : Int} (h : a = b) : Ending.returned (.int k a) = .returned (.int k b) := by rw [h]
attribute [go_sem] wI_beq0 wI_wid wI_wwid wI_low wI_wlow wI_shl32 wI_shr32 wI_xor8 wI_xor32 wI_or32 wI_or64 wI_and64 wI_add32 wI_sub32 wI_wadd32 wI_wsub32 wI_beq wI_bne

/-- A shift of a word to the left, by a count that is a natural number. -/
theorem run_shl32 (P : Program) (w : World) (k : IntKind) (x : BitVec 32) (n : Nat) (h : n ≤ 32) :
    (Op.shift .shl .u32 (wI x) k (n : Int)).run P w = .ok (.int .u32 (wI (x <<< n))) w := by
  have h1 : ¬ ((n : Int) < 0) := by omega
  have h2 : min n 32 = n := by omega
  simp only [Op.shift, h1, if_false, go_sem]
  rw [wrap_u32]
  simp [h2, wI_shl32]
theorem run_shr32 (P : Program) (w : World) (k : IntKind) (x : BitVec 32) (n : Nat) (h : n ≤ 32) :
    (Op.shift .shr .u32 (wI x) k (n : Int)).run P w = .ok (.int .u32 (wI (x >>> n))) w := by
  have h1 : ¬ ((n : Int) < 0) := by omega
  have h2 : min n 32 = n := by omega
  have h3 : (0 : Int) ≤ 2 ^ n := Int.pow_nonneg (by decide)
  simp only [Op.shift, h1, if_false, go_sem]
  simp [h2, Int.fdiv_eq_ediv_of_nonneg _ h3, go_sem, wI_shr32]

theorem wrap_u64 (n : Int) : IntKind.u64.wrap n = n % 18446744073709551616 := by simp [IntKind.wrap, IntKind.signed, IntKind.bits]
theorem wI_shl64 (x : BitVec 64) (n : Nat) : wI x * 2 ^ n % 18446744073709551616 = wI (x <<< n) := by
  unfold wI; rw [BitVec.toNat_shiftLeft, Nat.shiftLeft_eq]; simp
theorem wI_shr64 (x : BitVec 64) (n : Nat) : wI x / 2 ^ n = wI (x >>> n) := by
  unfold wI; rw [BitVec.toNat_ushiftRight, Nat.shiftRight_eq_div_pow]; simp
theorem run_shl64 (P : Program) (w : World) (k : IntKind) (x : BitVec 64) (n : Nat) (h : n ≤ 64) :
    (Op.shift .shl .u64 (wI x) k (n : Int)).run P w = .ok (.int .u64 (wI (x <<< n))) w := by
  have h1 : ¬ ((n : Int) < 0) := by omega
  have h2 : min n 64 = n := by omega
  simp only [Op.shift, h1, if_false, go_sem]
  rw [wrap_u64]
  simp [h2, wI_shl64]
theorem run_shr64 (P : Program) (w : World) (k : IntKind) (x : BitVec 64) (n : Nat) (h : n ≤ 64) :
    (Op.shift .shr .u64 (wI x) k (n : Int)).run P w = .ok (.int .u64 (wI (x >>> n))) w := by
  have h1 : ¬ ((n : Int) < 0) := by omega
  have h2 : min n 64 = n := by omega
  have h3 : (0 : Int) ≤ 2 ^ n := Int.pow_nonneg (by decide)
  simp only [Op.shift, h1, if_false, go_sem]
  simp [h2, Int.fdiv_eq_ediv_of_nonneg _ h3, go_sem, wI_shr64]
theorem wI_wshl64 (x : BitVec 64) (n : Nat) : IntKind.u64.wrap (wI x * 2 ^ n) = wI (x <<< n) := by rw [wrap_u64, wI_shl64]
theorem wI_wone64 (n : Nat) : IntKind.u64.wrap (2 ^ n) = wI (1#64 <<< n) := by
  rw [← wI_wshl64, show wI 1#64 = 1 from rfl, Int.one_mul]
theorem wI_wand1 (x : BitVec 64) : bits .and .u64 (wI x) 1 = wI (x &&& 1#64) := by
  rw [← wI_and64]; rfl
theorem wI_beq1 (x : BitVec 64) : (wI x == 1) = (x == 1#64) := wI_beq x 1#64
attribute [go_sem] wI_shl64 wI_shr64 wI_wshl64 wI_wone64 wI_wand1 wI_beq1
/-- A word turned left by n. -/
def rotl (n : Nat) (x : BitVec 32) : BitVec 32 := (x <<< n) ||| (x >>> (32 - n))
theorem and31 (n : Nat) (h : n < 32) : bits .and .u64 (n : Int) 31 = (n : Int) := by
  have := u64_and_nat n 31 (by omega) (by omega)
  rw [show ((31 : Nat) : Int) = 31 from rfl] at this
  rw [this, show (31 : Nat) = 2 ^ 5 - 1 from rfl, Nat.and_two_pow_sub_one_eq_mod, Nat.mod_eq_of_lt h]
end Go.Proofs.Ytfecopfofkdnpaa
