/- Blocks and keys. -/
import Derived.Test.YtnofmppimihjpaaCom
import Derived.Test.YtnofmppimihjpaaCipher
namespace Go.Proofs.Ytnofmppimihjpaa
open Go.RowKit
def z16 : Array Value := ((List.replicate 16 (0 : BitVec 8)).map V8).toArray
theorem z16_size (l : List (BitVec 8)) (h : l.length = 16) : z16.size = (l.map V8).toArray.size := by simp [z16, h]
theorem encF_len (ks bs : List (BitVec 8)) : (encF ks bs).length = 16 := by simp [encF, joinF_len]
theorem sizeK (l : List (BitVec 8)) (h : l.length = 16) : (Try.prog.info? 23).map (·.size) = some (l.map V8).toArray.size := by rw [size23]; simp [h]
theorem sizeB (l : List (BitVec 8)) (h : l.length = 16) : (Try.prog.info? 38).map (·.size) = some (l.map V8).toArray.size := by rw [size38]; simp [h]
end Go.Proofs.Ytnofmppimihjpaa
