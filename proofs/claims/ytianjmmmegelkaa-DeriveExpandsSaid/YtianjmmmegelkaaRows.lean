/-
  No cell of these rows narrows 'for every input' (looked for: loops, veiled, ifaces, maps, wideKeys, modest, calm, conditions, laid).
  DERIVED. THE GIVEN ROWS OF THIS SEAT. 6 by the template 'for every input the law returns true; each argument reads behind the call as it read before'; 0 by the template 'total and deterministic' (their statements: YtianjmmmegelkaaTotals.lean).
  GIVEN WITH THE SEED: the statements are not yours to turn. If you find one false, say at which input.
  Laid BY PROGRAM, IN A SANDBOX (cutbox-rows.mjs): the forced cells as the released guide's own fill.sh prints them over the translation 58905eeb99629d48… (all of the seat's roots in one cut). By AI agents, Wed Nov 11 2026. No macro, syntax, notation, axiom, sorry.
-/
import Derived.Test.YtianjmmmegelkaaChecked
import GoSem.Claim
import GoSem.ClaimJoined
import GoSem.ClaimMapViews
import Derived.JoinedTies
import Derived.KernelRfl
namespace Go.Proofs.Ytianjmmmegelkaa
/- THE CELL 'sum', in the pinned program and in every row, IS THE sha256 OF THE DUMP (.gsa) THAT YtianjmmmegelkaaProg.lean LOADS. Nothing in Lean hashes anything: it is a label: what it is worth is what the hold of that sum in a sandbox is worth. -/
noncomputable def Try.pinned : Pinned := { name := "ytianjmmmegelkaa", sum := "58905eeb99629d484da1c6e5ad21fd2917f6176e6f4ae38908944a3c23e5b7ab", checked := Try.checked }
namespace Rows
def none {H : Type} : Left H := { results := [], args := [] }

/-- 'hotspotlaw23.DeriveDistinct': WHATEVER THE INPUT: true; the input reads as it did. -/
def deriveDistinctSpec : ChangeSpec := { name := "deriveDistinct", fn := fun _ => fun
  | [d1, d2, d3, d4, d5, d6] => { results := [.lit (.bool true)], args := [d1, d2, d3, d4, d5, d6] }
  | _ => none }
def deriveDistinctRow : OpenClaim := { program := "ytianjmmmegelkaa", sum := "58905eeb99629d484da1c6e5ad21fd2917f6176e6f4ae38908944a3c23e5b7ab", func := "hotspot/hotspotlaw23.DeriveDistinct", spec := "deriveDistinct", apart := false }
def DeriveDistinctSaid : Prop := deriveDistinctRow.holds Try.pinned (OpenSpec.ofChange deriveDistinctSpec)

/-- ITS FALSE NEIGHBOUR: 'it returns false'. Refute it at one input. -/
def deriveDistinctWrong : ChangeSpec := { name := "deriveDistinct", fn := fun _ => fun
  | [d1, d2, d3, d4, d5, d6] => { results := [.lit (.bool false)], args := [d1, d2, d3, d4, d5, d6] }
  | _ => none }
def DeriveDistinctWrongFalsely : Prop := deriveDistinctRow.holds Try.pinned (OpenSpec.ofChange deriveDistinctWrong)

/-- 'hotspotlaw23.DeriveCodes': WHATEVER THE INPUT: true; the input reads as it did. -/
def deriveCodesSpec : ChangeSpec := { name := "deriveCodes", fn := fun _ => fun
  | [d1, d2, d3, d4] => { results := [.lit (.bool true)], args := [d1, d2, d3, d4] }
  | _ => none }
def deriveCodesRow : OpenClaim := { program := "ytianjmmmegelkaa", sum := "58905eeb99629d484da1c6e5ad21fd2917f6176e6f4ae38908944a3c23e5b7ab", func := "hotspot/hotspotlaw23.DeriveCodes", spec := "deriveCodes", apart := false }
def DeriveCodesSaid : Prop := deriveCodesRow.holds Try.pinned (OpenSpec.ofChange deriveCodesSpec)

/-- ITS FALSE NEIGHBOUR: 'it returns false'. Refute it at one input. -/
def deriveCodesWrong : ChangeSpec := { name := "deriveCodes", fn := fun _ => fun
  | [d1, d2, d3, d4] => { results := [.lit (.bool false)], args := [d1, d2, d3, d4] }
  | _ => none }
def DeriveCodesWrongFalsely : Prop := deriveCodesRow.holds Try.pinned (OpenSpec.ofChange deriveCodesWrong)

/-- 'hotspotlaw23.DerivePrefix': WHATEVER THE INPUT: true; the input reads as it did. -/
def derivePrefixSpec : ChangeSpec := { name := "derivePrefix", fn := fun _ => fun
  | [d1, d2, d3, d4, d5] => { results := [.lit (.bool true)], args := [d1, d2, d3, d4, d5] }
  | _ => none }
def derivePrefixRow : OpenClaim := { program := "ytianjmmmegelkaa", sum := "58905eeb99629d484da1c6e5ad21fd2917f6176e6f4ae38908944a3c23e5b7ab", func := "hotspot/hotspotlaw23.DerivePrefix", spec := "derivePrefix", apart := false }
def DerivePrefixSaid : Prop := derivePrefixRow.holds Try.pinned (OpenSpec.ofChange derivePrefixSpec)

/-- ITS FALSE NEIGHBOUR: 'it returns false'. Refute it at one input. -/
def derivePrefixWrong : ChangeSpec := { name := "derivePrefix", fn := fun _ => fun
  | [d1, d2, d3, d4, d5] => { results := [.lit (.bool false)], args := [d1, d2, d3, d4, d5] }
  | _ => none }
def DerivePrefixWrongFalsely : Prop := derivePrefixRow.holds Try.pinned (OpenSpec.ofChange derivePrefixWrong)

/-- 'hotspotlaw23.DeriveBlocks': WHATEVER THE INPUT: true; the input reads as it did. -/
def deriveBlocksSpec : ChangeSpec := { name := "deriveBlocks", fn := fun _ => fun
  | [d1, d2, d3, d4] => { results := [.lit (.bool true)], args := [d1, d2, d3, d4] }
  | _ => none }
def deriveBlocksRow : OpenClaim := { program := "ytianjmmmegelkaa", sum := "58905eeb99629d484da1c6e5ad21fd2917f6176e6f4ae38908944a3c23e5b7ab", func := "hotspot/hotspotlaw23.DeriveBlocks", spec := "deriveBlocks", apart := false }
def DeriveBlocksSaid : Prop := deriveBlocksRow.holds Try.pinned (OpenSpec.ofChange deriveBlocksSpec)

/-- ITS FALSE NEIGHBOUR: 'it returns false'. Refute it at one input. -/
def deriveBlocksWrong : ChangeSpec := { name := "deriveBlocks", fn := fun _ => fun
  | [d1, d2, d3, d4] => { results := [.lit (.bool false)], args := [d1, d2, d3, d4] }
  | _ => none }
def DeriveBlocksWrongFalsely : Prop := deriveBlocksRow.holds Try.pinned (OpenSpec.ofChange deriveBlocksWrong)

/-- 'hotspotlaw23.DeriveExpands': WHATEVER THE INPUT: true; the input reads as it did. -/
def deriveExpandsSpec : ChangeSpec := { name := "deriveExpands", fn := fun _ => fun
  | [d1, d2, d3, d4] => { results := [.lit (.bool true)], args := [d1, d2, d3, d4] }
  | _ => none }
def deriveExpandsRow : OpenClaim := { program := "ytianjmmmegelkaa", sum := "58905eeb99629d484da1c6e5ad21fd2917f6176e6f4ae38908944a3c23e5b7ab", func := "hotspot/hotspotlaw23.DeriveExpands", spec := "deriveExpands", apart := false }
def DeriveExpandsSaid : Prop := deriveExpandsRow.holds Try.pinned (OpenSpec.ofChange deriveExpandsSpec)

/-- ITS FALSE NEIGHBOUR: 'it returns false'. Refute it at one input. -/
def deriveExpandsWrong : ChangeSpec := { name := "deriveExpands", fn := fun _ => fun
  | [d1, d2, d3, d4] => { results := [.lit (.bool false)], args := [d1, d2, d3, d4] }
  | _ => none }
def DeriveExpandsWrongFalsely : Prop := deriveExpandsRow.holds Try.pinned (OpenSpec.ofChange deriveExpandsWrong)

/-- 'hotspotlaw23.DeriveNames': WHATEVER THE INPUT: true; the input reads as it did. -/
def deriveNamesSpec : ChangeSpec := { name := "deriveNames", fn := fun _ => fun
  | [] => { results := [.lit (.bool true)], args := [] }
  | _ => none }
def deriveNamesRow : OpenClaim := { program := "ytianjmmmegelkaa", sum := "58905eeb99629d484da1c6e5ad21fd2917f6176e6f4ae38908944a3c23e5b7ab", func := "hotspot/hotspotlaw23.DeriveNames", spec := "deriveNames", inPlace := ["internal/bytealg.Compare"], unfollowed := true, recurses := true, apart := false }
def DeriveNamesSaid : Prop := deriveNamesRow.holds Try.pinned (OpenSpec.ofChange deriveNamesSpec)

/-- ITS FALSE NEIGHBOUR: 'it returns false'. Refute it at one input. -/
def deriveNamesWrong : ChangeSpec := { name := "deriveNames", fn := fun _ => fun
  | [] => { results := [.lit (.bool false)], args := [] }
  | _ => none }
def DeriveNamesWrongFalsely : Prop := deriveNamesRow.holds Try.pinned (OpenSpec.ofChange deriveNamesWrong)

/- THE SECOND FORM. 'bulk': how many values and letters a reading holds, each counted each time it is reached (what is shared counts as often as it is met; a slice's spare places count too). A statement '..UptoSaid' is the law's where the arguments, and the package variables that the reading takes, are together of bulk at most 1048576: NARROWER than '..Said'. Prove '..Said' where nothing that the law and all that it calls make is longer than what came in: it says more and counts as full. Else prove '..UptoSaid'. A law counts once. -/
mutual
def uptoBulk {H : Type} : DataW H → Nat
  | .lit (.string bytes) => bytes.length + 1
  | .lit _ => 1
  | .nil => 1
  | .ptr d => uptoBulk d + 1
  | .slice elems spare => uptoBulkAll elems + uptoBulkAll spare + 1
  | .agg parts => uptoBulkAll parts + 1
  | .iface _ d => uptoBulk d + 1
  | .map entries => uptoBulkEntries entries + 1
  | .held _ => 1
def uptoBulkAll {H : Type} : List (DataW H) → Nat
  | [] => 0
  | d :: r => uptoBulk d + uptoBulkAll r
def uptoBulkEntries {H : Type} : List (Lit × DataW H) → Nat
  | [] => 0
  | x :: r => uptoBulkEntry x + uptoBulkEntries r
def uptoBulkEntry {H : Type} : Lit × DataW H → Nat
  | (.string bytes, d) => bytes.length + uptoBulk d + 1
  | (_, d) => uptoBulk d + 1
 end
def uptoSmall : (H : Type) → List (DataW H) → Bool := fun _ ds => decide (uptoBulkAll ds ≤ 1048576)
def OpenSpec.upto (s : _root_.Go.ChangeSpec) : _root_.Go.OpenSpec := { _root_.Go.OpenSpec.ofChange s with cond := some uptoSmall }

/-- 'hotspotlaw23.DeriveDistinct', WHERE WHAT IT READS IS OF BULK AT MOST 1048576: true; the input reads as it did. -/
def deriveDistinctUptoRow : OpenClaim := { program := "ytianjmmmegelkaa", sum := "58905eeb99629d484da1c6e5ad21fd2917f6176e6f4ae38908944a3c23e5b7ab", func := "hotspot/hotspotlaw23.DeriveDistinct", spec := "deriveDistinct", apart := false, narrowed := true }
def DeriveDistinctUptoSaid : Prop := deriveDistinctUptoRow.holds Try.pinned (OpenSpec.upto deriveDistinctSpec)

/-- 'hotspotlaw23.DeriveCodes', WHERE WHAT IT READS IS OF BULK AT MOST 1048576: true; the input reads as it did. -/
def deriveCodesUptoRow : OpenClaim := { program := "ytianjmmmegelkaa", sum := "58905eeb99629d484da1c6e5ad21fd2917f6176e6f4ae38908944a3c23e5b7ab", func := "hotspot/hotspotlaw23.DeriveCodes", spec := "deriveCodes", apart := false, narrowed := true }
def DeriveCodesUptoSaid : Prop := deriveCodesUptoRow.holds Try.pinned (OpenSpec.upto deriveCodesSpec)

/-- 'hotspotlaw23.DerivePrefix', WHERE WHAT IT READS IS OF BULK AT MOST 1048576: true; the input reads as it did. -/
def derivePrefixUptoRow : OpenClaim := { program := "ytianjmmmegelkaa", sum := "58905eeb99629d484da1c6e5ad21fd2917f6176e6f4ae38908944a3c23e5b7ab", func := "hotspot/hotspotlaw23.DerivePrefix", spec := "derivePrefix", apart := false, narrowed := true }
def DerivePrefixUptoSaid : Prop := derivePrefixUptoRow.holds Try.pinned (OpenSpec.upto derivePrefixSpec)

/-- 'hotspotlaw23.DeriveBlocks', WHERE WHAT IT READS IS OF BULK AT MOST 1048576: true; the input reads as it did. -/
def deriveBlocksUptoRow : OpenClaim := { program := "ytianjmmmegelkaa", sum := "58905eeb99629d484da1c6e5ad21fd2917f6176e6f4ae38908944a3c23e5b7ab", func := "hotspot/hotspotlaw23.DeriveBlocks", spec := "deriveBlocks", apart := false, narrowed := true }
def DeriveBlocksUptoSaid : Prop := deriveBlocksUptoRow.holds Try.pinned (OpenSpec.upto deriveBlocksSpec)

/-- 'hotspotlaw23.DeriveExpands', WHERE WHAT IT READS IS OF BULK AT MOST 1048576: true; the input reads as it did. -/
def deriveExpandsUptoRow : OpenClaim := { program := "ytianjmmmegelkaa", sum := "58905eeb99629d484da1c6e5ad21fd2917f6176e6f4ae38908944a3c23e5b7ab", func := "hotspot/hotspotlaw23.DeriveExpands", spec := "deriveExpands", apart := false, narrowed := true }
def DeriveExpandsUptoSaid : Prop := deriveExpandsUptoRow.holds Try.pinned (OpenSpec.upto deriveExpandsSpec)

/-- 'hotspotlaw23.DeriveNames', WHERE WHAT IT READS IS OF BULK AT MOST 1048576: true; the input reads as it did. -/
def deriveNamesUptoRow : OpenClaim := { program := "ytianjmmmegelkaa", sum := "58905eeb99629d484da1c6e5ad21fd2917f6176e6f4ae38908944a3c23e5b7ab", func := "hotspot/hotspotlaw23.DeriveNames", spec := "deriveNames", inPlace := ["internal/bytealg.Compare"], unfollowed := true, recurses := true, apart := false, narrowed := true }
def DeriveNamesUptoSaid : Prop := deriveNamesUptoRow.holds Try.pinned (OpenSpec.upto deriveNamesSpec)

end Rows
end Go.Proofs.Ytianjmmmegelkaa
