/-
  No cell of these rows narrows 'for every input' (looked for: loops, veiled, ifaces, maps, wideKeys, modest, calm, conditions, laid).
  DERIVED. THE GIVEN ROWS OF THIS SEAT. 8 by the template 'for every input the law returns true; each argument reads behind the call as it read before'; 0 by the template 'total and deterministic' (their statements: YtnofmppimihjpaaTotals.lean).
  GIVEN WITH THE SEED: the statements are not yours to turn. If you find one false, say at which input.
  Laid BY PROGRAM, IN A SANDBOX (cutbox-rows.mjs): the forced cells as the released guide's own fill.sh prints them over the translation fb61af6ece841eff… (all of the seat's roots in one cut). By AI agents, Wed Nov 11 2026. No macro, syntax, notation, axiom, sorry.
-/
import Derived.Test.YtnofmppimihjpaaChecked
import GoSem.Claim
import GoSem.ClaimJoined
import GoSem.ClaimMapViews
import Derived.JoinedTies
import Derived.KernelRfl
namespace Go.Proofs.Ytnofmppimihjpaa
/- THE CELL 'sum', in the pinned program and in every row, IS THE sha256 OF THE DUMP (.gsa) THAT YtnofmppimihjpaaProg.lean LOADS. Nothing in Lean hashes anything: it is a label: what it is worth is what the hold of that sum in a sandbox is worth. -/
noncomputable def Try.pinned : Pinned := { name := "ytnofmppimihjpaa", sum := "fb61af6ece841effcc83cde992b11838244d689d8e2815408b4a15350e25d9e3", checked := Try.checked }
namespace Rows
def none {H : Type} : Left H := { results := [], args := [] }

/-- 'hotspotlaw22.SealMatches': WHATEVER THE INPUT: true; the input reads as it did. -/
def sealMatchesSpec : ChangeSpec := { name := "sealMatches", fn := fun _ => fun
  | [d1, d2, d3, d4, d5] => { results := [.lit (.bool true)], args := [d1, d2, d3, d4, d5] }
  | _ => none }
def sealMatchesRow : OpenClaim := { program := "ytnofmppimihjpaa", sum := "fb61af6ece841effcc83cde992b11838244d689d8e2815408b4a15350e25d9e3", func := "hotspot/hotspotlaw22.SealMatches", spec := "sealMatches", unfollowed := true, recurses := true, apart := false }
def SealMatchesSaid : Prop := sealMatchesRow.holds Try.pinned (OpenSpec.ofChange sealMatchesSpec)

/-- ITS FALSE NEIGHBOUR: 'it returns false'. Refute it at one input. -/
def sealMatchesWrong : ChangeSpec := { name := "sealMatches", fn := fun _ => fun
  | [d1, d2, d3, d4, d5] => { results := [.lit (.bool false)], args := [d1, d2, d3, d4, d5] }
  | _ => none }
def SealMatchesWrongFalsely : Prop := sealMatchesRow.holds Try.pinned (OpenSpec.ofChange sealMatchesWrong)

/-- 'hotspotlaw22.SealOpens': WHATEVER THE INPUT: true; the input reads as it did. -/
def sealOpensSpec : ChangeSpec := { name := "sealOpens", fn := fun _ => fun
  | [d1, d2, d3, d4] => { results := [.lit (.bool true)], args := [d1, d2, d3, d4] }
  | _ => none }
def sealOpensRow : OpenClaim := { program := "ytnofmppimihjpaa", sum := "fb61af6ece841effcc83cde992b11838244d689d8e2815408b4a15350e25d9e3", func := "hotspot/hotspotlaw22.SealOpens", spec := "sealOpens", unfollowed := true, recurses := true, apart := false }
def SealOpensSaid : Prop := sealOpensRow.holds Try.pinned (OpenSpec.ofChange sealOpensSpec)

/-- ITS FALSE NEIGHBOUR: 'it returns false'. Refute it at one input. -/
def sealOpensWrong : ChangeSpec := { name := "sealOpens", fn := fun _ => fun
  | [d1, d2, d3, d4] => { results := [.lit (.bool false)], args := [d1, d2, d3, d4] }
  | _ => none }
def SealOpensWrongFalsely : Prop := sealOpensRow.holds Try.pinned (OpenSpec.ofChange sealOpensWrong)

/-- 'hotspotlaw22.SealNames': WHATEVER THE INPUT: true; the input reads as it did. -/
def sealNamesSpec : ChangeSpec := { name := "sealNames", fn := fun _ => fun
  | [] => { results := [.lit (.bool true)], args := [] }
  | _ => none }
def sealNamesRow : OpenClaim := { program := "ytnofmppimihjpaa", sum := "fb61af6ece841effcc83cde992b11838244d689d8e2815408b4a15350e25d9e3", func := "hotspot/hotspotlaw22.SealNames", spec := "sealNames", unfollowed := true, recurses := true, apart := false }
def SealNamesSaid : Prop := sealNamesRow.holds Try.pinned (OpenSpec.ofChange sealNamesSpec)

/-- ITS FALSE NEIGHBOUR: 'it returns false'. Refute it at one input. -/
def sealNamesWrong : ChangeSpec := { name := "sealNames", fn := fun _ => fun
  | [] => { results := [.lit (.bool false)], args := [] }
  | _ => none }
def SealNamesWrongFalsely : Prop := sealNamesRow.holds Try.pinned (OpenSpec.ofChange sealNamesWrong)

/-- 'hotspotlaw22.SealBack': WHATEVER THE INPUT: true; the input reads as it did. -/
def sealBackSpec : ChangeSpec := { name := "sealBack", fn := fun _ => fun
  | [d1, d2, d3, d4] => { results := [.lit (.bool true)], args := [d1, d2, d3, d4] }
  | _ => none }
def sealBackRow : OpenClaim := { program := "ytnofmppimihjpaa", sum := "fb61af6ece841effcc83cde992b11838244d689d8e2815408b4a15350e25d9e3", func := "hotspot/hotspotlaw22.SealBack", spec := "sealBack", unfollowed := true, recurses := true, apart := false }
def SealBackSaid : Prop := sealBackRow.holds Try.pinned (OpenSpec.ofChange sealBackSpec)

/-- ITS FALSE NEIGHBOUR: 'it returns false'. Refute it at one input. -/
def sealBackWrong : ChangeSpec := { name := "sealBack", fn := fun _ => fun
  | [d1, d2, d3, d4] => { results := [.lit (.bool false)], args := [d1, d2, d3, d4] }
  | _ => none }
def SealBackWrongFalsely : Prop := sealBackRow.holds Try.pinned (OpenSpec.ofChange sealBackWrong)

/-- 'hotspotlaw22.SealOnly': WHATEVER THE INPUT: true; the input reads as it did. -/
def sealOnlySpec : ChangeSpec := { name := "sealOnly", fn := fun _ => fun
  | [d1, d2, d3, d4] => { results := [.lit (.bool true)], args := [d1, d2, d3, d4] }
  | _ => none }
def sealOnlyRow : OpenClaim := { program := "ytnofmppimihjpaa", sum := "fb61af6ece841effcc83cde992b11838244d689d8e2815408b4a15350e25d9e3", func := "hotspot/hotspotlaw22.SealOnly", spec := "sealOnly", unfollowed := true, recurses := true, apart := false }
def SealOnlySaid : Prop := sealOnlyRow.holds Try.pinned (OpenSpec.ofChange sealOnlySpec)

/-- ITS FALSE NEIGHBOUR: 'it returns false'. Refute it at one input. -/
def sealOnlyWrong : ChangeSpec := { name := "sealOnly", fn := fun _ => fun
  | [d1, d2, d3, d4] => { results := [.lit (.bool false)], args := [d1, d2, d3, d4] }
  | _ => none }
def SealOnlyWrongFalsely : Prop := sealOnlyRow.holds Try.pinned (OpenSpec.ofChange sealOnlyWrong)

/-- 'hotspotlaw22.SealCode': WHATEVER THE INPUT: true; the input reads as it did. -/
def sealCodeSpec : ChangeSpec := { name := "sealCode", fn := fun _ => fun
  | [d1, d2, d3, d4, d5, d6] => { results := [.lit (.bool true)], args := [d1, d2, d3, d4, d5, d6] }
  | _ => none }
def sealCodeRow : OpenClaim := { program := "ytnofmppimihjpaa", sum := "fb61af6ece841effcc83cde992b11838244d689d8e2815408b4a15350e25d9e3", func := "hotspot/hotspotlaw22.SealCode", spec := "sealCode", unfollowed := true, recurses := true, apart := false }
def SealCodeSaid : Prop := sealCodeRow.holds Try.pinned (OpenSpec.ofChange sealCodeSpec)

/-- ITS FALSE NEIGHBOUR: 'it returns false'. Refute it at one input. -/
def sealCodeWrong : ChangeSpec := { name := "sealCode", fn := fun _ => fun
  | [d1, d2, d3, d4, d5, d6] => { results := [.lit (.bool false)], args := [d1, d2, d3, d4, d5, d6] }
  | _ => none }
def SealCodeWrongFalsely : Prop := sealCodeRow.holds Try.pinned (OpenSpec.ofChange sealCodeWrong)

/-- 'hotspotlaw22.SealReuse': WHATEVER THE INPUT: true; the input reads as it did. -/
def sealReuseSpec : ChangeSpec := { name := "sealReuse", fn := fun _ => fun
  | [d1, d2, d3, d4, d5] => { results := [.lit (.bool true)], args := [d1, d2, d3, d4, d5] }
  | _ => none }
def sealReuseRow : OpenClaim := { program := "ytnofmppimihjpaa", sum := "fb61af6ece841effcc83cde992b11838244d689d8e2815408b4a15350e25d9e3", func := "hotspot/hotspotlaw22.SealReuse", spec := "sealReuse", unfollowed := true, recurses := true, apart := false }
def SealReuseSaid : Prop := sealReuseRow.holds Try.pinned (OpenSpec.ofChange sealReuseSpec)

/-- ITS FALSE NEIGHBOUR: 'it returns false'. Refute it at one input. -/
def sealReuseWrong : ChangeSpec := { name := "sealReuse", fn := fun _ => fun
  | [d1, d2, d3, d4, d5] => { results := [.lit (.bool false)], args := [d1, d2, d3, d4, d5] }
  | _ => none }
def SealReuseWrongFalsely : Prop := sealReuseRow.holds Try.pinned (OpenSpec.ofChange sealReuseWrong)

/-- 'hotspotlaw22.SealStream': WHATEVER THE INPUT: true; the input reads as it did. -/
def sealStreamSpec : ChangeSpec := { name := "sealStream", fn := fun _ => fun
  | [d1, d2, d3, d4] => { results := [.lit (.bool true)], args := [d1, d2, d3, d4] }
  | _ => none }
def sealStreamRow : OpenClaim := { program := "ytnofmppimihjpaa", sum := "fb61af6ece841effcc83cde992b11838244d689d8e2815408b4a15350e25d9e3", func := "hotspot/hotspotlaw22.SealStream", spec := "sealStream", unfollowed := true, recurses := true, apart := false }
def SealStreamSaid : Prop := sealStreamRow.holds Try.pinned (OpenSpec.ofChange sealStreamSpec)

/-- ITS FALSE NEIGHBOUR: 'it returns false'. Refute it at one input. -/
def sealStreamWrong : ChangeSpec := { name := "sealStream", fn := fun _ => fun
  | [d1, d2, d3, d4] => { results := [.lit (.bool false)], args := [d1, d2, d3, d4] }
  | _ => none }
def SealStreamWrongFalsely : Prop := sealStreamRow.holds Try.pinned (OpenSpec.ofChange sealStreamWrong)

/- THE SECOND FORM. 'bulk': how many values and letters a reading holds, each counted each time it is reached (what is shared counts as often as it is met; a slice's spare places count too). A statement '..UptoSaid' is the law's where the arguments, and the package variables that the reading takes, are together of bulk at most 1048576: NARROWER than '..Said'. Prove '..Said' where nothing that the law and all that it calls make is longer than what came in: it says more and counts as full. Else prove '..UptoSaid'. A law counts once. -/
mutual
def uptoBulk {H : Type} : DataW H → Nat
  | .lit (.string bytes) => bytes.length + 1
  | .lit _ => 1
  | .nil => 1
  | .ptr d => uptoBulk d + 1
  | .slice elems spare => uptoBulkAll elems + uptoBulkAll spare + 1
  | .agg parts => uptoBulkAll parts + 1
  | .iface _ d => uptoBulk d + 1
  | .map entries => uptoBulkEntries entries + 1
  | .held _ => 1
def uptoBulkAll {H : Type} : List (DataW H) → Nat
  | [] => 0
  | d :: r => uptoBulk d + uptoBulkAll r
def uptoBulkEntries {H : Type} : List (Lit × DataW H) → Nat
  | [] => 0
  | x :: r => uptoBulkEntry x + uptoBulkEntries r
def uptoBulkEntry {H : Type} : Lit × DataW H → Nat
  | (.string bytes, d) => bytes.length + uptoBulk d + 1
  | (_, d) => uptoBulk d + 1
 end
def uptoSmall : (H : Type) → List (DataW H) → Bool := fun _ ds => decide (uptoBulkAll ds ≤ 1048576)
def OpenSpec.upto (s : _root_.Go.ChangeSpec) : _root_.Go.OpenSpec := { _root_.Go.OpenSpec.ofChange s with cond := some uptoSmall }

/-- 'hotspotlaw22.SealMatches', WHERE WHAT IT READS IS OF BULK AT MOST 1048576: true; the input reads as it did. -/
def sealMatchesUptoRow : OpenClaim := { program := "ytnofmppimihjpaa", sum := "fb61af6ece841effcc83cde992b11838244d689d8e2815408b4a15350e25d9e3", func := "hotspot/hotspotlaw22.SealMatches", spec := "sealMatches", unfollowed := true, recurses := true, apart := false, narrowed := true }
def SealMatchesUptoSaid : Prop := sealMatchesUptoRow.holds Try.pinned (OpenSpec.upto sealMatchesSpec)

/-- 'hotspotlaw22.SealOpens', WHERE WHAT IT READS IS OF BULK AT MOST 1048576: true; the input reads as it did. -/
def sealOpensUptoRow : OpenClaim := { program := "ytnofmppimihjpaa", sum := "fb61af6ece841effcc83cde992b11838244d689d8e2815408b4a15350e25d9e3", func := "hotspot/hotspotlaw22.SealOpens", spec := "sealOpens", unfollowed := true, recurses := true, apart := false, narrowed := true }
def SealOpensUptoSaid : Prop := sealOpensUptoRow.holds Try.pinned (OpenSpec.upto sealOpensSpec)

/-- 'hotspotlaw22.SealNames', WHERE WHAT IT READS IS OF BULK AT MOST 1048576: true; the input reads as it did. -/
def sealNamesUptoRow : OpenClaim := { program := "ytnofmppimihjpaa", sum := "fb61af6ece841effcc83cde992b11838244d689d8e2815408b4a15350e25d9e3", func := "hotspot/hotspotlaw22.SealNames", spec := "sealNames", unfollowed := true, recurses := true, apart := false, narrowed := true }
def SealNamesUptoSaid : Prop := sealNamesUptoRow.holds Try.pinned (OpenSpec.upto sealNamesSpec)

/-- 'hotspotlaw22.SealBack', WHERE WHAT IT READS IS OF BULK AT MOST 1048576: true; the input reads as it did. -/
def sealBackUptoRow : OpenClaim := { program := "ytnofmppimihjpaa", sum := "fb61af6ece841effcc83cde992b11838244d689d8e2815408b4a15350e25d9e3", func := "hotspot/hotspotlaw22.SealBack", spec := "sealBack", unfollowed := true, recurses := true, apart := false, narrowed := true }
def SealBackUptoSaid : Prop := sealBackUptoRow.holds Try.pinned (OpenSpec.upto sealBackSpec)

/-- 'hotspotlaw22.SealOnly', WHERE WHAT IT READS IS OF BULK AT MOST 1048576: true; the input reads as it did. -/
def sealOnlyUptoRow : OpenClaim := { program := "ytnofmppimihjpaa", sum := "fb61af6ece841effcc83cde992b11838244d689d8e2815408b4a15350e25d9e3", func := "hotspot/hotspotlaw22.SealOnly", spec := "sealOnly", unfollowed := true, recurses := true, apart := false, narrowed := true }
def SealOnlyUptoSaid : Prop := sealOnlyUptoRow.holds Try.pinned (OpenSpec.upto sealOnlySpec)

/-- 'hotspotlaw22.SealCode', WHERE WHAT IT READS IS OF BULK AT MOST 1048576: true; the input reads as it did. -/
def sealCodeUptoRow : OpenClaim := { program := "ytnofmppimihjpaa", sum := "fb61af6ece841effcc83cde992b11838244d689d8e2815408b4a15350e25d9e3", func := "hotspot/hotspotlaw22.SealCode", spec := "sealCode", unfollowed := true, recurses := true, apart := false, narrowed := true }
def SealCodeUptoSaid : Prop := sealCodeUptoRow.holds Try.pinned (OpenSpec.upto sealCodeSpec)

/-- 'hotspotlaw22.SealReuse', WHERE WHAT IT READS IS OF BULK AT MOST 1048576: true; the input reads as it did. -/
def sealReuseUptoRow : OpenClaim := { program := "ytnofmppimihjpaa", sum := "fb61af6ece841effcc83cde992b11838244d689d8e2815408b4a15350e25d9e3", func := "hotspot/hotspotlaw22.SealReuse", spec := "sealReuse", unfollowed := true, recurses := true, apart := false, narrowed := true }
def SealReuseUptoSaid : Prop := sealReuseUptoRow.holds Try.pinned (OpenSpec.upto sealReuseSpec)

/-- 'hotspotlaw22.SealStream', WHERE WHAT IT READS IS OF BULK AT MOST 1048576: true; the input reads as it did. -/
def sealStreamUptoRow : OpenClaim := { program := "ytnofmppimihjpaa", sum := "fb61af6ece841effcc83cde992b11838244d689d8e2815408b4a15350e25d9e3", func := "hotspot/hotspotlaw22.SealStream", spec := "sealStream", unfollowed := true, recurses := true, apart := false, narrowed := true }
def SealStreamUptoSaid : Prop := sealStreamUptoRow.holds Try.pinned (OpenSpec.upto sealStreamSpec)

end Rows
end Go.Proofs.Ytnofmppimihjpaa
