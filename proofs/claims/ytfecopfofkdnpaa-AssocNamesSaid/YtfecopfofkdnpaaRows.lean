/-
  No cell of these rows narrows 'for every input' (looked for: loops, veiled, ifaces, maps, wideKeys, modest, calm, conditions, laid).
  DERIVED. THE GIVEN ROWS OF THIS SEAT. 6 by the template 'for every input the law returns true; each argument reads behind the call as it read before'; 0 by the template 'total and deterministic' (their statements: YtfecopfofkdnpaaTotals.lean).
  GIVEN WITH THE SEED: the statements are not yours to turn. If you find one false, say at which input.
  Laid BY PROGRAM, IN A SANDBOX (cutbox-rows.mjs): the forced cells as the released guide's own fill.sh prints them over the translation 05bdf5908e1e6aea… (all of the seat's roots in one cut). By AI agents, Wed Nov 11 2026. No macro, syntax, notation, axiom, sorry.
-/
import Derived.Test.YtfecopfofkdnpaaChecked
import GoSem.Claim
import GoSem.ClaimJoined
import GoSem.ClaimMapViews
import Derived.JoinedTies
import Derived.KernelRfl
namespace Go.Proofs.Ytfecopfofkdnpaa
/- THE CELL 'sum', in the pinned program and in every row, IS THE sha256 OF THE DUMP (.gsa) THAT YtfecopfofkdnpaaProg.lean LOADS. Nothing in Lean hashes anything: it is a label: what it is worth is what the hold of that sum in a sandbox is worth. -/
noncomputable def Try.pinned : Pinned := { name := "ytfecopfofkdnpaa", sum := "05bdf5908e1e6aeafcc7073f3e293ddc2e5b94e4cd3eaf14fbc8d10b6cb18717", checked := Try.checked }
namespace Rows
def none {H : Type} : Left H := { results := [], args := [] }

/-- 'hotspotlaw30.AssocKnows': WHATEVER THE INPUT: true; the input reads as it did. -/
def assocKnowsSpec : ChangeSpec := { name := "assocKnows", fn := fun _ => fun
  | [d1, d2, d3, d4, d5] => { results := [.lit (.bool true)], args := [d1, d2, d3, d4, d5] }
  | _ => none }
def assocKnowsRow : OpenClaim := { program := "ytfecopfofkdnpaa", sum := "05bdf5908e1e6aeafcc7073f3e293ddc2e5b94e4cd3eaf14fbc8d10b6cb18717", func := "hotspot/hotspotlaw30.AssocKnows", spec := "assocKnows", inPlace := ["internal/bytealg.Compare"], unfollowed := true, recurses := true, apart := false }
def AssocKnowsSaid : Prop := assocKnowsRow.holds Try.pinned (OpenSpec.ofChange assocKnowsSpec)

/-- ITS FALSE NEIGHBOUR: 'it returns false'. Refute it at one input. -/
def assocKnowsWrong : ChangeSpec := { name := "assocKnows", fn := fun _ => fun
  | [d1, d2, d3, d4, d5] => { results := [.lit (.bool false)], args := [d1, d2, d3, d4, d5] }
  | _ => none }
def AssocKnowsWrongFalsely : Prop := assocKnowsRow.holds Try.pinned (OpenSpec.ofChange assocKnowsWrong)

/-- 'hotspotlaw30.AssocSilence': WHATEVER THE INPUT: true; the input reads as it did. -/
def assocSilenceSpec : ChangeSpec := { name := "assocSilence", fn := fun _ => fun
  | [d1, d2] => { results := [.lit (.bool true)], args := [d1, d2] }
  | _ => none }
def assocSilenceRow : OpenClaim := { program := "ytfecopfofkdnpaa", sum := "05bdf5908e1e6aeafcc7073f3e293ddc2e5b94e4cd3eaf14fbc8d10b6cb18717", func := "hotspot/hotspotlaw30.AssocSilence", spec := "assocSilence", inPlace := ["internal/bytealg.Compare", "slices.overlaps[hotspot/api.StaEntry]"], unfollowed := true, recurses := true, apart := false }
def AssocSilenceSaid : Prop := assocSilenceRow.holds Try.pinned (OpenSpec.ofChange assocSilenceSpec)

/-- ITS FALSE NEIGHBOUR: 'it returns false'. Refute it at one input. -/
def assocSilenceWrong : ChangeSpec := { name := "assocSilence", fn := fun _ => fun
  | [d1, d2] => { results := [.lit (.bool false)], args := [d1, d2] }
  | _ => none }
def AssocSilenceWrongFalsely : Prop := assocSilenceRow.holds Try.pinned (OpenSpec.ofChange assocSilenceWrong)

/-- 'hotspotlaw30.AssocAids': WHATEVER THE INPUT: true; the input reads as it did. -/
def assocAidsSpec : ChangeSpec := { name := "assocAids", fn := fun _ => fun
  | [d1, d2, d3, d4, d5] => { results := [.lit (.bool true)], args := [d1, d2, d3, d4, d5] }
  | _ => none }
def assocAidsRow : OpenClaim := { program := "ytfecopfofkdnpaa", sum := "05bdf5908e1e6aeafcc7073f3e293ddc2e5b94e4cd3eaf14fbc8d10b6cb18717", func := "hotspot/hotspotlaw30.AssocAids", spec := "assocAids", inPlace := ["internal/bytealg.Compare", "slices.overlaps[hotspot/api.StaEntry]"], unfollowed := true, recurses := true, apart := false }
def AssocAidsSaid : Prop := assocAidsRow.holds Try.pinned (OpenSpec.ofChange assocAidsSpec)

/-- ITS FALSE NEIGHBOUR: 'it returns false'. Refute it at one input. -/
def assocAidsWrong : ChangeSpec := { name := "assocAids", fn := fun _ => fun
  | [d1, d2, d3, d4, d5] => { results := [.lit (.bool false)], args := [d1, d2, d3, d4, d5] }
  | _ => none }
def AssocAidsWrongFalsely : Prop := assocAidsRow.holds Try.pinned (OpenSpec.ofChange assocAidsWrong)

/-- 'hotspotlaw30.AssocAllowed': WHATEVER THE INPUT: true; the input reads as it did. -/
def assocAllowedSpec : ChangeSpec := { name := "assocAllowed", fn := fun _ => fun
  | [d1, d2, d3, d4, d5, d6] => { results := [.lit (.bool true)], args := [d1, d2, d3, d4, d5, d6] }
  | _ => none }
def assocAllowedRow : OpenClaim := { program := "ytfecopfofkdnpaa", sum := "05bdf5908e1e6aeafcc7073f3e293ddc2e5b94e4cd3eaf14fbc8d10b6cb18717", func := "hotspot/hotspotlaw30.AssocAllowed", spec := "assocAllowed", inPlace := ["internal/bytealg.Compare", "slices.overlaps[hotspot/api.StaEntry]"], unfollowed := true, recurses := true, apart := false }
def AssocAllowedSaid : Prop := assocAllowedRow.holds Try.pinned (OpenSpec.ofChange assocAllowedSpec)

/-- ITS FALSE NEIGHBOUR: 'it returns false'. Refute it at one input. -/
def assocAllowedWrong : ChangeSpec := { name := "assocAllowed", fn := fun _ => fun
  | [d1, d2, d3, d4, d5, d6] => { results := [.lit (.bool false)], args := [d1, d2, d3, d4, d5, d6] }
  | _ => none }
def AssocAllowedWrongFalsely : Prop := assocAllowedRow.holds Try.pinned (OpenSpec.ofChange assocAllowedWrong)

/-- 'hotspotlaw30.AssocNames': WHATEVER THE INPUT: true; the input reads as it did. -/
def assocNamesSpec : ChangeSpec := { name := "assocNames", fn := fun _ => fun
  | [] => { results := [.lit (.bool true)], args := [] }
  | _ => none }
def assocNamesRow : OpenClaim := { program := "ytfecopfofkdnpaa", sum := "05bdf5908e1e6aeafcc7073f3e293ddc2e5b94e4cd3eaf14fbc8d10b6cb18717", func := "hotspot/hotspotlaw30.AssocNames", spec := "assocNames", inPlace := ["internal/bytealg.Compare", "slices.overlaps[hotspot/api.StaEntry]"], unfollowed := true, recurses := true, apart := false }
def AssocNamesSaid : Prop := assocNamesRow.holds Try.pinned (OpenSpec.ofChange assocNamesSpec)

/-- ITS FALSE NEIGHBOUR: 'it returns false'. Refute it at one input. -/
def assocNamesWrong : ChangeSpec := { name := "assocNames", fn := fun _ => fun
  | [] => { results := [.lit (.bool false)], args := [] }
  | _ => none }
def AssocNamesWrongFalsely : Prop := assocNamesRow.holds Try.pinned (OpenSpec.ofChange assocNamesWrong)

/-- 'hotspotlaw30.AssocAnswers': WHATEVER THE INPUT: true; the input reads as it did. -/
def assocAnswersSpec : ChangeSpec := { name := "assocAnswers", fn := fun _ => fun
  | [d1, d2, d3] => { results := [.lit (.bool true)], args := [d1, d2, d3] }
  | _ => none }
def assocAnswersRow : OpenClaim := { program := "ytfecopfofkdnpaa", sum := "05bdf5908e1e6aeafcc7073f3e293ddc2e5b94e4cd3eaf14fbc8d10b6cb18717", func := "hotspot/hotspotlaw30.AssocAnswers", spec := "assocAnswers", inPlace := ["internal/bytealg.Compare", "slices.overlaps[hotspot/api.StaEntry]"], unfollowed := true, recurses := true, apart := false }
def AssocAnswersSaid : Prop := assocAnswersRow.holds Try.pinned (OpenSpec.ofChange assocAnswersSpec)

/-- ITS FALSE NEIGHBOUR: 'it returns false'. Refute it at one input. -/
def assocAnswersWrong : ChangeSpec := { name := "assocAnswers", fn := fun _ => fun
  | [d1, d2, d3] => { results := [.lit (.bool false)], args := [d1, d2, d3] }
  | _ => none }
def AssocAnswersWrongFalsely : Prop := assocAnswersRow.holds Try.pinned (OpenSpec.ofChange assocAnswersWrong)

/- THE SECOND FORM. 'bulk': how many values and letters a reading holds, each counted each time it is reached (what is shared counts as often as it is met; a slice's spare places count too). A statement '..UptoSaid' is the law's where the arguments, and the package variables that the reading takes, are together of bulk at most 1048576: NARROWER than '..Said'. Prove '..Said' where nothing that the law and all that it calls make is longer than what came in: it says more and counts as full. Else prove '..UptoSaid'. A law counts once. -/
mutual
def uptoBulk {H : Type} : DataW H → Nat
  | .lit (.string bytes) => bytes.length + 1
  | .lit _ => 1
  | .nil => 1
  | .ptr d => uptoBulk d + 1
  | .slice elems spare => uptoBulkAll elems + uptoBulkAll spare + 1
  | .agg parts => uptoBulkAll parts + 1
  | .iface _ d => uptoBulk d + 1
  | .map entries => uptoBulkEntries entries + 1
  | .held _ => 1
def uptoBulkAll {H : Type} : List (DataW H) → Nat
  | [] => 0
  | d :: r => uptoBulk d + uptoBulkAll r
def uptoBulkEntries {H : Type} : List (Lit × DataW H) → Nat
  | [] => 0
  | x :: r => uptoBulkEntry x + uptoBulkEntries r
def uptoBulkEntry {H : Type} : Lit × DataW H → Nat
  | (.string bytes, d) => bytes.length + uptoBulk d + 1
  | (_, d) => uptoBulk d + 1
 end
def uptoSmall : (H : Type) → List (DataW H) → Bool := fun _ ds => decide (uptoBulkAll ds ≤ 1048576)
def OpenSpec.upto (s : _root_.Go.ChangeSpec) : _root_.Go.OpenSpec := { _root_.Go.OpenSpec.ofChange s with cond := some uptoSmall }

/-- 'hotspotlaw30.AssocKnows', WHERE WHAT IT READS IS OF BULK AT MOST 1048576: true; the input reads as it did. -/
def assocKnowsUptoRow : OpenClaim := { program := "ytfecopfofkdnpaa", sum := "05bdf5908e1e6aeafcc7073f3e293ddc2e5b94e4cd3eaf14fbc8d10b6cb18717", func := "hotspot/hotspotlaw30.AssocKnows", spec := "assocKnows", inPlace := ["internal/bytealg.Compare"], unfollowed := true, recurses := true, apart := false, narrowed := true }
def AssocKnowsUptoSaid : Prop := assocKnowsUptoRow.holds Try.pinned (OpenSpec.upto assocKnowsSpec)

/-- 'hotspotlaw30.AssocSilence', WHERE WHAT IT READS IS OF BULK AT MOST 1048576: true; the input reads as it did. -/
def assocSilenceUptoRow : OpenClaim := { program := "ytfecopfofkdnpaa", sum := "05bdf5908e1e6aeafcc7073f3e293ddc2e5b94e4cd3eaf14fbc8d10b6cb18717", func := "hotspot/hotspotlaw30.AssocSilence", spec := "assocSilence", inPlace := ["internal/bytealg.Compare", "slices.overlaps[hotspot/api.StaEntry]"], unfollowed := true, recurses := true, apart := false, narrowed := true }
def AssocSilenceUptoSaid : Prop := assocSilenceUptoRow.holds Try.pinned (OpenSpec.upto assocSilenceSpec)

/-- 'hotspotlaw30.AssocAids', WHERE WHAT IT READS IS OF BULK AT MOST 1048576: true; the input reads as it did. -/
def assocAidsUptoRow : OpenClaim := { program := "ytfecopfofkdnpaa", sum := "05bdf5908e1e6aeafcc7073f3e293ddc2e5b94e4cd3eaf14fbc8d10b6cb18717", func := "hotspot/hotspotlaw30.AssocAids", spec := "assocAids", inPlace := ["internal/bytealg.Compare", "slices.overlaps[hotspot/api.StaEntry]"], unfollowed := true, recurses := true, apart := false, narrowed := true }
def AssocAidsUptoSaid : Prop := assocAidsUptoRow.holds Try.pinned (OpenSpec.upto assocAidsSpec)

/-- 'hotspotlaw30.AssocAllowed', WHERE WHAT IT READS IS OF BULK AT MOST 1048576: true; the input reads as it did. -/
def assocAllowedUptoRow : OpenClaim := { program := "ytfecopfofkdnpaa", sum := "05bdf5908e1e6aeafcc7073f3e293ddc2e5b94e4cd3eaf14fbc8d10b6cb18717", func := "hotspot/hotspotlaw30.AssocAllowed", spec := "assocAllowed", inPlace := ["internal/bytealg.Compare", "slices.overlaps[hotspot/api.StaEntry]"], unfollowed := true, recurses := true, apart := false, narrowed := true }
def AssocAllowedUptoSaid : Prop := assocAllowedUptoRow.holds Try.pinned (OpenSpec.upto assocAllowedSpec)

/-- 'hotspotlaw30.AssocNames', WHERE WHAT IT READS IS OF BULK AT MOST 1048576: true; the input reads as it did. -/
def assocNamesUptoRow : OpenClaim := { program := "ytfecopfofkdnpaa", sum := "05bdf5908e1e6aeafcc7073f3e293ddc2e5b94e4cd3eaf14fbc8d10b6cb18717", func := "hotspot/hotspotlaw30.AssocNames", spec := "assocNames", inPlace := ["internal/bytealg.Compare", "slices.overlaps[hotspot/api.StaEntry]"], unfollowed := true, recurses := true, apart := false, narrowed := true }
def AssocNamesUptoSaid : Prop := assocNamesUptoRow.holds Try.pinned (OpenSpec.upto assocNamesSpec)

/-- 'hotspotlaw30.AssocAnswers', WHERE WHAT IT READS IS OF BULK AT MOST 1048576: true; the input reads as it did. -/
def assocAnswersUptoRow : OpenClaim := { program := "ytfecopfofkdnpaa", sum := "05bdf5908e1e6aeafcc7073f3e293ddc2e5b94e4cd3eaf14fbc8d10b6cb18717", func := "hotspot/hotspotlaw30.AssocAnswers", spec := "assocAnswers", inPlace := ["internal/bytealg.Compare", "slices.overlaps[hotspot/api.StaEntry]"], unfollowed := true, recurses := true, apart := false, narrowed := true }
def AssocAnswersUptoSaid : Prop := assocAnswersUptoRow.holds Try.pinned (OpenSpec.upto assocAnswersSpec)

end Rows
end Go.Proofs.Ytfecopfofkdnpaa
