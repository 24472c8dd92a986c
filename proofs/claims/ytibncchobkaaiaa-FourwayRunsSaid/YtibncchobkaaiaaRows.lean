/-
  No cell of these rows narrows 'for every input' (looked for: loops, veiled, ifaces, maps, wideKeys, modest, calm, conditions, laid).
  DERIVED. THE GIVEN ROWS OF THIS SEAT. 7 by the template 'for every input the law returns true; each argument reads behind the call as it read before'; 0 by the template 'total and deterministic' (their statements: YtibncchobkaaiaaTotals.lean).
  GIVEN WITH THE SEED: the statements are not yours to turn. If you find one false, say at which input.
  Laid BY PROGRAM, IN A SANDBOX (cutbox-rows.mjs): the forced cells as the released guide's own fill.sh prints them over the translation 226107f36f50341e… (all of the seat's roots in one cut). By AI agents, Wed Nov 11 2026. No macro, syntax, notation, axiom, sorry.
-/
import Derived.Test.YtibncchobkaaiaaChecked
import GoSem.Claim
import GoSem.ClaimJoined
import GoSem.ClaimMapViews
import Derived.JoinedTies
import Derived.KernelRfl
namespace Go.Proofs.Ytibncchobkaaiaa
/- THE CELL 'sum', in the pinned program and in every row, IS THE sha256 OF THE DUMP (.gsa) THAT YtibncchobkaaiaaProg.lean LOADS. Nothing in Lean hashes anything: it is a label: what it is worth is what the hold of that sum in a sandbox is worth. -/
noncomputable def Try.pinned : Pinned := { name := "ytibncchobkaaiaa", sum := "226107f36f50341e7ca2c718e5a2c15715cce971b2bf70965c5a4206105d5358", checked := Try.checked }
namespace Rows
def none {H : Type} : Left H := { results := [], args := [] }

/-- 'hotspotlaw25.FourwayMatches': WHATEVER THE INPUT: true; the input reads as it did. -/
def fourwayMatchesSpec : ChangeSpec := { name := "fourwayMatches", fn := fun _ => fun
  | [d1, d2, d3] => { results := [.lit (.bool true)], args := [d1, d2, d3] }
  | _ => none }
def fourwayMatchesRow : OpenClaim := { program := "ytibncchobkaaiaa", sum := "226107f36f50341e7ca2c718e5a2c15715cce971b2bf70965c5a4206105d5358", func := "hotspot/hotspotlaw25.FourwayMatches", spec := "fourwayMatches", inPlace := ["internal/bytealg.Compare"], unfollowed := true, recurses := true, plainKeys := false, apart := false }
def FourwayMatchesSaid : Prop := fourwayMatchesRow.holds Try.pinned (OpenSpec.ofChange fourwayMatchesSpec)

/-- ITS FALSE NEIGHBOUR: 'it returns false'. Refute it at one input. -/
def fourwayMatchesWrong : ChangeSpec := { name := "fourwayMatches", fn := fun _ => fun
  | [d1, d2, d3] => { results := [.lit (.bool false)], args := [d1, d2, d3] }
  | _ => none }
def FourwayMatchesWrongFalsely : Prop := fourwayMatchesRow.holds Try.pinned (OpenSpec.ofChange fourwayMatchesWrong)

/-- 'hotspotlaw25.FourwayRuns': WHATEVER THE INPUT: true; the input reads as it did. -/
def fourwayRunsSpec : ChangeSpec := { name := "fourwayRuns", fn := fun _ => fun
  | [d1, d2, d3] => { results := [.lit (.bool true)], args := [d1, d2, d3] }
  | _ => none }
def fourwayRunsRow : OpenClaim := { program := "ytibncchobkaaiaa", sum := "226107f36f50341e7ca2c718e5a2c15715cce971b2bf70965c5a4206105d5358", func := "hotspot/hotspotlaw25.FourwayRuns", spec := "fourwayRuns", inPlace := ["internal/bytealg.Compare"], unfollowed := true, recurses := true, plainKeys := false, apart := false }
def FourwayRunsSaid : Prop := fourwayRunsRow.holds Try.pinned (OpenSpec.ofChange fourwayRunsSpec)

/-- ITS FALSE NEIGHBOUR: 'it returns false'. Refute it at one input. -/
def fourwayRunsWrong : ChangeSpec := { name := "fourwayRuns", fn := fun _ => fun
  | [d1, d2, d3] => { results := [.lit (.bool false)], args := [d1, d2, d3] }
  | _ => none }
def FourwayRunsWrongFalsely : Prop := fourwayRunsRow.holds Try.pinned (OpenSpec.ofChange fourwayRunsWrong)

/-- 'hotspotlaw25.FourwayNames': WHATEVER THE INPUT: true; the input reads as it did. -/
def fourwayNamesSpec : ChangeSpec := { name := "fourwayNames", fn := fun _ => fun
  | [] => { results := [.lit (.bool true)], args := [] }
  | _ => none }
def fourwayNamesRow : OpenClaim := { program := "ytibncchobkaaiaa", sum := "226107f36f50341e7ca2c718e5a2c15715cce971b2bf70965c5a4206105d5358", func := "hotspot/hotspotlaw25.FourwayNames", spec := "fourwayNames", inPlace := ["internal/bytealg.Compare"], unfollowed := true, recurses := true, plainKeys := false, apart := false }
def FourwayNamesSaid : Prop := fourwayNamesRow.holds Try.pinned (OpenSpec.ofChange fourwayNamesSpec)

/-- ITS FALSE NEIGHBOUR: 'it returns false'. Refute it at one input. -/
def fourwayNamesWrong : ChangeSpec := { name := "fourwayNames", fn := fun _ => fun
  | [] => { results := [.lit (.bool false)], args := [] }
  | _ => none }
def FourwayNamesWrongFalsely : Prop := fourwayNamesRow.holds Try.pinned (OpenSpec.ofChange fourwayNamesWrong)

/-- 'hotspotlaw25.FourwayAgrees': WHATEVER THE INPUT: true; the input reads as it did. -/
def fourwayAgreesSpec : ChangeSpec := { name := "fourwayAgrees", fn := fun _ => fun
  | [d1, d2] => { results := [.lit (.bool true)], args := [d1, d2] }
  | _ => none }
def fourwayAgreesRow : OpenClaim := { program := "ytibncchobkaaiaa", sum := "226107f36f50341e7ca2c718e5a2c15715cce971b2bf70965c5a4206105d5358", func := "hotspot/hotspotlaw25.FourwayAgrees", spec := "fourwayAgrees", inPlace := ["internal/bytealg.Compare"], unfollowed := true, recurses := true, plainKeys := false, apart := false }
def FourwayAgreesSaid : Prop := fourwayAgreesRow.holds Try.pinned (OpenSpec.ofChange fourwayAgreesSpec)

/-- ITS FALSE NEIGHBOUR: 'it returns false'. Refute it at one input. -/
def fourwayAgreesWrong : ChangeSpec := { name := "fourwayAgrees", fn := fun _ => fun
  | [d1, d2] => { results := [.lit (.bool false)], args := [d1, d2] }
  | _ => none }
def FourwayAgreesWrongFalsely : Prop := fourwayAgreesRow.holds Try.pinned (OpenSpec.ofChange fourwayAgreesWrong)

/-- 'hotspotlaw25.FourwayOnce': WHATEVER THE INPUT: true; the input reads as it did. -/
def fourwayOnceSpec : ChangeSpec := { name := "fourwayOnce", fn := fun _ => fun
  | [d1, d2] => { results := [.lit (.bool true)], args := [d1, d2] }
  | _ => none }
def fourwayOnceRow : OpenClaim := { program := "ytibncchobkaaiaa", sum := "226107f36f50341e7ca2c718e5a2c15715cce971b2bf70965c5a4206105d5358", func := "hotspot/hotspotlaw25.FourwayOnce", spec := "fourwayOnce", inPlace := ["internal/bytealg.Compare"], unfollowed := true, recurses := true, plainKeys := false, apart := false }
def FourwayOnceSaid : Prop := fourwayOnceRow.holds Try.pinned (OpenSpec.ofChange fourwayOnceSpec)

/-- ITS FALSE NEIGHBOUR: 'it returns false'. Refute it at one input. -/
def fourwayOnceWrong : ChangeSpec := { name := "fourwayOnce", fn := fun _ => fun
  | [d1, d2] => { results := [.lit (.bool false)], args := [d1, d2] }
  | _ => none }
def FourwayOnceWrongFalsely : Prop := fourwayOnceRow.holds Try.pinned (OpenSpec.ofChange fourwayOnceWrong)

/-- 'hotspotlaw25.FourwayLosses': WHATEVER THE INPUT: true; the input reads as it did. -/
def fourwayLossesSpec : ChangeSpec := { name := "fourwayLosses", fn := fun _ => fun
  | [d1, d2, d3, d4] => { results := [.lit (.bool true)], args := [d1, d2, d3, d4] }
  | _ => none }
def fourwayLossesRow : OpenClaim := { program := "ytibncchobkaaiaa", sum := "226107f36f50341e7ca2c718e5a2c15715cce971b2bf70965c5a4206105d5358", func := "hotspot/hotspotlaw25.FourwayLosses", spec := "fourwayLosses", inPlace := ["internal/bytealg.Compare"], unfollowed := true, recurses := true, plainKeys := false, apart := false }
def FourwayLossesSaid : Prop := fourwayLossesRow.holds Try.pinned (OpenSpec.ofChange fourwayLossesSpec)

/-- ITS FALSE NEIGHBOUR: 'it returns false'. Refute it at one input. -/
def fourwayLossesWrong : ChangeSpec := { name := "fourwayLosses", fn := fun _ => fun
  | [d1, d2, d3, d4] => { results := [.lit (.bool false)], args := [d1, d2, d3, d4] }
  | _ => none }
def FourwayLossesWrongFalsely : Prop := fourwayLossesRow.holds Try.pinned (OpenSpec.ofChange fourwayLossesWrong)

/-- 'hotspotlaw25.FourwayGivesUp': WHATEVER THE INPUT: true; the input reads as it did. -/
def fourwayGivesUpSpec : ChangeSpec := { name := "fourwayGivesUp", fn := fun _ => fun
  | [d1, d2] => { results := [.lit (.bool true)], args := [d1, d2] }
  | _ => none }
def fourwayGivesUpRow : OpenClaim := { program := "ytibncchobkaaiaa", sum := "226107f36f50341e7ca2c718e5a2c15715cce971b2bf70965c5a4206105d5358", func := "hotspot/hotspotlaw25.FourwayGivesUp", spec := "fourwayGivesUp", inPlace := ["internal/bytealg.Compare"], unfollowed := true, recurses := true, plainKeys := false, apart := false }
def FourwayGivesUpSaid : Prop := fourwayGivesUpRow.holds Try.pinned (OpenSpec.ofChange fourwayGivesUpSpec)

/-- ITS FALSE NEIGHBOUR: 'it returns false'. Refute it at one input. -/
def fourwayGivesUpWrong : ChangeSpec := { name := "fourwayGivesUp", fn := fun _ => fun
  | [d1, d2] => { results := [.lit (.bool false)], args := [d1, d2] }
  | _ => none }
def FourwayGivesUpWrongFalsely : Prop := fourwayGivesUpRow.holds Try.pinned (OpenSpec.ofChange fourwayGivesUpWrong)

/- THE SECOND FORM. 'bulk': how many values and letters a reading holds, each counted each time it is reached (what is shared counts as often as it is met; a slice's spare places count too). A statement '..UptoSaid' is the law's where the arguments, and the package variables that the reading takes, are together of bulk at most 1048576: NARROWER than '..Said'. Prove '..Said' where nothing that the law and all that it calls make is longer than what came in: it says more and counts as full. Else prove '..UptoSaid'. A law counts once. -/
mutual
def uptoBulk {H : Type} : DataW H → Nat
  | .lit (.string bytes) => bytes.length + 1
  | .lit _ => 1
  | .nil => 1
  | .ptr d => uptoBulk d + 1
  | .slice elems spare => uptoBulkAll elems + uptoBulkAll spare + 1
  | .agg parts => uptoBulkAll parts + 1
  | .iface _ d => uptoBulk d + 1
  | .map entries => uptoBulkEntries entries + 1
  | .held _ => 1
def uptoBulkAll {H : Type} : List (DataW H) → Nat
  | [] => 0
  | d :: r => uptoBulk d + uptoBulkAll r
def uptoBulkEntries {H : Type} : List (Lit × DataW H) → Nat
  | [] => 0
  | x :: r => uptoBulkEntry x + uptoBulkEntries r
def uptoBulkEntry {H : Type} : Lit × DataW H → Nat
  | (.string bytes, d) => bytes.length + uptoBulk d + 1
  | (_, d) => uptoBulk d + 1
 end
def uptoSmall : (H : Type) → List (DataW H) → Bool := fun _ ds => decide (uptoBulkAll ds ≤ 1048576)
def OpenSpec.upto (s : _root_.Go.ChangeSpec) : _root_.Go.OpenSpec := { _root_.Go.OpenSpec.ofChange s with cond := some uptoSmall }

/-- 'hotspotlaw25.FourwayMatches', WHERE WHAT IT READS IS OF BULK AT MOST 1048576: true; the input reads as it did. -/
def fourwayMatchesUptoRow : OpenClaim := { program := "ytibncchobkaaiaa", sum := "226107f36f50341e7ca2c718e5a2c15715cce971b2bf70965c5a4206105d5358", func := "hotspot/hotspotlaw25.FourwayMatches", spec := "fourwayMatches", inPlace := ["internal/bytealg.Compare"], unfollowed := true, recurses := true, plainKeys := false, apart := false, narrowed := true }
def FourwayMatchesUptoSaid : Prop := fourwayMatchesUptoRow.holds Try.pinned (OpenSpec.upto fourwayMatchesSpec)

/-- 'hotspotlaw25.FourwayRuns', WHERE WHAT IT READS IS OF BULK AT MOST 1048576: true; the input reads as it did. -/
def fourwayRunsUptoRow : OpenClaim := { program := "ytibncchobkaaiaa", sum := "226107f36f50341e7ca2c718e5a2c15715cce971b2bf70965c5a4206105d5358", func := "hotspot/hotspotlaw25.FourwayRuns", spec := "fourwayRuns", inPlace := ["internal/bytealg.Compare"], unfollowed := true, recurses := true, plainKeys := false, apart := false, narrowed := true }
def FourwayRunsUptoSaid : Prop := fourwayRunsUptoRow.holds Try.pinned (OpenSpec.upto fourwayRunsSpec)

/-- 'hotspotlaw25.FourwayNames', WHERE WHAT IT READS IS OF BULK AT MOST 1048576: true; the input reads as it did. -/
def fourwayNamesUptoRow : OpenClaim := { program := "ytibncchobkaaiaa", sum := "226107f36f50341e7ca2c718e5a2c15715cce971b2bf70965c5a4206105d5358", func := "hotspot/hotspotlaw25.FourwayNames", spec := "fourwayNames", inPlace := ["internal/bytealg.Compare"], unfollowed := true, recurses := true, plainKeys := false, apart := false, narrowed := true }
def FourwayNamesUptoSaid : Prop := fourwayNamesUptoRow.holds Try.pinned (OpenSpec.upto fourwayNamesSpec)

/-- 'hotspotlaw25.FourwayAgrees', WHERE WHAT IT READS IS OF BULK AT MOST 1048576: true; the input reads as it did. -/
def fourwayAgreesUptoRow : OpenClaim := { program := "ytibncchobkaaiaa", sum := "226107f36f50341e7ca2c718e5a2c15715cce971b2bf70965c5a4206105d5358", func := "hotspot/hotspotlaw25.FourwayAgrees", spec := "fourwayAgrees", inPlace := ["internal/bytealg.Compare"], unfollowed := true, recurses := true, plainKeys := false, apart := false, narrowed := true }
def FourwayAgreesUptoSaid : Prop := fourwayAgreesUptoRow.holds Try.pinned (OpenSpec.upto fourwayAgreesSpec)

/-- 'hotspotlaw25.FourwayOnce', WHERE WHAT IT READS IS OF BULK AT MOST 1048576: true; the input reads as it did. -/
def fourwayOnceUptoRow : OpenClaim := { program := "ytibncchobkaaiaa", sum := "226107f36f50341e7ca2c718e5a2c15715cce971b2bf70965c5a4206105d5358", func := "hotspot/hotspotlaw25.FourwayOnce", spec := "fourwayOnce", inPlace := ["internal/bytealg.Compare"], unfollowed := true, recurses := true, plainKeys := false, apart := false, narrowed := true }
def FourwayOnceUptoSaid : Prop := fourwayOnceUptoRow.holds Try.pinned (OpenSpec.upto fourwayOnceSpec)

/-- 'hotspotlaw25.FourwayLosses', WHERE WHAT IT READS IS OF BULK AT MOST 1048576: true; the input reads as it did. -/
def fourwayLossesUptoRow : OpenClaim := { program := "ytibncchobkaaiaa", sum := "226107f36f50341e7ca2c718e5a2c15715cce971b2bf70965c5a4206105d5358", func := "hotspot/hotspotlaw25.FourwayLosses", spec := "fourwayLosses", inPlace := ["internal/bytealg.Compare"], unfollowed := true, recurses := true, plainKeys := false, apart := false, narrowed := true }
def FourwayLossesUptoSaid : Prop := fourwayLossesUptoRow.holds Try.pinned (OpenSpec.upto fourwayLossesSpec)

/-- 'hotspotlaw25.FourwayGivesUp', WHERE WHAT IT READS IS OF BULK AT MOST 1048576: true; the input reads as it did. -/
def fourwayGivesUpUptoRow : OpenClaim := { program := "ytibncchobkaaiaa", sum := "226107f36f50341e7ca2c718e5a2c15715cce971b2bf70965c5a4206105d5358", func := "hotspot/hotspotlaw25.FourwayGivesUp", spec := "fourwayGivesUp", inPlace := ["internal/bytealg.Compare"], unfollowed := true, recurses := true, plainKeys := false, apart := false, narrowed := true }
def FourwayGivesUpUptoSaid : Prop := fourwayGivesUpUptoRow.holds Try.pinned (OpenSpec.upto fourwayGivesUpSpec)

end Rows
end Go.Proofs.Ytibncchobkaaiaa
