/-
  No cell of these rows narrows 'for every input' (looked for: loops, veiled, ifaces, maps, wideKeys, modest, calm, conditions, laid).
  DERIVED. THE GIVEN ROWS OF THIS SEAT. 7 by the template 'for every input the law returns true; each argument reads behind the call as it read before'; 0 by the template 'total and deterministic' (their statements: YtjnaegpjhbobaaaTotals.lean).
  GIVEN WITH THE SEED: the statements are not yours to turn. If you find one false, say at which input.
  Laid BY PROGRAM, IN A SANDBOX (cutbox-rows.mjs): the forced cells as the released guide's own fill.sh prints them over the translation 28abc990b9ffb34d… (all of the seat's roots in one cut). By AI agents, Wed Nov 11 2026. No macro, syntax, notation, axiom, sorry.
-/
import Derived.Test.YtjnaegpjhbobaaaChecked
import GoSem.Claim
import GoSem.ClaimJoined
import GoSem.ClaimMapViews
import Derived.JoinedTies
import Derived.KernelRfl
namespace Go.Proofs.Ytjnaegpjhbobaaa
/- THE CELL 'sum', in the pinned program and in every row, IS THE sha256 OF THE DUMP (.gsa) THAT YtjnaegpjhbobaaaProg.lean LOADS. Nothing in Lean hashes anything: it is a label: what it is worth is what the hold of that sum in a sandbox is worth. -/
noncomputable def Try.pinned : Pinned := { name := "ytjnaegpjhbobaaa", sum := "28abc990b9ffb34d03b39288cde76b55a8324bb48f72ff4a0e5b49a311895b90", checked := Try.checked }
namespace Rows
def none {H : Type} : Left H := { results := [], args := [] }

/-- 'hotspotlaw24.CounterOrder': WHATEVER THE INPUT: true; the input reads as it did. -/
def counterOrderSpec : ChangeSpec := { name := "counterOrder", fn := fun _ => fun
  | [d1, d2, d3] => { results := [.lit (.bool true)], args := [d1, d2, d3] }
  | _ => none }
def counterOrderRow : OpenClaim := { program := "ytjnaegpjhbobaaa", sum := "28abc990b9ffb34d03b39288cde76b55a8324bb48f72ff4a0e5b49a311895b90", func := "hotspot/hotspotlaw24.CounterOrder", spec := "counterOrder", unfollowed := true, recurses := true, apart := false }
def CounterOrderSaid : Prop := counterOrderRow.holds Try.pinned (OpenSpec.ofChange counterOrderSpec)

/-- ITS FALSE NEIGHBOUR: 'it returns false'. Refute it at one input. -/
def counterOrderWrong : ChangeSpec := { name := "counterOrder", fn := fun _ => fun
  | [d1, d2, d3] => { results := [.lit (.bool false)], args := [d1, d2, d3] }
  | _ => none }
def CounterOrderWrongFalsely : Prop := counterOrderRow.holds Try.pinned (OpenSpec.ofChange counterOrderWrong)

/-- 'hotspotlaw24.CounterGrows': WHATEVER THE INPUT: true; the input reads as it did. -/
def counterGrowsSpec : ChangeSpec := { name := "counterGrows", fn := fun _ => fun
  | [d1, d2, d3] => { results := [.lit (.bool true)], args := [d1, d2, d3] }
  | _ => none }
def counterGrowsRow : OpenClaim := { program := "ytjnaegpjhbobaaa", sum := "28abc990b9ffb34d03b39288cde76b55a8324bb48f72ff4a0e5b49a311895b90", func := "hotspot/hotspotlaw24.CounterGrows", spec := "counterGrows", unfollowed := true, recurses := true, apart := false }
def CounterGrowsSaid : Prop := counterGrowsRow.holds Try.pinned (OpenSpec.ofChange counterGrowsSpec)

/-- ITS FALSE NEIGHBOUR: 'it returns false'. Refute it at one input. -/
def counterGrowsWrong : ChangeSpec := { name := "counterGrows", fn := fun _ => fun
  | [d1, d2, d3] => { results := [.lit (.bool false)], args := [d1, d2, d3] }
  | _ => none }
def CounterGrowsWrongFalsely : Prop := counterGrowsRow.holds Try.pinned (OpenSpec.ofChange counterGrowsWrong)

/-- 'hotspotlaw24.CounterMatches': WHATEVER THE INPUT: true; the input reads as it did. -/
def counterMatchesSpec : ChangeSpec := { name := "counterMatches", fn := fun _ => fun
  | [d1, d2, d3] => { results := [.lit (.bool true)], args := [d1, d2, d3] }
  | _ => none }
def counterMatchesRow : OpenClaim := { program := "ytjnaegpjhbobaaa", sum := "28abc990b9ffb34d03b39288cde76b55a8324bb48f72ff4a0e5b49a311895b90", func := "hotspot/hotspotlaw24.CounterMatches", spec := "counterMatches", unfollowed := true, recurses := true, apart := false }
def CounterMatchesSaid : Prop := counterMatchesRow.holds Try.pinned (OpenSpec.ofChange counterMatchesSpec)

/-- ITS FALSE NEIGHBOUR: 'it returns false'. Refute it at one input. -/
def counterMatchesWrong : ChangeSpec := { name := "counterMatches", fn := fun _ => fun
  | [d1, d2, d3] => { results := [.lit (.bool false)], args := [d1, d2, d3] }
  | _ => none }
def CounterMatchesWrongFalsely : Prop := counterMatchesRow.holds Try.pinned (OpenSpec.ofChange counterMatchesWrong)

/-- 'hotspotlaw24.CounterCounts': WHATEVER THE INPUT: true; the input reads as it did. -/
def counterCountsSpec : ChangeSpec := { name := "counterCounts", fn := fun _ => fun
  | [d1, d2, d3, d4] => { results := [.lit (.bool true)], args := [d1, d2, d3, d4] }
  | _ => none }
def counterCountsRow : OpenClaim := { program := "ytjnaegpjhbobaaa", sum := "28abc990b9ffb34d03b39288cde76b55a8324bb48f72ff4a0e5b49a311895b90", func := "hotspot/hotspotlaw24.CounterCounts", spec := "counterCounts", unfollowed := true, recurses := true, apart := false }
def CounterCountsSaid : Prop := counterCountsRow.holds Try.pinned (OpenSpec.ofChange counterCountsSpec)

/-- ITS FALSE NEIGHBOUR: 'it returns false'. Refute it at one input. -/
def counterCountsWrong : ChangeSpec := { name := "counterCounts", fn := fun _ => fun
  | [d1, d2, d3, d4] => { results := [.lit (.bool false)], args := [d1, d2, d3, d4] }
  | _ => none }
def CounterCountsWrongFalsely : Prop := counterCountsRow.holds Try.pinned (OpenSpec.ofChange counterCountsWrong)

/-- 'hotspotlaw24.CounterNames': WHATEVER THE INPUT: true; the input reads as it did. -/
def counterNamesSpec : ChangeSpec := { name := "counterNames", fn := fun _ => fun
  | [] => { results := [.lit (.bool true)], args := [] }
  | _ => none }
def counterNamesRow : OpenClaim := { program := "ytjnaegpjhbobaaa", sum := "28abc990b9ffb34d03b39288cde76b55a8324bb48f72ff4a0e5b49a311895b90", func := "hotspot/hotspotlaw24.CounterNames", spec := "counterNames", unfollowed := true, recurses := true, apart := false }
def CounterNamesSaid : Prop := counterNamesRow.holds Try.pinned (OpenSpec.ofChange counterNamesSpec)

/-- ITS FALSE NEIGHBOUR: 'it returns false'. Refute it at one input. -/
def counterNamesWrong : ChangeSpec := { name := "counterNames", fn := fun _ => fun
  | [] => { results := [.lit (.bool false)], args := [] }
  | _ => none }
def CounterNamesWrongFalsely : Prop := counterNamesRow.holds Try.pinned (OpenSpec.ofChange counterNamesWrong)

/-- 'hotspotlaw24.CounterOnce': WHATEVER THE INPUT: true; the input reads as it did. -/
def counterOnceSpec : ChangeSpec := { name := "counterOnce", fn := fun _ => fun
  | [d] => { results := [.lit (.bool true)], args := [d] }
  | _ => none }
def counterOnceRow : OpenClaim := { program := "ytjnaegpjhbobaaa", sum := "28abc990b9ffb34d03b39288cde76b55a8324bb48f72ff4a0e5b49a311895b90", func := "hotspot/hotspotlaw24.CounterOnce", spec := "counterOnce", unfollowed := true, recurses := true, apart := false }
def CounterOnceSaid : Prop := counterOnceRow.holds Try.pinned (OpenSpec.ofChange counterOnceSpec)

/-- ITS FALSE NEIGHBOUR: 'it returns false'. Refute it at one input. -/
def counterOnceWrong : ChangeSpec := { name := "counterOnce", fn := fun _ => fun
  | [d] => { results := [.lit (.bool false)], args := [d] }
  | _ => none }
def CounterOnceWrongFalsely : Prop := counterOnceRow.holds Try.pinned (OpenSpec.ofChange counterOnceWrong)

/-- 'hotspotlaw24.CounterRings': WHATEVER THE INPUT: true; the input reads as it did. -/
def counterRingsSpec : ChangeSpec := { name := "counterRings", fn := fun _ => fun
  | [d1, d2] => { results := [.lit (.bool true)], args := [d1, d2] }
  | _ => none }
def counterRingsRow : OpenClaim := { program := "ytjnaegpjhbobaaa", sum := "28abc990b9ffb34d03b39288cde76b55a8324bb48f72ff4a0e5b49a311895b90", func := "hotspot/hotspotlaw24.CounterRings", spec := "counterRings", unfollowed := true, recurses := true, apart := false }
def CounterRingsSaid : Prop := counterRingsRow.holds Try.pinned (OpenSpec.ofChange counterRingsSpec)

/-- ITS FALSE NEIGHBOUR: 'it returns false'. Refute it at one input. -/
def counterRingsWrong : ChangeSpec := { name := "counterRings", fn := fun _ => fun
  | [d1, d2] => { results := [.lit (.bool false)], args := [d1, d2] }
  | _ => none }
def CounterRingsWrongFalsely : Prop := counterRingsRow.holds Try.pinned (OpenSpec.ofChange counterRingsWrong)

/- THE SECOND FORM. 'bulk': how many values and letters a reading holds, each counted each time it is reached (what is shared counts as often as it is met; a slice's spare places count too). A statement '..UptoSaid' is the law's where the arguments, and the package variables that the reading takes, are together of bulk at most 1048576: NARROWER than '..Said'. Prove '..Said' where nothing that the law and all that it calls make is longer than what came in: it says more and counts as full. Else prove '..UptoSaid'. A law counts once. -/
mutual
def uptoBulk {H : Type} : DataW H → Nat
  | .lit (.string bytes) => bytes.length + 1
  | .lit _ => 1
  | .nil => 1
  | .ptr d => uptoBulk d + 1
  | .slice elems spare => uptoBulkAll elems + uptoBulkAll spare + 1
  | .agg parts => uptoBulkAll parts + 1
  | .iface _ d => uptoBulk d + 1
  | .map entries => uptoBulkEntries entries + 1
  | .held _ => 1
def uptoBulkAll {H : Type} : List (DataW H) → Nat
  | [] => 0
  | d :: r => uptoBulk d + uptoBulkAll r
def uptoBulkEntries {H : Type} : List (Lit × DataW H) → Nat
  | [] => 0
  | x :: r => uptoBulkEntry x + uptoBulkEntries r
def uptoBulkEntry {H : Type} : Lit × DataW H → Nat
  | (.string bytes, d) => bytes.length + uptoBulk d + 1
  | (_, d) => uptoBulk d + 1
 end
def uptoSmall : (H : Type) → List (DataW H) → Bool := fun _ ds => decide (uptoBulkAll ds ≤ 1048576)
def OpenSpec.upto (s : _root_.Go.ChangeSpec) : _root_.Go.OpenSpec := { _root_.Go.OpenSpec.ofChange s with cond := some uptoSmall }

/-- 'hotspotlaw24.CounterOrder', WHERE WHAT IT READS IS OF BULK AT MOST 1048576: true; the input reads as it did. -/
def counterOrderUptoRow : OpenClaim := { program := "ytjnaegpjhbobaaa", sum := "28abc990b9ffb34d03b39288cde76b55a8324bb48f72ff4a0e5b49a311895b90", func := "hotspot/hotspotlaw24.CounterOrder", spec := "counterOrder", unfollowed := true, recurses := true, apart := false, narrowed := true }
def CounterOrderUptoSaid : Prop := counterOrderUptoRow.holds Try.pinned (OpenSpec.upto counterOrderSpec)

/-- 'hotspotlaw24.CounterGrows', WHERE WHAT IT READS IS OF BULK AT MOST 1048576: true; the input reads as it did. -/
def counterGrowsUptoRow : OpenClaim := { program := "ytjnaegpjhbobaaa", sum := "28abc990b9ffb34d03b39288cde76b55a8324bb48f72ff4a0e5b49a311895b90", func := "hotspot/hotspotlaw24.CounterGrows", spec := "counterGrows", unfollowed := true, recurses := true, apart := false, narrowed := true }
def CounterGrowsUptoSaid : Prop := counterGrowsUptoRow.holds Try.pinned (OpenSpec.upto counterGrowsSpec)

/-- 'hotspotlaw24.CounterMatches', WHERE WHAT IT READS IS OF BULK AT MOST 1048576: true; the input reads as it did. -/
def counterMatchesUptoRow : OpenClaim := { program := "ytjnaegpjhbobaaa", sum := "28abc990b9ffb34d03b39288cde76b55a8324bb48f72ff4a0e5b49a311895b90", func := "hotspot/hotspotlaw24.CounterMatches", spec := "counterMatches", unfollowed := true, recurses := true, apart := false, narrowed := true }
def CounterMatchesUptoSaid : Prop := counterMatchesUptoRow.holds Try.pinned (OpenSpec.upto counterMatchesSpec)

/-- 'hotspotlaw24.CounterCounts', WHERE WHAT IT READS IS OF BULK AT MOST 1048576: true; the input reads as it did. -/
def counterCountsUptoRow : OpenClaim := { program := "ytjnaegpjhbobaaa", sum := "28abc990b9ffb34d03b39288cde76b55a8324bb48f72ff4a0e5b49a311895b90", func := "hotspot/hotspotlaw24.CounterCounts", spec := "counterCounts", unfollowed := true, recurses := true, apart := false, narrowed := true }
def CounterCountsUptoSaid : Prop := counterCountsUptoRow.holds Try.pinned (OpenSpec.upto counterCountsSpec)

/-- 'hotspotlaw24.CounterNames', WHERE WHAT IT READS IS OF BULK AT MOST 1048576: true; the input reads as it did. -/
def counterNamesUptoRow : OpenClaim := { program := "ytjnaegpjhbobaaa", sum := "28abc990b9ffb34d03b39288cde76b55a8324bb48f72ff4a0e5b49a311895b90", func := "hotspot/hotspotlaw24.CounterNames", spec := "counterNames", unfollowed := true, recurses := true, apart := false, narrowed := true }
def CounterNamesUptoSaid : Prop := counterNamesUptoRow.holds Try.pinned (OpenSpec.upto counterNamesSpec)

/-- 'hotspotlaw24.CounterOnce', WHERE WHAT IT READS IS OF BULK AT MOST 1048576: true; the input reads as it did. -/
def counterOnceUptoRow : OpenClaim := { program := "ytjnaegpjhbobaaa", sum := "28abc990b9ffb34d03b39288cde76b55a8324bb48f72ff4a0e5b49a311895b90", func := "hotspot/hotspotlaw24.CounterOnce", spec := "counterOnce", unfollowed := true, recurses := true, apart := false, narrowed := true }
def CounterOnceUptoSaid : Prop := counterOnceUptoRow.holds Try.pinned (OpenSpec.upto counterOnceSpec)

/-- 'hotspotlaw24.CounterRings', WHERE WHAT IT READS IS OF BULK AT MOST 1048576: true; the input reads as it did. -/
def counterRingsUptoRow : OpenClaim := { program := "ytjnaegpjhbobaaa", sum := "28abc990b9ffb34d03b39288cde76b55a8324bb48f72ff4a0e5b49a311895b90", func := "hotspot/hotspotlaw24.CounterRings", spec := "counterRings", unfollowed := true, recurses := true, apart := false, narrowed := true }
def CounterRingsUptoSaid : Prop := counterRingsUptoRow.holds Try.pinned (OpenSpec.upto counterRingsSpec)

end Rows
end Go.Proofs.Ytjnaegpjhbobaaa
