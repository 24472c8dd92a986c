/-
  No cell of these rows narrows 'for every input' (looked for: loops, veiled, ifaces, maps, wideKeys, modest, calm, conditions, laid).
  DERIVED. THE GIVEN ROWS OF THIS SEAT. 6 by the template 'for every input the law returns true; each argument reads behind the call as it read before'; 0 by the template 'total and deterministic' (their statements: YtaoaifllllhokaaTotals.lean).
  GIVEN WITH THE SEED: the statements are not yours to turn. If you find one false, say at which input.
  Laid BY PROGRAM, IN A SANDBOX (cutbox-rows.mjs): the forced cells as the released guide's own fill.sh prints them over the translation 94a450e4fe8a4458… (all of the seat's roots in one cut). By AI agents, Wed Nov 11 2026. No macro, syntax, notation, axiom, sorry.
-/
import Derived.Test.YtaoaifllllhokaaChecked
import GoSem.Claim
import GoSem.ClaimJoined
import GoSem.ClaimMapViews
import Derived.JoinedTies
import Derived.KernelRfl
namespace Go.Proofs.Ytaoaifllllhokaa
/- THE CELL 'sum', in the pinned program and in every row, IS THE sha256 OF THE DUMP (.gsa) THAT YtaoaifllllhokaaProg.lean LOADS. Nothing in Lean hashes anything: it is a label: what it is worth is what the hold of that sum in a sandbox is worth. -/
noncomputable def Try.pinned : Pinned := { name := "ytaoaifllllhokaa", sum := "94a450e4fe8a4458453c140d565369aba3b1cd5a60e565a975948b423220f823", checked := Try.checked }
namespace Rows
def none {H : Type} : Left H := { results := [], args := [] }

/-- 'hotspotlaw21.CipherNames': WHATEVER THE INPUT: true; the input reads as it did. -/
def cipherNamesSpec : ChangeSpec := { name := "cipherNames", fn := fun _ => fun
  | [] => { results := [.lit (.bool true)], args := [] }
  | _ => none }
def cipherNamesRow : OpenClaim := { program := "ytaoaifllllhokaa", sum := "94a450e4fe8a4458453c140d565369aba3b1cd5a60e565a975948b423220f823", func := "hotspot/hotspotlaw21.CipherNames", spec := "cipherNames", apart := false }
def CipherNamesSaid : Prop := cipherNamesRow.holds Try.pinned (OpenSpec.ofChange cipherNamesSpec)

/-- ITS FALSE NEIGHBOUR: 'it returns false'. Refute it at one input. -/
def cipherNamesWrong : ChangeSpec := { name := "cipherNames", fn := fun _ => fun
  | [] => { results := [.lit (.bool false)], args := [] }
  | _ => none }
def CipherNamesWrongFalsely : Prop := cipherNamesRow.holds Try.pinned (OpenSpec.ofChange cipherNamesWrong)

/-- 'hotspotlaw21.CipherRounds': WHATEVER THE INPUT: true; the input reads as it did. -/
def cipherRoundsSpec : ChangeSpec := { name := "cipherRounds", fn := fun _ => fun
  | [d1, d2, d3] => { results := [.lit (.bool true)], args := [d1, d2, d3] }
  | _ => none }
def cipherRoundsRow : OpenClaim := { program := "ytaoaifllllhokaa", sum := "94a450e4fe8a4458453c140d565369aba3b1cd5a60e565a975948b423220f823", func := "hotspot/hotspotlaw21.CipherRounds", spec := "cipherRounds", apart := false }
def CipherRoundsSaid : Prop := cipherRoundsRow.holds Try.pinned (OpenSpec.ofChange cipherRoundsSpec)

/-- ITS FALSE NEIGHBOUR: 'it returns false'. Refute it at one input. -/
def cipherRoundsWrong : ChangeSpec := { name := "cipherRounds", fn := fun _ => fun
  | [d1, d2, d3] => { results := [.lit (.bool false)], args := [d1, d2, d3] }
  | _ => none }
def CipherRoundsWrongFalsely : Prop := cipherRoundsRow.holds Try.pinned (OpenSpec.ofChange cipherRoundsWrong)

/-- 'hotspotlaw21.CipherChain': WHATEVER THE INPUT: true; the input reads as it did. -/
def cipherChainSpec : ChangeSpec := { name := "cipherChain", fn := fun _ => fun
  | [d1, d2] => { results := [.lit (.bool true)], args := [d1, d2] }
  | _ => none }
def cipherChainRow : OpenClaim := { program := "ytaoaifllllhokaa", sum := "94a450e4fe8a4458453c140d565369aba3b1cd5a60e565a975948b423220f823", func := "hotspot/hotspotlaw21.CipherChain", spec := "cipherChain", apart := false }
def CipherChainSaid : Prop := cipherChainRow.holds Try.pinned (OpenSpec.ofChange cipherChainSpec)

/-- ITS FALSE NEIGHBOUR: 'it returns false'. Refute it at one input. -/
def cipherChainWrong : ChangeSpec := { name := "cipherChain", fn := fun _ => fun
  | [d1, d2] => { results := [.lit (.bool false)], args := [d1, d2] }
  | _ => none }
def CipherChainWrongFalsely : Prop := cipherChainRow.holds Try.pinned (OpenSpec.ofChange cipherChainWrong)

/-- 'hotspotlaw21.CipherMatches': WHATEVER THE INPUT: true; the input reads as it did. -/
def cipherMatchesSpec : ChangeSpec := { name := "cipherMatches", fn := fun _ => fun
  | [d1, d2] => { results := [.lit (.bool true)], args := [d1, d2] }
  | _ => none }
def cipherMatchesRow : OpenClaim := { program := "ytaoaifllllhokaa", sum := "94a450e4fe8a4458453c140d565369aba3b1cd5a60e565a975948b423220f823", func := "hotspot/hotspotlaw21.CipherMatches", spec := "cipherMatches", apart := false }
def CipherMatchesSaid : Prop := cipherMatchesRow.holds Try.pinned (OpenSpec.ofChange cipherMatchesSpec)

/-- ITS FALSE NEIGHBOUR: 'it returns false'. Refute it at one input. -/
def cipherMatchesWrong : ChangeSpec := { name := "cipherMatches", fn := fun _ => fun
  | [d1, d2] => { results := [.lit (.bool false)], args := [d1, d2] }
  | _ => none }
def CipherMatchesWrongFalsely : Prop := cipherMatchesRow.holds Try.pinned (OpenSpec.ofChange cipherMatchesWrong)

/-- 'hotspotlaw21.CipherBack': WHATEVER THE INPUT: true; the input reads as it did. -/
def cipherBackSpec : ChangeSpec := { name := "cipherBack", fn := fun _ => fun
  | [d1, d2] => { results := [.lit (.bool true)], args := [d1, d2] }
  | _ => none }
def cipherBackRow : OpenClaim := { program := "ytaoaifllllhokaa", sum := "94a450e4fe8a4458453c140d565369aba3b1cd5a60e565a975948b423220f823", func := "hotspot/hotspotlaw21.CipherBack", spec := "cipherBack", apart := false }
def CipherBackSaid : Prop := cipherBackRow.holds Try.pinned (OpenSpec.ofChange cipherBackSpec)

/-- ITS FALSE NEIGHBOUR: 'it returns false'. Refute it at one input. -/
def cipherBackWrong : ChangeSpec := { name := "cipherBack", fn := fun _ => fun
  | [d1, d2] => { results := [.lit (.bool false)], args := [d1, d2] }
  | _ => none }
def CipherBackWrongFalsely : Prop := cipherBackRow.holds Try.pinned (OpenSpec.ofChange cipherBackWrong)

/-- 'hotspotlaw21.CipherApart': WHATEVER THE INPUT: true; the input reads as it did. -/
def cipherApartSpec : ChangeSpec := { name := "cipherApart", fn := fun _ => fun
  | [d1, d2, d3] => { results := [.lit (.bool true)], args := [d1, d2, d3] }
  | _ => none }
def cipherApartRow : OpenClaim := { program := "ytaoaifllllhokaa", sum := "94a450e4fe8a4458453c140d565369aba3b1cd5a60e565a975948b423220f823", func := "hotspot/hotspotlaw21.CipherApart", spec := "cipherApart", apart := false }
def CipherApartSaid : Prop := cipherApartRow.holds Try.pinned (OpenSpec.ofChange cipherApartSpec)

/-- ITS FALSE NEIGHBOUR: 'it returns false'. Refute it at one input. -/
def cipherApartWrong : ChangeSpec := { name := "cipherApart", fn := fun _ => fun
  | [d1, d2, d3] => { results := [.lit (.bool false)], args := [d1, d2, d3] }
  | _ => none }
def CipherApartWrongFalsely : Prop := cipherApartRow.holds Try.pinned (OpenSpec.ofChange cipherApartWrong)

/- THE SECOND FORM. 'bulk': how many values and letters a reading holds, each counted each time it is reached (what is shared counts as often as it is met; a slice's spare places count too). A statement '..UptoSaid' is the law's where the arguments, and the package variables that the reading takes, are together of bulk at most 1048576: NARROWER than '..Said'. Prove '..Said' where nothing that the law and all that it calls make is longer than what came in: it says more and counts as full. Else prove '..UptoSaid'. A law counts once. -/
mutual
def uptoBulk {H : Type} : DataW H → Nat
  | .lit (.string bytes) => bytes.length + 1
  | .lit _ => 1
  | .nil => 1
  | .ptr d => uptoBulk d + 1
  | .slice elems spare => uptoBulkAll elems + uptoBulkAll spare + 1
  | .agg parts => uptoBulkAll parts + 1
  | .iface _ d => uptoBulk d + 1
  | .map entries => uptoBulkEntries entries + 1
  | .held _ => 1
def uptoBulkAll {H : Type} : List (DataW H) → Nat
  | [] => 0
  | d :: r => uptoBulk d + uptoBulkAll r
def uptoBulkEntries {H : Type} : List (Lit × DataW H) → Nat
  | [] => 0
  | x :: r => uptoBulkEntry x + uptoBulkEntries r
def uptoBulkEntry {H : Type} : Lit × DataW H → Nat
  | (.string bytes, d) => bytes.length + uptoBulk d + 1
  | (_, d) => uptoBulk d + 1
 end
def uptoSmall : (H : Type) → List (DataW H) → Bool := fun _ ds => decide (uptoBulkAll ds ≤ 1048576)
def OpenSpec.upto (s : _root_.Go.ChangeSpec) : _root_.Go.OpenSpec := { _root_.Go.OpenSpec.ofChange s with cond := some uptoSmall }

/-- 'hotspotlaw21.CipherNames', WHERE WHAT IT READS IS OF BULK AT MOST 1048576: true; the input reads as it did. -/
def cipherNamesUptoRow : OpenClaim := { program := "ytaoaifllllhokaa", sum := "94a450e4fe8a4458453c140d565369aba3b1cd5a60e565a975948b423220f823", func := "hotspot/hotspotlaw21.CipherNames", spec := "cipherNames", apart := false, narrowed := true }
def CipherNamesUptoSaid : Prop := cipherNamesUptoRow.holds Try.pinned (OpenSpec.upto cipherNamesSpec)

/-- 'hotspotlaw21.CipherRounds', WHERE WHAT IT READS IS OF BULK AT MOST 1048576: true; the input reads as it did. -/
def cipherRoundsUptoRow : OpenClaim := { program := "ytaoaifllllhokaa", sum := "94a450e4fe8a4458453c140d565369aba3b1cd5a60e565a975948b423220f823", func := "hotspot/hotspotlaw21.CipherRounds", spec := "cipherRounds", apart := false, narrowed := true }
def CipherRoundsUptoSaid : Prop := cipherRoundsUptoRow.holds Try.pinned (OpenSpec.upto cipherRoundsSpec)

/-- 'hotspotlaw21.CipherChain', WHERE WHAT IT READS IS OF BULK AT MOST 1048576: true; the input reads as it did. -/
def cipherChainUptoRow : OpenClaim := { program := "ytaoaifllllhokaa", sum := "94a450e4fe8a4458453c140d565369aba3b1cd5a60e565a975948b423220f823", func := "hotspot/hotspotlaw21.CipherChain", spec := "cipherChain", apart := false, narrowed := true }
def CipherChainUptoSaid : Prop := cipherChainUptoRow.holds Try.pinned (OpenSpec.upto cipherChainSpec)

/-- 'hotspotlaw21.CipherMatches', WHERE WHAT IT READS IS OF BULK AT MOST 1048576: true; the input reads as it did. -/
def cipherMatchesUptoRow : OpenClaim := { program := "ytaoaifllllhokaa", sum := "94a450e4fe8a4458453c140d565369aba3b1cd5a60e565a975948b423220f823", func := "hotspot/hotspotlaw21.CipherMatches", spec := "cipherMatches", apart := false, narrowed := true }
def CipherMatchesUptoSaid : Prop := cipherMatchesUptoRow.holds Try.pinned (OpenSpec.upto cipherMatchesSpec)

/-- 'hotspotlaw21.CipherBack', WHERE WHAT IT READS IS OF BULK AT MOST 1048576: true; the input reads as it did. -/
def cipherBackUptoRow : OpenClaim := { program := "ytaoaifllllhokaa", sum := "94a450e4fe8a4458453c140d565369aba3b1cd5a60e565a975948b423220f823", func := "hotspot/hotspotlaw21.CipherBack", spec := "cipherBack", apart := false, narrowed := true }
def CipherBackUptoSaid : Prop := cipherBackUptoRow.holds Try.pinned (OpenSpec.upto cipherBackSpec)

/-- 'hotspotlaw21.CipherApart', WHERE WHAT IT READS IS OF BULK AT MOST 1048576: true; the input reads as it did. -/
def cipherApartUptoRow : OpenClaim := { program := "ytaoaifllllhokaa", sum := "94a450e4fe8a4458453c140d565369aba3b1cd5a60e565a975948b423220f823", func := "hotspot/hotspotlaw21.CipherApart", spec := "cipherApart", apart := false, narrowed := true }
def CipherApartUptoSaid : Prop := cipherApartUptoRow.holds Try.pinned (OpenSpec.upto cipherApartSpec)

end Rows
end Go.Proofs.Ytaoaifllllhokaa
