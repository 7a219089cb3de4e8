/-
  No cell of these rows narrows 'for every input' (looked for: loops, veiled, ifaces, maps, wideKeys, modest, calm, conditions, laid).
  DERIVED. THE GIVEN ROWS OF THIS SEAT. 12 by the template 'for every input the law returns true; each argument reads behind the call as it read before'; 0 by the template 'total and deterministic' (their statements: YtdfddcfgagfdoaaTotals.lean).
  GIVEN WITH THE SEED: the statements are not yours to turn. If you find one false, say at which input.
  Laid BY PROGRAM, IN A SANDBOX (cutbox-rows.mjs): the forced cells as the released guide's own fill.sh prints them over the translation c1a0beae3a760ca5… (all of the seat's roots in one cut). By AI agents, Wed Nov 11 2026. No macro, syntax, notation, axiom, sorry.
-/
import Derived.Test.YtdfddcfgagfdoaaChecked
import GoSem.Claim
import GoSem.ClaimJoined
import GoSem.ClaimMapViews
import Derived.JoinedTies
import Derived.KernelRfl
namespace Go.Proofs.Ytdfddcfgagfdoaa
/- THE CELL 'sum', in the pinned program and in every row, IS THE sha256 OF THE DUMP (.gsa) THAT YtdfddcfgagfdoaaProg.lean LOADS. Nothing in Lean hashes anything: it is a label: what it is worth is what the hold of that sum in a sandbox is worth. -/
noncomputable def Try.pinned : Pinned := { name := "ytdfddcfgagfdoaa", sum := "c1a0beae3a760ca581570c3c4a48b3b71cd76eb174632715689d471488498867", checked := Try.checked }
namespace Rows
def none {H : Type} : Left H := { results := [], args := [] }

/-- 'laws.FnExactStatesOf': WHATEVER THE INPUT: true; the input reads as it did. -/
def fnExactStatesOfSpec : ChangeSpec := { name := "fnExactStatesOf", fn := fun _ => fun
  | [d] => { results := [.lit (.bool true)], args := [d] }
  | _ => none }
def fnExactStatesOfRow : OpenClaim := { program := "ytdfddcfgagfdoaa", sum := "c1a0beae3a760ca581570c3c4a48b3b71cd76eb174632715689d471488498867", func := "loop.example/g01228/laws.FnExactStatesOf", spec := "fnExactStatesOf", unfollowed := true, recurses := true, apart := false }
def FnExactStatesOfSaid : Prop := fnExactStatesOfRow.holds Try.pinned (OpenSpec.ofChange fnExactStatesOfSpec)

/-- ITS FALSE NEIGHBOUR: 'it returns false'. Refute it at one input. -/
def fnExactStatesOfWrong : ChangeSpec := { name := "fnExactStatesOf", fn := fun _ => fun
  | [d] => { results := [.lit (.bool false)], args := [d] }
  | _ => none }
def FnExactStatesOfWrongFalsely : Prop := fnExactStatesOfRow.holds Try.pinned (OpenSpec.ofChange fnExactStatesOfWrong)

/-- 'laws.FnStabilizations': WHATEVER THE INPUT: true; the input reads as it did. -/
def fnStabilizationsSpec : ChangeSpec := { name := "fnStabilizations", fn := fun _ => fun
  | [d] => { results := [.lit (.bool true)], args := [d] }
  | _ => none }
def fnStabilizationsRow : OpenClaim := { program := "ytdfddcfgagfdoaa", sum := "c1a0beae3a760ca581570c3c4a48b3b71cd76eb174632715689d471488498867", func := "loop.example/g01228/laws.FnStabilizations", spec := "fnStabilizations", unfollowed := true, recurses := true, apart := false }
def FnStabilizationsSaid : Prop := fnStabilizationsRow.holds Try.pinned (OpenSpec.ofChange fnStabilizationsSpec)

/-- ITS FALSE NEIGHBOUR: 'it returns false'. Refute it at one input. -/
def fnStabilizationsWrong : ChangeSpec := { name := "fnStabilizations", fn := fun _ => fun
  | [d] => { results := [.lit (.bool false)], args := [d] }
  | _ => none }
def FnStabilizationsWrongFalsely : Prop := fnStabilizationsRow.holds Try.pinned (OpenSpec.ofChange fnStabilizationsWrong)

/-- 'laws.FnExactArfOf': WHATEVER THE INPUT: true; the input reads as it did. -/
def fnExactArfOfSpec : ChangeSpec := { name := "fnExactArfOf", fn := fun _ => fun
  | [d] => { results := [.lit (.bool true)], args := [d] }
  | _ => none }
def fnExactArfOfRow : OpenClaim := { program := "ytdfddcfgagfdoaa", sum := "c1a0beae3a760ca581570c3c4a48b3b71cd76eb174632715689d471488498867", func := "loop.example/g01228/laws.FnExactArfOf", spec := "fnExactArfOf", unfollowed := true, recurses := true, apart := false }
def FnExactArfOfSaid : Prop := fnExactArfOfRow.holds Try.pinned (OpenSpec.ofChange fnExactArfOfSpec)

/-- ITS FALSE NEIGHBOUR: 'it returns false'. Refute it at one input. -/
def fnExactArfOfWrong : ChangeSpec := { name := "fnExactArfOf", fn := fun _ => fun
  | [d] => { results := [.lit (.bool false)], args := [d] }
  | _ => none }
def FnExactArfOfWrongFalsely : Prop := fnExactArfOfRow.holds Try.pinned (OpenSpec.ofChange fnExactArfOfWrong)

/-- 'laws.FnExactLinkingTable': WHATEVER THE INPUT: true; the input reads as it did. -/
def fnExactLinkingTableSpec : ChangeSpec := { name := "fnExactLinkingTable", fn := fun _ => fun
  | [d] => { results := [.lit (.bool true)], args := [d] }
  | _ => none }
def fnExactLinkingTableRow : OpenClaim := { program := "ytdfddcfgagfdoaa", sum := "c1a0beae3a760ca581570c3c4a48b3b71cd76eb174632715689d471488498867", func := "loop.example/g01228/laws.FnExactLinkingTable", spec := "fnExactLinkingTable", unfollowed := true, recurses := true, apart := false }
def FnExactLinkingTableSaid : Prop := fnExactLinkingTableRow.holds Try.pinned (OpenSpec.ofChange fnExactLinkingTableSpec)

/-- ITS FALSE NEIGHBOUR: 'it returns false'. Refute it at one input. -/
def fnExactLinkingTableWrong : ChangeSpec := { name := "fnExactLinkingTable", fn := fun _ => fun
  | [d] => { results := [.lit (.bool false)], args := [d] }
  | _ => none }
def FnExactLinkingTableWrongFalsely : Prop := fnExactLinkingTableRow.holds Try.pinned (OpenSpec.ofChange fnExactLinkingTableWrong)

/-- 'laws.FnExactDeterminantPolynomial': WHATEVER THE INPUT: true; the input reads as it did. -/
def fnExactDeterminantPolynomialSpec : ChangeSpec := { name := "fnExactDeterminantPolynomial", fn := fun _ => fun
  | [d] => { results := [.lit (.bool true)], args := [d] }
  | _ => none }
def fnExactDeterminantPolynomialRow : OpenClaim := { program := "ytdfddcfgagfdoaa", sum := "c1a0beae3a760ca581570c3c4a48b3b71cd76eb174632715689d471488498867", func := "loop.example/g01228/laws.FnExactDeterminantPolynomial", spec := "fnExactDeterminantPolynomial", unfollowed := true, recurses := true, apart := false }
def FnExactDeterminantPolynomialSaid : Prop := fnExactDeterminantPolynomialRow.holds Try.pinned (OpenSpec.ofChange fnExactDeterminantPolynomialSpec)

/-- ITS FALSE NEIGHBOUR: 'it returns false'. Refute it at one input. -/
def fnExactDeterminantPolynomialWrong : ChangeSpec := { name := "fnExactDeterminantPolynomial", fn := fun _ => fun
  | [d] => { results := [.lit (.bool false)], args := [d] }
  | _ => none }
def FnExactDeterminantPolynomialWrongFalsely : Prop := fnExactDeterminantPolynomialRow.holds Try.pinned (OpenSpec.ofChange fnExactDeterminantPolynomialWrong)

/-- 'laws.FnExactConwayOf': WHATEVER THE INPUT: true; the input reads as it did. -/
def fnExactConwayOfSpec : ChangeSpec := { name := "fnExactConwayOf", fn := fun _ => fun
  | [d] => { results := [.lit (.bool true)], args := [d] }
  | _ => none }
def fnExactConwayOfRow : OpenClaim := { program := "ytdfddcfgagfdoaa", sum := "c1a0beae3a760ca581570c3c4a48b3b71cd76eb174632715689d471488498867", func := "loop.example/g01228/laws.FnExactConwayOf", spec := "fnExactConwayOf", unfollowed := true, recurses := true, apart := false }
def FnExactConwayOfSaid : Prop := fnExactConwayOfRow.holds Try.pinned (OpenSpec.ofChange fnExactConwayOfSpec)

/-- ITS FALSE NEIGHBOUR: 'it returns false'. Refute it at one input. -/
def fnExactConwayOfWrong : ChangeSpec := { name := "fnExactConwayOf", fn := fun _ => fun
  | [d] => { results := [.lit (.bool false)], args := [d] }
  | _ => none }
def FnExactConwayOfWrongFalsely : Prop := fnExactConwayOfRow.holds Try.pinned (OpenSpec.ofChange fnExactConwayOfWrong)

/-- 'laws.FnWindings': WHATEVER THE INPUT: true; the input reads as it did. -/
def fnWindingsSpec : ChangeSpec := { name := "fnWindings", fn := fun _ => fun
  | [d] => { results := [.lit (.bool true)], args := [d] }
  | _ => none }
def fnWindingsRow : OpenClaim := { program := "ytdfddcfgagfdoaa", sum := "c1a0beae3a760ca581570c3c4a48b3b71cd76eb174632715689d471488498867", func := "loop.example/g01228/laws.FnWindings", spec := "fnWindings", unfollowed := true, recurses := true, apart := false }
def FnWindingsSaid : Prop := fnWindingsRow.holds Try.pinned (OpenSpec.ofChange fnWindingsSpec)

/-- ITS FALSE NEIGHBOUR: 'it returns false'. Refute it at one input. -/
def fnWindingsWrong : ChangeSpec := { name := "fnWindings", fn := fun _ => fun
  | [d] => { results := [.lit (.bool false)], args := [d] }
  | _ => none }
def FnWindingsWrongFalsely : Prop := fnWindingsRow.holds Try.pinned (OpenSpec.ofChange fnWindingsWrong)

/-- 'laws.FnExactGaussCodes': WHATEVER THE INPUT: true; the input reads as it did. -/
def fnExactGaussCodesSpec : ChangeSpec := { name := "fnExactGaussCodes", fn := fun _ => fun
  | [d] => { results := [.lit (.bool true)], args := [d] }
  | _ => none }
def fnExactGaussCodesRow : OpenClaim := { program := "ytdfddcfgagfdoaa", sum := "c1a0beae3a760ca581570c3c4a48b3b71cd76eb174632715689d471488498867", func := "loop.example/g01228/laws.FnExactGaussCodes", spec := "fnExactGaussCodes", unfollowed := true, recurses := true, apart := false }
def FnExactGaussCodesSaid : Prop := fnExactGaussCodesRow.holds Try.pinned (OpenSpec.ofChange fnExactGaussCodesSpec)

/-- ITS FALSE NEIGHBOUR: 'it returns false'. Refute it at one input. -/
def fnExactGaussCodesWrong : ChangeSpec := { name := "fnExactGaussCodes", fn := fun _ => fun
  | [d] => { results := [.lit (.bool false)], args := [d] }
  | _ => none }
def FnExactGaussCodesWrongFalsely : Prop := fnExactGaussCodesRow.holds Try.pinned (OpenSpec.ofChange fnExactGaussCodesWrong)

/-- 'laws.FnExactGenusBound': WHATEVER THE INPUT: true; the input reads as it did. -/
def fnExactGenusBoundSpec : ChangeSpec := { name := "fnExactGenusBound", fn := fun _ => fun
  | [d] => { results := [.lit (.bool true)], args := [d] }
  | _ => none }
def fnExactGenusBoundRow : OpenClaim := { program := "ytdfddcfgagfdoaa", sum := "c1a0beae3a760ca581570c3c4a48b3b71cd76eb174632715689d471488498867", func := "loop.example/g01228/laws.FnExactGenusBound", spec := "fnExactGenusBound", unfollowed := true, recurses := true, apart := false }
def FnExactGenusBoundSaid : Prop := fnExactGenusBoundRow.holds Try.pinned (OpenSpec.ofChange fnExactGenusBoundSpec)

/-- ITS FALSE NEIGHBOUR: 'it returns false'. Refute it at one input. -/
def fnExactGenusBoundWrong : ChangeSpec := { name := "fnExactGenusBound", fn := fun _ => fun
  | [d] => { results := [.lit (.bool false)], args := [d] }
  | _ => none }
def FnExactGenusBoundWrongFalsely : Prop := fnExactGenusBoundRow.holds Try.pinned (OpenSpec.ofChange fnExactGenusBoundWrong)

/-- 'laws.FnExactDeterminantOfKnot': WHATEVER THE INPUT: true; the input reads as it did. -/
def fnExactDeterminantOfKnotSpec : ChangeSpec := { name := "fnExactDeterminantOfKnot", fn := fun _ => fun
  | [d] => { results := [.lit (.bool true)], args := [d] }
  | _ => none }
def fnExactDeterminantOfKnotRow : OpenClaim := { program := "ytdfddcfgagfdoaa", sum := "c1a0beae3a760ca581570c3c4a48b3b71cd76eb174632715689d471488498867", func := "loop.example/g01228/laws.FnExactDeterminantOfKnot", spec := "fnExactDeterminantOfKnot", unfollowed := true, recurses := true, apart := false }
def FnExactDeterminantOfKnotSaid : Prop := fnExactDeterminantOfKnotRow.holds Try.pinned (OpenSpec.ofChange fnExactDeterminantOfKnotSpec)

/-- ITS FALSE NEIGHBOUR: 'it returns false'. Refute it at one input. -/
def fnExactDeterminantOfKnotWrong : ChangeSpec := { name := "fnExactDeterminantOfKnot", fn := fun _ => fun
  | [d] => { results := [.lit (.bool false)], args := [d] }
  | _ => none }
def FnExactDeterminantOfKnotWrongFalsely : Prop := fnExactDeterminantOfKnotRow.holds Try.pinned (OpenSpec.ofChange fnExactDeterminantOfKnotWrong)

/-- 'laws.FnExactMovesOf': WHATEVER THE INPUT: true; the input reads as it did. -/
def fnExactMovesOfSpec : ChangeSpec := { name := "fnExactMovesOf", fn := fun _ => fun
  | [d] => { results := [.lit (.bool true)], args := [d] }
  | _ => none }
def fnExactMovesOfRow : OpenClaim := { program := "ytdfddcfgagfdoaa", sum := "c1a0beae3a760ca581570c3c4a48b3b71cd76eb174632715689d471488498867", func := "loop.example/g01228/laws.FnExactMovesOf", spec := "fnExactMovesOf", unfollowed := true, recurses := true, apart := false }
def FnExactMovesOfSaid : Prop := fnExactMovesOfRow.holds Try.pinned (OpenSpec.ofChange fnExactMovesOfSpec)

/-- ITS FALSE NEIGHBOUR: 'it returns false'. Refute it at one input. -/
def fnExactMovesOfWrong : ChangeSpec := { name := "fnExactMovesOf", fn := fun _ => fun
  | [d] => { results := [.lit (.bool false)], args := [d] }
  | _ => none }
def FnExactMovesOfWrongFalsely : Prop := fnExactMovesOfRow.holds Try.pinned (OpenSpec.ofChange fnExactMovesOfWrong)

/-- 'laws.FnExactAlexanderPolynomial': WHATEVER THE INPUT: true; the input reads as it did. -/
def fnExactAlexanderPolynomialSpec : ChangeSpec := { name := "fnExactAlexanderPolynomial", fn := fun _ => fun
  | [d] => { results := [.lit (.bool true)], args := [d] }
  | _ => none }
def fnExactAlexanderPolynomialRow : OpenClaim := { program := "ytdfddcfgagfdoaa", sum := "c1a0beae3a760ca581570c3c4a48b3b71cd76eb174632715689d471488498867", func := "loop.example/g01228/laws.FnExactAlexanderPolynomial", spec := "fnExactAlexanderPolynomial", unfollowed := true, recurses := true, apart := false }
def FnExactAlexanderPolynomialSaid : Prop := fnExactAlexanderPolynomialRow.holds Try.pinned (OpenSpec.ofChange fnExactAlexanderPolynomialSpec)

/-- ITS FALSE NEIGHBOUR: 'it returns false'. Refute it at one input. -/
def fnExactAlexanderPolynomialWrong : ChangeSpec := { name := "fnExactAlexanderPolynomial", fn := fun _ => fun
  | [d] => { results := [.lit (.bool false)], args := [d] }
  | _ => none }
def FnExactAlexanderPolynomialWrongFalsely : Prop := fnExactAlexanderPolynomialRow.holds Try.pinned (OpenSpec.ofChange fnExactAlexanderPolynomialWrong)

/- THE SECOND FORM. 'bulk': how many values and letters a reading holds, each counted each time it is reached (what is shared counts as often as it is met; a slice's spare places count too). A statement '..UptoSaid' is the law's where the arguments, and the package variables that the reading takes, are together of bulk at most 1048576: NARROWER than '..Said'. Prove '..Said' where nothing that the law and all that it calls make is longer than what came in: it says more and counts as full. Else prove '..UptoSaid'. A law counts once. -/
mutual
def uptoBulk {H : Type} : DataW H → Nat
  | .lit (.string bytes) => bytes.length + 1
  | .lit _ => 1
  | .nil => 1
  | .ptr d => uptoBulk d + 1
  | .slice elems spare => uptoBulkAll elems + uptoBulkAll spare + 1
  | .agg parts => uptoBulkAll parts + 1
  | .iface _ d => uptoBulk d + 1
  | .map entries => uptoBulkEntries entries + 1
  | .held _ => 1
def uptoBulkAll {H : Type} : List (DataW H) → Nat
  | [] => 0
  | d :: r => uptoBulk d + uptoBulkAll r
def uptoBulkEntries {H : Type} : List (Lit × DataW H) → Nat
  | [] => 0
  | x :: r => uptoBulkEntry x + uptoBulkEntries r
def uptoBulkEntry {H : Type} : Lit × DataW H → Nat
  | (.string bytes, d) => bytes.length + uptoBulk d + 1
  | (_, d) => uptoBulk d + 1
 end
def uptoSmall : (H : Type) → List (DataW H) → Bool := fun _ ds => decide (uptoBulkAll ds ≤ 1048576)
def OpenSpec.upto (s : _root_.Go.ChangeSpec) : _root_.Go.OpenSpec := { _root_.Go.OpenSpec.ofChange s with cond := some uptoSmall }

/-- 'laws.FnExactStatesOf', WHERE WHAT IT READS IS OF BULK AT MOST 1048576: true; the input reads as it did. -/
def fnExactStatesOfUptoRow : OpenClaim := { program := "ytdfddcfgagfdoaa", sum := "c1a0beae3a760ca581570c3c4a48b3b71cd76eb174632715689d471488498867", func := "loop.example/g01228/laws.FnExactStatesOf", spec := "fnExactStatesOf", unfollowed := true, recurses := true, apart := false, narrowed := true }
def FnExactStatesOfUptoSaid : Prop := fnExactStatesOfUptoRow.holds Try.pinned (OpenSpec.upto fnExactStatesOfSpec)

/-- 'laws.FnStabilizations', WHERE WHAT IT READS IS OF BULK AT MOST 1048576: true; the input reads as it did. -/
def fnStabilizationsUptoRow : OpenClaim := { program := "ytdfddcfgagfdoaa", sum := "c1a0beae3a760ca581570c3c4a48b3b71cd76eb174632715689d471488498867", func := "loop.example/g01228/laws.FnStabilizations", spec := "fnStabilizations", unfollowed := true, recurses := true, apart := false, narrowed := true }
def FnStabilizationsUptoSaid : Prop := fnStabilizationsUptoRow.holds Try.pinned (OpenSpec.upto fnStabilizationsSpec)

/-- 'laws.FnExactArfOf', WHERE WHAT IT READS IS OF BULK AT MOST 1048576: true; the input reads as it did. -/
def fnExactArfOfUptoRow : OpenClaim := { program := "ytdfddcfgagfdoaa", sum := "c1a0beae3a760ca581570c3c4a48b3b71cd76eb174632715689d471488498867", func := "loop.example/g01228/laws.FnExactArfOf", spec := "fnExactArfOf", unfollowed := true, recurses := true, apart := false, narrowed := true }
def FnExactArfOfUptoSaid : Prop := fnExactArfOfUptoRow.holds Try.pinned (OpenSpec.upto fnExactArfOfSpec)

/-- 'laws.FnExactLinkingTable', WHERE WHAT IT READS IS OF BULK AT MOST 1048576: true; the input reads as it did. -/
def fnExactLinkingTableUptoRow : OpenClaim := { program := "ytdfddcfgagfdoaa", sum := "c1a0beae3a760ca581570c3c4a48b3b71cd76eb174632715689d471488498867", func := "loop.example/g01228/laws.FnExactLinkingTable", spec := "fnExactLinkingTable", unfollowed := true, recurses := true, apart := false, narrowed := true }
def FnExactLinkingTableUptoSaid : Prop := fnExactLinkingTableUptoRow.holds Try.pinned (OpenSpec.upto fnExactLinkingTableSpec)

/-- 'laws.FnExactDeterminantPolynomial', WHERE WHAT IT READS IS OF BULK AT MOST 1048576: true; the input reads as it did. -/
def fnExactDeterminantPolynomialUptoRow : OpenClaim := { program := "ytdfddcfgagfdoaa", sum := "c1a0beae3a760ca581570c3c4a48b3b71cd76eb174632715689d471488498867", func := "loop.example/g01228/laws.FnExactDeterminantPolynomial", spec := "fnExactDeterminantPolynomial", unfollowed := true, recurses := true, apart := false, narrowed := true }
def FnExactDeterminantPolynomialUptoSaid : Prop := fnExactDeterminantPolynomialUptoRow.holds Try.pinned (OpenSpec.upto fnExactDeterminantPolynomialSpec)

/-- 'laws.FnExactConwayOf', WHERE WHAT IT READS IS OF BULK AT MOST 1048576: true; the input reads as it did. -/
def fnExactConwayOfUptoRow : OpenClaim := { program := "ytdfddcfgagfdoaa", sum := "c1a0beae3a760ca581570c3c4a48b3b71cd76eb174632715689d471488498867", func := "loop.example/g01228/laws.FnExactConwayOf", spec := "fnExactConwayOf", unfollowed := true, recurses := true, apart := false, narrowed := true }
def FnExactConwayOfUptoSaid : Prop := fnExactConwayOfUptoRow.holds Try.pinned (OpenSpec.upto fnExactConwayOfSpec)

/-- 'laws.FnWindings', WHERE WHAT IT READS IS OF BULK AT MOST 1048576: true; the input reads as it did. -/
def fnWindingsUptoRow : OpenClaim := { program := "ytdfddcfgagfdoaa", sum := "c1a0beae3a760ca581570c3c4a48b3b71cd76eb174632715689d471488498867", func := "loop.example/g01228/laws.FnWindings", spec := "fnWindings", unfollowed := true, recurses := true, apart := false, narrowed := true }
def FnWindingsUptoSaid : Prop := fnWindingsUptoRow.holds Try.pinned (OpenSpec.upto fnWindingsSpec)

/-- 'laws.FnExactGaussCodes', WHERE WHAT IT READS IS OF BULK AT MOST 1048576: true; the input reads as it did. -/
def fnExactGaussCodesUptoRow : OpenClaim := { program := "ytdfddcfgagfdoaa", sum := "c1a0beae3a760ca581570c3c4a48b3b71cd76eb174632715689d471488498867", func := "loop.example/g01228/laws.FnExactGaussCodes", spec := "fnExactGaussCodes", unfollowed := true, recurses := true, apart := false, narrowed := true }
def FnExactGaussCodesUptoSaid : Prop := fnExactGaussCodesUptoRow.holds Try.pinned (OpenSpec.upto fnExactGaussCodesSpec)

/-- 'laws.FnExactGenusBound', WHERE WHAT IT READS IS OF BULK AT MOST 1048576: true; the input reads as it did. -/
def fnExactGenusBoundUptoRow : OpenClaim := { program := "ytdfddcfgagfdoaa", sum := "c1a0beae3a760ca581570c3c4a48b3b71cd76eb174632715689d471488498867", func := "loop.example/g01228/laws.FnExactGenusBound", spec := "fnExactGenusBound", unfollowed := true, recurses := true, apart := false, narrowed := true }
def FnExactGenusBoundUptoSaid : Prop := fnExactGenusBoundUptoRow.holds Try.pinned (OpenSpec.upto fnExactGenusBoundSpec)

/-- 'laws.FnExactDeterminantOfKnot', WHERE WHAT IT READS IS OF BULK AT MOST 1048576: true; the input reads as it did. -/
def fnExactDeterminantOfKnotUptoRow : OpenClaim := { program := "ytdfddcfgagfdoaa", sum := "c1a0beae3a760ca581570c3c4a48b3b71cd76eb174632715689d471488498867", func := "loop.example/g01228/laws.FnExactDeterminantOfKnot", spec := "fnExactDeterminantOfKnot", unfollowed := true, recurses := true, apart := false, narrowed := true }
def FnExactDeterminantOfKnotUptoSaid : Prop := fnExactDeterminantOfKnotUptoRow.holds Try.pinned (OpenSpec.upto fnExactDeterminantOfKnotSpec)

/-- 'laws.FnExactMovesOf', WHERE WHAT IT READS IS OF BULK AT MOST 1048576: true; the input reads as it did. -/
def fnExactMovesOfUptoRow : OpenClaim := { program := "ytdfddcfgagfdoaa", sum := "c1a0beae3a760ca581570c3c4a48b3b71cd76eb174632715689d471488498867", func := "loop.example/g01228/laws.FnExactMovesOf", spec := "fnExactMovesOf", unfollowed := true, recurses := true, apart := false, narrowed := true }
def FnExactMovesOfUptoSaid : Prop := fnExactMovesOfUptoRow.holds Try.pinned (OpenSpec.upto fnExactMovesOfSpec)

/-- 'laws.FnExactAlexanderPolynomial', WHERE WHAT IT READS IS OF BULK AT MOST 1048576: true; the input reads as it did. -/
def fnExactAlexanderPolynomialUptoRow : OpenClaim := { program := "ytdfddcfgagfdoaa", sum := "c1a0beae3a760ca581570c3c4a48b3b71cd76eb174632715689d471488498867", func := "loop.example/g01228/laws.FnExactAlexanderPolynomial", spec := "fnExactAlexanderPolynomial", unfollowed := true, recurses := true, apart := false, narrowed := true }
def FnExactAlexanderPolynomialUptoSaid : Prop := fnExactAlexanderPolynomialUptoRow.holds Try.pinned (OpenSpec.upto fnExactAlexanderPolynomialSpec)

end Rows
end Go.Proofs.Ytdfddcfgagfdoaa
