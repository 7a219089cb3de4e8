/-
  No cell of these rows narrows 'for every input' (looked for: loops, veiled, ifaces, maps, wideKeys, modest, calm, conditions, laid).
  DERIVED. THE GIVEN ROWS OF THIS SEAT. 12 by the template 'for every input the law returns true; each argument reads behind the call as it read before'; 0 by the template 'total and deterministic' (their statements: YtclfpogolgindacTotals.lean).
  GIVEN WITH THE SEED: the statements are not yours to turn. If you find one false, say at which input.
  Laid BY PROGRAM, IN A SANDBOX (cutbox-rows.mjs): the forced cells as the released guide's own fill.sh prints them over the translation 97ae0c81517e2524… (all of the seat's roots in one cut). By AI agents, Wed Nov 11 2026. No macro, syntax, notation, axiom, sorry.
-/
import Derived.Test.YtclfpogolgindacChecked
import GoSem.Claim
import GoSem.ClaimJoined
import GoSem.ClaimMapViews
import Derived.JoinedTies
import Derived.KernelRfl
namespace Go.Proofs.Ytclfpogolgindac
/- THE CELL 'sum', in the pinned program and in every row, IS THE sha256 OF THE DUMP (.gsa) THAT YtclfpogolgindacProg.lean LOADS. Nothing in Lean hashes anything: it is a label: what it is worth is what the hold of that sum in a sandbox is worth. -/
noncomputable def Try.pinned : Pinned := { name := "ytclfpogolgindac", sum := "97ae0c81517e2524cdea080781e9e127b9c103614144c7ac3ef070ea1a23365a", checked := Try.checked }
namespace Rows
def none {H : Type} : Left H := { results := [], args := [] }

/-- 'laws.FnExactExchangeColumns': WHATEVER THE INPUT: true; the input reads as it did. -/
def fnExactExchangeColumnsSpec : ChangeSpec := { name := "fnExactExchangeColumns", fn := fun _ => fun
  | [d1, d2] => { results := [.lit (.bool true)], args := [d1, d2] }
  | _ => none }
def fnExactExchangeColumnsRow : OpenClaim := { program := "ytclfpogolgindac", sum := "97ae0c81517e2524cdea080781e9e127b9c103614144c7ac3ef070ea1a23365a", func := "loop.example/g01228/laws.FnExactExchangeColumns", spec := "fnExactExchangeColumns", apart := false }
def FnExactExchangeColumnsSaid : Prop := fnExactExchangeColumnsRow.holds Try.pinned (OpenSpec.ofChange fnExactExchangeColumnsSpec)

/-- ITS FALSE NEIGHBOUR: 'it returns false'. Refute it at one input. -/
def fnExactExchangeColumnsWrong : ChangeSpec := { name := "fnExactExchangeColumns", fn := fun _ => fun
  | [d1, d2] => { results := [.lit (.bool false)], args := [d1, d2] }
  | _ => none }
def FnExactExchangeColumnsWrongFalsely : Prop := fnExactExchangeColumnsRow.holds Try.pinned (OpenSpec.ofChange fnExactExchangeColumnsWrong)

/-- 'laws.FnExactStabilizeAt': WHATEVER THE INPUT: true; the input reads as it did. -/
def fnExactStabilizeAtSpec : ChangeSpec := { name := "fnExactStabilizeAt", fn := fun _ => fun
  | [d1, d2, d3, d4, d5] => { results := [.lit (.bool true)], args := [d1, d2, d3, d4, d5] }
  | _ => none }
def fnExactStabilizeAtRow : OpenClaim := { program := "ytclfpogolgindac", sum := "97ae0c81517e2524cdea080781e9e127b9c103614144c7ac3ef070ea1a23365a", func := "loop.example/g01228/laws.FnExactStabilizeAt", spec := "fnExactStabilizeAt", apart := false }
def FnExactStabilizeAtSaid : Prop := fnExactStabilizeAtRow.holds Try.pinned (OpenSpec.ofChange fnExactStabilizeAtSpec)

/-- ITS FALSE NEIGHBOUR: 'it returns false'. Refute it at one input. -/
def fnExactStabilizeAtWrong : ChangeSpec := { name := "fnExactStabilizeAt", fn := fun _ => fun
  | [d1, d2, d3, d4, d5] => { results := [.lit (.bool false)], args := [d1, d2, d3, d4, d5] }
  | _ => none }
def FnExactStabilizeAtWrongFalsely : Prop := fnExactStabilizeAtRow.holds Try.pinned (OpenSpec.ofChange fnExactStabilizeAtWrong)

/-- 'laws.FnExactWindingTable': WHATEVER THE INPUT: true; the input reads as it did. -/
def fnExactWindingTableSpec : ChangeSpec := { name := "fnExactWindingTable", fn := fun _ => fun
  | [d] => { results := [.lit (.bool true)], args := [d] }
  | _ => none }
def fnExactWindingTableRow : OpenClaim := { program := "ytclfpogolgindac", sum := "97ae0c81517e2524cdea080781e9e127b9c103614144c7ac3ef070ea1a23365a", func := "loop.example/g01228/laws.FnExactWindingTable", spec := "fnExactWindingTable", unfollowed := true, recurses := true, apart := false }
def FnExactWindingTableSaid : Prop := fnExactWindingTableRow.holds Try.pinned (OpenSpec.ofChange fnExactWindingTableSpec)

/-- ITS FALSE NEIGHBOUR: 'it returns false'. Refute it at one input. -/
def fnExactWindingTableWrong : ChangeSpec := { name := "fnExactWindingTable", fn := fun _ => fun
  | [d] => { results := [.lit (.bool false)], args := [d] }
  | _ => none }
def FnExactWindingTableWrongFalsely : Prop := fnExactWindingTableRow.holds Try.pinned (OpenSpec.ofChange fnExactWindingTableWrong)

/-- 'laws.FnExactMirrorLaurent': WHATEVER THE INPUT: true; the input reads as it did. -/
def fnExactMirrorLaurentSpec : ChangeSpec := { name := "fnExactMirrorLaurent", fn := fun _ => fun
  | [d] => { results := [.lit (.bool true)], args := [d] }
  | _ => none }
def fnExactMirrorLaurentRow : OpenClaim := { program := "ytclfpogolgindac", sum := "97ae0c81517e2524cdea080781e9e127b9c103614144c7ac3ef070ea1a23365a", func := "loop.example/g01228/laws.FnExactMirrorLaurent", spec := "fnExactMirrorLaurent", unfollowed := true, recurses := true, apart := false }
def FnExactMirrorLaurentSaid : Prop := fnExactMirrorLaurentRow.holds Try.pinned (OpenSpec.ofChange fnExactMirrorLaurentSpec)

/-- ITS FALSE NEIGHBOUR: 'it returns false'. Refute it at one input. -/
def fnExactMirrorLaurentWrong : ChangeSpec := { name := "fnExactMirrorLaurent", fn := fun _ => fun
  | [d] => { results := [.lit (.bool false)], args := [d] }
  | _ => none }
def FnExactMirrorLaurentWrongFalsely : Prop := fnExactMirrorLaurentRow.holds Try.pinned (OpenSpec.ofChange fnExactMirrorLaurentWrong)

/-- 'laws.FnExactCrossingsOf': WHATEVER THE INPUT: true; the input reads as it did. -/
def fnExactCrossingsOfSpec : ChangeSpec := { name := "fnExactCrossingsOf", fn := fun _ => fun
  | [d] => { results := [.lit (.bool true)], args := [d] }
  | _ => none }
def fnExactCrossingsOfRow : OpenClaim := { program := "ytclfpogolgindac", sum := "97ae0c81517e2524cdea080781e9e127b9c103614144c7ac3ef070ea1a23365a", func := "loop.example/g01228/laws.FnExactCrossingsOf", spec := "fnExactCrossingsOf", unfollowed := true, recurses := true, apart := false }
def FnExactCrossingsOfSaid : Prop := fnExactCrossingsOfRow.holds Try.pinned (OpenSpec.ofChange fnExactCrossingsOfSpec)

/-- ITS FALSE NEIGHBOUR: 'it returns false'. Refute it at one input. -/
def fnExactCrossingsOfWrong : ChangeSpec := { name := "fnExactCrossingsOf", fn := fun _ => fun
  | [d] => { results := [.lit (.bool false)], args := [d] }
  | _ => none }
def FnExactCrossingsOfWrongFalsely : Prop := fnExactCrossingsOfRow.holds Try.pinned (OpenSpec.ofChange fnExactCrossingsOfWrong)

/-- 'laws.FnExactComponentsOf': WHATEVER THE INPUT: true; the input reads as it did. -/
def fnExactComponentsOfSpec : ChangeSpec := { name := "fnExactComponentsOf", fn := fun _ => fun
  | [d] => { results := [.lit (.bool true)], args := [d] }
  | _ => none }
def fnExactComponentsOfRow : OpenClaim := { program := "ytclfpogolgindac", sum := "97ae0c81517e2524cdea080781e9e127b9c103614144c7ac3ef070ea1a23365a", func := "loop.example/g01228/laws.FnExactComponentsOf", spec := "fnExactComponentsOf", unfollowed := true, recurses := true, apart := false }
def FnExactComponentsOfSaid : Prop := fnExactComponentsOfRow.holds Try.pinned (OpenSpec.ofChange fnExactComponentsOfSpec)

/-- ITS FALSE NEIGHBOUR: 'it returns false'. Refute it at one input. -/
def fnExactComponentsOfWrong : ChangeSpec := { name := "fnExactComponentsOf", fn := fun _ => fun
  | [d] => { results := [.lit (.bool false)], args := [d] }
  | _ => none }
def FnExactComponentsOfWrongFalsely : Prop := fnExactComponentsOfRow.holds Try.pinned (OpenSpec.ofChange fnExactComponentsOfWrong)

/-- 'laws.FnExactCanDestabilize': WHATEVER THE INPUT: true; the input reads as it did. -/
def fnExactCanDestabilizeSpec : ChangeSpec := { name := "fnExactCanDestabilize", fn := fun _ => fun
  | [d1, d2, d3] => { results := [.lit (.bool true)], args := [d1, d2, d3] }
  | _ => none }
def fnExactCanDestabilizeRow : OpenClaim := { program := "ytclfpogolgindac", sum := "97ae0c81517e2524cdea080781e9e127b9c103614144c7ac3ef070ea1a23365a", func := "loop.example/g01228/laws.FnExactCanDestabilize", spec := "fnExactCanDestabilize", apart := false }
def FnExactCanDestabilizeSaid : Prop := fnExactCanDestabilizeRow.holds Try.pinned (OpenSpec.ofChange fnExactCanDestabilizeSpec)

/-- ITS FALSE NEIGHBOUR: 'it returns false'. Refute it at one input. -/
def fnExactCanDestabilizeWrong : ChangeSpec := { name := "fnExactCanDestabilize", fn := fun _ => fun
  | [d1, d2, d3] => { results := [.lit (.bool false)], args := [d1, d2, d3] }
  | _ => none }
def FnExactCanDestabilizeWrongFalsely : Prop := fnExactCanDestabilizeRow.holds Try.pinned (OpenSpec.ofChange fnExactCanDestabilizeWrong)

/-- 'laws.FnExactQuotientByOneLess': WHATEVER THE INPUT: true; the input reads as it did. -/
def fnExactQuotientByOneLessSpec : ChangeSpec := { name := "fnExactQuotientByOneLess", fn := fun _ => fun
  | [d1, d2] => { results := [.lit (.bool true)], args := [d1, d2] }
  | _ => none }
def fnExactQuotientByOneLessRow : OpenClaim := { program := "ytclfpogolgindac", sum := "97ae0c81517e2524cdea080781e9e127b9c103614144c7ac3ef070ea1a23365a", func := "loop.example/g01228/laws.FnExactQuotientByOneLess", spec := "fnExactQuotientByOneLess", unfollowed := true, recurses := true, apart := false }
def FnExactQuotientByOneLessSaid : Prop := fnExactQuotientByOneLessRow.holds Try.pinned (OpenSpec.ofChange fnExactQuotientByOneLessSpec)

/-- ITS FALSE NEIGHBOUR: 'it returns false'. Refute it at one input. -/
def fnExactQuotientByOneLessWrong : ChangeSpec := { name := "fnExactQuotientByOneLess", fn := fun _ => fun
  | [d1, d2] => { results := [.lit (.bool false)], args := [d1, d2] }
  | _ => none }
def FnExactQuotientByOneLessWrongFalsely : Prop := fnExactQuotientByOneLessRow.holds Try.pinned (OpenSpec.ofChange fnExactQuotientByOneLessWrong)

/-- 'laws.FnExactAddLaurents': WHATEVER THE INPUT: true; the input reads as it did. -/
def fnExactAddLaurentsSpec : ChangeSpec := { name := "fnExactAddLaurents", fn := fun _ => fun
  | [d1, d2] => { results := [.lit (.bool true)], args := [d1, d2] }
  | _ => none }
def fnExactAddLaurentsRow : OpenClaim := { program := "ytclfpogolgindac", sum := "97ae0c81517e2524cdea080781e9e127b9c103614144c7ac3ef070ea1a23365a", func := "loop.example/g01228/laws.FnExactAddLaurents", spec := "fnExactAddLaurents", unfollowed := true, recurses := true, apart := false }
def FnExactAddLaurentsSaid : Prop := fnExactAddLaurentsRow.holds Try.pinned (OpenSpec.ofChange fnExactAddLaurentsSpec)

/-- ITS FALSE NEIGHBOUR: 'it returns false'. Refute it at one input. -/
def fnExactAddLaurentsWrong : ChangeSpec := { name := "fnExactAddLaurents", fn := fun _ => fun
  | [d1, d2] => { results := [.lit (.bool false)], args := [d1, d2] }
  | _ => none }
def FnExactAddLaurentsWrongFalsely : Prop := fnExactAddLaurentsRow.holds Try.pinned (OpenSpec.ofChange fnExactAddLaurentsWrong)

/-- 'laws.FnExactDestabilizeAt': WHATEVER THE INPUT: true; the input reads as it did. -/
def fnExactDestabilizeAtSpec : ChangeSpec := { name := "fnExactDestabilizeAt", fn := fun _ => fun
  | [d1, d2, d3] => { results := [.lit (.bool true)], args := [d1, d2, d3] }
  | _ => none }
def fnExactDestabilizeAtRow : OpenClaim := { program := "ytclfpogolgindac", sum := "97ae0c81517e2524cdea080781e9e127b9c103614144c7ac3ef070ea1a23365a", func := "loop.example/g01228/laws.FnExactDestabilizeAt", spec := "fnExactDestabilizeAt", apart := false }
def FnExactDestabilizeAtSaid : Prop := fnExactDestabilizeAtRow.holds Try.pinned (OpenSpec.ofChange fnExactDestabilizeAtSpec)

/-- ITS FALSE NEIGHBOUR: 'it returns false'. Refute it at one input. -/
def fnExactDestabilizeAtWrong : ChangeSpec := { name := "fnExactDestabilizeAt", fn := fun _ => fun
  | [d1, d2, d3] => { results := [.lit (.bool false)], args := [d1, d2, d3] }
  | _ => none }
def FnExactDestabilizeAtWrongFalsely : Prop := fnExactDestabilizeAtRow.holds Try.pinned (OpenSpec.ofChange fnExactDestabilizeAtWrong)

/-- 'laws.FnExactLinkingTable': WHATEVER THE INPUT: true; the input reads as it did. -/
def fnExactLinkingTableSpec : ChangeSpec := { name := "fnExactLinkingTable", fn := fun _ => fun
  | [d] => { results := [.lit (.bool true)], args := [d] }
  | _ => none }
def fnExactLinkingTableRow : OpenClaim := { program := "ytclfpogolgindac", sum := "97ae0c81517e2524cdea080781e9e127b9c103614144c7ac3ef070ea1a23365a", func := "loop.example/g01228/laws.FnExactLinkingTable", spec := "fnExactLinkingTable", unfollowed := true, recurses := true, apart := false }
def FnExactLinkingTableSaid : Prop := fnExactLinkingTableRow.holds Try.pinned (OpenSpec.ofChange fnExactLinkingTableSpec)

/-- ITS FALSE NEIGHBOUR: 'it returns false'. Refute it at one input. -/
def fnExactLinkingTableWrong : ChangeSpec := { name := "fnExactLinkingTable", fn := fun _ => fun
  | [d] => { results := [.lit (.bool false)], args := [d] }
  | _ => none }
def FnExactLinkingTableWrongFalsely : Prop := fnExactLinkingTableRow.holds Try.pinned (OpenSpec.ofChange fnExactLinkingTableWrong)

/-- 'laws.FnExactDestabilizePlaces': WHATEVER THE INPUT: true; the input reads as it did. -/
def fnExactDestabilizePlacesSpec : ChangeSpec := { name := "fnExactDestabilizePlaces", fn := fun _ => fun
  | [d] => { results := [.lit (.bool true)], args := [d] }
  | _ => none }
def fnExactDestabilizePlacesRow : OpenClaim := { program := "ytclfpogolgindac", sum := "97ae0c81517e2524cdea080781e9e127b9c103614144c7ac3ef070ea1a23365a", func := "loop.example/g01228/laws.FnExactDestabilizePlaces", spec := "fnExactDestabilizePlaces", unfollowed := true, recurses := true, apart := false }
def FnExactDestabilizePlacesSaid : Prop := fnExactDestabilizePlacesRow.holds Try.pinned (OpenSpec.ofChange fnExactDestabilizePlacesSpec)

/-- ITS FALSE NEIGHBOUR: 'it returns false'. Refute it at one input. -/
def fnExactDestabilizePlacesWrong : ChangeSpec := { name := "fnExactDestabilizePlaces", fn := fun _ => fun
  | [d] => { results := [.lit (.bool false)], args := [d] }
  | _ => none }
def FnExactDestabilizePlacesWrongFalsely : Prop := fnExactDestabilizePlacesRow.holds Try.pinned (OpenSpec.ofChange fnExactDestabilizePlacesWrong)

/- THE SECOND FORM. 'bulk': how many values and letters a reading holds, each counted each time it is reached (what is shared counts as often as it is met; a slice's spare places count too). A statement '..UptoSaid' is the law's where the arguments, and the package variables that the reading takes, are together of bulk at most 1048576: NARROWER than '..Said'. Prove '..Said' where nothing that the law and all that it calls make is longer than what came in: it says more and counts as full. Else prove '..UptoSaid'. A law counts once. -/
mutual
def uptoBulk {H : Type} : DataW H → Nat
  | .lit (.string bytes) => bytes.length + 1
  | .lit _ => 1
  | .nil => 1
  | .ptr d => uptoBulk d + 1
  | .slice elems spare => uptoBulkAll elems + uptoBulkAll spare + 1
  | .agg parts => uptoBulkAll parts + 1
  | .iface _ d => uptoBulk d + 1
  | .map entries => uptoBulkEntries entries + 1
  | .held _ => 1
def uptoBulkAll {H : Type} : List (DataW H) → Nat
  | [] => 0
  | d :: r => uptoBulk d + uptoBulkAll r
def uptoBulkEntries {H : Type} : List (Lit × DataW H) → Nat
  | [] => 0
  | x :: r => uptoBulkEntry x + uptoBulkEntries r
def uptoBulkEntry {H : Type} : Lit × DataW H → Nat
  | (.string bytes, d) => bytes.length + uptoBulk d + 1
  | (_, d) => uptoBulk d + 1
 end
def uptoSmall : (H : Type) → List (DataW H) → Bool := fun _ ds => decide (uptoBulkAll ds ≤ 1048576)
def OpenSpec.upto (s : _root_.Go.ChangeSpec) : _root_.Go.OpenSpec := { _root_.Go.OpenSpec.ofChange s with cond := some uptoSmall }

/-- 'laws.FnExactExchangeColumns', WHERE WHAT IT READS IS OF BULK AT MOST 1048576: true; the input reads as it did. -/
def fnExactExchangeColumnsUptoRow : OpenClaim := { program := "ytclfpogolgindac", sum := "97ae0c81517e2524cdea080781e9e127b9c103614144c7ac3ef070ea1a23365a", func := "loop.example/g01228/laws.FnExactExchangeColumns", spec := "fnExactExchangeColumns", apart := false, narrowed := true }
def FnExactExchangeColumnsUptoSaid : Prop := fnExactExchangeColumnsUptoRow.holds Try.pinned (OpenSpec.upto fnExactExchangeColumnsSpec)

/-- 'laws.FnExactStabilizeAt', WHERE WHAT IT READS IS OF BULK AT MOST 1048576: true; the input reads as it did. -/
def fnExactStabilizeAtUptoRow : OpenClaim := { program := "ytclfpogolgindac", sum := "97ae0c81517e2524cdea080781e9e127b9c103614144c7ac3ef070ea1a23365a", func := "loop.example/g01228/laws.FnExactStabilizeAt", spec := "fnExactStabilizeAt", apart := false, narrowed := true }
def FnExactStabilizeAtUptoSaid : Prop := fnExactStabilizeAtUptoRow.holds Try.pinned (OpenSpec.upto fnExactStabilizeAtSpec)

/-- 'laws.FnExactWindingTable', WHERE WHAT IT READS IS OF BULK AT MOST 1048576: true; the input reads as it did. -/
def fnExactWindingTableUptoRow : OpenClaim := { program := "ytclfpogolgindac", sum := "97ae0c81517e2524cdea080781e9e127b9c103614144c7ac3ef070ea1a23365a", func := "loop.example/g01228/laws.FnExactWindingTable", spec := "fnExactWindingTable", unfollowed := true, recurses := true, apart := false, narrowed := true }
def FnExactWindingTableUptoSaid : Prop := fnExactWindingTableUptoRow.holds Try.pinned (OpenSpec.upto fnExactWindingTableSpec)

/-- 'laws.FnExactMirrorLaurent', WHERE WHAT IT READS IS OF BULK AT MOST 1048576: true; the input reads as it did. -/
def fnExactMirrorLaurentUptoRow : OpenClaim := { program := "ytclfpogolgindac", sum := "97ae0c81517e2524cdea080781e9e127b9c103614144c7ac3ef070ea1a23365a", func := "loop.example/g01228/laws.FnExactMirrorLaurent", spec := "fnExactMirrorLaurent", unfollowed := true, recurses := true, apart := false, narrowed := true }
def FnExactMirrorLaurentUptoSaid : Prop := fnExactMirrorLaurentUptoRow.holds Try.pinned (OpenSpec.upto fnExactMirrorLaurentSpec)

/-- 'laws.FnExactCrossingsOf', WHERE WHAT IT READS IS OF BULK AT MOST 1048576: true; the input reads as it did. -/
def fnExactCrossingsOfUptoRow : OpenClaim := { program := "ytclfpogolgindac", sum := "97ae0c81517e2524cdea080781e9e127b9c103614144c7ac3ef070ea1a23365a", func := "loop.example/g01228/laws.FnExactCrossingsOf", spec := "fnExactCrossingsOf", unfollowed := true, recurses := true, apart := false, narrowed := true }
def FnExactCrossingsOfUptoSaid : Prop := fnExactCrossingsOfUptoRow.holds Try.pinned (OpenSpec.upto fnExactCrossingsOfSpec)

/-- 'laws.FnExactComponentsOf', WHERE WHAT IT READS IS OF BULK AT MOST 1048576: true; the input reads as it did. -/
def fnExactComponentsOfUptoRow : OpenClaim := { program := "ytclfpogolgindac", sum := "97ae0c81517e2524cdea080781e9e127b9c103614144c7ac3ef070ea1a23365a", func := "loop.example/g01228/laws.FnExactComponentsOf", spec := "fnExactComponentsOf", unfollowed := true, recurses := true, apart := false, narrowed := true }
def FnExactComponentsOfUptoSaid : Prop := fnExactComponentsOfUptoRow.holds Try.pinned (OpenSpec.upto fnExactComponentsOfSpec)

/-- 'laws.FnExactCanDestabilize', WHERE WHAT IT READS IS OF BULK AT MOST 1048576: true; the input reads as it did. -/
def fnExactCanDestabilizeUptoRow : OpenClaim := { program := "ytclfpogolgindac", sum := "97ae0c81517e2524cdea080781e9e127b9c103614144c7ac3ef070ea1a23365a", func := "loop.example/g01228/laws.FnExactCanDestabilize", spec := "fnExactCanDestabilize", apart := false, narrowed := true }
def FnExactCanDestabilizeUptoSaid : Prop := fnExactCanDestabilizeUptoRow.holds Try.pinned (OpenSpec.upto fnExactCanDestabilizeSpec)

/-- 'laws.FnExactQuotientByOneLess', WHERE WHAT IT READS IS OF BULK AT MOST 1048576: true; the input reads as it did. -/
def fnExactQuotientByOneLessUptoRow : OpenClaim := { program := "ytclfpogolgindac", sum := "97ae0c81517e2524cdea080781e9e127b9c103614144c7ac3ef070ea1a23365a", func := "loop.example/g01228/laws.FnExactQuotientByOneLess", spec := "fnExactQuotientByOneLess", unfollowed := true, recurses := true, apart := false, narrowed := true }
def FnExactQuotientByOneLessUptoSaid : Prop := fnExactQuotientByOneLessUptoRow.holds Try.pinned (OpenSpec.upto fnExactQuotientByOneLessSpec)

/-- 'laws.FnExactAddLaurents', WHERE WHAT IT READS IS OF BULK AT MOST 1048576: true; the input reads as it did. -/
def fnExactAddLaurentsUptoRow : OpenClaim := { program := "ytclfpogolgindac", sum := "97ae0c81517e2524cdea080781e9e127b9c103614144c7ac3ef070ea1a23365a", func := "loop.example/g01228/laws.FnExactAddLaurents", spec := "fnExactAddLaurents", unfollowed := true, recurses := true, apart := false, narrowed := true }
def FnExactAddLaurentsUptoSaid : Prop := fnExactAddLaurentsUptoRow.holds Try.pinned (OpenSpec.upto fnExactAddLaurentsSpec)

/-- 'laws.FnExactDestabilizeAt', WHERE WHAT IT READS IS OF BULK AT MOST 1048576: true; the input reads as it did. -/
def fnExactDestabilizeAtUptoRow : OpenClaim := { program := "ytclfpogolgindac", sum := "97ae0c81517e2524cdea080781e9e127b9c103614144c7ac3ef070ea1a23365a", func := "loop.example/g01228/laws.FnExactDestabilizeAt", spec := "fnExactDestabilizeAt", apart := false, narrowed := true }
def FnExactDestabilizeAtUptoSaid : Prop := fnExactDestabilizeAtUptoRow.holds Try.pinned (OpenSpec.upto fnExactDestabilizeAtSpec)

/-- 'laws.FnExactLinkingTable', WHERE WHAT IT READS IS OF BULK AT MOST 1048576: true; the input reads as it did. -/
def fnExactLinkingTableUptoRow : OpenClaim := { program := "ytclfpogolgindac", sum := "97ae0c81517e2524cdea080781e9e127b9c103614144c7ac3ef070ea1a23365a", func := "loop.example/g01228/laws.FnExactLinkingTable", spec := "fnExactLinkingTable", unfollowed := true, recurses := true, apart := false, narrowed := true }
def FnExactLinkingTableUptoSaid : Prop := fnExactLinkingTableUptoRow.holds Try.pinned (OpenSpec.upto fnExactLinkingTableSpec)

/-- 'laws.FnExactDestabilizePlaces', WHERE WHAT IT READS IS OF BULK AT MOST 1048576: true; the input reads as it did. -/
def fnExactDestabilizePlacesUptoRow : OpenClaim := { program := "ytclfpogolgindac", sum := "97ae0c81517e2524cdea080781e9e127b9c103614144c7ac3ef070ea1a23365a", func := "loop.example/g01228/laws.FnExactDestabilizePlaces", spec := "fnExactDestabilizePlaces", unfollowed := true, recurses := true, apart := false, narrowed := true }
def FnExactDestabilizePlacesUptoSaid : Prop := fnExactDestabilizePlacesUptoRow.holds Try.pinned (OpenSpec.upto fnExactDestabilizePlacesSpec)

end Rows
end Go.Proofs.Ytclfpogolgindac
