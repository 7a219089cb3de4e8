/-
  No cell of these rows narrows 'for every input' (looked for: loops, veiled, ifaces, maps, wideKeys, modest, calm, conditions, laid).
  DERIVED. THE GIVEN ROWS OF THIS SEAT. 12 by the template 'for every input the law returns true; each argument reads behind the call as it read before'; 0 by the template 'total and deterministic' (their statements: YtclfpogolgindabTotals.lean).
  GIVEN WITH THE SEED: the statements are not yours to turn. If you find one false, say at which input.
  Laid BY PROGRAM, IN A SANDBOX (cutbox-rows.mjs): the forced cells as the released guide's own fill.sh prints them over the translation dc045971b41bd36c… (all of the seat's roots in one cut). By AI agents, Wed Nov 11 2026. No macro, syntax, notation, axiom, sorry.
-/
import Derived.Test.YtclfpogolgindabChecked
import GoSem.Claim
import GoSem.ClaimJoined
import GoSem.ClaimMapViews
import Derived.JoinedTies
import Derived.KernelRfl
namespace Go.Proofs.Ytclfpogolgindab
/- THE CELL 'sum', in the pinned program and in every row, IS THE sha256 OF THE DUMP (.gsa) THAT YtclfpogolgindabProg.lean LOADS. Nothing in Lean hashes anything: it is a label: what it is worth is what the hold of that sum in a sandbox is worth. -/
noncomputable def Try.pinned : Pinned := { name := "ytclfpogolgindab", sum := "dc045971b41bd36c9a414786aab4544f22b08f6911608efca9d3bcc4a4e94771", checked := Try.checked }
namespace Rows
def none {H : Type} : Left H := { results := [], args := [] }

/-- 'laws.FnExactWindingAt': WHATEVER THE INPUT: true; the input reads as it did. -/
def fnExactWindingAtSpec : ChangeSpec := { name := "fnExactWindingAt", fn := fun _ => fun
  | [d1, d2, d3] => { results := [.lit (.bool true)], args := [d1, d2, d3] }
  | _ => none }
def fnExactWindingAtRow : OpenClaim := { program := "ytclfpogolgindab", sum := "dc045971b41bd36c9a414786aab4544f22b08f6911608efca9d3bcc4a4e94771", func := "loop.example/g01228/laws.FnExactWindingAt", spec := "fnExactWindingAt", apart := false }
def FnExactWindingAtSaid : Prop := fnExactWindingAtRow.holds Try.pinned (OpenSpec.ofChange fnExactWindingAtSpec)

/-- ITS FALSE NEIGHBOUR: 'it returns false'. Refute it at one input. -/
def fnExactWindingAtWrong : ChangeSpec := { name := "fnExactWindingAt", fn := fun _ => fun
  | [d1, d2, d3] => { results := [.lit (.bool false)], args := [d1, d2, d3] }
  | _ => none }
def FnExactWindingAtWrongFalsely : Prop := fnExactWindingAtRow.holds Try.pinned (OpenSpec.ofChange fnExactWindingAtWrong)

/-- 'laws.FnExactGridPicture': WHATEVER THE INPUT: true; the input reads as it did. -/
def fnExactGridPictureSpec : ChangeSpec := { name := "fnExactGridPicture", fn := fun _ => fun
  | [d] => { results := [.lit (.bool true)], args := [d] }
  | _ => none }
def fnExactGridPictureRow : OpenClaim := { program := "ytclfpogolgindab", sum := "dc045971b41bd36c9a414786aab4544f22b08f6911608efca9d3bcc4a4e94771", func := "loop.example/g01228/laws.FnExactGridPicture", spec := "fnExactGridPicture", unfollowed := true, recurses := true, apart := false }
def FnExactGridPictureSaid : Prop := fnExactGridPictureRow.holds Try.pinned (OpenSpec.ofChange fnExactGridPictureSpec)

/-- ITS FALSE NEIGHBOUR: 'it returns false'. Refute it at one input. -/
def fnExactGridPictureWrong : ChangeSpec := { name := "fnExactGridPicture", fn := fun _ => fun
  | [d] => { results := [.lit (.bool false)], args := [d] }
  | _ => none }
def FnExactGridPictureWrongFalsely : Prop := fnExactGridPictureRow.holds Try.pinned (OpenSpec.ofChange fnExactGridPictureWrong)

/-- 'laws.FnExactUnionOf': WHATEVER THE INPUT: true; the input reads as it did. -/
def fnExactUnionOfSpec : ChangeSpec := { name := "fnExactUnionOf", fn := fun _ => fun
  | [d1, d2] => { results := [.lit (.bool true)], args := [d1, d2] }
  | _ => none }
def fnExactUnionOfRow : OpenClaim := { program := "ytclfpogolgindab", sum := "dc045971b41bd36c9a414786aab4544f22b08f6911608efca9d3bcc4a4e94771", func := "loop.example/g01228/laws.FnExactUnionOf", spec := "fnExactUnionOf", apart := false }
def FnExactUnionOfSaid : Prop := fnExactUnionOfRow.holds Try.pinned (OpenSpec.ofChange fnExactUnionOfSpec)

/-- ITS FALSE NEIGHBOUR: 'it returns false'. Refute it at one input. -/
def fnExactUnionOfWrong : ChangeSpec := { name := "fnExactUnionOf", fn := fun _ => fun
  | [d1, d2] => { results := [.lit (.bool false)], args := [d1, d2] }
  | _ => none }
def FnExactUnionOfWrongFalsely : Prop := fnExactUnionOfRow.holds Try.pinned (OpenSpec.ofChange fnExactUnionOfWrong)

/-- 'laws.FnExactCanExchangeColumns': WHATEVER THE INPUT: true; the input reads as it did. -/
def fnExactCanExchangeColumnsSpec : ChangeSpec := { name := "fnExactCanExchangeColumns", fn := fun _ => fun
  | [d1, d2] => { results := [.lit (.bool true)], args := [d1, d2] }
  | _ => none }
def fnExactCanExchangeColumnsRow : OpenClaim := { program := "ytclfpogolgindab", sum := "dc045971b41bd36c9a414786aab4544f22b08f6911608efca9d3bcc4a4e94771", func := "loop.example/g01228/laws.FnExactCanExchangeColumns", spec := "fnExactCanExchangeColumns", apart := false }
def FnExactCanExchangeColumnsSaid : Prop := fnExactCanExchangeColumnsRow.holds Try.pinned (OpenSpec.ofChange fnExactCanExchangeColumnsSpec)

/-- ITS FALSE NEIGHBOUR: 'it returns false'. Refute it at one input. -/
def fnExactCanExchangeColumnsWrong : ChangeSpec := { name := "fnExactCanExchangeColumns", fn := fun _ => fun
  | [d1, d2] => { results := [.lit (.bool false)], args := [d1, d2] }
  | _ => none }
def FnExactCanExchangeColumnsWrongFalsely : Prop := fnExactCanExchangeColumnsRow.holds Try.pinned (OpenSpec.ofChange fnExactCanExchangeColumnsWrong)

/-- 'laws.FnExactFlipOf': WHATEVER THE INPUT: true; the input reads as it did. -/
def fnExactFlipOfSpec : ChangeSpec := { name := "fnExactFlipOf", fn := fun _ => fun
  | [d] => { results := [.lit (.bool true)], args := [d] }
  | _ => none }
def fnExactFlipOfRow : OpenClaim := { program := "ytclfpogolgindab", sum := "dc045971b41bd36c9a414786aab4544f22b08f6911608efca9d3bcc4a4e94771", func := "loop.example/g01228/laws.FnExactFlipOf", spec := "fnExactFlipOf", unfollowed := true, recurses := true, apart := false }
def FnExactFlipOfSaid : Prop := fnExactFlipOfRow.holds Try.pinned (OpenSpec.ofChange fnExactFlipOfSpec)

/-- ITS FALSE NEIGHBOUR: 'it returns false'. Refute it at one input. -/
def fnExactFlipOfWrong : ChangeSpec := { name := "fnExactFlipOf", fn := fun _ => fun
  | [d] => { results := [.lit (.bool false)], args := [d] }
  | _ => none }
def FnExactFlipOfWrongFalsely : Prop := fnExactFlipOfRow.holds Try.pinned (OpenSpec.ofChange fnExactFlipOfWrong)

/-- 'laws.FnExactArfOf': WHATEVER THE INPUT: true; the input reads as it did. -/
def fnExactArfOfSpec : ChangeSpec := { name := "fnExactArfOf", fn := fun _ => fun
  | [d] => { results := [.lit (.bool true)], args := [d] }
  | _ => none }
def fnExactArfOfRow : OpenClaim := { program := "ytclfpogolgindab", sum := "dc045971b41bd36c9a414786aab4544f22b08f6911608efca9d3bcc4a4e94771", func := "loop.example/g01228/laws.FnExactArfOf", spec := "fnExactArfOf", unfollowed := true, recurses := true, apart := false }
def FnExactArfOfSaid : Prop := fnExactArfOfRow.holds Try.pinned (OpenSpec.ofChange fnExactArfOfSpec)

/-- ITS FALSE NEIGHBOUR: 'it returns false'. Refute it at one input. -/
def fnExactArfOfWrong : ChangeSpec := { name := "fnExactArfOf", fn := fun _ => fun
  | [d] => { results := [.lit (.bool false)], args := [d] }
  | _ => none }
def FnExactArfOfWrongFalsely : Prop := fnExactArfOfRow.holds Try.pinned (OpenSpec.ofChange fnExactArfOfWrong)

/-- 'laws.FnExactQuarterTurn': WHATEVER THE INPUT: true; the input reads as it did. -/
def fnExactQuarterTurnSpec : ChangeSpec := { name := "fnExactQuarterTurn", fn := fun _ => fun
  | [d] => { results := [.lit (.bool true)], args := [d] }
  | _ => none }
def fnExactQuarterTurnRow : OpenClaim := { program := "ytclfpogolgindab", sum := "dc045971b41bd36c9a414786aab4544f22b08f6911608efca9d3bcc4a4e94771", func := "loop.example/g01228/laws.FnExactQuarterTurn", spec := "fnExactQuarterTurn", unfollowed := true, recurses := true, apart := false }
def FnExactQuarterTurnSaid : Prop := fnExactQuarterTurnRow.holds Try.pinned (OpenSpec.ofChange fnExactQuarterTurnSpec)

/-- ITS FALSE NEIGHBOUR: 'it returns false'. Refute it at one input. -/
def fnExactQuarterTurnWrong : ChangeSpec := { name := "fnExactQuarterTurn", fn := fun _ => fun
  | [d] => { results := [.lit (.bool false)], args := [d] }
  | _ => none }
def FnExactQuarterTurnWrongFalsely : Prop := fnExactQuarterTurnRow.holds Try.pinned (OpenSpec.ofChange fnExactQuarterTurnWrong)

/-- 'laws.FnExactValueAtSign': WHATEVER THE INPUT: true; the input reads as it did. -/
def fnExactValueAtSignSpec : ChangeSpec := { name := "fnExactValueAtSign", fn := fun _ => fun
  | [d1, d2] => { results := [.lit (.bool true)], args := [d1, d2] }
  | _ => none }
def fnExactValueAtSignRow : OpenClaim := { program := "ytclfpogolgindab", sum := "dc045971b41bd36c9a414786aab4544f22b08f6911608efca9d3bcc4a4e94771", func := "loop.example/g01228/laws.FnExactValueAtSign", spec := "fnExactValueAtSign", unfollowed := true, recurses := true, apart := false }
def FnExactValueAtSignSaid : Prop := fnExactValueAtSignRow.holds Try.pinned (OpenSpec.ofChange fnExactValueAtSignSpec)

/-- ITS FALSE NEIGHBOUR: 'it returns false'. Refute it at one input. -/
def fnExactValueAtSignWrong : ChangeSpec := { name := "fnExactValueAtSign", fn := fun _ => fun
  | [d1, d2] => { results := [.lit (.bool false)], args := [d1, d2] }
  | _ => none }
def FnExactValueAtSignWrongFalsely : Prop := fnExactValueAtSignRow.holds Try.pinned (OpenSpec.ofChange fnExactValueAtSignWrong)

/-- 'laws.FnExactIsKnot': WHATEVER THE INPUT: true; the input reads as it did. -/
def fnExactIsKnotSpec : ChangeSpec := { name := "fnExactIsKnot", fn := fun _ => fun
  | [d] => { results := [.lit (.bool true)], args := [d] }
  | _ => none }
def fnExactIsKnotRow : OpenClaim := { program := "ytclfpogolgindab", sum := "dc045971b41bd36c9a414786aab4544f22b08f6911608efca9d3bcc4a4e94771", func := "loop.example/g01228/laws.FnExactIsKnot", spec := "fnExactIsKnot", unfollowed := true, recurses := true, apart := false }
def FnExactIsKnotSaid : Prop := fnExactIsKnotRow.holds Try.pinned (OpenSpec.ofChange fnExactIsKnotSpec)

/-- ITS FALSE NEIGHBOUR: 'it returns false'. Refute it at one input. -/
def fnExactIsKnotWrong : ChangeSpec := { name := "fnExactIsKnot", fn := fun _ => fun
  | [d] => { results := [.lit (.bool false)], args := [d] }
  | _ => none }
def FnExactIsKnotWrongFalsely : Prop := fnExactIsKnotRow.holds Try.pinned (OpenSpec.ofChange fnExactIsKnotWrong)

/-- 'laws.FnExactWindingSum': WHATEVER THE INPUT: true; the input reads as it did. -/
def fnExactWindingSumSpec : ChangeSpec := { name := "fnExactWindingSum", fn := fun _ => fun
  | [d] => { results := [.lit (.bool true)], args := [d] }
  | _ => none }
def fnExactWindingSumRow : OpenClaim := { program := "ytclfpogolgindab", sum := "dc045971b41bd36c9a414786aab4544f22b08f6911608efca9d3bcc4a4e94771", func := "loop.example/g01228/laws.FnExactWindingSum", spec := "fnExactWindingSum", unfollowed := true, recurses := true, apart := false }
def FnExactWindingSumSaid : Prop := fnExactWindingSumRow.holds Try.pinned (OpenSpec.ofChange fnExactWindingSumSpec)

/-- ITS FALSE NEIGHBOUR: 'it returns false'. Refute it at one input. -/
def fnExactWindingSumWrong : ChangeSpec := { name := "fnExactWindingSum", fn := fun _ => fun
  | [d] => { results := [.lit (.bool false)], args := [d] }
  | _ => none }
def FnExactWindingSumWrongFalsely : Prop := fnExactWindingSumRow.holds Try.pinned (OpenSpec.ofChange fnExactWindingSumWrong)

/-- 'laws.FnExactCanExchangeRows': WHATEVER THE INPUT: true; the input reads as it did. -/
def fnExactCanExchangeRowsSpec : ChangeSpec := { name := "fnExactCanExchangeRows", fn := fun _ => fun
  | [d1, d2] => { results := [.lit (.bool true)], args := [d1, d2] }
  | _ => none }
def fnExactCanExchangeRowsRow : OpenClaim := { program := "ytclfpogolgindab", sum := "dc045971b41bd36c9a414786aab4544f22b08f6911608efca9d3bcc4a4e94771", func := "loop.example/g01228/laws.FnExactCanExchangeRows", spec := "fnExactCanExchangeRows", apart := false }
def FnExactCanExchangeRowsSaid : Prop := fnExactCanExchangeRowsRow.holds Try.pinned (OpenSpec.ofChange fnExactCanExchangeRowsSpec)

/-- ITS FALSE NEIGHBOUR: 'it returns false'. Refute it at one input. -/
def fnExactCanExchangeRowsWrong : ChangeSpec := { name := "fnExactCanExchangeRows", fn := fun _ => fun
  | [d1, d2] => { results := [.lit (.bool false)], args := [d1, d2] }
  | _ => none }
def FnExactCanExchangeRowsWrongFalsely : Prop := fnExactCanExchangeRowsRow.holds Try.pinned (OpenSpec.ofChange fnExactCanExchangeRowsWrong)

/-- 'laws.FnExactWritheOf': WHATEVER THE INPUT: true; the input reads as it did. -/
def fnExactWritheOfSpec : ChangeSpec := { name := "fnExactWritheOf", fn := fun _ => fun
  | [d] => { results := [.lit (.bool true)], args := [d] }
  | _ => none }
def fnExactWritheOfRow : OpenClaim := { program := "ytclfpogolgindab", sum := "dc045971b41bd36c9a414786aab4544f22b08f6911608efca9d3bcc4a4e94771", func := "loop.example/g01228/laws.FnExactWritheOf", spec := "fnExactWritheOf", unfollowed := true, recurses := true, apart := false }
def FnExactWritheOfSaid : Prop := fnExactWritheOfRow.holds Try.pinned (OpenSpec.ofChange fnExactWritheOfSpec)

/-- ITS FALSE NEIGHBOUR: 'it returns false'. Refute it at one input. -/
def fnExactWritheOfWrong : ChangeSpec := { name := "fnExactWritheOf", fn := fun _ => fun
  | [d] => { results := [.lit (.bool false)], args := [d] }
  | _ => none }
def FnExactWritheOfWrongFalsely : Prop := fnExactWritheOfRow.holds Try.pinned (OpenSpec.ofChange fnExactWritheOfWrong)

/- THE SECOND FORM. 'bulk': how many values and letters a reading holds, each counted each time it is reached (what is shared counts as often as it is met; a slice's spare places count too). A statement '..UptoSaid' is the law's where the arguments, and the package variables that the reading takes, are together of bulk at most 1048576: NARROWER than '..Said'. Prove '..Said' where nothing that the law and all that it calls make is longer than what came in: it says more and counts as full. Else prove '..UptoSaid'. A law counts once. -/
mutual
def uptoBulk {H : Type} : DataW H → Nat
  | .lit (.string bytes) => bytes.length + 1
  | .lit _ => 1
  | .nil => 1
  | .ptr d => uptoBulk d + 1
  | .slice elems spare => uptoBulkAll elems + uptoBulkAll spare + 1
  | .agg parts => uptoBulkAll parts + 1
  | .iface _ d => uptoBulk d + 1
  | .map entries => uptoBulkEntries entries + 1
  | .held _ => 1
def uptoBulkAll {H : Type} : List (DataW H) → Nat
  | [] => 0
  | d :: r => uptoBulk d + uptoBulkAll r
def uptoBulkEntries {H : Type} : List (Lit × DataW H) → Nat
  | [] => 0
  | x :: r => uptoBulkEntry x + uptoBulkEntries r
def uptoBulkEntry {H : Type} : Lit × DataW H → Nat
  | (.string bytes, d) => bytes.length + uptoBulk d + 1
  | (_, d) => uptoBulk d + 1
 end
def uptoSmall : (H : Type) → List (DataW H) → Bool := fun _ ds => decide (uptoBulkAll ds ≤ 1048576)
def OpenSpec.upto (s : _root_.Go.ChangeSpec) : _root_.Go.OpenSpec := { _root_.Go.OpenSpec.ofChange s with cond := some uptoSmall }

/-- 'laws.FnExactWindingAt', WHERE WHAT IT READS IS OF BULK AT MOST 1048576: true; the input reads as it did. -/
def fnExactWindingAtUptoRow : OpenClaim := { program := "ytclfpogolgindab", sum := "dc045971b41bd36c9a414786aab4544f22b08f6911608efca9d3bcc4a4e94771", func := "loop.example/g01228/laws.FnExactWindingAt", spec := "fnExactWindingAt", apart := false, narrowed := true }
def FnExactWindingAtUptoSaid : Prop := fnExactWindingAtUptoRow.holds Try.pinned (OpenSpec.upto fnExactWindingAtSpec)

/-- 'laws.FnExactGridPicture', WHERE WHAT IT READS IS OF BULK AT MOST 1048576: true; the input reads as it did. -/
def fnExactGridPictureUptoRow : OpenClaim := { program := "ytclfpogolgindab", sum := "dc045971b41bd36c9a414786aab4544f22b08f6911608efca9d3bcc4a4e94771", func := "loop.example/g01228/laws.FnExactGridPicture", spec := "fnExactGridPicture", unfollowed := true, recurses := true, apart := false, narrowed := true }
def FnExactGridPictureUptoSaid : Prop := fnExactGridPictureUptoRow.holds Try.pinned (OpenSpec.upto fnExactGridPictureSpec)

/-- 'laws.FnExactUnionOf', WHERE WHAT IT READS IS OF BULK AT MOST 1048576: true; the input reads as it did. -/
def fnExactUnionOfUptoRow : OpenClaim := { program := "ytclfpogolgindab", sum := "dc045971b41bd36c9a414786aab4544f22b08f6911608efca9d3bcc4a4e94771", func := "loop.example/g01228/laws.FnExactUnionOf", spec := "fnExactUnionOf", apart := false, narrowed := true }
def FnExactUnionOfUptoSaid : Prop := fnExactUnionOfUptoRow.holds Try.pinned (OpenSpec.upto fnExactUnionOfSpec)

/-- 'laws.FnExactCanExchangeColumns', WHERE WHAT IT READS IS OF BULK AT MOST 1048576: true; the input reads as it did. -/
def fnExactCanExchangeColumnsUptoRow : OpenClaim := { program := "ytclfpogolgindab", sum := "dc045971b41bd36c9a414786aab4544f22b08f6911608efca9d3bcc4a4e94771", func := "loop.example/g01228/laws.FnExactCanExchangeColumns", spec := "fnExactCanExchangeColumns", apart := false, narrowed := true }
def FnExactCanExchangeColumnsUptoSaid : Prop := fnExactCanExchangeColumnsUptoRow.holds Try.pinned (OpenSpec.upto fnExactCanExchangeColumnsSpec)

/-- 'laws.FnExactFlipOf', WHERE WHAT IT READS IS OF BULK AT MOST 1048576: true; the input reads as it did. -/
def fnExactFlipOfUptoRow : OpenClaim := { program := "ytclfpogolgindab", sum := "dc045971b41bd36c9a414786aab4544f22b08f6911608efca9d3bcc4a4e94771", func := "loop.example/g01228/laws.FnExactFlipOf", spec := "fnExactFlipOf", unfollowed := true, recurses := true, apart := false, narrowed := true }
def FnExactFlipOfUptoSaid : Prop := fnExactFlipOfUptoRow.holds Try.pinned (OpenSpec.upto fnExactFlipOfSpec)

/-- 'laws.FnExactArfOf', WHERE WHAT IT READS IS OF BULK AT MOST 1048576: true; the input reads as it did. -/
def fnExactArfOfUptoRow : OpenClaim := { program := "ytclfpogolgindab", sum := "dc045971b41bd36c9a414786aab4544f22b08f6911608efca9d3bcc4a4e94771", func := "loop.example/g01228/laws.FnExactArfOf", spec := "fnExactArfOf", unfollowed := true, recurses := true, apart := false, narrowed := true }
def FnExactArfOfUptoSaid : Prop := fnExactArfOfUptoRow.holds Try.pinned (OpenSpec.upto fnExactArfOfSpec)

/-- 'laws.FnExactQuarterTurn', WHERE WHAT IT READS IS OF BULK AT MOST 1048576: true; the input reads as it did. -/
def fnExactQuarterTurnUptoRow : OpenClaim := { program := "ytclfpogolgindab", sum := "dc045971b41bd36c9a414786aab4544f22b08f6911608efca9d3bcc4a4e94771", func := "loop.example/g01228/laws.FnExactQuarterTurn", spec := "fnExactQuarterTurn", unfollowed := true, recurses := true, apart := false, narrowed := true }
def FnExactQuarterTurnUptoSaid : Prop := fnExactQuarterTurnUptoRow.holds Try.pinned (OpenSpec.upto fnExactQuarterTurnSpec)

/-- 'laws.FnExactValueAtSign', WHERE WHAT IT READS IS OF BULK AT MOST 1048576: true; the input reads as it did. -/
def fnExactValueAtSignUptoRow : OpenClaim := { program := "ytclfpogolgindab", sum := "dc045971b41bd36c9a414786aab4544f22b08f6911608efca9d3bcc4a4e94771", func := "loop.example/g01228/laws.FnExactValueAtSign", spec := "fnExactValueAtSign", unfollowed := true, recurses := true, apart := false, narrowed := true }
def FnExactValueAtSignUptoSaid : Prop := fnExactValueAtSignUptoRow.holds Try.pinned (OpenSpec.upto fnExactValueAtSignSpec)

/-- 'laws.FnExactIsKnot', WHERE WHAT IT READS IS OF BULK AT MOST 1048576: true; the input reads as it did. -/
def fnExactIsKnotUptoRow : OpenClaim := { program := "ytclfpogolgindab", sum := "dc045971b41bd36c9a414786aab4544f22b08f6911608efca9d3bcc4a4e94771", func := "loop.example/g01228/laws.FnExactIsKnot", spec := "fnExactIsKnot", unfollowed := true, recurses := true, apart := false, narrowed := true }
def FnExactIsKnotUptoSaid : Prop := fnExactIsKnotUptoRow.holds Try.pinned (OpenSpec.upto fnExactIsKnotSpec)

/-- 'laws.FnExactWindingSum', WHERE WHAT IT READS IS OF BULK AT MOST 1048576: true; the input reads as it did. -/
def fnExactWindingSumUptoRow : OpenClaim := { program := "ytclfpogolgindab", sum := "dc045971b41bd36c9a414786aab4544f22b08f6911608efca9d3bcc4a4e94771", func := "loop.example/g01228/laws.FnExactWindingSum", spec := "fnExactWindingSum", unfollowed := true, recurses := true, apart := false, narrowed := true }
def FnExactWindingSumUptoSaid : Prop := fnExactWindingSumUptoRow.holds Try.pinned (OpenSpec.upto fnExactWindingSumSpec)

/-- 'laws.FnExactCanExchangeRows', WHERE WHAT IT READS IS OF BULK AT MOST 1048576: true; the input reads as it did. -/
def fnExactCanExchangeRowsUptoRow : OpenClaim := { program := "ytclfpogolgindab", sum := "dc045971b41bd36c9a414786aab4544f22b08f6911608efca9d3bcc4a4e94771", func := "loop.example/g01228/laws.FnExactCanExchangeRows", spec := "fnExactCanExchangeRows", apart := false, narrowed := true }
def FnExactCanExchangeRowsUptoSaid : Prop := fnExactCanExchangeRowsUptoRow.holds Try.pinned (OpenSpec.upto fnExactCanExchangeRowsSpec)

/-- 'laws.FnExactWritheOf', WHERE WHAT IT READS IS OF BULK AT MOST 1048576: true; the input reads as it did. -/
def fnExactWritheOfUptoRow : OpenClaim := { program := "ytclfpogolgindab", sum := "dc045971b41bd36c9a414786aab4544f22b08f6911608efca9d3bcc4a4e94771", func := "loop.example/g01228/laws.FnExactWritheOf", spec := "fnExactWritheOf", unfollowed := true, recurses := true, apart := false, narrowed := true }
def FnExactWritheOfUptoSaid : Prop := fnExactWritheOfUptoRow.holds Try.pinned (OpenSpec.upto fnExactWritheOfSpec)

end Rows
end Go.Proofs.Ytclfpogolgindab
