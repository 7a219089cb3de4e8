/-
  No cell of these rows narrows 'for every input' (looked for: loops, veiled, ifaces, maps, wideKeys, modest, calm, conditions, laid).
  DERIVED. THE GIVEN ROWS OF THIS SEAT. 11 by the template 'for every input the law returns true; each argument reads behind the call as it read before'; 0 by the template 'total and deterministic' (their statements: YtclfpogolgindaaTotals.lean).
  GIVEN WITH THE SEED: the statements are not yours to turn. If you find one false, say at which input.
  Laid BY PROGRAM, IN A SANDBOX (cutbox-rows.mjs): the forced cells as the released guide's own fill.sh prints them over the translation 5bba8dfdb9d9c0e2… (all of the seat's roots in one cut). By AI agents, Wed Nov 11 2026. No macro, syntax, notation, axiom, sorry.
-/
import Derived.Test.YtclfpogolgindaaChecked
import GoSem.Claim
import GoSem.ClaimJoined
import GoSem.ClaimMapViews
import Derived.JoinedTies
import Derived.KernelRfl
namespace Go.Proofs.Ytclfpogolgindaa
/- THE CELL 'sum', in the pinned program and in every row, IS THE sha256 OF THE DUMP (.gsa) THAT YtclfpogolgindaaProg.lean LOADS. Nothing in Lean hashes anything: it is a label: what it is worth is what the hold of that sum in a sandbox is worth. -/
noncomputable def Try.pinned : Pinned := { name := "ytclfpogolgindaa", sum := "5bba8dfdb9d9c0e2727a3c02bdbdba8af22af398882c324f1b8fdd306e02996c", checked := Try.checked }
namespace Rows
def none {H : Type} : Left H := { results := [], args := [] }

/-- 'laws.FnExactConstants': WHATEVER THE INPUT: true; the input reads as it did. -/
def fnExactConstantsSpec : ChangeSpec := { name := "fnExactConstants", fn := fun _ => fun
  | [] => { results := [.lit (.bool true)], args := [] }
  | _ => none }
def fnExactConstantsRow : OpenClaim := { program := "ytclfpogolgindaa", sum := "5bba8dfdb9d9c0e2727a3c02bdbdba8af22af398882c324f1b8fdd306e02996c", func := "loop.example/g01228/laws.FnExactConstants", spec := "fnExactConstants", apart := false }
def FnExactConstantsSaid : Prop := fnExactConstantsRow.holds Try.pinned (OpenSpec.ofChange fnExactConstantsSpec)

/-- ITS FALSE NEIGHBOUR: 'it returns false'. Refute it at one input. -/
def fnExactConstantsWrong : ChangeSpec := { name := "fnExactConstants", fn := fun _ => fun
  | [] => { results := [.lit (.bool false)], args := [] }
  | _ => none }
def FnExactConstantsWrongFalsely : Prop := fnExactConstantsRow.holds Try.pinned (OpenSpec.ofChange fnExactConstantsWrong)

/-- 'laws.FnExactTorusGrid': WHATEVER THE INPUT: true; the input reads as it did. -/
def fnExactTorusGridSpec : ChangeSpec := { name := "fnExactTorusGrid", fn := fun _ => fun
  | [d1, d2] => { results := [.lit (.bool true)], args := [d1, d2] }
  | _ => none }
def fnExactTorusGridRow : OpenClaim := { program := "ytclfpogolgindaa", sum := "5bba8dfdb9d9c0e2727a3c02bdbdba8af22af398882c324f1b8fdd306e02996c", func := "loop.example/g01228/laws.FnExactTorusGrid", spec := "fnExactTorusGrid", apart := false }
def FnExactTorusGridSaid : Prop := fnExactTorusGridRow.holds Try.pinned (OpenSpec.ofChange fnExactTorusGridSpec)

/-- ITS FALSE NEIGHBOUR: 'it returns false'. Refute it at one input. -/
def fnExactTorusGridWrong : ChangeSpec := { name := "fnExactTorusGrid", fn := fun _ => fun
  | [d1, d2] => { results := [.lit (.bool false)], args := [d1, d2] }
  | _ => none }
def FnExactTorusGridWrongFalsely : Prop := fnExactTorusGridRow.holds Try.pinned (OpenSpec.ofChange fnExactTorusGridWrong)

/-- 'laws.FnExactIsGrid': WHATEVER THE INPUT: true; the input reads as it did. -/
def fnExactIsGridSpec : ChangeSpec := { name := "fnExactIsGrid", fn := fun _ => fun
  | [d] => { results := [.lit (.bool true)], args := [d] }
  | _ => none }
def fnExactIsGridRow : OpenClaim := { program := "ytclfpogolgindaa", sum := "5bba8dfdb9d9c0e2727a3c02bdbdba8af22af398882c324f1b8fdd306e02996c", func := "loop.example/g01228/laws.FnExactIsGrid", spec := "fnExactIsGrid", apart := false }
def FnExactIsGridSaid : Prop := fnExactIsGridRow.holds Try.pinned (OpenSpec.ofChange fnExactIsGridSpec)

/-- ITS FALSE NEIGHBOUR: 'it returns false'. Refute it at one input. -/
def fnExactIsGridWrong : ChangeSpec := { name := "fnExactIsGrid", fn := fun _ => fun
  | [d] => { results := [.lit (.bool false)], args := [d] }
  | _ => none }
def FnExactIsGridWrongFalsely : Prop := fnExactIsGridRow.holds Try.pinned (OpenSpec.ofChange fnExactIsGridWrong)

/-- 'laws.FnExactIsState': WHATEVER THE INPUT: true; the input reads as it did. -/
def fnExactIsStateSpec : ChangeSpec := { name := "fnExactIsState", fn := fun _ => fun
  | [d1, d2] => { results := [.lit (.bool true)], args := [d1, d2] }
  | _ => none }
def fnExactIsStateRow : OpenClaim := { program := "ytclfpogolgindaa", sum := "5bba8dfdb9d9c0e2727a3c02bdbdba8af22af398882c324f1b8fdd306e02996c", func := "loop.example/g01228/laws.FnExactIsState", spec := "fnExactIsState", apart := false }
def FnExactIsStateSaid : Prop := fnExactIsStateRow.holds Try.pinned (OpenSpec.ofChange fnExactIsStateSpec)

/-- ITS FALSE NEIGHBOUR: 'it returns false'. Refute it at one input. -/
def fnExactIsStateWrong : ChangeSpec := { name := "fnExactIsState", fn := fun _ => fun
  | [d1, d2] => { results := [.lit (.bool false)], args := [d1, d2] }
  | _ => none }
def FnExactIsStateWrongFalsely : Prop := fnExactIsStateRow.holds Try.pinned (OpenSpec.ofChange fnExactIsStateWrong)

/-- 'laws.FnExactStatesOf': WHATEVER THE INPUT: true; the input reads as it did. -/
def fnExactStatesOfSpec : ChangeSpec := { name := "fnExactStatesOf", fn := fun _ => fun
  | [d] => { results := [.lit (.bool true)], args := [d] }
  | _ => none }
def fnExactStatesOfRow : OpenClaim := { program := "ytclfpogolgindaa", sum := "5bba8dfdb9d9c0e2727a3c02bdbdba8af22af398882c324f1b8fdd306e02996c", func := "loop.example/g01228/laws.FnExactStatesOf", spec := "fnExactStatesOf", unfollowed := true, recurses := true, apart := false }
def FnExactStatesOfSaid : Prop := fnExactStatesOfRow.holds Try.pinned (OpenSpec.ofChange fnExactStatesOfSpec)

/-- ITS FALSE NEIGHBOUR: 'it returns false'. Refute it at one input. -/
def fnExactStatesOfWrong : ChangeSpec := { name := "fnExactStatesOf", fn := fun _ => fun
  | [d] => { results := [.lit (.bool false)], args := [d] }
  | _ => none }
def FnExactStatesOfWrongFalsely : Prop := fnExactStatesOfRow.holds Try.pinned (OpenSpec.ofChange fnExactStatesOfWrong)

/-- 'laws.FnExactIsLaurent': WHATEVER THE INPUT: true; the input reads as it did. -/
def fnExactIsLaurentSpec : ChangeSpec := { name := "fnExactIsLaurent", fn := fun _ => fun
  | [d] => { results := [.lit (.bool true)], args := [d] }
  | _ => none }
def fnExactIsLaurentRow : OpenClaim := { program := "ytclfpogolgindaa", sum := "5bba8dfdb9d9c0e2727a3c02bdbdba8af22af398882c324f1b8fdd306e02996c", func := "loop.example/g01228/laws.FnExactIsLaurent", spec := "fnExactIsLaurent", unfollowed := true, recurses := true, apart := false }
def FnExactIsLaurentSaid : Prop := fnExactIsLaurentRow.holds Try.pinned (OpenSpec.ofChange fnExactIsLaurentSpec)

/-- ITS FALSE NEIGHBOUR: 'it returns false'. Refute it at one input. -/
def fnExactIsLaurentWrong : ChangeSpec := { name := "fnExactIsLaurent", fn := fun _ => fun
  | [d] => { results := [.lit (.bool false)], args := [d] }
  | _ => none }
def FnExactIsLaurentWrongFalsely : Prop := fnExactIsLaurentRow.holds Try.pinned (OpenSpec.ofChange fnExactIsLaurentWrong)

/-- 'laws.FnExactVerticalLength': WHATEVER THE INPUT: true; the input reads as it did. -/
def fnExactVerticalLengthSpec : ChangeSpec := { name := "fnExactVerticalLength", fn := fun _ => fun
  | [d] => { results := [.lit (.bool true)], args := [d] }
  | _ => none }
def fnExactVerticalLengthRow : OpenClaim := { program := "ytclfpogolgindaa", sum := "5bba8dfdb9d9c0e2727a3c02bdbdba8af22af398882c324f1b8fdd306e02996c", func := "loop.example/g01228/laws.FnExactVerticalLength", spec := "fnExactVerticalLength", unfollowed := true, recurses := true, apart := false }
def FnExactVerticalLengthSaid : Prop := fnExactVerticalLengthRow.holds Try.pinned (OpenSpec.ofChange fnExactVerticalLengthSpec)

/-- ITS FALSE NEIGHBOUR: 'it returns false'. Refute it at one input. -/
def fnExactVerticalLengthWrong : ChangeSpec := { name := "fnExactVerticalLength", fn := fun _ => fun
  | [d] => { results := [.lit (.bool false)], args := [d] }
  | _ => none }
def FnExactVerticalLengthWrongFalsely : Prop := fnExactVerticalLengthRow.holds Try.pinned (OpenSpec.ofChange fnExactVerticalLengthWrong)

/-- 'laws.FnExactExchangeOf': WHATEVER THE INPUT: true; the input reads as it did. -/
def fnExactExchangeOfSpec : ChangeSpec := { name := "fnExactExchangeOf", fn := fun _ => fun
  | [d] => { results := [.lit (.bool true)], args := [d] }
  | _ => none }
def fnExactExchangeOfRow : OpenClaim := { program := "ytclfpogolgindaa", sum := "5bba8dfdb9d9c0e2727a3c02bdbdba8af22af398882c324f1b8fdd306e02996c", func := "loop.example/g01228/laws.FnExactExchangeOf", spec := "fnExactExchangeOf", unfollowed := true, recurses := true, apart := false }
def FnExactExchangeOfSaid : Prop := fnExactExchangeOfRow.holds Try.pinned (OpenSpec.ofChange fnExactExchangeOfSpec)

/-- ITS FALSE NEIGHBOUR: 'it returns false'. Refute it at one input. -/
def fnExactExchangeOfWrong : ChangeSpec := { name := "fnExactExchangeOf", fn := fun _ => fun
  | [d] => { results := [.lit (.bool false)], args := [d] }
  | _ => none }
def FnExactExchangeOfWrongFalsely : Prop := fnExactExchangeOfRow.holds Try.pinned (OpenSpec.ofChange fnExactExchangeOfWrong)

/-- 'laws.FnExactGridText': WHATEVER THE INPUT: true; the input reads as it did. -/
def fnExactGridTextSpec : ChangeSpec := { name := "fnExactGridText", fn := fun _ => fun
  | [d] => { results := [.lit (.bool true)], args := [d] }
  | _ => none }
def fnExactGridTextRow : OpenClaim := { program := "ytclfpogolgindaa", sum := "5bba8dfdb9d9c0e2727a3c02bdbdba8af22af398882c324f1b8fdd306e02996c", func := "loop.example/g01228/laws.FnExactGridText", spec := "fnExactGridText", unfollowed := true, recurses := true, apart := false }
def FnExactGridTextSaid : Prop := fnExactGridTextRow.holds Try.pinned (OpenSpec.ofChange fnExactGridTextSpec)

/-- ITS FALSE NEIGHBOUR: 'it returns false'. Refute it at one input. -/
def fnExactGridTextWrong : ChangeSpec := { name := "fnExactGridText", fn := fun _ => fun
  | [d] => { results := [.lit (.bool false)], args := [d] }
  | _ => none }
def FnExactGridTextWrongFalsely : Prop := fnExactGridTextRow.holds Try.pinned (OpenSpec.ofChange fnExactGridTextWrong)

/-- 'laws.FnExactWindingNumber': WHATEVER THE INPUT: true; the input reads as it did. -/
def fnExactWindingNumberSpec : ChangeSpec := { name := "fnExactWindingNumber", fn := fun _ => fun
  | [d1, d2, d3] => { results := [.lit (.bool true)], args := [d1, d2, d3] }
  | _ => none }
def fnExactWindingNumberRow : OpenClaim := { program := "ytclfpogolgindaa", sum := "5bba8dfdb9d9c0e2727a3c02bdbdba8af22af398882c324f1b8fdd306e02996c", func := "loop.example/g01228/laws.FnExactWindingNumber", spec := "fnExactWindingNumber", apart := false }
def FnExactWindingNumberSaid : Prop := fnExactWindingNumberRow.holds Try.pinned (OpenSpec.ofChange fnExactWindingNumberSpec)

/-- ITS FALSE NEIGHBOUR: 'it returns false'. Refute it at one input. -/
def fnExactWindingNumberWrong : ChangeSpec := { name := "fnExactWindingNumber", fn := fun _ => fun
  | [d1, d2, d3] => { results := [.lit (.bool false)], args := [d1, d2, d3] }
  | _ => none }
def FnExactWindingNumberWrongFalsely : Prop := fnExactWindingNumberRow.holds Try.pinned (OpenSpec.ofChange fnExactWindingNumberWrong)

/-- 'laws.FnStabilizations': WHATEVER THE INPUT: true; the input reads as it did. -/
def fnStabilizationsSpec : ChangeSpec := { name := "fnStabilizations", fn := fun _ => fun
  | [d] => { results := [.lit (.bool true)], args := [d] }
  | _ => none }
def fnStabilizationsRow : OpenClaim := { program := "ytclfpogolgindaa", sum := "5bba8dfdb9d9c0e2727a3c02bdbdba8af22af398882c324f1b8fdd306e02996c", func := "loop.example/g01228/laws.FnStabilizations", spec := "fnStabilizations", unfollowed := true, recurses := true, apart := false }
def FnStabilizationsSaid : Prop := fnStabilizationsRow.holds Try.pinned (OpenSpec.ofChange fnStabilizationsSpec)

/-- ITS FALSE NEIGHBOUR: 'it returns false'. Refute it at one input. -/
def fnStabilizationsWrong : ChangeSpec := { name := "fnStabilizations", fn := fun _ => fun
  | [d] => { results := [.lit (.bool false)], args := [d] }
  | _ => none }
def FnStabilizationsWrongFalsely : Prop := fnStabilizationsRow.holds Try.pinned (OpenSpec.ofChange fnStabilizationsWrong)

/- THE SECOND FORM. 'bulk': how many values and letters a reading holds, each counted each time it is reached (what is shared counts as often as it is met; a slice's spare places count too). A statement '..UptoSaid' is the law's where the arguments, and the package variables that the reading takes, are together of bulk at most 1048576: NARROWER than '..Said'. Prove '..Said' where nothing that the law and all that it calls make is longer than what came in: it says more and counts as full. Else prove '..UptoSaid'. A law counts once. -/
mutual
def uptoBulk {H : Type} : DataW H → Nat
  | .lit (.string bytes) => bytes.length + 1
  | .lit _ => 1
  | .nil => 1
  | .ptr d => uptoBulk d + 1
  | .slice elems spare => uptoBulkAll elems + uptoBulkAll spare + 1
  | .agg parts => uptoBulkAll parts + 1
  | .iface _ d => uptoBulk d + 1
  | .map entries => uptoBulkEntries entries + 1
  | .held _ => 1
def uptoBulkAll {H : Type} : List (DataW H) → Nat
  | [] => 0
  | d :: r => uptoBulk d + uptoBulkAll r
def uptoBulkEntries {H : Type} : List (Lit × DataW H) → Nat
  | [] => 0
  | x :: r => uptoBulkEntry x + uptoBulkEntries r
def uptoBulkEntry {H : Type} : Lit × DataW H → Nat
  | (.string bytes, d) => bytes.length + uptoBulk d + 1
  | (_, d) => uptoBulk d + 1
 end
def uptoSmall : (H : Type) → List (DataW H) → Bool := fun _ ds => decide (uptoBulkAll ds ≤ 1048576)
def OpenSpec.upto (s : _root_.Go.ChangeSpec) : _root_.Go.OpenSpec := { _root_.Go.OpenSpec.ofChange s with cond := some uptoSmall }

/-- 'laws.FnExactConstants', WHERE WHAT IT READS IS OF BULK AT MOST 1048576: true; the input reads as it did. -/
def fnExactConstantsUptoRow : OpenClaim := { program := "ytclfpogolgindaa", sum := "5bba8dfdb9d9c0e2727a3c02bdbdba8af22af398882c324f1b8fdd306e02996c", func := "loop.example/g01228/laws.FnExactConstants", spec := "fnExactConstants", apart := false, narrowed := true }
def FnExactConstantsUptoSaid : Prop := fnExactConstantsUptoRow.holds Try.pinned (OpenSpec.upto fnExactConstantsSpec)

/-- 'laws.FnExactTorusGrid', WHERE WHAT IT READS IS OF BULK AT MOST 1048576: true; the input reads as it did. -/
def fnExactTorusGridUptoRow : OpenClaim := { program := "ytclfpogolgindaa", sum := "5bba8dfdb9d9c0e2727a3c02bdbdba8af22af398882c324f1b8fdd306e02996c", func := "loop.example/g01228/laws.FnExactTorusGrid", spec := "fnExactTorusGrid", apart := false, narrowed := true }
def FnExactTorusGridUptoSaid : Prop := fnExactTorusGridUptoRow.holds Try.pinned (OpenSpec.upto fnExactTorusGridSpec)

/-- 'laws.FnExactIsGrid', WHERE WHAT IT READS IS OF BULK AT MOST 1048576: true; the input reads as it did. -/
def fnExactIsGridUptoRow : OpenClaim := { program := "ytclfpogolgindaa", sum := "5bba8dfdb9d9c0e2727a3c02bdbdba8af22af398882c324f1b8fdd306e02996c", func := "loop.example/g01228/laws.FnExactIsGrid", spec := "fnExactIsGrid", apart := false, narrowed := true }
def FnExactIsGridUptoSaid : Prop := fnExactIsGridUptoRow.holds Try.pinned (OpenSpec.upto fnExactIsGridSpec)

/-- 'laws.FnExactIsState', WHERE WHAT IT READS IS OF BULK AT MOST 1048576: true; the input reads as it did. -/
def fnExactIsStateUptoRow : OpenClaim := { program := "ytclfpogolgindaa", sum := "5bba8dfdb9d9c0e2727a3c02bdbdba8af22af398882c324f1b8fdd306e02996c", func := "loop.example/g01228/laws.FnExactIsState", spec := "fnExactIsState", apart := false, narrowed := true }
def FnExactIsStateUptoSaid : Prop := fnExactIsStateUptoRow.holds Try.pinned (OpenSpec.upto fnExactIsStateSpec)

/-- 'laws.FnExactStatesOf', WHERE WHAT IT READS IS OF BULK AT MOST 1048576: true; the input reads as it did. -/
def fnExactStatesOfUptoRow : OpenClaim := { program := "ytclfpogolgindaa", sum := "5bba8dfdb9d9c0e2727a3c02bdbdba8af22af398882c324f1b8fdd306e02996c", func := "loop.example/g01228/laws.FnExactStatesOf", spec := "fnExactStatesOf", unfollowed := true, recurses := true, apart := false, narrowed := true }
def FnExactStatesOfUptoSaid : Prop := fnExactStatesOfUptoRow.holds Try.pinned (OpenSpec.upto fnExactStatesOfSpec)

/-- 'laws.FnExactIsLaurent', WHERE WHAT IT READS IS OF BULK AT MOST 1048576: true; the input reads as it did. -/
def fnExactIsLaurentUptoRow : OpenClaim := { program := "ytclfpogolgindaa", sum := "5bba8dfdb9d9c0e2727a3c02bdbdba8af22af398882c324f1b8fdd306e02996c", func := "loop.example/g01228/laws.FnExactIsLaurent", spec := "fnExactIsLaurent", unfollowed := true, recurses := true, apart := false, narrowed := true }
def FnExactIsLaurentUptoSaid : Prop := fnExactIsLaurentUptoRow.holds Try.pinned (OpenSpec.upto fnExactIsLaurentSpec)

/-- 'laws.FnExactVerticalLength', WHERE WHAT IT READS IS OF BULK AT MOST 1048576: true; the input reads as it did. -/
def fnExactVerticalLengthUptoRow : OpenClaim := { program := "ytclfpogolgindaa", sum := "5bba8dfdb9d9c0e2727a3c02bdbdba8af22af398882c324f1b8fdd306e02996c", func := "loop.example/g01228/laws.FnExactVerticalLength", spec := "fnExactVerticalLength", unfollowed := true, recurses := true, apart := false, narrowed := true }
def FnExactVerticalLengthUptoSaid : Prop := fnExactVerticalLengthUptoRow.holds Try.pinned (OpenSpec.upto fnExactVerticalLengthSpec)

/-- 'laws.FnExactExchangeOf', WHERE WHAT IT READS IS OF BULK AT MOST 1048576: true; the input reads as it did. -/
def fnExactExchangeOfUptoRow : OpenClaim := { program := "ytclfpogolgindaa", sum := "5bba8dfdb9d9c0e2727a3c02bdbdba8af22af398882c324f1b8fdd306e02996c", func := "loop.example/g01228/laws.FnExactExchangeOf", spec := "fnExactExchangeOf", unfollowed := true, recurses := true, apart := false, narrowed := true }
def FnExactExchangeOfUptoSaid : Prop := fnExactExchangeOfUptoRow.holds Try.pinned (OpenSpec.upto fnExactExchangeOfSpec)

/-- 'laws.FnExactGridText', WHERE WHAT IT READS IS OF BULK AT MOST 1048576: true; the input reads as it did. -/
def fnExactGridTextUptoRow : OpenClaim := { program := "ytclfpogolgindaa", sum := "5bba8dfdb9d9c0e2727a3c02bdbdba8af22af398882c324f1b8fdd306e02996c", func := "loop.example/g01228/laws.FnExactGridText", spec := "fnExactGridText", unfollowed := true, recurses := true, apart := false, narrowed := true }
def FnExactGridTextUptoSaid : Prop := fnExactGridTextUptoRow.holds Try.pinned (OpenSpec.upto fnExactGridTextSpec)

/-- 'laws.FnExactWindingNumber', WHERE WHAT IT READS IS OF BULK AT MOST 1048576: true; the input reads as it did. -/
def fnExactWindingNumberUptoRow : OpenClaim := { program := "ytclfpogolgindaa", sum := "5bba8dfdb9d9c0e2727a3c02bdbdba8af22af398882c324f1b8fdd306e02996c", func := "loop.example/g01228/laws.FnExactWindingNumber", spec := "fnExactWindingNumber", apart := false, narrowed := true }
def FnExactWindingNumberUptoSaid : Prop := fnExactWindingNumberUptoRow.holds Try.pinned (OpenSpec.upto fnExactWindingNumberSpec)

/-- 'laws.FnStabilizations', WHERE WHAT IT READS IS OF BULK AT MOST 1048576: true; the input reads as it did. -/
def fnStabilizationsUptoRow : OpenClaim := { program := "ytclfpogolgindaa", sum := "5bba8dfdb9d9c0e2727a3c02bdbdba8af22af398882c324f1b8fdd306e02996c", func := "loop.example/g01228/laws.FnStabilizations", spec := "fnStabilizations", unfollowed := true, recurses := true, apart := false, narrowed := true }
def FnStabilizationsUptoSaid : Prop := fnStabilizationsUptoRow.holds Try.pinned (OpenSpec.upto fnStabilizationsSpec)

end Rows
end Go.Proofs.Ytclfpogolgindaa
