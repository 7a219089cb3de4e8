/-
  No cell of these rows narrows 'for every input' (looked for: loops, veiled, ifaces, maps, wideKeys, modest, calm, conditions, laid).
  DERIVED. THE GIVEN ROWS OF THIS SEAT. 2 by the template 'for every input the law returns true; each argument reads behind the call as it read before'; 0 by the template 'total and deterministic' (their statements: YtchbkidlmcpiiaaTotals.lean).
  GIVEN WITH THE SEED: the statements are not yours to turn. If you find one false, say at which input.
  Laid BY PROGRAM, IN A SANDBOX (cutbox-rows.mjs): the forced cells as the released guide's own fill.sh prints them over the translation 66938b59995c67f1… (all of the seat's roots in one cut). By AI agents, Wed Nov 11 2026. No macro, syntax, notation, axiom, sorry.
-/
import Derived.Test.YtchbkidlmcpiiaaChecked
import GoSem.Claim
import GoSem.ClaimJoined
import GoSem.ClaimMapViews
import Derived.JoinedTies
import Derived.KernelRfl
namespace Go.Proofs.Ytchbkidlmcpiiaa
/- THE CELL 'sum', in the pinned program and in every row, IS THE sha256 OF THE DUMP (.gsa) THAT YtchbkidlmcpiiaaProg.lean LOADS. Nothing in Lean hashes anything: it is a label: what it is worth is what the hold of that sum in a sandbox is worth. -/
noncomputable def Try.pinned : Pinned := { name := "ytchbkidlmcpiiaa", sum := "66938b59995c67f1c2787e1d3af24510e5a7e6865e8d0bdc1c848fa871fd2e12", checked := Try.checked }
namespace Rows
def none {H : Type} : Left H := { results := [], args := [] }

/-- 'laws.FnExactArfOf': WHATEVER THE INPUT: true; the input reads as it did. -/
def fnExactArfOfSpec : ChangeSpec := { name := "fnExactArfOf", fn := fun _ => fun
  | [d] => { results := [.lit (.bool true)], args := [d] }
  | _ => none }
def fnExactArfOfRow : OpenClaim := { program := "ytchbkidlmcpiiaa", sum := "66938b59995c67f1c2787e1d3af24510e5a7e6865e8d0bdc1c848fa871fd2e12", func := "loop.example/g01228/laws.FnExactArfOf", spec := "fnExactArfOf", unfollowed := true, recurses := true, apart := false }
def FnExactArfOfSaid : Prop := fnExactArfOfRow.holds Try.pinned (OpenSpec.ofChange fnExactArfOfSpec)

/-- ITS FALSE NEIGHBOUR: 'it returns false'. Refute it at one input. -/
def fnExactArfOfWrong : ChangeSpec := { name := "fnExactArfOf", fn := fun _ => fun
  | [d] => { results := [.lit (.bool false)], args := [d] }
  | _ => none }
def FnExactArfOfWrongFalsely : Prop := fnExactArfOfRow.holds Try.pinned (OpenSpec.ofChange fnExactArfOfWrong)

/-- 'laws.FnExactGenusBound': WHATEVER THE INPUT: true; the input reads as it did. -/
def fnExactGenusBoundSpec : ChangeSpec := { name := "fnExactGenusBound", fn := fun _ => fun
  | [d] => { results := [.lit (.bool true)], args := [d] }
  | _ => none }
def fnExactGenusBoundRow : OpenClaim := { program := "ytchbkidlmcpiiaa", sum := "66938b59995c67f1c2787e1d3af24510e5a7e6865e8d0bdc1c848fa871fd2e12", func := "loop.example/g01228/laws.FnExactGenusBound", spec := "fnExactGenusBound", unfollowed := true, recurses := true, apart := false }
def FnExactGenusBoundSaid : Prop := fnExactGenusBoundRow.holds Try.pinned (OpenSpec.ofChange fnExactGenusBoundSpec)

/-- ITS FALSE NEIGHBOUR: 'it returns false'. Refute it at one input. -/
def fnExactGenusBoundWrong : ChangeSpec := { name := "fnExactGenusBound", fn := fun _ => fun
  | [d] => { results := [.lit (.bool false)], args := [d] }
  | _ => none }
def FnExactGenusBoundWrongFalsely : Prop := fnExactGenusBoundRow.holds Try.pinned (OpenSpec.ofChange fnExactGenusBoundWrong)

/- THE SECOND FORM. 'bulk': how many values and letters a reading holds, each counted each time it is reached (what is shared counts as often as it is met; a slice's spare places count too). A statement '..UptoSaid' is the law's where the arguments, and the package variables that the reading takes, are together of bulk at most 1048576: NARROWER than '..Said'. Prove '..Said' where nothing that the law and all that it calls make is longer than what came in: it says more and counts as full. Else prove '..UptoSaid'. A law counts once. -/
mutual
def uptoBulk {H : Type} : DataW H → Nat
  | .lit (.string bytes) => bytes.length + 1
  | .lit _ => 1
  | .nil => 1
  | .ptr d => uptoBulk d + 1
  | .slice elems spare => uptoBulkAll elems + uptoBulkAll spare + 1
  | .agg parts => uptoBulkAll parts + 1
  | .iface _ d => uptoBulk d + 1
  | .map entries => uptoBulkEntries entries + 1
  | .held _ => 1
def uptoBulkAll {H : Type} : List (DataW H) → Nat
  | [] => 0
  | d :: r => uptoBulk d + uptoBulkAll r
def uptoBulkEntries {H : Type} : List (Lit × DataW H) → Nat
  | [] => 0
  | x :: r => uptoBulkEntry x + uptoBulkEntries r
def uptoBulkEntry {H : Type} : Lit × DataW H → Nat
  | (.string bytes, d) => bytes.length + uptoBulk d + 1
  | (_, d) => uptoBulk d + 1
 end
def uptoSmall : (H : Type) → List (DataW H) → Bool := fun _ ds => decide (uptoBulkAll ds ≤ 1048576)
def OpenSpec.upto (s : _root_.Go.ChangeSpec) : _root_.Go.OpenSpec := { _root_.Go.OpenSpec.ofChange s with cond := some uptoSmall }

/-- 'laws.FnExactArfOf', WHERE WHAT IT READS IS OF BULK AT MOST 1048576: true; the input reads as it did. -/
def fnExactArfOfUptoRow : OpenClaim := { program := "ytchbkidlmcpiiaa", sum := "66938b59995c67f1c2787e1d3af24510e5a7e6865e8d0bdc1c848fa871fd2e12", func := "loop.example/g01228/laws.FnExactArfOf", spec := "fnExactArfOf", unfollowed := true, recurses := true, apart := false, narrowed := true }
def FnExactArfOfUptoSaid : Prop := fnExactArfOfUptoRow.holds Try.pinned (OpenSpec.upto fnExactArfOfSpec)

/-- 'laws.FnExactGenusBound', WHERE WHAT IT READS IS OF BULK AT MOST 1048576: true; the input reads as it did. -/
def fnExactGenusBoundUptoRow : OpenClaim := { program := "ytchbkidlmcpiiaa", sum := "66938b59995c67f1c2787e1d3af24510e5a7e6865e8d0bdc1c848fa871fd2e12", func := "loop.example/g01228/laws.FnExactGenusBound", spec := "fnExactGenusBound", unfollowed := true, recurses := true, apart := false, narrowed := true }
def FnExactGenusBoundUptoSaid : Prop := fnExactGenusBoundUptoRow.holds Try.pinned (OpenSpec.upto fnExactGenusBoundSpec)

end Rows
end Go.Proofs.Ytchbkidlmcpiiaa
