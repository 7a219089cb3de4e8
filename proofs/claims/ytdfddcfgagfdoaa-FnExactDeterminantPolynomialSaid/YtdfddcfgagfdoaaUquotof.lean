/-
  What the functions of this part hand back: each as a plain function of its arguments. Conditions: none.
-/
import Derived.Test.YtdfddcfgagfdoaaFx
import Derived.Test.YtdfddcfgagfdoaaUiquot
import Derived.Test.YtdfddcfgagfdoaaUkeepkit
import Derived.Test.YtdfddcfgagfdoaaUbase
namespace Go.Proofs
open Go.W8
set_option linter.unusedVariables false
set_option linter.unusedSimpArgs false
set_option linter.unusedSectionVars false
set_option maxRecDepth 8000
set_option maxHeartbeats 4000000
def quotAns (low : Int) (l : List Int) (k : Int) : Int × List Int × Int :=
  if lauOk low l = true then if 0 ≤ k ∧ k ≤ 20 then match qIter (low, l) k.toNat with
    | some q => (q.1, q.2, 0)
    | none => (0, [], 5) else (0, [], 2) else (0, [], 1)
def lauRes (A : Int × List Int × Int) : Value → Blks → Prop := ResS (LauV A.1 A.2.1) A.2.2
theorem lauRes_no {A : Int × List Int × Int} {c : Int} {r : Value} (h : A = (0, [], c)) (hr : r = .tuple #[.agg #[.int .i64 0, .slice none 0 0], .int .i64 c]) : lauRes A r [] := by
  subst h; subst hr
  exact ⟨_, rfl, _, rfl, SlN.nil 1⟩
section
variable (low : Int) (l : List Int) (v : Value) (L : Blks) (hv : LauV low l v L) (hL : (L.map (·.1)).Nodup) (hb : l.length ≤ 100000000) (hw : -9223372036854775808 ≤ low ∧ low < 9223372036854775808) (k : Int)
include hv hL hb hw
end
section
variable (low : Int) (l : List Int) (v : Value) (L : Blks) (hv : LauV low l v L) (hL : (L.map (·.1)).Nodup) (hb : l.length ≤ 100000000) (hw : -9223372036854775808 ≤ low ∧ low < 9223372036854775808) (k : Int)
include hv hL hb hw
end

end Go.Proofs
