/-
  What the functions of this part hand back: each as a plain function of its arguments. Conditions: none.
-/
import Derived.Test.YtclfpogolgindacFx
import Derived.Test.YtclfpogolgindacUwinding
namespace Go.Proofs
open Go.W8
set_option linter.unusedVariables false
set_option linter.unusedSimpArgs false
set_option linter.unusedSectionVars false
set_option maxRecDepth 8000
set_option maxHeartbeats 4000000
def wndR (s : Int) (x o : List Int) (a b : Int) : Value :=
  if gridB s x o then if (0 ≤ a ∧ a ≤ s - 1) ∧ 0 ≤ b ∧ b ≤ s - 1 then .tuple #[.int .i64 (wnd x o b a.toNat), .int .i64 0] else .tuple #[.int .i64 0, .int .i64 2] else .tuple #[.int .i64 0, .int .i64 1]

section
variable (s : Int) (x o : List Int) (hx : Bytes8 x) (ho : Bytes8 o) (a : Int) (wa : -9223372036854775808 ≤ a ∧ a < 9223372036854775808) (b : Int) (wb : -9223372036854775808 ≤ b ∧ b < 9223372036854775808)
include hx ho wa wb

theorem wnd_shape : ∃ v c, wndR s x o a b = .tuple #[.int .i64 v, .int .i64 c] := by
  unfold wndR
  split
  · split
    · exact ⟨_, _, rfl⟩
    · exact ⟨_, _, rfl⟩
  · exact ⟨_, _, rfl⟩

end

end Go.Proofs
