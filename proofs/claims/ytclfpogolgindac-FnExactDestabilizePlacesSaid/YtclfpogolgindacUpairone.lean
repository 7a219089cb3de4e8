/-
  What the functions of this part hand back: each as a plain function of its arguments. Conditions: none.
-/
import Derived.Test.YtclfpogolgindacFx
import Derived.Test.YtclfpogolgindacUpair
namespace Go.Proofs
open Go.W8
set_option linter.unusedVariables false
set_option linter.unusedSimpArgs false
set_option linter.unusedSectionVars false
set_option maxRecDepth 8000
set_option maxHeartbeats 4000000
theorem pair_one {s : Int} {x o : List Int} {i : Int} (h : pairC s x o [i] = 0) : gridB s x o = true ∧ 0 ≤ i ∧ i ≤ s - 2 := by
  unfold pairC at h
  split at h
  · rename_i hg
    split at h
    · rename_i ha
      exact ⟨hg, ha i List.mem_cons_self⟩
    · cases h
  · cases h

end Go.Proofs
