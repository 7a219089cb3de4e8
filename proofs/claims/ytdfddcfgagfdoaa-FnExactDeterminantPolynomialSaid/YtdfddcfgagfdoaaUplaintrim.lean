/-
  What the functions of this part hand back: each as a plain function of its arguments. Conditions: none.
-/
import Derived.Test.YtdfddcfgagfdoaaLB
import Derived.ProofKit
import Derived.OpenShut
import Derived.Below
import Derived.ChangeSame
namespace Go.Proofs
open Go.W8
set_option linter.unusedVariables false
set_option linter.unusedSimpArgs false
set_option linter.unusedSectionVars false
set_option maxRecDepth 8000
set_option maxHeartbeats 4000000
--@plain
/-- Where the last number other than 0 ends. -/
def trEnd (l : List Int) : Nat → Nat
  | 0 => 0
  | t + 1 => if l.getD t 0 = 0 then trEnd l t else t + 1
/-- Where the first number other than 0 stands, from t - d on. -/
def trBeg (l : List Int) (t : Nat) : Nat → Nat
  | 0 => t
  | d + 1 => if l.getD (t - (d + 1)) 0 = 0 then trBeg l t d else t - (d + 1)
def trE (l : List Int) : Nat := trEnd l l.length
def trF (l : List Int) : Nat := trBeg l (trE l) (trE l)
def trimLow (low : Int) (l : List Int) : Int := if trF l = trE l then 0 else low + (trF l : Int)
def trimL (l : List Int) : List Int := if trF l = trE l then [] else (l.drop (trF l)).take (trE l - trF l)
theorem trEnd_le (l : List Int) : ∀ t, trEnd l t ≤ t
  | 0 => Nat.le_refl _
  | t + 1 => by
    unfold trEnd
    have := trEnd_le l t
    split <;> omega
theorem trBeg_ge (l : List Int) (t : Nat) : ∀ d, d ≤ t → t - d ≤ trBeg l t d ∧ trBeg l t d ≤ t
  | 0, _ => by simp [trBeg]
  | d + 1, h => by
    have := trBeg_ge l t d (by omega)
    unfold trBeg
    split <;> omega
theorem trE_le (l : List Int) : trE l ≤ l.length := trEnd_le l _
theorem trF_le (l : List Int) : trF l ≤ trE l := (trBeg_ge l (trE l) (trE l) (Nat.le_refl _)).2
theorem trimL_len (l : List Int) : (trimL l).length = trE l - trF l := by
  unfold trimL
  have := trE_le l
  have := trF_le l
  split
  · simp; omega
  · rw [List.length_take, List.length_drop]; omega
theorem trimL_le (l : List Int) : (trimL l).length ≤ l.length := by
  rw [trimL_len]
  have := trE_le l
  omega
theorem trEnd_zero {l : List Int} {t : Nat} (h : l.getD t 0 = 0) : trEnd l (t + 1) = trEnd l t := by
  show (if _ then _ else _) = _
  rw [if_pos h]
theorem trEnd_one {l : List Int} {t : Nat} (h : ¬ l.getD t 0 = 0) : trEnd l (t + 1) = t + 1 := by
  show (if _ then _ else _) = _
  rw [if_neg h]
theorem trBeg_zero {l : List Int} {t d : Nat} (h : l.getD (t - (d + 1)) 0 = 0) : trBeg l t (d + 1) = trBeg l t d := by
  show (if _ then _ else _) = _
  rw [if_pos h]
theorem trBeg_one {l : List Int} {t d : Nat} (h : ¬ l.getD (t - (d + 1)) 0 = 0) : trBeg l t (d + 1) = t - (d + 1) := by
  show (if _ then _ else _) = _
  rw [if_neg h]
theorem trimL_mem {l : List Int} {c : Int} (h : c ∈ trimL l) : c ∈ l := by
  unfold trimL at h
  split at h
  · cases h
  · exact List.mem_of_mem_drop (List.mem_of_mem_take h)

end Go.Proofs
