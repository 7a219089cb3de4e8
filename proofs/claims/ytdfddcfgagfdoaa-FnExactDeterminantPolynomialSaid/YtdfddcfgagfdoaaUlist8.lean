/-
  What the functions of this part hand back: each as a plain function of its arguments. Conditions: none.
-/
import Derived.Test.YtdfddcfgagfdoaaFx
import Derived.Test.YtdfddcfgagfdoaaUorder
namespace Go.Proofs
open Go.W8
set_option linter.unusedVariables false
set_option linter.unusedSimpArgs false
set_option linter.unusedSectionVars false
set_option maxRecDepth 8000
set_option maxHeartbeats 4000000
theorem ext8 {a b : List Int} (ha : a.length = 8) (hb : b.length = 8) (h : ∀ i, i < 8 → a.getD i 0 = b.getD i 0) : a = b := by
  apply List.ext_getElem?
  intro i
  by_cases hi : i < 8
  · have := h i hi
    rw [List.getD_eq_getElem?_getD, List.getD_eq_getElem?_getD, List.getElem?_eq_getElem (by omega), List.getElem?_eq_getElem (by omega)] at this
    rw [List.getElem?_eq_getElem (by omega), List.getElem?_eq_getElem (by omega)]
    simpa using this
  · rw [List.getElem?_eq_none (by omega), List.getElem?_eq_none (by omega)]
theorem getD_set {l : List Int} {i j : Nat} {v : Int} (h : i < l.length) : (l.set i v).getD j 0 = if i = j then v else l.getD j 0 := by
  rw [List.getD_eq_getElem?_getD, List.getElem?_set]
  split
  · rename_i e; subst e; first | rfl | (rw [if_pos h]; rfl)
  · rw [List.getD_eq_getElem?_getD]
theorem z8_get (i : Nat) : z8.getD i 0 = 0 := by
  match i with
  | 0 | 1 | 2 | 3 | 4 | 5 | 6 | 7 => rfl
  | _ + 8 => rfl
theorem gridB_perm {s : Int} {x o : List Int} (h : gridB s x o = true) : ∃ n : Nat, s = (n : Int) ∧ 2 ≤ n ∧ n ≤ 8 ∧ IsPerm x n ∧ IsPerm o n := by
  have := of_decide_eq_true h
  exact ⟨s.toNat, by have := this.1; omega, by have := this.1; omega, by have := this.2.1; omega, this.2.2.1, this.2.2.2.1⟩

end Go.Proofs
