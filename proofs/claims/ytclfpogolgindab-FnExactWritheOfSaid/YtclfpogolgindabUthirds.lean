/-
  What the functions of this part hand back: each as a plain function of its arguments. Conditions: none.
-/
import Derived.Test.YtclfpogolgindabFx
import Derived.Test.YtclfpogolgindabUcrossings
namespace Go.Proofs
open Go.W8
set_option linter.unusedVariables false
set_option linter.unusedSimpArgs false
set_option linter.unusedSectionVars false
set_option maxRecDepth 8000
set_option maxHeartbeats 4000000
/-- The sum of every third number of the first m rows of three. -/
def thirds (l : List Int) : Nat → Int
  | 0 => 0
  | m + 1 => thirds l m + l.getD (m * 3 + 2) 0
/-- Every number of l lies in a byte's range and each third one is at most 1 in size. -/
def Small (l : List Int) : Prop := ∀ k, -1 ≤ l.getD (k * 3 + 2) 0 ∧ l.getD (k * 3 + 2) 0 ≤ 1
theorem thirds_bound {l : List Int} (h : Small l) : ∀ m : Nat, -(m : Int) ≤ thirds l m ∧ thirds l m ≤ m
  | 0 => by simp [thirds]
  | m + 1 => by
    have a := thirds_bound h m
    have b := h m
    unfold thirds
    omega
theorem Small.append {a b : List Int} {m : Nat} (ha : Small a) (hb : Small b) (hl : a.length = m * 3) : Small (a ++ b) := by
  intro k
  by_cases h : k < m
  · have e : (a ++ b).getD (k * 3 + 2) 0 = a.getD (k * 3 + 2) 0 := by
      rw [List.getD_eq_getElem?_getD, List.getD_eq_getElem?_getD, List.getElem?_append_left (by omega)]
    rw [e]
    exact ha k
  · have e : (a ++ b).getD (k * 3 + 2) 0 = b.getD ((k - m) * 3 + 2) 0 := by
      rw [List.getD_eq_getElem?_getD, List.getD_eq_getElem?_getD, List.getElem?_append_right (by omega), show k * 3 + 2 - a.length = (k - m) * 3 + 2 by omega]
    rw [e]
    exact hb _
theorem Small.nil : Small [] := by
  intro k
  simp
theorem crRow_small (n : Nat) (x o : List Int) (i : Nat) : ∀ r, Small (crRow n x o i r)
  | 0 => Small.nil
  | r + 1 => by
    obtain ⟨m, h1, h2⟩ := crRow_len n x o i r
    unfold crRow
    refine (crRow_small n x o i r).append ?_ h2
    split
    · exact Small.nil
    · intro k
      have hc := crossS_cases n x o i r
      rcases k with _ | k
      · show -1 ≤ crossS n x o i r ∧ crossS n x o i r ≤ 1
        omega
      · rw [List.getD_eq_getElem?_getD, List.getElem?_eq_none (by simp only [List.length_cons, List.length_nil]; omega)]
        simp
theorem crTo_small (n : Nat) (x o : List Int) : ∀ i, Small (crTo n x o i)
  | 0 => Small.nil
  | i + 1 => by
    obtain ⟨m, h1, h2⟩ := crTo_len n x o i
    unfold crTo
    exact (crTo_small n x o i).append (crRow_small n x o i n) h2

end Go.Proofs
