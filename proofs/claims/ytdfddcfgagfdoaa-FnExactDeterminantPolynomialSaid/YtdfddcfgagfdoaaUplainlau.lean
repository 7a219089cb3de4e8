/-
  What the functions of this part hand back: each as a plain function of its arguments. Conditions: none.
-/
import Derived.Test.YtdfddcfgagfdoaaLB
import Derived.ProofKit
import Derived.OpenShut
import Derived.Below
import Derived.ChangeSame
namespace Go.Proofs
open Go.W8
set_option linter.unusedVariables false
set_option linter.unusedSimpArgs false
set_option linter.unusedSectionVars false
set_option maxRecDepth 8000
set_option maxHeartbeats 4000000
--@plain
/-- A coefficient that is allowed. -/
def coOk (c : Int) : Bool := decide (-1000000000000 ≤ c) && decide (c ≤ 1000000000000)
def lauOk (low : Int) (l : List Int) : Bool :=
  if l.length = 0 then decide (low = 0) else
    decide (l.length ≤ 2001) && (decide (-1000 ≤ low) && decide (low ≤ 1000)) && decide (low + l.length - 1 ≤ 1000) && !(l.getD 0 0 == 0) && !(l.getD (l.length - 1) 0 == 0) && l.all coOk
theorem lauOk_zero {low : Int} {l : List Int} (h : l.length = 0) : lauOk low l = decide (low = 0) := by
  unfold lauOk; rw [if_pos h]
theorem lauOk_pos {low : Int} {l : List Int} (h : l.length ≠ 0) : lauOk low l = (decide (l.length ≤ 2001) && (decide (-1000 ≤ low) && decide (low ≤ 1000)) && decide (low + l.length - 1 ≤ 1000) && !(l.getD 0 0 == 0) && !(l.getD (l.length - 1) 0 == 0) && l.all coOk) := by
  unfold lauOk; rw [if_neg h]
theorem lauOk_len {low : Int} {l : List Int} (h : lauOk low l = true) : l.length ≤ 2001 := by
  by_cases h0 : l.length = 0
  · omega
  · rw [lauOk_pos h0] at h
    simp at h
    omega
theorem lauOk_low {low : Int} {l : List Int} (h : lauOk low l = true) : -1000 ≤ low ∧ low ≤ 1000 := by
  by_cases h0 : l.length = 0
  · rw [lauOk_zero h0] at h; simp at h; omega
  · rw [lauOk_pos h0] at h
    simp at h
    omega
theorem lauOk_high {low : Int} {l : List Int} (h : lauOk low l = true) : low + l.length ≤ 1001 := by
  by_cases h0 : l.length = 0
  · rw [lauOk_zero h0] at h; simp at h; omega
  · rw [lauOk_pos h0] at h
    simp at h
    omega
theorem lauOk_mem {low : Int} {l : List Int} (h : lauOk low l = true) : ∀ c ∈ l, -1000000000000 ≤ c ∧ c ≤ 1000000000000 := by
  intro c hc
  have h0 : l.length ≠ 0 := by
    intro e
    rw [List.eq_nil_of_length_eq_zero e] at hc
    cases hc
  rw [lauOk_pos h0] at h
  simp only [Bool.and_eq_true, List.all_eq_true] at h
  have := h.2 c hc
  unfold coOk at this
  simpa using this
theorem lauOk_get {low : Int} {l : List Int} (h : lauOk low l = true) (k : Nat) : -1000000000000 ≤ l.getD k 0 ∧ l.getD k 0 ≤ 1000000000000 := by
  rw [List.getD_eq_getElem?_getD]
  rcases Nat.lt_or_ge k l.length with hk | hk
  · rw [List.getElem?_eq_getElem hk]
    exact lauOk_mem h _ (List.getElem_mem hk)
  · rw [List.getElem?_eq_none hk]
    simp
theorem all_upto {p : Int → Bool} {l : List Int} {k : Nat} (h : (l.take k).all p = true) (hk : k < l.length) : (l.take (k + 1)).all p = p (l.getD k 0) := by
  rw [List.take_succ_eq_append_getElem hk, List.all_append, h, List.getD_eq_getElem?_getD, List.getElem?_eq_getElem hk]
  simp
theorem all_false {p : Int → Bool} {l : List Int} {k : Nat} (h : p (l.getD k 0) = false) (hk : k < l.length) : l.all p = false := by
  rw [List.all_eq_false]
  rw [List.getD_eq_getElem?_getD, List.getElem?_eq_getElem hk] at h
  exact ⟨_, List.getElem_mem hk, by simpa using h⟩
theorem lauOk_pre {low : Int} {l : List Int} (h : l.length ≠ 0) : lauOk low l = (!(decide ((l.length : Int) > 2001) || !(decide (-1000 ≤ low) && decide (low ≤ 1000)) || decide (low + (l.length : Int) - 1 > 1000) || l.getD 0 0 == 0 || l.getD (l.length - 1) 0 == 0) && l.all coOk) := by
  rw [lauOk_pos h]
  have e1 : decide ((l.length : Int) > 2001) = !decide (l.length ≤ 2001) := by
    by_cases hc : l.length ≤ 2001
    · rw [decide_eq_true hc, decide_eq_false (by omega)]; rfl
    · rw [decide_eq_false hc, decide_eq_true (by omega)]; rfl
  have e2 : decide (low + (l.length : Int) - 1 > 1000) = !decide (low + (l.length : Int) - 1 ≤ 1000) := by
    by_cases hc : low + (l.length : Int) - 1 ≤ 1000
    · rw [decide_eq_true hc, decide_eq_false (by omega)]; rfl
    · rw [decide_eq_false hc, decide_eq_true (by omega)]; rfl
  rw [e1, e2]
  generalize decide (l.length ≤ 2001) = a
  generalize (decide (-1000 ≤ low) && decide (low ≤ 1000)) = b
  generalize decide (low + (l.length : Int) - 1 ≤ 1000) = c
  generalize (l.getD 0 0 == 0) = d
  generalize (l.getD (l.length - 1) 0 == 0) = e
  cases a <;> cases b <;> cases c <;> cases d <;> cases e <;> rfl

end Go.Proofs
