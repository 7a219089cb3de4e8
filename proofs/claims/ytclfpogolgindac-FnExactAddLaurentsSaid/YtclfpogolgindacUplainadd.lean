/-
  What the functions of this part hand back: each as a plain function of its arguments. Conditions: none.
-/
import Derived.Test.YtclfpogolgindacLZ
import Derived.ProofKit
import Derived.OpenShut
import Derived.Below
import Derived.ChangeSame
import Derived.Test.YtclfpogolgindacUplainquot
namespace Go.Proofs
open Go.W8
set_option linter.unusedVariables false
set_option linter.unusedSimpArgs false
set_option linter.unusedSectionVars false
set_option maxRecDepth 8000
set_option maxHeartbeats 4000000
--@plain
/-- The number of a polynomial at a power, of its first i only. -/
def coK (low : Int) (l : List Int) (i : Nat) (e : Int) : Int := if low ≤ e ∧ e < low + i then l.getD (e - low).toNat 0 else 0
theorem coK_zero {low : Int} {l : List Int} {e : Int} : coK low l 0 e = 0 := by unfold coK; rw [if_neg (by omega)]
theorem coK_here {low : Int} {l : List Int} {i : Nat} : coK low l i (low + i) = 0 := by unfold coK; rw [if_neg (by omega)]
theorem coK_step {low : Int} {l : List Int} {i : Nat} {e : Int} : coK low l (i + 1) e = if e = low + i then l.getD i 0 else coK low l i e := by
  unfold coK
  by_cases h : e = low + i
  · rw [if_pos (by omega), if_pos h, h, show (low + (i : Int) - low).toNat = i by omega]
  · rw [if_neg h]
    by_cases h2 : low ≤ e ∧ e < low + i
    · rw [if_pos (by omega), if_pos h2]
    · rw [if_neg (by omega), if_neg h2]
theorem coK_bound {low : Int} {l : List Int} {i : Nat} {e : Int} (h : ∀ k, -1000000000000 ≤ l.getD k 0 ∧ l.getD k 0 ≤ 1000000000000) : -1000000000000 ≤ coK low l i e ∧ coK low l i e ≤ 1000000000000 := by
  unfold coK
  split
  · exact h _
  · omega
def sumK (low : Int) (n : Nat) (p1 : Int) (l1 : List Int) (i1 : Nat) (p2 : Int) (l2 : List Int) (i2 : Nat) (k : Int) : List Int :=
  (List.range n).map fun j : Nat => coK p1 l1 i1 (low + j) + k * coK p2 l2 i2 (low + j)
section
variable {low : Int} {n : Nat} {p1 : Int} {l1 : List Int} {i1 : Nat} {p2 : Int} {l2 : List Int} {i2 : Nat} {k : Int}
theorem sumK_len : (sumK low n p1 l1 i1 p2 l2 i2 k).length = n := by simp [sumK]
theorem sumK_get {j : Nat} (h : j < n) : (sumK low n p1 l1 i1 p2 l2 i2 k).getD j 0 = coK p1 l1 i1 (low + j) + k * coK p2 l2 i2 (low + j) := by
  unfold sumK
  rw [List.getD_eq_getElem?_getD, List.getElem?_map, List.getElem?_range h]; rfl
theorem getD_ext0 {a b : List Int} (h : a.length = b.length) (hg : ∀ i, i < a.length → a.getD i 0 = b.getD i 0) : a = b := by
  apply List.ext_getElem h
  intro i h1 h2
  have := hg i h1
  rw [List.getD_eq_getElem?_getD, List.getD_eq_getElem?_getD, List.getElem?_eq_getElem h1, List.getElem?_eq_getElem h2] at this
  simpa using this
theorem getD_set0 {a : List Int} {i j : Nat} {x : Int} (h : i < a.length) : (a.set i x).getD j 0 = if i = j then x else a.getD j 0 := by
  rw [List.getD_eq_getElem?_getD, List.getD_eq_getElem?_getD, List.getElem?_set]
  split
  · simp_all
  · rfl
theorem sumK_step1 {j : Nat} (h : j < n) (e : low + j = p1 + i1) : (sumK low n p1 l1 i1 p2 l2 i2 k).set j (l1.getD i1 0 + k * coK p2 l2 i2 (low + j)) = sumK low n p1 l1 (i1 + 1) p2 l2 i2 k := by
  refine getD_ext0 (by simp [sumK_len]) fun i hi => ?_
  simp only [List.length_set, sumK_len] at hi
  rw [getD_set0 (by rw [sumK_len]; exact h), sumK_get hi, sumK_get hi, coK_step]
  by_cases hj : j = i
  · subst hj; rw [if_pos rfl, if_pos e]
  · rw [if_neg hj, if_neg (by omega)]
theorem sumK_step2 {j : Nat} (h : j < n) (e : low + j = p2 + i2) : (sumK low n p1 l1 i1 p2 l2 i2 k).set j (coK p1 l1 i1 (low + j) + k * l2.getD i2 0) = sumK low n p1 l1 i1 p2 l2 (i2 + 1) k := by
  refine getD_ext0 (by simp [sumK_len]) fun i hi => ?_
  simp only [List.length_set, sumK_len] at hi
  rw [getD_set0 (by rw [sumK_len]; exact h), sumK_get hi, sumK_get hi, coK_step]
  by_cases hj : j = i
  · subst hj; rw [if_pos rfl, if_pos e]
  · rw [if_neg hj, if_neg (by omega)]
theorem sumK_zero : sumK low n p1 l1 0 p2 l2 0 k = List.replicate n 0 := by
  refine getD_ext0 (by simp [sumK_len]) fun i hi => ?_
  rw [sumK_len] at hi
  rw [sumK_get hi, coK_zero, coK_zero]
  simp [List.getD_eq_getElem?_getD, hi]
end
def addLo (p1 : Int) (l1 : List Int) (p2 : Int) : Int := if l1.length = 0 then p2 else min p2 p1
def addHi (p1 : Int) (l1 : List Int) (p2 : Int) (l2 : List Int) : Int := if l1.length = 0 then p2 + l2.length else max (p2 + l2.length) (p1 + l1.length)
def addN (p1 : Int) (l1 : List Int) (p2 : Int) (l2 : List Int) : Nat := (addHi p1 l1 p2 l2 - addLo p1 l1 p2).toNat
def addS (p1 : Int) (l1 : List Int) (p2 : Int) (l2 : List Int) (k : Int) : List Int := sumK (addLo p1 l1 p2) (addN p1 l1 p2 l2) p1 l1 l1.length p2 l2 l2.length k
def addR (p1 : Int) (l1 : List Int) (p2 : Int) (l2 : List Int) (k : Int) : Int × List Int :=
  if l2.length = 0 then (trimLow p1 l1, trimL l1) else (trimLow (addLo p1 l1 p2) (addS p1 l1 p2 l2 k), trimL (addS p1 l1 p2 l2 k))
def addAns (p1 : Int) (l1 : List Int) (p2 : Int) (l2 : List Int) : Int × List Int × Int :=
  if lauOk p1 l1 = true ∧ lauOk p2 l2 = true then if lauOk (addR p1 l1 p2 l2 1).1 (addR p1 l1 p2 l2 1).2 = true then ((addR p1 l1 p2 l2 1).1, (addR p1 l1 p2 l2 1).2, 0) else (0, [], 3) else (0, [], 1)
theorem lauOk_nil {low : Int} {l : List Int} (h : lauOk low l = true) (h0 : l.length = 0) : low = 0 ∧ l = [] := by
  have e := List.eq_nil_of_length_eq_zero h0
  subst e
  rw [lauOk_zero rfl] at h
  exact ⟨by simpa using h, rfl⟩
/-- One of both is 0. -/
theorem addR_zero {p1 : Int} {l1 : List Int} {p2 : Int} {l2 : List Int} (h1 : lauOk p1 l1 = true) (h2 : lauOk p2 l2 = true) (h : l1.length = 0 ∨ l2.length = 0) : addR p1 l1 p2 l2 1 = (p1 + p2, l1 ++ l2) ∧ lauOk (p1 + p2) (l1 ++ l2) = true := by
  unfold addR
  by_cases e2 : l2.length = 0
  · obtain ⟨rfl, rfl⟩ := lauOk_nil h2 e2
    rw [if_pos List.length_nil, (trim_same h1).1, (trim_same h1).2]
    simp [h1]
  · rw [if_neg e2]
    obtain ⟨rfl, rfl⟩ := lauOk_nil h1 (h.resolve_right e2)
    have eS : addS 0 [] p2 l2 1 = l2 := by
      have eN : addN 0 [] p2 l2 = l2.length := by
        unfold addN addHi addLo
        rw [if_pos List.length_nil, if_pos List.length_nil]
        omega
      have eL : addLo 0 [] p2 = p2 := by unfold addLo; rw [if_pos List.length_nil]
      unfold addS
      rw [eN, eL]
      refine getD_ext0 sumK_len fun i hi => ?_
      rw [sumK_len] at hi
      rw [sumK_get hi]
      unfold coK
      rw [if_neg (by simp), if_pos (by omega), show (p2 + (i : Int) - p2).toNat = i by omega]
      omega
    have eL : addLo 0 [] p2 = p2 := by unfold addLo; rw [if_pos List.length_nil]
    rw [eS, eL, (trim_same h2).1, (trim_same h2).2]
    simp [h2]

end Go.Proofs
