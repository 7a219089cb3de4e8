/-
  What the functions of this part hand back: each as a plain function of its arguments. Conditions: none.
-/
import Derived.Test.YtdfddcfgagfdoaaLB
import Derived.ProofKit
import Derived.OpenShut
import Derived.Below
import Derived.ChangeSame
import Derived.Test.YtdfddcfgagfdoaaUplaintrim
import Derived.Test.YtdfddcfgagfdoaaUplainlau
namespace Go.Proofs
open Go.W8
set_option linter.unusedVariables false
set_option linter.unusedSimpArgs false
set_option linter.unusedSectionVars false
set_option maxRecDepth 8000
set_option maxHeartbeats 4000000
--@plain
def psum (l : List Int) : Nat → Int
  | 0 => 0
  | k + 1 => psum l k + l.getD k 0
def sums (l : List Int) (k : Nat) : List Int := (List.range k).map fun i => psum l (i + 1)
theorem sums_succ (l : List Int) (k : Nat) : sums l (k + 1) = sums l k ++ [psum l (k + 1)] := by
  unfold sums; rw [List.range_succ, List.map_append]; rfl
theorem sums_len (l : List Int) (k : Nat) : (sums l k).length = k := by simp [sums]
theorem sums_get {l : List Int} {k i : Nat} (h : i < k) : (sums l k).getD i 0 = psum l (i + 1) := by
  unfold sums
  rw [List.getD_eq_getElem?_getD, List.getElem?_map, List.getElem?_range h]; rfl
theorem psum_bound {l : List Int} (h : ∀ k, -1000000000000 ≤ l.getD k 0 ∧ l.getD k 0 ≤ 1000000000000) : ∀ k : Nat, -1000000000000 * (k : Int) ≤ psum l k ∧ psum l k ≤ 1000000000000 * (k : Int)
  | 0 => by simp [psum]
  | k + 1 => by
    have := psum_bound h k
    have := h k
    unfold psum
    omega
/-- One division: the sums, if they come to 0 and are allowed. -/
def qStep (p : Int × List Int) : Option (Int × List Int) :=
  if psum p.2 p.2.length = 0 ∧ (sums p.2 p.2.length).all coOk = true then some (trimLow p.1 (sums p.2 p.2.length), trimL (sums p.2 p.2.length)) else none
def qIter (p : Int × List Int) : Nat → Option (Int × List Int)
  | 0 => some p
  | k + 1 => (qIter p k).bind qStep

theorem trE_last {l : List Int} (h : trE l ≠ 0) : l.getD (trE l - 1) 0 ≠ 0 := by
  have key : ∀ t, trEnd l t ≠ 0 → l.getD (trEnd l t - 1) 0 ≠ 0 := by
    intro t
    induction t with
    | zero => intro h; exact absurd rfl h
    | succ t ih =>
      intro h
      by_cases hz : l.getD t 0 = 0
      · rw [trEnd_zero hz] at h ⊢; exact ih h
      · rw [trEnd_one hz]; exact hz
  exact key _ h
theorem trF_first {l : List Int} (h : trF l ≠ trE l) : l.getD (trF l) 0 ≠ 0 := by
  have key : ∀ d, d ≤ trE l → trBeg l (trE l) d ≠ trE l → l.getD (trBeg l (trE l) d) 0 ≠ 0 := by
    intro d
    induction d with
    | zero => intro _ h; exact absurd rfl h
    | succ d ih =>
      intro hd h
      by_cases hz : l.getD (trE l - (d + 1)) 0 = 0
      · rw [trBeg_zero hz] at h ⊢; exact ih (by omega) h
      · rw [trBeg_one hz]; exact hz
  exact key _ (Nat.le_refl _) h
theorem trE_zeros {l : List Int} {i : Nat} (h : trE l ≤ i) : l.getD i 0 = 0 := by
  have key : ∀ t, ∀ i, trEnd l t ≤ i → i < t → l.getD i 0 = 0 := by
    intro t
    induction t with
    | zero => intro i _ h; omega
    | succ t ih =>
      intro i h1 h2
      by_cases hz : l.getD t 0 = 0
      · rw [trEnd_zero hz] at h1
        by_cases e : i = t
        · rw [e]; exact hz
        · exact ih i h1 (by omega)
      · rw [trEnd_one hz] at h1; omega
  by_cases hi : i < l.length
  · exact key _ i h hi
  · rw [List.getD_eq_getElem?_getD, List.getElem?_eq_none (by omega)]; rfl
theorem trF_zeros {l : List Int} {i : Nat} (h : i < trF l) : l.getD i 0 = 0 := by
  have key : ∀ d, d ≤ trE l → ∀ i, trE l - d ≤ i → i < trBeg l (trE l) d → l.getD i 0 = 0 := by
    intro d
    induction d with
    | zero => intro _ i h1 h2; simp only [trBeg] at h2; omega
    | succ d ih =>
      intro hd i h1 h2
      by_cases hz : l.getD (trE l - (d + 1)) 0 = 0
      · rw [trBeg_zero hz] at h2
        by_cases e : i = trE l - (d + 1)
        · rw [e]; exact hz
        · exact ih (by omega) i (by omega) h2
      · rw [trBeg_one hz] at h2; omega
  exact key _ (Nat.le_refl _) i (by omega) h
theorem trimL_get {l : List Int} {i : Nat} (h : i < (trimL l).length) : (trimL l).getD i 0 = l.getD (trF l + i) 0 := by
  have hl := trimL_len l
  have hne : trF l ≠ trE l := fun e => by rw [hl, e, Nat.sub_self] at h; omega
  unfold trimL
  rw [if_neg hne, List.getD_eq_getElem?_getD, List.getElem?_take, if_pos (by omega), List.getElem?_drop, List.getD_eq_getElem?_getD]
theorem all_get {p : Int → Bool} {l : List Int} : l.all p = true ↔ ∀ i, i < l.length → p (l.getD i 0) = true := by
  rw [List.all_eq_true]
  constructor
  · intro h i hi
    rw [List.getD_eq_getElem?_getD, List.getElem?_eq_getElem hi]
    exact h _ (List.getElem_mem hi)
  · intro h c hc
    obtain ⟨i, hi, rfl⟩ := List.mem_iff_getElem.1 hc
    have := h i hi
    rw [List.getD_eq_getElem?_getD, List.getElem?_eq_getElem hi] at this
    exact this
/-- Trimmed numbers are allowed as a polynomial if they were small enough. -/
theorem lauOk_trim {low : Int} {l : List Int} (h1 : -1000 ≤ low) (h2 : low + l.length ≤ 1001) (h3 : l.length ≤ 2001) : lauOk (trimLow low l) (trimL l) = l.all coOk := by
  have hE := trE_le l
  have hF := trF_le l
  have hlen := trimL_len l
  by_cases hz : trF l = trE l
  · have e1 : trimL l = [] := by unfold trimL; rw [if_pos hz]
    have e2 : trimLow low l = 0 := by unfold trimLow; rw [if_pos hz]
    rw [e1, e2, lauOk_zero rfl]
    symm
    rw [show decide ((0 : Int) = 0) = true from rfl, all_get]
    intro i hi
    have : l.getD i 0 = 0 := by
      by_cases h : trE l ≤ i
      · exact trE_zeros h
      · exact trF_zeros (by omega)
    rw [this]; rfl
  · have hne : (trimL l).length ≠ 0 := by omega
    have e2 : trimLow low l = low + (trF l : Int) := by unfold trimLow; rw [if_neg hz]
    rw [lauOk_pos hne]
    have f0 : (trimL l).getD 0 0 ≠ 0 := by rw [trimL_get (by omega)]; exact trF_first hz
    have f1 : (trimL l).getD ((trimL l).length - 1) 0 ≠ 0 := by
      rw [trimL_get (by omega), show trF l + ((trimL l).length - 1) = trE l - 1 by omega]
      exact trE_last (by omega)
    have hall : (trimL l).all coOk = l.all coOk := by
      rw [Bool.eq_iff_iff, all_get, all_get]
      constructor
      · intro h i hi
        by_cases hi1 : trE l ≤ i
        · rw [trE_zeros hi1]; rfl
        · by_cases hi2 : i < trF l
          · rw [trF_zeros hi2]; rfl
          · have := h (i - trF l) (by omega)
            rw [trimL_get (by omega), show trF l + (i - trF l) = i by omega] at this
            exact this
      · intro h i hi
        rw [trimL_get hi]
        exact h _ (by omega)
    rw [hall, e2]
    rw [decide_eq_true (by omega), decide_eq_true (by omega), decide_eq_true (by omega), decide_eq_true (by omega)]
    have g0 : ((trimL l).getD 0 0 == 0) = false := beq_eq_false_iff_ne.2 f0
    have g1 : ((trimL l).getD ((trimL l).length - 1) 0 == 0) = false := beq_eq_false_iff_ne.2 f1
    rw [g0, g1]
    rfl
/-- What is allowed stays as it is. -/
theorem trim_same {low : Int} {l : List Int} (h : lauOk low l = true) : trimLow low l = low ∧ trimL l = l := by
  by_cases h0 : l.length = 0
  · have e := List.eq_nil_of_length_eq_zero h0
    subst e
    rw [lauOk_zero rfl] at h
    have : low = 0 := by simpa using h
    subst this
    exact ⟨rfl, rfl⟩
  · rw [lauOk_pos h0] at h
    simp only [Bool.and_eq_true, Bool.not_eq_true', beq_eq_false_iff_ne] at h
    have hE : trE l = l.length := by
      have e : l.length = (l.length - 1) + 1 := by omega
      unfold trE
      rw [e, trEnd_one h.1.2]
    have hF : trF l = 0 := by
      unfold trF
      rw [hE]
      have e : l.length = (l.length - 1) + 1 := by omega
      have e2 : l.length - (l.length - 1 + 1) = 0 := by omega
      have hb := trBeg_one (l := l) (t := l.length) (d := l.length - 1) (by rw [e2]; exact h.1.1.2)
      rw [e2, ← e] at hb
      exact hb
    have hne : ¬ trF l = trE l := by omega
    constructor
    · unfold trimLow; rw [if_neg hne, hF]; simp
    · unfold trimL; rw [if_neg hne, hF, hE, List.drop_zero, Nat.sub_zero, List.take_of_length_le (Nat.le_refl _)]
theorem qStep_ok {p q : Int × List Int} (hp : lauOk p.1 p.2 = true) (h : qStep p = some q) : lauOk q.1 q.2 = true := by
  unfold qStep at h
  split at h
  · rename_i hh
    cases h
    rw [lauOk_trim (lauOk_low hp).1 (by rw [sums_len]; exact lauOk_high hp) (by rw [sums_len]; exact lauOk_len hp)]
    exact hh.2
  · cases h
theorem qIter_ok {p : Int × List Int} (hp : lauOk p.1 p.2 = true) : ∀ k q, qIter p k = some q → lauOk q.1 q.2 = true
  | 0, q, h => by cases h; exact hp
  | k + 1, q, h => by
    unfold qIter at h
    cases hk : qIter p k with
    | none => rw [hk] at h; cases h
    | some r =>
      rw [hk] at h
      exact qStep_ok (qIter_ok hp k r hk) h
theorem qIter_none {p : Int × List Int} {j : Nat} (h : qIter p j = none) : ∀ k, j ≤ k → qIter p k = none
  | 0, hk => by have : j = 0 := by omega
                subst this; exact h
  | k + 1, hk => by
    by_cases e : j = k + 1
    · rw [← e]; exact h
    · unfold qIter
      rw [qIter_none h k (by omega)]
      rfl
theorem qIter_succ {p q : Int × List Int} {j : Nat} (h : qIter p j = some q) : qIter p (j + 1) = qStep q := by
  show (qIter p j).bind qStep = _
  rw [h]; rfl

end Go.Proofs
