/-
  What the functions of this part hand back: each as a plain function of its arguments. Conditions: none.
-/
import Derived.ProofKit
import Derived.OpenShut
import Derived.Below
import Derived.ChangeSame
import Derived.Test.YtchbkidlmcpiiaaM1
namespace Go.Proofs
open Go.W8
set_option linter.unusedVariables false
set_option linter.unusedSimpArgs false
set_option linter.unusedSectionVars false
set_option maxRecDepth 8000
set_option maxHeartbeats 4000000
--@plain
/-- Where the last number other than 0 ends. -/
def trEnd (l : List Int) : Nat → Nat
  | 0 => 0
  | t + 1 => if l.getD t 0 = 0 then trEnd l t else t + 1
/-- Where the first number other than 0 stands, from t - d on. -/
def trBeg (l : List Int) (t : Nat) : Nat → Nat
  | 0 => t
  | d + 1 => if l.getD (t - (d + 1)) 0 = 0 then trBeg l t d else t - (d + 1)
def trE (l : List Int) : Nat := trEnd l l.length
def trF (l : List Int) : Nat := trBeg l (trE l) (trE l)
def trimLow (low : Int) (l : List Int) : Int := if trF l = trE l then 0 else low + (trF l : Int)
def trimL (l : List Int) : List Int := if trF l = trE l then [] else (l.drop (trF l)).take (trE l - trF l)
theorem trEnd_le (l : List Int) : ∀ t, trEnd l t ≤ t
  | 0 => Nat.le_refl _
  | t + 1 => by
    unfold trEnd
    have := trEnd_le l t
    split <;> omega
theorem trBeg_ge (l : List Int) (t : Nat) : ∀ d, d ≤ t → t - d ≤ trBeg l t d ∧ trBeg l t d ≤ t
  | 0, _ => by simp [trBeg]
  | d + 1, h => by
    have := trBeg_ge l t d (by omega)
    unfold trBeg
    split <;> omega
theorem trE_le (l : List Int) : trE l ≤ l.length := trEnd_le l _
theorem trF_le (l : List Int) : trF l ≤ trE l := (trBeg_ge l (trE l) (trE l) (Nat.le_refl _)).2
theorem trimL_len (l : List Int) : (trimL l).length = trE l - trF l := by
  unfold trimL
  have := trE_le l
  have := trF_le l
  split
  · simp; omega
  · rw [List.length_take, List.length_drop]; omega
theorem trimL_le (l : List Int) : (trimL l).length ≤ l.length := by
  rw [trimL_len]
  have := trE_le l
  omega
theorem trEnd_zero {l : List Int} {t : Nat} (h : l.getD t 0 = 0) : trEnd l (t + 1) = trEnd l t := by
  show (if _ then _ else _) = _
  rw [if_pos h]
theorem trEnd_one {l : List Int} {t : Nat} (h : ¬ l.getD t 0 = 0) : trEnd l (t + 1) = t + 1 := by
  show (if _ then _ else _) = _
  rw [if_neg h]
theorem trBeg_zero {l : List Int} {t d : Nat} (h : l.getD (t - (d + 1)) 0 = 0) : trBeg l t (d + 1) = trBeg l t d := by
  show (if _ then _ else _) = _
  rw [if_pos h]
theorem trBeg_one {l : List Int} {t d : Nat} (h : ¬ l.getD (t - (d + 1)) 0 = 0) : trBeg l t (d + 1) = t - (d + 1) := by
  show (if _ then _ else _) = _
  rw [if_neg h]
end Go.Proofs

/-
  What the functions of this part hand back: each as a plain function of its arguments. Conditions: none.
-/
namespace Go.Proofs
open Go.W8
set_option linter.unusedVariables false
set_option linter.unusedSimpArgs false
set_option linter.unusedSectionVars false
set_option maxRecDepth 8000
set_option maxHeartbeats 4000000
--@plain
/-- A coefficient that is allowed. -/
def coOk (c : Int) : Bool := decide (-1000000000000 ≤ c) && decide (c ≤ 1000000000000)
def lauOk (low : Int) (l : List Int) : Bool :=
  if l.length = 0 then decide (low = 0) else
    decide (l.length ≤ 2001) && (decide (-1000 ≤ low) && decide (low ≤ 1000)) && decide (low + l.length - 1 ≤ 1000) && !(l.getD 0 0 == 0) && !(l.getD (l.length - 1) 0 == 0) && l.all coOk
theorem lauOk_zero {low : Int} {l : List Int} (h : l.length = 0) : lauOk low l = decide (low = 0) := by
  unfold lauOk; rw [if_pos h]
theorem lauOk_pos {low : Int} {l : List Int} (h : l.length ≠ 0) : lauOk low l = (decide (l.length ≤ 2001) && (decide (-1000 ≤ low) && decide (low ≤ 1000)) && decide (low + l.length - 1 ≤ 1000) && !(l.getD 0 0 == 0) && !(l.getD (l.length - 1) 0 == 0) && l.all coOk) := by
  unfold lauOk; rw [if_neg h]
theorem lauOk_len {low : Int} {l : List Int} (h : lauOk low l = true) : l.length ≤ 2001 := by
  by_cases h0 : l.length = 0
  · omega
  · rw [lauOk_pos h0] at h
    simp at h
    omega
theorem lauOk_low {low : Int} {l : List Int} (h : lauOk low l = true) : -1000 ≤ low ∧ low ≤ 1000 := by
  by_cases h0 : l.length = 0
  · rw [lauOk_zero h0] at h; simp at h; omega
  · rw [lauOk_pos h0] at h
    simp at h
    omega
theorem lauOk_high {low : Int} {l : List Int} (h : lauOk low l = true) : low + l.length ≤ 1001 := by
  by_cases h0 : l.length = 0
  · rw [lauOk_zero h0] at h; simp at h; omega
  · rw [lauOk_pos h0] at h
    simp at h
    omega
theorem lauOk_mem {low : Int} {l : List Int} (h : lauOk low l = true) : ∀ c ∈ l, -1000000000000 ≤ c ∧ c ≤ 1000000000000 := by
  intro c hc
  have h0 : l.length ≠ 0 := by
    intro e
    rw [List.eq_nil_of_length_eq_zero e] at hc
    cases hc
  rw [lauOk_pos h0] at h
  simp only [Bool.and_eq_true, List.all_eq_true] at h
  have := h.2 c hc
  unfold coOk at this
  simpa using this
theorem lauOk_get {low : Int} {l : List Int} (h : lauOk low l = true) (k : Nat) : -1000000000000 ≤ l.getD k 0 ∧ l.getD k 0 ≤ 1000000000000 := by
  rw [List.getD_eq_getElem?_getD]
  rcases Nat.lt_or_ge k l.length with hk | hk
  · rw [List.getElem?_eq_getElem hk]
    exact lauOk_mem h _ (List.getElem_mem hk)
  · rw [List.getElem?_eq_none hk]
    simp
theorem all_upto {p : Int → Bool} {l : List Int} {k : Nat} (h : (l.take k).all p = true) (hk : k < l.length) : (l.take (k + 1)).all p = p (l.getD k 0) := by
  rw [List.take_succ_eq_append_getElem hk, List.all_append, h, List.getD_eq_getElem?_getD, List.getElem?_eq_getElem hk]
  simp
theorem all_false {p : Int → Bool} {l : List Int} {k : Nat} (h : p (l.getD k 0) = false) (hk : k < l.length) : l.all p = false := by
  rw [List.all_eq_false]
  rw [List.getD_eq_getElem?_getD, List.getElem?_eq_getElem hk] at h
  exact ⟨_, List.getElem_mem hk, by simpa using h⟩
theorem lauOk_pre {low : Int} {l : List Int} (h : l.length ≠ 0) : lauOk low l = (!(decide ((l.length : Int) > 2001) || !(decide (-1000 ≤ low) && decide (low ≤ 1000)) || decide (low + (l.length : Int) - 1 > 1000) || l.getD 0 0 == 0 || l.getD (l.length - 1) 0 == 0) && l.all coOk) := by
  rw [lauOk_pos h]
  have e1 : decide ((l.length : Int) > 2001) = !decide (l.length ≤ 2001) := by
    by_cases hc : l.length ≤ 2001
    · rw [decide_eq_true hc, decide_eq_false (by omega)]; rfl
    · rw [decide_eq_false hc, decide_eq_true (by omega)]; rfl
  have e2 : decide (low + (l.length : Int) - 1 > 1000) = !decide (low + (l.length : Int) - 1 ≤ 1000) := by
    by_cases hc : low + (l.length : Int) - 1 ≤ 1000
    · rw [decide_eq_true hc, decide_eq_false (by omega)]; rfl
    · rw [decide_eq_false hc, decide_eq_true (by omega)]; rfl
  rw [e1, e2]
  generalize decide (l.length ≤ 2001) = a
  generalize (decide (-1000 ≤ low) && decide (low ≤ 1000)) = b
  generalize decide (low + (l.length : Int) - 1 ≤ 1000) = c
  generalize (l.getD 0 0 == 0) = d
  generalize (l.getD (l.length - 1) 0 == 0) = e
  cases a <;> cases b <;> cases c <;> cases d <;> cases e <;> rfl

end Go.Proofs

/-
  What the functions of this part hand back: each as a plain function of its arguments. Conditions: none.
-/
namespace Go.Proofs
open Go.W8
set_option linter.unusedVariables false
set_option linter.unusedSimpArgs false
set_option linter.unusedSectionVars false
set_option maxRecDepth 8000
set_option maxHeartbeats 4000000
--@plain
def psum (l : List Int) : Nat → Int
  | 0 => 0
  | k + 1 => psum l k + l.getD k 0
def sums (l : List Int) (k : Nat) : List Int := (List.range k).map fun i => psum l (i + 1)
theorem sums_succ (l : List Int) (k : Nat) : sums l (k + 1) = sums l k ++ [psum l (k + 1)] := by
  unfold sums; rw [List.range_succ, List.map_append]; rfl
theorem sums_len (l : List Int) (k : Nat) : (sums l k).length = k := by simp [sums]
theorem sums_get {l : List Int} {k i : Nat} (h : i < k) : (sums l k).getD i 0 = psum l (i + 1) := by
  unfold sums
  rw [List.getD_eq_getElem?_getD, List.getElem?_map, List.getElem?_range h]; rfl
theorem psum_bound {l : List Int} (h : ∀ k, -1000000000000 ≤ l.getD k 0 ∧ l.getD k 0 ≤ 1000000000000) : ∀ k : Nat, -1000000000000 * (k : Int) ≤ psum l k ∧ psum l k ≤ 1000000000000 * (k : Int)
  | 0 => by simp [psum]
  | k + 1 => by
    have := psum_bound h k
    have := h k
    unfold psum
    omega
/-- One division: the sums, if they come to 0 and are allowed. -/
def qStep (p : Int × List Int) : Option (Int × List Int) :=
  if psum p.2 p.2.length = 0 ∧ (sums p.2 p.2.length).all coOk = true then some (trimLow p.1 (sums p.2 p.2.length), trimL (sums p.2 p.2.length)) else none
def qIter (p : Int × List Int) : Nat → Option (Int × List Int)
  | 0 => some p
  | k + 1 => (qIter p k).bind qStep

theorem trE_last {l : List Int} (h : trE l ≠ 0) : l.getD (trE l - 1) 0 ≠ 0 := by
  have key : ∀ t, trEnd l t ≠ 0 → l.getD (trEnd l t - 1) 0 ≠ 0 := by
    intro t
    induction t with
    | zero => intro h; exact absurd rfl h
    | succ t ih =>
      intro h
      by_cases hz : l.getD t 0 = 0
      · rw [trEnd_zero hz] at h ⊢; exact ih h
      · rw [trEnd_one hz]; exact hz
  exact key _ h
theorem trF_first {l : List Int} (h : trF l ≠ trE l) : l.getD (trF l) 0 ≠ 0 := by
  have key : ∀ d, d ≤ trE l → trBeg l (trE l) d ≠ trE l → l.getD (trBeg l (trE l) d) 0 ≠ 0 := by
    intro d
    induction d with
    | zero => intro _ h; exact absurd rfl h
    | succ d ih =>
      intro hd h
      by_cases hz : l.getD (trE l - (d + 1)) 0 = 0
      · rw [trBeg_zero hz] at h ⊢; exact ih (by omega) h
      · rw [trBeg_one hz]; exact hz
  exact key _ (Nat.le_refl _) h
theorem trE_zeros {l : List Int} {i : Nat} (h : trE l ≤ i) : l.getD i 0 = 0 := by
  have key : ∀ t, ∀ i, trEnd l t ≤ i → i < t → l.getD i 0 = 0 := by
    intro t
    induction t with
    | zero => intro i _ h; omega
    | succ t ih =>
      intro i h1 h2
      by_cases hz : l.getD t 0 = 0
      · rw [trEnd_zero hz] at h1
        by_cases e : i = t
        · rw [e]; exact hz
        · exact ih i h1 (by omega)
      · rw [trEnd_one hz] at h1; omega
  by_cases hi : i < l.length
  · exact key _ i h hi
  · rw [List.getD_eq_getElem?_getD, List.getElem?_eq_none (by omega)]; rfl
theorem trF_zeros {l : List Int} {i : Nat} (h : i < trF l) : l.getD i 0 = 0 := by
  have key : ∀ d, d ≤ trE l → ∀ i, trE l - d ≤ i → i < trBeg l (trE l) d → l.getD i 0 = 0 := by
    intro d
    induction d with
    | zero => intro _ i h1 h2; simp only [trBeg] at h2; omega
    | succ d ih =>
      intro hd i h1 h2
      by_cases hz : l.getD (trE l - (d + 1)) 0 = 0
      · rw [trBeg_zero hz] at h2
        by_cases e : i = trE l - (d + 1)
        · rw [e]; exact hz
        · exact ih (by omega) i (by omega) h2
      · rw [trBeg_one hz] at h2; omega
  exact key _ (Nat.le_refl _) i (by omega) h
theorem trimL_get {l : List Int} {i : Nat} (h : i < (trimL l).length) : (trimL l).getD i 0 = l.getD (trF l + i) 0 := by
  have hl := trimL_len l
  have hne : trF l ≠ trE l := fun e => by rw [hl, e, Nat.sub_self] at h; omega
  unfold trimL
  rw [if_neg hne, List.getD_eq_getElem?_getD, List.getElem?_take, if_pos (by omega), List.getElem?_drop, List.getD_eq_getElem?_getD]
theorem all_get {p : Int → Bool} {l : List Int} : l.all p = true ↔ ∀ i, i < l.length → p (l.getD i 0) = true := by
  rw [List.all_eq_true]
  constructor
  · intro h i hi
    rw [List.getD_eq_getElem?_getD, List.getElem?_eq_getElem hi]
    exact h _ (List.getElem_mem hi)
  · intro h c hc
    obtain ⟨i, hi, rfl⟩ := List.mem_iff_getElem.1 hc
    have := h i hi
    rw [List.getD_eq_getElem?_getD, List.getElem?_eq_getElem hi] at this
    exact this
/-- Trimmed numbers are allowed as a polynomial if they were small enough. -/
theorem lauOk_trim {low : Int} {l : List Int} (h1 : -1000 ≤ low) (h2 : low + l.length ≤ 1001) (h3 : l.length ≤ 2001) : lauOk (trimLow low l) (trimL l) = l.all coOk := by
  have hE := trE_le l
  have hF := trF_le l
  have hlen := trimL_len l
  by_cases hz : trF l = trE l
  · have e1 : trimL l = [] := by unfold trimL; rw [if_pos hz]
    have e2 : trimLow low l = 0 := by unfold trimLow; rw [if_pos hz]
    rw [e1, e2, lauOk_zero rfl]
    symm
    rw [show decide ((0 : Int) = 0) = true from rfl, all_get]
    intro i hi
    have : l.getD i 0 = 0 := by
      by_cases h : trE l ≤ i
      · exact trE_zeros h
      · exact trF_zeros (by omega)
    rw [this]; rfl
  · have hne : (trimL l).length ≠ 0 := by omega
    have e2 : trimLow low l = low + (trF l : Int) := by unfold trimLow; rw [if_neg hz]
    rw [lauOk_pos hne]
    have f0 : (trimL l).getD 0 0 ≠ 0 := by rw [trimL_get (by omega)]; exact trF_first hz
    have f1 : (trimL l).getD ((trimL l).length - 1) 0 ≠ 0 := by
      rw [trimL_get (by omega), show trF l + ((trimL l).length - 1) = trE l - 1 by omega]
      exact trE_last (by omega)
    have hall : (trimL l).all coOk = l.all coOk := by
      rw [Bool.eq_iff_iff, all_get, all_get]
      constructor
      · intro h i hi
        by_cases hi1 : trE l ≤ i
        · rw [trE_zeros hi1]; rfl
        · by_cases hi2 : i < trF l
          · rw [trF_zeros hi2]; rfl
          · have := h (i - trF l) (by omega)
            rw [trimL_get (by omega), show trF l + (i - trF l) = i by omega] at this
            exact this
      · intro h i hi
        rw [trimL_get hi]
        exact h _ (by omega)
    rw [hall, e2]
    rw [decide_eq_true (by omega), decide_eq_true (by omega), decide_eq_true (by omega), decide_eq_true (by omega)]
    have g0 : ((trimL l).getD 0 0 == 0) = false := beq_eq_false_iff_ne.2 f0
    have g1 : ((trimL l).getD ((trimL l).length - 1) 0 == 0) = false := beq_eq_false_iff_ne.2 f1
    rw [g0, g1]
    rfl
/-- What is allowed stays as it is. -/
theorem trim_same {low : Int} {l : List Int} (h : lauOk low l = true) : trimLow low l = low ∧ trimL l = l := by
  by_cases h0 : l.length = 0
  · have e := List.eq_nil_of_length_eq_zero h0
    subst e
    rw [lauOk_zero rfl] at h
    have : low = 0 := by simpa using h
    subst this
    exact ⟨rfl, rfl⟩
  · rw [lauOk_pos h0] at h
    simp only [Bool.and_eq_true, Bool.not_eq_true', beq_eq_false_iff_ne] at h
    have hE : trE l = l.length := by
      have e : l.length = (l.length - 1) + 1 := by omega
      unfold trE
      rw [e, trEnd_one h.1.2]
    have hF : trF l = 0 := by
      unfold trF
      rw [hE]
      have e : l.length = (l.length - 1) + 1 := by omega
      have e2 : l.length - (l.length - 1 + 1) = 0 := by omega
      have hb := trBeg_one (l := l) (t := l.length) (d := l.length - 1) (by rw [e2]; exact h.1.1.2)
      rw [e2, ← e] at hb
      exact hb
    have hne : ¬ trF l = trE l := by omega
    constructor
    · unfold trimLow; rw [if_neg hne, hF]; simp
    · unfold trimL; rw [if_neg hne, hF, hE, List.drop_zero, Nat.sub_zero, List.take_of_length_le (Nat.le_refl _)]
theorem qStep_ok {p q : Int × List Int} (hp : lauOk p.1 p.2 = true) (h : qStep p = some q) : lauOk q.1 q.2 = true := by
  unfold qStep at h
  split at h
  · rename_i hh
    cases h
    rw [lauOk_trim (lauOk_low hp).1 (by rw [sums_len]; exact lauOk_high hp) (by rw [sums_len]; exact lauOk_len hp)]
    exact hh.2
  · cases h
theorem qIter_ok {p : Int × List Int} (hp : lauOk p.1 p.2 = true) : ∀ k q, qIter p k = some q → lauOk q.1 q.2 = true
  | 0, q, h => by cases h; exact hp
  | k + 1, q, h => by
    unfold qIter at h
    cases hk : qIter p k with
    | none => rw [hk] at h; cases h
    | some r =>
      rw [hk] at h
      exact qStep_ok (qIter_ok hp k r hk) h
theorem qIter_none {p : Int × List Int} {j : Nat} (h : qIter p j = none) : ∀ k, j ≤ k → qIter p k = none
  | 0, hk => by have : j = 0 := by omega
                subst this; exact h
  | k + 1, hk => by
    by_cases e : j = k + 1
    · rw [← e]; exact h
    · unfold qIter
      rw [qIter_none h k (by omega)]
      rfl
theorem qIter_succ {p q : Int × List Int} {j : Nat} (h : qIter p j = some q) : qIter p (j + 1) = qStep q := by
  show (qIter p j).bind qStep = _
  rw [h]; rfl

end Go.Proofs

/-
  What the functions of this part hand back: each as a plain function of its arguments. Conditions: none.
-/
namespace Go.Proofs
open Go.W8
set_option linter.unusedVariables false
set_option linter.unusedSimpArgs false
set_option linter.unusedSectionVars false
set_option maxRecDepth 8000
set_option maxHeartbeats 4000000
--@plain
/-- Sums over the first numbers. -/
def sumN (f : Nat → Int) : Nat → Int
  | 0 => 0
  | n + 1 => sumN f n + f n
theorem sumN_congr {f g : Nat → Int} : ∀ {n : Nat}, (∀ i, i < n → f i = g i) → sumN f n = sumN g n
  | 0, _ => rfl
  | n + 1, h => by
    show sumN f n + f n = sumN g n + g n
    rw [sumN_congr fun i hi => h i (Nat.lt_succ_of_lt hi), h n (Nat.lt_succ_self n)]
theorem sumN_add (f g : Nat → Int) : ∀ n : Nat, sumN (fun i => f i + g i) n = sumN f n + sumN g n
  | 0 => rfl
  | n + 1 => by
    show sumN (fun i => f i + g i) n + (f n + g n) = (sumN f n + f n) + (sumN g n + g n)
    rw [sumN_add f g n]; omega
theorem sumN_mul (c : Int) (f : Nat → Int) : ∀ n : Nat, sumN (fun i => c * f i) n = c * sumN f n
  | 0 => by simp [sumN]
  | n + 1 => by
    show sumN (fun i => c * f i) n + c * f n = c * (sumN f n + f n)
    rw [sumN_mul c f n, Int.mul_add]
theorem sumN_zero : ∀ n : Nat, sumN (fun _ => 0) n = 0
  | 0 => rfl
  | n + 1 => by
    show sumN (fun _ => 0) n + 0 = 0
    rw [sumN_zero n]; rfl
theorem sumN_swap (f : Nat → Nat → Int) (m : Nat) : ∀ n : Nat, sumN (fun i => sumN (fun j => f i j) m) n = sumN (fun j => sumN (fun i => f i j) n) m
  | 0 => by
    show 0 = sumN (fun _ => 0) m
    rw [sumN_zero]
  | n + 1 => by
    show sumN (fun i => sumN (fun j => f i j) m) n + sumN (fun j => f n j) m = sumN (fun j => sumN (fun i => f i j) n + f n j) m
    rw [sumN_swap f m n, sumN_add]
theorem sumN_bound {f : Nat → Int} {c : Int} (hc : ∀ i, -c ≤ f i ∧ f i ≤ c) : ∀ n : Nat, -(c * (n : Int)) ≤ sumN f n ∧ sumN f n ≤ c * (n : Int)
  | 0 => by simp [sumN]
  | n + 1 => by
    have h1 := sumN_bound hc n
    have h2 := hc n
    have e : c * ((n + 1 : Nat) : Int) = c * (n : Int) + c := by rw [Int.natCast_succ, Int.mul_add, Int.mul_one]
    show _ ≤ sumN f n + f n ∧ sumN f n + f n ≤ _
    rw [e]
    omega
/-- The sign of a number of exchanges. -/
def sg (k : Nat) : Int := if k % 2 = 0 then 1 else -1
theorem sg_succ (k : Nat) : sg (k + 1) = - sg k := by
  unfold sg
  split <;> split <;> omega
theorem sg_cases (k : Nat) : sg k = 1 ∨ sg k = -1 := by unfold sg; split <;> simp
/-- How many of a set are below k, and how many lie in front of n from k on. -/
def cb (S : Nat → Bool) : Nat → Nat
  | 0 => 0
  | k + 1 => cb S k + if S k then 1 else 0
def ab (S : Nat → Bool) (n k : Nat) : Nat := cb S n - cb S (k + 1)
def rem (S : Nat → Bool) (a : Nat) : Nat → Bool := fun c => S c && !(c == a)
theorem rem_at (S : Nat → Bool) (a c : Nat) : rem S a c = (S c && !(c == a)) := rfl
theorem rem_comm (S : Nat → Bool) (a b : Nat) : rem (rem S a) b = rem (rem S b) a := by
  funext c
  simp only [rem_at]
  cases S c <;> cases (c == a) <;> cases (c == b) <;> rfl
theorem cb_mono (S : Nat → Bool) {i j : Nat} (h : i ≤ j) : cb S i ≤ cb S j := by
  induction j with
  | zero => have : i = 0 := by omega
            subst this; exact Nat.le_refl _
  | succ j ih =>
    by_cases e : i = j + 1
    · rw [e]; exact Nat.le_refl _
    · have := ih (by omega)
      show _ ≤ cb S j + _
      omega
theorem cb_le (S : Nat → Bool) : ∀ k, cb S k ≤ k
  | 0 => Nat.le_refl _
  | k + 1 => by
    have := cb_le S k
    show cb S k + _ ≤ _
    split <;> omega
theorem cb_rem {S : Nat → Bool} {a : Nat} (h : S a = true) : ∀ k, cb (rem S a) k + (if a < k then 1 else 0) = cb S k
  | 0 => rfl
  | k + 1 => by
    have ih := cb_rem h k
    show cb (rem S a) k + (if rem S a k = true then 1 else 0) + _ = cb S k + (if S k = true then 1 else 0)
    by_cases e : k = a
    · subst e
      rw [if_neg (by omega : ¬ k < k)] at ih
      rw [if_neg (by simp [rem_at]), if_pos h, if_pos (by omega : k < k + 1)]
      omega
    · have e2 : rem S a k = S k := by simp [rem_at, e]
      rw [e2]
      by_cases hk : a < k
      · rw [if_pos hk] at ih
        rw [if_pos (by omega : a < k + 1)]
        omega
      · rw [if_neg hk] at ih
        rw [if_neg (by omega : ¬ a < k + 1)]
        omega
/-- The determinant of monomials t ^ -w: rows r, r + 1, .. (m of them) and the columns of S, by its first row. -/
def dA (n : Nat) (w : Nat → Nat → Int) : Nat → Nat → (Nat → Bool) → Int → Int
  | 0, _, _, e => if e = 0 then 1 else 0
  | m + 1, r, S, e => sumN (fun a => if S a then sg (cb S a) * dA n w m (r + 1) (rem S a) (e + w r a) else 0) n
/-- .. and by its last row. -/
def dB (n : Nat) (w : Nat → Nat → Int) : Nat → Nat → (Nat → Bool) → Int → Int
  | 0, _, _, e => if e = 0 then 1 else 0
  | m + 1, r, S, e => sumN (fun a => if S a then sg (ab S n a) * dB n w m r (rem S a) (e + w (r + m) a) else 0) n
theorem sg_swap {S : Nat → Bool} {n a b : Nat} (ha : S a = true) (hb : S b = true) (hne : a ≠ b) (han : a < n) (hbn : b < n) :
    sg (cb S a) * sg (ab (rem S a) n b) = sg (ab S n b) * sg (cb (rem S b) a) := by
  have h1 := cb_rem ha n
  have h2 := cb_rem ha (b + 1)
  have h3 := cb_rem hb a
  rw [if_pos han] at h1
  have m1 := cb_mono S (show b + 1 ≤ n by omega)
  have m2 := cb_mono (rem S a) (show b + 1 ≤ n by omega)
  by_cases hab : b < a
  · rw [if_pos hab] at h3
    rw [if_neg (by omega)] at h2
    have e1 : ab S n b = ab (rem S a) n b + 1 := by unfold ab; omega
    rw [← h3, e1, sg_succ, sg_succ, Int.neg_mul, Int.neg_mul, Int.mul_comm]
  · rw [if_neg hab] at h3
    rw [if_pos (by omega)] at h2
    have e1 : ab S n b = ab (rem S a) n b := by unfold ab; omega
    have e2 : cb (rem S b) a = cb S a := by omega
    rw [e1, e2, Int.mul_comm]
theorem dA_dB (n : Nat) (w : Nat → Nat → Int) : ∀ (k m : Nat), m ≤ k → ∀ (r : Nat) (S : Nat → Bool), cb S n = m → ∀ e, dA n w m r S e = dB n w m r S e := by
  intro k
  induction k with
  | zero =>
    intro m hm r S _ e
    obtain rfl : m = 0 := by omega
    rfl
  | succ k ih =>
    intro m hm r S hc e
    cases m with
    | zero => rfl
    | succ m =>
      cases m with
      | zero =>
        show sumN _ n = sumN _ n
        refine sumN_congr fun a ha => ?_
        cases hS : S a with
        | false => rfl
        | true =>
          have h1 := cb_mono S (show a + 1 ≤ n by omega)
          have h2 : cb S (a + 1) = cb S a + 1 := by show cb S a + _ = _; rw [if_pos hS]
          have e1 : cb S a = 0 := by omega
          have e2 : ab S n a = 0 := by unfold ab; omega
          simp only [if_true, e1, e2, Nat.add_zero]
          rfl
      | succ m =>
        have hA : dA n w (m + 2) r S e = sumN (fun a => sumN (fun b => if S a = true ∧ S b = true ∧ a ≠ b then sg (cb S a) * sg (ab (rem S a) n b) * dB n w m (r + 1) (rem (rem S a) b) (e + w r a + w (r + 1 + m) b) else 0) n) n := by
          show sumN _ n = _
          refine sumN_congr fun a ha => ?_
          cases hS : S a with
          | false =>
            simp only [Bool.false_eq_true, false_and, if_false]
            exact (sumN_zero n).symm
          | true =>
            have hr := cb_rem hS n
            rw [if_pos ha] at hr
            rw [if_pos rfl, ih (m + 1) (by omega) (r + 1) (rem S a) (by omega)]
            show _ * sumN _ n = _
            rw [← sumN_mul]
            refine sumN_congr fun b hb => ?_
            by_cases hb2 : S b = true ∧ a ≠ b
            · have hr2 : rem S a b = true := by simp [rem_at, hb2.1, Ne.symm hb2.2]
              rw [if_pos hr2, if_pos ⟨rfl, hb2⟩, Int.mul_assoc]
            · have hr2 : ¬ rem S a b = true := by
                simp only [rem_at, Bool.and_eq_true, Bool.not_eq_true', beq_eq_false_iff_ne]
                exact fun h => hb2 ⟨h.1, fun e => h.2 e.symm⟩
              rw [if_neg hr2, if_neg (fun h => hb2 h.2), Int.mul_zero]
        have hB : dB n w (m + 2) r S e = sumN (fun b => sumN (fun a => if S a = true ∧ S b = true ∧ a ≠ b then sg (ab S n b) * sg (cb (rem S b) a) * dA n w m (r + 1) (rem (rem S b) a) (e + w (r + (m + 1)) b + w r a) else 0) n) n := by
          show sumN _ n = _
          refine sumN_congr fun b hb => ?_
          cases hS : S b with
          | false =>
            simp only [Bool.false_eq_true, false_and, and_false, if_false]
            exact (sumN_zero n).symm
          | true =>
            have hr := cb_rem hS n
            rw [if_pos hb] at hr
            rw [if_pos rfl, ← ih (m + 1) (by omega) r (rem S b) (by omega)]
            show _ * sumN _ n = _
            rw [← sumN_mul]
            refine sumN_congr fun a ha => ?_
            by_cases hb2 : S a = true ∧ a ≠ b
            · have hr2 : rem S b a = true := by simp [rem_at, hb2.1, hb2.2]
              rw [if_pos hr2, if_pos ⟨hb2.1, rfl, hb2.2⟩, Int.mul_assoc]
            · have hr2 : ¬ rem S b a = true := by
                simp only [rem_at, Bool.and_eq_true, Bool.not_eq_true', beq_eq_false_iff_ne]
                exact fun h => hb2 h
              rw [if_neg hr2, if_neg (fun h => hb2 ⟨h.1, h.2.2⟩), Int.mul_zero]
        rw [hA, hB, sumN_swap]
        refine sumN_congr fun b hb => sumN_congr fun a ha => ?_
        by_cases h : S a = true ∧ S b = true ∧ a ≠ b
        · rw [if_pos h, if_pos h, sg_swap h.1 h.2.1 h.2.2 ha hb, rem_comm S b a]
          have h1 := cb_rem h.1 n
          rw [if_pos ha] at h1
          have h3 : rem S a b = true := by simp [rem_at, h.2.1, Ne.symm h.2.2]
          have h2 := cb_rem h3 n
          rw [if_pos hb] at h2
          rw [ih m (by omega) (r + 1) (rem (rem S a) b) (by omega), show r + (m + 1) = r + 1 + m by omega, show e + w (r + 1 + m) b + w r a = e + w r a + w (r + 1 + m) b by omega]
        · rw [if_neg h, if_neg h]
theorem dB_far {n : Nat} {w : Nat → Nat → Int} {c : Int} (hc : ∀ r a, a < n → -c ≤ w r a ∧ w r a ≤ c) : ∀ (m r : Nat) (S : Nat → Bool) (e : Int), dB n w m r S e ≠ 0 → -(c * (m : Int)) ≤ e ∧ e ≤ c * (m : Int)
  | 0, r, S, e, h => by
    have : e = 0 := by
      rcases Decidable.em (e = 0) with h1 | h1
      · exact h1
      · exact absurd (if_neg h1) h
    simp [this]
  | m + 1, r, S, e, h => by
    rcases Decidable.em (-(c * ((m + 1 : Nat) : Int)) ≤ e ∧ e ≤ c * ((m + 1 : Nat) : Int)) with h1 | h1
    · exact h1
    · refine absurd ?_ h
      show sumN _ n = 0
      refine (sumN_congr fun a ha => ?_).trans (sumN_zero n)
      cases S a with
      | false => rfl
      | true =>
        have e1 : c * ((m + 1 : Nat) : Int) = c * (m : Int) + c := by rw [Int.natCast_succ, Int.mul_add, Int.mul_one]
        rw [e1] at h1
        have h2 := hc (r + m) a ha
        have h3 : dB n w m r (rem S a) (e + w (r + m) a) = 0 := by
          rcases Decidable.em (dB n w m r (rem S a) (e + w (r + m) a) = 0) with h4 | h4
          · exact h4
          · have := dB_far hc m r (rem S a) _ h4
            omega
        rw [if_pos rfl, h3, Int.mul_zero]
theorem dB_bound (n : Nat) (w : Nat → Nat → Int) : ∀ (m r : Nat) (S : Nat → Bool) (e : Int), -((n : Int) ^ m) ≤ dB n w m r S e ∧ dB n w m r S e ≤ (n : Int) ^ m
  | 0, r, S, e => by
    show _ ≤ (if e = 0 then (1 : Int) else 0) ∧ (if e = 0 then (1 : Int) else 0) ≤ _
    split <;> simp
  | m + 1, r, S, e => by
    rw [Int.pow_succ]
    refine sumN_bound (c := (n : Int) ^ m) (fun a => ?_) n
    have h0 : (0 : Int) ≤ (n : Int) ^ m := Int.pow_nonneg (Int.natCast_nonneg n)
    cases S a with
    | false => simp only [Bool.false_eq_true, if_false]; omega
    | true =>
      have := dB_bound n w m r (rem S a) (e + w (r + m) a)
      rcases sg_cases (ab S n a) with h | h <;> rw [if_pos rfl, h] <;> omega
theorem dA_bound (n : Nat) (w : Nat → Nat → Int) : ∀ (m r : Nat) (S : Nat → Bool) (e : Int), -((n : Int) ^ m) ≤ dA n w m r S e ∧ dA n w m r S e ≤ (n : Int) ^ m
  | 0, r, S, e => by
    show _ ≤ (if e = 0 then (1 : Int) else 0) ∧ (if e = 0 then (1 : Int) else 0) ≤ _
    split <;> simp
  | m + 1, r, S, e => by
    rw [Int.pow_succ]
    refine sumN_bound (c := (n : Int) ^ m) (fun a => ?_) n
    have h0 : (0 : Int) ≤ (n : Int) ^ m := Int.pow_nonneg (Int.natCast_nonneg n)
    cases S a with
    | false => simp only [Bool.false_eq_true, if_false]; omega
    | true =>
      have := dA_bound n w m (r + 1) (rem S a) (e + w r a)
      rcases sg_cases (cb S a) with h | h <;> rw [if_pos rfl, h] <;> omega

/-- Numbers with 0 around them, at whole powers. -/
def coefAt (low : Int) (l : List Int) (e : Int) : Int := if low ≤ e then l.getD (e - low).toNat 0 else 0
theorem getD_far {l : List Int} {i : Nat} (h : l.length ≤ i) : l.getD i 0 = 0 := by
  rw [List.getD_eq_getElem?_getD, List.getElem?_eq_none h]; rfl
/-- Trimming does not change the numbers. -/
theorem coefAt_trim (low : Int) (l : List Int) (h : trimL l ≠ []) (e : Int) : coefAt (trimLow low l) (trimL l) e = coefAt low l e := by
  have hE := trE_le l
  have hF := trF_le l
  have hlen := trimL_len l
  have hz : trF l ≠ trE l := by
    intro hz
    exact h (by unfold trimL; rw [if_pos hz])
  have e2 : trimLow low l = low + (trF l : Int) := by unfold trimLow; rw [if_neg hz]
  unfold coefAt
  rw [e2]
  by_cases h1 : low + (trF l : Int) ≤ e
  · rw [if_pos h1, if_pos (by omega)]
    have e3 : (e - low).toNat = trF l + (e - (low + (trF l : Int))).toNat := by omega
    rw [e3]
    by_cases h2 : (e - (low + (trF l : Int))).toNat < (trimL l).length
    · rw [trimL_get h2]
    · rw [getD_far (by omega), trE_zeros (by omega)]
  · rw [if_neg h1]
    by_cases h2 : low ≤ e
    · rw [if_pos h2, trF_zeros (by omega)]
    · rw [if_neg h2]
theorem trim_nil {l : List Int} (h : trimL l = []) (i : Nat) : l.getD i 0 = 0 := by
  have hlen := trimL_len l
  rw [h] at hlen
  have hF := trF_le l
  simp only [List.length_nil] at hlen
  by_cases h1 : trE l ≤ i
  · exact trE_zeros h1
  · exact trF_zeros (by omega)
/-- Two lists with the same numbers at all powers are trimmed to the same polynomial. -/
theorem trim_eq {low low' : Int} {l l' : List Int} (h : ∀ e, coefAt low l e = coefAt low' l' e) : trimLow low l = trimLow low' l' ∧ trimL l = trimL l' := by
  have key : ∀ (low low' : Int) (l l' : List Int), (∀ e, coefAt low l e = coefAt low' l' e) → trimL l = [] → trimL l' = [] := by
    intro low low' l l' h hn
    rcases Decidable.em (trimL l' = []) with h1 | h1
    · exact h1
    · exfalso
      have hz : trF l' ≠ trE l' := fun hz => h1 (by unfold trimL; rw [if_pos hz])
      have h2 := trF_first hz
      have h3 := h (low' + (trF l' : Int))
      have h4 : coefAt low' l' (low' + (trF l' : Int)) = l'.getD (trF l') 0 := by
        unfold coefAt
        rw [if_pos (by omega), show (low' + (trF l' : Int) - low').toNat = trF l' by omega]
      rw [h4] at h3
      apply h2
      rw [← h3]
      unfold coefAt
      split
      · exact trim_nil hn _
      · rfl
  by_cases hn : trimL l = []
  · have hn' := key low low' l l' h hn
    have e1 := trimL_len l
    have e2 := trimL_len l'
    rw [hn] at e1
    rw [hn'] at e2
    have f1 := trF_le l
    have f2 := trF_le l'
    simp only [List.length_nil] at e1 e2
    refine ⟨?_, by rw [hn, hn']⟩
    unfold trimLow
    rw [if_pos (by omega), if_pos (by omega)]
  · have hn' : trimL l' ≠ [] := fun h' => hn (key low' low l' l (fun e => (h e).symm) h')
    have f1 := trF_le l
    have f2 := trF_le l'
    have e1 := trimL_len l
    have e2 := trimL_len l'
    have p1 : 0 < (trimL l).length := List.length_pos_iff.2 hn
    have p2 : 0 < (trimL l').length := List.length_pos_iff.2 hn'
    have hz : trF l ≠ trE l := by omega
    have hz' : trF l' ≠ trE l' := by omega
    have l1 : trimLow low l = low + (trF l : Int) := by unfold trimLow; rw [if_neg hz]
    have l2 : trimLow low' l' = low' + (trF l' : Int) := by unfold trimLow; rw [if_neg hz']
    have c1 := coefAt_trim low l hn
    have c2 := coefAt_trim low' l' hn'
    have first : ∀ {lw : Int} {q : List Int}, coefAt lw q lw = q.getD 0 0 := by
      intro lw q; unfold coefAt; rw [if_pos (Int.le_refl _), Int.sub_self]; rfl
    have below : ∀ {lw : Int} {q : List Int} {e : Int}, coefAt lw q e ≠ 0 → lw ≤ e ∧ e < lw + (q.length : Int) := by
      intro lw q e hne
      unfold coefAt at hne
      split at hne
      · rename_i hle
        refine ⟨hle, ?_⟩
        rcases Int.lt_or_le e (lw + (q.length : Int)) with h5 | h5
        · exact h5
        · exact absurd (getD_far (by omega)) hne
      · exact absurd rfl hne
    have g1 : (trimL l).getD 0 0 ≠ 0 := by rw [trimL_get p1]; exact trF_first hz
    have g2 : (trimL l').getD 0 0 ≠ 0 := by rw [trimL_get p2]; exact trF_first hz'
    have t1 : (trimL l).getD ((trimL l).length - 1) 0 ≠ 0 := by
      rw [trimL_get (by omega), show trF l + ((trimL l).length - 1) = trE l - 1 by omega]
      exact trE_last (by omega)
    have t2 : (trimL l').getD ((trimL l').length - 1) 0 ≠ 0 := by
      rw [trimL_get (by omega), show trF l' + ((trimL l').length - 1) = trE l' - 1 by omega]
      exact trE_last (by omega)
    have hc : ∀ e, coefAt (trimLow low l) (trimL l) e = coefAt (trimLow low' l') (trimL l') e := fun e => by rw [c1, c2, h]
    have at_end : ∀ {lw : Int} {q : List Int}, 0 < q.length → coefAt lw q (lw + (q.length : Int) - 1) = q.getD (q.length - 1) 0 := by
      intro lw q hq
      unfold coefAt
      rw [if_pos (by omega), show (lw + (q.length : Int) - 1 - lw).toNat = q.length - 1 by omega]
    have b1 := below (lw := trimLow low' l') (q := trimL l') (e := trimLow low l) (by rw [← hc, first]; exact g1)
    have b2 := below (lw := trimLow low l) (q := trimL l) (e := trimLow low' l') (by rw [hc, first]; exact g2)
    have b3 := below (lw := trimLow low' l') (q := trimL l') (e := trimLow low l + ((trimL l).length : Int) - 1) (by rw [← hc, at_end p1]; exact t1)
    have b4 := below (lw := trimLow low l) (q := trimL l) (e := trimLow low' l' + ((trimL l').length : Int) - 1) (by rw [hc, at_end p2]; exact t2)
    have el : trimLow low l = trimLow low' l' := by omega
    have en : (trimL l).length = (trimL l').length := by omega
    refine ⟨el, List.ext_getElem? fun i => ?_⟩
    by_cases hi : i < (trimL l).length
    · have := hc (trimLow low l + (i : Int))
      unfold coefAt at this
      rw [if_pos (by omega), if_pos (by omega), show (trimLow low l + (i : Int) - trimLow low l).toNat = i by omega, show (trimLow low l + (i : Int) - trimLow low' l').toNat = i by omega] at this
      rw [List.getD_eq_getElem?_getD, List.getD_eq_getElem?_getD, List.getElem?_eq_getElem hi, List.getElem?_eq_getElem (by omega)] at this
      rw [List.getElem?_eq_getElem hi, List.getElem?_eq_getElem (by omega)]
      simpa using this
    · rw [List.getElem?_eq_none (by omega), List.getElem?_eq_none (by omega)]

end Go.Proofs

/-
  What the functions of this part hand back: each as a plain function of its arguments. Conditions: none.
-/
namespace Go.Proofs
open Go.W8
set_option linter.unusedVariables false
set_option linter.unusedSimpArgs false
set_option linter.unusedSectionVars false
set_option maxRecDepth 8000
set_option maxHeartbeats 4000000
--@plain
/-- A row of numbers that is handed in. -/
def InS (R : Rd) (l : List Int) (v : Value) : Prop := ∃ a cap, v = .slice a l.length cap ∧ (l.length ≠ 0 → ∃ b o, a = some ⟨b, o, none⟩ ∧ (b, o, ints .i64 l) ∈ R)
theorem InS.get {W : List Nat} {w0 : World} {R : Rd} {l : List Int} {a : Option Addr} {m cap k : Nat} (h : InS R l (.slice a m cap)) (ht : W8.Told W w0 R) (hk : k < l.length) : ∃ b o, a = some ⟨b, o, none⟩ ∧ frn W w0 b (o + k) = some (.int .i64 (l.getD k 0)) := by
  obtain ⟨a', cap', e, h⟩ := h
  cases e
  obtain ⟨b, o, rfl, hm⟩ := h (by omega)
  exact ⟨b, o, rfl, ht _ hm k _ (ints_get hk)⟩
theorem InS.more {R R' : Rd} {l : List Int} {v : Value} (h : InS R l v) (hs : ∀ r ∈ R, r ∈ R') : InS R' l v := by
  obtain ⟨a, cap, rfl, h⟩ := h
  exact ⟨a, cap, rfl, fun hn => let ⟨b, o, e, hm⟩ := h hn; ⟨b, o, e, hs _ hm⟩⟩
theorem _root_.Go.W8.RdS.more {R R' : Rd} {w : Nat} {l : List Value} {v : Value} (h : RdS R w l v) (hs : ∀ r ∈ R, r ∈ R') : RdS R' w l v := by
  obtain ⟨a, m, cap, rfl, hl, h, h2⟩ := h
  exact ⟨a, m, cap, rfl, hl, (fun hn => let ⟨b, cs, e, hm, hr⟩ := h hn; ⟨b, cs, e, hs _ hm, hr⟩), h2⟩
theorem _root_.Go.W8.SlN.form {w : Nat} {l : List Value} {v : Value} {M : Blks} (h : SlN w l v M) : ∃ a m cap, v = .slice a m cap := by
  rcases h with ⟨_, rfl, _⟩ | ⟨b, m, cap, cs, rfl, _, _⟩
  · exact ⟨_, _, _, rfl⟩
  · exact ⟨_, _, _, rfl⟩
/-- A polynomial and the memory that it has for its own. -/
def LauV (low : Int) (l : List Int) (v : Value) (M : Blks) : Prop := ∃ s, v = .agg #[.int .i64 low, s] ∧ SlN 1 (ints .i64 l) s M
/-- A polynomial whose numbers stand in what is told. -/
def RdL (R : Rd) (low : Int) (l : List Int) (v : Value) : Prop := ∃ s, v = .agg #[.int .i64 low, s] ∧ RdS R 1 (ints .i64 l) s
theorem LauV.reads {low : Int} {l : List Int} {v : Value} {M : Blks} {R : Rd} (h : LauV low l v M) (hR : ∀ p ∈ M, (p.1, 0, p.2) ∈ R) : RdL R low l v := by
  obtain ⟨s, rfl, h⟩ := h
  exact ⟨s, rfl, h.reads hR⟩
theorem RdL.more {R R' : Rd} {low : Int} {l : List Int} {v : Value} (h : RdL R low l v) (hs : ∀ r ∈ R, r ∈ R') : RdL R' low l v := by
  obtain ⟨s, rfl, h⟩ := h
  exact ⟨s, rfl, h.more hs⟩
theorem told_ne {W : List Nat} {w0 : World} {M : Blks} {b1 b k : Nat} {v : Value} (h : Fresh w0 M b1) (g : frn W w0 b k = some v) : ¬ b1 = b := fun e => by
  have h1 := frn_lt g
  have h2 := h.1
  omega
/-- A row of numbers, from some place on. -/
def RdO (R : Rd) (l : List Int) (v : Value) : Prop :=
  (l = [] ∧ ∃ cap, v = .slice none 0 cap) ∨ ∃ b o cap, v = .slice (some ⟨b, o, none⟩) l.length cap ∧ (l = [] → o = 0) ∧ (l ≠ [] → (b, o, ints .i64 l) ∈ R)
theorem told_range {W : List Nat} {w0 : World} {R : Rd} {b o : Nat} {l : List Int} (hm : (b, o, ints .i64 l) ∈ R) (ht : W8.Told W w0 R) : (List.range l.length).mapM (fun j => frn W w0 b (o + j)) = some (ints .i64 l) := by
  refine mapM_told (by simp) fun j x y hx hy => ?_
  have hj : j < l.length := by
    rcases Nat.lt_or_ge j l.length with h1 | h1
    · exact h1
    · rw [List.getElem?_eq_none (by simpa using h1)] at hx; cases hx
  rw [List.getElem?_range hj] at hx
  cases hx
  exact ht _ hm j y hy
/-- A part of a row that is told. -/
theorem told_part {W : List Nat} {w0 : World} {R : Rd} {b m cap f n : Nat} {l : List Int} (h : RdS R 1 (ints .i64 l) (.slice (some ⟨b, 0, none⟩) m cap)) (ht : W8.Told W w0 R) (hf : f + n ≤ l.length) : W8.Told W w0 [(b, f, ints .i64 ((l.drop f).take n))] := by
  intro r hr j u hu
  rw [List.mem_singleton.1 hr] at hu ⊢
  simp only at hu ⊢
  have hj : j < n := by
    rcases Nat.lt_or_ge j n with h1 | h1
    · exact h1
    · rw [List.getElem?_eq_none (by rw [ints_length, List.length_take]; omega)] at hu; cases hu
  have e : (ints .i64 l)[f + j]? = some u := by
    unfold ints at hu ⊢
    simpa [List.getElem?_take, List.getElem?_drop, hj] using hu
  obtain ⟨b', e', hb⟩ := h.get ht e
  cases e'
  exact hb
theorem _root_.Go.W8.RdS.toO {R : Rd} {l : List Int} {v : Value} (h : RdS R 1 (ints .i64 l) v) (W : List Nat) (w0 : World) (ht : W8.Told W w0 R) : ∃ R', W8.Told W w0 R' ∧ RdO R' l v := by
  obtain ⟨a, m, cap, rfl, hm, hh⟩ := id h
  have hl : m = l.length := by rw [ints_length] at hm; omega
  subst hl
  by_cases h0 : l = []
  · subst h0
    cases a with
    | none => exact ⟨[], (fun _ hr => nomatch hr), .inl ⟨rfl, _, rfl⟩⟩
    | some a =>
      obtain ⟨b, rfl⟩ := hh.2.1 a rfl
      exact ⟨[], (fun _ hr => nomatch hr), .inr ⟨b, 0, cap, rfl, fun _ => rfl, fun h => absurd rfl h⟩⟩
  · have hne : l.length ≠ 0 := fun e => h0 (List.eq_nil_of_length_eq_zero e)
    obtain ⟨b, cs, rfl, hmem, _⟩ := hh.1 hne
    have := told_part (f := 0) (n := l.length) h ht (by omega)
    rw [List.drop_zero, List.take_of_length_le (Nat.le_refl _)] at this
    exact ⟨_, this, .inr ⟨b, 0, cap, rfl, fun _ => rfl, fun _ => List.mem_singleton.2 rfl⟩⟩

end Go.Proofs

/-
  What the functions of this part hand back: each as a plain function of its arguments. Conditions: none.
-/
namespace Go.Proofs
open Go.W8
set_option linter.unusedVariables false
set_option linter.unusedSimpArgs false
set_option linter.unusedSectionVars false
set_option maxRecDepth 8000
set_option maxHeartbeats 4000000
--@plain
section
variable {P : Program} {N : Nat} {W : List Nat} {w0 : World} {ρ : Env} {M M' : Blks}
/-- A function that is lent L, hands it back as it was, and beside it new memory. -/
def keepQ (L : Blks) (rep : Value → Blks → Prop) (v : Value) (M' : Blks) : Prop := ∃ M1, (∀ p ∈ L, p ∈ M') ∧ (∀ p ∈ M1, p ∈ M') ∧ ((L ++ M1).map (·.1)).Nodup ∧ rep v M1
def GivesK (P : Program) (f : FuncId) (args : Array Value) (L : Blks) (rep : Value → Blks → Prop) : Prop := GivesX P f args L [] (keepQ L rep)
theorem keepQ.none {L : Blks} {rep : Value → Blks → Prop} {v : Value} {M' : Blks} (hL : (L.map (·.1)).Nodup) (h : ∀ p ∈ L, p ∈ M') (hr : rep v []) : keepQ L rep v M' := ⟨[], h, (fun _ hp => nomatch hp), by simpa using hL, hr⟩
theorem keepQ.behind {L A B : Blks} {rep : Value → Blks → Prop} {v : Value} {M' : Blks} (hL : (L.map (·.1)).Nodup) (hn : ((A ++ B).map (·.1)).Nodup) (h : ∀ p ∈ L, p ∈ A) (hM : M' = A ++ B) (hr : rep v B) : keepQ L rep v M' := by
  subst hM
  refine ⟨B, fun p hp => List.mem_append_left _ (h p hp), fun p hp => List.mem_append_right _ hp, ?_, hr⟩
  rw [List.map_append, List.nodup_append] at hn ⊢
  refine ⟨hL, hn.2.1, fun a ha b hb => hn.2.2 a ?_ b hb⟩
  obtain ⟨p, hp, rfl⟩ := List.mem_map.1 ha
  exact List.mem_map_of_mem (h p hp)
theorem mem_keys {p : Nat × List Value} (h : p ∈ M) : p.1 ∈ M.map (·.1) := List.mem_map_of_mem h
theorem key_eq {p q : Nat × List Value} (hn : (M.map (·.1)).Nodup) (hp : p ∈ M) (hq : q ∈ M) (e : p.1 = q.1) : p = q := by
  have h1 := findB_of (b := p.1) (cs := p.2) hn hp
  have h2 := findB_of (b := q.1) (cs := q.2) hn hq
  rw [e, h2] at h1
  exact Prod.ext e (Option.some.inj h1).symm
theorem GivesK.acall {f : FuncId} {args : Array Value} {L : Blks} {rep R' : Value → Blks → Prop} (h : GivesK P f args L rep) (hM : (M.map (·.1)).Nodup) (hL : ∀ p ∈ L, p ∈ M) (hn : (L.map (·.1)).Nodup)
    (hk : ∀ v M1, rep v M1 → ((M ++ M1).map (·.1)).Nodup → (∀ p ∈ M1, Fresh w0 M p.1) → R' v (M ++ M1)) : ACall P W w0 f args M R' := by
  refine ⟨h.1, fun w hw => (h.2 w hn (fun p hp => hw.blk p (hL p hp)) toldW_nil).mono ?_⟩
  rintro e w' ⟨v, M', rfl, hw', M1, h1, h2, h3, h4⟩
  have hs : (M.filter fun p => decide (p.1 ∉ L.map (·.1))).Sublist M := List.filter_sublist
  have ho := hw.thenL hL hs (fun p hp => by simpa using (List.mem_filter.1 hp).2) hw'
  have hf : ∀ p ∈ M1, Fresh w0 M p.1 := by
    intro p hp
    have hpL : p.1 ∉ L.map (·.1) := by
      intro hm
      rw [List.map_append, List.nodup_append] at h3
      exact h3.2.2 _ hm _ (mem_keys hp) rfl
    rcases hw'.own p (h2 p hp) with h5 | h5
    · exact absurd h5 hpL
    · exact ⟨Nat.le_trans hw.size h5, fun q hq => by have := hw.lt hq; omega⟩
  have hnn : ((M ++ M1).map (·.1)).Nodup := by
    rw [List.map_append, List.nodup_append] at h3 ⊢
    refine ⟨hM, h3.2.1, ?_⟩
    intro a ha b hb e
    subst e
    obtain ⟨p, hp, rfl⟩ := List.mem_map.1 hb
    obtain ⟨q, hq, e⟩ := List.mem_map.1 ha
    exact (hf p hp).2 q hq e.symm
  refine ⟨v, M ++ M1, rfl, ho.turn (fun p hp => ?_) hnn, hk v M1 h4 hnn hf⟩
  rcases List.mem_append.1 hp with hp | hp
  · by_cases hpL : p.1 ∈ L.map (·.1)
    · obtain ⟨q, hq, e⟩ := List.mem_map.1 hpL
      rw [← key_eq hM (hL q hq) hp e]
      exact List.mem_append_left _ (h1 q hq)
    · exact List.mem_append_right _ (List.mem_filter.2 ⟨hp, by simpa using hpL⟩)
  · exact List.mem_append_left _ (h2 p hp)
theorem callK_keep0 {n : FuncId} {args : List Value} {d : Option Tmp} {ops : Array Oper} {rest : List Oper} {L : Blks} {rep : Value → Blks → Prop} {K : Env → Blks → Prop} (h : GivesK P n args.toArray L rep) (hM : (M.map (·.1)).Nodup) (hL : ∀ p ∈ L, p ∈ M) (hn : (L.map (·.1)).Nodup)
    (hk : ∀ v M1, rep v M1 → ((M ++ M1).map (·.1)).Nodup → (∀ p ∈ M1, Fresh w0 M p.1) → setD N ρ d v fun ρ' => evOps P N W w0 ops rest ρ' (M ++ M1) K) : callK P N W w0 (.func (.func n) #[] #[]) args M d ρ ops rest K := by
  unfold callK
  simp only [List.append_nil, List.nil_append]
  exact h.acall hM hL hn hk
/-- A call that is lent something: what it hands back is told behind the rest. -/
theorem callK_lentB0 {n : FuncId} {args : List Value} {d : Option Tmp} {ops : Array Oper} {rest : List Oper} {L Mr : Blks} {R : Rd} {Post : Value → Blks → Prop} {K : Env → Blks → Prop} (h : GivesX P n args.toArray L R Post) (hM : ((Mr ++ L).map (·.1)).Nodup) (e : M = Mr ++ L)
    (hR : ∀ w, Own W w0 M w → ToldW w R)
    (hk : ∀ v M', Post v M' → ((Mr ++ M').map (·.1)).Nodup → (∀ p ∈ M', p.1 ∉ L.map (·.1) → Fresh w0 M p.1) → setD N ρ d v fun ρ' => evOps P N W w0 ops rest ρ' (Mr ++ M') K) : callK P N W w0 (.func (.func n) #[] #[]) args M d ρ ops rest K := by
  subst e
  unfold callK
  simp only [List.append_nil, List.nil_append]
  have hn := hM
  rw [List.map_append, List.nodup_append] at hn
  refine ⟨h.1, fun w hw => (h.2 w hn.2.1 (fun p hp => hw.blk p (List.mem_append_right _ hp)) (hR w hw)).mono ?_⟩
  rintro e w' ⟨v, M', rfl, hw', hp⟩
  have ho := hw.thenL (L := L) (Mr := Mr) (fun p hp => List.mem_append_right _ hp) (List.sublist_append_left _ _) (fun p hp hm => hn.2.2 _ (mem_keys hp) _ hm rfl) hw'
  have hper : (Mr ++ M').Perm (M' ++ Mr) := List.perm_append_comm
  have hnn := (hper.map (·.1)).nodup_iff.2 ho.nodup
  refine ⟨v, Mr ++ M', rfl, ho.turn (fun p hp => hper.subset hp) hnn, hk v M' hp hnn fun p hp hne => ?_⟩
  rcases hw'.own p hp with h1 | h1
  · exact absurd h1 hne
  · exact ⟨Nat.le_trans hw.size h1, fun q hq => by have := hw.lt hq; omega⟩
theorem _root_.Go.W8.SlN.toO {l : List Int} {v : Value} {Mq : Blks} (h : SlN 1 (ints .i64 l) v Mq) (hn : (M.map (·.1)).Nodup) (hm : ∀ p ∈ Mq, p ∈ M) : ∃ R, RdO R l v ∧ HoldsAll W w0 M R := by
  rcases h with ⟨e, rfl, rfl⟩ | ⟨b, m, cap, cs, rfl, rfl, hr⟩
  · have : l = [] := by have := congrArg List.length e; rw [ints_length] at this; exact List.eq_nil_of_length_eq_zero this
    subst this
    exact ⟨[], .inl ⟨rfl, _, rfl⟩, fun _ hr => nomatch hr⟩
  · have hl := hr.len
    rw [ints_length] at hl
    obtain rfl : m = l.length := by omega
    refine ⟨[(b, 0, ints .i64 l)], .inr ⟨b, 0, cap, rfl, fun _ => rfl, fun _ => List.mem_singleton.2 rfl⟩, ?_⟩
    intro r hr1
    rw [List.mem_singleton.1 hr1]
    obtain ⟨rest, rfl⟩ := hr.pre
    intro j u hu
    have hf := findB_of hn (hm _ (List.mem_singleton.2 rfl))
    simp only at hu ⊢
    unfold cellAt
    rw [hf]
    have hj : j < (ints .i64 l).length := by
      rcases Nat.lt_or_ge j (ints .i64 l).length with h1 | h1
      · exact h1
      · rw [List.getElem?_eq_none h1] at hu; cases hu
    simp only [Nat.zero_add]
    rw [List.getElem?_append_left hj, hu]
theorem GivesX.acallB {f : FuncId} {args : Array Value} {L Mr : Blks} {R : Rd} {Post R' : Value → Blks → Prop} (h : GivesX P f args L R Post) (hM : ((Mr ++ L).map (·.1)).Nodup) (e : M = Mr ++ L)
    (hR : ∀ w, Own W w0 M w → ToldW w R)
    (hk : ∀ v M', Post v M' → ((Mr ++ M').map (·.1)).Nodup → (∀ p ∈ M', p.1 ∉ L.map (·.1) → Fresh w0 M p.1) → R' v (Mr ++ M')) : ACall P W w0 f args M R' := by
  subst e
  have hn := hM
  rw [List.map_append, List.nodup_append] at hn
  refine ⟨h.1, fun w hw => (h.2 w hn.2.1 (fun p hp => hw.blk p (List.mem_append_right _ hp)) (hR w hw)).mono ?_⟩
  rintro e w' ⟨v, M', rfl, hw', hp⟩
  have ho := hw.thenL (L := L) (Mr := Mr) (fun p hp => List.mem_append_right _ hp) (List.sublist_append_left _ _) (fun p hp hm => hn.2.2 _ (mem_keys hp) _ hm rfl) hw'
  have hper : (Mr ++ M').Perm (M' ++ Mr) := List.perm_append_comm
  have hnn := (hper.map (·.1)).nodup_iff.2 ho.nodup
  refine ⟨v, Mr ++ M', rfl, ho.turn (fun p hp => hper.subset hp) hnn, hk v M' hp hnn fun p hp hne => ?_⟩
  rcases hw'.own p hp with h1 | h1
  · exact absurd h1 hne
  · exact ⟨Nat.le_trans hw.size h1, fun q hq => by have := hw.lt hq; omega⟩
/-- .. of a function with captured places. -/
theorem callO_lentC {n : FuncId} {args cs : List Value} {d : Option Tmp} {ops : Array Oper} {p : Plan} {L Mr : Blks} {R : Rd} {Post : Value → Blks → Prop} {K : Env → Blks → Prop} (h : GivesX P n (args ++ cs).toArray L R Post) (hM : ((Mr ++ L).map (·.1)).Nodup) (e : M = Mr ++ L)
    (hR : ∀ w, Own W w0 M w → ToldW w R)
    (hk : ∀ v M', Post v M' → ((Mr ++ M').map (·.1)).Nodup → (∀ q ∈ M', q.1 ∉ L.map (·.1) → Fresh w0 M q.1) → setD N ρ d v fun ρ' => evPlan P N W w0 ops p ρ' (Mr ++ M') K) : callO P N W w0 (.func (.func n) #[] cs.toArray) args M d ρ ops p K := by
  unfold callO
  simp only [List.nil_append]
  exact GivesX.acallB h hM e hR hk
end

end Go.Proofs

/-
  What the functions of this part hand back: each as a plain function of its arguments. Conditions: none.
-/
namespace Go.Proofs
open Go.W8
set_option linter.unusedVariables false
set_option linter.unusedSimpArgs false
set_option linter.unusedSectionVars false
set_option maxRecDepth 8000
set_option maxHeartbeats 4000000

theorem within_c (x lo hi : Int) : Gives Try.prog 48 #[.int .i64 x, .int .i64 lo, .int .i64 hi] (.bool (decide (lo ≤ x) && decide (x ≤ hi))) := by
  refine Gives.of fun w => ?_
  refine acall_of (N := 15) (c := _) (rs := [.tmp 6]) (args := [_, _, _]) Try.func48 rfl (by decide) rfl rfl (Nat.le_of_ble_eq_true rfl) ?_
  refine Cd.rs [0, 1, 2] fun K hK => ?_
  simp (maxSteps := 2000000) (disch := first | omega | (simp only [E4, *] <;> omega) | fail) only [↓E0, E1, env0, envN, evOps, evOp, evQs, evQ, evV, setD, pureOp, ev, upd, updL, hav, delB, ↓reduceIte, Zj, Zk, Nat.reduceAdd, Nat.reduceLT, Nat.reduceEqDiff, Nat.reduceMul, Nat.reduceLeDiff, if_true, Zn, reduceCtorEq, ZA, eq_self, Int.reduceLE, Int.reduceLT, Int.reduceToNat, ne_eq, Nat.reduceSub]
  repeat refine And.intro (by omega) ?_
  intro g
  simp only [List.map_cons, List.map_nil, updL, upd, Nat.reduceEqDiff, if_true, if_false, ↓reduceIte]
  refine hK _ _ ?_; clear hK K
  refine Cd.rs [6] fun K hK => ?_
  simp (maxSteps := 2000000) (disch := first | omega | (simp only [E4, *] <;> omega) | fail) only [↓E0, E1, env0, envN, evOps, evOp, evQs, evQ, evV, setD, pureOp, ev, upd, updL, gate, binW, eqOp, binV, intOp, shOp, boolOp, hav, delB, eqL, SameI, strOp, ↓reduceIte, Zj, Zk, Nat.reduceAdd, Nat.reduceLT, Nat.reduceEqDiff, Nat.reduceMul, Nat.reduceLeDiff, if_true, Zn, reduceCtorEq, ZA, eq_self, Int.reduceLE, Int.reduceLT, Int.reduceToNat, ne_eq, Nat.reduceSub]
  refine ⟨fun h => ?_, fun h => ?_⟩
  all_goals
    repeat refine And.intro (by omega) ?_
    intro g
    simp only [List.map_cons, List.map_nil, updL, upd, Nat.reduceEqDiff, if_true, if_false, ↓reduceIte]
    refine hK _ _ ?_; clear hK K
    refine ret1 rfl ?_
    simp [upd, h]

theorem l01In_c (x lo hi : Int) : Gives Try.prog 22 #[.int .i64 x, .int .i64 lo, .int .i64 hi] (.bool (decide (lo ≤ x) && decide (x ≤ hi))) := by
  refine Gives.of fun w => ?_
  refine acall_of (N := 15) (c := _) (rs := [.tmp 6]) (args := [_, _, _]) Try.func22 rfl (by decide) rfl rfl (Nat.le_of_ble_eq_true rfl) ?_
  refine Cd.rs [0, 1, 2] fun K hK => ?_
  simp (maxSteps := 2000000) (disch := first | omega | (simp only [E4, *] <;> omega) | fail) only [↓E0, E1, env0, envN, evOps, evOp, evQs, evQ, evV, setD, pureOp, ev, upd, updL, hav, delB, ↓reduceIte, Zj, Zk, Nat.reduceAdd, Nat.reduceLT, Nat.reduceEqDiff, Nat.reduceMul, Nat.reduceLeDiff, if_true, Zn, reduceCtorEq, ZA, eq_self, Int.reduceLE, Int.reduceLT, Int.reduceToNat, ne_eq, Nat.reduceSub]
  repeat refine And.intro (by omega) ?_
  intro g
  simp only [List.map_cons, List.map_nil, updL, upd, Nat.reduceEqDiff, if_true, if_false, ↓reduceIte]
  refine hK _ _ ?_; clear hK K
  refine Cd.rs [6] fun K hK => ?_
  simp (maxSteps := 2000000) (disch := first | omega | (simp only [E4, *] <;> omega) | fail) only [↓E0, E1, env0, envN, evOps, evOp, evQs, evQ, evV, setD, pureOp, ev, upd, updL, gate, binW, eqOp, binV, intOp, shOp, boolOp, hav, delB, eqL, SameI, strOp, ↓reduceIte, Zj, Zk, Nat.reduceAdd, Nat.reduceLT, Nat.reduceEqDiff, Nat.reduceMul, Nat.reduceLeDiff, if_true, Zn, reduceCtorEq, ZA, eq_self, Int.reduceLE, Int.reduceLT, Int.reduceToNat, ne_eq, Nat.reduceSub]
  refine ⟨fun h => ?_, fun h => ?_⟩
  all_goals
    repeat refine And.intro (by omega) ?_
    intro g
    simp only [List.map_cons, List.map_nil, updL, upd, Nat.reduceEqDiff, if_true, if_false, ↓reduceIte]
    refine hK _ _ ?_; clear hK K
    refine ret1 rfl ?_
    simp [upd, h]

end Go.Proofs

/-
  What the functions of this part hand back: each as a plain function of its arguments. Conditions: none.
-/
namespace Go.Proofs
open Go.W8
set_option linter.unusedVariables false
set_option linter.unusedSimpArgs false
set_option linter.unusedSectionVars false
set_option maxRecDepth 8000
set_option maxHeartbeats 4000000
--@plain
/-- The first n entries are the numbers less than n in some order, all others 0. -/
def IsPerm (x : List Int) (n : Nat) : Prop := (∀ i, i < n → x.getD i 0 < n) ∧ (∀ i, i < n → ∀ j, j < i → x.getD j 0 ≠ x.getD i 0) ∧ ∀ i, i < 8 → n ≤ i → x.getD i 0 = 0
instance (x : List Int) (n : Nat) : Decidable (IsPerm x n) := by unfold IsPerm; infer_instance

def IsG (s : Int) (x o : List Int) : Prop := 2 ≤ s ∧ s ≤ 8 ∧ IsPerm x s.toNat ∧ IsPerm o s.toNat ∧ ∀ i, i < s.toNat → x.getD i 0 ≠ o.getD i 0
instance (s : Int) (x o : List Int) : Decidable (IsG s x o) := by unfold IsG; infer_instance

def gridB (s : Int) (x o : List Int) : Bool := decide (IsG s x o)

theorem inj_surj : ∀ (n : Nat) (f : Nat → Nat), (∀ i, i < n → f i < n) → (∀ i, i < n → ∀ j, j < n → f i = f j → i = j) → ∀ j, j < n → ∃ i, i < n ∧ f i = j
  | 0, _, _, _, _, hj => absurd hj (Nat.not_lt_zero _)
  | n + 1, f, hf, hinj, j, hj => by
    have hg : ∀ i, i < n → (if f i = n then f n else f i) < n := by
      intro i hi
      split
      · rename_i h
        have h1 := hf n (Nat.lt_succ_self n)
        have h2 : f n ≠ n := fun h3 => by
          have := hinj i (by omega) n (by omega) (by rw [h, h3])
          omega
        omega
      · rename_i h
        have := hf i (by omega)
        omega
    have hgi : ∀ i, i < n → ∀ k, k < n → (if f i = n then f n else f i) = (if f k = n then f n else f k) → i = k := by
      intro i hi k hk h
      split at h
      · rename_i h1
        split at h
        · rename_i h2
          exact hinj i (by omega) k (by omega) (by rw [h1, h2])
        · have := hinj n (by omega) k (by omega) h
          omega
      · rename_i h1
        split at h
        · have := hinj i (by omega) n (by omega) h
          omega
        · exact hinj i (by omega) k (by omega) h
    have ih := inj_surj n (fun i => if f i = n then f n else f i) hg hgi
    by_cases hjn : f n = j
    · exact ⟨n, by omega, hjn⟩
    · by_cases hj2 : j = n
      · subst hj2
        have h1 := hf j (by omega)
        obtain ⟨i, hi, hfi⟩ := ih (f j) (by omega)
        split at hfi
        · rename_i h; exact ⟨i, by omega, h⟩
        · have := hinj i (by omega) j (by omega) hfi
          omega
      · obtain ⟨i, hi, hfi⟩ := ih j (by omega)
        split at hfi
        · exact absurd hfi hjn
        · exact ⟨i, by omega, hfi⟩

theorem surj_inj (n : Nat) (f : Nat → Nat) (hf : ∀ i, i < n → f i < n) (hs : ∀ j, j < n → ∃ i, i < n ∧ f i = j) : ∀ i, i < n → ∀ j, j < n → f i = f j → i = j := by
  have hc : ∃ s : Nat → Nat, ∀ j, j < n → s j < n ∧ f (s j) = j := by
    refine ⟨fun j => if h : j < n then Classical.choose (hs j h) else 0, fun j hj => ?_⟩
    simp only [hj, dif_pos]
    exact Classical.choose_spec (hs j hj)
  obtain ⟨s, hs'⟩ := hc
  have hsur := inj_surj n s (fun j hj => (hs' j hj).1) (fun i hi j hj h => by rw [← (hs' i hi).2, ← (hs' j hj).2, h])
  intro i hi j hj h
  obtain ⟨a, ha, rfl⟩ := hsur i hi
  obtain ⟨b, hb, rfl⟩ := hsur j hj
  rw [(hs' a ha).2, (hs' b hb).2] at h
  rw [h]

/-- The bits of the numbers f 0 .. f (k - 1). -/
def mask (f : Nat → Nat) : Nat → Nat
  | 0 => 0
  | k + 1 => mask f k ||| 2 ^ f k

theorem mask_bit (f : Nat → Nat) (j : Nat) : ∀ k, (mask f k).testBit j = true ↔ ∃ i, i < k ∧ f i = j
  | 0 => by simp [mask]
  | k + 1 => by
    simp only [mask, Nat.testBit_or, Bool.or_eq_true, mask_bit f j k, Nat.testBit_two_pow, decide_eq_true_eq]
    constructor
    · rintro (⟨i, hi, h⟩ | h)
      · exact ⟨i, by omega, h⟩
      · exact ⟨k, by omega, h⟩
    · rintro ⟨i, hi, h⟩
      rcases Nat.lt_succ_iff_lt_or_eq.1 hi with h1 | rfl
      · exact .inl ⟨i, h1, h⟩
      · exact .inr h

theorem mask_lt {f : Nat → Nat} {n : Nat} : ∀ {k : Nat}, (∀ i, i < k → f i < n) → mask f k < 2 ^ n
  | 0, _ => Nat.two_pow_pos n
  | k + 1, h => by
    unfold mask
    exact Nat.or_lt_two_pow (mask_lt fun i hi => h i (by omega)) (Nat.pow_lt_pow_right (by omega) (h k (by omega)))

theorem mask_full {f : Nat → Nat} {n : Nat} (hf : ∀ i, i < n → f i < n) : mask f n = 2 ^ n - 1 ↔ ∀ i, i < n → ∀ j, j < i → f j ≠ f i := by
  constructor
  · intro h i hi j hj he
    have := surj_inj n f hf (fun k hk => by
      have hb : (mask f n).testBit k = true := by rw [h, Nat.testBit_two_pow_sub_one]; simpa using hk
      exact (mask_bit f k n).1 hb) j (by omega) i hi he
    omega
  · intro h
    have hsur := inj_surj n f hf (fun i hi j hj he => by
      rcases Nat.lt_trichotomy i j with h1 | h1 | h1
      · exact absurd he (h j hj i h1)
      · exact h1
      · exact absurd he.symm (h i hi j h1))
    apply Nat.eq_of_testBit_eq
    intro k
    rw [Nat.testBit_two_pow_sub_one]
    by_cases hk : k < n
    · rw [decide_eq_true hk]
      exact (mask_bit f k n).2 (hsur k hk)
    · rw [decide_eq_false hk]
      cases hb : (mask f n).testBit k with
      | false => rfl
      | true =>
        obtain ⟨i, hi, rfl⟩ := (mask_bit f k n).1 hb
        exact absurd (hf i hi) hk

theorem or_i64 {a b : Nat} (ha : a < 4294967296) (hb : b < 4294967296) : IntKind.wrap .i64 ((BitVec.ofInt (IntKind.i64.bits) (a : Int) ||| BitVec.ofInt (IntKind.i64.bits) (b : Int)).toNat : Int) = ((a ||| b : Nat) : Int) := by
  have e : IntKind.i64.bits = 64 := rfl
  have h1 : a ||| b < 2 ^ 32 := Nat.or_lt_two_pow (by simpa using ha) (by simpa using hb)
  rw [e, BitVec.ofInt_natCast, BitVec.ofInt_natCast, BitVec.toNat_or, BitVec.toNat_ofNat, BitVec.toNat_ofNat, Nat.mod_eq_of_lt (by omega), Nat.mod_eq_of_lt (by omega)]
  rw [wrap_i64 (by omega) (by omega)]

theorem shl_i64 {j : Nat} (hj : j ≤ 32) : IntKind.wrap .i64 (1 * 2 ^ (min j (IntKind.i64.bits))) = ((2 ^ j : Nat) : Int) := by
  have e : IntKind.i64.bits = 64 := rfl
  have h1 : min j 64 = j := by omega
  have h2 : (2 : Nat) ^ j ≤ 2 ^ 32 := Nat.pow_le_pow_right (by omega) hj
  rw [e, h1, Int.one_mul]
  have h3 : ((2 : Int) ^ j) = ((2 ^ j : Nat) : Int) := by simp
  rw [h3]
  generalize 2 ^ j = m at h2
  rw [wrap_i64 (by omega) (by omega)]

end Go.Proofs

/-
  What the functions of this part hand back: each as a plain function of its arguments. Conditions: none.
-/
namespace Go.Proofs
open Go.W8
set_option linter.unusedVariables false
set_option linter.unusedSimpArgs false
set_option linter.unusedSectionVars false
set_option maxRecDepth 8000
set_option maxHeartbeats 4000000
--@plain
section
variable {H : Type} {enc : TypeId × Value → H} {P : Program} {w : World} {base : Nat} {spare : Nat → Bool} {held : Bool}

theorem trod_int_inv {e : TypeId} {k : IntKind} (hu : P.underlying e = some (.int k)) {fuel : Nat} {cs : List Value} {x : DataW H × List MemPlace} (h : DataW.trod enc P w base spare held fuel e cs = some x) :
    ∃ n, cs = [.int k n] ∧ (Lit.int k n).wf = true ∧ x = (.lit (.int k n), []) := by
  cases fuel with
  | zero => simp [DataW.trod] at h
  | succ fuel =>
    unfold DataW.trod at h
    rw [hu] at h
    split at h <;> simp_all only [Option.some.injEq, TypeDesc.int.injEq, reduceCtorEq]
    rename_i k1 k' n he
    split at h
    · rename_i hh
      obtain ⟨hk, hw⟩ := hh
      simp only [Option.some.injEq] at h
      refine ⟨n, ?_, ?_, ?_⟩
      · rw [hk]
      · exact hw
      · exact h.symm
    · cases h

theorem trod_int_mk {e : TypeId} {k : IntKind} (hu : P.underlying e = some (.int k)) {fuel : Nat} {n : Int} (hw : (Lit.int k n).wf = true) : DataW.trod enc P w base spare held (fuel + 1) e [.int k n] = some (.lit (.int k n), []) := by
  unfold DataW.trod
  rw [hu]
  simp [hw]

def toInt : Value → Int
  | .int _ n => n
  | _ => 0

theorem take_one {cs : List Value} {j : Nat} {v : Value} (h : (cs.drop j).take 1 = [v]) : cs[j]? = some v := by
  have : ((cs.drop j).take 1)[0]? = some v := by rw [h]; rfl
  simpa [List.getElem?_take, List.getElem?_drop] using this

theorem one_take {cs : List Value} {j : Nat} {v : Value} (h : cs[j]? = some v) : (cs.drop j).take 1 = [v] := by
  apply List.ext_getElem?
  intro i
  cases i with
  | zero => simpa [List.getElem?_take, List.getElem?_drop] using h
  | succ i => simp [List.getElem?_take]

theorem trod_ints_inv {t e : TypeId} {n : Nat} {k : IntKind} (ht : P.underlying t = some (.array n e)) (hu : P.underlying e = some (.int k)) (hc : P.cellsOf e = 1) (hn : P.cellsOf t = n) {fuel : Nat} {cs : List Value} {x : DataW H × List MemPlace}
    (h : DataW.trod enc P w base spare held fuel t cs = some x) :
    ∃ l : List Int, cs = ints k l ∧ l.length = n ∧ (∀ a ∈ l, (Lit.int k a).wf = true) ∧ x = (.agg (l.map fun a => .lit (.int k a)), []) := by
  cases fuel with
  | zero => simp [DataW.trod] at h
  | succ fuel =>
    unfold DataW.trod at h
    rw [ht] at h
    simp only [hn, hc, Nat.mul_one] at h
    split at h
    · rename_i hl
      simp only [Option.map_eq_some_iff] at h
      obtain ⟨r, hr, rfl⟩ := h
      obtain ⟨h1, h2⟩ := mapM_get hr
      rw [List.length_range] at h1
      have key : ∀ j, j < n → ∃ a, cs[j]? = some (.int k a) ∧ (Lit.int k a).wf = true ∧ r[j]? = some (.lit (.int k a), []) := by
        intro j hj
        have hrj : r[j]? = some r[j] := List.getElem?_eq_getElem (by omega)
        obtain ⟨y, hy, hf⟩ := h2 j _ hrj
        rw [List.getElem?_range hj] at hy
        simp only [Option.some.injEq] at hy
        subst hy
        obtain ⟨a, ha, hw, hx⟩ := trod_int_inv hu hf
        exact ⟨a, take_one ha, hw, by rw [hrj, hx]⟩
      refine ⟨cs.map toInt, ?_, by rw [List.length_map]; exact hl, ?_, ?_⟩
      · apply List.ext_getElem?
        intro j
        unfold ints
        rw [List.map_map, List.getElem?_map]
        by_cases hj : j < n
        · obtain ⟨a, ha, _, _⟩ := key j hj
          rw [ha]; rfl
        · rw [List.getElem?_eq_none (by omega)]; rfl
      · intro a ha
        obtain ⟨v, hv, rfl⟩ := List.mem_map.1 ha
        obtain ⟨j, hj⟩ := List.getElem?_of_mem hv
        have hjn : j < n := by
          rcases Nat.lt_or_ge j n with h | h
          · exact h
          · rw [List.getElem?_eq_none (by omega)] at hj; cases hj
        obtain ⟨a, ha, hw, _⟩ := key j hjn
        rw [ha] at hj
        simp only [Option.some.injEq] at hj
        rw [← hj]
        exact hw
      · have e1 : r.map (·.1) = (cs.map toInt).map fun a => (DataW.lit (.int k a) : DataW H) := by
          apply List.ext_getElem?
          intro j
          rw [List.map_map, List.getElem?_map, List.getElem?_map]
          by_cases hj : j < n
          · obtain ⟨a, ha, _, hr⟩ := key j hj
            rw [ha, hr]; rfl
          · rw [List.getElem?_eq_none (by omega), List.getElem?_eq_none (by omega)]; rfl
        have e2 : r.flatMap (·.2) = [] := by
          rw [List.flatMap_eq_nil_iff]
          intro y hy
          obtain ⟨j, hj⟩ := List.getElem?_of_mem hy
          have hjn : j < n := by
            rcases Nat.lt_or_ge j n with h | h
            · exact h
            · rw [List.getElem?_eq_none (by omega)] at hj; cases hj
          obtain ⟨a, _, _, hr⟩ := key j hjn
          rw [hr] at hj
          simp only [Option.some.injEq] at hj
          rw [← hj]
        rw [e1, e2]
    · cases h

theorem mapM_some {α β : Type} {f : α → Option β} {g : α → β} : ∀ {l : List α}, (∀ x ∈ l, f x = some (g x)) → l.mapM f = some (l.map g)
  | [], _ => rfl
  | a :: l, h => by
    rw [List.mapM_cons, h a List.mem_cons_self, mapM_some fun x hx => h x (List.mem_cons_of_mem _ hx)]
    rfl

theorem trod_ints_mk {t e : TypeId} {n : Nat} {k : IntKind} (ht : P.underlying t = some (.array n e)) (hu : P.underlying e = some (.int k)) (hc : P.cellsOf e = 1) (hn : P.cellsOf t = n) {fuel : Nat} {l : List Int} (hl : l.length = n)
    (hw : ∀ a ∈ l, (Lit.int k a).wf = true) : DataW.trod enc P w base spare held (fuel + 2) t (ints k l) = some (.agg (l.map fun a => .lit (.int k a)), []) := by
  unfold DataW.trod
  rw [ht]
  simp only [hn, hc, Nat.mul_one, ints_length, hl, if_true]
  have hm : (List.range n).mapM (fun i => DataW.trod enc P w base spare held (fuel + 1) e (((ints k l).drop i).take 1)) = some ((List.range n).map fun i => ((DataW.lit (.int k (l.getD i 0)) : DataW H), ([] : List MemPlace))) := by
    refine mapM_some fun i hi => ?_
    have hin : i < l.length := by rw [hl]; exact List.mem_range.1 hi
    rw [one_take (ints_get hin)]
    refine trod_int_mk hu (hw _ ?_)
    rw [List.getD_eq_getElem?_getD, List.getElem?_eq_getElem hin]
    exact List.getElem_mem hin
  rw [hm]
  simp only [Option.map_some, Option.some.injEq, Prod.mk.injEq]
  constructor
  · congr 1
    apply List.ext_getElem?
    intro j
    rw [List.map_map, List.getElem?_map, List.getElem?_map]
    by_cases hj : j < n
    · rw [List.getElem?_range hj, List.getElem?_eq_getElem (by omega)]
      simp [List.getD_eq_getElem?_getD, List.getElem?_eq_getElem (show j < l.length by omega)]
    · rw [List.getElem?_eq_none (by simpa using hj), List.getElem?_eq_none (by omega)]; rfl
  · rw [List.flatMap_eq_nil_iff]
    intro y hy
    obtain ⟨i, _, rfl⟩ := List.mem_map.1 hy
    rfl

/-- A grid's type. -/
structure GridT (P : Program) (t tn ta te : TypeId) (f0 f1 f2 : Field) : Prop where
  st : P.underlying t = some (.struct #[f0, f1, f2])
  y0 : f0.type = tn
  y1 : f1.type = ta
  y2 : f2.type = ta
  o0 : f0.offset = 0
  o1 : f1.offset = 1
  o2 : f2.offset = 9
  ct : P.cellsOf t = 17
  un : P.underlying tn = some (.int .i64)
  cn : P.cellsOf tn = 1
  ua : P.underlying ta = some (.array 8 te)
  ca : P.cellsOf ta = 8
  ue : P.underlying te = some (.int .u8)
  ce : P.cellsOf te = 1

def gridD (s : Int) (x o : List Int) : DataW H := .agg [.lit (.int .i64 s), .agg (x.map fun a => .lit (.int .u8 a)), .agg (o.map fun a => .lit (.int .u8 a))]

/-- A row of bytes. -/
structure Bytes8 (x : List Int) : Prop where
  len : x.length = 8
  lo : ∀ a ∈ x, 0 ≤ a
  hi : ∀ a ∈ x, a < 256

theorem wf_u8 {a : Int} : (Lit.int .u8 a).wf = true ↔ 0 ≤ a ∧ a < 256 := by
  simp [Lit.wf, IntKind.min, IntKind.max, IntKind.signed, IntKind.bits]; omega
theorem wf_i64 {a : Int} : (Lit.int .i64 a).wf = true ↔ -9223372036854775808 ≤ a ∧ a < 9223372036854775808 := by
  simp [Lit.wf, IntKind.min, IntKind.max, IntKind.signed, IntKind.bits]; omega

theorem open_grid {t tn ta te : TypeId} {f0 f1 f2 : Field} (G : GridT P t tn ta te f0 f1 f2) {r : Reach} {b0 : Nat} {v : Value} {d : DataW H} {p : List MemPlace} (hv : Value.okWide P w r b0 t v) (h : DataW.Trod enc P w base spare held t v d p) :
    ∃ s x o, v = .agg (gc s x o).toArray ∧ d = gridD s x o ∧ p = [] ∧ (-9223372036854775808 ≤ s ∧ s < 9223372036854775808) ∧ Bytes8 x ∧ Bytes8 o := by
  obtain ⟨fuel, hf⟩ := h
  unfold Value.okWide at hv
  rw [G.st] at hv
  obtain ⟨cs, rfl, hsz, _⟩ := hv
  cases fuel with
  | zero => simp [DataW.trod] at hf
  | succ fuel =>
    unfold DataW.trod at hf
    rw [G.st] at hf
    simp only [Value.cells, G.ct] at hf
    split at hf
    · rename_i hl
      simp only [Option.map_eq_some_iff] at hf
      obtain ⟨xs, hm, hxs⟩ := hf
      simp only [List.mapM_cons, List.mapM_nil, G.y0, G.y1, G.y2, G.o0, G.o1, G.o2, G.cn, G.ca, List.drop_zero, Option.bind_eq_bind, Option.pure_def, Option.bind_eq_some_iff, Option.some.injEq] at hm
      obtain ⟨a0, h0, r0, ⟨a1, h1, r1, ⟨a2, h2, r2, rfl, rfl⟩, rfl⟩, rfl⟩ := hm
      obtain ⟨s, hs, hws, rfl⟩ := trod_int_inv G.un h0
      obtain ⟨x, hx, hxl, hxw, rfl⟩ := trod_ints_inv G.ua G.ue G.ce G.ca h1
      obtain ⟨o, ho, hol, how, rfl⟩ := trod_ints_inv G.ua G.ue G.ce G.ca h2
      refine ⟨s, x, o, ?_, ?_, ?_, wf_i64.1 hws, ⟨hxl, fun a ha => (wf_u8.1 (hxw a ha)).1, fun a ha => (wf_u8.1 (hxw a ha)).2⟩, ⟨hol, fun a ha => (wf_u8.1 (how a ha)).1, fun a ha => (wf_u8.1 (how a ha)).2⟩⟩
      · congr 1
        apply Array.toList_inj.1
        show cs.toList = gc s x o
        unfold gc
        rw [← hx, ← ho]
        have e9 : cs.toList = cs.toList.take 1 ++ ((cs.toList.drop 1).take 8 ++ (cs.toList.drop 9).take 8) := by
          have hcl : (cs.toList.drop 9).length = 8 := by rw [List.length_drop]; omega
          have e : (cs.toList.drop 9).take 8 = cs.toList.drop 9 := List.take_of_length_le (by omega)
          rw [e]
          have e' : (cs.toList.drop 1).take 8 ++ cs.toList.drop 9 = cs.toList.drop 1 := by
            have : cs.toList.drop 9 = (cs.toList.drop 1).drop 8 := by rw [List.drop_drop]
            rw [this, List.take_append_drop]
          rw [e', List.take_append_drop]
        rw [hs] at e9
        exact e9
      · simp only [Prod.mk.injEq] at hxs
        exact hxs.1.symm
      · simp only [Prod.mk.injEq] at hxs
        exact hxs.2.symm
    · cases hf

theorem shut_grid {t tn ta te : TypeId} {f0 f1 f2 : Field} (G : GridT P t tn ta te f0 f1 f2) {s : Int} {x o : List Int} (hs : -9223372036854775808 ≤ s ∧ s < 9223372036854775808) (hx : Bytes8 x) (ho : Bytes8 o) :
    DataW.Trod enc P w base spare held t (.agg (gc s x o).toArray) (gridD s x o) [] := by
  refine ⟨3, ?_⟩
  unfold DataW.trod
  rw [G.st]
  simp only [Value.cells, G.ct, gc_length, hx.len, ho.len]
  have e0 : (gc s x o).take 1 = [.int .i64 s] := rfl
  have h0 : DataW.trod enc P w base spare held 2 tn ((gc s x o).take 1) = some (.lit (.int .i64 s), []) := by rw [e0]; exact trod_int_mk G.un (wf_i64.2 hs)
  have h1 : DataW.trod enc P w base spare held 2 ta (((gc s x o).drop 1).take 8) = some (.agg (x.map fun a => .lit (.int .u8 a)), []) := by
    rw [gc_take_x hx.len]; exact trod_ints_mk G.ua G.ue G.ce G.ca hx.len fun a ha => wf_u8.2 ⟨hx.lo a ha, hx.hi a ha⟩
  have h2 : DataW.trod enc P w base spare held 2 ta (((gc s x o).drop 9).take 8) = some (.agg (o.map fun a => .lit (.int .u8 a)), []) := by
    rw [gc_take_o hx.len ho.len]; exact trod_ints_mk G.ua G.ue G.ce G.ca ho.len fun a ha => wf_u8.2 ⟨ho.lo a ha, ho.hi a ha⟩
  simp only [G.y0, G.y1, G.y2, G.o0, G.o1, G.o2, G.cn, G.ca, List.drop_zero, List.mapM_cons, List.mapM_nil, h0, h1, h2, Option.bind_eq_bind, Option.bind_some, Option.pure_def, Option.map_some, Nat.reduceAdd, if_true]
  rfl

end

end Go.Proofs

/-
  What the functions of this part hand back: each as a plain function of its arguments. Conditions: none.
-/
namespace Go.Proofs
open Go.W8
set_option linter.unusedVariables false
set_option linter.unusedSimpArgs false
set_option linter.unusedSectionVars false
set_option maxRecDepth 8000
set_option maxHeartbeats 4000000
theorem bytes_get {x : List Int} (hx : Bytes8 x) {i : Nat} (hi : i < 8) : 0 ≤ x.getD i 0 ∧ x.getD i 0 < 256 := by
  have hl := hx.len
  rw [List.getD_eq_getElem?_getD, List.getElem?_eq_getElem (by omega), Option.getD_some]
  exact ⟨hx.lo _ (List.getElem_mem (by omega)), hx.hi _ (List.getElem_mem (by omega))⟩

/-- The numbers that have been met. -/
def metL (x : List Int) (n k : Nat) : List Bool := (List.range 8).map fun (j : Nat) => decide (∃ i, i < k ∧ i < n ∧ x.getD i 0 = (j : Int))
theorem metL_len (x : List Int) (n k : Nat) : (metL x n k).length = 8 := by simp [metL]
theorem metL_get (x : List Int) (n k : Nat) {j : Nat} (hj : j < 8) : (metL x n k).getD j false = decide (∃ i, i < k ∧ i < n ∧ x.getD i 0 = (j : Int)) := by
  unfold metL
  rw [List.getD_eq_getElem?_getD, List.getElem?_map, List.getElem?_range hj]
  rfl
theorem metL_zero (x : List Int) (n : Nat) : metL x n 0 = List.replicate 8 false := by
  unfold metL
  simp only [Nat.not_lt_zero, false_and, exists_false, decide_false]
  rfl
theorem metL_over {x : List Int} {n k : Nat} (h : n ≤ k) : metL x n (k + 1) = metL x n k := by
  unfold metL
  apply List.map_congr_left
  intro j _
  congr 1
  apply propext
  constructor
  · rintro ⟨i, _, h2, h3⟩; exact ⟨i, by omega, h2, h3⟩
  · rintro ⟨i, h1, h2, h3⟩; exact ⟨i, by omega, h2, h3⟩
theorem metL_set {x : List Int} {n k : Nat} {j : Nat} (h : k < n) (hj : x.getD k 0 = (j : Int)) : (metL x n k).set j true = metL x n (k + 1) := by
  apply List.ext_getElem?
  intro i
  by_cases hi : i < 8
  · by_cases e : j = i
    · subst e
      rw [List.getElem?_set_self (by rw [metL_len]; exact hi)]
      unfold metL
      rw [List.getElem?_map, List.getElem?_range hi]
      simp only [Option.map_some, Option.some.injEq]
      exact (decide_eq_true ⟨k, by omega, h, hj⟩).symm
    · rw [List.getElem?_set_ne e]
      unfold metL
      rw [List.getElem?_map, List.getElem?_map, List.getElem?_range hi]
      simp only [Option.map_some, Option.some.injEq]
      congr 1
      apply propext
      constructor
      · rintro ⟨a, h1, h2, h3⟩; exact ⟨a, by omega, h2, h3⟩
      · rintro ⟨a, h1, h2, h3⟩
        refine ⟨a, ?_, h2, h3⟩
        rcases Nat.lt_succ_iff_lt_or_eq.1 h1 with h4 | rfl
        · exact h4
        · omega
  · rw [List.getElem?_eq_none (by rw [List.length_set, metL_len]; omega), List.getElem?_eq_none (by rw [metL_len]; omega)]

/-- All is well with the entries ahead of k. -/
def PermTo (x : List Int) (n k : Nat) : Prop := ∀ i, i < k → (i < n → x.getD i 0 < n ∧ ∀ j, j < i → x.getD j 0 ≠ x.getD i 0) ∧ (n ≤ i → x.getD i 0 = 0)

theorem perm_iff {x : List Int} {n : Nat} (hn : n ≤ 8) : IsPerm x n ↔ PermTo x n 8 := by
  constructor
  · rintro ⟨h1, h2, h3⟩ i hi
    exact ⟨fun h => ⟨h1 i h, h2 i h⟩, fun h => h3 i hi h⟩
  · intro h
    exact ⟨fun i hi => ((h i (by omega)).1 hi).1, fun i hi => ((h i (by omega)).1 hi).2, fun i hi hn => (h i hi).2 hn⟩

theorem permTo_not {x : List Int} {n k : Nat} (hn : n ≤ 8) (hk : k < 8) (h : ¬ ((k < n → x.getD k 0 < n ∧ ∀ j, j < k → x.getD j 0 ≠ x.getD k 0) ∧ (n ≤ k → x.getD k 0 = 0))) : decide (IsPerm x n) = false :=
  decide_eq_false fun hp => h ((perm_iff hn).1 hp k hk)

theorem permTo_succ {x : List Int} {n k : Nat} (hp : PermTo x n k) (h : (k < n → x.getD k 0 < n ∧ ∀ j, j < k → x.getD j 0 ≠ x.getD k 0) ∧ (n ≤ k → x.getD k 0 = 0)) : PermTo x n (k + 1) := by
  intro i hi
  rcases Nat.lt_succ_iff_lt_or_eq.1 hi with h1 | rfl
  · exact hp i h1
  · exact h

theorem l01Perm_c (x : List Int) (n : Nat) (hx : Bytes8 x) (hn : n ≤ 8) : Gives Try.prog 42 #[.agg (ints .u8 x).toArray, .int .i64 (n : Int)] (.bool (decide (IsPerm x n))) := by
  have hl := hx.len
  refine Gives.of fun w => ?_
  refine acall_of (N := 36) (c := _) (rs := [.tmp 4]) (args := [_, _]) Try.func42 rfl (by decide) rfl rfl (Nat.le_of_ble_eq_true rfl) ?_
  refine Cd.rs [1, 2] fun K hK => ?_
  simp (maxSteps := 2000000) (disch := first | omega | (simp only [E4, *] <;> omega) | fail) only [↓E0, E1, env0, envN, evOps, evOp, evQs, evQ, evV, setD, pureOp, ev, upd, updL, Value.cells, hav, delB, ↓reduceIte, Zj, Zk, Nat.reduceAdd, Nat.reduceLT, Nat.reduceEqDiff, Nat.reduceMul, Nat.reduceLeDiff, if_true, Zn, reduceCtorEq, ZA, eq_self, Int.reduceLE, Int.reduceLT, Int.reduceToNat, ne_eq, Nat.reduceSub]
  intro b1 hb1
  repeat refine And.intro (by omega) ?_
  intro g
  simp only [List.map_cons, List.map_nil, updL, upd, Nat.reduceEqDiff, if_true, if_false, ↓reduceIte]
  refine hK _ _ ?_; clear hK K
  refine Cd.rs [1, 2, 5] fun K hK => ?_
  simp (maxSteps := 2000000) (disch := first | omega | (simp only [E4, *] <;> omega) | fail) only [↓E0, E1, evP, env0, envN, evOps, evOp, evQs, evQ, evV, setD, pureOp, ev, upd, updL, cellAt, cellsAt, findB, setB, fillL, buildV, Value.cells, hav, delB, ↓reduceIte, Zj, Zk, Nat.reduceAdd, Nat.reduceLT, Nat.reduceEqDiff, Nat.reduceMul, Nat.reduceLeDiff, if_true, Zn, reduceCtorEq, ZA, eq_self, Int.reduceLE, Int.reduceLT, Int.reduceToNat, ne_eq, Nat.reduceSub, Tbld69, Tst69, Tzero69]
  intro b2 hb2
  have n21 := hb2.ne
  repeat refine And.intro (by omega) ?_
  intro g
  simp only [List.map_cons, List.map_nil, updL, upd, Nat.reduceEqDiff, if_true, if_false, ↓reduceIte]
  refine hK _ _ ?_; clear hK K
  refine Cd.seq ?_
  refine Cd.rs [1, 2, 5, 6] fun K hK => ?_
  simp (maxSteps := 2000000) (disch := first | omega | (simp only [E4, *] <;> omega) | fail) only [↓E0, E1, env0, envN, evOps, evOp, evQs, evQ, evV, setD, pureOp, ev, upd, updL, hav, delB, ↓reduceIte, Zj, Zk, Nat.reduceAdd, Nat.reduceLT, Nat.reduceEqDiff, Nat.reduceMul, Nat.reduceLeDiff, if_true, Zn, reduceCtorEq, ZA, eq_self, Int.reduceLE, Int.reduceLT, Int.reduceToNat, ne_eq, Nat.reduceSub]
  repeat refine And.intro (by omega) ?_
  intro g
  simp only [List.map_cons, List.map_nil, updL, upd, Nat.reduceEqDiff, if_true, if_false, ↓reduceIte]
  refine hK _ _ ?_; clear hK K
  refine Cd.block ?_
  rw [← metL_zero x n]
  refine Cd.loop (fun m ρ M => ∃ g k, k + m = 8 ∧ PermTo x n k ∧ ρ = updL [(1, .int .i64 (n : Int)), (2, .pointer (some ⟨b1, 0, none⟩)), (5, .pointer (some ⟨b2, 0, none⟩)), (6, .int .i64 (k : Int))] g ∧
    M = [(b2, bools (metL x n k)), (b1, ints .u8 x)]) 8 ⟨_, 0, Nat.zero_add _, (fun _ h => absurd h (Nat.not_lt_zero _)), rfl, rfl⟩ ?_
  rintro m ρ M ⟨g, k, hk, hp, rfl, rfl⟩
  refine Cd.seq ?_
  refine Cd.rs [1, 2, 5, 6, 9] fun K hK => ?_
  simp (maxSteps := 2000000) (disch := first | omega | (simp only [E4, *] <;> omega) | fail) only [↓E0, E1, env0, envN, evOps, evOp, evQs, evQ, evV, setD, pureOp, ev, upd, updL, binW, eqOp, binV, intOp, shOp, boolOp, hav, delB, eqL, SameI, strOp, ↓reduceIte, Zj, Zk, Nat.reduceAdd, Nat.reduceLT, Nat.reduceEqDiff, Nat.reduceMul, Nat.reduceLeDiff, if_true, Zn, reduceCtorEq, ZA, eq_self, Int.reduceLE, Int.reduceLT, Int.reduceToNat, ne_eq, Nat.reduceSub]
  repeat refine And.intro (by omega) ?_
  intro g
  simp only [List.map_cons, List.map_nil, updL, upd, Nat.reduceEqDiff, if_true, if_false, ↓reduceIte]
  refine hK _ _ ?_; clear hK K
  refine Cd.condd rfl (fun h1 => ?_) (fun h1 => ?_)
  · have hb := bytes_get hx (i := k) (by omega)
    refine Cd.skip ?_
    refine thenN ?_
    refine Cd.seq ?_
    refine Cd.block ?_
    refine Cd.seq ?_
    refine Cd.rs [1, 2, 5, 6, 14] fun K hK => ?_
    simp (maxSteps := 2000000) (disch := first | omega | (simp only [E4, *] <;> omega) | fail) only [↓E0, E1, env0, envN, evOps, evOp, evQs, evQ, evV, setD, pureOp, ev, upd, updL, binW, eqOp, binV, intOp, shOp, boolOp, hav, delB, eqL, SameI, strOp, ↓reduceIte, Zj, Zk, Nat.reduceAdd, Nat.reduceLT, Nat.reduceEqDiff, Nat.reduceMul, Nat.reduceLeDiff, if_true, Zn, reduceCtorEq, ZA, eq_self, Int.reduceLE, Int.reduceLT, Int.reduceToNat, ne_eq, Nat.reduceSub]
    repeat refine And.intro (by omega) ?_
    intro g
    simp only [List.map_cons, List.map_nil, updL, upd, Nat.reduceEqDiff, if_true, if_false, ↓reduceIte]
    refine hK _ _ ?_; clear hK K
    refine Cd.condd rfl (fun h2 => ?_) (fun h2 => ?_)
    · refine Cd.seq ?_
      refine Cd.rs [1, 2, 5, 6, 18] fun K hK => ?_
      simp (maxSteps := 2000000) (disch := first | omega | (simp only [E4, hl, *] <;> omega) | fail) only [↓E0, E1, env0, envN, evOps, evOp, evQs, evQ, evV, setD, pureOp, ev, upd, updL, binW, eqOp, binV, intOp, shOp, boolOp, indexAddrV, cellAt, cellsAt, findB, hav, delB, eqL, SameI, strOp, ↓reduceIte, Zj, Zk, Nat.reduceAdd, Nat.reduceLT, Nat.reduceEqDiff, Nat.reduceMul, Nat.reduceLeDiff, if_true, Zn, reduceCtorEq, ZA, eq_self, Int.reduceLE, Int.reduceLT, Int.reduceToNat, ne_eq, Nat.reduceSub, Tarr22, Tld5, n21, hl]
      repeat refine And.intro (by omega) ?_
      repeat refine And.intro (by omega) ?_
      intro g
      simp only [List.map_cons, List.map_nil, updL, upd, Nat.reduceEqDiff, if_true, if_false, ↓reduceIte]
      refine hK _ _ ?_; clear hK K
      refine Cd.cond rfl (fun h3 => ?_) (fun h3 => ?_)
      · refine Cd.rs [4] fun K hK => ?_
        simp (maxSteps := 2000000) (disch := first | omega | (simp only [E4, *] <;> omega) | fail) only [↓E0, E1, env0, envN, evOps, evOp, evQs, evQ, evV, setD, pureOp, ev, upd, updL, hav, delB, ↓reduceIte, Zj, Zk, Nat.reduceAdd, Nat.reduceLT, Nat.reduceEqDiff, Nat.reduceMul, Nat.reduceLeDiff, if_true, Zn, reduceCtorEq, ZA, eq_self, Int.reduceLE, Int.reduceLT, Int.reduceToNat, ne_eq, Nat.reduceSub]
        repeat refine And.intro (by omega) ?_
        intro g
        simp only [List.map_cons, List.map_nil, updL, upd, Nat.reduceEqDiff, if_true, if_false, ↓reduceIte]
        refine hK _ _ ?_; clear hK K
        refine Cd.ret (thenR (thenR (inBR (thenR (roundR (inBR (thenR ?_)))))))
        simp (maxSteps := 2000000) (disch := first | omega | (simp only [E4, *] <;> omega) | fail) only [↓E0, E1, evP, evPlan, env0, envN, evOps, evOp, evQs, evQ, evV, setD, pureOp, ev, upd, updL, gate, binW, eqOp, binV, intOp, shOp, boolOp, unV, convV, nilV, fieldAddrV, indexAddrV, extractV, cellAt, cellsAt, findB, setB, fillL, buildV, Value.cells, lenV, minV, maxV, hav, sliceV, loV, hiV, bslQ, mksQ, appQ, partsOk, partsCells, delB, eqL, SameI, strOp, apzQ, cvtQ, capV, ↓reduceIte, Zj, Zk, Nat.reduceAdd, Nat.reduceLT, Nat.reduceEqDiff, Nat.reduceMul, Nat.reduceLeDiff, if_true, Zn, reduceCtorEq, ZA, eq_self, Int.reduceLE, Int.reduceLT, Int.reduceToNat, ne_eq, Nat.reduceSub]
        exact congrArg Value.bool (permTo_not (k := k) hn (by omega) fun h => by have := h.2 (by omega); rw [this] at h3; simp at h3).symm
      · refine Cd.skip ?_
        refine thenN ?_
        refine Cd.exit (thenX (inBX ?_))
        refine thenN ?_
        refine Cd.rr [1, 2, 5, 6] fun K hK => ?_
        simp (maxSteps := 2000000) (disch := first | omega | (simp only [E4, *] <;> omega) | fail) only [↓E0, E1, env0, envN, evOps, evOp, evQs, evQ, evV, setD, pureOp, ev, upd, updL, binW, eqOp, binV, intOp, shOp, boolOp, hav, delB, eqL, SameI, strOp, ↓reduceIte, Zj, Zk, Nat.reduceAdd, Nat.reduceLT, Nat.reduceEqDiff, Nat.reduceMul, Nat.reduceLeDiff, if_true, Zn, reduceCtorEq, ZA, eq_self, Int.reduceLE, Int.reduceLT, Int.reduceToNat, ne_eq, Nat.reduceSub]
        repeat refine And.intro (by omega) ?_
        intro g
        simp only [List.map_cons, List.map_nil, updL, upd, Nat.reduceEqDiff, if_true, if_false, ↓reduceIte]
        refine hK _ _ ?_; clear hK K
        exact roundN (m := m - 1) (by omega) ⟨_, k + 1, by omega, permTo_succ hp ⟨fun h => absurd h (by omega), fun _ => by simpa using h3⟩, rfl, by rw [metL_over (by omega)]⟩
    · refine Cd.skip ?_
      refine thenN ?_
      refine Cd.seq ?_
      refine Cd.rs [1, 2, 5, 6, 31] fun K hK => ?_
      simp (maxSteps := 2000000) (disch := first | omega | (simp only [E4, hl, *] <;> omega) | fail) only [↓E0, E1, env0, envN, evOps, evOp, evQs, evQ, evV, setD, pureOp, ev, upd, updL, gate, binW, eqOp, binV, intOp, shOp, boolOp, convV, indexAddrV, cellAt, cellsAt, findB, hav, delB, eqL, SameI, strOp, cvtQ, ↓reduceIte, Zj, Zk, Nat.reduceAdd, Nat.reduceLT, Nat.reduceEqDiff, Nat.reduceMul, Nat.reduceLeDiff, if_true, Zn, reduceCtorEq, ZA, eq_self, Int.reduceLE, Int.reduceLT, Int.reduceToNat, ne_eq, Nat.reduceSub, Tarr22, Tarr69, Tint2, Tld4, Tld5, Tpar5, n21, hl]
      refine ⟨by omega, fun h4 => ?_, fun h4 => ?_⟩
      · replace h4 := of_decide_eq_false h4
        obtain ⟨j, hj⟩ : ∃ j : Nat, x.getD k 0 = (j : Int) := ⟨(x.getD k 0).toNat, by omega⟩
        have hj8 : j < 8 := by omega
        simp (maxSteps := 2000000) (disch := first | omega | (simp only [E4, hl, hj, metL_len, metL_get, *] <;> omega) | fail) only [↓E0, E1, env0, envN, evOps, evOp, evQs, evQ, evV, setD, pureOp, ev, upd, updL, gate, binW, eqOp, binV, intOp, shOp, boolOp, convV, indexAddrV, cellAt, cellsAt, findB, hav, delB, eqL, SameI, strOp, cvtQ, ↓reduceIte, Zj, Zk, Nat.reduceAdd, Nat.reduceLT, Nat.reduceEqDiff, Nat.reduceMul, Nat.reduceLeDiff, if_true, Zn, reduceCtorEq, ZA, eq_self, Int.reduceLE, Int.reduceLT, Int.reduceToNat, ne_eq, Nat.reduceSub, Tarr22, Tarr69, Tint2, Tld4, Tld5, Tpar5, n21, hl, hj, metL_len, metL_get]
        repeat refine And.intro (by omega) ?_
        repeat refine And.intro (by omega) ?_
        intro g
        simp only [List.map_cons, List.map_nil, updL, upd, Nat.reduceEqDiff, if_true, if_false, ↓reduceIte]
        refine hK _ _ ?_; clear hK K
        refine Cd.condd rfl (fun h5 => ?_) (fun h5 => ?_)
        · refine Cd.rs [4] fun K hK => ?_
          simp (maxSteps := 2000000) (disch := first | omega | (simp only [E4, *] <;> omega) | fail) only [↓E0, E1, env0, envN, evOps, evOp, evQs, evQ, evV, setD, pureOp, ev, upd, updL, hav, delB, ↓reduceIte, Zj, Zk, Nat.reduceAdd, Nat.reduceLT, Nat.reduceEqDiff, Nat.reduceMul, Nat.reduceLeDiff, if_true, Zn, reduceCtorEq, ZA, eq_self, Int.reduceLE, Int.reduceLT, Int.reduceToNat, ne_eq, Nat.reduceSub]
          repeat refine And.intro (by omega) ?_
          intro g
          simp only [List.map_cons, List.map_nil, updL, upd, Nat.reduceEqDiff, if_true, if_false, ↓reduceIte]
          refine hK _ _ ?_; clear hK K
          refine Cd.ret (thenR (inBR (thenR (roundR (inBR (thenR ?_))))))
          simp (maxSteps := 2000000) (disch := first | omega | (simp only [E4, *] <;> omega) | fail) only [↓E0, E1, evP, evPlan, env0, envN, evOps, evOp, evQs, evQ, evV, setD, pureOp, ev, upd, updL, gate, binW, eqOp, binV, intOp, shOp, boolOp, unV, convV, nilV, fieldAddrV, indexAddrV, extractV, cellAt, cellsAt, findB, setB, fillL, buildV, Value.cells, lenV, minV, maxV, hav, sliceV, loV, hiV, bslQ, mksQ, appQ, partsOk, partsCells, delB, eqL, SameI, strOp, apzQ, cvtQ, capV, ↓reduceIte, Zj, Zk, Nat.reduceAdd, Nat.reduceLT, Nat.reduceEqDiff, Nat.reduceMul, Nat.reduceLeDiff, if_true, Zn, reduceCtorEq, ZA, eq_self, Int.reduceLE, Int.reduceLT, Int.reduceToNat, ne_eq, Nat.reduceSub]
          exact congrArg Value.bool (permTo_not (k := k) hn (by omega) fun h => by
            obtain ⟨i, h6, h7, h8⟩ := h5
            exact (h.1 (by omega)).2 i h6 (by rw [h8, hj])).symm
        · refine Cd.skip ?_
          refine thenN ?_
          refine Cd.rr [1, 2, 5, 6] fun K hK => ?_
          simp (maxSteps := 2000000) (disch := first | omega | (simp only [E4, hl, hj, metL_len, *] <;> omega) | fail) only [↓E0, E1, env0, envN, evOps, evOp, evQs, evQ, evV, setD, pureOp, ev, upd, updL, indexAddrV, cellAt, cellsAt, findB, setB, Value.cells, hav, delB, ↓reduceIte, Zj, Zk, Nat.reduceAdd, Nat.reduceLT, Nat.reduceEqDiff, Nat.reduceMul, Nat.reduceLeDiff, if_true, Zn, reduceCtorEq, ZA, eq_self, Int.reduceLE, Int.reduceLT, Int.reduceToNat, ne_eq, Nat.reduceSub, Tarr22, Tarr69, Tld5, Tst4, n21, hl, hj, metL_len]
          repeat refine And.intro (by omega) ?_
          rw [metL_set (by omega) hj]
          repeat refine And.intro (by omega) ?_
          intro g
          simp only [List.map_cons, List.map_nil, updL, upd, Nat.reduceEqDiff, if_true, if_false, ↓reduceIte]
          refine hK _ _ ?_; clear hK K
          refine inBN ?_
          refine thenN ?_
          refine Cd.rr [1, 2, 5, 6] fun K hK => ?_
          simp (maxSteps := 2000000) (disch := first | omega | (simp only [E4, *] <;> omega) | fail) only [↓E0, E1, env0, envN, evOps, evOp, evQs, evQ, evV, setD, pureOp, ev, upd, updL, binW, eqOp, binV, intOp, shOp, boolOp, hav, delB, eqL, SameI, strOp, ↓reduceIte, Zj, Zk, Nat.reduceAdd, Nat.reduceLT, Nat.reduceEqDiff, Nat.reduceMul, Nat.reduceLeDiff, if_true, Zn, reduceCtorEq, ZA, eq_self, Int.reduceLE, Int.reduceLT, Int.reduceToNat, ne_eq, Nat.reduceSub]
          repeat refine And.intro (by omega) ?_
          intro g
          simp only [List.map_cons, List.map_nil, updL, upd, Nat.reduceEqDiff, if_true, if_false, ↓reduceIte]
          refine hK _ _ ?_; clear hK K
          exact roundN (m := m - 1) (by omega) ⟨_, k + 1, by omega, permTo_succ hp ⟨fun h => ⟨by omega, fun i hi he => h5 ⟨i, hi, by omega, by rw [he, hj]⟩⟩, fun h => absurd h (by omega)⟩, rfl, rfl⟩
      · repeat refine And.intro (by omega) ?_
        intro g
        simp only [List.map_cons, List.map_nil, updL, upd, Nat.reduceEqDiff, if_true, if_false, ↓reduceIte]
        refine hK _ _ ?_; clear hK K
        refine Cd.yes rfl ?_
        refine Cd.rs [4] fun K hK => ?_
        simp (maxSteps := 2000000) (disch := first | omega | (simp only [E4, *] <;> omega) | fail) only [↓E0, E1, env0, envN, evOps, evOp, evQs, evQ, evV, setD, pureOp, ev, upd, updL, hav, delB, ↓reduceIte, Zj, Zk, Nat.reduceAdd, Nat.reduceLT, Nat.reduceEqDiff, Nat.reduceMul, Nat.reduceLeDiff, if_true, Zn, reduceCtorEq, ZA, eq_self, Int.reduceLE, Int.reduceLT, Int.reduceToNat, ne_eq, Nat.reduceSub]
        repeat refine And.intro (by omega) ?_
        intro g
        simp only [List.map_cons, List.map_nil, updL, upd, Nat.reduceEqDiff, if_true, if_false, ↓reduceIte]
        refine hK _ _ ?_; clear hK K
        refine Cd.ret (thenR (inBR (thenR (roundR (inBR (thenR ?_))))))
        simp (maxSteps := 2000000) (disch := first | omega | (simp only [E4, *] <;> omega) | fail) only [↓E0, E1, evP, evPlan, env0, envN, evOps, evOp, evQs, evQ, evV, setD, pureOp, ev, upd, updL, gate, binW, eqOp, binV, intOp, shOp, boolOp, unV, convV, nilV, fieldAddrV, indexAddrV, extractV, cellAt, cellsAt, findB, setB, fillL, buildV, Value.cells, lenV, minV, maxV, hav, sliceV, loV, hiV, bslQ, mksQ, appQ, partsOk, partsCells, delB, eqL, SameI, strOp, apzQ, cvtQ, capV, ↓reduceIte, Zj, Zk, Nat.reduceAdd, Nat.reduceLT, Nat.reduceEqDiff, Nat.reduceMul, Nat.reduceLeDiff, if_true, Zn, reduceCtorEq, ZA, eq_self, Int.reduceLE, Int.reduceLT, Int.reduceToNat, ne_eq, Nat.reduceSub]
        exact congrArg Value.bool (permTo_not (k := k) hn (by omega) fun h => by have := (h.1 (by omega)).1; omega).symm
  · refine Cd.exit (thenX (roundX (inBX ?_)))
    refine thenN ?_
    obtain rfl : k = 8 := by omega
    refine Cd.rs [4] fun K hK => ?_
    simp (maxSteps := 2000000) (disch := first | omega | (simp only [E4, *] <;> omega) | fail) only [↓E0, E1, env0, envN, evOps, evOp, evQs, evQ, evV, setD, pureOp, ev, upd, updL, hav, delB, ↓reduceIte, Zj, Zk, Nat.reduceAdd, Nat.reduceLT, Nat.reduceEqDiff, Nat.reduceMul, Nat.reduceLeDiff, if_true, Zn, reduceCtorEq, ZA, eq_self, Int.reduceLE, Int.reduceLT, Int.reduceToNat, ne_eq, Nat.reduceSub]
    repeat refine And.intro (by omega) ?_
    intro g
    simp only [List.map_cons, List.map_nil, updL, upd, Nat.reduceEqDiff, if_true, if_false, ↓reduceIte]
    refine hK _ _ ?_; clear hK K
    refine Cd.ret ?_
    simp (maxSteps := 2000000) (disch := first | omega | (simp only [E4, *] <;> omega) | fail) only [↓E0, E1, evP, evPlan, env0, envN, evOps, evOp, evQs, evQ, evV, setD, pureOp, ev, upd, updL, gate, binW, eqOp, binV, intOp, shOp, boolOp, unV, convV, nilV, fieldAddrV, indexAddrV, extractV, cellAt, cellsAt, findB, setB, fillL, buildV, Value.cells, lenV, minV, maxV, hav, sliceV, loV, hiV, bslQ, mksQ, appQ, partsOk, partsCells, delB, eqL, SameI, strOp, apzQ, cvtQ, capV, ↓reduceIte, Zj, Zk, Nat.reduceAdd, Nat.reduceLT, Nat.reduceEqDiff, Nat.reduceMul, Nat.reduceLeDiff, if_true, Zn, reduceCtorEq, ZA, eq_self, Int.reduceLE, Int.reduceLT, Int.reduceToNat, ne_eq, Nat.reduceSub]
    exact congrArg Value.bool (decide_eq_true ((perm_iff hn).2 hp)).symm

end Go.Proofs

/-
  What the functions of this part hand back: each as a plain function of its arguments. Conditions: none.
-/
namespace Go.Proofs
open Go.W8
set_option linter.unusedVariables false
set_option linter.unusedSimpArgs false
set_option linter.unusedSectionVars false
set_option maxRecDepth 8000
set_option maxHeartbeats 4000000
theorem n_c (s : Int) (x o : List Int) (hx : x.length = 8) (ho : o.length = 8) : Gives Try.prog 40 #[.agg (gc s x o).toArray] (.int .i64 s) := by
  refine Gives.of fun w => ?_
  refine acall_of (N := 5) (c := _) (rs := [.tmp 2]) (args := [_]) Try.func40 rfl (by decide) rfl rfl (Nat.le_of_ble_eq_true rfl) ?_
  refine Cd.rs [1] fun K hK => ?_
  simp (maxSteps := 2000000) (disch := first | omega | (simp only [E4, *] <;> omega) | fail) only [↓E0, E1, env0, envN, evOps, evOp, evQs, evQ, evV, setD, pureOp, ev, upd, updL, Value.cells, hav, delB, ↓reduceIte, Zj, Zk, Nat.reduceAdd, Nat.reduceLT, Nat.reduceEqDiff, Nat.reduceMul, Nat.reduceLeDiff, if_true, Zn, reduceCtorEq, ZA, eq_self, Int.reduceLE, Int.reduceLT, Int.reduceToNat, ne_eq, Nat.reduceSub]
  intro b1 hb1
  repeat refine And.intro (by omega) ?_
  intro g
  simp only [List.map_cons, List.map_nil, updL, upd, Nat.reduceEqDiff, if_true, if_false, ↓reduceIte]
  refine hK _ _ ?_; clear hK K
  refine Cd.rs [2] fun K hK => ?_
  simp (maxSteps := 2000000) (disch := first | omega | (simp only [E4, hx, ho, *] <;> omega) | fail) only [↓E0, E1, env0, envN, evOps, evOp, evQs, evQ, evV, setD, pureOp, ev, upd, updL, fieldAddrV, cellAt, cellsAt, findB, hav, delB, ↓reduceIte, Zj, Zk, Nat.reduceAdd, Nat.reduceLT, Nat.reduceEqDiff, Nat.reduceMul, Nat.reduceLeDiff, if_true, Zn, reduceCtorEq, ZA, eq_self, Int.reduceLE, Int.reduceLT, Int.reduceToNat, ne_eq, Nat.reduceSub, Tfld27_0, Tld2, hx, ho]
  repeat refine And.intro (by omega) ?_
  intro g
  simp only [List.map_cons, List.map_nil, updL, upd, Nat.reduceEqDiff, if_true, if_false, ↓reduceIte]
  refine hK _ _ ?_; clear hK K
  refine Cd.ret ?_
  simp (maxSteps := 2000000) (disch := first | omega | (simp only [E4, *] <;> omega) | fail) only [↓E0, E1, evP, evPlan, env0, envN, evOps, evOp, evQs, evQ, evV, setD, pureOp, ev, upd, updL, gate, binW, eqOp, binV, intOp, shOp, boolOp, unV, convV, nilV, fieldAddrV, indexAddrV, extractV, cellAt, cellsAt, findB, setB, fillL, buildV, Value.cells, lenV, minV, maxV, hav, sliceV, loV, hiV, bslQ, mksQ, appQ, partsOk, partsCells, delB, eqL, SameI, strOp, apzQ, cvtQ, capV, ↓reduceIte, Zj, Zk, Nat.reduceAdd, Nat.reduceLT, Nat.reduceEqDiff, Nat.reduceMul, Nat.reduceLeDiff, if_true, Zn, reduceCtorEq, ZA, eq_self, Int.reduceLE, Int.reduceLT, Int.reduceToNat, ne_eq, Nat.reduceSub]

theorem gridB_false {s : Int} {x o : List Int} (h : ¬ IsG s x o) : gridB s x o = false := decide_eq_false h
theorem gridB_true {s : Int} {x o : List Int} (h : IsG s x o) : gridB s x o = true := decide_eq_true h

theorem gridB_s {s : Int} {x o : List Int} (h : gridB s x o = true) : ∃ n : Nat, s = (n : Int) ∧ 2 ≤ n ∧ n ≤ 8 := by
  have := of_decide_eq_true h
  exact ⟨s.toNat, by have := this.1; omega, by have := this.1; omega, by have := this.2.1; omega⟩

theorem l01Is_c (s : Int) (x o : List Int) (hx : Bytes8 x) (ho : Bytes8 o) : Gives Try.prog 20 #[.agg (gc s x o).toArray] (.bool (gridB s x o)) := by
  have hl := hx.len
  have hm := ho.len
  refine Gives.of fun w => ?_
  refine acall_of (N := 39) (c := _) (rs := [.tmp 2]) (args := [_]) Try.func20 rfl (by decide) rfl rfl (Nat.le_of_ble_eq_true rfl) ?_
  refine Cd.rs [1] fun K hK => ?_
  simp (maxSteps := 2000000) (disch := first | omega | (simp only [E4, *] <;> omega) | fail) only [↓E0, E1, env0, envN, evOps, evOp, evQs, evQ, evV, setD, pureOp, ev, upd, updL, Value.cells, hav, delB, ↓reduceIte, Zj, Zk, Nat.reduceAdd, Nat.reduceLT, Nat.reduceEqDiff, Nat.reduceMul, Nat.reduceLeDiff, if_true, Zn, reduceCtorEq, ZA, eq_self, Int.reduceLE, Int.reduceLT, Int.reduceToNat, ne_eq, Nat.reduceSub]
  intro b1 hb1
  repeat refine And.intro (by omega) ?_
  intro g
  simp only [List.map_cons, List.map_nil, updL, upd, Nat.reduceEqDiff, if_true, if_false, ↓reduceIte]
  refine hK _ _ ?_; clear hK K
  refine Cd.seq ?_
  refine Cd.rs [1, 23] fun K hK => ?_
  have J : ∀ g b, (b = false ↔ (2 ≤ s ∧ s ≤ 8) ∧ IsPerm x s.toNat ∧ IsPerm o s.toNat) → K (updL [(1, .pointer (some ⟨b1, 0, none⟩)), (23, .bool b)] g) [(b1, gc s x o)] := by
    intro g b hb
    refine hK _ _ ?_
    clear hK K
    refine Cd.cond rfl (fun h1 => ?_) (fun h1 => ?_)
    · refine Cd.rs [2] fun K hK => ?_
      simp (maxSteps := 2000000) (disch := first | omega | (simp only [E4, *] <;> omega) | fail) only [↓E0, E1, env0, envN, evOps, evOp, evQs, evQ, evV, setD, pureOp, ev, upd, updL, hav, delB, ↓reduceIte, Zj, Zk, Nat.reduceAdd, Nat.reduceLT, Nat.reduceEqDiff, Nat.reduceMul, Nat.reduceLeDiff, if_true, Zn, reduceCtorEq, ZA, eq_self, Int.reduceLE, Int.reduceLT, Int.reduceToNat, ne_eq, Nat.reduceSub]
      repeat refine And.intro (by omega) ?_
      intro g
      simp only [List.map_cons, List.map_nil, updL, upd, Nat.reduceEqDiff, if_true, if_false, ↓reduceIte]
      refine hK _ _ ?_; clear hK K
      refine Cd.ret (thenR ?_)
      simp (maxSteps := 2000000) (disch := first | omega | (simp only [E4, *] <;> omega) | fail) only [↓E0, E1, evP, evPlan, env0, envN, evOps, evOp, evQs, evQ, evV, setD, pureOp, ev, upd, updL, gate, binW, eqOp, binV, intOp, shOp, boolOp, unV, convV, nilV, fieldAddrV, indexAddrV, extractV, cellAt, cellsAt, findB, setB, fillL, buildV, Value.cells, lenV, minV, maxV, hav, sliceV, loV, hiV, bslQ, mksQ, appQ, partsOk, partsCells, delB, eqL, SameI, strOp, apzQ, cvtQ, capV, ↓reduceIte, Zj, Zk, Nat.reduceAdd, Nat.reduceLT, Nat.reduceEqDiff, Nat.reduceMul, Nat.reduceLeDiff, if_true, Zn, reduceCtorEq, ZA, eq_self, Int.reduceLE, Int.reduceLT, Int.reduceToNat, ne_eq, Nat.reduceSub]
      exact congrArg Value.bool (gridB_false fun h => by rw [hb.2 ⟨⟨h.1, h.2.1⟩, h.2.2.1, h.2.2.2.1⟩] at h1; cases h1).symm
    · obtain ⟨hs, hpx, hpo⟩ := hb.1 h1
      obtain ⟨n, rfl⟩ : ∃ n : Nat, s = (n : Int) := ⟨s.toNat, by omega⟩
      rw [Int.toNat_natCast] at hpx hpo
      refine Cd.skip ?_
      refine thenN ?_
      refine Cd.seq ?_
      refine Cd.rs [1, 3] fun K hK => ?_
      simp (maxSteps := 2000000) (disch := first | omega | (simp only [E4, *] <;> omega) | fail) only [↓E0, E1, env0, envN, evOps, evOp, evQs, evQ, evV, setD, pureOp, ev, upd, updL, hav, delB, ↓reduceIte, Zj, Zk, Nat.reduceAdd, Nat.reduceLT, Nat.reduceEqDiff, Nat.reduceMul, Nat.reduceLeDiff, if_true, Zn, reduceCtorEq, ZA, eq_self, Int.reduceLE, Int.reduceLT, Int.reduceToNat, ne_eq, Nat.reduceSub]
      repeat refine And.intro (by omega) ?_
      intro g
      simp only [List.map_cons, List.map_nil, updL, upd, Nat.reduceEqDiff, if_true, if_false, ↓reduceIte]
      refine hK _ _ ?_; clear hK K
      refine Cd.block ?_
      refine Cd.loop (fun m ρ M => ∃ g k, k + m = n ∧ (∀ i, i < k → x.getD i 0 ≠ o.getD i 0) ∧ ρ = updL [(1, .pointer (some ⟨b1, 0, none⟩)), (3, .int .i64 (k : Int))] g ∧ M = [(b1, gc (n : Int) x o)]) n
        ⟨_, 0, Nat.zero_add _, (fun _ h => absurd h (Nat.not_lt_zero _)), rfl, rfl⟩ ?_
      rintro m ρ M ⟨g, k, hk, hd, rfl, rfl⟩
      refine Cd.seq ?_
      refine Cd.rs [1, 3, 27] fun K hK => ?_
      simp (maxSteps := 2000000) (disch := first | omega | (simp only [E4, hl, hm, *] <;> omega) | fail) only [↓E0, E1, env0, envN, evOps, evOp, evQs, evQ, evV, setD, pureOp, ev, upd, updL, binW, eqOp, binV, intOp, shOp, boolOp, fieldAddrV, cellAt, cellsAt, findB, hav, delB, eqL, SameI, strOp, ↓reduceIte, Zj, Zk, Nat.reduceAdd, Nat.reduceLT, Nat.reduceEqDiff, Nat.reduceMul, Nat.reduceLeDiff, if_true, Zn, reduceCtorEq, ZA, eq_self, Int.reduceLE, Int.reduceLT, Int.reduceToNat, ne_eq, Nat.reduceSub, Tfld27_0, Tld2, hl, hm]
      repeat refine And.intro (by omega) ?_
      intro g
      simp only [List.map_cons, List.map_nil, updL, upd, Nat.reduceEqDiff, if_true, if_false, ↓reduceIte]
      refine hK _ _ ?_; clear hK K
      refine Cd.condd rfl (fun h2 => ?_) (fun h2 => ?_)
      · refine Cd.skip ?_
        refine thenN ?_
        refine Cd.seq ?_
        refine Cd.block ?_
        refine Cd.qs [1, 3, 38] fol (by kernel_rfl) fun K hK => ?_
        simp (maxSteps := 2000000) (disch := first | omega | (simp only [E4, hl, hm, *] <;> omega) | fail) only [↓E0, E1, evPlan, env0, envN, evOps, evOp, evQs, evQ, evV, setD, pureOp, ev, upd, updL, binW, eqOp, binV, intOp, shOp, boolOp, fieldAddrV, indexAddrV, cellAt, cellsAt, findB, hav, delB, eqL, SameI, strOp, ↓reduceIte, Zj, Zk, Nat.reduceAdd, Nat.reduceLT, Nat.reduceEqDiff, Nat.reduceMul, Nat.reduceLeDiff, if_true, Zn, reduceCtorEq, ZA, eq_self, Int.reduceLE, Int.reduceLT, Int.reduceToNat, ne_eq, Nat.reduceSub, Tarr22, Tfld27_1, Tfld27_2, Tld5, hl, hm]
        repeat refine And.intro (by omega) ?_
        repeat refine And.intro (by omega) ?_
        intro g
        simp only [List.map_cons, List.map_nil, updL, upd, Nat.reduceEqDiff, if_true, if_false, ↓reduceIte]
        refine hK _ ?_; clear hK K
        refine Cd.cond rfl (fun h3 => ?_) (fun h3 => ?_)
        · refine Cd.rs [2] fun K hK => ?_
          simp (maxSteps := 2000000) (disch := first | omega | (simp only [E4, *] <;> omega) | fail) only [↓E0, E1, env0, envN, evOps, evOp, evQs, evQ, evV, setD, pureOp, ev, upd, updL, hav, delB, ↓reduceIte, Zj, Zk, Nat.reduceAdd, Nat.reduceLT, Nat.reduceEqDiff, Nat.reduceMul, Nat.reduceLeDiff, if_true, Zn, reduceCtorEq, ZA, eq_self, Int.reduceLE, Int.reduceLT, Int.reduceToNat, ne_eq, Nat.reduceSub]
          repeat refine And.intro (by omega) ?_
          intro g
          simp only [List.map_cons, List.map_nil, updL, upd, Nat.reduceEqDiff, if_true, if_false, ↓reduceIte]
          refine hK _ _ ?_; clear hK K
          refine Cd.ret (inBR (thenR (roundR (inBR (thenR ?_)))))
          simp (maxSteps := 2000000) (disch := first | omega | (simp only [E4, *] <;> omega) | fail) only [↓E0, E1, evP, evPlan, env0, envN, evOps, evOp, evQs, evQ, evV, setD, pureOp, ev, upd, updL, gate, binW, eqOp, binV, intOp, shOp, boolOp, unV, convV, nilV, fieldAddrV, indexAddrV, extractV, cellAt, cellsAt, findB, setB, fillL, buildV, Value.cells, lenV, minV, maxV, hav, sliceV, loV, hiV, bslQ, mksQ, appQ, partsOk, partsCells, delB, eqL, SameI, strOp, apzQ, cvtQ, capV, ↓reduceIte, Zj, Zk, Nat.reduceAdd, Nat.reduceLT, Nat.reduceEqDiff, Nat.reduceMul, Nat.reduceLeDiff, if_true, Zn, reduceCtorEq, ZA, eq_self, Int.reduceLE, Int.reduceLT, Int.reduceToNat, ne_eq, Nat.reduceSub]
          exact congrArg Value.bool (gridB_false fun h => h.2.2.2.2 k (by omega) (by simpa using h3)).symm
        · refine Cd.skip ?_
          refine inBN ?_
          refine thenN ?_
          refine Cd.rr [1, 3] fun K hK => ?_
          simp (maxSteps := 2000000) (disch := first | omega | (simp only [E4, *] <;> omega) | fail) only [↓E0, E1, env0, envN, evOps, evOp, evQs, evQ, evV, setD, pureOp, ev, upd, updL, binW, eqOp, binV, intOp, shOp, boolOp, hav, delB, eqL, SameI, strOp, ↓reduceIte, Zj, Zk, Nat.reduceAdd, Nat.reduceLT, Nat.reduceEqDiff, Nat.reduceMul, Nat.reduceLeDiff, if_true, Zn, reduceCtorEq, ZA, eq_self, Int.reduceLE, Int.reduceLT, Int.reduceToNat, ne_eq, Nat.reduceSub]
          repeat refine And.intro (by omega) ?_
          intro g
          simp only [List.map_cons, List.map_nil, updL, upd, Nat.reduceEqDiff, if_true, if_false, ↓reduceIte]
          refine hK _ _ ?_; clear hK K
          exact roundN (m := m - 1) (by omega) ⟨_, k + 1, by omega, fun i hi => by
            rcases Nat.lt_succ_iff_lt_or_eq.1 hi with h4 | rfl
            · exact hd i h4
            · simpa using h3, rfl, rfl⟩
      · refine Cd.exit (thenX (roundX (inBX ?_)))
        refine thenN ?_
        refine Cd.rs [2] fun K hK => ?_
        simp (maxSteps := 2000000) (disch := first | omega | (simp only [E4, *] <;> omega) | fail) only [↓E0, E1, env0, envN, evOps, evOp, evQs, evQ, evV, setD, pureOp, ev, upd, updL, hav, delB, ↓reduceIte, Zj, Zk, Nat.reduceAdd, Nat.reduceLT, Nat.reduceEqDiff, Nat.reduceMul, Nat.reduceLeDiff, if_true, Zn, reduceCtorEq, ZA, eq_self, Int.reduceLE, Int.reduceLT, Int.reduceToNat, ne_eq, Nat.reduceSub]
        repeat refine And.intro (by omega) ?_
        intro g
        simp only [List.map_cons, List.map_nil, updL, upd, Nat.reduceEqDiff, if_true, if_false, ↓reduceIte]
        refine hK _ _ ?_; clear hK K
        refine Cd.ret ?_
        simp (maxSteps := 2000000) (disch := first | omega | (simp only [E4, *] <;> omega) | fail) only [↓E0, E1, evP, evPlan, env0, envN, evOps, evOp, evQs, evQ, evV, setD, pureOp, ev, upd, updL, gate, binW, eqOp, binV, intOp, shOp, boolOp, unV, convV, nilV, fieldAddrV, indexAddrV, extractV, cellAt, cellsAt, findB, setB, fillL, buildV, Value.cells, lenV, minV, maxV, hav, sliceV, loV, hiV, bslQ, mksQ, appQ, partsOk, partsCells, delB, eqL, SameI, strOp, apzQ, cvtQ, capV, ↓reduceIte, Zj, Zk, Nat.reduceAdd, Nat.reduceLT, Nat.reduceEqDiff, Nat.reduceMul, Nat.reduceLeDiff, if_true, Zn, reduceCtorEq, ZA, eq_self, Int.reduceLE, Int.reduceLT, Int.reduceToNat, ne_eq, Nat.reduceSub]
        exact congrArg Value.bool (gridB_true ⟨hs.1, hs.2, hpx, hpo, fun i hi => hd i (by omega)⟩).symm
  clear hK
  simp (maxSteps := 2000000) (disch := first | omega | (simp only [E4, hl, hm, *] <;> omega) | fail) only [↓E0, E1, env0, envN, evOps, evOp, evQs, evQ, evV, setD, pureOp, ev, upd, updL, gate, unV, fieldAddrV, cellAt, cellsAt, findB, setB, hav, delB, ↓reduceIte, Zj, Zk, Nat.reduceAdd, Nat.reduceLT, Nat.reduceEqDiff, Nat.reduceMul, Nat.reduceLeDiff, if_true, Zn, reduceCtorEq, ZA, eq_self, Int.reduceLE, Int.reduceLT, Int.reduceToNat, ne_eq, Nat.reduceSub, Tfld27_0, Tfld27_1, Tfld27_2, Tld2, Tld22, hl, hm]
  refine callK_gives (l01In_c _ _ _) ?_
  simp (maxSteps := 2000000) (disch := first | omega | (simp only [E4, hl, hm, *] <;> omega) | fail) only [↓E0, E1, env0, envN, evOps, evOp, evQs, evQ, evV, setD, pureOp, ev, upd, updL, gate, unV, fieldAddrV, cellAt, cellsAt, findB, setB, hav, delB, ↓reduceIte, Zj, Zk, Nat.reduceAdd, Nat.reduceLT, Nat.reduceEqDiff, Nat.reduceMul, Nat.reduceLeDiff, if_true, Zn, reduceCtorEq, ZA, eq_self, Int.reduceLE, Int.reduceLT, Int.reduceToNat, ne_eq, Nat.reduceSub, Tfld27_0, Tfld27_1, Tfld27_2, Tld2, Tld22, hl, hm]
  refine ⟨fun h1 => ?_, fun h1 => ?_⟩
  · have hs : 2 ≤ s ∧ s ≤ 8 := by simpa using h1
    obtain ⟨n, rfl⟩ : ∃ n : Nat, s = (n : Int) := ⟨s.toNat, by omega⟩
    refine callK_gives (l01Perm_c x n hx (by omega)) ?_
    simp (maxSteps := 2000000) (disch := first | omega | (simp only [E4, hl, hm, *] <;> omega) | fail) only [↓E0, E1, env0, envN, evOps, evOp, evQs, evQ, evV, setD, pureOp, ev, upd, updL, gate, unV, fieldAddrV, cellAt, cellsAt, findB, setB, hav, delB, ↓reduceIte, Zj, Zk, Nat.reduceAdd, Nat.reduceLT, Nat.reduceEqDiff, Nat.reduceMul, Nat.reduceLeDiff, if_true, Zn, reduceCtorEq, ZA, eq_self, Int.reduceLE, Int.reduceLT, Int.reduceToNat, ne_eq, Nat.reduceSub, Tfld27_0, Tfld27_1, Tfld27_2, Tld2, Tld22, hl, hm]
    refine ⟨fun h2 => ?_, fun h2 => ?_⟩
    · refine callK_gives (l01Perm_c o n ho (by omega)) ?_
      simp (maxSteps := 2000000) (disch := first | omega | (simp only [E4, hl, hm, *] <;> omega) | fail) only [↓E0, E1, env0, envN, evOps, evOp, evQs, evQ, evV, setD, pureOp, ev, upd, updL, gate, unV, fieldAddrV, cellAt, cellsAt, findB, setB, hav, delB, ↓reduceIte, Zj, Zk, Nat.reduceAdd, Nat.reduceLT, Nat.reduceEqDiff, Nat.reduceMul, Nat.reduceLeDiff, if_true, Zn, reduceCtorEq, ZA, eq_self, Int.reduceLE, Int.reduceLT, Int.reduceToNat, ne_eq, Nat.reduceSub, Tfld27_0, Tfld27_1, Tfld27_2, Tld2, Tld22, hl, hm]
      repeat refine And.intro (by omega) ?_
      intro g
      simp only [List.map_cons, List.map_nil, updL, upd, Nat.reduceEqDiff, if_true, if_false, ↓reduceIte]
      refine J g _ ?_
      simp at h2
      simp [h2, hs]
    · repeat refine And.intro (by omega) ?_
      intro g
      simp only [List.map_cons, List.map_nil, updL, upd, Nat.reduceEqDiff, if_true, if_false, ↓reduceIte]
      refine J g _ ?_
      simp at h2
      simp [h2]
  · repeat refine And.intro (by omega) ?_
    intro g
    simp only [List.map_cons, List.map_nil, updL, upd, Nat.reduceEqDiff, if_true, if_false, ↓reduceIte]
    refine J g _ ?_
    simp at h1
    simp
    omega

/-- The mask of the entries ahead of k. -/
def maskL (x : List Int) (n k : Nat) : Nat := mask (fun i => (x.getD i 0).toNat) (min k n)
theorem maskL_zero (x : List Int) (n : Nat) : maskL x n 0 = 0 := by simp [maskL, mask]
theorem maskL_succ {x : List Int} {n k : Nat} (h : k < n) : maskL x n (k + 1) = maskL x n k ||| 2 ^ (x.getD k 0).toNat := by
  unfold maskL
  rw [Nat.min_eq_left (by omega), Nat.min_eq_left (by omega)]
  rfl
theorem maskL_over {x : List Int} {n k : Nat} (h : n ≤ k) : maskL x n (k + 1) = maskL x n k := by
  unfold maskL
  rw [Nat.min_eq_right (by omega), Nat.min_eq_right (by omega)]

/-- All is well with the entries ahead of k, but that one may come twice. -/
def FitTo (x : List Int) (n k : Nat) : Prop := ∀ i, i < k → x.getD i 0 < n ∧ (n ≤ i → x.getD i 0 = 0)

theorem mask_end {x : List Int} {n : Nat} (hx : Bytes8 x) (hn : n ≤ 8) (hd : FitTo x n 8) : ((maskL x n 8 : Int) == IntKind.wrap .i64 (((2 ^ n : Nat) : Int) - 1)) = decide (IsPerm x n) := by
  have hj2 : 2 ^ n ≤ 2 ^ 8 := Nat.pow_le_pow_right (by omega) hn
  have hp : 0 < 2 ^ n := Nat.two_pow_pos n
  have hf : ∀ i, i < n → (x.getD i 0).toNat < n := fun i hi => by have := (hd i (by omega)).1; have := (bytes_get hx (i := i) (by omega)).1; omega
  have hm := mask_full (f := fun i => (x.getD i 0).toNat) hf
  have e : maskL x n 8 = mask (fun i => (x.getD i 0).toNat) n := by unfold maskL; rw [Nat.min_eq_right hn]
  rw [e]
  have hw : IntKind.wrap .i64 (((2 ^ n : Nat) : Int) - 1) = ((2 ^ n - 1 : Nat) : Int) := by
    generalize 2 ^ n = m at hj2 hp
    rw [wrap_i64 (by omega) (by omega)]
    omega
  rw [hw]
  have hiff : ((mask (fun i => (x.getD i 0).toNat) n : Int) = ((2 ^ n - 1 : Nat) : Int)) ↔ IsPerm x n := by
    rw [Int.ofNat_inj, hm, perm_iff hn]
    constructor
    · intro h i hi
      refine ⟨fun hin => ⟨(hd i hi).1, fun j hj he => h i hin j hj (by rw [he])⟩, (hd i hi).2⟩
    · intro h i hi j hj he
      have h1 := bytes_get hx (i := i) (by omega)
      have h2 := bytes_get hx (i := j) (by omega)
      exact ((h i (by omega)).1 hi).2 j hj (by omega)
  by_cases h : IsPerm x n
  · rw [decide_eq_true h, hiff.2 h]; simp
  · rw [decide_eq_false h]
    exact beq_eq_false_iff_ne.2 fun he => h (hiff.1 he)

theorem isOrder_c (b o cap : Nat) (x : List Int) (n : Nat) (hx : Bytes8 x) (h2 : 2 ≤ n) (hn : n ≤ 8) : GivesR Try.prog 49 #[.slice (some ⟨b, o, none⟩) 8 cap, .int .i64 (n : Int)] [(b, o, ints .u8 x)] (.bool (decide (IsPerm x n))) := by
  have hl := hx.len
  refine GivesR.of (callable_of Try.func49 rfl (by decide)) fun w hR => ?_
  refine acall_of (N := 41) (c := _) (rs := [.tmp 4]) (args := [_, _]) Try.func49 rfl (by decide) rfl rfl (Nat.le_of_ble_eq_true rfl) ?_
  have hR := (told_ints hR).1
  rw [hl] at hR
  refine Cd.rs [0, 1] fun K hK => ?_
  simp (maxSteps := 2000000) (disch := first | omega | (simp only [E4, *] <;> omega) | fail) only [↓E0, E1, env0, envN, evOps, evOp, evQs, evQ, evV, setD, pureOp, ev, upd, updL, hav, delB, ↓reduceIte, Zj, Zk, Nat.reduceAdd, Nat.reduceLT, Nat.reduceEqDiff, Nat.reduceMul, Nat.reduceLeDiff, if_true, Zn, reduceCtorEq, ZA, eq_self, Int.reduceLE, Int.reduceLT, Int.reduceToNat, ne_eq, Nat.reduceSub]
  repeat refine And.intro (by omega) ?_
  intro g
  simp only [List.map_cons, List.map_nil, updL, upd, Nat.reduceEqDiff, if_true, if_false, ↓reduceIte]
  refine hK _ _ ?_; clear hK K
  refine Cd.rs [0, 1, 5] fun K hK => ?_
  simp (maxSteps := 2000000) (disch := first | omega | (simp only [E4, *] <;> omega) | fail) only [↓E0, E1, env0, envN, evOps, evOp, evQs, evQ, evV, setD, pureOp, ev, upd, updL, hav, delB, ↓reduceIte, Zj, Zk, Nat.reduceAdd, Nat.reduceLT, Nat.reduceEqDiff, Nat.reduceMul, Nat.reduceLeDiff, if_true, Zn, reduceCtorEq, ZA, eq_self, Int.reduceLE, Int.reduceLT, Int.reduceToNat, ne_eq, Nat.reduceSub]
  repeat refine And.intro (by omega) ?_
  intro g
  simp only [List.map_cons, List.map_nil, updL, upd, Nat.reduceEqDiff, if_true, if_false, ↓reduceIte]
  refine hK _ _ ?_; clear hK K
  refine Cd.seq ?_
  refine Cd.rs [1, 5, 8, 9, 10] fun K hK => ?_
  simp (maxSteps := 2000000) (disch := first | omega | (simp only [E4, *] <;> omega) | fail) only [↓E0, E1, env0, envN, evOps, evOp, evQs, evQ, evV, setD, pureOp, ev, upd, updL, lenV, hav, delB, ↓reduceIte, Zj, Zk, Nat.reduceAdd, Nat.reduceLT, Nat.reduceEqDiff, Nat.reduceMul, Nat.reduceLeDiff, if_true, Zn, reduceCtorEq, ZA, eq_self, Int.reduceLE, Int.reduceLT, Int.reduceToNat, ne_eq, Nat.reduceSub, Tslce71]
  repeat refine And.intro (by omega) ?_
  intro g
  simp only [List.map_cons, List.map_nil, updL, upd, Nat.reduceEqDiff, if_true, if_false, ↓reduceIte]
  refine hK _ _ ?_; clear hK K
  refine Cd.block ?_
  refine Cd.loop (fun m ρ M => ∃ g k, k + m = 8 ∧ FitTo x n k ∧ ρ = updL [(1, .int .i64 (n : Int)), (5, .int .i64 (maskL x n k : Int)), (8, .slice (some ⟨b, o, none⟩) 8 cap), (9, .int .i64 8), (10, .int .i64 (k : Int))] g ∧ M = []) 8
    ⟨_, 0, Nat.zero_add _, (fun _ h => absurd h (Nat.not_lt_zero _)), by rw [maskL_zero]; rfl, rfl⟩ ?_
  rintro m ρ M ⟨g, k, hk, hd, rfl, rfl⟩
  refine Cd.rs [1, 5, 8, 9, 10, 11] fun K hK => ?_
  simp (maxSteps := 2000000) (disch := first | omega | (simp only [E4, *] <;> omega) | fail) only [↓E0, E1, env0, envN, evOps, evOp, evQs, evQ, evV, setD, pureOp, ev, upd, updL, binW, eqOp, binV, intOp, shOp, boolOp, hav, delB, eqL, SameI, strOp, ↓reduceIte, Zj, Zk, Nat.reduceAdd, Nat.reduceLT, Nat.reduceEqDiff, Nat.reduceMul, Nat.reduceLeDiff, if_true, Zn, reduceCtorEq, ZA, eq_self, Int.reduceLE, Int.reduceLT, Int.reduceToNat, ne_eq, Nat.reduceSub]
  repeat refine And.intro (by omega) ?_
  intro g
  simp only [List.map_cons, List.map_nil, updL, upd, Nat.reduceEqDiff, if_true, if_false, ↓reduceIte]
  refine hK _ _ ?_; clear hK K
  refine Cd.seq ?_
  refine Cd.condd rfl (fun h1 => ?_) (fun h1 => ?_)
  · have hb := bytes_get hx (i := k) (by omega)
    refine Cd.skip ?_
    refine thenN ?_
    refine Cd.seq ?_
    refine Cd.block ?_
    refine Cd.rs [1, 5, 6, 7, 8, 9, 10] fun K hK => ?_
    simp (maxSteps := 2000000) (disch := first | omega | (simp only [E4, hR, *] <;> omega) | fail) only [↓E0, E1, env0, envN, evOps, evOp, evQs, evQ, evV, setD, pureOp, ev, upd, updL, indexAddrV, cellAt, cellsAt, findB, hav, delB, ↓reduceIte, Zj, Zk, Nat.reduceAdd, Nat.reduceLT, Nat.reduceEqDiff, Nat.reduceMul, Nat.reduceLeDiff, if_true, Zn, reduceCtorEq, ZA, eq_self, Int.reduceLE, Int.reduceLT, Int.reduceToNat, ne_eq, Nat.reduceSub, Tld5, Tslc71, hR]
    repeat refine And.intro (by omega) ?_
    repeat refine And.intro (by omega) ?_
    intro g
    simp only [List.map_cons, List.map_nil, updL, upd, Nat.reduceEqDiff, if_true, if_false, ↓reduceIte]
    refine hK _ _ ?_; clear hK K
    refine Cd.seq ?_
    refine Cd.rs [1, 5, 6, 7, 8, 9, 10, 27] fun K hK => ?_
    have J : ∀ g b', (b' = false ↔ x.getD k 0 < n ∧ (n ≤ k → x.getD k 0 = 0)) → K (updL [(1, .int .i64 (n : Int)), (5, .int .i64 (maskL x n k : Int)), (6, .int .i64 (k : Int)), (7, .int .u8 (x.getD k 0)), (8, .slice (some ⟨b, o, none⟩) 8 cap), (9, .int .i64 8), (10, .int .i64 (k : Int)), (27, .bool b')] g) [] := by
      intro g b' hb'
      refine hK _ _ ?_
      clear hK K
      refine Cd.cond rfl (fun h3 => ?_) (fun h3 => ?_)
      · refine Cd.rs [4] fun K hK => ?_
        simp (maxSteps := 2000000) (disch := first | omega | (simp only [E4, *] <;> omega) | fail) only [↓E0, E1, env0, envN, evOps, evOp, evQs, evQ, evV, setD, pureOp, ev, upd, updL, hav, delB, ↓reduceIte, Zj, Zk, Nat.reduceAdd, Nat.reduceLT, Nat.reduceEqDiff, Nat.reduceMul, Nat.reduceLeDiff, if_true, Zn, reduceCtorEq, ZA, eq_self, Int.reduceLE, Int.reduceLT, Int.reduceToNat, ne_eq, Nat.reduceSub]
        repeat refine And.intro (by omega) ?_
        intro g
        simp only [List.map_cons, List.map_nil, updL, upd, Nat.reduceEqDiff, if_true, if_false, ↓reduceIte]
        refine hK _ _ ?_; clear hK K
        refine Cd.ret (thenR (inBR (thenR (roundR (inBR (thenR ?_))))))
        simp (maxSteps := 2000000) (disch := first | omega | (simp only [E4, *] <;> omega) | fail) only [↓E0, E1, evP, evPlan, env0, envN, evOps, evOp, evQs, evQ, evV, setD, pureOp, ev, upd, updL, gate, binW, eqOp, binV, intOp, shOp, boolOp, unV, convV, nilV, fieldAddrV, indexAddrV, extractV, cellAt, cellsAt, findB, setB, fillL, buildV, Value.cells, lenV, minV, maxV, hav, sliceV, loV, hiV, bslQ, mksQ, appQ, partsOk, partsCells, delB, eqL, SameI, strOp, apzQ, cvtQ, capV, ↓reduceIte, Zj, Zk, Nat.reduceAdd, Nat.reduceLT, Nat.reduceEqDiff, Nat.reduceMul, Nat.reduceLeDiff, if_true, Zn, reduceCtorEq, ZA, eq_self, Int.reduceLE, Int.reduceLT, Int.reduceToNat, ne_eq, Nat.reduceSub]
        refine congrArg Value.bool (decide_eq_false fun h => ?_).symm
        have : b' = false := hb'.2 (by
          have := (perm_iff hn).1 h k (by omega)
          by_cases hkn : k < n
          · exact ⟨(this.1 hkn).1, fun h => absurd h (by omega)⟩
          · exact ⟨by rw [this.2 (by omega)]; omega, this.2⟩)
        rw [this] at h3; cases h3
      · obtain ⟨h4, h5⟩ := hb'.1 h3
        have hd' : FitTo x n (k + 1) := fun i hi => by
          rcases Nat.lt_succ_iff_lt_or_eq.1 hi with h6 | rfl
          · exact hd i h6
          · exact ⟨h4, h5⟩
        refine Cd.skip ?_
        refine thenN ?_
        refine Cd.rs [1, 5, 7, 8, 9, 10, 30] fun K hK => ?_
        simp (maxSteps := 2000000) (disch := first | omega | (simp only [E4, *] <;> omega) | fail) only [↓E0, E1, env0, envN, evOps, evOp, evQs, evQ, evV, setD, pureOp, ev, upd, updL, binW, eqOp, binV, intOp, shOp, boolOp, hav, delB, eqL, SameI, strOp, ↓reduceIte, Zj, Zk, Nat.reduceAdd, Nat.reduceLT, Nat.reduceEqDiff, Nat.reduceMul, Nat.reduceLeDiff, if_true, Zn, reduceCtorEq, ZA, eq_self, Int.reduceLE, Int.reduceLT, Int.reduceToNat, ne_eq, Nat.reduceSub]
        repeat refine And.intro (by omega) ?_
        intro g
        simp only [List.map_cons, List.map_nil, updL, upd, Nat.reduceEqDiff, if_true, if_false, ↓reduceIte]
        refine hK _ _ ?_; clear hK K
        refine Cd.condd rfl (fun h3 => ?_) (fun h3 => ?_)
        · obtain ⟨j, hj⟩ : ∃ j : Nat, x.getD k 0 = (j : Int) := ⟨(x.getD k 0).toNat, by omega⟩
          have hm : maskL x n k < 2 ^ n := mask_lt fun i hi => by have := (hd i (by omega)).1; omega
          have hm2 : 2 ^ n ≤ 2 ^ 8 := Nat.pow_le_pow_right (by omega) hn
          have hj2 : 2 ^ j ≤ 2 ^ 8 := Nat.pow_le_pow_right (by omega) (by omega)
          refine Cd.rr [1, 5, 8, 9, 10] fun K hK => ?_
          simp (maxSteps := 2000000) (disch := first | omega | (simp only [E4, hj, shOp, shl_i64, *] <;> omega) | fail) only [↓E0, E1, env0, envN, evOps, evOp, evQs, evQ, evV, setD, pureOp, ev, upd, updL, binW, eqOp, binV, intOp, shOp, boolOp, hav, delB, eqL, SameI, strOp, ↓reduceIte, Zj, Zk, Nat.reduceAdd, Nat.reduceLT, Nat.reduceEqDiff, Nat.reduceMul, Nat.reduceLeDiff, if_true, Zn, reduceCtorEq, ZA, eq_self, Int.reduceLE, Int.reduceLT, Int.reduceToNat, ne_eq, Nat.reduceSub, hj, shOp, shl_i64]
          repeat refine And.intro (by omega) ?_
          rw [or_i64 (by omega) (by omega)]
          have e : maskL x n k ||| 2 ^ j = maskL x n (k + 1) := by rw [maskL_succ (by omega), hj]; rfl
          rw [e]
          repeat refine And.intro (by omega) ?_
          intro g
          simp only [List.map_cons, List.map_nil, updL, upd, Nat.reduceEqDiff, if_true, if_false, ↓reduceIte]
          refine hK _ _ ?_; clear hK K
          refine inBN ?_
          refine thenN ?_
          refine Cd.rr [1, 5, 8, 9, 10] fun K hK => ?_
          simp (maxSteps := 2000000) (disch := first | omega | (simp only [E4, *] <;> omega) | fail) only [↓E0, E1, env0, envN, evOps, evOp, evQs, evQ, evV, setD, pureOp, ev, upd, updL, binW, eqOp, binV, intOp, shOp, boolOp, hav, delB, eqL, SameI, strOp, ↓reduceIte, Zj, Zk, Nat.reduceAdd, Nat.reduceLT, Nat.reduceEqDiff, Nat.reduceMul, Nat.reduceLeDiff, if_true, Zn, reduceCtorEq, ZA, eq_self, Int.reduceLE, Int.reduceLT, Int.reduceToNat, ne_eq, Nat.reduceSub]
          repeat refine And.intro (by omega) ?_
          intro g
          simp only [List.map_cons, List.map_nil, updL, upd, Nat.reduceEqDiff, if_true, if_false, ↓reduceIte]
          refine hK _ _ ?_; clear hK K
          exact roundN (m := m - 1) (by omega) ⟨_, k + 1, by omega, hd', rfl, rfl⟩
        · refine Cd.skip ?_
          refine inBN ?_
          refine thenN ?_
          refine Cd.rr [1, 5, 8, 9, 10] fun K hK => ?_
          simp (maxSteps := 2000000) (disch := first | omega | (simp only [E4, *] <;> omega) | fail) only [↓E0, E1, env0, envN, evOps, evOp, evQs, evQ, evV, setD, pureOp, ev, upd, updL, binW, eqOp, binV, intOp, shOp, boolOp, hav, delB, eqL, SameI, strOp, ↓reduceIte, Zj, Zk, Nat.reduceAdd, Nat.reduceLT, Nat.reduceEqDiff, Nat.reduceMul, Nat.reduceLeDiff, if_true, Zn, reduceCtorEq, ZA, eq_self, Int.reduceLE, Int.reduceLT, Int.reduceToNat, ne_eq, Nat.reduceSub]
          repeat refine And.intro (by omega) ?_
          intro g
          simp only [List.map_cons, List.map_nil, updL, upd, Nat.reduceEqDiff, if_true, if_false, ↓reduceIte]
          refine hK _ _ ?_; clear hK K
          exact roundN (m := m - 1) (by omega) ⟨_, k + 1, by omega, hd', by rw [maskL_over (by omega)]; rfl, rfl⟩
    clear hK
    simp (maxSteps := 2000000) (disch := first | omega | (simp only [E4, *] <;> omega) | fail) only [↓E0, E1, env0, envN, evOps, evOp, evQs, evQ, evV, setD, pureOp, ev, upd, updL, gate, binW, eqOp, binV, intOp, shOp, boolOp, convV, cellsAt, findB, hav, delB, eqL, SameI, strOp, cvtQ, ↓reduceIte, Zj, Zk, Nat.reduceAdd, Nat.reduceLT, Nat.reduceEqDiff, Nat.reduceMul, Nat.reduceLeDiff, if_true, Zn, reduceCtorEq, ZA, eq_self, Int.reduceLE, Int.reduceLT, Int.reduceToNat, ne_eq, Nat.reduceSub, Tint3, Tpar5]
    refine ⟨fun h3 => ?_, fun h3 => ?_⟩
    · skip
      refine ⟨fun h4 => ?_, fun h4 => ?_⟩
      · repeat refine And.intro (by omega) ?_
        intro g
        simp only [List.map_cons, List.map_nil, updL, upd, Nat.reduceEqDiff, if_true, if_false, ↓reduceIte]
        refine J _ _ ?_
        simp at h4 ⊢
        omega
      · repeat refine And.intro (by omega) ?_
        intro g
        simp only [List.map_cons, List.map_nil, updL, upd, Nat.reduceEqDiff, if_true, if_false, ↓reduceIte]
        refine J _ _ ?_
        simp at h4 ⊢
        omega
    · have h3 := of_decide_eq_false h3
      repeat refine And.intro (by omega) ?_
      intro g
      simp only [List.map_cons, List.map_nil, updL, upd, Nat.reduceEqDiff, if_true, if_false, ↓reduceIte]
      refine J _ _ ?_
      simp
      omega
  · refine Cd.exit (thenX (roundX (inBX ?_)))
    refine thenN ?_
    obtain rfl : k = 8 := by omega
    refine Cd.rs [4] fun K hK => ?_
    have hj2 : 2 ^ n ≤ 2 ^ 8 := Nat.pow_le_pow_right (by omega) hn
    simp (maxSteps := 2000000) (disch := first | omega | (simp only [E4, shOp, shl_i64, *] <;> omega) | fail) only [↓E0, E1, env0, envN, evOps, evOp, evQs, evQ, evV, setD, pureOp, ev, upd, updL, binW, eqOp, binV, intOp, shOp, boolOp, hav, delB, eqL, SameI, strOp, ↓reduceIte, Zj, Zk, Nat.reduceAdd, Nat.reduceLT, Nat.reduceEqDiff, Nat.reduceMul, Nat.reduceLeDiff, if_true, Zn, reduceCtorEq, ZA, eq_self, Int.reduceLE, Int.reduceLT, Int.reduceToNat, ne_eq, Nat.reduceSub, shOp, shl_i64]
    repeat refine And.intro (by omega) ?_
    repeat refine And.intro (by omega) ?_
    intro g
    simp only [List.map_cons, List.map_nil, updL, upd, Nat.reduceEqDiff, if_true, if_false, ↓reduceIte]
    refine hK _ _ ?_; clear hK K
    refine Cd.ret ?_
    simp (maxSteps := 2000000) (disch := first | omega | (simp only [E4, *] <;> omega) | fail) only [↓E0, E1, evP, evPlan, env0, envN, evOps, evOp, evQs, evQ, evV, setD, pureOp, ev, upd, updL, gate, binW, eqOp, binV, intOp, shOp, boolOp, unV, convV, nilV, fieldAddrV, indexAddrV, extractV, cellAt, cellsAt, findB, setB, fillL, buildV, Value.cells, lenV, minV, maxV, hav, sliceV, loV, hiV, bslQ, mksQ, appQ, partsOk, partsCells, delB, eqL, SameI, strOp, apzQ, cvtQ, capV, ↓reduceIte, Zj, Zk, Nat.reduceAdd, Nat.reduceLT, Nat.reduceEqDiff, Nat.reduceMul, Nat.reduceLeDiff, if_true, Zn, reduceCtorEq, ZA, eq_self, Int.reduceLE, Int.reduceLT, Int.reduceToNat, ne_eq, Nat.reduceSub]
    exact congrArg Value.bool (mask_end hx hn hd)

theorem IsGrid_c (s : Int) (x o : List Int) (hx : Bytes8 x) (ho : Bytes8 o) : Gives Try.prog 29 #[.agg (gc s x o).toArray] (.bool (gridB s x o)) := by
  have hl := hx.len
  have hm := ho.len
  refine Gives.of fun w => ?_
  refine acall_of (N := 39) (c := _) (rs := [.tmp 2]) (args := [_]) Try.func29 rfl (by decide) rfl rfl (Nat.le_of_ble_eq_true rfl) ?_
  refine Cd.rs [1] fun K hK => ?_
  simp (maxSteps := 2000000) (disch := first | omega | (simp only [E4, *] <;> omega) | fail) only [↓E0, E1, env0, envN, evOps, evOp, evQs, evQ, evV, setD, pureOp, ev, upd, updL, Value.cells, hav, delB, ↓reduceIte, Zj, Zk, Nat.reduceAdd, Nat.reduceLT, Nat.reduceEqDiff, Nat.reduceMul, Nat.reduceLeDiff, if_true, Zn, reduceCtorEq, ZA, eq_self, Int.reduceLE, Int.reduceLT, Int.reduceToNat, ne_eq, Nat.reduceSub]
  intro b1 hb1
  repeat refine And.intro (by omega) ?_
  intro g
  simp only [List.map_cons, List.map_nil, updL, upd, Nat.reduceEqDiff, if_true, if_false, ↓reduceIte]
  refine hK _ _ ?_; clear hK K
  refine Cd.seq ?_
  refine Cd.qs [1, 23] fol (by kernel_rfl) fun K hK => ?_
  have J : ∀ g b, (b = false ↔ (2 ≤ s ∧ s ≤ 8) ∧ IsPerm x s.toNat ∧ IsPerm o s.toNat) → K (updL [(1, .pointer (some ⟨b1, 0, none⟩)), (23, .bool b)] g) := by
    intro g b hb
    refine hK _ ?_
    clear hK K
    refine Cd.cond rfl (fun h1 => ?_) (fun h1 => ?_)
    · refine Cd.rs [2] fun K hK => ?_
      simp (maxSteps := 2000000) (disch := first | omega | (simp only [E4, *] <;> omega) | fail) only [↓E0, E1, env0, envN, evOps, evOp, evQs, evQ, evV, setD, pureOp, ev, upd, updL, hav, delB, ↓reduceIte, Zj, Zk, Nat.reduceAdd, Nat.reduceLT, Nat.reduceEqDiff, Nat.reduceMul, Nat.reduceLeDiff, if_true, Zn, reduceCtorEq, ZA, eq_self, Int.reduceLE, Int.reduceLT, Int.reduceToNat, ne_eq, Nat.reduceSub]
      repeat refine And.intro (by omega) ?_
      intro g
      simp only [List.map_cons, List.map_nil, updL, upd, Nat.reduceEqDiff, if_true, if_false, ↓reduceIte]
      refine hK _ _ ?_; clear hK K
      refine Cd.ret (thenR ?_)
      simp (maxSteps := 2000000) (disch := first | omega | (simp only [E4, *] <;> omega) | fail) only [↓E0, E1, evP, evPlan, env0, envN, evOps, evOp, evQs, evQ, evV, setD, pureOp, ev, upd, updL, gate, binW, eqOp, binV, intOp, shOp, boolOp, unV, convV, nilV, fieldAddrV, indexAddrV, extractV, cellAt, cellsAt, findB, setB, fillL, buildV, Value.cells, lenV, minV, maxV, hav, sliceV, loV, hiV, bslQ, mksQ, appQ, partsOk, partsCells, delB, eqL, SameI, strOp, apzQ, cvtQ, capV, ↓reduceIte, Zj, Zk, Nat.reduceAdd, Nat.reduceLT, Nat.reduceEqDiff, Nat.reduceMul, Nat.reduceLeDiff, if_true, Zn, reduceCtorEq, ZA, eq_self, Int.reduceLE, Int.reduceLT, Int.reduceToNat, ne_eq, Nat.reduceSub]
      exact congrArg Value.bool (gridB_false fun h => by rw [hb.2 ⟨⟨h.1, h.2.1⟩, h.2.2.1, h.2.2.2.1⟩] at h1; cases h1).symm
    · obtain ⟨hs, hpx, hpo⟩ := hb.1 h1
      obtain ⟨n, rfl⟩ : ∃ n : Nat, s = (n : Int) := ⟨s.toNat, by omega⟩
      rw [Int.toNat_natCast] at hpx hpo
      refine Cd.skip ?_
      refine thenN ?_
      refine Cd.seq ?_
      refine Cd.rs [1, 25, 26] fun K hK => ?_
      simp (maxSteps := 2000000) (disch := first | omega | (simp only [E4, hl, hm, *] <;> omega) | fail) only [↓E0, E1, env0, envN, evOps, evOp, evQs, evQ, evV, setD, pureOp, ev, upd, updL, cellAt, cellsAt, findB, setB, hav, delB, ↓reduceIte, Zj, Zk, Nat.reduceAdd, Nat.reduceLT, Nat.reduceEqDiff, Nat.reduceMul, Nat.reduceLeDiff, if_true, Zn, reduceCtorEq, ZA, eq_self, Int.reduceLE, Int.reduceLT, Int.reduceToNat, ne_eq, Nat.reduceSub, Tld27, hl, hm]
      refine callK_gives (n_c _ x o hl hm) ?_
      simp (maxSteps := 2000000) (disch := first | omega | (simp only [E4, *] <;> omega) | fail) only [↓E0, E1, env0, envN, evOps, evOp, evQs, evQ, evV, setD, pureOp, ev, upd, updL, cellAt, cellsAt, findB, setB, hav, delB, ↓reduceIte, Zj, Zk, Nat.reduceAdd, Nat.reduceLT, Nat.reduceEqDiff, Nat.reduceMul, Nat.reduceLeDiff, if_true, Zn, reduceCtorEq, ZA, eq_self, Int.reduceLE, Int.reduceLT, Int.reduceToNat, ne_eq, Nat.reduceSub, Tld27]
      repeat refine And.intro (by omega) ?_
      intro g
      simp only [List.map_cons, List.map_nil, updL, upd, Nat.reduceEqDiff, if_true, if_false, ↓reduceIte]
      refine hK _ _ ?_; clear hK K
      refine Cd.block ?_
      refine Cd.loop (fun m ρ M => ∃ g k, k + m = n ∧ (∀ i, i < k → x.getD i 0 ≠ o.getD i 0) ∧ ρ = updL [(1, .pointer (some ⟨b1, 0, none⟩)), (25, .int .i64 (n : Int)), (26, .int .i64 (k : Int))] g ∧ M = [(b1, gc (n : Int) x o)]) n
        ⟨_, 0, Nat.zero_add _, (fun _ h => absurd h (Nat.not_lt_zero _)), rfl, rfl⟩ ?_
      rintro m ρ M ⟨g, k, hk, hd, rfl, rfl⟩
      refine Cd.rs [1, 25, 26, 27] fun K hK => ?_
      simp (maxSteps := 2000000) (disch := first | omega | (simp only [E4, hl, hm, *] <;> omega) | fail) only [↓E0, E1, env0, envN, evOps, evOp, evQs, evQ, evV, setD, pureOp, ev, upd, updL, binW, eqOp, binV, intOp, shOp, boolOp, hav, delB, eqL, SameI, strOp, ↓reduceIte, Zj, Zk, Nat.reduceAdd, Nat.reduceLT, Nat.reduceEqDiff, Nat.reduceMul, Nat.reduceLeDiff, if_true, Zn, reduceCtorEq, ZA, eq_self, Int.reduceLE, Int.reduceLT, Int.reduceToNat, ne_eq, Nat.reduceSub, hl, hm]
      repeat refine And.intro (by omega) ?_
      intro g
      simp only [List.map_cons, List.map_nil, updL, upd, Nat.reduceEqDiff, if_true, if_false, ↓reduceIte]
      refine hK _ _ ?_; clear hK K
      refine Cd.seq ?_
      refine Cd.condd rfl (fun h2 => ?_) (fun h2 => ?_)
      · refine Cd.skip ?_
        refine thenN ?_
        refine Cd.seq ?_
        refine Cd.block ?_
        refine Cd.rs [1, 3, 25, 26] fun K hK => ?_
        simp (maxSteps := 2000000) (disch := first | omega | (simp only [E4, *] <;> omega) | fail) only [↓E0, E1, env0, envN, evOps, evOp, evQs, evQ, evV, setD, pureOp, ev, upd, updL, hav, delB, ↓reduceIte, Zj, Zk, Nat.reduceAdd, Nat.reduceLT, Nat.reduceEqDiff, Nat.reduceMul, Nat.reduceLeDiff, if_true, Zn, reduceCtorEq, ZA, eq_self, Int.reduceLE, Int.reduceLT, Int.reduceToNat, ne_eq, Nat.reduceSub]
        repeat refine And.intro (by omega) ?_
        intro g
        simp only [List.map_cons, List.map_nil, updL, upd, Nat.reduceEqDiff, if_true, if_false, ↓reduceIte]
        refine hK _ _ ?_; clear hK K
        refine Cd.qs [1, 25, 26, 37] fol (by kernel_rfl) fun K hK => ?_
        simp (maxSteps := 2000000) (disch := first | omega | (simp only [E4, hl, hm, *] <;> omega) | fail) only [↓E0, E1, evPlan, env0, envN, evOps, evOp, evQs, evQ, evV, setD, pureOp, ev, upd, updL, binW, eqOp, binV, intOp, shOp, boolOp, fieldAddrV, indexAddrV, cellAt, cellsAt, findB, hav, delB, eqL, SameI, strOp, ↓reduceIte, Zj, Zk, Nat.reduceAdd, Nat.reduceLT, Nat.reduceEqDiff, Nat.reduceMul, Nat.reduceLeDiff, if_true, Zn, reduceCtorEq, ZA, eq_self, Int.reduceLE, Int.reduceLT, Int.reduceToNat, ne_eq, Nat.reduceSub, Tarr22, Tfld27_1, Tfld27_2, Tld5, hl, hm]
        repeat refine And.intro (by omega) ?_
        repeat refine And.intro (by omega) ?_
        intro g
        simp only [List.map_cons, List.map_nil, updL, upd, Nat.reduceEqDiff, if_true, if_false, ↓reduceIte]
        refine hK _ ?_; clear hK K
        refine Cd.cond rfl (fun h3 => ?_) (fun h3 => ?_)
        · refine Cd.rs [2] fun K hK => ?_
          simp (maxSteps := 2000000) (disch := first | omega | (simp only [E4, *] <;> omega) | fail) only [↓E0, E1, env0, envN, evOps, evOp, evQs, evQ, evV, setD, pureOp, ev, upd, updL, hav, delB, ↓reduceIte, Zj, Zk, Nat.reduceAdd, Nat.reduceLT, Nat.reduceEqDiff, Nat.reduceMul, Nat.reduceLeDiff, if_true, Zn, reduceCtorEq, ZA, eq_self, Int.reduceLE, Int.reduceLT, Int.reduceToNat, ne_eq, Nat.reduceSub]
          repeat refine And.intro (by omega) ?_
          intro g
          simp only [List.map_cons, List.map_nil, updL, upd, Nat.reduceEqDiff, if_true, if_false, ↓reduceIte]
          refine hK _ _ ?_; clear hK K
          refine Cd.ret (inBR (thenR (roundR (inBR (thenR ?_)))))
          simp (maxSteps := 2000000) (disch := first | omega | (simp only [E4, *] <;> omega) | fail) only [↓E0, E1, evP, evPlan, env0, envN, evOps, evOp, evQs, evQ, evV, setD, pureOp, ev, upd, updL, gate, binW, eqOp, binV, intOp, shOp, boolOp, unV, convV, nilV, fieldAddrV, indexAddrV, extractV, cellAt, cellsAt, findB, setB, fillL, buildV, Value.cells, lenV, minV, maxV, hav, sliceV, loV, hiV, bslQ, mksQ, appQ, partsOk, partsCells, delB, eqL, SameI, strOp, apzQ, cvtQ, capV, ↓reduceIte, Zj, Zk, Nat.reduceAdd, Nat.reduceLT, Nat.reduceEqDiff, Nat.reduceMul, Nat.reduceLeDiff, if_true, Zn, reduceCtorEq, ZA, eq_self, Int.reduceLE, Int.reduceLT, Int.reduceToNat, ne_eq, Nat.reduceSub]
          exact congrArg Value.bool (gridB_false fun h => h.2.2.2.2 k (by omega) (by simpa using h3)).symm
        · refine Cd.skip ?_
          refine inBN ?_
          refine thenN ?_
          refine Cd.rr [1, 25, 26] fun K hK => ?_
          simp (maxSteps := 2000000) (disch := first | omega | (simp only [E4, *] <;> omega) | fail) only [↓E0, E1, env0, envN, evOps, evOp, evQs, evQ, evV, setD, pureOp, ev, upd, updL, binW, eqOp, binV, intOp, shOp, boolOp, hav, delB, eqL, SameI, strOp, ↓reduceIte, Zj, Zk, Nat.reduceAdd, Nat.reduceLT, Nat.reduceEqDiff, Nat.reduceMul, Nat.reduceLeDiff, if_true, Zn, reduceCtorEq, ZA, eq_self, Int.reduceLE, Int.reduceLT, Int.reduceToNat, ne_eq, Nat.reduceSub]
          repeat refine And.intro (by omega) ?_
          intro g
          simp only [List.map_cons, List.map_nil, updL, upd, Nat.reduceEqDiff, if_true, if_false, ↓reduceIte]
          refine hK _ _ ?_; clear hK K
          exact roundN (m := m - 1) (by omega) ⟨_, k + 1, by omega, fun i hi => by
            rcases Nat.lt_succ_iff_lt_or_eq.1 hi with h4 | rfl
            · exact hd i h4
            · simpa using h3, rfl, rfl⟩
      · refine Cd.exit (thenX (roundX (inBX ?_)))
        refine thenN ?_
        refine Cd.rs [2] fun K hK => ?_
        simp (maxSteps := 2000000) (disch := first | omega | (simp only [E4, *] <;> omega) | fail) only [↓E0, E1, env0, envN, evOps, evOp, evQs, evQ, evV, setD, pureOp, ev, upd, updL, hav, delB, ↓reduceIte, Zj, Zk, Nat.reduceAdd, Nat.reduceLT, Nat.reduceEqDiff, Nat.reduceMul, Nat.reduceLeDiff, if_true, Zn, reduceCtorEq, ZA, eq_self, Int.reduceLE, Int.reduceLT, Int.reduceToNat, ne_eq, Nat.reduceSub]
        repeat refine And.intro (by omega) ?_
        intro g
        simp only [List.map_cons, List.map_nil, updL, upd, Nat.reduceEqDiff, if_true, if_false, ↓reduceIte]
        refine hK _ _ ?_; clear hK K
        refine Cd.ret ?_
        simp (maxSteps := 2000000) (disch := first | omega | (simp only [E4, *] <;> omega) | fail) only [↓E0, E1, evP, evPlan, env0, envN, evOps, evOp, evQs, evQ, evV, setD, pureOp, ev, upd, updL, gate, binW, eqOp, binV, intOp, shOp, boolOp, unV, convV, nilV, fieldAddrV, indexAddrV, extractV, cellAt, cellsAt, findB, setB, fillL, buildV, Value.cells, lenV, minV, maxV, hav, sliceV, loV, hiV, bslQ, mksQ, appQ, partsOk, partsCells, delB, eqL, SameI, strOp, apzQ, cvtQ, capV, ↓reduceIte, Zj, Zk, Nat.reduceAdd, Nat.reduceLT, Nat.reduceEqDiff, Nat.reduceMul, Nat.reduceLeDiff, if_true, Zn, reduceCtorEq, ZA, eq_self, Int.reduceLE, Int.reduceLT, Int.reduceToNat, ne_eq, Nat.reduceSub]
        exact congrArg Value.bool (gridB_true ⟨hs.1, hs.2, hpx, hpo, fun i hi => hd i (by omega)⟩).symm
  clear hK
  simp (maxSteps := 2000000) (disch := first | omega | (simp only [E4, hl, hm, *] <;> omega) | fail) only [↓E0, E1, evPlan, env0, envN, evOps, evOp, evQs, evQ, evV, setD, pureOp, ev, upd, updL, gate, unV, fieldAddrV, cellAt, cellsAt, findB, setB, hav, sliceV, loV, hiV, delB, ↓reduceIte, Zj, Zk, Nat.reduceAdd, Nat.reduceLT, Nat.reduceEqDiff, Nat.reduceMul, Nat.reduceLeDiff, if_true, Zn, reduceCtorEq, ZA, eq_self, Int.reduceLE, Int.reduceLT, Int.reduceToNat, ne_eq, Nat.reduceSub, Tarr22, Tfld27_0, Tfld27_1, Tfld27_2, Tld2, Tld27, hl, hm]
  refine callQ_gives (within_c _ _ _) ?_
  simp (maxSteps := 2000000) (disch := first | omega | (simp only [E4, hl, hm, *] <;> omega) | fail) only [↓E0, E1, evPlan, env0, envN, evOps, evOp, evQs, evQ, evV, setD, pureOp, ev, upd, updL, gate, unV, fieldAddrV, cellAt, cellsAt, findB, setB, hav, sliceV, loV, hiV, delB, ↓reduceIte, Zj, Zk, Nat.reduceAdd, Nat.reduceLT, Nat.reduceEqDiff, Nat.reduceMul, Nat.reduceLeDiff, if_true, Zn, reduceCtorEq, ZA, eq_self, Int.reduceLE, Int.reduceLT, Int.reduceToNat, ne_eq, Nat.reduceSub, Tarr22, Tfld27_0, Tfld27_1, Tfld27_2, Tld2, Tld27, hl, hm]
  refine ⟨fun h1 => ?_, fun h1 => ?_⟩
  · have hs : 2 ≤ s ∧ s ≤ 8 := by simpa using h1
    obtain ⟨n, rfl⟩ : ∃ n : Nat, s = (n : Int) := ⟨s.toNat, by omega⟩
    refine callQ_gives (n_c _ x o hl hm) ?_
    simp (maxSteps := 2000000) (disch := first | omega | (simp only [E4, *] <;> omega) | fail) only [↓E0, E1, evPlan, env0, envN, evOps, evOp, evQs, evQ, evV, setD, pureOp, ev, upd, updL, gate, unV, fieldAddrV, cellAt, cellsAt, findB, setB, hav, sliceV, loV, hiV, delB, ↓reduceIte, Zj, Zk, Nat.reduceAdd, Nat.reduceLT, Nat.reduceEqDiff, Nat.reduceMul, Nat.reduceLeDiff, if_true, Zn, reduceCtorEq, ZA, eq_self, Int.reduceLE, Int.reduceLT, Int.reduceToNat, ne_eq, Nat.reduceSub, Tarr22, Tfld27_0, Tfld27_1, Tfld27_2, Tld2, Tld27]
    refine callQ_reads (isOrder_c b1 1 8 x n hx (by omega) (by omega)) (.cons (.sub (cs := gc (n : Int) x o) (by simp [findB]) (by rw [ints_length, hl]; exact sub_gc_x hl)) .nil) ?_
    simp (maxSteps := 2000000) (disch := first | omega | (simp only [E4, hl, hm, *] <;> omega) | fail) only [↓E0, E1, evPlan, env0, envN, evOps, evOp, evQs, evQ, evV, setD, pureOp, ev, upd, updL, gate, unV, fieldAddrV, cellAt, cellsAt, findB, setB, hav, sliceV, loV, hiV, delB, ↓reduceIte, Zj, Zk, Nat.reduceAdd, Nat.reduceLT, Nat.reduceEqDiff, Nat.reduceMul, Nat.reduceLeDiff, if_true, Zn, reduceCtorEq, ZA, eq_self, Int.reduceLE, Int.reduceLT, Int.reduceToNat, ne_eq, Nat.reduceSub, Tarr22, Tfld27_0, Tfld27_1, Tfld27_2, Tld2, Tld27, hl, hm]
    refine ⟨fun h2 => ?_, fun h2 => ?_⟩
    · refine callQ_gives (n_c _ x o hl hm) ?_
      simp (maxSteps := 2000000) (disch := first | omega | (simp only [E4, *] <;> omega) | fail) only [↓E0, E1, evPlan, env0, envN, evOps, evOp, evQs, evQ, evV, setD, pureOp, ev, upd, updL, gate, unV, fieldAddrV, cellAt, cellsAt, findB, setB, hav, sliceV, loV, hiV, delB, ↓reduceIte, Zj, Zk, Nat.reduceAdd, Nat.reduceLT, Nat.reduceEqDiff, Nat.reduceMul, Nat.reduceLeDiff, if_true, Zn, reduceCtorEq, ZA, eq_self, Int.reduceLE, Int.reduceLT, Int.reduceToNat, ne_eq, Nat.reduceSub, Tarr22, Tfld27_0, Tfld27_1, Tfld27_2, Tld2, Tld27]
      refine callQ_reads (isOrder_c b1 9 8 o n ho (by omega) (by omega)) (.cons (.sub (cs := gc (n : Int) x o) (by simp [findB]) (by rw [ints_length, hm]; exact sub_gc_o hl hm)) .nil) ?_
      simp (maxSteps := 2000000) (disch := first | omega | (simp only [E4, hl, hm, *] <;> omega) | fail) only [↓E0, E1, evPlan, env0, envN, evOps, evOp, evQs, evQ, evV, setD, pureOp, ev, upd, updL, gate, unV, fieldAddrV, cellAt, cellsAt, findB, setB, hav, sliceV, loV, hiV, delB, ↓reduceIte, Zj, Zk, Nat.reduceAdd, Nat.reduceLT, Nat.reduceEqDiff, Nat.reduceMul, Nat.reduceLeDiff, if_true, Zn, reduceCtorEq, ZA, eq_self, Int.reduceLE, Int.reduceLT, Int.reduceToNat, ne_eq, Nat.reduceSub, Tarr22, Tfld27_0, Tfld27_1, Tfld27_2, Tld2, Tld27, hl, hm]
      repeat refine And.intro (by omega) ?_
      intro g
      simp only [List.map_cons, List.map_nil, updL, upd, Nat.reduceEqDiff, if_true, if_false, ↓reduceIte]
      refine J g _ ?_
      simp at h2
      simp [h2, hs]
    · repeat refine And.intro (by omega) ?_
      intro g
      simp only [List.map_cons, List.map_nil, updL, upd, Nat.reduceEqDiff, if_true, if_false, ↓reduceIte]
      refine J g _ ?_
      simp at h2
      simp [h2]
  · repeat refine And.intro (by omega) ?_
    intro g
    simp only [List.map_cons, List.map_nil, updL, upd, Nat.reduceEqDiff, if_true, if_false, ↓reduceIte]
    refine J g _ ?_
    simp at h1
    simp
    omega

end Go.Proofs

/-
  What the functions of this part hand back: each as a plain function of its arguments. Conditions: none.
-/
namespace Go.Proofs
open Go.W8
set_option linter.unusedVariables false
set_option linter.unusedSimpArgs false
set_option linter.unusedSectionVars false
set_option maxRecDepth 8000
set_option maxHeartbeats 4000000
theorem getD_set {l : List Int} {i j : Nat} {v : Int} (h : i < l.length) : (l.set i v).getD j 0 = if i = j then v else l.getD j 0 := by
  rw [List.getD_eq_getElem?_getD, List.getElem?_set]
  split
  · rename_i e; subst e; first | rfl | (rw [if_pos h]; rfl)
  · rw [List.getD_eq_getElem?_getD]
theorem gridB_perm {s : Int} {x o : List Int} (h : gridB s x o = true) : ∃ n : Nat, s = (n : Int) ∧ 2 ≤ n ∧ n ≤ 8 ∧ IsPerm x n ∧ IsPerm o n := by
  have := of_decide_eq_true h
  exact ⟨s.toNat, by have := this.1; omega, by have := this.1; omega, by have := this.2.1; omega, this.2.2.1, this.2.2.2.1⟩

end Go.Proofs

/-
  What the functions of this part hand back: each as a plain function of its arguments. Conditions: none.
-/
namespace Go.Proofs
open Go.W8
set_option linter.unusedVariables false
set_option linter.unusedSimpArgs false
set_option linter.unusedSectionVars false
set_option maxRecDepth 8000
set_option maxHeartbeats 4000000
def freeS (used : List Bool) : Nat → Bool := fun c => !used.getD c false
theorem freeS_set {used : List Bool} {a : Nat} (h : a < used.length) : freeS (used.set a true) = rem (freeS used) a := by
  funext c
  unfold freeS
  simp only [rem_at]
  rw [List.getD_eq_getElem?_getD, List.getD_eq_getElem?_getD, List.getElem?_set]
  by_cases e : a = c
  · subst e; simp [h]
  · rw [if_neg e]
    have : (c == a) = false := beq_eq_false_iff_ne.2 (Ne.symm e)
    rw [this]; simp
/-- The counts behind the first a columns. -/
def cntP (n : Nat) (w : Nat → Nat → Int) (C : List Int) (sum sign : Int) (m k : Nat) (S : Nat → Bool) (a : Nat) : List Int :=
  (List.range C.length).map fun j : Nat => C.getD j 0 + sign * sumN (fun a => if S a then sg (cb S a) * dA n w m (k + 1) (rem S a) ((j : Int) - sum - 8 * ((m + 1 : Nat) : Int) + w k a) else 0) a
def cntL (n : Nat) (w : Nat → Nat → Int) (C : List Int) (sum sign : Int) (m k : Nat) (S : Nat → Bool) : List Int :=
  (List.range C.length).map fun j : Nat => C.getD j 0 + sign * dA n w m k S ((j : Int) - sum - 8 * (m : Int))
section
variable {n : Nat} {w : Nat → Nat → Int} {C : List Int} {sum sign : Int} {m k a : Nat} {S : Nat → Bool}
theorem cntP_len : (cntP n w C sum sign m k S a).length = C.length := by simp [cntP]
theorem cntL_len : (cntL n w C sum sign m k S).length = C.length := by simp [cntL]
theorem cntP_get {j : Nat} (h : j < C.length) : (cntP n w C sum sign m k S a).getD j 0 = C.getD j 0 + sign * sumN (fun a => if S a then sg (cb S a) * dA n w m (k + 1) (rem S a) ((j : Int) - sum - 8 * ((m + 1 : Nat) : Int) + w k a) else 0) a := by
  unfold cntP
  rw [List.getD_eq_getElem?_getD, List.getElem?_map, List.getElem?_range h]; rfl
theorem cntL_get {j : Nat} (h : j < C.length) : (cntL n w C sum sign m k S).getD j 0 = C.getD j 0 + sign * dA n w m k S ((j : Int) - sum - 8 * (m : Int)) := by
  unfold cntL
  rw [List.getD_eq_getElem?_getD, List.getElem?_map, List.getElem?_range h]; rfl
theorem ext0 {A B : List Int} (h : A.length = B.length) (hg : ∀ i, i < A.length → A.getD i 0 = B.getD i 0) : A = B := by
  apply List.ext_getElem h
  intro i h1 h2
  have := hg i h1
  rw [List.getD_eq_getElem?_getD, List.getD_eq_getElem?_getD, List.getElem?_eq_getElem h1, List.getElem?_eq_getElem h2] at this
  simpa using this
theorem cntP_zero : cntP n w C sum sign m k S 0 = C := by
  refine ext0 cntP_len fun j hj => ?_
  rw [cntP_len] at hj
  rw [cntP_get hj]
  simp [sumN]
theorem cntP_full : cntP n w C sum sign m k S n = cntL n w C sum sign (m + 1) k S := by
  refine ext0 (by rw [cntP_len, cntL_len]) fun j hj => ?_
  rw [cntP_len] at hj
  rw [cntP_get hj, cntL_get hj]
  rfl
theorem cntP_skip (h : S a = false) : cntP n w C sum sign m k S (a + 1) = cntP n w C sum sign m k S a := by
  refine ext0 (by rw [cntP_len, cntP_len]) fun j hj => ?_
  rw [cntP_len] at hj
  rw [cntP_get hj, cntP_get hj]
  show _ + sign * (sumN _ a + _) = _
  simp [h]
theorem cntP_step (h : S a = true) {sum' sign' : Int} (hs : sum' = sum + (8 - w k a)) (hg : sign' = sign * sg (cb S a)) : cntL n w (cntP n w C sum sign m k S a) sum' sign' m (k + 1) (rem S a) = cntP n w C sum sign m k S (a + 1) := by
  refine ext0 (by rw [cntP_len, cntL_len, cntP_len]) fun j hj => ?_
  rw [cntL_len, cntP_len] at hj
  rw [cntL_get (by rw [cntP_len]; exact hj), cntP_get hj, cntP_get hj]
  have e1 : sumN (fun a => if S a then sg (cb S a) * dA n w m (k + 1) (rem S a) ((j : Int) - sum - 8 * ((m + 1 : Nat) : Int) + w k a) else 0) (a + 1) = sumN (fun a => if S a then sg (cb S a) * dA n w m (k + 1) (rem S a) ((j : Int) - sum - 8 * ((m + 1 : Nat) : Int) + w k a) else 0) a + sg (cb S a) * dA n w m (k + 1) (rem S a) ((j : Int) - sum - 8 * ((m + 1 : Nat) : Int) + w k a) := by
    show sumN _ a + (if S a = true then _ else _) = _
    rw [if_pos h]
  rw [e1, Int.mul_add, ← Int.add_assoc, hg, Int.mul_assoc, hs, show (j : Int) - (sum + (8 - w k a)) - 8 * (m : Int) = (j : Int) - sum - 8 * ((m + 1 : Nat) : Int) + w k a by omega]
theorem cntL_zero (h0 : 0 ≤ sum) (h1 : sum < C.length) : C.set sum.toNat (C.getD sum.toNat 0 + sign) = cntL n w C sum sign 0 k S := by
  refine ext0 (by rw [cntL_len, List.length_set]) fun j hj => ?_
  rw [List.length_set] at hj
  rw [cntL_get hj, getD_set (by omega)]
  show _ = _ + sign * (if _ then 1 else 0)
  by_cases e : sum.toNat = j
  · rw [if_pos e, if_pos (by omega), e, Int.mul_one]
  · rw [if_neg e, if_neg (by omega), Int.mul_zero, Int.add_zero]
theorem cntP_bound (hsg : sign = 1 ∨ sign = -1) {B : Int} (hB : ∀ j, -B ≤ C.getD j 0 ∧ C.getD j 0 ≤ B) (h0 : 0 ≤ B) : ∀ j, -(B + (n : Int) ^ m * (a : Int)) ≤ (cntP n w C sum sign m k S a).getD j 0 ∧ (cntP n w C sum sign m k S a).getD j 0 ≤ B + (n : Int) ^ m * (a : Int) := by
  intro j
  have hp : (0 : Int) ≤ (n : Int) ^ m := Int.pow_nonneg (Int.natCast_nonneg n)
  have hpa : (0 : Int) ≤ (n : Int) ^ m * (a : Int) := Int.mul_nonneg hp (Int.natCast_nonneg a)
  by_cases hj : j < C.length
  · rw [cntP_get hj]
    have h1 := sumN_bound (c := (n : Int) ^ m) (f := fun a => if S a then sg (cb S a) * dA n w m (k + 1) (rem S a) ((j : Int) - sum - 8 * ((m + 1 : Nat) : Int) + w k a) else 0) (fun i => by
      cases S i with
      | false => simp only [Bool.false_eq_true, if_false]; omega
      | true =>
        have := dA_bound n w m (k + 1) (rem S i) ((j : Int) - sum - 8 * ((m + 1 : Nat) : Int) + w k i)
        rcases sg_cases (cb S i) with h | h <;> rw [if_pos rfl, h] <;> omega) a
    have h2 := hB j
    rcases hsg with rfl | rfl <;> omega
  · rw [getD_far (by rw [cntP_len]; omega)]
    omega
end
section
variable (n : Nat) (hn : n ≤ 8) (wt : Nat → Nat → Int) (T : List Int) (hT : T.length = 64) (hw : ∀ r a, r < n → a < n → T.getD (r * 8 + a) 0 = 8 - wt r a ∧ -8 ≤ wt r a ∧ wt r a ≤ 8) (b cap : Nat)
include hn hT hw
theorem l04Count_c : ∀ (m k : Nat) (sum sign B : Int) (used : List Bool) (C : List Int), k + m = n → used.length = 8 → C.length = 16 * n + 1 → 0 ≤ sum → sum ≤ 16 * k → (sign = 1 ∨ sign = -1) → 0 ≤ B → B + (n : Int) ^ m ≤ 1000000000 → (∀ j, -B ≤ C.getD j 0 ∧ C.getD j 0 ≤ B) →
    GivesX Try.prog 47 #[.agg (ints .i64 T).toArray, .int .i64 (n : Int), .int .i64 (k : Int), .int .i64 sum, .int .i64 sign, .agg (bools used).toArray, .slice (some ⟨b, 0, none⟩) (16 * n + 1) cap] [(b, ints .i64 C)] []
      (fun _ M' => M' = [(b, ints .i64 (cntL n wt C sum sign m k (freeS used)))]) := by
  intro m
  induction m with
  | zero =>
    intro k sum sign B used C hk hu hC h0 h1 hs hB0 hB hb
    have p0 : (n : Int) ^ 0 = 1 := rfl
    have hbs := hb sum.toNat
    rw [← cntL_zero (by omega) (by omega)]
    refine GivesX.part ?_
    skip
    refine GivesX.of (callable_of Try.func47 rfl (by decide)) ?_ fun w hnd hlt hR => ?_
    · simp
    refine acall_of (N := 62) (c := _) (rs := []) (args := [_, _, _, _, _, _, _]) Try.func47 rfl (by decide) rfl rfl (Nat.le_of_ble_eq_true rfl) ?_
    refine Cd.rs [1, 2, 3, 4, 6, 7, 12] fun K hK => ?_
    simp (maxSteps := 2000000) (disch := first | (simp only [E4, hT, hu, hC] <;> omega) | omega | fail) only [↓E2, E3, bare, bareJ, ↓E0, E1, env0, envN, evOps, evOp, evQs, evQ, evV, setD, pureOp, ev, upd, updL, Value.cells, hav, delB, ↓reduceIte, Zj, Zk, Nat.reduceAdd, Nat.reduceLT, Nat.reduceEqDiff, Nat.reduceMul, Nat.reduceLeDiff, if_true, Zn, reduceCtorEq, ZA, eq_self, Int.reduceLE, Int.reduceLT, Int.reduceToNat, ne_eq, Nat.reduceSub, hT, hu, hC]
    repeat refine And.intro (by omega) ?_
    intro b1 hb1
    intro b2 hb2
    have nb2_b1 := hb2.ne
    try simp (maxSteps := 2000000) (disch := first | (simp only [E4, hT, hu, hC] <;> omega) | omega | fail) only [↓E2, E3, bare, bareJ, ↓E0, E1, env0, envN, evOps, evOp, evQs, evQ, evV, setD, pureOp, ev, upd, updL, Value.cells, hav, delB, ↓reduceIte, Zj, Zk, Nat.reduceAdd, Nat.reduceLT, Nat.reduceEqDiff, Nat.reduceMul, Nat.reduceLeDiff, if_true, Zn, reduceCtorEq, ZA, eq_self, Int.reduceLE, Int.reduceLT, Int.reduceToNat, ne_eq, Nat.reduceSub, hT, hu, hC, nb2_b1]
    repeat refine And.intro (by omega) ?_
    repeat refine And.intro (by omega) ?_
    intro g
    simp only [List.map_cons, List.map_nil, updL, upd, Nat.reduceEqDiff, if_true, if_false, ↓reduceIte]
    refine hK _ _ ?_; clear hK K
    refine Cd.nodup fun hnd => ?_
    have n1 : ¬ b1 = b := (nodup_cases (nodup_cases hnd).2).1 (b, _) List.mem_cons_self
    have n2 : ¬ b2 = b := (nodup_cases hnd).1 (b, _) (List.mem_cons_of_mem _ List.mem_cons_self)
    skip
    refine Cd.seq ?_
    refine Cd.rs [1, 2, 3, 4, 6, 7, 12, 19] fun K hK => ?_
    simp (maxSteps := 2000000) (disch := first | (simp only [E4, hT, hu, hC] <;> omega) | omega | fail) only [↓E2, E3, bare, bareJ, ↓E0, E1, env0, envN, evOps, evOp, evQs, evQ, evV, setD, pureOp, ev, upd, updL, binW, eqOp, binV, intOp, shOp, boolOp, hav, delB, eqL, SameI, strOp, ↓reduceIte, Zj, Zk, Nat.reduceAdd, Nat.reduceLT, Nat.reduceEqDiff, Nat.reduceMul, Nat.reduceLeDiff, if_true, Zn, reduceCtorEq, ZA, eq_self, Int.reduceLE, Int.reduceLT, Int.reduceToNat, ne_eq, Nat.reduceSub, hT, hu, hC, nb2_b1, n1, n2]
    repeat refine And.intro (by omega) ?_
    repeat refine And.intro (by omega) ?_
    intro g
    simp only [List.map_cons, List.map_nil, updL, upd, Nat.reduceEqDiff, if_true, if_false, ↓reduceIte]
    refine hK _ _ ?_; clear hK K
    refine Cd.condd rfl (fun h1 => ?_) (fun h1 => ?_)
    · refine Cd.rs [] fun K hK => ?_
      simp (maxSteps := 2000000) (disch := first | (simp only [E4, hT, hu, hC] <;> omega) | omega | fail) only [↓E2, E3, bare, bareJ, ↓E0, E1, env0, envN, evOps, evOp, evQs, evQ, evV, setD, pureOp, ev, upd, updL, binW, eqOp, binV, intOp, shOp, boolOp, indexAddrV, cellAt, cellsAt, findB, setB, Value.cells, hav, delB, eqL, SameI, strOp, ↓reduceIte, Zj, Zk, Nat.reduceAdd, Nat.reduceLT, Nat.reduceEqDiff, Nat.reduceMul, Nat.reduceLeDiff, if_true, Zn, reduceCtorEq, ZA, eq_self, Int.reduceLE, Int.reduceLT, Int.reduceToNat, ne_eq, Nat.reduceSub, Tld2, Tslc31, Tst2, hT, hu, hC, nb2_b1, n1, n2]
      repeat refine And.intro (by omega) ?_
      repeat refine And.intro (by omega) ?_
      intro g
      simp only [List.map_cons, List.map_nil, updL, upd, Nat.reduceEqDiff, if_true, if_false, ↓reduceIte]
      refine hK _ _ ?_; clear hK K
      refine Cd.ret (thenR ?_)
      exact ⟨[], rfl, _, SubP.of (List.Sublist.cons _ (List.Sublist.cons _ (List.Sublist.refl _))), rfl⟩
    · exact absurd h1 (by first | omega | (simp; omega))
  | succ m ih =>
    intro k sum sign B used C hk hu hC h0 h1 hs hB0 hB hb
    refine GivesX.part ?_
    skip
    refine GivesX.of (callable_of Try.func47 rfl (by decide)) ?_ fun w hnd hlt hR => ?_
    · simp
    refine acall_of (N := 62) (c := _) (rs := []) (args := [_, _, _, _, _, _, _]) Try.func47 rfl (by decide) rfl rfl (Nat.le_of_ble_eq_true rfl) ?_
    refine Cd.rs [1, 2, 3, 4, 6, 7, 12] fun K hK => ?_
    simp (maxSteps := 2000000) (disch := first | (simp only [E4, hT, hu, hC] <;> omega) | omega | fail) only [↓E2, E3, bare, bareJ, ↓E0, E1, env0, envN, evOps, evOp, evQs, evQ, evV, setD, pureOp, ev, upd, updL, Value.cells, hav, delB, ↓reduceIte, Zj, Zk, Nat.reduceAdd, Nat.reduceLT, Nat.reduceEqDiff, Nat.reduceMul, Nat.reduceLeDiff, if_true, Zn, reduceCtorEq, ZA, eq_self, Int.reduceLE, Int.reduceLT, Int.reduceToNat, ne_eq, Nat.reduceSub, hT, hu, hC]
    repeat refine And.intro (by omega) ?_
    intro b1 hb1
    intro b2 hb2
    have nb2_b1 := hb2.ne
    try simp (maxSteps := 2000000) (disch := first | (simp only [E4, hT, hu, hC] <;> omega) | omega | fail) only [↓E2, E3, bare, bareJ, ↓E0, E1, env0, envN, evOps, evOp, evQs, evQ, evV, setD, pureOp, ev, upd, updL, Value.cells, hav, delB, ↓reduceIte, Zj, Zk, Nat.reduceAdd, Nat.reduceLT, Nat.reduceEqDiff, Nat.reduceMul, Nat.reduceLeDiff, if_true, Zn, reduceCtorEq, ZA, eq_self, Int.reduceLE, Int.reduceLT, Int.reduceToNat, ne_eq, Nat.reduceSub, hT, hu, hC, nb2_b1]
    repeat refine And.intro (by omega) ?_
    repeat refine And.intro (by omega) ?_
    intro g
    simp only [List.map_cons, List.map_nil, updL, upd, Nat.reduceEqDiff, if_true, if_false, ↓reduceIte]
    refine hK _ _ ?_; clear hK K
    refine Cd.seq ?_
    refine Cd.rs [1, 2, 3, 4, 6, 7, 12, 19] fun K hK => ?_
    simp (maxSteps := 2000000) (disch := first | (simp only [E4, hT, hu, hC] <;> omega) | omega | fail) only [↓E2, E3, bare, bareJ, ↓E0, E1, env0, envN, evOps, evOp, evQs, evQ, evV, setD, pureOp, ev, upd, updL, binW, eqOp, binV, intOp, shOp, boolOp, hav, delB, eqL, SameI, strOp, ↓reduceIte, Zj, Zk, Nat.reduceAdd, Nat.reduceLT, Nat.reduceEqDiff, Nat.reduceMul, Nat.reduceLeDiff, if_true, Zn, reduceCtorEq, ZA, eq_self, Int.reduceLE, Int.reduceLT, Int.reduceToNat, ne_eq, Nat.reduceSub, hT, hu, hC, nb2_b1]
    repeat refine And.intro (by omega) ?_
    repeat refine And.intro (by omega) ?_
    intro g
    simp only [List.map_cons, List.map_nil, updL, upd, Nat.reduceEqDiff, if_true, if_false, ↓reduceIte]
    refine hK _ _ ?_; clear hK K
    refine Cd.condd rfl (fun h1 => absurd h1 (by first | omega | (simp; omega))) (fun h1 => ?_)
    refine Cd.skip ?_
    refine thenN ?_
    refine Cd.rs [1, 2, 3, 4, 6, 7, 12, 14] fun K hK => ?_
    simp (maxSteps := 2000000) (disch := first | (simp only [E4, hT, hu, hC] <;> omega) | omega | fail) only [↓E2, E3, bare, bareJ, ↓E0, E1, env0, envN, evOps, evOp, evQs, evQ, evV, setD, pureOp, ev, upd, updL, hav, delB, ↓reduceIte, Zj, Zk, Nat.reduceAdd, Nat.reduceLT, Nat.reduceEqDiff, Nat.reduceMul, Nat.reduceLeDiff, if_true, Zn, reduceCtorEq, ZA, eq_self, Int.reduceLE, Int.reduceLT, Int.reduceToNat, ne_eq, Nat.reduceSub, hT, hu, hC, nb2_b1]
    repeat refine And.intro (by omega) ?_
    repeat refine And.intro (by omega) ?_
    intro g
    simp only [List.map_cons, List.map_nil, updL, upd, Nat.reduceEqDiff, if_true, if_false, ↓reduceIte]
    refine hK _ _ ?_; clear hK K
    refine Cd.rs [1, 2, 3, 4, 6, 7, 12, 14, 15] fun K hK => ?_
    simp (maxSteps := 2000000) (disch := first | (simp only [E4, hT, hu, hC] <;> omega) | omega | fail) only [↓E2, E3, bare, bareJ, ↓E0, E1, env0, envN, evOps, evOp, evQs, evQ, evV, setD, pureOp, ev, upd, updL, hav, delB, ↓reduceIte, Zj, Zk, Nat.reduceAdd, Nat.reduceLT, Nat.reduceEqDiff, Nat.reduceMul, Nat.reduceLeDiff, if_true, Zn, reduceCtorEq, ZA, eq_self, Int.reduceLE, Int.reduceLT, Int.reduceToNat, ne_eq, Nat.reduceSub, hT, hu, hC, nb2_b1]
    repeat refine And.intro (by omega) ?_
    repeat refine And.intro (by omega) ?_
    intro g
    simp only [List.map_cons, List.map_nil, updL, upd, Nat.reduceEqDiff, if_true, if_false, ↓reduceIte]
    refine hK _ _ ?_; clear hK K
    refine Cd.block ?_
    refine Cd.loop (fun q ρ M => ∃ g a, a + q = n ∧ ρ = updL [(1, .int .i64 (n : Int)), (2, .int .i64 (k : Int)), (3, .int .i64 sum), (4, .int .i64 sign), (6, .slice (some ⟨b, 0, none⟩) (16 * n + 1) cap), (7, .pointer (some ⟨b1, 0, none⟩)), (12, .pointer (some ⟨b2, 0, none⟩)), (14, .int .i64 ((cb (freeS used) a : Nat) : Int)), (15, .int .i64 (a : Int))] g ∧
      SubP [(b2, bools used), (b1, ints .i64 T), (b, ints .i64 (cntP n wt C sum sign m k (freeS used) a))] M) n ⟨_, 0, Nat.zero_add _, rfl, by rw [cntP_zero]; exact SubP.refl _⟩ ?_
    rintro q ρ M ⟨g, a, ha, rfl, hM⟩
    refine Cd.sub hM ?_
    clear hM M
    refine Cd.nodup fun hnd => ?_
    have n1 : ¬ b1 = b := (nodup_cases (nodup_cases hnd).2).1 (b, _) List.mem_cons_self
    have n2 : ¬ b2 = b := (nodup_cases hnd).1 (b, _) (List.mem_cons_of_mem _ List.mem_cons_self)
    have n3 : ¬ b2 = b1 := (nodup_cases hnd).1 (b1, _) List.mem_cons_self
    have hcb := cb_le (freeS used) a
    skip
    skip
    refine Cd.seq ?_
    refine Cd.rs [1, 2, 3, 4, 6, 7, 12, 14, 15, 31] fun K hK => ?_
    simp (maxSteps := 2000000) (disch := first | (simp only [E4, hT, hu, hC] <;> omega) | omega | fail) only [↓E2, E3, bare, bareJ, ↓E0, E1, env0, envN, evOps, evOp, evQs, evQ, evV, setD, pureOp, ev, upd, updL, binW, eqOp, binV, intOp, shOp, boolOp, hav, delB, eqL, SameI, strOp, ↓reduceIte, Zj, Zk, Nat.reduceAdd, Nat.reduceLT, Nat.reduceEqDiff, Nat.reduceMul, Nat.reduceLeDiff, if_true, Zn, reduceCtorEq, ZA, eq_self, Int.reduceLE, Int.reduceLT, Int.reduceToNat, ne_eq, Nat.reduceSub, hT, hu, hC, nb2_b1, n1, n2, n3]
    repeat refine And.intro (by omega) ?_
    repeat refine And.intro (by omega) ?_
    intro g
    simp only [List.map_cons, List.map_nil, updL, upd, Nat.reduceEqDiff, if_true, if_false, ↓reduceIte]
    refine hK _ _ ?_; clear hK K
    refine Cd.condd rfl (fun h2 => ?_) (fun h2 => ?_)
    · refine Cd.skip ?_
      refine thenN ?_
      refine Cd.seq ?_
      refine Cd.block ?_
      refine Cd.seq ?_
      refine Cd.rs [1, 2, 3, 4, 6, 7, 12, 14, 15, 36] fun K hK => ?_
      simp (maxSteps := 2000000) (disch := first | (simp only [E4, hT, hu, hC] <;> omega) | omega | fail) only [↓E2, E3, bare, bareJ, ↓E0, E1, env0, envN, evOps, evOp, evQs, evQ, evV, setD, pureOp, ev, upd, updL, indexAddrV, cellAt, cellsAt, findB, hav, delB, ↓reduceIte, Zj, Zk, Nat.reduceAdd, Nat.reduceLT, Nat.reduceEqDiff, Nat.reduceMul, Nat.reduceLeDiff, if_true, Zn, reduceCtorEq, ZA, eq_self, Int.reduceLE, Int.reduceLT, Int.reduceToNat, ne_eq, Nat.reduceSub, Tarr69, Tld4, hT, hu, hC, nb2_b1, n1, n2, n3]
      repeat refine And.intro (by omega) ?_
      repeat refine And.intro (by omega) ?_
      intro g
      simp only [List.map_cons, List.map_nil, updL, upd, Nat.reduceEqDiff, if_true, if_false, ↓reduceIte]
      refine hK _ _ ?_; clear hK K
      refine Cd.cond rfl (fun h3 => ?_) (fun h3 => ?_)
      · refine Cd.exit (thenX (inBX ?_))
        refine thenN ?_
        have hS : freeS used a = false := by unfold freeS; rw [h3]; rfl
        have e1 : cb (freeS used) (a + 1) = cb (freeS used) a := by show cb _ a + _ = _; rw [hS]; simp
        refine Cd.rr [1, 2, 3, 4, 6, 7, 12, 14, 15] fun K hK => ?_
        simp (maxSteps := 2000000) (disch := first | (simp only [E4, hT, hu, hC] <;> omega) | omega | fail) only [↓E2, E3, bare, bareJ, ↓E0, E1, env0, envN, evOps, evOp, evQs, evQ, evV, setD, pureOp, ev, upd, updL, binW, eqOp, binV, intOp, shOp, boolOp, hav, delB, eqL, SameI, strOp, ↓reduceIte, Zj, Zk, Nat.reduceAdd, Nat.reduceLT, Nat.reduceEqDiff, Nat.reduceMul, Nat.reduceLeDiff, if_true, Zn, reduceCtorEq, ZA, eq_self, Int.reduceLE, Int.reduceLT, Int.reduceToNat, ne_eq, Nat.reduceSub, hT, hu, hC, nb2_b1, n1, n2, n3]
        repeat refine And.intro (by omega) ?_
        repeat refine And.intro (by omega) ?_
        intro g
        simp only [List.map_cons, List.map_nil, updL, upd, Nat.reduceEqDiff, if_true, if_false, ↓reduceIte]
        refine hK _ _ ?_; clear hK K
        exact roundN (m := q - 1) (by omega) ⟨_, a + 1, by omega, by rw [e1]; rfl, by rw [cntP_skip hS]; exact SubP.refl _⟩
      · have hS : freeS used a = true := by unfold freeS; simpa using h3
        have e1 : cb (freeS used) (a + 1) = cb (freeS used) a + 1 := by show cb _ a + _ = _; rw [hS]; simp
        obtain ⟨t1, t2, t3⟩ := hw k a (by omega) (by omega)
        have eg : (1 : Int) - 2 * (((cb (freeS used) a : Nat) : Int) % 2) = sg (cb (freeS used) a) := by
          unfold sg
          split <;> omega
        have hsc : sign * sg (cb (freeS used) a) = 1 ∨ sign * sg (cb (freeS used) a) = -1 := by
          rcases hs with rfl | rfl <;> rcases sg_cases (cb (freeS used) a) with h | h <;> rw [h] <;> simp
        have hp : (0 : Int) ≤ (n : Int) ^ m := Int.pow_nonneg (Int.natCast_nonneg n)
        have hp1 : (n : Int) ^ (m + 1) = (n : Int) ^ m * (n : Int) := Int.pow_succ _ _
        have hp2 : (n : Int) ^ m * ((a + 1 : Nat) : Int) ≤ (n : Int) ^ m * (n : Int) := Int.mul_le_mul_of_nonneg_left (by omega) hp
        have hp3 : (n : Int) ^ m * ((a + 1 : Nat) : Int) = (n : Int) ^ m * (a : Int) + (n : Int) ^ m := by rw [Int.natCast_succ, Int.mul_add, Int.mul_one]
        have hp4 : (0 : Int) ≤ (n : Int) ^ m * (a : Int) := Int.mul_nonneg hp (Int.natCast_nonneg a)
        have hcall := ih (k + 1) (sum + (8 - wt k a)) (sign * sg (cb (freeS used) a)) (B + (n : Int) ^ m * (a : Int)) (used.set a true) (cntP n wt C sum sign m k (freeS used) a) (by omega) (by rw [List.length_set, hu]) (by rw [cntP_len, hC]) (by omega) (by omega) hsc (by omega) (by omega) (cntP_bound hs hb hB0)
        rw [freeS_set (by omega), cntP_step hS rfl rfl] at hcall
        refine Cd.skip ?_
        refine thenN ?_
        refine Cd.rs [1, 2, 3, 4, 6, 7, 12, 14, 15, 16] fun K hK => ?_
        simp (maxSteps := 2000000) (disch := first | (simp only [E4, hT, hu, hC] <;> omega) | omega | fail) only [↓E2, E3, bare, bareJ, ↓E0, E1, env0, envN, evOps, evOp, evQs, evQ, evV, setD, pureOp, ev, upd, updL, cellAt, cellsAt, findB, setB, Value.cells, hav, delB, ↓reduceIte, Zj, Zk, Nat.reduceAdd, Nat.reduceLT, Nat.reduceEqDiff, Nat.reduceMul, Nat.reduceLeDiff, if_true, Zn, reduceCtorEq, ZA, eq_self, Int.reduceLE, Int.reduceLT, Int.reduceToNat, ne_eq, Nat.reduceSub, Tld69, Tst69, Tzero69, hT, hu, hC, nb2_b1, n1, n2, n3]
        repeat refine And.intro (by omega) ?_
        intro b3 hb3
        have nb3_b2 := hb3.ne
        have nb3_b1 := hb3.tail.ne
        try simp (maxSteps := 2000000) (disch := first | (simp only [E4, hT, hu, hC] <;> omega) | omega | fail) only [↓E2, E3, bare, bareJ, ↓E0, E1, env0, envN, evOps, evOp, evQs, evQ, evV, setD, pureOp, ev, upd, updL, cellAt, cellsAt, findB, setB, Value.cells, hav, delB, ↓reduceIte, Zj, Zk, Nat.reduceAdd, Nat.reduceLT, Nat.reduceEqDiff, Nat.reduceMul, Nat.reduceLeDiff, if_true, Zn, reduceCtorEq, ZA, eq_self, Int.reduceLE, Int.reduceLT, Int.reduceToNat, ne_eq, Nat.reduceSub, Tld69, Tst69, Tzero69, hT, hu, hC, nb2_b1, n1, n2, n3, nb3_b2, nb3_b1]
        repeat refine And.intro (by omega) ?_
        repeat refine And.intro (by omega) ?_
        intro g
        simp only [List.map_cons, List.map_nil, updL, upd, Nat.reduceEqDiff, if_true, if_false, ↓reduceIte]
        refine hK _ _ ?_; clear hK K
        have n4 : ¬ b3 = b := hb3.2 (b, ints .i64 (cntP n wt C sum sign m k (freeS used) a)) (by simp)
        have n5 : ¬ b3 = b1 := hb3.2 (b1, ints .i64 T) (by simp)
        have n6 : ¬ b3 = b2 := hb3.2 (b2, bools used) (by simp)
        skip
        refine Cd.rs [1, 2, 3, 4, 6, 7, 12, 14, 15, 16] fun K hK => ?_
        simp (maxSteps := 2000000) (disch := first | (simp only [E4, hT, hu, hC] <;> omega) | omega | fail) only [↓E2, E3, bare, bareJ, ↓E0, E1, env0, envN, evOps, evOp, evQs, evQ, evV, setD, pureOp, ev, upd, updL, indexAddrV, cellAt, cellsAt, findB, setB, Value.cells, hav, delB, ↓reduceIte, Zj, Zk, Nat.reduceAdd, Nat.reduceLT, Nat.reduceEqDiff, Nat.reduceMul, Nat.reduceLeDiff, if_true, Zn, reduceCtorEq, ZA, eq_self, Int.reduceLE, Int.reduceLT, Int.reduceToNat, ne_eq, Nat.reduceSub, Tarr69, Tst4, hT, hu, hC, nb2_b1, n1, n2, n3, nb3_b2, nb3_b1, n4, n5, n6]
        repeat refine And.intro (by omega) ?_
        repeat refine And.intro (by omega) ?_
        intro g
        simp only [List.map_cons, List.map_nil, updL, upd, Nat.reduceEqDiff, if_true, if_false, ↓reduceIte]
        refine hK _ _ ?_; clear hK K
        have et : (k : Int).toNat * 8 + (a : Int).toNat = k * 8 + a := by omega
        have hms : (2 : Int) * (((cb (freeS used) a : Nat) : Int) % 2) = 1 - sg (cb (freeS used) a) := by omega
        refine Cd.nodup fun hnd2 => ?_
        have ewr : IntKind.wrap .i64 (sign * (1 - 2 * (((cb (freeS used) a : Nat) : Int) % 2))) = sign * sg (cb (freeS used) a) := by
          rw [eg]
          rcases hsc with h | h <;> rw [h] <;> rfl
        have ek : (k : Int) + 1 = ((k + 1 : Nat) : Int) := rfl
        refine Cd.ps [1, 2, 3, 4, 6, 7, 12, 14, 15] (Plan.take 0 (Plan.take 1 (Plan.take 2 (Plan.take 3 (Plan.take 4 (Plan.take 5 (Plan.take 6 (Plan.take 7 (Plan.take 8 (Plan.take 9 (Plan.take 10 (Plan.take 11 (Plan.take 12 (Plan.take 13 (Plan.take 14 (Plan.take 15 (Plan.take 16 (Plan.take 17 (Plan.take 18 (Plan.one 19 (Plan.done))))))))))))))))))))) fol (by kernel_rfl) (Nat.le_of_ble_eq_true rfl) fun K hK => ?_
        simp (maxSteps := 2000000) (disch := first | (simp only [E4, hT, hu, hC, t1, ewr, ek] <;> omega) | omega | fail) only [↓E2, E3, bare, bareJ, ↓E0, E1, evPlan, env0, envN, evOps, evOp, evQs, evQ, evV, setD, pureOp, ev, upd, updL, binW, eqOp, binV, intOp, shOp, boolOp, indexAddrV, cellAt, cellsAt, findB, setB, hav, delB, eqL, SameI, strOp, ↓reduceIte, Zj, Zk, Nat.reduceAdd, Nat.reduceLT, Nat.reduceEqDiff, Nat.reduceMul, Nat.reduceLeDiff, if_true, Zn, reduceCtorEq, ZA, eq_self, Int.reduceLE, Int.reduceLT, Int.reduceToNat, ne_eq, Nat.reduceSub, Tarr44, Tarr66, Tld2, Tld66, Tld69, hT, hu, hC, nb2_b1, n1, n2, n3, nb3_b2, nb3_b1, n4, n5, n6, t1, ewr, ek]
        repeat refine And.intro (by omega) ?_
        refine callO_lentC (cs := []) (Mr := [(b3, bools (used.set a true)), (b2, bools used), (b1, ints .i64 T)]) hcall hnd2 rfl (fun _ _ => toldW_nil) ?_
        rintro v' M' rfl nd' _
        simp only [List.cons_append, List.nil_append] at nd' ⊢
        simp (maxSteps := 2000000) (disch := first | (simp only [E4, hT, hu, hC] <;> omega) | omega | fail) only [↓E2, E3, bare, bareJ, ↓E0, E1, evPlan, env0, envN, evOps, evOp, evQs, evQ, evV, setD, pureOp, ev, upd, updL, binW, eqOp, binV, intOp, shOp, boolOp, indexAddrV, cellAt, cellsAt, findB, setB, hav, delB, eqL, SameI, strOp, ↓reduceIte, Zj, Zk, Nat.reduceAdd, Nat.reduceLT, Nat.reduceEqDiff, Nat.reduceMul, Nat.reduceLeDiff, if_true, Zn, reduceCtorEq, ZA, eq_self, Int.reduceLE, Int.reduceLT, Int.reduceToNat, ne_eq, Nat.reduceSub, Tarr44, Tarr66, Tld2, Tld66, Tld69, hT, hu, hC, nb2_b1, n1, n2, n3, nb3_b2, nb3_b1, n4, n5, n6]
        repeat refine And.intro (by omega) ?_
        repeat refine And.intro (by omega) ?_
        intro g
        simp only [List.map_cons, List.map_nil, updL, upd, Nat.reduceEqDiff, if_true, if_false, ↓reduceIte]
        refine hK _ _ ?_; clear hK K
        refine Cd.rr [1, 2, 3, 4, 6, 7, 12, 14, 15] fun K hK => ?_
        simp (maxSteps := 2000000) (disch := first | (simp only [E4, hT, hu, hC] <;> omega) | omega | fail) only [↓E2, E3, bare, bareJ, ↓E0, E1, env0, envN, evOps, evOp, evQs, evQ, evV, setD, pureOp, ev, upd, updL, binW, eqOp, binV, intOp, shOp, boolOp, hav, delB, eqL, SameI, strOp, ↓reduceIte, Zj, Zk, Nat.reduceAdd, Nat.reduceLT, Nat.reduceEqDiff, Nat.reduceMul, Nat.reduceLeDiff, if_true, Zn, reduceCtorEq, ZA, eq_self, Int.reduceLE, Int.reduceLT, Int.reduceToNat, ne_eq, Nat.reduceSub, hT, hu, hC, nb2_b1, n1, n2, n3, nb3_b2, nb3_b1, n4, n5, n6]
        repeat refine And.intro (by omega) ?_
        repeat refine And.intro (by omega) ?_
        intro g
        simp only [List.map_cons, List.map_nil, updL, upd, Nat.reduceEqDiff, if_true, if_false, ↓reduceIte]
        refine hK _ _ ?_; clear hK K
        refine inBN ?_
        refine thenN ?_
        refine Cd.rr [1, 2, 3, 4, 6, 7, 12, 14, 15] fun K hK => ?_
        simp (maxSteps := 2000000) (disch := first | (simp only [E4, hT, hu, hC] <;> omega) | omega | fail) only [↓E2, E3, bare, bareJ, ↓E0, E1, env0, envN, evOps, evOp, evQs, evQ, evV, setD, pureOp, ev, upd, updL, binW, eqOp, binV, intOp, shOp, boolOp, hav, delB, eqL, SameI, strOp, ↓reduceIte, Zj, Zk, Nat.reduceAdd, Nat.reduceLT, Nat.reduceEqDiff, Nat.reduceMul, Nat.reduceLeDiff, if_true, Zn, reduceCtorEq, ZA, eq_self, Int.reduceLE, Int.reduceLT, Int.reduceToNat, ne_eq, Nat.reduceSub, hT, hu, hC, nb2_b1, n1, n2, n3, nb3_b2, nb3_b1, n4, n5, n6]
        repeat refine And.intro (by omega) ?_
        repeat refine And.intro (by omega) ?_
        intro g
        simp only [List.map_cons, List.map_nil, updL, upd, Nat.reduceEqDiff, if_true, if_false, ↓reduceIte]
        refine hK _ _ ?_; clear hK K
        exact roundN (m := q - 1) (by omega) ⟨_, a + 1, by omega, by rw [e1]; rfl, SubP.of (List.Sublist.cons _ (List.Sublist.refl _))⟩
    · obtain rfl : a = n := by omega
      refine Cd.exit (thenX (roundX (inBX ?_)))
      exact ⟨[], rfl, _, SubP.of (List.Sublist.cons _ (List.Sublist.cons _ (List.Sublist.refl _))), by rw [cntP_full]⟩
end

end Go.Proofs

/-
  What the functions of this part hand back: each as a plain function of its arguments. Conditions: none.
-/
namespace Go.Proofs
open Go.W8
set_option linter.unusedVariables false
set_option linter.unusedSimpArgs false
set_option linter.unusedSectionVars false
set_option maxRecDepth 8000
set_option maxHeartbeats 4000000
/-- What a column adds to the winding numbers behind it. -/
def wstep (x o : List Int) (b : Int) (k : Nat) : Int := if o.getD k 0 < b ∧ b ≤ x.getD k 0 then 1 else if x.getD k 0 < b ∧ b ≤ o.getD k 0 then -1 else 0
def wnd (x o : List Int) (b : Int) : Nat → Int
  | 0 => 0
  | k + 1 => wnd x o b k + wstep x o b k
theorem wnd_bound (x o : List Int) (b : Int) : ∀ k : Nat, -(k : Int) ≤ wnd x o b k ∧ wnd x o b k ≤ (k : Int)
  | 0 => by simp [wnd]
  | k + 1 => by
    have ih := wnd_bound x o b k
    have : -1 ≤ wstep x o b k ∧ wstep x o b k ≤ 1 := by unfold wstep; split <;> (try split) <;> omega
    show _ ≤ wnd x o b k + wstep x o b k ∧ wnd x o b k + wstep x o b k ≤ _
    omega
theorem wnd_up {x o : List Int} {b : Int} {k : Nat} (h : o.getD k 0 < b ∧ b ≤ x.getD k 0) : wnd x o b k + 1 = wnd x o b (k + 1) := by
  show _ = wnd x o b k + wstep x o b k
  unfold wstep; rw [if_pos h]
theorem wnd_down {x o : List Int} {b : Int} {k : Nat} (h : ¬ (o.getD k 0 < b ∧ b ≤ x.getD k 0)) (h' : x.getD k 0 < b ∧ b ≤ o.getD k 0) : wnd x o b k - 1 = wnd x o b (k + 1) := by
  show _ = wnd x o b k + wstep x o b k
  unfold wstep; rw [if_neg h, if_pos h']; omega
theorem wnd_same {x o : List Int} {b : Int} {k : Nat} (h : ¬ (o.getD k 0 < b ∧ b ≤ x.getD k 0)) (h' : ¬ (x.getD k 0 < b ∧ b ≤ o.getD k 0)) : wnd x o b k = wnd x o b (k + 1) := by
  show _ = wnd x o b k + wstep x o b k
  unfold wstep; rw [if_neg h, if_neg h']; omega

theorem winding_c (s : Int) (x o : List Int) (hx : Bytes8 x) (ho : Bytes8 o) (a b : Int) (ha : a ≤ 8) : Gives Try.prog 53 #[.agg (gc s x o).toArray, .int .i64 a, .int .i64 b] (.int .i64 (wnd x o b a.toNat)) := by
  have hl := hx.len
  have hm := ho.len
  skip
  refine Gives.of fun w => ?_
  refine acall_of (N := 49) (c := _) (rs := [.tmp 6]) (args := [_, _, _]) Try.func53 rfl (by decide) rfl rfl (Nat.le_of_ble_eq_true rfl) ?_
  refine Cd.rs [1, 2, 3] fun K hK => ?_
  simp (maxSteps := 2000000) (disch := first | omega | (simp only [E4, hl, hm, *] <;> omega) | fail) only [↓E0, E1, env0, envN, evOps, evOp, evQs, evQ, evV, setD, pureOp, ev, upd, updL, Value.cells, hav, delB, ↓reduceIte, Zj, Zk, Nat.reduceAdd, Nat.reduceLT, Nat.reduceEqDiff, Nat.reduceMul, Nat.reduceLeDiff, if_true, Zn, reduceCtorEq, ZA, eq_self, Int.reduceLE, Int.reduceLT, Int.reduceToNat, ne_eq, Nat.reduceSub, hl, hm]
  intro b1 hb1
  try simp (maxSteps := 2000000) (disch := first | omega | (simp only [E4, hl, hm, *] <;> omega) | fail) only [↓E0, E1, env0, envN, evOps, evOp, evQs, evQ, evV, setD, pureOp, ev, upd, updL, Value.cells, hav, delB, ↓reduceIte, Zj, Zk, Nat.reduceAdd, Nat.reduceLT, Nat.reduceEqDiff, Nat.reduceMul, Nat.reduceLeDiff, if_true, Zn, reduceCtorEq, ZA, eq_self, Int.reduceLE, Int.reduceLT, Int.reduceToNat, ne_eq, Nat.reduceSub, hl, hm]
  repeat refine And.intro (by omega) ?_
  intro g
  simp only [List.map_cons, List.map_nil, updL, upd, Nat.reduceEqDiff, if_true, if_false, ↓reduceIte]
  refine hK _ _ ?_; clear hK K
  refine Cd.rs [1, 2, 3, 7] fun K hK => ?_
  simp (maxSteps := 2000000) (disch := first | omega | (simp only [E4, hl, hm, *] <;> omega) | fail) only [↓E0, E1, env0, envN, evOps, evOp, evQs, evQ, evV, setD, pureOp, ev, upd, updL, hav, delB, ↓reduceIte, Zj, Zk, Nat.reduceAdd, Nat.reduceLT, Nat.reduceEqDiff, Nat.reduceMul, Nat.reduceLeDiff, if_true, Zn, reduceCtorEq, ZA, eq_self, Int.reduceLE, Int.reduceLT, Int.reduceToNat, ne_eq, Nat.reduceSub, hl, hm]
  repeat refine And.intro (by omega) ?_
  intro g
  simp only [List.map_cons, List.map_nil, updL, upd, Nat.reduceEqDiff, if_true, if_false, ↓reduceIte]
  refine hK _ _ ?_; clear hK K
  refine Cd.seq ?_
  refine Cd.rs [2, 3, 7, 11, 12] fun K hK => ?_
  simp (maxSteps := 2000000) (disch := first | omega | (simp only [E4, hl, hm, *] <;> omega) | fail) only [↓E0, E1, env0, envN, evOps, evOp, evQs, evQ, evV, setD, pureOp, ev, upd, updL, hav, delB, ↓reduceIte, Zj, Zk, Nat.reduceAdd, Nat.reduceLT, Nat.reduceEqDiff, Nat.reduceMul, Nat.reduceLeDiff, if_true, Zn, reduceCtorEq, ZA, eq_self, Int.reduceLE, Int.reduceLT, Int.reduceToNat, ne_eq, Nat.reduceSub, hl, hm]
  repeat refine And.intro (by omega) ?_
  intro g
  simp only [List.map_cons, List.map_nil, updL, upd, Nat.reduceEqDiff, if_true, if_false, ↓reduceIte]
  refine hK _ _ ?_; clear hK K
  refine Cd.block ?_
  refine Cd.loop (fun m ρ M => ∃ g k, k + m = a.toNat ∧ ρ = updL [(2, .int .i64 b), (3, .pointer (some ⟨b1, 0, none⟩)), (7, .int .i64 (wnd x o b k)), (11, .int .i64 a), (12, .int .i64 (k : Int))] g ∧ M = [(b1, gc s x o)]) a.toNat ⟨_, 0, Nat.zero_add _, rfl, rfl⟩ ?_
  rintro m ρ M ⟨g, k, hk, rfl, rfl⟩
  refine Cd.rs [2, 3, 7, 11, 12, 13] fun K hK => ?_
  simp (maxSteps := 2000000) (disch := first | omega | (simp only [E4, hl, hm, *] <;> omega) | fail) only [↓E0, E1, env0, envN, evOps, evOp, evQs, evQ, evV, setD, pureOp, ev, upd, updL, binW, eqOp, binV, intOp, shOp, boolOp, hav, delB, eqL, SameI, strOp, ↓reduceIte, Zj, Zk, Nat.reduceAdd, Nat.reduceLT, Nat.reduceEqDiff, Nat.reduceMul, Nat.reduceLeDiff, if_true, Zn, reduceCtorEq, ZA, eq_self, Int.reduceLE, Int.reduceLT, Int.reduceToNat, ne_eq, Nat.reduceSub, hl, hm]
  repeat refine And.intro (by omega) ?_
  intro g
  simp only [List.map_cons, List.map_nil, updL, upd, Nat.reduceEqDiff, if_true, if_false, ↓reduceIte]
  refine hK _ _ ?_; clear hK K
  refine Cd.seq ?_
  refine Cd.condd rfl (fun h1 => ?_) (fun h1 => ?_)
  · have c1 := bytes_get hx (i := k) (by omega)
    have c2 := bytes_get ho (i := k) (by omega)
    have c3 := wnd_bound x o b k
    refine Cd.skip ?_
    refine thenN ?_
    refine Cd.seq ?_
    refine Cd.block ?_
    refine Cd.rs [2, 3, 7, 8, 11, 12] fun K hK => ?_
    simp (maxSteps := 2000000) (disch := first | omega | (simp only [E4, hl, hm, *] <;> omega) | fail) only [↓E0, E1, env0, envN, evOps, evOp, evQs, evQ, evV, setD, pureOp, ev, upd, updL, hav, delB, ↓reduceIte, Zj, Zk, Nat.reduceAdd, Nat.reduceLT, Nat.reduceEqDiff, Nat.reduceMul, Nat.reduceLeDiff, if_true, Zn, reduceCtorEq, ZA, eq_self, Int.reduceLE, Int.reduceLT, Int.reduceToNat, ne_eq, Nat.reduceSub, hl, hm]
    repeat refine And.intro (by omega) ?_
    intro g
    simp only [List.map_cons, List.map_nil, updL, upd, Nat.reduceEqDiff, if_true, if_false, ↓reduceIte]
    refine hK _ _ ?_; clear hK K
    refine Cd.qs [2, 3, 7, 9, 10, 11, 12] fol (by kernel_rfl) fun K hK => ?_
    simp (maxSteps := 2000000) (disch := first | omega | (simp only [E4, hl, hm, *] <;> omega) | fail) only [↓E0, E1, evPlan, env0, envN, evOps, evOp, evQs, evQ, evV, setD, pureOp, ev, upd, updL, convV, fieldAddrV, indexAddrV, cellAt, cellsAt, findB, hav, delB, cvtQ, ↓reduceIte, Zj, Zk, Nat.reduceAdd, Nat.reduceLT, Nat.reduceEqDiff, Nat.reduceMul, Nat.reduceLeDiff, if_true, Zn, reduceCtorEq, ZA, eq_self, Int.reduceLE, Int.reduceLT, Int.reduceToNat, ne_eq, Nat.reduceSub, Tarr22, Tfld27_1, Tfld27_2, Tint3, Tld5, Tpar5, hl, hm]
    repeat refine And.intro (by omega) ?_
    repeat refine And.intro (by omega) ?_
    intro g
    simp only [List.map_cons, List.map_nil, updL, upd, Nat.reduceEqDiff, if_true, if_false, ↓reduceIte]
    refine hK _ ?_; clear hK K
    refine Cd.block ?_
    refine Cd.rs [2, 3, 7, 9, 10, 11, 12, 25] fun K hK => ?_
    have J : ∀ g d, (d = true ↔ o.getD k 0 < b ∧ b ≤ x.getD k 0) → K (updL ([(2, .int .i64 b), (3, .pointer (some ⟨b1, 0, none⟩)), (7, .int .i64 (wnd x o b k)), (9, .int .i64 (x.getD k 0)), (10, .int .i64 (o.getD k 0)), (11, .int .i64 a), (12, .int .i64 (k : Int)), (25, .bool d)]) g) [(b1, gc s x o)] := by
      intro g d hd
      refine hK _ _ ?_
      clear hK K
      refine Cd.cond rfl (fun h2 => ?_) (fun h2 => ?_)
      · refine Cd.rr [2, 3, 7, 11, 12] fun K hK => ?_
        simp (maxSteps := 2000000) (disch := first | omega | (simp only [E4, hl, hm, *] <;> omega) | fail) only [↓E0, E1, env0, envN, evOps, evOp, evQs, evQ, evV, setD, pureOp, ev, upd, updL, binW, eqOp, binV, intOp, shOp, boolOp, hav, delB, eqL, SameI, strOp, ↓reduceIte, Zj, Zk, Nat.reduceAdd, Nat.reduceLT, Nat.reduceEqDiff, Nat.reduceMul, Nat.reduceLeDiff, if_true, Zn, reduceCtorEq, ZA, eq_self, Int.reduceLE, Int.reduceLT, Int.reduceToNat, ne_eq, Nat.reduceSub, hl, hm]
        rw [wnd_up (hd.1 h2)]
        repeat refine And.intro (by omega) ?_
        intro g
        simp only [List.map_cons, List.map_nil, updL, upd, Nat.reduceEqDiff, if_true, if_false, ↓reduceIte]
        refine hK _ _ ?_; clear hK K
        refine inBN ?_
        refine inBN ?_
        refine thenN ?_
        refine Cd.rr [2, 3, 7, 11, 12] fun K hK => ?_
        simp (maxSteps := 2000000) (disch := first | omega | (simp only [E4, hl, hm, *] <;> omega) | fail) only [↓E0, E1, env0, envN, evOps, evOp, evQs, evQ, evV, setD, pureOp, ev, upd, updL, binW, eqOp, binV, intOp, shOp, boolOp, hav, delB, eqL, SameI, strOp, ↓reduceIte, Zj, Zk, Nat.reduceAdd, Nat.reduceLT, Nat.reduceEqDiff, Nat.reduceMul, Nat.reduceLeDiff, if_true, Zn, reduceCtorEq, ZA, eq_self, Int.reduceLE, Int.reduceLT, Int.reduceToNat, ne_eq, Nat.reduceSub, hl, hm]
        repeat refine And.intro (by omega) ?_
        intro g
        simp only [List.map_cons, List.map_nil, updL, upd, Nat.reduceEqDiff, if_true, if_false, ↓reduceIte]
        refine hK _ _ ?_; clear hK K
        exact roundN (m := m - 1) (by omega) ⟨_, k + 1, by omega, rfl, rfl⟩
      · have h3 : ¬ (o.getD k 0 < b ∧ b ≤ x.getD k 0) := fun h => by rw [hd.2 h] at h2; cases h2
        refine Cd.rs [2, 3, 7, 11, 12, 36] fun K hK => ?_
        have J : ∀ g d, (d = true ↔ x.getD k 0 < b ∧ b ≤ o.getD k 0) → K (updL [(2, .int .i64 b), (3, .pointer (some ⟨b1, 0, none⟩)), (7, .int .i64 (wnd x o b k)), (11, .int .i64 a), (12, .int .i64 (k : Int)), (36, .bool d)] g) [(b1, gc s x o)] := by
          intro g d hd
          refine hK _ _ ?_
          clear hK K
          refine Cd.cond rfl (fun h2 => ?_) (fun h2 => ?_)
          · refine Cd.rr [2, 3, 7, 11, 12] fun K hK => ?_
            simp (maxSteps := 2000000) (disch := first | omega | (simp only [E4, hl, hm, *] <;> omega) | fail) only [↓E0, E1, env0, envN, evOps, evOp, evQs, evQ, evV, setD, pureOp, ev, upd, updL, binW, eqOp, binV, intOp, shOp, boolOp, hav, delB, eqL, SameI, strOp, ↓reduceIte, Zj, Zk, Nat.reduceAdd, Nat.reduceLT, Nat.reduceEqDiff, Nat.reduceMul, Nat.reduceLeDiff, if_true, Zn, reduceCtorEq, ZA, eq_self, Int.reduceLE, Int.reduceLT, Int.reduceToNat, ne_eq, Nat.reduceSub, hl, hm]
            rw [wnd_down h3 (hd.1 h2)]
            repeat refine And.intro (by omega) ?_
            intro g
            simp only [List.map_cons, List.map_nil, updL, upd, Nat.reduceEqDiff, if_true, if_false, ↓reduceIte]
            refine hK _ _ ?_; clear hK K
            refine inBN ?_
            refine inBN ?_
            refine thenN ?_
            refine Cd.rr [2, 3, 7, 11, 12] fun K hK => ?_
            simp (maxSteps := 2000000) (disch := first | omega | (simp only [E4, hl, hm, *] <;> omega) | fail) only [↓E0, E1, env0, envN, evOps, evOp, evQs, evQ, evV, setD, pureOp, ev, upd, updL, binW, eqOp, binV, intOp, shOp, boolOp, hav, delB, eqL, SameI, strOp, ↓reduceIte, Zj, Zk, Nat.reduceAdd, Nat.reduceLT, Nat.reduceEqDiff, Nat.reduceMul, Nat.reduceLeDiff, if_true, Zn, reduceCtorEq, ZA, eq_self, Int.reduceLE, Int.reduceLT, Int.reduceToNat, ne_eq, Nat.reduceSub, hl, hm]
            repeat refine And.intro (by omega) ?_
            intro g
            simp only [List.map_cons, List.map_nil, updL, upd, Nat.reduceEqDiff, if_true, if_false, ↓reduceIte]
            refine hK _ _ ?_; clear hK K
            exact roundN (m := m - 1) (by omega) ⟨_, k + 1, by omega, rfl, rfl⟩
          · have h4 : ¬ (x.getD k 0 < b ∧ b ≤ o.getD k 0) := fun h => by rw [hd.2 h] at h2; cases h2
            refine Cd.skip ?_
            refine inBN ?_
            refine inBN ?_
            refine thenN ?_
            refine Cd.rr [2, 3, 7, 11, 12] fun K hK => ?_
            simp (maxSteps := 2000000) (disch := first | omega | (simp only [E4, hl, hm, *] <;> omega) | fail) only [↓E0, E1, env0, envN, evOps, evOp, evQs, evQ, evV, setD, pureOp, ev, upd, updL, binW, eqOp, binV, intOp, shOp, boolOp, hav, delB, eqL, SameI, strOp, ↓reduceIte, Zj, Zk, Nat.reduceAdd, Nat.reduceLT, Nat.reduceEqDiff, Nat.reduceMul, Nat.reduceLeDiff, if_true, Zn, reduceCtorEq, ZA, eq_self, Int.reduceLE, Int.reduceLT, Int.reduceToNat, ne_eq, Nat.reduceSub, hl, hm]
            rw [wnd_same h3 h4]
            repeat refine And.intro (by omega) ?_
            intro g
            simp only [List.map_cons, List.map_nil, updL, upd, Nat.reduceEqDiff, if_true, if_false, ↓reduceIte]
            refine hK _ _ ?_; clear hK K
            exact roundN (m := m - 1) (by omega) ⟨_, k + 1, by omega, rfl, rfl⟩
        clear hK
        simp (maxSteps := 2000000) (disch := first | omega | (simp only [E4, hl, hm, *] <;> omega) | fail) only [↓E0, E1, env0, envN, evOps, evOp, evQs, evQ, evV, setD, pureOp, ev, upd, updL, gate, binW, eqOp, binV, intOp, shOp, boolOp, hav, delB, eqL, SameI, strOp, ↓reduceIte, Zj, Zk, Nat.reduceAdd, Nat.reduceLT, Nat.reduceEqDiff, Nat.reduceMul, Nat.reduceLeDiff, if_true, Zn, reduceCtorEq, ZA, eq_self, Int.reduceLE, Int.reduceLT, Int.reduceToNat, ne_eq, Nat.reduceSub, hl, hm]
        refine ⟨fun h => ?_, fun h => ?_⟩
        all_goals
          repeat refine And.intro (by omega) ?_
          intro g
          simp only [List.map_cons, List.map_nil, updL, upd, Nat.reduceEqDiff, if_true, if_false, ↓reduceIte]
          refine J g _ ?_
          simp at h ⊢
          omega
    clear hK
    simp (maxSteps := 2000000) (disch := first | omega | (simp only [E4, hl, hm, *] <;> omega) | fail) only [↓E0, E1, env0, envN, evOps, evOp, evQs, evQ, evV, setD, pureOp, ev, upd, updL, gate, binW, eqOp, binV, intOp, shOp, boolOp, hav, delB, eqL, SameI, strOp, ↓reduceIte, Zj, Zk, Nat.reduceAdd, Nat.reduceLT, Nat.reduceEqDiff, Nat.reduceMul, Nat.reduceLeDiff, if_true, Zn, reduceCtorEq, ZA, eq_self, Int.reduceLE, Int.reduceLT, Int.reduceToNat, ne_eq, Nat.reduceSub, hl, hm]
    refine ⟨fun h => ?_, fun h => ?_⟩
    all_goals
      repeat refine And.intro (by omega) ?_
      intro g
      simp only [List.map_cons, List.map_nil, updL, upd, Nat.reduceEqDiff, if_true, if_false, ↓reduceIte]
      refine J g _ ?_
      simp at h ⊢
      omega
  · refine Cd.exit (thenX (roundX (inBX ?_)))
    refine thenN ?_
    obtain rfl : k = a.toNat := by omega
    refine Cd.rs [6] fun K hK => ?_
    simp (maxSteps := 2000000) (disch := first | omega | (simp only [E4, hl, hm, *] <;> omega) | fail) only [↓E0, E1, env0, envN, evOps, evOp, evQs, evQ, evV, setD, pureOp, ev, upd, updL, hav, delB, ↓reduceIte, Zj, Zk, Nat.reduceAdd, Nat.reduceLT, Nat.reduceEqDiff, Nat.reduceMul, Nat.reduceLeDiff, if_true, Zn, reduceCtorEq, ZA, eq_self, Int.reduceLE, Int.reduceLT, Int.reduceToNat, ne_eq, Nat.reduceSub, hl, hm]
    repeat refine And.intro (by omega) ?_
    intro g
    simp only [List.map_cons, List.map_nil, updL, upd, Nat.reduceEqDiff, if_true, if_false, ↓reduceIte]
    refine hK _ _ ?_; clear hK K
    refine Cd.ret ?_
    simp (maxSteps := 2000000) (disch := first | omega | (simp only [E4, hl, hm, *] <;> omega) | fail) only [↓E0, E1, evP, evPlan, env0, envN, evOps, evOp, evQs, evQ, evV, setD, pureOp, ev, upd, updL, gate, binW, eqOp, binV, intOp, shOp, boolOp, unV, convV, nilV, fieldAddrV, indexAddrV, extractV, cellAt, cellsAt, findB, setB, fillL, buildV, Value.cells, lenV, minV, maxV, hav, sliceV, loV, hiV, bslQ, mksQ, appQ, partsOk, partsCells, delB, eqL, SameI, strOp, apzQ, cvtQ, capV, ↓reduceIte, Zj, Zk, Nat.reduceAdd, Nat.reduceLT, Nat.reduceEqDiff, Nat.reduceMul, Nat.reduceLeDiff, if_true, Zn, reduceCtorEq, ZA, eq_self, Int.reduceLE, Int.reduceLT, Int.reduceToNat, ne_eq, Nat.reduceSub, hl, hm]

end Go.Proofs

/-
  What the functions of this part hand back: each as a plain function of its arguments. Conditions: none.
-/
namespace Go.Proofs
open Go.W8
set_option linter.unusedVariables false
set_option linter.unusedSimpArgs false
set_option linter.unusedSectionVars false
set_option maxRecDepth 8000
set_option maxHeartbeats 4000000
def wndR (s : Int) (x o : List Int) (a b : Int) : Value :=
  if gridB s x o then if (0 ≤ a ∧ a ≤ s - 1) ∧ 0 ≤ b ∧ b ≤ s - 1 then .tuple #[.int .i64 (wnd x o b a.toNat), .int .i64 0] else .tuple #[.int .i64 0, .int .i64 2] else .tuple #[.int .i64 0, .int .i64 1]

section
variable (s : Int) (x o : List Int) (hx : Bytes8 x) (ho : Bytes8 o) (a : Int) (wa : -9223372036854775808 ≤ a ∧ a < 9223372036854775808) (b : Int) (wb : -9223372036854775808 ≤ b ∧ b < 9223372036854775808)
include hx ho wa wb

end

end Go.Proofs

/-
  What the functions of this part hand back: each as a plain function of its arguments. Conditions: none.
-/
namespace Go.Proofs
open Go.W8
set_option linter.unusedVariables false
set_option linter.unusedSimpArgs false
set_option linter.unusedSectionVars false
set_option maxRecDepth 8000
set_option maxHeartbeats 4000000
theorem toByteA8_c (x : List Int) (hx : x.length = 8) : Gives Try.prog 13 #[.agg (ints .u8 x).toArray] (.agg (ints .u8 x).toArray) := by
  refine Gives.of fun w => ?_
  refine acall_of (N := 15) (c := _) (rs := [.cell 2 22]) (args := [_]) Try.func13 rfl (by decide) rfl rfl (Nat.le_of_ble_eq_true rfl) ?_
  refine Cd.rs [1, 2] fun K hK => ?_
  simp (maxSteps := 2000000) (disch := first | omega | (simp only [E4, *] <;> omega) | fail) only [↓E0, E1, env0, envN, evOps, evOp, evQs, evQ, evV, setD, pureOp, ev, upd, updL, Value.cells, hav, delB, ↓reduceIte, Zj, Zk, Nat.reduceAdd, Nat.reduceLT, Nat.reduceEqDiff, Nat.reduceMul, Nat.reduceLeDiff, if_true, Zn, reduceCtorEq, ZA, eq_self, Int.reduceLE, Int.reduceLT, Int.reduceToNat, ne_eq, Nat.reduceSub, Tzero22]
  intro b1 hb1 b2 hb2
  have n21 := hb2.ne
  repeat refine And.intro (by omega) ?_
  intro g
  simp only [List.map_cons, List.map_nil, updL, upd, Nat.reduceEqDiff, if_true, if_false, ↓reduceIte]
  refine hK _ _ ?_; clear hK K
  refine Cd.rs [1, 2, 3] fun K hK => ?_
  simp (maxSteps := 2000000) (disch := first | omega | (simp only [E4, *] <;> omega) | fail) only [↓E0, E1, env0, envN, evOps, evOp, evQs, evQ, evV, setD, pureOp, ev, upd, updL, Value.cells, hav, delB, ↓reduceIte, Zj, Zk, Nat.reduceAdd, Nat.reduceLT, Nat.reduceEqDiff, Nat.reduceMul, Nat.reduceLeDiff, if_true, Zn, reduceCtorEq, ZA, eq_self, Int.reduceLE, Int.reduceLT, Int.reduceToNat, ne_eq, Nat.reduceSub, Tzero22]
  intro b3 hb3
  have n32 := hb3.ne
  have n31 := hb3.tail.ne
  repeat refine And.intro (by omega) ?_
  intro g
  simp only [List.map_cons, List.map_nil, updL, upd, Nat.reduceEqDiff, if_true, if_false, ↓reduceIte]
  refine hK _ _ ?_; clear hK K
  refine Cd.seq ?_
  refine Cd.rs [1, 2, 3, 4] fun K hK => ?_
  simp (maxSteps := 2000000) (disch := first | omega | (simp only [E4, *] <;> omega) | fail) only [↓E0, E1, env0, envN, evOps, evOp, evQs, evQ, evV, setD, pureOp, ev, upd, updL, hav, delB, ↓reduceIte, Zj, Zk, Nat.reduceAdd, Nat.reduceLT, Nat.reduceEqDiff, Nat.reduceMul, Nat.reduceLeDiff, if_true, Zn, reduceCtorEq, ZA, eq_self, Int.reduceLE, Int.reduceLT, Int.reduceToNat, ne_eq, Nat.reduceSub]
  repeat refine And.intro (by omega) ?_
  intro g
  simp only [List.map_cons, List.map_nil, updL, upd, Nat.reduceEqDiff, if_true, if_false, ↓reduceIte]
  refine hK _ _ ?_; clear hK K
  refine Cd.block ?_
  refine Cd.loop (fun n ρ M => ∃ g k, k + n = 8 ∧ ρ = updL [(1, .pointer (some ⟨b1, 0, none⟩)), (2, .pointer (some ⟨b2, 0, none⟩)), (3, .pointer (some ⟨b3, 0, none⟩)), (4, .int .i64 (k : Int))] g ∧
    M = [(b3, ints .u8 (upto 8 (fun i => x.getD i 0) 0 k)), (b2, ints .u8 z8), (b1, ints .u8 x)]) 8 ⟨_, 0, Nat.zero_add _, rfl, rfl⟩ ?_
  rintro n ρ M ⟨g, k, hk, rfl, rfl⟩
  refine Cd.seq ?_
  refine Cd.rs [1, 2, 3, 4, 6] fun K hK => ?_
  simp (maxSteps := 2000000) (disch := first | omega | (simp only [E4, *] <;> omega) | fail) only [↓E0, E1, env0, envN, evOps, evOp, evQs, evQ, evV, setD, pureOp, ev, upd, updL, binW, eqOp, binV, intOp, shOp, boolOp, hav, delB, eqL, SameI, strOp, ↓reduceIte, Zj, Zk, Nat.reduceAdd, Nat.reduceLT, Nat.reduceEqDiff, Nat.reduceMul, Nat.reduceLeDiff, if_true, Zn, reduceCtorEq, ZA, eq_self, Int.reduceLE, Int.reduceLT, Int.reduceToNat, ne_eq, Nat.reduceSub]
  repeat refine And.intro (by omega) ?_
  intro g
  simp only [List.map_cons, List.map_nil, updL, upd, Nat.reduceEqDiff, if_true, if_false, ↓reduceIte]
  refine hK _ _ ?_; clear hK K
  refine Cd.condd rfl (fun h1 => ?_) (fun h1 => ?_)
  · refine Cd.skip ?_
    refine thenN ?_
    refine Cd.seq ?_
    refine Cd.block ?_
    refine Cd.rr [1, 2, 3, 4] fun K hK => ?_
    simp (maxSteps := 2000000) (disch := first | omega | (simp only [E4, hx, *] <;> omega) | fail) only [↓E0, E1, env0, envN, evOps, evOp, evQs, evQ, evV, setD, pureOp, ev, upd, updL, indexAddrV, cellAt, cellsAt, findB, setB, Value.cells, hav, delB, ↓reduceIte, Zj, Zk, Nat.reduceAdd, Nat.reduceLT, Nat.reduceEqDiff, Nat.reduceMul, Nat.reduceLeDiff, if_true, Zn, reduceCtorEq, ZA, eq_self, Int.reduceLE, Int.reduceLT, Int.reduceToNat, ne_eq, Nat.reduceSub, Tarr22, Tld5, Tst5, n21, n32, n31, hx]
    repeat refine And.intro (by omega) ?_
    rw [upto_set rfl]
    repeat refine And.intro (by omega) ?_
    intro g
    simp only [List.map_cons, List.map_nil, updL, upd, Nat.reduceEqDiff, if_true, if_false, ↓reduceIte]
    refine hK _ _ ?_; clear hK K
    refine inBN ?_
    refine thenN ?_
    refine Cd.rr [1, 2, 3, 4] fun K hK => ?_
    simp (maxSteps := 2000000) (disch := first | omega | (simp only [E4, *] <;> omega) | fail) only [↓E0, E1, env0, envN, evOps, evOp, evQs, evQ, evV, setD, pureOp, ev, upd, updL, binW, eqOp, binV, intOp, shOp, boolOp, hav, delB, eqL, SameI, strOp, ↓reduceIte, Zj, Zk, Nat.reduceAdd, Nat.reduceLT, Nat.reduceEqDiff, Nat.reduceMul, Nat.reduceLeDiff, if_true, Zn, reduceCtorEq, ZA, eq_self, Int.reduceLE, Int.reduceLT, Int.reduceToNat, ne_eq, Nat.reduceSub]
    repeat refine And.intro (by omega) ?_
    intro g
    simp only [List.map_cons, List.map_nil, updL, upd, Nat.reduceEqDiff, if_true, if_false, ↓reduceIte]
    refine hK _ _ ?_; clear hK K
    exact roundN (m := n - 1) (by omega) ⟨_, k + 1, by omega, rfl, rfl⟩
  · refine Cd.exit (thenX (roundX (inBX ?_)))
    refine thenN ?_
    obtain rfl : k = 8 := by omega
    rw [upto_full hx]
    refine Cd.rs [2] fun K hK => ?_
    simp (maxSteps := 2000000) (disch := first | omega | (simp only [E4, hx, *] <;> omega) | fail) only [↓E0, E1, env0, envN, evOps, evOp, evQs, evQ, evV, setD, pureOp, ev, upd, updL, cellAt, cellsAt, findB, setB, Value.cells, hav, delB, ↓reduceIte, Zj, Zk, Nat.reduceAdd, Nat.reduceLT, Nat.reduceEqDiff, Nat.reduceMul, Nat.reduceLeDiff, if_true, Zn, reduceCtorEq, ZA, eq_self, Int.reduceLE, Int.reduceLT, Int.reduceToNat, ne_eq, Nat.reduceSub, Tld22, Tst22, n21, n32, n31, hx]
    repeat refine And.intro (by omega) ?_
    intro g
    simp only [List.map_cons, List.map_nil, updL, upd, Nat.reduceEqDiff, if_true, if_false, ↓reduceIte]
    refine hK _ _ ?_; clear hK K
    refine Cd.ret ?_
    simp (maxSteps := 2000000) (disch := first | omega | (simp only [E4, hx, *] <;> omega) | fail) only [↓E0, E1, evP, evPlan, env0, envN, evOps, evOp, evQs, evQ, evV, setD, pureOp, ev, upd, updL, gate, binW, eqOp, binV, intOp, shOp, boolOp, unV, convV, nilV, fieldAddrV, indexAddrV, extractV, cellAt, cellsAt, findB, setB, fillL, buildV, Value.cells, lenV, minV, maxV, hav, sliceV, loV, hiV, bslQ, mksQ, appQ, partsOk, partsCells, delB, eqL, SameI, strOp, apzQ, cvtQ, capV, ↓reduceIte, Zj, Zk, Nat.reduceAdd, Nat.reduceLT, Nat.reduceEqDiff, Nat.reduceMul, Nat.reduceLeDiff, if_true, Zn, reduceCtorEq, ZA, eq_self, Int.reduceLE, Int.reduceLT, Int.reduceToNat, ne_eq, Nat.reduceSub, Tld22, n21, n32, n31, hx]

theorem toGrid_c (s : Int) (x o : List Int) (hx : x.length = 8) (ho : o.length = 8) : Gives Try.prog 6 #[.agg (gc s x o).toArray] (.agg (gc s x o).toArray) := by
  refine Gives.of fun w => ?_
  refine acall_of (N := 16) (c := _) (rs := [.cell 2 27]) (args := [_]) Try.func6 rfl (by decide) rfl rfl (Nat.le_of_ble_eq_true rfl) ?_
  refine Cd.rs [1, 2] fun K hK => ?_
  simp (maxSteps := 2000000) (disch := first | omega | (simp only [E4, *] <;> omega) | fail) only [↓E0, E1, env0, envN, evOps, evOp, evQs, evQ, evV, setD, pureOp, ev, upd, updL, Value.cells, hav, delB, ↓reduceIte, Zj, Zk, Nat.reduceAdd, Nat.reduceLT, Nat.reduceEqDiff, Nat.reduceMul, Nat.reduceLeDiff, if_true, Zn, reduceCtorEq, ZA, eq_self, Int.reduceLE, Int.reduceLT, Int.reduceToNat, ne_eq, Nat.reduceSub, Tzero27]
  intro b1 hb1 b2 hb2
  have n21 := hb2.ne
  repeat refine And.intro (by omega) ?_
  intro g
  simp only [List.map_cons, List.map_nil, updL, upd, Nat.reduceEqDiff, if_true, if_false, ↓reduceIte]
  refine hK _ _ ?_; clear hK K
  refine Cd.rs [1, 2, 3] fun K hK => ?_
  simp (maxSteps := 2000000) (disch := first | omega | (simp only [E4, *] <;> omega) | fail) only [↓E0, E1, env0, envN, evOps, evOp, evQs, evQ, evV, setD, pureOp, ev, upd, updL, Value.cells, hav, delB, ↓reduceIte, Zj, Zk, Nat.reduceAdd, Nat.reduceLT, Nat.reduceEqDiff, Nat.reduceMul, Nat.reduceLeDiff, if_true, Zn, reduceCtorEq, ZA, eq_self, Int.reduceLE, Int.reduceLT, Int.reduceToNat, ne_eq, Nat.reduceSub, Tzero27]
  intro b3 hb3
  have n32 := hb3.ne
  have n31 := hb3.tail.ne
  repeat refine And.intro (by omega) ?_
  intro g
  simp only [List.map_cons, List.map_nil, updL, upd, Nat.reduceEqDiff, if_true, if_false, ↓reduceIte]
  refine hK _ _ ?_; clear hK K
  refine Cd.rs [1, 2, 3] fun K hK => ?_
  simp (maxSteps := 2000000) (disch := first | omega | (simp only [E4, hx, ho, *] <;> omega) | fail) only [↓E0, E1, env0, envN, evOps, evOp, evQs, evQ, evV, setD, pureOp, ev, upd, updL, fieldAddrV, cellAt, cellsAt, findB, setB, Value.cells, hav, delB, ↓reduceIte, Zj, Zk, Nat.reduceAdd, Nat.reduceLT, Nat.reduceEqDiff, Nat.reduceMul, Nat.reduceLeDiff, if_true, Zn, reduceCtorEq, ZA, eq_self, Int.reduceLE, Int.reduceLT, Int.reduceToNat, ne_eq, Nat.reduceSub, Tfld24_0, Tfld27_0, Tld2, Tst2, n21, n32, n31, hx, ho]
  repeat refine And.intro (by omega) ?_
  intro g
  simp only [List.map_cons, List.map_nil, updL, upd, Nat.reduceEqDiff, if_true, if_false, ↓reduceIte]
  refine hK _ _ ?_; clear hK K
  refine Cd.rs [1, 2, 3] fun K hK => ?_
  simp (maxSteps := 2000000) (disch := first | omega | (simp only [E4, hx, ho, *] <;> omega) | fail) only [↓E0, E1, env0, envN, evOps, evOp, evQs, evQ, evV, setD, pureOp, ev, upd, updL, fieldAddrV, cellAt, cellsAt, findB, setB, Value.cells, hav, delB, ↓reduceIte, Zj, Zk, Nat.reduceAdd, Nat.reduceLT, Nat.reduceEqDiff, Nat.reduceMul, Nat.reduceLeDiff, if_true, Zn, reduceCtorEq, ZA, eq_self, Int.reduceLE, Int.reduceLT, Int.reduceToNat, ne_eq, Nat.reduceSub, Tfld24_1, Tfld27_1, Tld22, Tst22, n21, n32, n31, hx, ho]
  refine callK_gives (toByteA8_c _ hx) ?_
  simp (maxSteps := 2000000) (disch := first | omega | (simp only [E4, hx, ho, *] <;> omega) | fail) only [↓E0, E1, env0, envN, evOps, evOp, evQs, evQ, evV, setD, pureOp, ev, upd, updL, fieldAddrV, cellAt, cellsAt, findB, setB, Value.cells, hav, delB, ↓reduceIte, Zj, Zk, Nat.reduceAdd, Nat.reduceLT, Nat.reduceEqDiff, Nat.reduceMul, Nat.reduceLeDiff, if_true, Zn, reduceCtorEq, ZA, eq_self, Int.reduceLE, Int.reduceLT, Int.reduceToNat, ne_eq, Nat.reduceSub, Tfld24_1, Tfld27_1, Tld22, Tst22, n21, n32, n31, hx, ho]
  repeat refine And.intro (by omega) ?_
  intro g
  simp only [List.map_cons, List.map_nil, updL, upd, Nat.reduceEqDiff, if_true, if_false, ↓reduceIte]
  refine hK _ _ ?_; clear hK K
  refine Cd.rs [2, 3] fun K hK => ?_
  simp (maxSteps := 2000000) (disch := first | omega | (simp only [E4, hx, ho, *] <;> omega) | fail) only [↓E0, E1, env0, envN, evOps, evOp, evQs, evQ, evV, setD, pureOp, ev, upd, updL, fieldAddrV, cellAt, cellsAt, findB, setB, Value.cells, hav, delB, ↓reduceIte, Zj, Zk, Nat.reduceAdd, Nat.reduceLT, Nat.reduceEqDiff, Nat.reduceMul, Nat.reduceLeDiff, if_true, Zn, reduceCtorEq, ZA, eq_self, Int.reduceLE, Int.reduceLT, Int.reduceToNat, ne_eq, Nat.reduceSub, Tfld24_2, Tfld27_2, Tld22, Tst22, n21, n32, n31, hx, ho]
  refine callK_gives (toByteA8_c _ ho) ?_
  simp (maxSteps := 2000000) (disch := first | omega | (simp only [E4, hx, ho, *] <;> omega) | fail) only [↓E0, E1, env0, envN, evOps, evOp, evQs, evQ, evV, setD, pureOp, ev, upd, updL, fieldAddrV, cellAt, cellsAt, findB, setB, Value.cells, hav, delB, ↓reduceIte, Zj, Zk, Nat.reduceAdd, Nat.reduceLT, Nat.reduceEqDiff, Nat.reduceMul, Nat.reduceLeDiff, if_true, Zn, reduceCtorEq, ZA, eq_self, Int.reduceLE, Int.reduceLT, Int.reduceToNat, ne_eq, Nat.reduceSub, Tfld24_2, Tfld27_2, Tld22, Tst22, n21, n32, n31, hx, ho]
  repeat refine And.intro (by omega) ?_
  intro g
  simp only [List.map_cons, List.map_nil, updL, upd, Nat.reduceEqDiff, if_true, if_false, ↓reduceIte]
  refine hK _ _ ?_; clear hK K
  refine Cd.rs [2] fun K hK => ?_
  simp (maxSteps := 2000000) (disch := first | omega | (simp only [E4, hx, ho, *] <;> omega) | fail) only [↓E0, E1, env0, envN, evOps, evOp, evQs, evQ, evV, setD, pureOp, ev, upd, updL, cellAt, cellsAt, findB, setB, Value.cells, hav, delB, ↓reduceIte, Zj, Zk, Nat.reduceAdd, Nat.reduceLT, Nat.reduceEqDiff, Nat.reduceMul, Nat.reduceLeDiff, if_true, Zn, reduceCtorEq, ZA, eq_self, Int.reduceLE, Int.reduceLT, Int.reduceToNat, ne_eq, Nat.reduceSub, Tld27, Tst27, n21, n32, n31, hx, ho]
  repeat refine And.intro (by omega) ?_
  intro g
  simp only [List.map_cons, List.map_nil, updL, upd, Nat.reduceEqDiff, if_true, if_false, ↓reduceIte]
  refine hK _ _ ?_; clear hK K
  refine Cd.ret ?_
  simp (maxSteps := 2000000) (disch := first | omega | (simp only [E4, hx, ho, *] <;> omega) | fail) only [↓E0, E1, evP, evPlan, env0, envN, evOps, evOp, evQs, evQ, evV, setD, pureOp, ev, upd, updL, gate, binW, eqOp, binV, intOp, shOp, boolOp, unV, convV, nilV, fieldAddrV, indexAddrV, extractV, cellAt, cellsAt, findB, setB, fillL, buildV, Value.cells, lenV, minV, maxV, hav, sliceV, loV, hiV, bslQ, mksQ, appQ, partsOk, partsCells, delB, eqL, SameI, strOp, apzQ, cvtQ, capV, ↓reduceIte, Zj, Zk, Nat.reduceAdd, Nat.reduceLT, Nat.reduceEqDiff, Nat.reduceMul, Nat.reduceLeDiff, if_true, Zn, reduceCtorEq, ZA, eq_self, Int.reduceLE, Int.reduceLT, Int.reduceToNat, ne_eq, Nat.reduceSub, Tld27, n21, n32, n31, hx, ho]

end Go.Proofs

/-
  What the functions of this part hand back: each as a plain function of its arguments. Conditions: none.
-/
namespace Go.Proofs
open Go.W8
set_option linter.unusedVariables false
set_option linter.unusedSimpArgs false
set_option linter.unusedSectionVars false
set_option maxRecDepth 8000
set_option maxHeartbeats 4000000
theorem l04Winding_c (s : Int) (x o : List Int) (hx : Bytes8 x) (ho : Bytes8 o) (a b : Int) (ha : a ≤ 8) : Gives Try.prog 46 #[.agg (gc s x o).toArray, .int .i64 a, .int .i64 b] (.int .i64 (wnd x o b a.toNat)) := by
  have hl := hx.len
  have hm := ho.len
  skip
  refine Gives.of fun w => ?_
  refine acall_of (N := 49) (c := _) (rs := [.tmp 6]) (args := [_, _, _]) Try.func46 rfl (by decide) rfl rfl (Nat.le_of_ble_eq_true rfl) ?_
  refine Cd.rs [1, 2, 3] fun K hK => ?_
  simp (maxSteps := 2000000) (disch := first | omega | (simp only [E4, hl, hm, *] <;> omega) | fail) only [↓E0, E1, env0, envN, evOps, evOp, evQs, evQ, evV, setD, pureOp, ev, upd, updL, Value.cells, hav, delB, ↓reduceIte, Zj, Zk, Nat.reduceAdd, Nat.reduceLT, Nat.reduceEqDiff, Nat.reduceMul, Nat.reduceLeDiff, if_true, Zn, reduceCtorEq, ZA, eq_self, Int.reduceLE, Int.reduceLT, Int.reduceToNat, ne_eq, Nat.reduceSub, hl, hm]
  intro b1 hb1
  try simp (maxSteps := 2000000) (disch := first | omega | (simp only [E4, hl, hm, *] <;> omega) | fail) only [↓E0, E1, env0, envN, evOps, evOp, evQs, evQ, evV, setD, pureOp, ev, upd, updL, Value.cells, hav, delB, ↓reduceIte, Zj, Zk, Nat.reduceAdd, Nat.reduceLT, Nat.reduceEqDiff, Nat.reduceMul, Nat.reduceLeDiff, if_true, Zn, reduceCtorEq, ZA, eq_self, Int.reduceLE, Int.reduceLT, Int.reduceToNat, ne_eq, Nat.reduceSub, hl, hm]
  repeat refine And.intro (by omega) ?_
  intro g
  simp only [List.map_cons, List.map_nil, updL, upd, Nat.reduceEqDiff, if_true, if_false, ↓reduceIte]
  refine hK _ _ ?_; clear hK K
  refine Cd.rs [1, 2, 3, 7] fun K hK => ?_
  simp (maxSteps := 2000000) (disch := first | omega | (simp only [E4, hl, hm, *] <;> omega) | fail) only [↓E0, E1, env0, envN, evOps, evOp, evQs, evQ, evV, setD, pureOp, ev, upd, updL, hav, delB, ↓reduceIte, Zj, Zk, Nat.reduceAdd, Nat.reduceLT, Nat.reduceEqDiff, Nat.reduceMul, Nat.reduceLeDiff, if_true, Zn, reduceCtorEq, ZA, eq_self, Int.reduceLE, Int.reduceLT, Int.reduceToNat, ne_eq, Nat.reduceSub, hl, hm]
  repeat refine And.intro (by omega) ?_
  intro g
  simp only [List.map_cons, List.map_nil, updL, upd, Nat.reduceEqDiff, if_true, if_false, ↓reduceIte]
  refine hK _ _ ?_; clear hK K
  refine Cd.seq ?_
  refine Cd.rs [1, 2, 3, 7, 8] fun K hK => ?_
  simp (maxSteps := 2000000) (disch := first | omega | (simp only [E4, hl, hm, *] <;> omega) | fail) only [↓E0, E1, env0, envN, evOps, evOp, evQs, evQ, evV, setD, pureOp, ev, upd, updL, hav, delB, ↓reduceIte, Zj, Zk, Nat.reduceAdd, Nat.reduceLT, Nat.reduceEqDiff, Nat.reduceMul, Nat.reduceLeDiff, if_true, Zn, reduceCtorEq, ZA, eq_self, Int.reduceLE, Int.reduceLT, Int.reduceToNat, ne_eq, Nat.reduceSub, hl, hm]
  repeat refine And.intro (by omega) ?_
  intro g
  simp only [List.map_cons, List.map_nil, updL, upd, Nat.reduceEqDiff, if_true, if_false, ↓reduceIte]
  refine hK _ _ ?_; clear hK K
  refine Cd.block ?_
  refine Cd.loop (fun m ρ M => ∃ g k, k + m = a.toNat ∧ ρ = updL ([(1, .int .i64 a), (2, .int .i64 b), (3, .pointer (some ⟨b1, 0, none⟩)), (7, .int .i64 (wnd x o b k)), (8, .int .i64 (k : Int))]) g ∧ M = [(b1, gc s x o)]) a.toNat ⟨_, 0, Nat.zero_add _, rfl, rfl⟩ ?_
  rintro m ρ M ⟨g, k, hk, rfl, rfl⟩
  refine Cd.seq ?_
  refine Cd.rs [1, 2, 3, 7, 8, 13] fun K hK => ?_
  simp (maxSteps := 2000000) (disch := first | omega | (simp only [E4, hl, hm, *] <;> omega) | fail) only [↓E0, E1, env0, envN, evOps, evOp, evQs, evQ, evV, setD, pureOp, ev, upd, updL, binW, eqOp, binV, intOp, shOp, boolOp, hav, delB, eqL, SameI, strOp, ↓reduceIte, Zj, Zk, Nat.reduceAdd, Nat.reduceLT, Nat.reduceEqDiff, Nat.reduceMul, Nat.reduceLeDiff, if_true, Zn, reduceCtorEq, ZA, eq_self, Int.reduceLE, Int.reduceLT, Int.reduceToNat, ne_eq, Nat.reduceSub, hl, hm]
  repeat refine And.intro (by omega) ?_
  intro g
  simp only [List.map_cons, List.map_nil, updL, upd, Nat.reduceEqDiff, if_true, if_false, ↓reduceIte]
  refine hK _ _ ?_; clear hK K
  refine Cd.condd rfl (fun h1 => ?_) (fun h1 => ?_)
  · have c1 := bytes_get hx (i := k) (by omega)
    have c2 := bytes_get ho (i := k) (by omega)
    have c3 := wnd_bound x o b k
    refine Cd.skip ?_
    refine thenN ?_
    refine Cd.seq ?_
    refine Cd.block ?_
    refine Cd.qs [1, 2, 3, 7, 8, 9, 10] fol (by kernel_rfl) fun K hK => ?_
    simp (maxSteps := 2000000) (disch := first | omega | (simp only [E4, hl, hm, *] <;> omega) | fail) only [↓E0, E1, evPlan, env0, envN, evOps, evOp, evQs, evQ, evV, setD, pureOp, ev, upd, updL, convV, fieldAddrV, indexAddrV, cellAt, cellsAt, findB, hav, delB, cvtQ, ↓reduceIte, Zj, Zk, Nat.reduceAdd, Nat.reduceLT, Nat.reduceEqDiff, Nat.reduceMul, Nat.reduceLeDiff, if_true, Zn, reduceCtorEq, ZA, eq_self, Int.reduceLE, Int.reduceLT, Int.reduceToNat, ne_eq, Nat.reduceSub, Tarr22, Tfld27_1, Tfld27_2, Tint2, Tld5, Tpar5, hl, hm]
    repeat refine And.intro (by omega) ?_
    repeat refine And.intro (by omega) ?_
    intro g
    simp only [List.map_cons, List.map_nil, updL, upd, Nat.reduceEqDiff, if_true, if_false, ↓reduceIte]
    refine hK _ ?_; clear hK K
    refine Cd.block ?_
    refine Cd.rs [1, 2, 3, 7, 8, 9, 10, 26] fun K hK => ?_
    have J : ∀ g d, (d = true ↔ o.getD k 0 < b ∧ b ≤ x.getD k 0) → K (updL ([(1, .int .i64 a), (2, .int .i64 b), (3, .pointer (some ⟨b1, 0, none⟩)), (7, .int .i64 (wnd x o b k)), (8, .int .i64 (k : Int)), (9, .int .i64 (x.getD k 0)), (10, .int .i64 (o.getD k 0)), (26, .bool d)]) g) [(b1, gc s x o)] := by
      intro g d hd
      refine hK _ _ ?_
      clear hK K
      refine Cd.cond rfl (fun h2 => ?_) (fun h2 => ?_)
      · refine Cd.rr [1, 2, 3, 7, 8] fun K hK => ?_
        simp (maxSteps := 2000000) (disch := first | omega | (simp only [E4, hl, hm, *] <;> omega) | fail) only [↓E0, E1, env0, envN, evOps, evOp, evQs, evQ, evV, setD, pureOp, ev, upd, updL, binW, eqOp, binV, intOp, shOp, boolOp, hav, delB, eqL, SameI, strOp, ↓reduceIte, Zj, Zk, Nat.reduceAdd, Nat.reduceLT, Nat.reduceEqDiff, Nat.reduceMul, Nat.reduceLeDiff, if_true, Zn, reduceCtorEq, ZA, eq_self, Int.reduceLE, Int.reduceLT, Int.reduceToNat, ne_eq, Nat.reduceSub, hl, hm]
        rw [wnd_up (hd.1 h2)]
        repeat refine And.intro (by omega) ?_
        intro g
        simp only [List.map_cons, List.map_nil, updL, upd, Nat.reduceEqDiff, if_true, if_false, ↓reduceIte]
        refine hK _ _ ?_; clear hK K
        refine inBN ?_
        refine inBN ?_
        refine thenN ?_
        refine Cd.rr [1, 2, 3, 7, 8] fun K hK => ?_
        simp (maxSteps := 2000000) (disch := first | omega | (simp only [E4, hl, hm, *] <;> omega) | fail) only [↓E0, E1, env0, envN, evOps, evOp, evQs, evQ, evV, setD, pureOp, ev, upd, updL, binW, eqOp, binV, intOp, shOp, boolOp, hav, delB, eqL, SameI, strOp, ↓reduceIte, Zj, Zk, Nat.reduceAdd, Nat.reduceLT, Nat.reduceEqDiff, Nat.reduceMul, Nat.reduceLeDiff, if_true, Zn, reduceCtorEq, ZA, eq_self, Int.reduceLE, Int.reduceLT, Int.reduceToNat, ne_eq, Nat.reduceSub, hl, hm]
        repeat refine And.intro (by omega) ?_
        intro g
        simp only [List.map_cons, List.map_nil, updL, upd, Nat.reduceEqDiff, if_true, if_false, ↓reduceIte]
        refine hK _ _ ?_; clear hK K
        exact roundN (m := m - 1) (by omega) ⟨_, k + 1, by omega, rfl, rfl⟩
      · have h3 : ¬ (o.getD k 0 < b ∧ b ≤ x.getD k 0) := fun h => by rw [hd.2 h] at h2; cases h2
        refine Cd.rs [1, 2, 3, 7, 8, 37] fun K hK => ?_
        have J : ∀ g d, (d = true ↔ x.getD k 0 < b ∧ b ≤ o.getD k 0) → K (updL ([(1, .int .i64 a), (2, .int .i64 b), (3, .pointer (some ⟨b1, 0, none⟩)), (7, .int .i64 (wnd x o b k)), (8, .int .i64 (k : Int)), (37, .bool d)]) g) [(b1, gc s x o)] := by
          intro g d hd
          refine hK _ _ ?_
          clear hK K
          refine Cd.cond rfl (fun h2 => ?_) (fun h2 => ?_)
          · refine Cd.rr [1, 2, 3, 7, 8] fun K hK => ?_
            simp (maxSteps := 2000000) (disch := first | omega | (simp only [E4, hl, hm, *] <;> omega) | fail) only [↓E0, E1, env0, envN, evOps, evOp, evQs, evQ, evV, setD, pureOp, ev, upd, updL, binW, eqOp, binV, intOp, shOp, boolOp, hav, delB, eqL, SameI, strOp, ↓reduceIte, Zj, Zk, Nat.reduceAdd, Nat.reduceLT, Nat.reduceEqDiff, Nat.reduceMul, Nat.reduceLeDiff, if_true, Zn, reduceCtorEq, ZA, eq_self, Int.reduceLE, Int.reduceLT, Int.reduceToNat, ne_eq, Nat.reduceSub, hl, hm]
            rw [wnd_down h3 (hd.1 h2)]
            repeat refine And.intro (by omega) ?_
            intro g
            simp only [List.map_cons, List.map_nil, updL, upd, Nat.reduceEqDiff, if_true, if_false, ↓reduceIte]
            refine hK _ _ ?_; clear hK K
            refine inBN ?_
            refine inBN ?_
            refine thenN ?_
            refine Cd.rr [1, 2, 3, 7, 8] fun K hK => ?_
            simp (maxSteps := 2000000) (disch := first | omega | (simp only [E4, hl, hm, *] <;> omega) | fail) only [↓E0, E1, env0, envN, evOps, evOp, evQs, evQ, evV, setD, pureOp, ev, upd, updL, binW, eqOp, binV, intOp, shOp, boolOp, hav, delB, eqL, SameI, strOp, ↓reduceIte, Zj, Zk, Nat.reduceAdd, Nat.reduceLT, Nat.reduceEqDiff, Nat.reduceMul, Nat.reduceLeDiff, if_true, Zn, reduceCtorEq, ZA, eq_self, Int.reduceLE, Int.reduceLT, Int.reduceToNat, ne_eq, Nat.reduceSub, hl, hm]
            repeat refine And.intro (by omega) ?_
            intro g
            simp only [List.map_cons, List.map_nil, updL, upd, Nat.reduceEqDiff, if_true, if_false, ↓reduceIte]
            refine hK _ _ ?_; clear hK K
            exact roundN (m := m - 1) (by omega) ⟨_, k + 1, by omega, rfl, rfl⟩
          · have h4 : ¬ (x.getD k 0 < b ∧ b ≤ o.getD k 0) := fun h => by rw [hd.2 h] at h2; cases h2
            refine Cd.skip ?_
            refine inBN ?_
            refine inBN ?_
            refine thenN ?_
            refine Cd.rr [1, 2, 3, 7, 8] fun K hK => ?_
            simp (maxSteps := 2000000) (disch := first | omega | (simp only [E4, hl, hm, *] <;> omega) | fail) only [↓E0, E1, env0, envN, evOps, evOp, evQs, evQ, evV, setD, pureOp, ev, upd, updL, binW, eqOp, binV, intOp, shOp, boolOp, hav, delB, eqL, SameI, strOp, ↓reduceIte, Zj, Zk, Nat.reduceAdd, Nat.reduceLT, Nat.reduceEqDiff, Nat.reduceMul, Nat.reduceLeDiff, if_true, Zn, reduceCtorEq, ZA, eq_self, Int.reduceLE, Int.reduceLT, Int.reduceToNat, ne_eq, Nat.reduceSub, hl, hm]
            rw [wnd_same h3 h4]
            repeat refine And.intro (by omega) ?_
            intro g
            simp only [List.map_cons, List.map_nil, updL, upd, Nat.reduceEqDiff, if_true, if_false, ↓reduceIte]
            refine hK _ _ ?_; clear hK K
            exact roundN (m := m - 1) (by omega) ⟨_, k + 1, by omega, rfl, rfl⟩
        clear hK
        simp (maxSteps := 2000000) (disch := first | omega | (simp only [E4, hl, hm, *] <;> omega) | fail) only [↓E0, E1, env0, envN, evOps, evOp, evQs, evQ, evV, setD, pureOp, ev, upd, updL, gate, binW, eqOp, binV, intOp, shOp, boolOp, hav, delB, eqL, SameI, strOp, ↓reduceIte, Zj, Zk, Nat.reduceAdd, Nat.reduceLT, Nat.reduceEqDiff, Nat.reduceMul, Nat.reduceLeDiff, if_true, Zn, reduceCtorEq, ZA, eq_self, Int.reduceLE, Int.reduceLT, Int.reduceToNat, ne_eq, Nat.reduceSub, hl, hm]
        refine ⟨fun h => ?_, fun h => ?_⟩
        all_goals
          repeat refine And.intro (by omega) ?_
          intro g
          simp only [List.map_cons, List.map_nil, updL, upd, Nat.reduceEqDiff, if_true, if_false, ↓reduceIte]
          refine J g _ ?_
          simp at h ⊢
          omega
    clear hK
    simp (maxSteps := 2000000) (disch := first | omega | (simp only [E4, hl, hm, *] <;> omega) | fail) only [↓E0, E1, env0, envN, evOps, evOp, evQs, evQ, evV, setD, pureOp, ev, upd, updL, gate, binW, eqOp, binV, intOp, shOp, boolOp, hav, delB, eqL, SameI, strOp, ↓reduceIte, Zj, Zk, Nat.reduceAdd, Nat.reduceLT, Nat.reduceEqDiff, Nat.reduceMul, Nat.reduceLeDiff, if_true, Zn, reduceCtorEq, ZA, eq_self, Int.reduceLE, Int.reduceLT, Int.reduceToNat, ne_eq, Nat.reduceSub, hl, hm]
    refine ⟨fun h => ?_, fun h => ?_⟩
    all_goals
      repeat refine And.intro (by omega) ?_
      intro g
      simp only [List.map_cons, List.map_nil, updL, upd, Nat.reduceEqDiff, if_true, if_false, ↓reduceIte]
      refine J g _ ?_
      simp at h ⊢
      omega
  · refine Cd.exit (thenX (roundX (inBX ?_)))
    refine thenN ?_
    obtain rfl : k = a.toNat := by omega
    refine Cd.rs [6] fun K hK => ?_
    simp (maxSteps := 2000000) (disch := first | omega | (simp only [E4, hl, hm, *] <;> omega) | fail) only [↓E0, E1, env0, envN, evOps, evOp, evQs, evQ, evV, setD, pureOp, ev, upd, updL, hav, delB, ↓reduceIte, Zj, Zk, Nat.reduceAdd, Nat.reduceLT, Nat.reduceEqDiff, Nat.reduceMul, Nat.reduceLeDiff, if_true, Zn, reduceCtorEq, ZA, eq_self, Int.reduceLE, Int.reduceLT, Int.reduceToNat, ne_eq, Nat.reduceSub, hl, hm]
    repeat refine And.intro (by omega) ?_
    intro g
    simp only [List.map_cons, List.map_nil, updL, upd, Nat.reduceEqDiff, if_true, if_false, ↓reduceIte]
    refine hK _ _ ?_; clear hK K
    refine Cd.ret ?_
    simp (maxSteps := 2000000) (disch := first | omega | (simp only [E4, hl, hm, *] <;> omega) | fail) only [↓E0, E1, evP, evPlan, env0, envN, evOps, evOp, evQs, evQ, evV, setD, pureOp, ev, upd, updL, gate, binW, eqOp, binV, intOp, shOp, boolOp, unV, convV, nilV, fieldAddrV, indexAddrV, extractV, cellAt, cellsAt, findB, setB, fillL, buildV, Value.cells, lenV, minV, maxV, hav, sliceV, loV, hiV, bslQ, mksQ, appQ, partsOk, partsCells, delB, eqL, SameI, strOp, apzQ, cvtQ, capV, ↓reduceIte, Zj, Zk, Nat.reduceAdd, Nat.reduceLT, Nat.reduceEqDiff, Nat.reduceMul, Nat.reduceLeDiff, if_true, Zn, reduceCtorEq, ZA, eq_self, Int.reduceLE, Int.reduceLT, Int.reduceToNat, ne_eq, Nat.reduceSub, hl, hm]

section
variable (s : Int) (x o : List Int) (hx : Bytes8 x) (ho : Bytes8 o) (a : Int) (wa : -9223372036854775808 ≤ a ∧ a < 9223372036854775808) (b : Int) (wb : -9223372036854775808 ≤ b ∧ b < 9223372036854775808)
include hx ho wa wb

end
end Go.Proofs

/-
  What the functions of this part hand back: each as a plain function of its arguments. Conditions: none.
-/
namespace Go.Proofs
open Go.W8
set_option linter.unusedVariables false
set_option linter.unusedSimpArgs false
set_option linter.unusedSectionVars false
set_option maxRecDepth 8000
set_option maxHeartbeats 4000000
theorem int64_len {l : List Int} {m : Nat} (h : (ints .i64 l).length = m * 1) : m = l.length := by
  rw [ints_length] at h; omega
/-- Numbers from k on. -/
def upK (k : Int) (n : Nat) : List Int := (List.range n).map fun (i : Nat) => k + (i : Int)
/-- The first i marked. -/
def mkK (l : List Int) (k : Int) (i : Nat) : List Int := upK k i ++ l.drop i
end Go.Proofs

/-
  What the functions of this part hand back: each as a plain function of its arguments. Conditions: none.
-/
namespace Go.Proofs
open Go.W8
set_option linter.unusedVariables false
set_option linter.unusedSimpArgs false
set_option linter.unusedSectionVars false
set_option maxRecDepth 8000
set_option maxHeartbeats 4000000
/-- A number of a row that is told. -/
theorem rd_int {W : List Nat} {w0 : World} {R : Rd} {m cap k : Nat} {l : List Int} {a : Option Addr} (h : RdS R 1 (ints .i64 l) (.slice a m cap)) (ht : W8.Told W w0 R) (hk : k < l.length) : ∃ b, a = some ⟨b, 0, none⟩ ∧ frn W w0 b k = some (.int .i64 (l.getD k 0)) := h.get ht (ints_get hk)
theorem lauLen {l : List Int} {m : Nat} (h : (ints .i64 l).length = m * 1) : m = l.length := by
  rw [ints_length] at h; omega

theorem l04Is_c (low : Int) (l : List Int) (R : Rd) (v : Value) (h : RdS R 1 (ints .i64 l) v) (hb : l.length < 4611686018427387904) (hw : -9223372036854775808 ≤ low ∧ low < 9223372036854775808) :
    GivesR Try.prog 45 #[.agg #[.int .i64 low, v]] R (.bool (lauOk low l)) := by
  obtain ⟨a, m, cap, rfl, hm, _⟩ := id h
  obtain rfl := lauLen hm
  refine GivesR.of (callable_of Try.func45 rfl (by decide)) fun w hR => ?_
  refine acall_of (N := 57) (c := _) (rs := [.tmp 2]) (args := [_]) Try.func45 rfl (by decide) rfl rfl (Nat.le_of_ble_eq_true rfl) ?_
  refine Cd.rs [1] fun K hK => ?_
  simp (maxSteps := 2000000) (disch := first | (simp only [E4] <;> omega) | omega | fail) only [↓E2, E3, bare, bareJ, ↓E0, E1, env0, envN, evOps, evOp, evQs, evQ, evV, setD, pureOp, ev, upd, updL, Value.cells, hav, delB, ↓reduceIte, Zj, Zk, Nat.reduceAdd, Nat.reduceLT, Nat.reduceEqDiff, Nat.reduceMul, Nat.reduceLeDiff, if_true, Zn, reduceCtorEq, ZA, eq_self, Int.reduceLE, Int.reduceLT, Int.reduceToNat, ne_eq, Nat.reduceSub]
  repeat refine And.intro (by omega) ?_
  intro b1 hb1
  try simp (maxSteps := 2000000) (disch := first | (simp only [E4] <;> omega) | omega | fail) only [↓E2, E3, bare, bareJ, ↓E0, E1, env0, envN, evOps, evOp, evQs, evQ, evV, setD, pureOp, ev, upd, updL, Value.cells, hav, delB, ↓reduceIte, Zj, Zk, Nat.reduceAdd, Nat.reduceLT, Nat.reduceEqDiff, Nat.reduceMul, Nat.reduceLeDiff, if_true, Zn, reduceCtorEq, ZA, eq_self, Int.reduceLE, Int.reduceLT, Int.reduceToNat, ne_eq, Nat.reduceSub]
  repeat refine And.intro (by omega) ?_
  repeat refine And.intro (by omega) ?_
  intro g
  simp only [List.map_cons, List.map_nil, updL, upd, Nat.reduceEqDiff, if_true, if_false, ↓reduceIte]
  refine hK _ _ ?_; clear hK K
  refine Cd.rs [1, 3] fun K hK => ?_
  simp (maxSteps := 2000000) (disch := first | (simp only [E4] <;> omega) | omega | fail) only [↓E2, E3, bare, bareJ, ↓E0, E1, env0, envN, evOps, evOp, evQs, evQ, evV, setD, pureOp, ev, upd, updL, fieldAddrV, cellAt, cellsAt, findB, lenV, hav, delB, ↓reduceIte, Zj, Zk, Nat.reduceAdd, Nat.reduceLT, Nat.reduceEqDiff, Nat.reduceMul, Nat.reduceLeDiff, if_true, Zn, reduceCtorEq, ZA, eq_self, Int.reduceLE, Int.reduceLT, Int.reduceToNat, ne_eq, Nat.reduceSub, Tfld35_1, Tld31, Tslce31]
  repeat refine And.intro (by omega) ?_
  repeat refine And.intro (by omega) ?_
  intro g
  simp only [List.map_cons, List.map_nil, updL, upd, Nat.reduceEqDiff, if_true, if_false, ↓reduceIte]
  refine hK _ _ ?_; clear hK K
  refine Cd.seq ?_
  refine Cd.rs [1, 3, 9] fun K hK => ?_
  simp (maxSteps := 2000000) (disch := first | (simp only [E4] <;> omega) | omega | fail) only [↓E2, E3, bare, bareJ, ↓E0, E1, env0, envN, evOps, evOp, evQs, evQ, evV, setD, pureOp, ev, upd, updL, binW, eqOp, binV, intOp, shOp, boolOp, hav, delB, eqL, SameI, strOp, ↓reduceIte, Zj, Zk, Nat.reduceAdd, Nat.reduceLT, Nat.reduceEqDiff, Nat.reduceMul, Nat.reduceLeDiff, if_true, Zn, reduceCtorEq, ZA, eq_self, Int.reduceLE, Int.reduceLT, Int.reduceToNat, ne_eq, Nat.reduceSub]
  repeat refine And.intro (by omega) ?_
  repeat refine And.intro (by omega) ?_
  intro g
  simp only [List.map_cons, List.map_nil, updL, upd, Nat.reduceEqDiff, if_true, if_false, ↓reduceIte]
  refine hK _ _ ?_; clear hK K
  refine Cd.cond rfl (fun h1 => ?_) (fun h1 => ?_)
  · simp only [decide_eq_true_eq, decide_eq_false_iff_not, beq_iff_eq, beq_eq_false_iff_ne, bne_iff_ne, bne_eq_false_iff_eq, Bool.and_eq_true, Bool.or_eq_true, Bool.or_eq_false_iff, Bool.not_eq_true', Bool.not_eq_false', Bool.and_eq_false_imp, ne_eq, gt_iff_lt, ge_iff_le, Int.not_lt, Int.not_le, Classical.not_not] at h1
    refine Cd.rs [2] fun K hK => ?_
    simp (maxSteps := 2000000) (disch := first | (simp only [E4] <;> omega) | omega | fail) only [↓E2, E3, bare, bareJ, ↓E0, E1, env0, envN, evOps, evOp, evQs, evQ, evV, setD, pureOp, ev, upd, updL, binW, eqOp, binV, intOp, shOp, boolOp, fieldAddrV, cellAt, cellsAt, findB, hav, delB, eqL, SameI, strOp, ↓reduceIte, Zj, Zk, Nat.reduceAdd, Nat.reduceLT, Nat.reduceEqDiff, Nat.reduceMul, Nat.reduceLeDiff, if_true, Zn, reduceCtorEq, ZA, eq_self, Int.reduceLE, Int.reduceLT, Int.reduceToNat, ne_eq, Nat.reduceSub, Tfld35_0, Tld2]
    repeat refine And.intro (by omega) ?_
    repeat refine And.intro (by omega) ?_
    intro g
    simp only [List.map_cons, List.map_nil, updL, upd, Nat.reduceEqDiff, if_true, if_false, ↓reduceIte]
    refine hK _ _ ?_; clear hK K
    refine Cd.ret (thenR ?_)
    simp (maxSteps := 2000000) (disch := first | (simp only [E4] <;> omega) | omega | fail) only [↓E2, E3, bare, bareJ, ↓E0, E1, evP, evPlan, env0, envN, evOps, evOp, evQs, evQ, evV, setD, pureOp, ev, upd, updL, gate, binW, eqOp, binV, intOp, shOp, boolOp, unV, convV, nilV, fieldAddrV, indexAddrV, extractV, cellAt, cellsAt, findB, setB, fillL, buildV, Value.cells, lenV, minV, maxV, hav, sliceV, loV, hiV, bslQ, mksQ, appQ, partsOk, partsCells, delB, eqL, SameI, strOp, apzQ, cvtQ, capV, ↓reduceIte, Zj, Zk, Nat.reduceAdd, Nat.reduceLT, Nat.reduceEqDiff, Nat.reduceMul, Nat.reduceLeDiff, if_true, Zn, reduceCtorEq, ZA, eq_self, Int.reduceLE, Int.reduceLT, Int.reduceToNat, ne_eq, Nat.reduceSub]
    repeat refine And.intro (by omega) ?_
    rw [lauOk_zero (by omega)]
    congr 1
  · simp only [decide_eq_true_eq, decide_eq_false_iff_not, beq_iff_eq, beq_eq_false_iff_ne, bne_iff_ne, bne_eq_false_iff_eq, Bool.and_eq_true, Bool.or_eq_true, Bool.or_eq_false_iff, Bool.not_eq_true', Bool.not_eq_false', Bool.and_eq_false_imp, ne_eq, gt_iff_lt, ge_iff_le, Int.not_lt, Int.not_le, Classical.not_not] at h1
    have hlast : l.length - 1 < l.length := by omega
    obtain ⟨b, rfl, q0⟩ := rd_int h hR (k := 0) (by omega)
    obtain ⟨_, e, ql⟩ := rd_int h hR hlast
    cases e
    have n1 := told_ne hb1 q0
    refine Cd.skip ?_
    refine thenN ?_
    refine Cd.seq ?_
    skip
    have e1 : ((l.length : Int) - 1).toNat = l.length - 1 := by omega
    skip
    refine Cd.rs [1, 3, 44] fun K hK => ?_
    simp (maxSteps := 2000000) (disch := first | (simp only [E4, q0, ql, e1] <;> omega) | omega | fail) only [↓E2, E3, bare, bareJ, ↓E0, E1, env0, envN, evOps, evOp, evQs, evQ, evV, setD, pureOp, ev, upd, updL, gate, binW, eqOp, binV, intOp, shOp, boolOp, unV, fieldAddrV, indexAddrV, cellAt, cellsAt, findB, setB, hav, delB, eqL, SameI, strOp, ↓reduceIte, Zj, Zk, Nat.reduceAdd, Nat.reduceLT, Nat.reduceEqDiff, Nat.reduceMul, Nat.reduceLeDiff, if_true, Zn, reduceCtorEq, ZA, eq_self, Int.reduceLE, Int.reduceLT, Int.reduceToNat, ne_eq, Nat.reduceSub, Tfld35_0, Tfld35_1, Tld2, Tld31, Tslc31, q0, ql, n1, e1]
    repeat refine And.intro (by omega) ?_
    apply guardX_or 4 [16, 17, 18, 19] (j := 2) (d := 15) (tp := 20) (tl := 19) rfl rfl rfl rfl rfl
    · intro hq
      simp (maxSteps := 2000000) (disch := first | (simp only [E4, q0, ql, e1] <;> omega) | omega | fail) only [↓E2, E3, bare, bareJ, ↓E0, E1, env0, envN, evOps, evOp, evQs, evQ, evV, setD, pureOp, ev, upd, updL, gate, binW, eqOp, binV, intOp, shOp, boolOp, unV, fieldAddrV, indexAddrV, cellAt, cellsAt, findB, setB, hav, delB, eqL, SameI, strOp, ↓reduceIte, Zj, Zk, Nat.reduceAdd, Nat.reduceLT, Nat.reduceEqDiff, Nat.reduceMul, Nat.reduceLeDiff, if_true, Zn, reduceCtorEq, ZA, eq_self, Int.reduceLE, Int.reduceLT, Int.reduceToNat, ne_eq, Nat.reduceSub, Tfld35_0, Tfld35_1, Tld2, Tld31, Tslc31, q0, ql, n1, e1]
      repeat refine And.intro (by omega) ?_
      refine callK_gives (l01In_c _ _ _) ?_
      simp (maxSteps := 2000000) (disch := first | (simp only [E4, q0, ql, e1] <;> omega) | omega | fail) only [↓E2, E3, bare, bareJ, ↓E0, E1, env0, envN, evOps, evOp, evQs, evQ, evV, setD, pureOp, ev, upd, updL, gate, binW, eqOp, binV, intOp, shOp, boolOp, unV, fieldAddrV, indexAddrV, cellAt, cellsAt, findB, setB, hav, delB, eqL, SameI, strOp, ↓reduceIte, Zj, Zk, Nat.reduceAdd, Nat.reduceLT, Nat.reduceEqDiff, Nat.reduceMul, Nat.reduceLeDiff, if_true, Zn, reduceCtorEq, ZA, eq_self, Int.reduceLE, Int.reduceLT, Int.reduceToNat, ne_eq, Nat.reduceSub, Tfld35_0, Tfld35_1, Tld2, Tld31, Tslc31, q0, ql, n1, e1]
      repeat refine And.intro (by omega) ?_
      exact rfl
    intro g
    simp (maxSteps := 2000000) (disch := first | (simp only [E4, q0, ql, e1] <;> omega) | omega | fail) only [↓E2, E3, bare, bareJ, ↓E0, E1, env0, envN, evOps, evOp, evQs, evQ, evV, setD, pureOp, ev, upd, updL, gate, binW, eqOp, binV, intOp, shOp, boolOp, unV, fieldAddrV, indexAddrV, cellAt, cellsAt, findB, setB, hav, delB, eqL, SameI, strOp, ↓reduceIte, Zj, Zk, Nat.reduceAdd, Nat.reduceLT, Nat.reduceEqDiff, Nat.reduceMul, Nat.reduceLeDiff, if_true, Zn, reduceCtorEq, ZA, eq_self, Int.reduceLE, Int.reduceLT, Int.reduceToNat, ne_eq, Nat.reduceSub, Tfld35_0, Tfld35_1, Tld2, Tld31, Tslc31, q0, ql, n1, e1]
    repeat refine And.intro (by omega) ?_
    apply guardX_or 6 [22, 23, 24, 25, 26, 27] (j := 8) (d := 21) (tp := 28) (tl := 27) rfl rfl rfl rfl rfl
    · intro hq
      simp only [decide_eq_true_eq, decide_eq_false_iff_not, beq_iff_eq, beq_eq_false_iff_ne, bne_iff_ne, bne_eq_false_iff_eq, Bool.and_eq_true, Bool.or_eq_true, Bool.or_eq_false_iff, Bool.not_eq_true', Bool.not_eq_false', Bool.and_eq_false_imp, ne_eq, gt_iff_lt, ge_iff_le, Int.not_lt, Int.not_le, Classical.not_not] at hq
      simp (maxSteps := 2000000) (disch := first | (simp only [E4, q0, ql, e1] <;> omega) | omega | fail) only [↓E2, E3, bare, bareJ, ↓E0, E1, env0, envN, evOps, evOp, evQs, evQ, evV, setD, pureOp, ev, upd, updL, gate, binW, eqOp, binV, intOp, shOp, boolOp, unV, fieldAddrV, indexAddrV, cellAt, cellsAt, findB, setB, hav, delB, eqL, SameI, strOp, ↓reduceIte, Zj, Zk, Nat.reduceAdd, Nat.reduceLT, Nat.reduceEqDiff, Nat.reduceMul, Nat.reduceLeDiff, if_true, Zn, reduceCtorEq, ZA, eq_self, Int.reduceLE, Int.reduceLT, Int.reduceToNat, ne_eq, Nat.reduceSub, Tfld35_0, Tfld35_1, Tld2, Tld31, Tslc31, q0, ql, n1, e1]
      repeat refine And.intro (by omega) ?_
      exact rfl
    intro g
    simp (maxSteps := 2000000) (disch := first | (simp only [E4, q0, ql, e1] <;> omega) | omega | fail) only [↓E2, E3, bare, bareJ, ↓E0, E1, env0, envN, evOps, evOp, evQs, evQ, evV, setD, pureOp, ev, upd, updL, gate, binW, eqOp, binV, intOp, shOp, boolOp, unV, fieldAddrV, indexAddrV, cellAt, cellsAt, findB, setB, hav, delB, eqL, SameI, strOp, ↓reduceIte, Zj, Zk, Nat.reduceAdd, Nat.reduceLT, Nat.reduceEqDiff, Nat.reduceMul, Nat.reduceLeDiff, if_true, Zn, reduceCtorEq, ZA, eq_self, Int.reduceLE, Int.reduceLT, Int.reduceToNat, ne_eq, Nat.reduceSub, Tfld35_0, Tfld35_1, Tld2, Tld31, Tslc31, q0, ql, n1, e1]
    repeat refine And.intro (by omega) ?_
    apply guardX_or 5 [30, 31, 32, 33, 34] (j := 16) (d := 29) (tp := 35) (tl := 34) rfl rfl rfl rfl rfl
    · intro hq
      simp (maxSteps := 2000000) (disch := first | (simp only [E4, q0, ql, e1] <;> omega) | omega | fail) only [↓E2, E3, bare, bareJ, ↓E0, E1, env0, envN, evOps, evOp, evQs, evQ, evV, setD, pureOp, ev, upd, updL, gate, binW, eqOp, binV, intOp, shOp, boolOp, unV, fieldAddrV, indexAddrV, cellAt, cellsAt, findB, setB, hav, delB, eqL, SameI, strOp, ↓reduceIte, Zj, Zk, Nat.reduceAdd, Nat.reduceLT, Nat.reduceEqDiff, Nat.reduceMul, Nat.reduceLeDiff, if_true, Zn, reduceCtorEq, ZA, eq_self, Int.reduceLE, Int.reduceLT, Int.reduceToNat, ne_eq, Nat.reduceSub, Tfld35_0, Tfld35_1, Tld2, Tld31, Tslc31, q0, ql, n1, e1]
      repeat refine And.intro (by omega) ?_
      exact rfl
    intro g
    simp (maxSteps := 2000000) (disch := first | (simp only [E4, q0, ql, e1] <;> omega) | omega | fail) only [↓E2, E3, bare, bareJ, ↓E0, E1, env0, envN, evOps, evOp, evQs, evQ, evV, setD, pureOp, ev, upd, updL, gate, binW, eqOp, binV, intOp, shOp, boolOp, unV, fieldAddrV, indexAddrV, cellAt, cellsAt, findB, setB, hav, delB, eqL, SameI, strOp, ↓reduceIte, Zj, Zk, Nat.reduceAdd, Nat.reduceLT, Nat.reduceEqDiff, Nat.reduceMul, Nat.reduceLeDiff, if_true, Zn, reduceCtorEq, ZA, eq_self, Int.reduceLE, Int.reduceLT, Int.reduceToNat, ne_eq, Nat.reduceSub, Tfld35_0, Tfld35_1, Tld2, Tld31, Tslc31, q0, ql, n1, e1]
    repeat refine And.intro (by omega) ?_
    apply guardX_or 7 [37, 38, 39, 40, 41, 42, 43] (j := 23) (d := 36) (tp := 44) (tl := 43) rfl rfl rfl rfl rfl
    · intro hq
      simp (maxSteps := 2000000) (disch := first | (simp only [E4, q0, ql, e1] <;> omega) | omega | fail) only [↓E2, E3, bare, bareJ, ↓E0, E1, env0, envN, evOps, evOp, evQs, evQ, evV, setD, pureOp, ev, upd, updL, gate, binW, eqOp, binV, intOp, shOp, boolOp, unV, fieldAddrV, indexAddrV, cellAt, cellsAt, findB, setB, hav, delB, eqL, SameI, strOp, ↓reduceIte, Zj, Zk, Nat.reduceAdd, Nat.reduceLT, Nat.reduceEqDiff, Nat.reduceMul, Nat.reduceLeDiff, if_true, Zn, reduceCtorEq, ZA, eq_self, Int.reduceLE, Int.reduceLT, Int.reduceToNat, ne_eq, Nat.reduceSub, Tfld35_0, Tfld35_1, Tld2, Tld31, Tslc31, q0, ql, n1, e1]
      repeat refine And.intro (by omega) ?_
      exact rfl
    intro g
    simp (maxSteps := 2000000) (disch := first | (simp only [E4, q0, ql, e1] <;> omega) | omega | fail) only [↓E2, E3, bare, bareJ, ↓E0, E1, env0, envN, evOps, evOp, evQs, evQ, evV, setD, pureOp, ev, upd, updL, gate, binW, eqOp, binV, intOp, shOp, boolOp, unV, fieldAddrV, indexAddrV, cellAt, cellsAt, findB, setB, hav, delB, eqL, SameI, strOp, ↓reduceIte, Zj, Zk, Nat.reduceAdd, Nat.reduceLT, Nat.reduceEqDiff, Nat.reduceMul, Nat.reduceLeDiff, if_true, Zn, reduceCtorEq, ZA, eq_self, Int.reduceLE, Int.reduceLT, Int.reduceToNat, ne_eq, Nat.reduceSub, Tfld35_0, Tfld35_1, Tld2, Tld31, Tslc31, q0, ql, n1, e1]
    repeat refine And.intro (by omega) ?_
    repeat refine And.intro (by omega) ?_
    intro g
    simp only [List.map_cons, List.map_nil, updL, upd, Nat.reduceEqDiff, if_true, if_false, ↓reduceIte]
    refine hK _ _ ?_; clear hK K
    refine Cd.cond rfl (fun h2 => ?_) (fun h2 => ?_)
    · refine Cd.rs [2] fun K hK => ?_
      simp (maxSteps := 2000000) (disch := first | (simp only [E4, q0, ql, e1] <;> omega) | omega | fail) only [↓E2, E3, bare, bareJ, ↓E0, E1, env0, envN, evOps, evOp, evQs, evQ, evV, setD, pureOp, ev, upd, updL, hav, delB, ↓reduceIte, Zj, Zk, Nat.reduceAdd, Nat.reduceLT, Nat.reduceEqDiff, Nat.reduceMul, Nat.reduceLeDiff, if_true, Zn, reduceCtorEq, ZA, eq_self, Int.reduceLE, Int.reduceLT, Int.reduceToNat, ne_eq, Nat.reduceSub, q0, ql, n1, e1]
      repeat refine And.intro (by omega) ?_
      repeat refine And.intro (by omega) ?_
      intro g
      simp only [List.map_cons, List.map_nil, updL, upd, Nat.reduceEqDiff, if_true, if_false, ↓reduceIte]
      refine hK _ _ ?_; clear hK K
      refine Cd.ret (thenR ?_)
      simp (maxSteps := 2000000) (disch := first | (simp only [E4, q0, ql, e1] <;> omega) | omega | fail) only [↓E2, E3, bare, bareJ, ↓E0, E1, evP, evPlan, env0, envN, evOps, evOp, evQs, evQ, evV, setD, pureOp, ev, upd, updL, gate, binW, eqOp, binV, intOp, shOp, boolOp, unV, convV, nilV, fieldAddrV, indexAddrV, extractV, cellAt, cellsAt, findB, setB, fillL, buildV, Value.cells, lenV, minV, maxV, hav, sliceV, loV, hiV, bslQ, mksQ, appQ, partsOk, partsCells, delB, eqL, SameI, strOp, apzQ, cvtQ, capV, ↓reduceIte, Zj, Zk, Nat.reduceAdd, Nat.reduceLT, Nat.reduceEqDiff, Nat.reduceMul, Nat.reduceLeDiff, if_true, Zn, reduceCtorEq, ZA, eq_self, Int.reduceLE, Int.reduceLT, Int.reduceToNat, ne_eq, Nat.reduceSub, q0, ql, n1, e1]
      repeat refine And.intro (by omega) ?_
      rw [lauOk_pre (by omega), h2]
      rfl
    · refine Cd.skip ?_
      refine thenN ?_
      refine Cd.seq ?_
      refine Cd.rs [1, 3, 4] fun K hK => ?_
      simp (maxSteps := 2000000) (disch := first | (simp only [E4, q0, ql, e1] <;> omega) | omega | fail) only [↓E2, E3, bare, bareJ, ↓E0, E1, env0, envN, evOps, evOp, evQs, evQ, evV, setD, pureOp, ev, upd, updL, hav, delB, ↓reduceIte, Zj, Zk, Nat.reduceAdd, Nat.reduceLT, Nat.reduceEqDiff, Nat.reduceMul, Nat.reduceLeDiff, if_true, Zn, reduceCtorEq, ZA, eq_self, Int.reduceLE, Int.reduceLT, Int.reduceToNat, ne_eq, Nat.reduceSub, q0, ql, n1, e1]
      repeat refine And.intro (by omega) ?_
      repeat refine And.intro (by omega) ?_
      intro g
      simp only [List.map_cons, List.map_nil, updL, upd, Nat.reduceEqDiff, if_true, if_false, ↓reduceIte]
      refine hK _ _ ?_; clear hK K
      refine Cd.block ?_
      refine Cd.loop (fun q ρ M => ∃ g k, k + q = l.length ∧ (l.take k).all coOk = true ∧ ρ = updL [(1, .pointer (some ⟨b1, 0, none⟩)), (3, .int .i64 (l.length : Int)), (4, .int .i64 (k : Int))] g ∧ M = [(b1, [.int .i64 low, .slice (some ⟨b, 0, none⟩) l.length cap])]) l.length ⟨_, 0, Nat.zero_add _, rfl, rfl, rfl⟩ ?_
      rintro q ρ M ⟨g, k, hk, hall, rfl, rfl⟩
      refine Cd.seq ?_
      refine Cd.rs [1, 3, 4, 47] fun K hK => ?_
      simp (maxSteps := 2000000) (disch := first | (simp only [E4, q0, ql, e1] <;> omega) | omega | fail) only [↓E2, E3, bare, bareJ, ↓E0, E1, env0, envN, evOps, evOp, evQs, evQ, evV, setD, pureOp, ev, upd, updL, binW, eqOp, binV, intOp, shOp, boolOp, hav, delB, eqL, SameI, strOp, ↓reduceIte, Zj, Zk, Nat.reduceAdd, Nat.reduceLT, Nat.reduceEqDiff, Nat.reduceMul, Nat.reduceLeDiff, if_true, Zn, reduceCtorEq, ZA, eq_self, Int.reduceLE, Int.reduceLT, Int.reduceToNat, ne_eq, Nat.reduceSub, q0, ql, n1, e1]
      repeat refine And.intro (by omega) ?_
      repeat refine And.intro (by omega) ?_
      intro g
      simp only [List.map_cons, List.map_nil, updL, upd, Nat.reduceEqDiff, if_true, if_false, ↓reduceIte]
      refine hK _ _ ?_; clear hK K
      refine Cd.condd rfl (fun h3 => ?_) (fun h3 => ?_)
      · obtain ⟨_, e, qk⟩ := rd_int h hR (k := k) (by omega)
        cases e
        refine Cd.skip ?_
        refine thenN ?_
        refine Cd.seq ?_
        refine Cd.block ?_
        skip
        refine Cd.rs [1, 3, 4, 56] fun K hK => ?_
        simp (maxSteps := 2000000) (disch := first | (simp only [E4, q0, ql, e1, qk] <;> omega) | omega | fail) only [↓E2, E3, bare, bareJ, ↓E0, E1, env0, envN, evOps, evOp, evQs, evQ, evV, setD, pureOp, ev, upd, updL, unV, fieldAddrV, indexAddrV, cellAt, cellsAt, findB, setB, hav, delB, ↓reduceIte, Zj, Zk, Nat.reduceAdd, Nat.reduceLT, Nat.reduceEqDiff, Nat.reduceMul, Nat.reduceLeDiff, if_true, Zn, reduceCtorEq, ZA, eq_self, Int.reduceLE, Int.reduceLT, Int.reduceToNat, ne_eq, Nat.reduceSub, Tfld35_1, Tld2, Tld31, Tslc31, q0, ql, n1, e1, qk]
        repeat refine And.intro (by omega) ?_
        refine callK_gives (l01In_c _ _ _) ?_
        simp (maxSteps := 2000000) (disch := first | (simp only [E4, q0, ql, e1, qk] <;> omega) | omega | fail) only [↓E2, E3, bare, bareJ, ↓E0, E1, env0, envN, evOps, evOp, evQs, evQ, evV, setD, pureOp, ev, upd, updL, unV, fieldAddrV, indexAddrV, cellAt, cellsAt, findB, setB, hav, delB, ↓reduceIte, Zj, Zk, Nat.reduceAdd, Nat.reduceLT, Nat.reduceEqDiff, Nat.reduceMul, Nat.reduceLeDiff, if_true, Zn, reduceCtorEq, ZA, eq_self, Int.reduceLE, Int.reduceLT, Int.reduceToNat, ne_eq, Nat.reduceSub, Tfld35_1, Tld2, Tld31, Tslc31, q0, ql, n1, e1, qk]
        repeat refine And.intro (by omega) ?_
        repeat refine And.intro (by omega) ?_
        intro g
        simp only [List.map_cons, List.map_nil, updL, upd, Nat.reduceEqDiff, if_true, if_false, ↓reduceIte]
        refine hK _ _ ?_; clear hK K
        refine Cd.cond rfl (fun h4 => ?_) (fun h4 => ?_)
        · refine Cd.rs [2] fun K hK => ?_
          simp (maxSteps := 2000000) (disch := first | (simp only [E4, q0, ql, e1, qk] <;> omega) | omega | fail) only [↓E2, E3, bare, bareJ, ↓E0, E1, env0, envN, evOps, evOp, evQs, evQ, evV, setD, pureOp, ev, upd, updL, hav, delB, ↓reduceIte, Zj, Zk, Nat.reduceAdd, Nat.reduceLT, Nat.reduceEqDiff, Nat.reduceMul, Nat.reduceLeDiff, if_true, Zn, reduceCtorEq, ZA, eq_self, Int.reduceLE, Int.reduceLT, Int.reduceToNat, ne_eq, Nat.reduceSub, q0, ql, n1, e1, qk]
          repeat refine And.intro (by omega) ?_
          repeat refine And.intro (by omega) ?_
          intro g
          simp only [List.map_cons, List.map_nil, updL, upd, Nat.reduceEqDiff, if_true, if_false, ↓reduceIte]
          refine hK _ _ ?_; clear hK K
          refine Cd.ret (inBR (thenR (roundR (inBR (thenR ?_)))))
          simp (maxSteps := 2000000) (disch := first | (simp only [E4, q0, ql, e1, qk] <;> omega) | omega | fail) only [↓E2, E3, bare, bareJ, ↓E0, E1, evP, evPlan, env0, envN, evOps, evOp, evQs, evQ, evV, setD, pureOp, ev, upd, updL, gate, binW, eqOp, binV, intOp, shOp, boolOp, unV, convV, nilV, fieldAddrV, indexAddrV, extractV, cellAt, cellsAt, findB, setB, fillL, buildV, Value.cells, lenV, minV, maxV, hav, sliceV, loV, hiV, bslQ, mksQ, appQ, partsOk, partsCells, delB, eqL, SameI, strOp, apzQ, cvtQ, capV, ↓reduceIte, Zj, Zk, Nat.reduceAdd, Nat.reduceLT, Nat.reduceEqDiff, Nat.reduceMul, Nat.reduceLeDiff, if_true, Zn, reduceCtorEq, ZA, eq_self, Int.reduceLE, Int.reduceLT, Int.reduceToNat, ne_eq, Nat.reduceSub, q0, ql, n1, e1, qk]
          repeat refine And.intro (by omega) ?_
          rw [lauOk_pre (by omega), all_false (k := k) (p := coOk) (by have h5 : (!coOk (l.getD k 0)) = true := h4; simpa using h5) (by omega), Bool.and_false]
        · refine Cd.skip ?_
          refine inBN ?_
          refine thenN ?_
          refine Cd.rr [1, 3, 4] fun K hK => ?_
          simp (maxSteps := 2000000) (disch := first | (simp only [E4, q0, ql, e1, qk] <;> omega) | omega | fail) only [↓E2, E3, bare, bareJ, ↓E0, E1, env0, envN, evOps, evOp, evQs, evQ, evV, setD, pureOp, ev, upd, updL, binW, eqOp, binV, intOp, shOp, boolOp, hav, delB, eqL, SameI, strOp, ↓reduceIte, Zj, Zk, Nat.reduceAdd, Nat.reduceLT, Nat.reduceEqDiff, Nat.reduceMul, Nat.reduceLeDiff, if_true, Zn, reduceCtorEq, ZA, eq_self, Int.reduceLE, Int.reduceLT, Int.reduceToNat, ne_eq, Nat.reduceSub, q0, ql, n1, e1, qk]
          repeat refine And.intro (by omega) ?_
          repeat refine And.intro (by omega) ?_
          intro g
          simp only [List.map_cons, List.map_nil, updL, upd, Nat.reduceEqDiff, if_true, if_false, ↓reduceIte]
          refine hK _ _ ?_; clear hK K
          exact roundN (m := q - 1) (by omega) ⟨_, k + 1, by omega, by rw [all_upto hall (by omega)]; have h5 : (!coOk (l.getD k 0)) = false := h4; simpa using h5, rfl, rfl⟩
      · refine Cd.exit (thenX (roundX (inBX ?_)))
        refine thenN ?_
        refine Cd.rs [2] fun K hK => ?_
        simp (maxSteps := 2000000) (disch := first | (simp only [E4, q0, ql, e1] <;> omega) | omega | fail) only [↓E2, E3, bare, bareJ, ↓E0, E1, env0, envN, evOps, evOp, evQs, evQ, evV, setD, pureOp, ev, upd, updL, hav, delB, ↓reduceIte, Zj, Zk, Nat.reduceAdd, Nat.reduceLT, Nat.reduceEqDiff, Nat.reduceMul, Nat.reduceLeDiff, if_true, Zn, reduceCtorEq, ZA, eq_self, Int.reduceLE, Int.reduceLT, Int.reduceToNat, ne_eq, Nat.reduceSub, q0, ql, n1, e1]
        repeat refine And.intro (by omega) ?_
        repeat refine And.intro (by omega) ?_
        intro g
        simp only [List.map_cons, List.map_nil, updL, upd, Nat.reduceEqDiff, if_true, if_false, ↓reduceIte]
        refine hK _ _ ?_; clear hK K
        refine Cd.ret ?_
        simp (maxSteps := 2000000) (disch := first | (simp only [E4, q0, ql, e1] <;> omega) | omega | fail) only [↓E2, E3, bare, bareJ, ↓E0, E1, evP, evPlan, env0, envN, evOps, evOp, evQs, evQ, evV, setD, pureOp, ev, upd, updL, gate, binW, eqOp, binV, intOp, shOp, boolOp, unV, convV, nilV, fieldAddrV, indexAddrV, extractV, cellAt, cellsAt, findB, setB, fillL, buildV, Value.cells, lenV, minV, maxV, hav, sliceV, loV, hiV, bslQ, mksQ, appQ, partsOk, partsCells, delB, eqL, SameI, strOp, apzQ, cvtQ, capV, ↓reduceIte, Zj, Zk, Nat.reduceAdd, Nat.reduceLT, Nat.reduceEqDiff, Nat.reduceMul, Nat.reduceLeDiff, if_true, Zn, reduceCtorEq, ZA, eq_self, Int.reduceLE, Int.reduceLT, Int.reduceToNat, ne_eq, Nat.reduceSub, q0, ql, n1, e1]
        repeat refine And.intro (by omega) ?_
        rw [List.take_of_length_le (by omega)] at hall
        rw [lauOk_pre (by omega), h2, hall]
        rfl

theorem RdL.form {R : Rd} {low : Int} {l : List Int} {v : Value} (h : RdL R low l v) : ∃ a cap, v = .agg #[.int .i64 low, .slice a l.length cap] ∧ RdS R 1 (ints .i64 l) (.slice a l.length cap) := by
  obtain ⟨s, rfl, h⟩ := h
  obtain ⟨a, m, cap, rfl, hm, _⟩ := id h
  obtain rfl := lauLen hm
  exact ⟨a, cap, rfl, h⟩
end Go.Proofs

