/-
  What the functions of this part hand back: each as a plain function of its arguments. Conditions: none.
-/
import Derived.Test.YtclfpogolgindacLZ
import Derived.ProofKit
import Derived.OpenShut
import Derived.Below
import Derived.ChangeSame
import Derived.Test.YtclfpogolgindacUplainrow
namespace Go.Proofs
open Go.W8
set_option linter.unusedVariables false
set_option linter.unusedSimpArgs false
set_option linter.unusedSectionVars false
set_option maxRecDepth 8000
set_option maxHeartbeats 4000000
--@plain
/-- The labels of a walk that goes on till it meets a label. -/
def walkC (nx : Nat → Nat) (c : Int) : Nat → Nat → List Int → List Int
  | 0, _, l => l
  | f + 1, k, l => if l.getD k 0 < 0 then walkC nx c f (nx k) (l.set k c) else l
/-- The labels and their number, by the columns ahead of i. -/
def compTo (nx : Nat → Nat) : Nat → List Int × Nat
  | 0 => (List.replicate 8 (-1), 0)
  | i + 1 => if 0 ≤ (compTo nx i).1.getD i 0 then compTo nx i else (walkC nx (compTo nx i).2 8 i (compTo nx i).1, (compTo nx i).2 + 1)
def negs (l : List Int) : Nat := l.countP fun e => decide (e < 0)

theorem cgetD_set {l : List Int} {i j : Nat} {v : Int} (h : i < l.length) : (l.set i v).getD j 0 = if i = j then v else l.getD j 0 := by
  rw [List.getD_eq_getElem?_getD, List.getElem?_set]
  by_cases e : i = j
  · subst e; rw [if_pos rfl, if_pos h, if_pos rfl]; rfl
  · rw [if_neg e, if_neg e, List.getD_eq_getElem?_getD]

theorem negs_set {c : Int} (hc : 0 ≤ c) : ∀ (l : List Int) (k : Nat), k < l.length → l.getD k 0 < 0 → negs (l.set k c) + 1 = negs l
  | [], k, h, _ => by simp at h
  | a :: l, 0, _, h => by
    have h : a < 0 := by simpa using h
    have h' : ¬ c < 0 := by omega
    simp [negs, h, h']
  | a :: l, k + 1, h, h1 => by
    have ih := negs_set hc l k (by simpa using h) (by simpa using h1)
    unfold negs at ih ⊢
    rw [List.set_cons_succ, List.countP_cons, List.countP_cons]
    omega
theorem negs_le {l : List Int} (h : l.length = 8) : negs l ≤ 8 := by
  unfold negs
  rw [← h]
  exact List.countP_le_length
theorem negs_pos {l : List Int} {k : Nat} (h : k < l.length) (h' : l.getD k 0 < 0) : 0 < negs l := by
  have := negs_set (c := 0) (Int.le_refl _) l k h h'
  omega

theorem walkC_end {nx : Nat → Nat} {c : Int} {k : Nat} {l : List Int} (h : ¬ l.getD k 0 < 0) : ∀ f, walkC nx c f k l = l
  | 0 => rfl
  | f + 1 => by unfold walkC; rw [if_neg h]
theorem walkC_step {nx : Nat → Nat} {c : Int} {k f : Nat} {l : List Int} (h : l.getD k 0 < 0) : walkC nx c (f + 1) k l = walkC nx c f (nx k) (l.set k c) := by
  show (if _ then _ else _) = _
  rw [if_pos h]
theorem walkC_len {nx : Nat → Nat} {c : Int} : ∀ (f k : Nat) (l : List Int), (walkC nx c f k l).length = l.length
  | 0, _, _ => rfl
  | f + 1, k, l => by
    unfold walkC
    split
    · rw [walkC_len f, List.length_set]
    · rfl
theorem walkC_get {nx : Nat → Nat} {c : Int} (hc : 0 ≤ c) : ∀ (f k : Nat) (l : List Int) (i : Nat), (walkC nx c f k l).getD i 0 = l.getD i 0 ∨ ((walkC nx c f k l).getD i 0 = c ∧ l.getD i 0 < 0)
  | 0, _, _, _ => .inl rfl
  | f + 1, k, l, i => by
    unfold walkC
    split
    · rename_i hk
      by_cases hkl : k < l.length
      · rcases walkC_get hc f (nx k) (l.set k c) i with h | ⟨h, h'⟩
        · rw [h, cgetD_set hkl]
          by_cases e : k = i
          · subst e; rw [if_pos rfl]; exact .inr ⟨rfl, hk⟩
          · rw [if_neg e]; exact .inl rfl
        · rw [cgetD_set hkl] at h'
          by_cases e : k = i
          · rw [if_pos e] at h'; omega
          · rw [if_neg e] at h'; exact .inr ⟨h, h'⟩
      · rw [List.set_eq_of_length_le (by omega)]
        exact walkC_get hc f (nx k) l i
    · exact .inl rfl
theorem walkC_self {nx : Nat → Nat} {c : Int} (hc : 0 ≤ c) {f k : Nat} {l : List Int} (hk : k < l.length) (h : l.getD k 0 < 0) : (walkC nx c (f + 1) k l).getD k 0 = c := by
  rw [walkC_step h]
  rcases walkC_get (nx := nx) hc f (nx k) (l.set k c) k with h | ⟨h, h'⟩
  · rw [h, cgetD_set hk, if_pos rfl]
  · exact h

theorem compTo_len (nx : Nat → Nat) : ∀ i, (compTo nx i).1.length = 8
  | 0 => rfl
  | i + 1 => by
    unfold compTo
    split
    · exact compTo_len nx i
    · show (walkC _ _ _ _ _).length = 8
      rw [walkC_len]; exact compTo_len nx i
theorem compTo_count (nx : Nat → Nat) : ∀ i, (compTo nx i).2 ≤ i
  | 0 => Nat.le_refl _
  | i + 1 => by
    have ih := compTo_count nx i
    unfold compTo
    split
    · omega
    · show (compTo nx i).2 + 1 ≤ _; omega
theorem compTo_bound (nx : Nat → Nat) : ∀ i j, j < 8 → -1 ≤ (compTo nx i).1.getD j 0 ∧ (compTo nx i).1.getD j 0 < ((compTo nx i).2 : Int)
  | 0, j, h => by
    have : (compTo nx 0).1.getD j 0 = -1 := by
      show (List.replicate 8 (-1 : Int)).getD j 0 = -1
      rw [List.getD_eq_getElem?_getD, List.getElem?_replicate_of_lt h]; rfl
    rw [this]
    show _ ∧ (-1 : Int) < ((0 : Nat) : Int)
    omega
  | i + 1, j, h => by
    have ih := compTo_bound nx i j h
    unfold compTo
    split
    · exact ih
    · show _ ≤ (walkC _ _ _ _ _).getD j 0 ∧ (walkC _ _ _ _ _).getD j 0 < (((compTo nx i).2 + 1 : Nat) : Int)
      rcases walkC_get (nx := nx) (c := ((compTo nx i).2 : Int)) (by omega) 8 i (compTo nx i).1 j with h1 | ⟨h1, _⟩
      · rw [h1]; omega
      · rw [h1]; omega
theorem compTo_done (nx : Nat → Nat) : ∀ i, i ≤ 8 → ∀ j, j < i → 0 ≤ (compTo nx i).1.getD j 0
  | 0, _, j, h => absurd h (Nat.not_lt_zero _)
  | i + 1, hi, j, h => by
    unfold compTo
    split
    · rename_i h0
      rcases Nat.lt_succ_iff_lt_or_eq.1 h with h1 | rfl
      · exact compTo_done nx i (by omega) j h1
      · exact h0
    · rename_i h0
      show 0 ≤ (walkC _ _ _ _ _).getD j 0
      rcases Nat.lt_succ_iff_lt_or_eq.1 h with h1 | rfl
      · have := compTo_done nx i (by omega) j h1
        rcases walkC_get (nx := nx) (c := ((compTo nx i).2 : Int)) (by omega) 8 i (compTo nx i).1 j with h1 | ⟨h1, _⟩
        · rw [h1]; exact this
        · rw [h1]; omega
      · rw [walkC_self (by omega) (by rw [compTo_len]; omega) (by omega)]
        omega
theorem compTo_same {nx : Nat → Nat} {i : Nat} (h : 0 ≤ (compTo nx i).1.getD i 0) : compTo nx (i + 1) = compTo nx i := by
  show (if _ then _ else _) = _
  rw [if_pos h]
theorem compTo_more {nx : Nat → Nat} {i : Nat} (h : ¬ 0 ≤ (compTo nx i).1.getD i 0) : compTo nx (i + 1) = (walkC nx (compTo nx i).2 8 i (compTo nx i).1, (compTo nx i).2 + 1) := by
  show (if _ then _ else _) = _
  rw [if_neg h]

/-- The next column of a component. -/
def nextOf (n : Nat) (x o : List Int) (k : Nat) : Nat := rowOf x n (o.getD k 0)
def comps (n : Nat) (x o : List Int) : List Int × Nat := compTo (nextOf n x o) n
/-- All entries one more. -/
def incL (l : List Int) : List Int := l.map (· + 1)
theorem incL_len (l : List Int) : (incL l).length = l.length := by simp [incL]
theorem incL_get {l : List Int} {i : Nat} (h : i < l.length) : (incL l).getD i 0 = l.getD i 0 + 1 := by
  unfold incL
  rw [List.getD_eq_getElem?_getD, List.getElem?_map, List.getD_eq_getElem?_getD, List.getElem?_eq_getElem h]
  rfl
theorem incL_set {l : List Int} {i : Nat} {v : Int} : (incL l).set i (v + 1) = incL (l.set i v) := by
  unfold incL
  rw [List.map_set]
/-- The first k entries one less again. -/
def decTo (l : List Int) (k : Nat) : List Int := (List.range 8).map fun j => if j < k then l.getD j 0 else l.getD j 0 + 1
theorem decTo_len (l : List Int) (k : Nat) : (decTo l k).length = 8 := by simp [decTo]
theorem decTo_get {l : List Int} {k j : Nat} (h : j < 8) : (decTo l k).getD j 0 = if j < k then l.getD j 0 else l.getD j 0 + 1 := by
  unfold decTo
  rw [List.getD_eq_getElem?_getD, List.getElem?_map, List.getElem?_range h]; rfl
theorem decTo_zero {l : List Int} (h : l.length = 8) : decTo l 0 = incL l := by
  apply List.ext_getElem?
  intro j
  unfold decTo incL
  rw [List.getElem?_map, List.getElem?_map]
  by_cases hj : j < 8
  · rw [List.getElem?_range hj, List.getElem?_eq_getElem (by omega)]
    simp [List.getD_eq_getElem?_getD, List.getElem?_eq_getElem (show j < l.length by omega)]
  · rw [List.getElem?_eq_none (by simp; omega), List.getElem?_eq_none (by omega)]; rfl
theorem decTo_set {l : List Int} {k : Nat} (hk : k < 8) : (decTo l k).set k (l.getD k 0) = decTo l (k + 1) := by
  apply List.ext_getElem?
  intro j
  unfold decTo
  by_cases hj : j < 8
  · by_cases e : k = j
    · subst e
      rw [List.getElem?_set_self (by simpa using hj), List.getElem?_map, List.getElem?_range hj]
      simp
    · rw [List.getElem?_set_ne e, List.getElem?_map, List.getElem?_map, List.getElem?_range hj]
      simp only [Option.map_some]
      by_cases h : j < k
      · rw [if_pos h, if_pos (by omega)]
      · rw [if_neg h, if_neg (by omega)]
  · rw [List.getElem?_eq_none (by simp; omega), List.getElem?_eq_none (by simp; omega)]
theorem fillTo_set (k : Nat) (hk : k < 8) : (upto 8 (fun _ => -1) 0 k).set k (-1) = upto 8 (fun _ => -1) 0 (k + 1) := upto_set rfl
theorem fillTo_full : upto 8 (fun _ => -1) 0 8 = List.replicate 8 (-1) := of_eq_true (eq_true (by decide))

end Go.Proofs
