/-
  What the functions of this part hand back: each as a plain function of its arguments. Conditions: none.
-/
import Derived.Test.YtclfpogolgindacLZ
import Derived.ProofKit
import Derived.OpenShut
import Derived.Below
import Derived.ChangeSame
import Derived.Test.YtclfpogolgindacUplainperm
namespace Go.Proofs
open Go.W8
set_option linter.unusedVariables false
set_option linter.unusedSimpArgs false
set_option linter.unusedSectionVars false
set_option maxRecDepth 8000
set_option maxHeartbeats 4000000
--@plain
/-- The first place at which a row has the entry r. -/
def rowGo (x : List Int) (r : Int) : Nat → Nat → Nat
  | _, 0 => 0
  | i, m + 1 => if x.getD i 0 = r then i else rowGo x r (i + 1) m
def rowOf (x : List Int) (n : Nat) (r : Int) : Nat := rowGo x r 0 n

theorem rowGo_hit {x : List Int} {r : Int} : ∀ (m i j : Nat), i ≤ j → j < i + m → x.getD j 0 = r → (∀ l, i ≤ l → l < j → x.getD l 0 ≠ r) → rowGo x r i m = j
  | 0, i, j, h1, h2, _, _ => by omega
  | m + 1, i, j, h1, h2, h3, h4 => by
    unfold rowGo
    by_cases h : i = j
    · subst h; rw [if_pos h3]
    · rw [if_neg (h4 i (Nat.le_refl _) (by omega))]
      exact rowGo_hit m (i + 1) j (by omega) (by omega) h3 fun l hl => h4 l (by omega)
theorem rowGo_none {x : List Int} {r : Int} : ∀ (m i : Nat), (∀ l, i ≤ l → l < i + m → x.getD l 0 ≠ r) → rowGo x r i m = 0
  | 0, _, _ => rfl
  | m + 1, i, h => by
    unfold rowGo
    rw [if_neg (h i (Nat.le_refl _) (by omega))]
    exact rowGo_none m (i + 1) fun l hl hl' => h l (by omega) (by omega)
theorem rowOf_hit {x : List Int} {n j : Nat} {r : Int} (hj : j < n) (h : x.getD j 0 = r) (h' : ∀ l, l < j → x.getD l 0 ≠ r) : rowOf x n r = j := rowGo_hit n 0 j (Nat.zero_le _) (by omega) h fun l _ => h' l
theorem rowOf_none {x : List Int} {n : Nat} {r : Int} (h : ∀ l, l < n → x.getD l 0 ≠ r) : rowOf x n r = 0 := rowGo_none n 0 fun l _ hl => h l (by omega)
theorem rowOf_perm {x : List Int} {n j : Nat} (hp : IsPerm x n) (hj : j < n) : rowOf x n (x.getD j 0) = j := rowOf_hit hj rfl fun l hl => hp.2.1 j hj l hl
theorem perm_surj {x : List Int} {n : Nat} (hx : ∀ i, i < n → 0 ≤ x.getD i 0) (hp : IsPerm x n) {r : Int} (h0 : 0 ≤ r) (h1 : r < n) : ∃ i, i < n ∧ x.getD i 0 = r := by
  obtain ⟨i, hi, h⟩ := inj_surj n (fun i => (x.getD i 0).toNat) (fun i hi => by have := hp.1 i hi; have := hx i hi; omega)
    (fun i hi j hj h => by
      have a := hx i hi
      have b := hx j hj
      have h' : (x.getD i 0).toNat = (x.getD j 0).toNat := h
      rcases Nat.lt_trichotomy i j with h2 | h2 | h2
      · exact absurd (by omega) (hp.2.1 j hj i h2)
      · exact h2
      · exact absurd (by omega) (hp.2.1 i hi j h2)) r.toNat (by omega)
  have h' : (x.getD i 0).toNat = r.toNat := h
  exact ⟨i, hi, by have := hx i hi; omega⟩
theorem rowOf_lt {x : List Int} {n : Nat} (hx : ∀ i, i < n → 0 ≤ x.getD i 0) (hp : IsPerm x n) {r : Int} (h0 : 0 ≤ r) (h1 : r < n) : rowOf x n r < n ∧ x.getD (rowOf x n r) 0 = r := by
  obtain ⟨i, hi, rfl⟩ := perm_surj hx hp h0 h1
  rw [rowOf_perm hp hi]
  exact ⟨hi, rfl⟩
theorem rowOf_inj {x : List Int} {n : Nat} (hx : ∀ i, i < n → 0 ≤ x.getD i 0) (hp : IsPerm x n) {r r' : Int} (h0 : 0 ≤ r) (h1 : r < n) (h0' : 0 ≤ r') (h1' : r' < n) (h : rowOf x n r = rowOf x n r') : r = r' := by
  rw [← (rowOf_lt hx hp h0 h1).2, ← (rowOf_lt hx hp h0' h1').2, h]
theorem rowOf_le {x : List Int} {n : Nat} {r : Int} : rowOf x n r ≤ n := by
  by_cases h : ∃ j, j < n ∧ x.getD j 0 = r
  · have key : ∀ (m i : Nat), rowGo x r i m ≤ i + m := by
      intro m
      induction m with
      | zero => intro i; exact Nat.zero_le _
      | succ m ih =>
        intro i
        unfold rowGo
        split
        · omega
        · have := ih (i + 1); omega
    have := key n 0
    unfold rowOf
    omega
  · rw [rowOf_none fun l hl he => h ⟨l, hl, he⟩]; exact Nat.zero_le _

/-- The columns of the rows' marks. -/
def plc (x : List Int) (n : Nat) : List Int := (List.range 8).map fun (r : Nat) => (rowOf x n (r : Int) : Int)
def plcTo (x : List Int) (n k : Nat) : List Int := (List.range 8).map fun (r : Nat) => if rowOf x n (r : Int) < k ∧ x.getD (rowOf x n (r : Int)) 0 = (r : Int) then (rowOf x n (r : Int) : Int) else 0
theorem plc_len (x : List Int) (n : Nat) : (plc x n).length = 8 := by simp [plc]
theorem plcTo_len (x : List Int) (n k : Nat) : (plcTo x n k).length = 8 := by simp [plcTo]
theorem plc_get {x : List Int} {n r : Nat} (h : r < 8) : (plc x n).getD r 0 = (rowOf x n (r : Int) : Int) := by
  unfold plc
  rw [List.getD_eq_getElem?_getD, List.getElem?_map, List.getElem?_range h]; rfl
theorem plc_geti {x : List Int} {n : Nat} {r : Int} (h0 : 0 ≤ r) (h : r < 8) : (plc x n).getD r.toNat 0 = (rowOf x n r : Int) := by
  rw [plc_get (by omega)]
  rw [Int.toNat_of_nonneg h0]
theorem plcTo_zero (x : List Int) (n : Nat) : plcTo x n 0 = z8 := by
  unfold plcTo
  simp only [Nat.not_lt_zero, false_and, if_false]
  rfl
theorem plcTo_set {x : List Int} {n k : Nat} (hp : IsPerm x n) (hk : k < n) (hn : n ≤ 8) (h0 : 0 ≤ x.getD k 0) : (plcTo x n k).set (x.getD k 0).toNat (k : Int) = plcTo x n (k + 1) := by
  have h8 := hp.1 k hk
  apply List.ext_getElem?
  intro r
  unfold plcTo
  by_cases hr : r < 8
  · by_cases e : (x.getD k 0).toNat = r
    · subst e
      rw [List.getElem?_set_self (by simpa using hr), List.getElem?_map, List.getElem?_range hr]
      simp only [Option.map_some]
      have e1 : (((x.getD k 0).toNat : Nat) : Int) = x.getD k 0 := Int.toNat_of_nonneg h0
      rw [e1, rowOf_perm hp hk, if_pos ⟨Nat.lt_succ_self k, rfl⟩]
    · rw [List.getElem?_set_ne e, List.getElem?_map, List.getElem?_map, List.getElem?_range hr]
      simp only [Option.map_some]
      congr 1
      by_cases h : rowOf x n (r : Int) < k ∧ x.getD (rowOf x n (r : Int)) 0 = (r : Int)
      · rw [if_pos h, if_pos ⟨by omega, h.2⟩]
      · rw [if_neg h, if_neg fun h' => ?_]
        by_cases h3 : rowOf x n (r : Int) = k
        · rw [h3] at h'
          exact e (by omega)
        · exact h ⟨by omega, h'.2⟩
  · rw [List.getElem?_eq_none (by simp; omega), List.getElem?_eq_none (by simp; omega)]
theorem plcTo_full {x : List Int} {n : Nat} (hx : ∀ i, i < n → 0 ≤ x.getD i 0) (hp : IsPerm x n) : plcTo x n n = plc x n := by
  unfold plcTo plc
  apply List.map_congr_left
  intro r _
  by_cases hr : (r : Int) < n
  · have := rowOf_lt hx hp (r := (r : Int)) (by omega) hr
    rw [if_pos this]
  · have h0 : rowOf x n (r : Int) = 0 := rowOf_none fun l hl he => by have := hp.1 l hl; omega
    rw [h0]
    split <;> rfl

end Go.Proofs
