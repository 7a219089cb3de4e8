/-
  What the functions of this part hand back: each as a plain function of its arguments. Conditions: none.
-/
import Derived.Test.YtdfddcfgagfdoaaLZ
import Derived.ProofKit
import Derived.OpenShut
import Derived.Below
import Derived.ChangeSame
import Derived.Test.YtdfddcfgagfdoaaUkeepkit
namespace Go.Proofs
open Go.W8
set_option linter.unusedVariables false
set_option linter.unusedSimpArgs false
set_option linter.unusedSectionVars false
set_option maxRecDepth 8000
set_option maxHeartbeats 4000000
--@plain
/-- All states that agree with x on their first columns; m columns are open. -/
def stR (n : Nat) : Nat → List Int → List (List Int)
  | 0, x => [x]
  | m + 1, x => (List.range n).flatMap fun r : Nat => if (x.take (n - (m + 1))).any (fun c => c == (r : Int)) then [] else stR n m (x.set (n - (m + 1)) r)
/-- .. whose next row is less than r. -/
def stP (n m : Nat) (x : List Int) (r : Nat) : List (List Int) := (List.range r).flatMap fun r : Nat => if (x.take (n - (m + 1))).any (fun c => c == (r : Int)) then [] else stR n m (x.set (n - (m + 1)) r)
theorem stP_full (n m : Nat) (x : List Int) : stP n m x n = stR n (m + 1) x := rfl
theorem stP_succ (n m : Nat) (x : List Int) (r : Nat) : stP n m x (r + 1) = stP n m x r ++ if (x.take (n - (m + 1))).any (fun c => c == (r : Int)) then [] else stR n m (x.set (n - (m + 1)) r) := by
  unfold stP
  rw [List.range_succ, List.flatMap_append]
  simp
theorem stR_len (n : Nat) : ∀ m x, (stR n m x).length ≤ n ^ m
  | 0, x => by simp [stR]
  | m + 1, x => by
    have key : ∀ r, (stP n m x r).length ≤ r * n ^ m := by
      intro r
      induction r with
      | zero => simp [stP]
      | succ r ih =>
        rw [stP_succ, List.length_append, Nat.succ_mul]
        split
        · simp only [List.length_nil]; omega
        · have := stR_len n m (x.set (n - (m + 1)) r)
          omega
    have := key n
    rw [stP_full] at this
    rw [Nat.pow_succ, Nat.mul_comm]
    exact this
theorem stP_len (n m : Nat) (x : List Int) : ∀ r, (stP n m x r).length ≤ r * n ^ m
  | 0 => by simp [stP]
  | r + 1 => by
    rw [stP_succ, List.length_append, Nat.succ_mul]
    have := stP_len n m x r
    split
    · simp only [List.length_nil]; omega
    · have := stR_len n m (x.set (n - (m + 1)) r)
      omega
def cellsS (S : List (List Int)) : List Value := S.flatMap (ints .u8)
theorem cellsS_append (S T : List (List Int)) : cellsS (S ++ T) = cellsS S ++ cellsS T := by simp [cellsS]
theorem cellsS_one (x : List Int) : cellsS [x] = ints .u8 x := by simp [cellsS]
theorem cellsS_len {S : List (List Int)} (h : ∀ x ∈ S, x.length = 8) : (cellsS S).length = S.length * 8 := by
  induction S with
  | nil => rfl
  | cons x S ih =>
    have e : cellsS (x :: S) = ints .u8 x ++ cellsS S := by simp [cellsS]
    rw [e, List.length_append, ints_length, h x List.mem_cons_self, ih fun y hy => h y (List.mem_cons_of_mem _ hy)]
    simp only [List.length_cons]
    omega
def B8 (x : List Int) : Prop := x.length = 8 ∧ ∀ i, 0 ≤ x.getD i 0 ∧ x.getD i 0 ≤ 255
theorem B8.set {x : List Int} (h : B8 x) (k : Nat) {r : Int} (hr : 0 ≤ r ∧ r ≤ 255) : B8 (x.set k r) := by
  refine ⟨by rw [List.length_set]; exact h.1, fun i => ?_⟩
  rw [List.getD_eq_getElem?_getD, List.getElem?_set]
  have := h.2 i
  rw [List.getD_eq_getElem?_getD] at this
  split
  · split
    · exact hr
    · simp
  · exact this
theorem stR_rows (n : Nat) : ∀ m x, B8 x → n ≤ 256 → ∀ y ∈ stR n m x, B8 y
  | 0, x, hx, _, y, hy => by
    simp only [stR, List.mem_singleton] at hy
    rw [hy]; exact hx
  | m + 1, x, hx, hn, y, hy => by
    simp only [stR, List.mem_flatMap, List.mem_range] at hy
    obtain ⟨r, hr, hy⟩ := hy
    split at hy
    · nomatch hy
    · exact stR_rows n m _ (hx.set _ (by omega)) hn y hy

end Go.Proofs
