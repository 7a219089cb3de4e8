/-
  What the functions of this part hand back: each as a plain function of its arguments. Conditions: none.
-/
import Derived.Test.YtclfpogolgindacLZ
import Derived.ProofKit
import Derived.OpenShut
import Derived.Below
import Derived.ChangeSame
import Derived.Test.YtclfpogolgindacUplainperm
namespace Go.Proofs
open Go.W8
set_option linter.unusedVariables false
set_option linter.unusedSimpArgs false
set_option linter.unusedSectionVars false
set_option maxRecDepth 8000
set_option maxHeartbeats 4000000
--@plain
/-- Where the column k comes to stand. -/
def colK (i rt k : Nat) : Nat := if k < i then k else if k = i then i + rt else k + 1
/-- What stands in the columns as those ahead of k have been led. -/
def genK (f : Nat → Int) (i rt k q : Nat) : Int := if q < i then (if q < k then f q else 0) else if q ≤ i + 1 then (if q = i + rt ∧ i < k then f i else 0) else (if q ≤ k then f (q - 1) else 0)
/-- The same without the column i. -/
def genS (f : Nat → Int) (i k q : Nat) : Int := if q < i then (if q < k then f q else 0) else if q ≤ i + 1 then 0 else (if q ≤ k then f (q - 1) else 0)
def liftM (r v : Int) : Int := if r < v then v + 1 else v
def liftF (r u v : Int) : Int := if r < v then v + 1 else if v = r then r + u else v
def grA (own : List Int) (i rt : Nat) (u : Int) (n q : Nat) : Int :=
  if q = i + rt then own.getD i 0 + (1 - u) else if q = i + 1 - rt then own.getD i 0 + u else if q < i then liftF (own.getD i 0) u (own.getD q 0) else if q ≤ n then liftF (own.getD i 0) u (own.getD (q - 1) 0) else 0
def grB (own oth : List Int) (i rt : Nat) (u : Int) (n q : Nat) : Int :=
  if q = i + rt then liftF (own.getD i 0) u (oth.getD i 0) else if q = i + 1 - rt then own.getD i 0 + (1 - u) else if q < i then liftF (own.getD i 0) u (oth.getD q 0) else if q ≤ n then liftF (own.getD i 0) u (oth.getD (q - 1) 0) else 0

theorem colK_le {i rt k n : Nat} (hrt : rt ≤ 1) (hi : i < n) (hk : k < n) : colK i rt k ≤ n := by unfold colK; grind
theorem genK_zero (f : Nat → Int) (i rt : Nat) : tab (genK f i rt 0) = z8 := by
  rw [tab_zero]
  refine tab_ext fun q _ => ?_
  unfold genK
  grind
theorem genK_set {f : Nat → Int} {i rt k : Nat} (h : rt ≤ 1) {v : Int} (hv : v = f k) : (tab (genK f i rt k)).set (colK i rt k) v = tab (genK f i rt (k + 1)) := by
  subst hv
  rw [tab_set]
  refine tab_ext fun q _ => ?_
  unfold genK colK
  grind
theorem genS_zero (f : Nat → Int) (i : Nat) : tab (genS f i 0) = z8 := by
  rw [tab_zero]
  refine tab_ext fun q _ => ?_
  unfold genS
  grind
theorem genS_set {f : Nat → Int} {i k : Nat} (h : k ≠ i) {v : Int} (hv : v = f k) : (tab (genS f i k)).set (if i < k then k + 1 else k) v = tab (genS f i (k + 1)) := by
  subst hv
  rw [tab_set]
  refine tab_ext fun q _ => ?_
  unfold genS
  grind
theorem genS_same {f : Nat → Int} {i k : Nat} (h : k = i) : tab (genS f i k) = tab (genS f i (k + 1)) := by
  refine tab_ext fun q _ => ?_
  unfold genS
  grind
theorem grA_end {own : List Int} {i rt n : Nat} {u : Int} (hrt : rt ≤ 1) (hi : i < n) (hd : ∀ c, c < n → c ≠ i → own.getD c 0 ≠ own.getD i 0) :
    ((tab (genK (fun c => liftM (own.getD i 0) (own.getD c 0)) i rt n)).set (i + rt) (own.getD i 0 + (1 - u))).set (i + 1 - rt) (own.getD i 0 + u) = tab (grA own i rt u n) := by
  rw [tab_set, tab_set]
  refine tab_ext fun q _ => ?_
  unfold genK grA liftM liftF
  grind
theorem grB_end {own oth : List Int} {i rt n : Nat} {u : Int} (hrt : rt ≤ 1) (hi : i < n) :
    (tab (genK (fun c => liftF (own.getD i 0) u (oth.getD c 0)) i rt n)).set (i + 1 - rt) (own.getD i 0 + (1 - u)) = tab (grB own oth i rt u n) := by
  rw [tab_set]
  refine tab_ext fun q _ => ?_
  unfold genK grB
  grind
theorem grA_endS {own : List Int} {i rt n : Nat} {u : Int} (hrt : rt ≤ 1) (hi : i < n) :
    ((tab (genS (fun c => liftF (own.getD i 0) u (own.getD c 0)) i n)).set (i + rt) (own.getD i 0 + (1 - u))).set (i + 1 - rt) (own.getD i 0 + u) = tab (grA own i rt u n) := by
  rw [tab_set, tab_set]
  refine tab_ext fun q _ => ?_
  unfold genS grA
  grind
theorem grB_endS {own oth : List Int} {i rt n : Nat} {u : Int} (hrt : rt ≤ 1) (hi : i < n) :
    ((tab (genS (fun c => liftF (own.getD i 0) u (oth.getD c 0)) i n)).set (i + 1 - rt) (own.getD i 0 + (1 - u))).set (i + rt) (liftF (own.getD i 0) u (oth.getD i 0)) = tab (grB own oth i rt u n) := by
  rw [tab_set, tab_set]
  refine tab_ext fun q _ => ?_
  unfold genS grB
  grind
theorem set_get {l : List Int} {i : Nat} {v : Int} (h : i < l.length) : (l.set i v).getD i 0 = v := by
  rw [List.getD_eq_getElem?_getD, List.getElem?_set_self h]; rfl
theorem set_set {l : List Int} {i : Nat} {v w : Int} : (l.set i v).set i w = l.set i w := List.set_set ..

end Go.Proofs
