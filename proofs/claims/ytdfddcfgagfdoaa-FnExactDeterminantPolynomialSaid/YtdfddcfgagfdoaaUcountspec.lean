/-
  What the functions of this part hand back: each as a plain function of its arguments. Conditions: none.
-/
import Derived.Test.YtdfddcfgagfdoaaFx
import Derived.Test.YtdfddcfgagfdoaaUplaindet
import Derived.Test.YtdfddcfgagfdoaaUkeepkit
import Derived.Test.YtdfddcfgagfdoaaUbase
import Derived.Test.YtdfddcfgagfdoaaUlist8
namespace Go.Proofs
open Go.W8
set_option linter.unusedVariables false
set_option linter.unusedSimpArgs false
set_option linter.unusedSectionVars false
set_option maxRecDepth 8000
set_option maxHeartbeats 4000000
def freeS (used : List Bool) : Nat → Bool := fun c => !used.getD c false
theorem freeS_set {used : List Bool} {a : Nat} (h : a < used.length) : freeS (used.set a true) = rem (freeS used) a := by
  funext c
  unfold freeS
  simp only [rem_at]
  rw [List.getD_eq_getElem?_getD, List.getD_eq_getElem?_getD, List.getElem?_set]
  by_cases e : a = c
  · subst e; simp [h]
  · rw [if_neg e]
    have : (c == a) = false := beq_eq_false_iff_ne.2 (Ne.symm e)
    rw [this]; simp
/-- The counts behind the first a columns. -/
def cntP (n : Nat) (w : Nat → Nat → Int) (C : List Int) (sum sign : Int) (m k : Nat) (S : Nat → Bool) (a : Nat) : List Int :=
  (List.range C.length).map fun j : Nat => C.getD j 0 + sign * sumN (fun a => if S a then sg (cb S a) * dA n w m (k + 1) (rem S a) ((j : Int) - sum - 8 * ((m + 1 : Nat) : Int) + w k a) else 0) a
def cntL (n : Nat) (w : Nat → Nat → Int) (C : List Int) (sum sign : Int) (m k : Nat) (S : Nat → Bool) : List Int :=
  (List.range C.length).map fun j : Nat => C.getD j 0 + sign * dA n w m k S ((j : Int) - sum - 8 * (m : Int))
section
variable {n : Nat} {w : Nat → Nat → Int} {C : List Int} {sum sign : Int} {m k a : Nat} {S : Nat → Bool}
theorem cntP_len : (cntP n w C sum sign m k S a).length = C.length := by simp [cntP]
theorem cntL_len : (cntL n w C sum sign m k S).length = C.length := by simp [cntL]
theorem cntP_get {j : Nat} (h : j < C.length) : (cntP n w C sum sign m k S a).getD j 0 = C.getD j 0 + sign * sumN (fun a => if S a then sg (cb S a) * dA n w m (k + 1) (rem S a) ((j : Int) - sum - 8 * ((m + 1 : Nat) : Int) + w k a) else 0) a := by
  unfold cntP
  rw [List.getD_eq_getElem?_getD, List.getElem?_map, List.getElem?_range h]; rfl
theorem cntL_get {j : Nat} (h : j < C.length) : (cntL n w C sum sign m k S).getD j 0 = C.getD j 0 + sign * dA n w m k S ((j : Int) - sum - 8 * (m : Int)) := by
  unfold cntL
  rw [List.getD_eq_getElem?_getD, List.getElem?_map, List.getElem?_range h]; rfl
theorem ext0 {A B : List Int} (h : A.length = B.length) (hg : ∀ i, i < A.length → A.getD i 0 = B.getD i 0) : A = B := by
  apply List.ext_getElem h
  intro i h1 h2
  have := hg i h1
  rw [List.getD_eq_getElem?_getD, List.getD_eq_getElem?_getD, List.getElem?_eq_getElem h1, List.getElem?_eq_getElem h2] at this
  simpa using this
theorem cntP_zero : cntP n w C sum sign m k S 0 = C := by
  refine ext0 cntP_len fun j hj => ?_
  rw [cntP_len] at hj
  rw [cntP_get hj]
  simp [sumN]
theorem cntP_full : cntP n w C sum sign m k S n = cntL n w C sum sign (m + 1) k S := by
  refine ext0 (by rw [cntP_len, cntL_len]) fun j hj => ?_
  rw [cntP_len] at hj
  rw [cntP_get hj, cntL_get hj]
  rfl
theorem cntP_skip (h : S a = false) : cntP n w C sum sign m k S (a + 1) = cntP n w C sum sign m k S a := by
  refine ext0 (by rw [cntP_len, cntP_len]) fun j hj => ?_
  rw [cntP_len] at hj
  rw [cntP_get hj, cntP_get hj]
  show _ + sign * (sumN _ a + _) = _
  simp [h]
theorem cntP_step (h : S a = true) {sum' sign' : Int} (hs : sum' = sum + (8 - w k a)) (hg : sign' = sign * sg (cb S a)) : cntL n w (cntP n w C sum sign m k S a) sum' sign' m (k + 1) (rem S a) = cntP n w C sum sign m k S (a + 1) := by
  refine ext0 (by rw [cntP_len, cntL_len, cntP_len]) fun j hj => ?_
  rw [cntL_len, cntP_len] at hj
  rw [cntL_get (by rw [cntP_len]; exact hj), cntP_get hj, cntP_get hj]
  have e1 : sumN (fun a => if S a then sg (cb S a) * dA n w m (k + 1) (rem S a) ((j : Int) - sum - 8 * ((m + 1 : Nat) : Int) + w k a) else 0) (a + 1) = sumN (fun a => if S a then sg (cb S a) * dA n w m (k + 1) (rem S a) ((j : Int) - sum - 8 * ((m + 1 : Nat) : Int) + w k a) else 0) a + sg (cb S a) * dA n w m (k + 1) (rem S a) ((j : Int) - sum - 8 * ((m + 1 : Nat) : Int) + w k a) := by
    show sumN _ a + (if S a = true then _ else _) = _
    rw [if_pos h]
  rw [e1, Int.mul_add, ← Int.add_assoc, hg, Int.mul_assoc, hs, show (j : Int) - (sum + (8 - w k a)) - 8 * (m : Int) = (j : Int) - sum - 8 * ((m + 1 : Nat) : Int) + w k a by omega]
theorem cntL_zero (h0 : 0 ≤ sum) (h1 : sum < C.length) : C.set sum.toNat (C.getD sum.toNat 0 + sign) = cntL n w C sum sign 0 k S := by
  refine ext0 (by rw [cntL_len, List.length_set]) fun j hj => ?_
  rw [List.length_set] at hj
  rw [cntL_get hj, getD_set (by omega)]
  show _ = _ + sign * (if _ then 1 else 0)
  by_cases e : sum.toNat = j
  · rw [if_pos e, if_pos (by omega), e, Int.mul_one]
  · rw [if_neg e, if_neg (by omega), Int.mul_zero, Int.add_zero]
theorem cntP_bound (hsg : sign = 1 ∨ sign = -1) {B : Int} (hB : ∀ j, -B ≤ C.getD j 0 ∧ C.getD j 0 ≤ B) (h0 : 0 ≤ B) : ∀ j, -(B + (n : Int) ^ m * (a : Int)) ≤ (cntP n w C sum sign m k S a).getD j 0 ∧ (cntP n w C sum sign m k S a).getD j 0 ≤ B + (n : Int) ^ m * (a : Int) := by
  intro j
  have hp : (0 : Int) ≤ (n : Int) ^ m := Int.pow_nonneg (Int.natCast_nonneg n)
  have hpa : (0 : Int) ≤ (n : Int) ^ m * (a : Int) := Int.mul_nonneg hp (Int.natCast_nonneg a)
  by_cases hj : j < C.length
  · rw [cntP_get hj]
    have h1 := sumN_bound (c := (n : Int) ^ m) (f := fun a => if S a then sg (cb S a) * dA n w m (k + 1) (rem S a) ((j : Int) - sum - 8 * ((m + 1 : Nat) : Int) + w k a) else 0) (fun i => by
      cases S i with
      | false => simp only [Bool.false_eq_true, if_false]; omega
      | true =>
        have := dA_bound n w m (k + 1) (rem S i) ((j : Int) - sum - 8 * ((m + 1 : Nat) : Int) + w k i)
        rcases sg_cases (cb S i) with h | h <;> rw [if_pos rfl, h] <;> omega) a
    have h2 := hB j
    rcases hsg with rfl | rfl <;> omega
  · rw [getD_far (by rw [cntP_len]; omega)]
    omega
end
section
variable (n : Nat) (hn : n ≤ 8) (wt : Nat → Nat → Int) (T : List Int) (hT : T.length = 64) (hw : ∀ r a, r < n → a < n → T.getD (r * 8 + a) 0 = 8 - wt r a ∧ -8 ≤ wt r a ∧ wt r a ≤ 8) (b cap : Nat)
include hn hT hw
theorem l04Count_c : ∀ (m k : Nat) (sum sign B : Int) (used : List Bool) (C : List Int), k + m = n → used.length = 8 → C.length = 16 * n + 1 → 0 ≤ sum → sum ≤ 16 * k → (sign = 1 ∨ sign = -1) → 0 ≤ B → B + (n : Int) ^ m ≤ 1000000000 → (∀ j, -B ≤ C.getD j 0 ∧ C.getD j 0 ≤ B) →
    GivesX Try.prog 176 #[.agg (ints .i64 T).toArray, .int .i64 (n : Int), .int .i64 (k : Int), .int .i64 sum, .int .i64 sign, .agg (bools used).toArray, .slice (some ⟨b, 0, none⟩) (16 * n + 1) cap] [(b, ints .i64 C)] []
      (fun _ M' => M' = [(b, ints .i64 (cntL n wt C sum sign m k (freeS used)))]) := by
  intro m
  induction m with
  | zero =>
    intro k sum sign B used C hk hu hC h0 h1 hs hB0 hB hb
    have p0 : (n : Int) ^ 0 = 1 := rfl
    have hbs := hb sum.toNat
    rw [← cntL_zero (by omega) (by omega)]
    refine GivesX.part ?_
    skip
    refine GivesX.of (callable_of Try.func176 rfl (by decide)) ?_ fun w hnd hlt hR => ?_
    · simp
    refine acall_of (N := 62) (c := _) (rs := []) (args := [_, _, _, _, _, _, _]) Try.func176 rfl (by decide) rfl rfl (Nat.le_of_ble_eq_true rfl) ?_
    refine Cd.rs [1, 2, 3, 4, 6, 7, 12] fun K hK => ?_
    simp (maxSteps := 2000000) (disch := first | (simp only [E4, hT, hu, hC] <;> omega) | omega | fail) only [↓E2, E3, bare, bareJ, ↓E0, E1, evP, evPlan, env0, envN, evOps, evOp, evQs, evQ, evV, setD, pureOp, ev, upd, updL, gate, binW, eqOp, binV, intOp, shOp, boolOp, unV, convV, nilV, fieldAddrV, indexAddrV, extractV, cellAt, cellsAt, findB, setB, fillL, buildV, Value.cells, lenV, minV, maxV, hav, sliceV, loV, hiV, bslQ, mksQ, appQ, partsOk, partsCells, delB, eqL, SameI, strOp, apzQ, cvtQ, capV, ↓reduceIte, Zj, Zk, Nat.reduceAdd, Nat.reduceLT, Nat.reduceEqDiff, Nat.reduceMul, Nat.reduceLeDiff, if_true, Zn, reduceCtorEq, ZA, eq_self, Int.reduceLE, Int.reduceLT, Int.reduceToNat, ne_eq, Nat.reduceSub, hT, hu, hC]
    repeat refine And.intro (by omega) ?_
    intro b1 hb1
    intro b2 hb2
    have nb2_b1 := hb2.ne
    try simp (maxSteps := 2000000) (disch := first | (simp only [E4, hT, hu, hC, nb2_b1] <;> omega) | omega | fail) only [↓E2, E3, bare, bareJ, ↓E0, E1, evP, evPlan, env0, envN, evOps, evOp, evQs, evQ, evV, setD, pureOp, ev, upd, updL, gate, binW, eqOp, binV, intOp, shOp, boolOp, unV, convV, nilV, fieldAddrV, indexAddrV, extractV, cellAt, cellsAt, findB, setB, fillL, buildV, Value.cells, lenV, minV, maxV, hav, sliceV, loV, hiV, bslQ, mksQ, appQ, partsOk, partsCells, delB, eqL, SameI, strOp, apzQ, cvtQ, capV, ↓reduceIte, Zj, Zk, Nat.reduceAdd, Nat.reduceLT, Nat.reduceEqDiff, Nat.reduceMul, Nat.reduceLeDiff, if_true, Zn, reduceCtorEq, ZA, eq_self, Int.reduceLE, Int.reduceLT, Int.reduceToNat, ne_eq, Nat.reduceSub, hT, hu, hC, nb2_b1]
    repeat refine And.intro (by omega) ?_
    repeat refine And.intro (by omega) ?_
    intro g
    simp only [List.map_cons, List.map_nil, updL, upd, Nat.reduceEqDiff, if_true, if_false, ↓reduceIte]
    refine hK _ _ ?_; clear hK K
    refine Cd.nodup fun hnd => ?_
    have n1 : ¬ b1 = b := (nodup_cases (nodup_cases hnd).2).1 (b, _) List.mem_cons_self
    have n2 : ¬ b2 = b := (nodup_cases hnd).1 (b, _) (List.mem_cons_of_mem _ List.mem_cons_self)
    skip
    refine Cd.seq ?_
    refine Cd.rs [1, 2, 3, 4, 6, 7, 12, 19] fun K hK => ?_
    simp (maxSteps := 2000000) (disch := first | (simp only [E4, hT, hu, hC, nb2_b1, n1, n2] <;> omega) | omega | fail) only [↓E2, E3, bare, bareJ, ↓E0, E1, evP, evPlan, env0, envN, evOps, evOp, evQs, evQ, evV, setD, pureOp, ev, upd, updL, gate, binW, eqOp, binV, intOp, shOp, boolOp, unV, convV, nilV, fieldAddrV, indexAddrV, extractV, cellAt, cellsAt, findB, setB, fillL, buildV, Value.cells, lenV, minV, maxV, hav, sliceV, loV, hiV, bslQ, mksQ, appQ, partsOk, partsCells, delB, eqL, SameI, strOp, apzQ, cvtQ, capV, ↓reduceIte, Zj, Zk, Nat.reduceAdd, Nat.reduceLT, Nat.reduceEqDiff, Nat.reduceMul, Nat.reduceLeDiff, if_true, Zn, reduceCtorEq, ZA, eq_self, Int.reduceLE, Int.reduceLT, Int.reduceToNat, ne_eq, Nat.reduceSub, hT, hu, hC, nb2_b1, n1, n2]
    repeat refine And.intro (by omega) ?_
    repeat refine And.intro (by omega) ?_
    intro g
    simp only [List.map_cons, List.map_nil, updL, upd, Nat.reduceEqDiff, if_true, if_false, ↓reduceIte]
    refine hK _ _ ?_; clear hK K
    refine Cd.condd rfl (fun h1 => ?_) (fun h1 => ?_)
    · refine Cd.rs [] fun K hK => ?_
      simp (maxSteps := 2000000) (disch := first | (simp only [E4, hT, hu, hC, nb2_b1, n1, n2] <;> omega) | omega | fail) only [↓E2, E3, bare, bareJ, ↓E0, E1, evP, evPlan, env0, envN, evOps, evOp, evQs, evQ, evV, setD, pureOp, ev, upd, updL, gate, binW, eqOp, binV, intOp, shOp, boolOp, unV, convV, nilV, fieldAddrV, indexAddrV, extractV, cellAt, cellsAt, findB, setB, fillL, buildV, Value.cells, lenV, minV, maxV, hav, sliceV, loV, hiV, bslQ, mksQ, appQ, partsOk, partsCells, delB, eqL, SameI, strOp, apzQ, cvtQ, capV, ↓reduceIte, Zj, Zk, Nat.reduceAdd, Nat.reduceLT, Nat.reduceEqDiff, Nat.reduceMul, Nat.reduceLeDiff, if_true, Zn, reduceCtorEq, ZA, eq_self, Int.reduceLE, Int.reduceLT, Int.reduceToNat, ne_eq, Nat.reduceSub, Tld2, Tslc47, Tst2, hT, hu, hC, nb2_b1, n1, n2]
      repeat refine And.intro (by omega) ?_
      repeat refine And.intro (by omega) ?_
      intro g
      simp only [List.map_cons, List.map_nil, updL, upd, Nat.reduceEqDiff, if_true, if_false, ↓reduceIte]
      refine hK _ _ ?_; clear hK K
      refine Cd.ret (thenR ?_)
      exact ⟨[], rfl, _, SubP.of (List.Sublist.cons _ (List.Sublist.cons _ (List.Sublist.refl _))), rfl⟩
    · exact absurd h1 (by first | omega | (simp; omega))
  | succ m ih =>
    intro k sum sign B used C hk hu hC h0 h1 hs hB0 hB hb
    refine GivesX.part ?_
    skip
    refine GivesX.of (callable_of Try.func176 rfl (by decide)) ?_ fun w hnd hlt hR => ?_
    · simp
    refine acall_of (N := 62) (c := _) (rs := []) (args := [_, _, _, _, _, _, _]) Try.func176 rfl (by decide) rfl rfl (Nat.le_of_ble_eq_true rfl) ?_
    refine Cd.rs [1, 2, 3, 4, 6, 7, 12] fun K hK => ?_
    simp (maxSteps := 2000000) (disch := first | (simp only [E4, hT, hu, hC] <;> omega) | omega | fail) only [↓E2, E3, bare, bareJ, ↓E0, E1, evP, evPlan, env0, envN, evOps, evOp, evQs, evQ, evV, setD, pureOp, ev, upd, updL, gate, binW, eqOp, binV, intOp, shOp, boolOp, unV, convV, nilV, fieldAddrV, indexAddrV, extractV, cellAt, cellsAt, findB, setB, fillL, buildV, Value.cells, lenV, minV, maxV, hav, sliceV, loV, hiV, bslQ, mksQ, appQ, partsOk, partsCells, delB, eqL, SameI, strOp, apzQ, cvtQ, capV, ↓reduceIte, Zj, Zk, Nat.reduceAdd, Nat.reduceLT, Nat.reduceEqDiff, Nat.reduceMul, Nat.reduceLeDiff, if_true, Zn, reduceCtorEq, ZA, eq_self, Int.reduceLE, Int.reduceLT, Int.reduceToNat, ne_eq, Nat.reduceSub, hT, hu, hC]
    repeat refine And.intro (by omega) ?_
    intro b1 hb1
    intro b2 hb2
    have nb2_b1 := hb2.ne
    try simp (maxSteps := 2000000) (disch := first | (simp only [E4, hT, hu, hC, nb2_b1] <;> omega) | omega | fail) only [↓E2, E3, bare, bareJ, ↓E0, E1, evP, evPlan, env0, envN, evOps, evOp, evQs, evQ, evV, setD, pureOp, ev, upd, updL, gate, binW, eqOp, binV, intOp, shOp, boolOp, unV, convV, nilV, fieldAddrV, indexAddrV, extractV, cellAt, cellsAt, findB, setB, fillL, buildV, Value.cells, lenV, minV, maxV, hav, sliceV, loV, hiV, bslQ, mksQ, appQ, partsOk, partsCells, delB, eqL, SameI, strOp, apzQ, cvtQ, capV, ↓reduceIte, Zj, Zk, Nat.reduceAdd, Nat.reduceLT, Nat.reduceEqDiff, Nat.reduceMul, Nat.reduceLeDiff, if_true, Zn, reduceCtorEq, ZA, eq_self, Int.reduceLE, Int.reduceLT, Int.reduceToNat, ne_eq, Nat.reduceSub, hT, hu, hC, nb2_b1]
    repeat refine And.intro (by omega) ?_
    repeat refine And.intro (by omega) ?_
    intro g
    simp only [List.map_cons, List.map_nil, updL, upd, Nat.reduceEqDiff, if_true, if_false, ↓reduceIte]
    refine hK _ _ ?_; clear hK K
    refine Cd.seq ?_
    refine Cd.rs [1, 2, 3, 4, 6, 7, 12, 19] fun K hK => ?_
    simp (maxSteps := 2000000) (disch := first | (simp only [E4, hT, hu, hC, nb2_b1] <;> omega) | omega | fail) only [↓E2, E3, bare, bareJ, ↓E0, E1, evP, evPlan, env0, envN, evOps, evOp, evQs, evQ, evV, setD, pureOp, ev, upd, updL, gate, binW, eqOp, binV, intOp, shOp, boolOp, unV, convV, nilV, fieldAddrV, indexAddrV, extractV, cellAt, cellsAt, findB, setB, fillL, buildV, Value.cells, lenV, minV, maxV, hav, sliceV, loV, hiV, bslQ, mksQ, appQ, partsOk, partsCells, delB, eqL, SameI, strOp, apzQ, cvtQ, capV, ↓reduceIte, Zj, Zk, Nat.reduceAdd, Nat.reduceLT, Nat.reduceEqDiff, Nat.reduceMul, Nat.reduceLeDiff, if_true, Zn, reduceCtorEq, ZA, eq_self, Int.reduceLE, Int.reduceLT, Int.reduceToNat, ne_eq, Nat.reduceSub, hT, hu, hC, nb2_b1]
    repeat refine And.intro (by omega) ?_
    repeat refine And.intro (by omega) ?_
    intro g
    simp only [List.map_cons, List.map_nil, updL, upd, Nat.reduceEqDiff, if_true, if_false, ↓reduceIte]
    refine hK _ _ ?_; clear hK K
    refine Cd.condd rfl (fun h1 => absurd h1 (by first | omega | (simp; omega))) (fun h1 => ?_)
    refine Cd.skip ?_
    refine thenN ?_
    refine Cd.rs [1, 2, 3, 4, 6, 7, 12, 14] fun K hK => ?_
    simp (maxSteps := 2000000) (disch := first | (simp only [E4, hT, hu, hC, nb2_b1] <;> omega) | omega | fail) only [↓E2, E3, bare, bareJ, ↓E0, E1, evP, evPlan, env0, envN, evOps, evOp, evQs, evQ, evV, setD, pureOp, ev, upd, updL, gate, binW, eqOp, binV, intOp, shOp, boolOp, unV, convV, nilV, fieldAddrV, indexAddrV, extractV, cellAt, cellsAt, findB, setB, fillL, buildV, Value.cells, lenV, minV, maxV, hav, sliceV, loV, hiV, bslQ, mksQ, appQ, partsOk, partsCells, delB, eqL, SameI, strOp, apzQ, cvtQ, capV, ↓reduceIte, Zj, Zk, Nat.reduceAdd, Nat.reduceLT, Nat.reduceEqDiff, Nat.reduceMul, Nat.reduceLeDiff, if_true, Zn, reduceCtorEq, ZA, eq_self, Int.reduceLE, Int.reduceLT, Int.reduceToNat, ne_eq, Nat.reduceSub, hT, hu, hC, nb2_b1]
    repeat refine And.intro (by omega) ?_
    repeat refine And.intro (by omega) ?_
    intro g
    simp only [List.map_cons, List.map_nil, updL, upd, Nat.reduceEqDiff, if_true, if_false, ↓reduceIte]
    refine hK _ _ ?_; clear hK K
    refine Cd.rs [1, 2, 3, 4, 6, 7, 12, 14, 15] fun K hK => ?_
    simp (maxSteps := 2000000) (disch := first | (simp only [E4, hT, hu, hC, nb2_b1] <;> omega) | omega | fail) only [↓E2, E3, bare, bareJ, ↓E0, E1, evP, evPlan, env0, envN, evOps, evOp, evQs, evQ, evV, setD, pureOp, ev, upd, updL, gate, binW, eqOp, binV, intOp, shOp, boolOp, unV, convV, nilV, fieldAddrV, indexAddrV, extractV, cellAt, cellsAt, findB, setB, fillL, buildV, Value.cells, lenV, minV, maxV, hav, sliceV, loV, hiV, bslQ, mksQ, appQ, partsOk, partsCells, delB, eqL, SameI, strOp, apzQ, cvtQ, capV, ↓reduceIte, Zj, Zk, Nat.reduceAdd, Nat.reduceLT, Nat.reduceEqDiff, Nat.reduceMul, Nat.reduceLeDiff, if_true, Zn, reduceCtorEq, ZA, eq_self, Int.reduceLE, Int.reduceLT, Int.reduceToNat, ne_eq, Nat.reduceSub, hT, hu, hC, nb2_b1]
    repeat refine And.intro (by omega) ?_
    repeat refine And.intro (by omega) ?_
    intro g
    simp only [List.map_cons, List.map_nil, updL, upd, Nat.reduceEqDiff, if_true, if_false, ↓reduceIte]
    refine hK _ _ ?_; clear hK K
    refine Cd.block ?_
    refine Cd.loop (fun q ρ M => ∃ g a, a + q = n ∧ ρ = updL [(1, .int .i64 (n : Int)), (2, .int .i64 (k : Int)), (3, .int .i64 sum), (4, .int .i64 sign), (6, .slice (some ⟨b, 0, none⟩) (16 * n + 1) cap), (7, .pointer (some ⟨b1, 0, none⟩)), (12, .pointer (some ⟨b2, 0, none⟩)), (14, .int .i64 ((cb (freeS used) a : Nat) : Int)), (15, .int .i64 (a : Int))] g ∧
      SubP [(b2, bools used), (b1, ints .i64 T), (b, ints .i64 (cntP n wt C sum sign m k (freeS used) a))] M) n ⟨_, 0, Nat.zero_add _, rfl, by rw [cntP_zero]; exact SubP.refl _⟩ ?_
    rintro q ρ M ⟨g, a, ha, rfl, hM⟩
    refine Cd.sub hM ?_
    clear hM M
    refine Cd.nodup fun hnd => ?_
    have n1 : ¬ b1 = b := (nodup_cases (nodup_cases hnd).2).1 (b, _) List.mem_cons_self
    have n2 : ¬ b2 = b := (nodup_cases hnd).1 (b, _) (List.mem_cons_of_mem _ List.mem_cons_self)
    have n3 : ¬ b2 = b1 := (nodup_cases hnd).1 (b1, _) List.mem_cons_self
    have hcb := cb_le (freeS used) a
    skip
    skip
    refine Cd.seq ?_
    refine Cd.rs [1, 2, 3, 4, 6, 7, 12, 14, 15, 31] fun K hK => ?_
    simp (maxSteps := 2000000) (disch := first | (simp only [E4, hT, hu, hC, nb2_b1, n1, n2, n3] <;> omega) | omega | fail) only [↓E2, E3, bare, bareJ, ↓E0, E1, evP, evPlan, env0, envN, evOps, evOp, evQs, evQ, evV, setD, pureOp, ev, upd, updL, gate, binW, eqOp, binV, intOp, shOp, boolOp, unV, convV, nilV, fieldAddrV, indexAddrV, extractV, cellAt, cellsAt, findB, setB, fillL, buildV, Value.cells, lenV, minV, maxV, hav, sliceV, loV, hiV, bslQ, mksQ, appQ, partsOk, partsCells, delB, eqL, SameI, strOp, apzQ, cvtQ, capV, ↓reduceIte, Zj, Zk, Nat.reduceAdd, Nat.reduceLT, Nat.reduceEqDiff, Nat.reduceMul, Nat.reduceLeDiff, if_true, Zn, reduceCtorEq, ZA, eq_self, Int.reduceLE, Int.reduceLT, Int.reduceToNat, ne_eq, Nat.reduceSub, hT, hu, hC, nb2_b1, n1, n2, n3]
    repeat refine And.intro (by omega) ?_
    repeat refine And.intro (by omega) ?_
    intro g
    simp only [List.map_cons, List.map_nil, updL, upd, Nat.reduceEqDiff, if_true, if_false, ↓reduceIte]
    refine hK _ _ ?_; clear hK K
    refine Cd.condd rfl (fun h2 => ?_) (fun h2 => ?_)
    · refine Cd.skip ?_
      refine thenN ?_
      refine Cd.seq ?_
      refine Cd.block ?_
      refine Cd.seq ?_
      refine Cd.rs [1, 2, 3, 4, 6, 7, 12, 14, 15, 36] fun K hK => ?_
      simp (maxSteps := 2000000) (disch := first | (simp only [E4, hT, hu, hC, nb2_b1, n1, n2, n3] <;> omega) | omega | fail) only [↓E2, E3, bare, bareJ, ↓E0, E1, evP, evPlan, env0, envN, evOps, evOp, evQs, evQ, evV, setD, pureOp, ev, upd, updL, gate, binW, eqOp, binV, intOp, shOp, boolOp, unV, convV, nilV, fieldAddrV, indexAddrV, extractV, cellAt, cellsAt, findB, setB, fillL, buildV, Value.cells, lenV, minV, maxV, hav, sliceV, loV, hiV, bslQ, mksQ, appQ, partsOk, partsCells, delB, eqL, SameI, strOp, apzQ, cvtQ, capV, ↓reduceIte, Zj, Zk, Nat.reduceAdd, Nat.reduceLT, Nat.reduceEqDiff, Nat.reduceMul, Nat.reduceLeDiff, if_true, Zn, reduceCtorEq, ZA, eq_self, Int.reduceLE, Int.reduceLT, Int.reduceToNat, ne_eq, Nat.reduceSub, Tarr163, Tld4, hT, hu, hC, nb2_b1, n1, n2, n3]
      repeat refine And.intro (by omega) ?_
      repeat refine And.intro (by omega) ?_
      intro g
      simp only [List.map_cons, List.map_nil, updL, upd, Nat.reduceEqDiff, if_true, if_false, ↓reduceIte]
      refine hK _ _ ?_; clear hK K
      refine Cd.cond rfl (fun h3 => ?_) (fun h3 => ?_)
      · refine Cd.exit (thenX (inBX ?_))
        refine thenN ?_
        have hS : freeS used a = false := by unfold freeS; rw [h3]; rfl
        have e1 : cb (freeS used) (a + 1) = cb (freeS used) a := by show cb _ a + _ = _; rw [hS]; simp
        refine Cd.rr [1, 2, 3, 4, 6, 7, 12, 14, 15] fun K hK => ?_
        simp (maxSteps := 2000000) (disch := first | (simp only [E4, hT, hu, hC, nb2_b1, n1, n2, n3] <;> omega) | omega | fail) only [↓E2, E3, bare, bareJ, ↓E0, E1, evP, evPlan, env0, envN, evOps, evOp, evQs, evQ, evV, setD, pureOp, ev, upd, updL, gate, binW, eqOp, binV, intOp, shOp, boolOp, unV, convV, nilV, fieldAddrV, indexAddrV, extractV, cellAt, cellsAt, findB, setB, fillL, buildV, Value.cells, lenV, minV, maxV, hav, sliceV, loV, hiV, bslQ, mksQ, appQ, partsOk, partsCells, delB, eqL, SameI, strOp, apzQ, cvtQ, capV, ↓reduceIte, Zj, Zk, Nat.reduceAdd, Nat.reduceLT, Nat.reduceEqDiff, Nat.reduceMul, Nat.reduceLeDiff, if_true, Zn, reduceCtorEq, ZA, eq_self, Int.reduceLE, Int.reduceLT, Int.reduceToNat, ne_eq, Nat.reduceSub, hT, hu, hC, nb2_b1, n1, n2, n3]
        repeat refine And.intro (by omega) ?_
        repeat refine And.intro (by omega) ?_
        intro g
        simp only [List.map_cons, List.map_nil, updL, upd, Nat.reduceEqDiff, if_true, if_false, ↓reduceIte]
        refine hK _ _ ?_; clear hK K
        exact roundN (m := q - 1) (by omega) ⟨_, a + 1, by omega, by rw [e1]; rfl, by rw [cntP_skip hS]; exact SubP.refl _⟩
      · have hS : freeS used a = true := by unfold freeS; simpa using h3
        have e1 : cb (freeS used) (a + 1) = cb (freeS used) a + 1 := by show cb _ a + _ = _; rw [hS]; simp
        obtain ⟨t1, t2, t3⟩ := hw k a (by omega) (by omega)
        have eg : (1 : Int) - 2 * (((cb (freeS used) a : Nat) : Int) % 2) = sg (cb (freeS used) a) := by
          unfold sg
          split <;> omega
        have hsc : sign * sg (cb (freeS used) a) = 1 ∨ sign * sg (cb (freeS used) a) = -1 := by
          rcases hs with rfl | rfl <;> rcases sg_cases (cb (freeS used) a) with h | h <;> rw [h] <;> simp
        have hp : (0 : Int) ≤ (n : Int) ^ m := Int.pow_nonneg (Int.natCast_nonneg n)
        have hp1 : (n : Int) ^ (m + 1) = (n : Int) ^ m * (n : Int) := Int.pow_succ _ _
        have hp2 : (n : Int) ^ m * ((a + 1 : Nat) : Int) ≤ (n : Int) ^ m * (n : Int) := Int.mul_le_mul_of_nonneg_left (by omega) hp
        have hp3 : (n : Int) ^ m * ((a + 1 : Nat) : Int) = (n : Int) ^ m * (a : Int) + (n : Int) ^ m := by rw [Int.natCast_succ, Int.mul_add, Int.mul_one]
        have hp4 : (0 : Int) ≤ (n : Int) ^ m * (a : Int) := Int.mul_nonneg hp (Int.natCast_nonneg a)
        have hcall := ih (k + 1) (sum + (8 - wt k a)) (sign * sg (cb (freeS used) a)) (B + (n : Int) ^ m * (a : Int)) (used.set a true) (cntP n wt C sum sign m k (freeS used) a) (by omega) (by rw [List.length_set, hu]) (by rw [cntP_len, hC]) (by omega) (by omega) hsc (by omega) (by omega) (cntP_bound hs hb hB0)
        rw [freeS_set (by omega), cntP_step hS rfl rfl] at hcall
        refine Cd.skip ?_
        refine thenN ?_
        refine Cd.rs [1, 2, 3, 4, 6, 7, 12, 14, 15, 16] fun K hK => ?_
        simp (maxSteps := 2000000) (disch := first | (simp only [E4, hT, hu, hC, nb2_b1, n1, n2, n3] <;> omega) | omega | fail) only [↓E2, E3, bare, bareJ, ↓E0, E1, evP, evPlan, env0, envN, evOps, evOp, evQs, evQ, evV, setD, pureOp, ev, upd, updL, gate, binW, eqOp, binV, intOp, shOp, boolOp, unV, convV, nilV, fieldAddrV, indexAddrV, extractV, cellAt, cellsAt, findB, setB, fillL, buildV, Value.cells, lenV, minV, maxV, hav, sliceV, loV, hiV, bslQ, mksQ, appQ, partsOk, partsCells, delB, eqL, SameI, strOp, apzQ, cvtQ, capV, ↓reduceIte, Zj, Zk, Nat.reduceAdd, Nat.reduceLT, Nat.reduceEqDiff, Nat.reduceMul, Nat.reduceLeDiff, if_true, Zn, reduceCtorEq, ZA, eq_self, Int.reduceLE, Int.reduceLT, Int.reduceToNat, ne_eq, Nat.reduceSub, Tld163, Tst163, Tzero163, hT, hu, hC, nb2_b1, n1, n2, n3]
        repeat refine And.intro (by omega) ?_
        intro b3 hb3
        have nb3_b2 := hb3.ne
        have nb3_b1 := hb3.tail.ne
        try simp (maxSteps := 2000000) (disch := first | (simp only [E4, hT, hu, hC, nb2_b1, n1, n2, n3, nb3_b2, nb3_b1] <;> omega) | omega | fail) only [↓E2, E3, bare, bareJ, ↓E0, E1, evP, evPlan, env0, envN, evOps, evOp, evQs, evQ, evV, setD, pureOp, ev, upd, updL, gate, binW, eqOp, binV, intOp, shOp, boolOp, unV, convV, nilV, fieldAddrV, indexAddrV, extractV, cellAt, cellsAt, findB, setB, fillL, buildV, Value.cells, lenV, minV, maxV, hav, sliceV, loV, hiV, bslQ, mksQ, appQ, partsOk, partsCells, delB, eqL, SameI, strOp, apzQ, cvtQ, capV, ↓reduceIte, Zj, Zk, Nat.reduceAdd, Nat.reduceLT, Nat.reduceEqDiff, Nat.reduceMul, Nat.reduceLeDiff, if_true, Zn, reduceCtorEq, ZA, eq_self, Int.reduceLE, Int.reduceLT, Int.reduceToNat, ne_eq, Nat.reduceSub, Tld163, Tst163, Tzero163, hT, hu, hC, nb2_b1, n1, n2, n3, nb3_b2, nb3_b1]
        repeat refine And.intro (by omega) ?_
        repeat refine And.intro (by omega) ?_
        intro g
        simp only [List.map_cons, List.map_nil, updL, upd, Nat.reduceEqDiff, if_true, if_false, ↓reduceIte]
        refine hK _ _ ?_; clear hK K
        have n4 : ¬ b3 = b := hb3.2 (b, ints .i64 (cntP n wt C sum sign m k (freeS used) a)) (by simp)
        have n5 : ¬ b3 = b1 := hb3.2 (b1, ints .i64 T) (by simp)
        have n6 : ¬ b3 = b2 := hb3.2 (b2, bools used) (by simp)
        skip
        refine Cd.rs [1, 2, 3, 4, 6, 7, 12, 14, 15, 16] fun K hK => ?_
        simp (maxSteps := 2000000) (disch := first | (simp only [E4, hT, hu, hC, nb2_b1, n1, n2, n3, nb3_b2, nb3_b1, n4, n5, n6] <;> omega) | omega | fail) only [↓E2, E3, bare, bareJ, ↓E0, E1, evP, evPlan, env0, envN, evOps, evOp, evQs, evQ, evV, setD, pureOp, ev, upd, updL, gate, binW, eqOp, binV, intOp, shOp, boolOp, unV, convV, nilV, fieldAddrV, indexAddrV, extractV, cellAt, cellsAt, findB, setB, fillL, buildV, Value.cells, lenV, minV, maxV, hav, sliceV, loV, hiV, bslQ, mksQ, appQ, partsOk, partsCells, delB, eqL, SameI, strOp, apzQ, cvtQ, capV, ↓reduceIte, Zj, Zk, Nat.reduceAdd, Nat.reduceLT, Nat.reduceEqDiff, Nat.reduceMul, Nat.reduceLeDiff, if_true, Zn, reduceCtorEq, ZA, eq_self, Int.reduceLE, Int.reduceLT, Int.reduceToNat, ne_eq, Nat.reduceSub, Tarr163, Tst4, hT, hu, hC, nb2_b1, n1, n2, n3, nb3_b2, nb3_b1, n4, n5, n6]
        repeat refine And.intro (by omega) ?_
        repeat refine And.intro (by omega) ?_
        intro g
        simp only [List.map_cons, List.map_nil, updL, upd, Nat.reduceEqDiff, if_true, if_false, ↓reduceIte]
        refine hK _ _ ?_; clear hK K
        have et : (k : Int).toNat * 8 + (a : Int).toNat = k * 8 + a := by omega
        have hms : (2 : Int) * (((cb (freeS used) a : Nat) : Int) % 2) = 1 - sg (cb (freeS used) a) := by omega
        refine Cd.nodup fun hnd2 => ?_
        have ewr : IntKind.wrap .i64 (sign * (1 - 2 * (((cb (freeS used) a : Nat) : Int) % 2))) = sign * sg (cb (freeS used) a) := by
          rw [eg]
          rcases hsc with h | h <;> rw [h] <;> rfl
        have ek : (k : Int) + 1 = ((k + 1 : Nat) : Int) := rfl
        refine Cd.ps [1, 2, 3, 4, 6, 7, 12, 14, 15] (Plan.take 0 (Plan.take 1 (Plan.take 2 (Plan.take 3 (Plan.take 4 (Plan.take 5 (Plan.take 6 (Plan.take 7 (Plan.take 8 (Plan.take 9 (Plan.take 10 (Plan.take 11 (Plan.take 12 (Plan.take 13 (Plan.take 14 (Plan.take 15 (Plan.take 16 (Plan.take 17 (Plan.take 18 (Plan.one 19 (Plan.done))))))))))))))))))))) fol (by kernel_rfl) (Nat.le_of_ble_eq_true rfl) fun K hK => ?_
        simp (maxSteps := 2000000) (disch := first | (simp only [E4, hT, hu, hC, nb2_b1, n1, n2, n3, nb3_b2, nb3_b1, n4, n5, n6, t1, ewr, ek] <;> omega) | omega | fail) only [↓E2, E3, bare, bareJ, ↓E0, E1, evP, evPlan, env0, envN, evOps, evOp, evQs, evQ, evV, setD, pureOp, ev, upd, updL, gate, binW, eqOp, binV, intOp, shOp, boolOp, unV, convV, nilV, fieldAddrV, indexAddrV, extractV, cellAt, cellsAt, findB, setB, fillL, buildV, Value.cells, lenV, minV, maxV, hav, sliceV, loV, hiV, bslQ, mksQ, appQ, partsOk, partsCells, delB, eqL, SameI, strOp, apzQ, cvtQ, capV, ↓reduceIte, Zj, Zk, Nat.reduceAdd, Nat.reduceLT, Nat.reduceEqDiff, Nat.reduceMul, Nat.reduceLeDiff, if_true, Zn, reduceCtorEq, ZA, eq_self, Int.reduceLE, Int.reduceLT, Int.reduceToNat, ne_eq, Nat.reduceSub, Tarr110, Tarr113, Tld113, Tld163, Tld2, hT, hu, hC, nb2_b1, n1, n2, n3, nb3_b2, nb3_b1, n4, n5, n6, t1, ewr, ek]
        repeat refine And.intro (by omega) ?_
        refine callO_lentC (cs := []) (Mr := [(b3, bools (used.set a true)), (b2, bools used), (b1, ints .i64 T)]) hcall hnd2 rfl (fun _ _ => toldW_nil) ?_
        rintro v' M' rfl nd' _
        simp only [List.cons_append, List.nil_append] at nd' ⊢
        simp (maxSteps := 2000000) (disch := first | (simp only [E4, hT, hu, hC, nb2_b1, n1, n2, n3, nb3_b2, nb3_b1, n4, n5, n6] <;> omega) | omega | fail) only [↓E2, E3, bare, bareJ, ↓E0, E1, evP, evPlan, env0, envN, evOps, evOp, evQs, evQ, evV, setD, pureOp, ev, upd, updL, gate, binW, eqOp, binV, intOp, shOp, boolOp, unV, convV, nilV, fieldAddrV, indexAddrV, extractV, cellAt, cellsAt, findB, setB, fillL, buildV, Value.cells, lenV, minV, maxV, hav, sliceV, loV, hiV, bslQ, mksQ, appQ, partsOk, partsCells, delB, eqL, SameI, strOp, apzQ, cvtQ, capV, ↓reduceIte, Zj, Zk, Nat.reduceAdd, Nat.reduceLT, Nat.reduceEqDiff, Nat.reduceMul, Nat.reduceLeDiff, if_true, Zn, reduceCtorEq, ZA, eq_self, Int.reduceLE, Int.reduceLT, Int.reduceToNat, ne_eq, Nat.reduceSub, Tarr110, Tarr113, Tld113, Tld163, Tld2, hT, hu, hC, nb2_b1, n1, n2, n3, nb3_b2, nb3_b1, n4, n5, n6]
        repeat refine And.intro (by omega) ?_
        repeat refine And.intro (by omega) ?_
        intro g
        simp only [List.map_cons, List.map_nil, updL, upd, Nat.reduceEqDiff, if_true, if_false, ↓reduceIte]
        refine hK _ _ ?_; clear hK K
        refine Cd.rr [1, 2, 3, 4, 6, 7, 12, 14, 15] fun K hK => ?_
        simp (maxSteps := 2000000) (disch := first | (simp only [E4, hT, hu, hC, nb2_b1, n1, n2, n3, nb3_b2, nb3_b1, n4, n5, n6] <;> omega) | omega | fail) only [↓E2, E3, bare, bareJ, ↓E0, E1, evP, evPlan, env0, envN, evOps, evOp, evQs, evQ, evV, setD, pureOp, ev, upd, updL, gate, binW, eqOp, binV, intOp, shOp, boolOp, unV, convV, nilV, fieldAddrV, indexAddrV, extractV, cellAt, cellsAt, findB, setB, fillL, buildV, Value.cells, lenV, minV, maxV, hav, sliceV, loV, hiV, bslQ, mksQ, appQ, partsOk, partsCells, delB, eqL, SameI, strOp, apzQ, cvtQ, capV, ↓reduceIte, Zj, Zk, Nat.reduceAdd, Nat.reduceLT, Nat.reduceEqDiff, Nat.reduceMul, Nat.reduceLeDiff, if_true, Zn, reduceCtorEq, ZA, eq_self, Int.reduceLE, Int.reduceLT, Int.reduceToNat, ne_eq, Nat.reduceSub, hT, hu, hC, nb2_b1, n1, n2, n3, nb3_b2, nb3_b1, n4, n5, n6]
        repeat refine And.intro (by omega) ?_
        repeat refine And.intro (by omega) ?_
        intro g
        simp only [List.map_cons, List.map_nil, updL, upd, Nat.reduceEqDiff, if_true, if_false, ↓reduceIte]
        refine hK _ _ ?_; clear hK K
        refine inBN ?_
        refine thenN ?_
        refine Cd.rr [1, 2, 3, 4, 6, 7, 12, 14, 15] fun K hK => ?_
        simp (maxSteps := 2000000) (disch := first | (simp only [E4, hT, hu, hC, nb2_b1, n1, n2, n3, nb3_b2, nb3_b1, n4, n5, n6] <;> omega) | omega | fail) only [↓E2, E3, bare, bareJ, ↓E0, E1, evP, evPlan, env0, envN, evOps, evOp, evQs, evQ, evV, setD, pureOp, ev, upd, updL, gate, binW, eqOp, binV, intOp, shOp, boolOp, unV, convV, nilV, fieldAddrV, indexAddrV, extractV, cellAt, cellsAt, findB, setB, fillL, buildV, Value.cells, lenV, minV, maxV, hav, sliceV, loV, hiV, bslQ, mksQ, appQ, partsOk, partsCells, delB, eqL, SameI, strOp, apzQ, cvtQ, capV, ↓reduceIte, Zj, Zk, Nat.reduceAdd, Nat.reduceLT, Nat.reduceEqDiff, Nat.reduceMul, Nat.reduceLeDiff, if_true, Zn, reduceCtorEq, ZA, eq_self, Int.reduceLE, Int.reduceLT, Int.reduceToNat, ne_eq, Nat.reduceSub, hT, hu, hC, nb2_b1, n1, n2, n3, nb3_b2, nb3_b1, n4, n5, n6]
        repeat refine And.intro (by omega) ?_
        repeat refine And.intro (by omega) ?_
        intro g
        simp only [List.map_cons, List.map_nil, updL, upd, Nat.reduceEqDiff, if_true, if_false, ↓reduceIte]
        refine hK _ _ ?_; clear hK K
        exact roundN (m := q - 1) (by omega) ⟨_, a + 1, by omega, by rw [e1]; rfl, SubP.of (List.Sublist.cons _ (List.Sublist.refl _))⟩
    · obtain rfl : a = n := by omega
      refine Cd.exit (thenX (roundX (inBX ?_)))
      exact ⟨[], rfl, _, SubP.of (List.Sublist.cons _ (List.Sublist.cons _ (List.Sublist.refl _))), by rw [cntP_full]⟩
end

end Go.Proofs
