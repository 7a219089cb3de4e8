/-
  What the functions of this part hand back: each as a plain function of its arguments. Conditions: none.
-/
import Derived.ProofKit
import Derived.OpenShut
import Derived.Below
import Derived.ChangeSame
import Derived.Test.YtdfddcfgagfdoaaM1
import Derived.Test.YtdfddcfgagfdoaaM2
namespace Go.Proofs
open Go.W8
set_option linter.unusedVariables false
set_option linter.unusedSimpArgs false
set_option linter.unusedSectionVars false
set_option maxRecDepth 8000
set_option maxHeartbeats 4000000
theorem sub_zero_len {l cs : List Value} {n : Nat} (h : l.length = n) (hr : ∃ rest, cs = l ++ rest) : cs.take n = l := by
  obtain ⟨rest, rfl⟩ := hr
  rw [← h, List.take_left]
theorem l01Own_c (l : List Int) (R : Rd) (v : Value) (h : RdO R l v) (hb : l.length ≤ 100000000) : GivesX Try.prog 190 #[v] [] R (SlN 1 (ints .i64 l)) := by
  refine GivesX.part ?_
  rcases h with ⟨rfl, cap, rfl⟩ | ⟨b, o, cap, rfl, h0, h1⟩
  · refine GivesX.of (callable_of Try.func190 rfl (by decide)) ?_ fun w hnd hlt hR => ?_
    · simp
    refine acall_of (N := 6) (c := _) (rs := [.tmp 2]) (args := [_]) Try.func190 rfl (by decide) rfl rfl (Nat.le_of_ble_eq_true rfl) ?_
    refine Cd.rs [0] fun K hK => ?_
    simp (maxSteps := 2000000) (disch := first | (simp only [E4] <;> omega) | omega | fail) only [↓E2, E3, bare, bareJ, ↓E0, E1, evP, evPlan, env0, envN, evOps, evOp, evQs, evQ, evV, setD, pureOp, ev, upd, updL, gate, binW, eqOp, binV, intOp, shOp, boolOp, unV, convV, nilV, fieldAddrV, indexAddrV, extractV, cellAt, cellsAt, findB, setB, fillL, buildV, Value.cells, lenV, minV, maxV, hav, sliceV, loV, hiV, bslQ, mksQ, appQ, partsOk, partsCells, delB, eqL, SameI, strOp, apzQ, cvtQ, capV, ↓reduceIte, Zj, Zk, Nat.reduceAdd, Nat.reduceLT, Nat.reduceEqDiff, Nat.reduceMul, Nat.reduceLeDiff, if_true, Zn, reduceCtorEq, ZA, eq_self, Int.reduceLE, Int.reduceLT, Int.reduceToNat, ne_eq, Nat.reduceSub]
    repeat refine And.intro (by omega) ?_
    repeat refine And.intro (by omega) ?_
    intro g
    simp only [List.map_cons, List.map_nil, updL, upd, Nat.reduceEqDiff, if_true, if_false, ↓reduceIte]
    refine hK _ _ ?_; clear hK K
    refine Cd.rs [2] fun K hK => ?_
    simp (maxSteps := 2000000) (disch := first | (simp only [E4] <;> omega) | omega | fail) only [↓E2, E3, bare, bareJ, ↓E0, E1, evP, evPlan, env0, envN, evOps, evOp, evQs, evQ, evV, setD, pureOp, ev, upd, updL, gate, binW, eqOp, binV, intOp, shOp, boolOp, unV, convV, nilV, fieldAddrV, indexAddrV, extractV, cellAt, cellsAt, findB, setB, fillL, buildV, Value.cells, lenV, minV, maxV, hav, sliceV, loV, hiV, bslQ, mksQ, appQ, partsOk, partsCells, delB, eqL, SameI, strOp, apzQ, cvtQ, capV, ↓reduceIte, Zj, Zk, Nat.reduceAdd, Nat.reduceLT, Nat.reduceEqDiff, Nat.reduceMul, Nat.reduceLeDiff, if_true, Zn, reduceCtorEq, ZA, eq_self, Int.reduceLE, Int.reduceLT, Int.reduceToNat, ne_eq, Nat.reduceSub, Tby2, Tslc47, Tslce47, Tzero2]
    repeat refine And.intro (by omega) ?_
    intro b1 hb1
    try simp (maxSteps := 2000000) (disch := first | (simp only [E4] <;> omega) | omega | fail) only [↓E2, E3, bare, bareJ, ↓E0, E1, evP, evPlan, env0, envN, evOps, evOp, evQs, evQ, evV, setD, pureOp, ev, upd, updL, gate, binW, eqOp, binV, intOp, shOp, boolOp, unV, convV, nilV, fieldAddrV, indexAddrV, extractV, cellAt, cellsAt, findB, setB, fillL, buildV, Value.cells, lenV, minV, maxV, hav, sliceV, loV, hiV, bslQ, mksQ, appQ, partsOk, partsCells, delB, eqL, SameI, strOp, apzQ, cvtQ, capV, ↓reduceIte, Zj, Zk, Nat.reduceAdd, Nat.reduceLT, Nat.reduceEqDiff, Nat.reduceMul, Nat.reduceLeDiff, if_true, Zn, reduceCtorEq, ZA, eq_self, Int.reduceLE, Int.reduceLT, Int.reduceToNat, ne_eq, Nat.reduceSub, Tby2, Tslc47, Tslce47, Tzero2]
    repeat refine And.intro (by omega) ?_
    repeat refine And.intro (by omega) ?_
    intro g
    simp only [List.map_cons, List.map_nil, updL, upd, Nat.reduceEqDiff, if_true, if_false, ↓reduceIte]
    refine hK _ _ ?_; clear hK K
    refine Cd.ret ?_
    simp (maxSteps := 2000000) (disch := first | (simp only [E4] <;> omega) | omega | fail) only [↓E2, E3, bare, bareJ, ↓E0, E1, evP, evPlan, env0, envN, evOps, evOp, evQs, evQ, evV, setD, pureOp, ev, upd, updL, gate, binW, eqOp, binV, intOp, shOp, boolOp, unV, convV, nilV, fieldAddrV, indexAddrV, extractV, cellAt, cellsAt, findB, setB, fillL, buildV, Value.cells, lenV, minV, maxV, hav, sliceV, loV, hiV, bslQ, mksQ, appQ, partsOk, partsCells, delB, eqL, SameI, strOp, apzQ, cvtQ, capV, ↓reduceIte, Zj, Zk, Nat.reduceAdd, Nat.reduceLT, Nat.reduceEqDiff, Nat.reduceMul, Nat.reduceLeDiff, if_true, Zn, reduceCtorEq, ZA, eq_self, Int.reduceLE, Int.reduceLT, Int.reduceToNat, ne_eq, Nat.reduceSub]
    repeat refine And.intro (by omega) ?_
    exact ⟨_, SubP.refl _, SlN.row (Row.nil 1)⟩
  · refine GivesX.of (callable_of Try.func190 rfl (by decide)) ?_ fun w hnd hlt hR => ?_
    · simp
    refine acall_of (N := 6) (c := _) (rs := [.tmp 2]) (args := [_]) Try.func190 rfl (by decide) rfl rfl (Nat.le_of_ble_eq_true rfl) ?_
    have hR : W8.Told [] w R := hR
    refine Cd.rs [0] fun K hK => ?_
    simp (maxSteps := 2000000) (disch := first | (simp only [E4] <;> omega) | omega | fail) only [↓E2, E3, bare, bareJ, ↓E0, E1, evP, evPlan, env0, envN, evOps, evOp, evQs, evQ, evV, setD, pureOp, ev, upd, updL, gate, binW, eqOp, binV, intOp, shOp, boolOp, unV, convV, nilV, fieldAddrV, indexAddrV, extractV, cellAt, cellsAt, findB, setB, fillL, buildV, Value.cells, lenV, minV, maxV, hav, sliceV, loV, hiV, bslQ, mksQ, appQ, partsOk, partsCells, delB, eqL, SameI, strOp, apzQ, cvtQ, capV, ↓reduceIte, Zj, Zk, Nat.reduceAdd, Nat.reduceLT, Nat.reduceEqDiff, Nat.reduceMul, Nat.reduceLeDiff, if_true, Zn, reduceCtorEq, ZA, eq_self, Int.reduceLE, Int.reduceLT, Int.reduceToNat, ne_eq, Nat.reduceSub]
    repeat refine And.intro (by omega) ?_
    repeat refine And.intro (by omega) ?_
    intro g
    simp only [List.map_cons, List.map_nil, updL, upd, Nat.reduceEqDiff, if_true, if_false, ↓reduceIte]
    refine hK _ _ ?_; clear hK K
    refine Cd.rs [2] fun K hK => ?_
    by_cases hn : l = []
    · subst hn
      obtain rfl := h0 rfl
      have mz : ∀ f : Nat → Option Value, (List.range 0).mapM f = some [] := fun _ => rfl
      have sz : subL [] 0 0 = [] := rfl
      skip
      simp (maxSteps := 2000000) (disch := first | (simp only [E4, mz, sz] <;> omega) | omega | fail) only [↓E2, E3, bare, bareJ, ↓E0, E1, evP, evPlan, env0, envN, evOps, evOp, evQs, evQ, evV, setD, pureOp, ev, upd, updL, gate, binW, eqOp, binV, intOp, shOp, boolOp, unV, convV, nilV, fieldAddrV, indexAddrV, extractV, cellAt, cellsAt, findB, setB, fillL, buildV, Value.cells, lenV, minV, maxV, hav, sliceV, loV, hiV, bslQ, mksQ, appQ, partsOk, partsCells, delB, eqL, SameI, strOp, apzQ, cvtQ, capV, ↓reduceIte, Zj, Zk, Nat.reduceAdd, Nat.reduceLT, Nat.reduceEqDiff, Nat.reduceMul, Nat.reduceLeDiff, if_true, Zn, reduceCtorEq, ZA, eq_self, Int.reduceLE, Int.reduceLT, Int.reduceToNat, ne_eq, Nat.reduceSub, Tby2, Tslc47, Tslce47, Tzero2, mz, sz]
      repeat refine And.intro (by omega) ?_
      intro b1 hb1
      by_cases e : b1 = b
      all_goals
        skip
        simp (maxSteps := 2000000) (disch := first | (simp only [E4, mz, sz, e] <;> omega) | omega | fail) only [↓E2, E3, bare, bareJ, ↓E0, E1, evP, evPlan, env0, envN, evOps, evOp, evQs, evQ, evV, setD, pureOp, ev, upd, updL, gate, binW, eqOp, binV, intOp, shOp, boolOp, unV, convV, nilV, fieldAddrV, indexAddrV, extractV, cellAt, cellsAt, findB, setB, fillL, buildV, Value.cells, lenV, minV, maxV, hav, sliceV, loV, hiV, bslQ, mksQ, appQ, partsOk, partsCells, delB, eqL, SameI, strOp, apzQ, cvtQ, capV, ↓reduceIte, Zj, Zk, Nat.reduceAdd, Nat.reduceLT, Nat.reduceEqDiff, Nat.reduceMul, Nat.reduceLeDiff, if_true, Zn, reduceCtorEq, ZA, eq_self, Int.reduceLE, Int.reduceLT, Int.reduceToNat, ne_eq, Nat.reduceSub, Tby2, Tslc47, Tslce47, Tzero2, mz, sz, e]
        repeat refine And.intro (by omega) ?_
        intro b' cap' rest' hf hr'
        repeat refine And.intro (by omega) ?_
        intro g
        simp only [List.map_cons, List.map_nil, updL, upd, Nat.reduceEqDiff, if_true, if_false, ↓reduceIte]
        refine hK _ _ ?_; clear hK K
        refine Cd.ret ?_
        simp (maxSteps := 2000000) (disch := first | (simp only [E4, mz, sz, e] <;> omega) | omega | fail) only [↓E2, E3, bare, bareJ, ↓E0, E1, evP, evPlan, env0, envN, evOps, evOp, evQs, evQ, evV, setD, pureOp, ev, upd, updL, gate, binW, eqOp, binV, intOp, shOp, boolOp, unV, convV, nilV, fieldAddrV, indexAddrV, extractV, cellAt, cellsAt, findB, setB, fillL, buildV, Value.cells, lenV, minV, maxV, hav, sliceV, loV, hiV, bslQ, mksQ, appQ, partsOk, partsCells, delB, eqL, SameI, strOp, apzQ, cvtQ, capV, ↓reduceIte, Zj, Zk, Nat.reduceAdd, Nat.reduceLT, Nat.reduceEqDiff, Nat.reduceMul, Nat.reduceLeDiff, if_true, Zn, reduceCtorEq, ZA, eq_self, Int.reduceLE, Int.reduceLT, Int.reduceToNat, ne_eq, Nat.reduceSub, mz, sz, e]
        repeat refine And.intro (by omega) ?_
        exact ⟨_, SubP.refl _, SlN.row ⟨rfl, Nat.zero_le _, by simpa using hr', rest', rfl⟩⟩
    · have tr := told_range (h1 hn) hR
      have hb0 := hR _ (h1 hn) 0 (.int .i64 (l.getD 0 0)) (ints_get (by cases l with | nil => exact absurd rfl hn | cons a l => simp))
      skip
      simp (maxSteps := 2000000) (disch := first | (simp only [E4, tr] <;> omega) | omega | fail) only [↓E2, E3, bare, bareJ, ↓E0, E1, evP, evPlan, env0, envN, evOps, evOp, evQs, evQ, evV, setD, pureOp, ev, upd, updL, gate, binW, eqOp, binV, intOp, shOp, boolOp, unV, convV, nilV, fieldAddrV, indexAddrV, extractV, cellAt, cellsAt, findB, setB, fillL, buildV, Value.cells, lenV, minV, maxV, hav, sliceV, loV, hiV, bslQ, mksQ, appQ, partsOk, partsCells, delB, eqL, SameI, strOp, apzQ, cvtQ, capV, ↓reduceIte, Zj, Zk, Nat.reduceAdd, Nat.reduceLT, Nat.reduceEqDiff, Nat.reduceMul, Nat.reduceLeDiff, if_true, Zn, reduceCtorEq, ZA, eq_self, Int.reduceLE, Int.reduceLT, Int.reduceToNat, ne_eq, Nat.reduceSub, Tby2, Tslc47, Tslce47, Tzero2, tr]
      repeat refine And.intro (by omega) ?_
      intro b1 hb1
      have n1 : ¬ b1 = b := told_ne hb1 hb0
      skip
      simp (maxSteps := 2000000) (disch := first | (simp only [E4, tr, n1] <;> omega) | omega | fail) only [↓E2, E3, bare, bareJ, ↓E0, E1, evP, evPlan, env0, envN, evOps, evOp, evQs, evQ, evV, setD, pureOp, ev, upd, updL, gate, binW, eqOp, binV, intOp, shOp, boolOp, unV, convV, nilV, fieldAddrV, indexAddrV, extractV, cellAt, cellsAt, findB, setB, fillL, buildV, Value.cells, lenV, minV, maxV, hav, sliceV, loV, hiV, bslQ, mksQ, appQ, partsOk, partsCells, delB, eqL, SameI, strOp, apzQ, cvtQ, capV, ↓reduceIte, Zj, Zk, Nat.reduceAdd, Nat.reduceLT, Nat.reduceEqDiff, Nat.reduceMul, Nat.reduceLeDiff, if_true, Zn, reduceCtorEq, ZA, eq_self, Int.reduceLE, Int.reduceLT, Int.reduceToNat, ne_eq, Nat.reduceSub, Tby2, Tslc47, Tslce47, Tzero2, tr, n1]
      repeat refine And.intro (by omega) ?_
      intro b' cap' rest' hf hc hr'
      repeat refine And.intro (by omega) ?_
      intro g
      simp only [List.map_cons, List.map_nil, updL, upd, Nat.reduceEqDiff, if_true, if_false, ↓reduceIte]
      refine hK _ _ ?_; clear hK K
      refine Cd.drop (M' := [(b', ints .i64 l ++ rest')]) (List.Sublist.cons_cons _ (List.nil_sublist _)) ?_
      refine Cd.ret ?_
      simp (maxSteps := 2000000) (disch := first | (simp only [E4, tr, n1] <;> omega) | omega | fail) only [↓E2, E3, bare, bareJ, ↓E0, E1, evP, evPlan, env0, envN, evOps, evOp, evQs, evQ, evV, setD, pureOp, ev, upd, updL, gate, binW, eqOp, binV, intOp, shOp, boolOp, unV, convV, nilV, fieldAddrV, indexAddrV, extractV, cellAt, cellsAt, findB, setB, fillL, buildV, Value.cells, lenV, minV, maxV, hav, sliceV, loV, hiV, bslQ, mksQ, appQ, partsOk, partsCells, delB, eqL, SameI, strOp, apzQ, cvtQ, capV, ↓reduceIte, Zj, Zk, Nat.reduceAdd, Nat.reduceLT, Nat.reduceEqDiff, Nat.reduceMul, Nat.reduceLeDiff, if_true, Zn, reduceCtorEq, ZA, eq_self, Int.reduceLE, Int.reduceLT, Int.reduceToNat, ne_eq, Nat.reduceSub, tr, n1]
      repeat refine And.intro (by omega) ?_
      exact ⟨_, SubP.refl _, SlN.row (Row.first (by rw [ints_length, Nat.mul_one]) hc (by omega))⟩

theorem Clone_c (l : List Int) (R : Rd) (v : Value) (h : RdO R l v) (hb : l.length ≤ 100000000) : GivesX Try.prog 130 #[v] [] R (SlN 1 (ints .i64 l)) := by
  refine GivesX.part ?_
  rcases h with ⟨rfl, cap, rfl⟩ | ⟨b, o, cap, rfl, h0, h1⟩
  · refine GivesX.of (callable_of Try.func130 rfl (by decide)) ?_ fun w hnd hlt hR => ?_
    · simp
    refine acall_of (N := 8) (c := _) (rs := [.tmp 2]) (args := [_]) Try.func130 rfl (by decide) rfl rfl (Nat.le_of_ble_eq_true rfl) ?_
    refine Cd.rs [0] fun K hK => ?_
    simp (maxSteps := 2000000) (disch := first | (simp only [E4] <;> omega) | omega | fail) only [↓E2, E3, bare, bareJ, ↓E0, E1, evP, evPlan, env0, envN, evOps, evOp, evQs, evQ, evV, setD, pureOp, ev, upd, updL, gate, binW, eqOp, binV, intOp, shOp, boolOp, unV, convV, nilV, fieldAddrV, indexAddrV, extractV, cellAt, cellsAt, findB, setB, fillL, buildV, Value.cells, lenV, minV, maxV, hav, sliceV, loV, hiV, bslQ, mksQ, appQ, partsOk, partsCells, delB, eqL, SameI, strOp, apzQ, cvtQ, capV, ↓reduceIte, Zj, Zk, Nat.reduceAdd, Nat.reduceLT, Nat.reduceEqDiff, Nat.reduceMul, Nat.reduceLeDiff, if_true, Zn, reduceCtorEq, ZA, eq_self, Int.reduceLE, Int.reduceLT, Int.reduceToNat, ne_eq, Nat.reduceSub]
    repeat refine And.intro (by omega) ?_
    repeat refine And.intro (by omega) ?_
    intro g
    simp only [List.map_cons, List.map_nil, updL, upd, Nat.reduceEqDiff, if_true, if_false, ↓reduceIte]
    refine hK _ _ ?_; clear hK K
    refine Cd.seq ?_
    refine Cd.rs [0, 4] fun K hK => ?_
    simp (maxSteps := 2000000) (disch := first | (simp only [E4] <;> omega) | omega | fail) only [↓E2, E3, bare, bareJ, ↓E0, E1, evP, evPlan, env0, envN, evOps, evOp, evQs, evQ, evV, setD, pureOp, ev, upd, updL, gate, binW, eqOp, binV, intOp, shOp, boolOp, unV, convV, nilV, fieldAddrV, indexAddrV, extractV, cellAt, cellsAt, findB, setB, fillL, buildV, Value.cells, lenV, minV, maxV, hav, sliceV, loV, hiV, bslQ, mksQ, appQ, partsOk, partsCells, delB, eqL, SameI, strOp, apzQ, cvtQ, capV, ↓reduceIte, Zj, Zk, Nat.reduceAdd, Nat.reduceLT, Nat.reduceEqDiff, Nat.reduceMul, Nat.reduceLeDiff, if_true, Zn, reduceCtorEq, ZA, eq_self, Int.reduceLE, Int.reduceLT, Int.reduceToNat, ne_eq, Nat.reduceSub, Tslce47]
    repeat refine And.intro (by omega) ?_
    repeat refine And.intro (by omega) ?_
    intro g
    simp only [List.map_cons, List.map_nil, updL, upd, Nat.reduceEqDiff, if_true, if_false, ↓reduceIte]
    refine hK _ _ ?_; clear hK K
    refine Cd.yes rfl ?_
    refine Cd.rs [2] fun K hK => ?_
    simp (maxSteps := 2000000) (disch := first | (simp only [E4] <;> omega) | omega | fail) only [↓E2, E3, bare, bareJ, ↓E0, E1, evP, evPlan, env0, envN, evOps, evOp, evQs, evQ, evV, setD, pureOp, ev, upd, updL, gate, binW, eqOp, binV, intOp, shOp, boolOp, unV, convV, nilV, fieldAddrV, indexAddrV, extractV, cellAt, cellsAt, findB, setB, fillL, buildV, Value.cells, lenV, minV, maxV, hav, sliceV, loV, hiV, bslQ, mksQ, appQ, partsOk, partsCells, delB, eqL, SameI, strOp, apzQ, cvtQ, capV, ↓reduceIte, Zj, Zk, Nat.reduceAdd, Nat.reduceLT, Nat.reduceEqDiff, Nat.reduceMul, Nat.reduceLeDiff, if_true, Zn, reduceCtorEq, ZA, eq_self, Int.reduceLE, Int.reduceLT, Int.reduceToNat, ne_eq, Nat.reduceSub]
    repeat refine And.intro (by omega) ?_
    repeat refine And.intro (by omega) ?_
    intro g
    simp only [List.map_cons, List.map_nil, updL, upd, Nat.reduceEqDiff, if_true, if_false, ↓reduceIte]
    refine hK _ _ ?_; clear hK K
    refine Cd.ret (thenR ?_)
    simp (maxSteps := 2000000) (disch := first | (simp only [E4] <;> omega) | omega | fail) only [↓E2, E3, bare, bareJ, ↓E0, E1, evP, evPlan, env0, envN, evOps, evOp, evQs, evQ, evV, setD, pureOp, ev, upd, updL, gate, binW, eqOp, binV, intOp, shOp, boolOp, unV, convV, nilV, fieldAddrV, indexAddrV, extractV, cellAt, cellsAt, findB, setB, fillL, buildV, Value.cells, lenV, minV, maxV, hav, sliceV, loV, hiV, bslQ, mksQ, appQ, partsOk, partsCells, delB, eqL, SameI, strOp, apzQ, cvtQ, capV, ↓reduceIte, Zj, Zk, Nat.reduceAdd, Nat.reduceLT, Nat.reduceEqDiff, Nat.reduceMul, Nat.reduceLeDiff, if_true, Zn, reduceCtorEq, ZA, eq_self, Int.reduceLE, Int.reduceLT, Int.reduceToNat, ne_eq, Nat.reduceSub]
    repeat refine And.intro (by omega) ?_
    exact ⟨_, SubP.refl _, SlN.nil 1⟩
  · refine GivesX.of (callable_of Try.func130 rfl (by decide)) ?_ fun w hnd hlt hR => ?_
    · simp
    refine acall_of (N := 8) (c := _) (rs := [.tmp 2]) (args := [_]) Try.func130 rfl (by decide) rfl rfl (Nat.le_of_ble_eq_true rfl) ?_
    have hR : W8.Told [] w R := hR
    refine Cd.rs [0] fun K hK => ?_
    simp (maxSteps := 2000000) (disch := first | (simp only [E4] <;> omega) | omega | fail) only [↓E2, E3, bare, bareJ, ↓E0, E1, evP, evPlan, env0, envN, evOps, evOp, evQs, evQ, evV, setD, pureOp, ev, upd, updL, gate, binW, eqOp, binV, intOp, shOp, boolOp, unV, convV, nilV, fieldAddrV, indexAddrV, extractV, cellAt, cellsAt, findB, setB, fillL, buildV, Value.cells, lenV, minV, maxV, hav, sliceV, loV, hiV, bslQ, mksQ, appQ, partsOk, partsCells, delB, eqL, SameI, strOp, apzQ, cvtQ, capV, ↓reduceIte, Zj, Zk, Nat.reduceAdd, Nat.reduceLT, Nat.reduceEqDiff, Nat.reduceMul, Nat.reduceLeDiff, if_true, Zn, reduceCtorEq, ZA, eq_self, Int.reduceLE, Int.reduceLT, Int.reduceToNat, ne_eq, Nat.reduceSub]
    repeat refine And.intro (by omega) ?_
    repeat refine And.intro (by omega) ?_
    intro g
    simp only [List.map_cons, List.map_nil, updL, upd, Nat.reduceEqDiff, if_true, if_false, ↓reduceIte]
    refine hK _ _ ?_; clear hK K
    refine Cd.seq ?_
    refine Cd.rs [0, 4] fun K hK => ?_
    simp (maxSteps := 2000000) (disch := first | (simp only [E4] <;> omega) | omega | fail) only [↓E2, E3, bare, bareJ, ↓E0, E1, evP, evPlan, env0, envN, evOps, evOp, evQs, evQ, evV, setD, pureOp, ev, upd, updL, gate, binW, eqOp, binV, intOp, shOp, boolOp, unV, convV, nilV, fieldAddrV, indexAddrV, extractV, cellAt, cellsAt, findB, setB, fillL, buildV, Value.cells, lenV, minV, maxV, hav, sliceV, loV, hiV, bslQ, mksQ, appQ, partsOk, partsCells, delB, eqL, SameI, strOp, apzQ, cvtQ, capV, ↓reduceIte, Zj, Zk, Nat.reduceAdd, Nat.reduceLT, Nat.reduceEqDiff, Nat.reduceMul, Nat.reduceLeDiff, if_true, Zn, reduceCtorEq, ZA, eq_self, Int.reduceLE, Int.reduceLT, Int.reduceToNat, ne_eq, Nat.reduceSub, Tslce47]
    repeat refine And.intro (by omega) ?_
    repeat refine And.intro (by omega) ?_
    intro g
    simp only [List.map_cons, List.map_nil, updL, upd, Nat.reduceEqDiff, if_true, if_false, ↓reduceIte]
    refine hK _ _ ?_; clear hK K
    refine Cd.no rfl ?_
    refine Cd.skip ?_
    refine thenN ?_
    refine Cd.rs [2] fun K hK => ?_
    by_cases hn : l = []
    · subst hn
      obtain rfl := h0 rfl
      have mz : ∀ f : Nat → Option Value, (List.range 0).mapM f = some [] := fun _ => rfl
      have sz : subL [] 0 0 = [] := rfl
      skip
      simp (maxSteps := 2000000) (disch := first | (simp only [E4, mz, sz] <;> omega) | omega | fail) only [↓E2, E3, bare, bareJ, ↓E0, E1, evP, evPlan, env0, envN, evOps, evOp, evQs, evQ, evV, setD, pureOp, ev, upd, updL, gate, binW, eqOp, binV, intOp, shOp, boolOp, unV, convV, nilV, fieldAddrV, indexAddrV, extractV, cellAt, cellsAt, findB, setB, fillL, buildV, Value.cells, lenV, minV, maxV, hav, sliceV, loV, hiV, bslQ, mksQ, appQ, partsOk, partsCells, delB, eqL, SameI, strOp, apzQ, cvtQ, capV, ↓reduceIte, Zj, Zk, Nat.reduceAdd, Nat.reduceLT, Nat.reduceEqDiff, Nat.reduceMul, Nat.reduceLeDiff, if_true, Zn, reduceCtorEq, ZA, eq_self, Int.reduceLE, Int.reduceLT, Int.reduceToNat, ne_eq, Nat.reduceSub, Tby2, Tslc47, Tslce47, Tzero2, mz, sz]
      repeat refine And.intro (by omega) ?_
      intro b1 hb1
      by_cases e : b1 = b
      all_goals
        skip
        simp (maxSteps := 2000000) (disch := first | (simp only [E4, mz, sz, e] <;> omega) | omega | fail) only [↓E2, E3, bare, bareJ, ↓E0, E1, evP, evPlan, env0, envN, evOps, evOp, evQs, evQ, evV, setD, pureOp, ev, upd, updL, gate, binW, eqOp, binV, intOp, shOp, boolOp, unV, convV, nilV, fieldAddrV, indexAddrV, extractV, cellAt, cellsAt, findB, setB, fillL, buildV, Value.cells, lenV, minV, maxV, hav, sliceV, loV, hiV, bslQ, mksQ, appQ, partsOk, partsCells, delB, eqL, SameI, strOp, apzQ, cvtQ, capV, ↓reduceIte, Zj, Zk, Nat.reduceAdd, Nat.reduceLT, Nat.reduceEqDiff, Nat.reduceMul, Nat.reduceLeDiff, if_true, Zn, reduceCtorEq, ZA, eq_self, Int.reduceLE, Int.reduceLT, Int.reduceToNat, ne_eq, Nat.reduceSub, Tby2, Tslc47, Tslce47, Tzero2, mz, sz, e]
        repeat refine And.intro (by omega) ?_
        intro b' cap' rest' hf hr'
        repeat refine And.intro (by omega) ?_
        intro g
        simp only [List.map_cons, List.map_nil, updL, upd, Nat.reduceEqDiff, if_true, if_false, ↓reduceIte]
        refine hK _ _ ?_; clear hK K
        refine Cd.ret ?_
        simp (maxSteps := 2000000) (disch := first | (simp only [E4, mz, sz, e] <;> omega) | omega | fail) only [↓E2, E3, bare, bareJ, ↓E0, E1, evP, evPlan, env0, envN, evOps, evOp, evQs, evQ, evV, setD, pureOp, ev, upd, updL, gate, binW, eqOp, binV, intOp, shOp, boolOp, unV, convV, nilV, fieldAddrV, indexAddrV, extractV, cellAt, cellsAt, findB, setB, fillL, buildV, Value.cells, lenV, minV, maxV, hav, sliceV, loV, hiV, bslQ, mksQ, appQ, partsOk, partsCells, delB, eqL, SameI, strOp, apzQ, cvtQ, capV, ↓reduceIte, Zj, Zk, Nat.reduceAdd, Nat.reduceLT, Nat.reduceEqDiff, Nat.reduceMul, Nat.reduceLeDiff, if_true, Zn, reduceCtorEq, ZA, eq_self, Int.reduceLE, Int.reduceLT, Int.reduceToNat, ne_eq, Nat.reduceSub, mz, sz, e]
        repeat refine And.intro (by omega) ?_
        exact ⟨_, SubP.refl _, SlN.row ⟨rfl, Nat.zero_le _, by simpa using hr', rest', rfl⟩⟩
    · have tr := told_range (h1 hn) hR
      have hb0 := hR _ (h1 hn) 0 (.int .i64 (l.getD 0 0)) (ints_get (by cases l with | nil => exact absurd rfl hn | cons a l => simp))
      skip
      simp (maxSteps := 2000000) (disch := first | (simp only [E4, tr] <;> omega) | omega | fail) only [↓E2, E3, bare, bareJ, ↓E0, E1, evP, evPlan, env0, envN, evOps, evOp, evQs, evQ, evV, setD, pureOp, ev, upd, updL, gate, binW, eqOp, binV, intOp, shOp, boolOp, unV, convV, nilV, fieldAddrV, indexAddrV, extractV, cellAt, cellsAt, findB, setB, fillL, buildV, Value.cells, lenV, minV, maxV, hav, sliceV, loV, hiV, bslQ, mksQ, appQ, partsOk, partsCells, delB, eqL, SameI, strOp, apzQ, cvtQ, capV, ↓reduceIte, Zj, Zk, Nat.reduceAdd, Nat.reduceLT, Nat.reduceEqDiff, Nat.reduceMul, Nat.reduceLeDiff, if_true, Zn, reduceCtorEq, ZA, eq_self, Int.reduceLE, Int.reduceLT, Int.reduceToNat, ne_eq, Nat.reduceSub, Tby2, Tslc47, Tslce47, Tzero2, tr]
      repeat refine And.intro (by omega) ?_
      intro b1 hb1
      have n1 : ¬ b1 = b := told_ne hb1 hb0
      skip
      simp (maxSteps := 2000000) (disch := first | (simp only [E4, tr, n1] <;> omega) | omega | fail) only [↓E2, E3, bare, bareJ, ↓E0, E1, evP, evPlan, env0, envN, evOps, evOp, evQs, evQ, evV, setD, pureOp, ev, upd, updL, gate, binW, eqOp, binV, intOp, shOp, boolOp, unV, convV, nilV, fieldAddrV, indexAddrV, extractV, cellAt, cellsAt, findB, setB, fillL, buildV, Value.cells, lenV, minV, maxV, hav, sliceV, loV, hiV, bslQ, mksQ, appQ, partsOk, partsCells, delB, eqL, SameI, strOp, apzQ, cvtQ, capV, ↓reduceIte, Zj, Zk, Nat.reduceAdd, Nat.reduceLT, Nat.reduceEqDiff, Nat.reduceMul, Nat.reduceLeDiff, if_true, Zn, reduceCtorEq, ZA, eq_self, Int.reduceLE, Int.reduceLT, Int.reduceToNat, ne_eq, Nat.reduceSub, Tby2, Tslc47, Tslce47, Tzero2, tr, n1]
      repeat refine And.intro (by omega) ?_
      intro b' cap' rest' hf hc hr'
      repeat refine And.intro (by omega) ?_
      intro g
      simp only [List.map_cons, List.map_nil, updL, upd, Nat.reduceEqDiff, if_true, if_false, ↓reduceIte]
      refine hK _ _ ?_; clear hK K
      refine Cd.drop (M' := [(b', ints .i64 l ++ rest')]) (List.Sublist.cons_cons _ (List.nil_sublist _)) ?_
      refine Cd.ret ?_
      simp (maxSteps := 2000000) (disch := first | (simp only [E4, tr, n1] <;> omega) | omega | fail) only [↓E2, E3, bare, bareJ, ↓E0, E1, evP, evPlan, env0, envN, evOps, evOp, evQs, evQ, evV, setD, pureOp, ev, upd, updL, gate, binW, eqOp, binV, intOp, shOp, boolOp, unV, convV, nilV, fieldAddrV, indexAddrV, extractV, cellAt, cellsAt, findB, setB, fillL, buildV, Value.cells, lenV, minV, maxV, hav, sliceV, loV, hiV, bslQ, mksQ, appQ, partsOk, partsCells, delB, eqL, SameI, strOp, apzQ, cvtQ, capV, ↓reduceIte, Zj, Zk, Nat.reduceAdd, Nat.reduceLT, Nat.reduceEqDiff, Nat.reduceMul, Nat.reduceLeDiff, if_true, Zn, reduceCtorEq, ZA, eq_self, Int.reduceLE, Int.reduceLT, Int.reduceToNat, ne_eq, Nat.reduceSub, tr, n1]
      repeat refine And.intro (by omega) ?_
      exact ⟨_, SubP.refl _, SlN.row (Row.first (by rw [ints_length, Nat.mul_one]) hc (by omega))⟩
section
variable (low : Int) (l : List Int) (R : Rd) (v : Value) (h : RdS R 1 (ints .i64 l) v) (hb : l.length ≤ 1000000) (wl : -1000000 ≤ low ∧ low ≤ 1000000)
include h hb wl
theorem l04Trim_c : GivesX Try.prog 168 #[.int .i64 low, v] [] R (LauV (trimLow low l) (trimL l)) := by
  obtain ⟨a, m, cap, rfl, hm, _⟩ := id h
  obtain rfl := lauLen hm
  refine GivesX.part ?_
  refine GivesX.of (callable_of Try.func168 rfl (by decide)) ?_ fun w hnd hlt hR => ?_
  · simp
  refine acall_of (N := 46) (c := _) (rs := [.cell 4 56]) (args := [_, _]) Try.func168 rfl (by decide) rfl rfl (Nat.le_of_ble_eq_true rfl) ?_
  have hR : W8.Told [] w R := hR
  refine Cd.rs [0, 1, 4] fun K hK => ?_
  simp (maxSteps := 2000000) (disch := first | (simp only [E4] <;> omega) | omega | fail) only [↓E2, E3, bare, bareJ, ↓E0, E1, evP, evPlan, env0, envN, evOps, evOp, evQs, evQ, evV, setD, pureOp, ev, upd, updL, gate, binW, eqOp, binV, intOp, shOp, boolOp, unV, convV, nilV, fieldAddrV, indexAddrV, extractV, cellAt, cellsAt, findB, setB, fillL, buildV, Value.cells, lenV, minV, maxV, hav, sliceV, loV, hiV, bslQ, mksQ, appQ, partsOk, partsCells, delB, eqL, SameI, strOp, apzQ, cvtQ, capV, ↓reduceIte, Zj, Zk, Nat.reduceAdd, Nat.reduceLT, Nat.reduceEqDiff, Nat.reduceMul, Nat.reduceLeDiff, if_true, Zn, reduceCtorEq, ZA, eq_self, Int.reduceLE, Int.reduceLT, Int.reduceToNat, ne_eq, Nat.reduceSub, Tzero56]
  repeat refine And.intro (by omega) ?_
  intro b1 hb1
  try simp (maxSteps := 2000000) (disch := first | (simp only [E4] <;> omega) | omega | fail) only [↓E2, E3, bare, bareJ, ↓E0, E1, evP, evPlan, env0, envN, evOps, evOp, evQs, evQ, evV, setD, pureOp, ev, upd, updL, gate, binW, eqOp, binV, intOp, shOp, boolOp, unV, convV, nilV, fieldAddrV, indexAddrV, extractV, cellAt, cellsAt, findB, setB, fillL, buildV, Value.cells, lenV, minV, maxV, hav, sliceV, loV, hiV, bslQ, mksQ, appQ, partsOk, partsCells, delB, eqL, SameI, strOp, apzQ, cvtQ, capV, ↓reduceIte, Zj, Zk, Nat.reduceAdd, Nat.reduceLT, Nat.reduceEqDiff, Nat.reduceMul, Nat.reduceLeDiff, if_true, Zn, reduceCtorEq, ZA, eq_self, Int.reduceLE, Int.reduceLT, Int.reduceToNat, ne_eq, Nat.reduceSub, Tzero56]
  repeat refine And.intro (by omega) ?_
  repeat refine And.intro (by omega) ?_
  intro g
  simp only [List.map_cons, List.map_nil, updL, upd, Nat.reduceEqDiff, if_true, if_false, ↓reduceIte]
  refine hK _ _ ?_; clear hK K
  refine Cd.rs [0, 1, 4, 5, 6] fun K hK => ?_
  simp (maxSteps := 2000000) (disch := first | (simp only [E4] <;> omega) | omega | fail) only [↓E2, E3, bare, bareJ, ↓E0, E1, evP, evPlan, env0, envN, evOps, evOp, evQs, evQ, evV, setD, pureOp, ev, upd, updL, gate, binW, eqOp, binV, intOp, shOp, boolOp, unV, convV, nilV, fieldAddrV, indexAddrV, extractV, cellAt, cellsAt, findB, setB, fillL, buildV, Value.cells, lenV, minV, maxV, hav, sliceV, loV, hiV, bslQ, mksQ, appQ, partsOk, partsCells, delB, eqL, SameI, strOp, apzQ, cvtQ, capV, ↓reduceIte, Zj, Zk, Nat.reduceAdd, Nat.reduceLT, Nat.reduceEqDiff, Nat.reduceMul, Nat.reduceLeDiff, if_true, Zn, reduceCtorEq, ZA, eq_self, Int.reduceLE, Int.reduceLT, Int.reduceToNat, ne_eq, Nat.reduceSub, Tslce47]
  repeat refine And.intro (by omega) ?_
  repeat refine And.intro (by omega) ?_
  intro g
  simp only [List.map_cons, List.map_nil, updL, upd, Nat.reduceEqDiff, if_true, if_false, ↓reduceIte]
  refine hK _ _ ?_; clear hK K
  refine Cd.seq ?_
  refine Cd.block ?_
  refine Cd.loop (fun t ρ M => ∃ g, t ≤ l.length ∧ trEnd l t = trE l ∧ ρ = updL [(0, .int .i64 low), (1, .slice a l.length cap), (4, .pointer (some ⟨b1, 0, none⟩)), (5, .int .i64 0), (6, .int .i64 (t : Int))] g ∧ M = [(b1, [.int .i64 0, .slice none 0 0])]) l.length ⟨_, Nat.le_refl _, rfl, rfl, rfl⟩ ?_
  rintro t ρ M ⟨g, ht, he, rfl, rfl⟩
  refine Cd.seq ?_
  refine Cd.rs [0, 1, 4, 5, 6, 18] fun K hK => ?_
  simp (maxSteps := 2000000) (disch := first | (simp only [E4] <;> omega) | omega | fail) only [↓E2, E3, bare, bareJ, ↓E0, E1, evP, evPlan, env0, envN, evOps, evOp, evQs, evQ, evV, setD, pureOp, ev, upd, updL, gate, binW, eqOp, binV, intOp, shOp, boolOp, unV, convV, nilV, fieldAddrV, indexAddrV, extractV, cellAt, cellsAt, findB, setB, fillL, buildV, Value.cells, lenV, minV, maxV, hav, sliceV, loV, hiV, bslQ, mksQ, appQ, partsOk, partsCells, delB, eqL, SameI, strOp, apzQ, cvtQ, capV, ↓reduceIte, Zj, Zk, Nat.reduceAdd, Nat.reduceLT, Nat.reduceEqDiff, Nat.reduceMul, Nat.reduceLeDiff, if_true, Zn, reduceCtorEq, ZA, eq_self, Int.reduceLE, Int.reduceLT, Int.reduceToNat, ne_eq, Nat.reduceSub, Tld2, Tslc47]
  repeat refine And.intro (by omega) ?_
  apply guardX_and 6 [12, 13, 14, 15, 16, 17] (j := 2) (d := 11) (tp := 18) (tl := 17) (x := l.getD (t - 1) 0 == 0) rfl rfl rfl rfl rfl
  · intro hq
    simp only [decide_eq_true_eq, decide_eq_false_iff_not, beq_iff_eq, beq_eq_false_iff_ne, bne_iff_ne, bne_eq_false_iff_eq, Bool.and_eq_true, Bool.or_eq_true, Bool.or_eq_false_iff, Bool.not_eq_true', Bool.not_eq_false', Bool.and_eq_false_imp, ne_eq, gt_iff_lt, ge_iff_le, Int.not_lt, Int.not_le, Classical.not_not] at hq
    obtain ⟨b, rfl, q1⟩ := rd_int h hR (k := t - 1) (by omega)
    have n1 := told_ne hb1 q1
    have e1 : ((t : Int) - 1).toNat = t - 1 := by omega
    skip
    simp (maxSteps := 2000000) (disch := first | (simp only [E4, q1, n1, e1] <;> omega) | omega | fail) only [↓E2, E3, bare, bareJ, ↓E0, E1, evP, evPlan, env0, envN, evOps, evOp, evQs, evQ, evV, setD, pureOp, ev, upd, updL, gate, binW, eqOp, binV, intOp, shOp, boolOp, unV, convV, nilV, fieldAddrV, indexAddrV, extractV, cellAt, cellsAt, findB, setB, fillL, buildV, Value.cells, lenV, minV, maxV, hav, sliceV, loV, hiV, bslQ, mksQ, appQ, partsOk, partsCells, delB, eqL, SameI, strOp, apzQ, cvtQ, capV, ↓reduceIte, Zj, Zk, Nat.reduceAdd, Nat.reduceLT, Nat.reduceEqDiff, Nat.reduceMul, Nat.reduceLeDiff, if_true, Zn, reduceCtorEq, ZA, eq_self, Int.reduceLE, Int.reduceLT, Int.reduceToNat, ne_eq, Nat.reduceSub, Tld2, Tslc47, q1, n1, e1]
    repeat refine And.intro (by omega) ?_
    first | omega | exact rfl
  intro g
  simp (maxSteps := 2000000) (disch := first | (simp only [E4] <;> omega) | omega | fail) only [↓E2, E3, bare, bareJ, ↓E0, E1, evP, evPlan, env0, envN, evOps, evOp, evQs, evQ, evV, setD, pureOp, ev, upd, updL, gate, binW, eqOp, binV, intOp, shOp, boolOp, unV, convV, nilV, fieldAddrV, indexAddrV, extractV, cellAt, cellsAt, findB, setB, fillL, buildV, Value.cells, lenV, minV, maxV, hav, sliceV, loV, hiV, bslQ, mksQ, appQ, partsOk, partsCells, delB, eqL, SameI, strOp, apzQ, cvtQ, capV, ↓reduceIte, Zj, Zk, Nat.reduceAdd, Nat.reduceLT, Nat.reduceEqDiff, Nat.reduceMul, Nat.reduceLeDiff, if_true, Zn, reduceCtorEq, ZA, eq_self, Int.reduceLE, Int.reduceLT, Int.reduceToNat, ne_eq, Nat.reduceSub, Tld2, Tslc47]
  repeat refine And.intro (by omega) ?_
  repeat refine And.intro (by omega) ?_
  intro g
  simp only [List.map_cons, List.map_nil, updL, upd, Nat.reduceEqDiff, if_true, if_false, ↓reduceIte]
  refine hK _ _ ?_; clear hK K
  refine Cd.cond rfl (fun h1 => ?_) (fun h1 => ?_)
  · simp only [decide_eq_true_eq, decide_eq_false_iff_not, beq_iff_eq, beq_eq_false_iff_ne, bne_iff_ne, bne_eq_false_iff_eq, Bool.and_eq_true, Bool.or_eq_true, Bool.or_eq_false_iff, Bool.not_eq_true', Bool.not_eq_false', Bool.and_eq_false_imp, ne_eq, gt_iff_lt, ge_iff_le, Int.not_lt, Int.not_le, Classical.not_not] at h1
    refine Cd.skip ?_
    refine thenN ?_
    refine Cd.block ?_
    refine Cd.rr [0, 1, 4, 5, 6] fun K hK => ?_
    simp (maxSteps := 2000000) (disch := first | (simp only [E4] <;> omega) | omega | fail) only [↓E2, E3, bare, bareJ, ↓E0, E1, evP, evPlan, env0, envN, evOps, evOp, evQs, evQ, evV, setD, pureOp, ev, upd, updL, gate, binW, eqOp, binV, intOp, shOp, boolOp, unV, convV, nilV, fieldAddrV, indexAddrV, extractV, cellAt, cellsAt, findB, setB, fillL, buildV, Value.cells, lenV, minV, maxV, hav, sliceV, loV, hiV, bslQ, mksQ, appQ, partsOk, partsCells, delB, eqL, SameI, strOp, apzQ, cvtQ, capV, ↓reduceIte, Zj, Zk, Nat.reduceAdd, Nat.reduceLT, Nat.reduceEqDiff, Nat.reduceMul, Nat.reduceLeDiff, if_true, Zn, reduceCtorEq, ZA, eq_self, Int.reduceLE, Int.reduceLT, Int.reduceToNat, ne_eq, Nat.reduceSub]
    repeat refine And.intro (by omega) ?_
    repeat refine And.intro (by omega) ?_
    intro g
    simp only [List.map_cons, List.map_nil, updL, upd, Nat.reduceEqDiff, if_true, if_false, ↓reduceIte]
    refine hK _ _ ?_; clear hK K
    refine inBN ?_
    have e0 : ((t : Int) - 1) = ((t - 1 : Nat) : Int) := by omega
    rw [e0]
    refine roundN (m := t - 1) (by omega) ⟨_, by omega, ?_, rfl, rfl⟩
    rw [← he]
    have := trEnd_zero h1.2
    rw [show t - 1 + 1 = t by omega] at this
    exact this.symm
  · have hE : trE l = t := by
      rw [← he]
      rcases Nat.eq_zero_or_pos t with h0 | h0
      · subst h0; rfl
      · have hne : ¬ l.getD (t - 1) 0 = 0 := fun e => by
          rw [e, decide_eq_true (by omega)] at h1
          cases h1
        have := trEnd_one hne
        rw [show t - 1 + 1 = t by omega] at this
        exact this
    clear h1 he
    refine Cd.exit (thenX (roundX (inBX ?_)))
    refine thenN ?_
    refine Cd.seq ?_
    refine Cd.block ?_
    refine Cd.loop (fun d ρ M => ∃ g, d ≤ t ∧ trBeg l t d = trF l ∧ ρ = updL [(0, .int .i64 low), (1, .slice a l.length cap), (4, .pointer (some ⟨b1, 0, none⟩)), (5, .int .i64 ((t - d : Nat) : Int)), (6, .int .i64 (t : Int))] g ∧ M = [(b1, [.int .i64 0, .slice none 0 0])]) t ⟨_, Nat.le_refl _, by unfold trF; rw [hE], by rw [Nat.sub_self]; rfl, rfl⟩ ?_
    rintro d ρ M ⟨g, hd, he, rfl, rfl⟩
    refine Cd.seq ?_
    refine Cd.rs [0, 1, 4, 5, 6, 30] fun K hK => ?_
    simp (maxSteps := 2000000) (disch := first | (simp only [E4] <;> omega) | omega | fail) only [↓E2, E3, bare, bareJ, ↓E0, E1, evP, evPlan, env0, envN, evOps, evOp, evQs, evQ, evV, setD, pureOp, ev, upd, updL, gate, binW, eqOp, binV, intOp, shOp, boolOp, unV, convV, nilV, fieldAddrV, indexAddrV, extractV, cellAt, cellsAt, findB, setB, fillL, buildV, Value.cells, lenV, minV, maxV, hav, sliceV, loV, hiV, bslQ, mksQ, appQ, partsOk, partsCells, delB, eqL, SameI, strOp, apzQ, cvtQ, capV, ↓reduceIte, Zj, Zk, Nat.reduceAdd, Nat.reduceLT, Nat.reduceEqDiff, Nat.reduceMul, Nat.reduceLeDiff, if_true, Zn, reduceCtorEq, ZA, eq_self, Int.reduceLE, Int.reduceLT, Int.reduceToNat, ne_eq, Nat.reduceSub, Tld2, Tslc47]
    repeat refine And.intro (by omega) ?_
    apply guardX_and 5 [25, 26, 27, 28, 29] (j := 3) (d := 24) (tp := 30) (tl := 29) (x := l.getD (t - d) 0 == 0) rfl rfl rfl rfl rfl
    · intro hq
      simp only [decide_eq_true_eq, decide_eq_false_iff_not, beq_iff_eq, beq_eq_false_iff_ne, bne_iff_ne, bne_eq_false_iff_eq, Bool.and_eq_true, Bool.or_eq_true, Bool.or_eq_false_iff, Bool.not_eq_true', Bool.not_eq_false', Bool.and_eq_false_imp, ne_eq, gt_iff_lt, ge_iff_le, Int.not_lt, Int.not_le, Classical.not_not] at hq
      obtain ⟨b, rfl, q1⟩ := rd_int h hR (k := t - d) (by omega)
      have n1 := told_ne hb1 q1
      skip
      simp (maxSteps := 2000000) (disch := first | (simp only [E4, q1, n1] <;> omega) | omega | fail) only [↓E2, E3, bare, bareJ, ↓E0, E1, evP, evPlan, env0, envN, evOps, evOp, evQs, evQ, evV, setD, pureOp, ev, upd, updL, gate, binW, eqOp, binV, intOp, shOp, boolOp, unV, convV, nilV, fieldAddrV, indexAddrV, extractV, cellAt, cellsAt, findB, setB, fillL, buildV, Value.cells, lenV, minV, maxV, hav, sliceV, loV, hiV, bslQ, mksQ, appQ, partsOk, partsCells, delB, eqL, SameI, strOp, apzQ, cvtQ, capV, ↓reduceIte, Zj, Zk, Nat.reduceAdd, Nat.reduceLT, Nat.reduceEqDiff, Nat.reduceMul, Nat.reduceLeDiff, if_true, Zn, reduceCtorEq, ZA, eq_self, Int.reduceLE, Int.reduceLT, Int.reduceToNat, ne_eq, Nat.reduceSub, Tld2, Tslc47, q1, n1]
      repeat refine And.intro (by omega) ?_
      first | omega | exact rfl
    intro g
    simp (maxSteps := 2000000) (disch := first | (simp only [E4] <;> omega) | omega | fail) only [↓E2, E3, bare, bareJ, ↓E0, E1, evP, evPlan, env0, envN, evOps, evOp, evQs, evQ, evV, setD, pureOp, ev, upd, updL, gate, binW, eqOp, binV, intOp, shOp, boolOp, unV, convV, nilV, fieldAddrV, indexAddrV, extractV, cellAt, cellsAt, findB, setB, fillL, buildV, Value.cells, lenV, minV, maxV, hav, sliceV, loV, hiV, bslQ, mksQ, appQ, partsOk, partsCells, delB, eqL, SameI, strOp, apzQ, cvtQ, capV, ↓reduceIte, Zj, Zk, Nat.reduceAdd, Nat.reduceLT, Nat.reduceEqDiff, Nat.reduceMul, Nat.reduceLeDiff, if_true, Zn, reduceCtorEq, ZA, eq_self, Int.reduceLE, Int.reduceLT, Int.reduceToNat, ne_eq, Nat.reduceSub, Tld2, Tslc47]
    repeat refine And.intro (by omega) ?_
    repeat refine And.intro (by omega) ?_
    intro g
    simp only [List.map_cons, List.map_nil, updL, upd, Nat.reduceEqDiff, if_true, if_false, ↓reduceIte]
    refine hK _ _ ?_; clear hK K
    refine Cd.cond rfl (fun h1 => ?_) (fun h1 => ?_)
    · simp only [decide_eq_true_eq, decide_eq_false_iff_not, beq_iff_eq, beq_eq_false_iff_ne, bne_iff_ne, bne_eq_false_iff_eq, Bool.and_eq_true, Bool.or_eq_true, Bool.or_eq_false_iff, Bool.not_eq_true', Bool.not_eq_false', Bool.and_eq_false_imp, ne_eq, gt_iff_lt, ge_iff_le, Int.not_lt, Int.not_le, Classical.not_not] at h1
      refine Cd.skip ?_
      refine thenN ?_
      refine Cd.block ?_
      refine Cd.rr [0, 1, 4, 5, 6] fun K hK => ?_
      simp (maxSteps := 2000000) (disch := first | (simp only [E4] <;> omega) | omega | fail) only [↓E2, E3, bare, bareJ, ↓E0, E1, evP, evPlan, env0, envN, evOps, evOp, evQs, evQ, evV, setD, pureOp, ev, upd, updL, gate, binW, eqOp, binV, intOp, shOp, boolOp, unV, convV, nilV, fieldAddrV, indexAddrV, extractV, cellAt, cellsAt, findB, setB, fillL, buildV, Value.cells, lenV, minV, maxV, hav, sliceV, loV, hiV, bslQ, mksQ, appQ, partsOk, partsCells, delB, eqL, SameI, strOp, apzQ, cvtQ, capV, ↓reduceIte, Zj, Zk, Nat.reduceAdd, Nat.reduceLT, Nat.reduceEqDiff, Nat.reduceMul, Nat.reduceLeDiff, if_true, Zn, reduceCtorEq, ZA, eq_self, Int.reduceLE, Int.reduceLT, Int.reduceToNat, ne_eq, Nat.reduceSub]
      repeat refine And.intro (by omega) ?_
      repeat refine And.intro (by omega) ?_
      intro g
      simp only [List.map_cons, List.map_nil, updL, upd, Nat.reduceEqDiff, if_true, if_false, ↓reduceIte]
      refine hK _ _ ?_; clear hK K
      refine inBN ?_
      have e0 : ((t - d : Nat) : Int) + 1 = ((t - (d - 1) : Nat) : Int) := by omega
      rw [e0]
      refine roundN (m := d - 1) (by omega) ⟨_, by omega, ?_, rfl, rfl⟩
      rw [← he]
      have := trBeg_zero (t := t) (d := d - 1) (l := l) (by rw [show t - (d - 1 + 1) = t - d by omega]; exact h1.2)
      rw [show d - 1 + 1 = d by omega] at this
      exact this.symm
    · have hF : trF l = t - d := by
        rw [← he]
        rcases Nat.eq_zero_or_pos d with h0 | h0
        · subst h0; rfl
        · have hne : ¬ l.getD (t - d) 0 = 0 := fun e => by
            rw [e, decide_eq_true (by omega)] at h1
            cases h1
          have := trBeg_one (t := t) (d := d - 1) (l := l) (by rw [show t - (d - 1 + 1) = t - d by omega]; exact hne)
          rw [show d - 1 + 1 = d by omega] at this
          exact this
      clear h1 he
      refine Cd.exit (thenX (roundX (inBX ?_)))
      refine thenN ?_
      refine Cd.seq ?_
      refine Cd.rs [0, 1, 4, 5, 6, 35] fun K hK => ?_
      simp (maxSteps := 2000000) (disch := first | (simp only [E4] <;> omega) | omega | fail) only [↓E2, E3, bare, bareJ, ↓E0, E1, evP, evPlan, env0, envN, evOps, evOp, evQs, evQ, evV, setD, pureOp, ev, upd, updL, gate, binW, eqOp, binV, intOp, shOp, boolOp, unV, convV, nilV, fieldAddrV, indexAddrV, extractV, cellAt, cellsAt, findB, setB, fillL, buildV, Value.cells, lenV, minV, maxV, hav, sliceV, loV, hiV, bslQ, mksQ, appQ, partsOk, partsCells, delB, eqL, SameI, strOp, apzQ, cvtQ, capV, ↓reduceIte, Zj, Zk, Nat.reduceAdd, Nat.reduceLT, Nat.reduceEqDiff, Nat.reduceMul, Nat.reduceLeDiff, if_true, Zn, reduceCtorEq, ZA, eq_self, Int.reduceLE, Int.reduceLT, Int.reduceToNat, ne_eq, Nat.reduceSub]
      repeat refine And.intro (by omega) ?_
      repeat refine And.intro (by omega) ?_
      intro g
      simp only [List.map_cons, List.map_nil, updL, upd, Nat.reduceEqDiff, if_true, if_false, ↓reduceIte]
      refine hK _ _ ?_; clear hK K
      refine Cd.cond rfl (fun h2 => ?_) (fun h2 => ?_)
      · simp only [decide_eq_true_eq, decide_eq_false_iff_not, beq_iff_eq, beq_eq_false_iff_ne, bne_iff_ne, bne_eq_false_iff_eq, Bool.and_eq_true, Bool.or_eq_true, Bool.or_eq_false_iff, Bool.not_eq_true', Bool.not_eq_false', Bool.and_eq_false_imp, ne_eq, gt_iff_lt, ge_iff_le, Int.not_lt, Int.not_le, Classical.not_not] at h2
        have ez : trF l = trE l := by omega
        refine Cd.rs [4] fun K hK => ?_
        simp (maxSteps := 2000000) (disch := first | (simp only [E4] <;> omega) | omega | fail) only [↓E2, E3, bare, bareJ, ↓E0, E1, evP, evPlan, env0, envN, evOps, evOp, evQs, evQ, evV, setD, pureOp, ev, upd, updL, gate, binW, eqOp, binV, intOp, shOp, boolOp, unV, convV, nilV, fieldAddrV, indexAddrV, extractV, cellAt, cellsAt, findB, setB, fillL, buildV, Value.cells, lenV, minV, maxV, hav, sliceV, loV, hiV, bslQ, mksQ, appQ, partsOk, partsCells, delB, eqL, SameI, strOp, apzQ, cvtQ, capV, ↓reduceIte, Zj, Zk, Nat.reduceAdd, Nat.reduceLT, Nat.reduceEqDiff, Nat.reduceMul, Nat.reduceLeDiff, if_true, Zn, reduceCtorEq, ZA, eq_self, Int.reduceLE, Int.reduceLT, Int.reduceToNat, ne_eq, Nat.reduceSub, Tbld56, Tst56]
        repeat refine And.intro (by omega) ?_
        repeat refine And.intro (by omega) ?_
        intro g
        simp only [List.map_cons, List.map_nil, updL, upd, Nat.reduceEqDiff, if_true, if_false, ↓reduceIte]
        refine hK _ _ ?_; clear hK K
        refine Cd.ret (thenR ?_)
        simp (maxSteps := 2000000) (disch := first | (simp only [E4] <;> omega) | omega | fail) only [↓E2, E3, bare, bareJ, ↓E0, E1, evP, evPlan, env0, envN, evOps, evOp, evQs, evQ, evV, setD, pureOp, ev, upd, updL, gate, binW, eqOp, binV, intOp, shOp, boolOp, unV, convV, nilV, fieldAddrV, indexAddrV, extractV, cellAt, cellsAt, findB, setB, fillL, buildV, Value.cells, lenV, minV, maxV, hav, sliceV, loV, hiV, bslQ, mksQ, appQ, partsOk, partsCells, delB, eqL, SameI, strOp, apzQ, cvtQ, capV, ↓reduceIte, Zj, Zk, Nat.reduceAdd, Nat.reduceLT, Nat.reduceEqDiff, Nat.reduceMul, Nat.reduceLeDiff, if_true, Zn, reduceCtorEq, ZA, eq_self, Int.reduceLE, Int.reduceLT, Int.reduceToNat, ne_eq, Nat.reduceSub, Tld56]
        repeat refine And.intro (by omega) ?_
        refine ⟨[], SubP.of (List.nil_sublist _), .slice none 0 0, ?_, ?_⟩
        · unfold trimLow; rw [if_pos ez]
        · unfold trimL; rw [if_pos ez]; exact SlN.nil 1
      · simp only [decide_eq_true_eq, decide_eq_false_iff_not, beq_iff_eq, beq_eq_false_iff_ne, bne_iff_ne, bne_eq_false_iff_eq, Bool.and_eq_true, Bool.or_eq_true, Bool.or_eq_false_iff, Bool.not_eq_true', Bool.not_eq_false', Bool.and_eq_false_imp, ne_eq, gt_iff_lt, ge_iff_le, Int.not_lt, Int.not_le, Classical.not_not] at h2
        have ez : ¬ trF l = trE l := by omega
        have h3 : t ≤ l.length := ht
        obtain ⟨b, rfl, q1⟩ := rd_int h hR (k := 0) (by omega)
        have hcap : l.length ≤ cap := by obtain ⟨_, _, _, e, _, _, _, hc⟩ := h; cases e; exact hc
        have ec : (cap = t - d) = False := eq_false (by omega)
        have n1 := told_ne hb1 q1
        have eL : trimL l = (l.drop (t - d)).take (t - (t - d)) := by unfold trimL; rw [if_neg ez, hE, hF]
        have eW : trimLow low l = low + ((t - d : Nat) : Int) := by unfold trimLow; rw [if_neg ez, hF]
        have tp := told_part (f := t - d) (n := t - (t - d)) h hR (by omega)
        rw [← eL] at tp
        have tlen := trimL_len l
        rw [hE, hF] at tlen
        have hO : RdO [(b, t - d, ints .i64 (trimL l))] (trimL l) (.slice (some ⟨b, t - d, none⟩) (t - (t - d)) (cap - (t - d))) := .inr ⟨b, t - d, cap - (t - d), by rw [tlen], fun e => by rw [e] at tlen; simp at tlen; omega, fun _ => List.mem_singleton.2 rfl⟩
        refine Cd.skip ?_
        refine thenN ?_
        skip
        refine Cd.rs [4] fun K hK => ?_
        simp (maxSteps := 2000000) (disch := first | (simp only [E4, ec] <;> omega) | omega | fail) only [↓E2, E3, bare, bareJ, ↓E0, E1, evP, evPlan, env0, envN, evOps, evOp, evQs, evQ, evV, setD, pureOp, ev, upd, updL, gate, binW, eqOp, binV, intOp, shOp, boolOp, unV, convV, nilV, fieldAddrV, indexAddrV, extractV, cellAt, cellsAt, findB, setB, fillL, buildV, Value.cells, lenV, minV, maxV, hav, sliceV, loV, hiV, bslQ, mksQ, appQ, partsOk, partsCells, delB, eqL, SameI, strOp, apzQ, cvtQ, capV, ↓reduceIte, Zj, Zk, Nat.reduceAdd, Nat.reduceLT, Nat.reduceEqDiff, Nat.reduceMul, Nat.reduceLeDiff, if_true, Zn, reduceCtorEq, ZA, eq_self, Int.reduceLE, Int.reduceLT, Int.reduceToNat, ne_eq, Nat.reduceSub, Tbld56, Tslc47, Tst56, ec]
        repeat refine And.intro (by omega) ?_
        refine callK_newR0 (l01Own_c _ _ _ hO (by rw [tlen]; omega)) (Told.toldW tp) ?_
        intro v5 M5 hv5 _ _
        obtain ⟨a5, m5, c5, rfl⟩ := hv5.form
        simp only [List.cons_append, List.nil_append]
        simp (maxSteps := 2000000) (disch := first | (simp only [E4, ec] <;> omega) | omega | fail) only [↓E2, E3, bare, bareJ, ↓E0, E1, evP, evPlan, env0, envN, evOps, evOp, evQs, evQ, evV, setD, pureOp, ev, upd, updL, gate, binW, eqOp, binV, intOp, shOp, boolOp, unV, convV, nilV, fieldAddrV, indexAddrV, extractV, cellAt, cellsAt, findB, setB, fillL, buildV, Value.cells, lenV, minV, maxV, hav, sliceV, loV, hiV, bslQ, mksQ, appQ, partsOk, partsCells, delB, eqL, SameI, strOp, apzQ, cvtQ, capV, ↓reduceIte, Zj, Zk, Nat.reduceAdd, Nat.reduceLT, Nat.reduceEqDiff, Nat.reduceMul, Nat.reduceLeDiff, if_true, Zn, reduceCtorEq, ZA, eq_self, Int.reduceLE, Int.reduceLT, Int.reduceToNat, ne_eq, Nat.reduceSub, Tbld56, Tslc47, Tst56, ec]
        repeat refine And.intro (by omega) ?_
        repeat refine And.intro (by omega) ?_
        intro g
        simp only [List.map_cons, List.map_nil, updL, upd, Nat.reduceEqDiff, if_true, if_false, ↓reduceIte]
        refine hK _ _ ?_; clear hK K
        refine Cd.ret ?_
        simp (maxSteps := 2000000) (disch := first | (simp only [E4, ec] <;> omega) | omega | fail) only [↓E2, E3, bare, bareJ, ↓E0, E1, evP, evPlan, env0, envN, evOps, evOp, evQs, evQ, evV, setD, pureOp, ev, upd, updL, gate, binW, eqOp, binV, intOp, shOp, boolOp, unV, convV, nilV, fieldAddrV, indexAddrV, extractV, cellAt, cellsAt, findB, setB, fillL, buildV, Value.cells, lenV, minV, maxV, hav, sliceV, loV, hiV, bslQ, mksQ, appQ, partsOk, partsCells, delB, eqL, SameI, strOp, apzQ, cvtQ, capV, ↓reduceIte, Zj, Zk, Nat.reduceAdd, Nat.reduceLT, Nat.reduceEqDiff, Nat.reduceMul, Nat.reduceLeDiff, if_true, Zn, reduceCtorEq, ZA, eq_self, Int.reduceLE, Int.reduceLT, Int.reduceToNat, ne_eq, Nat.reduceSub, Tld56, ec]
        repeat refine And.intro (by omega) ?_
        refine ⟨M5, SubP.of (List.Sublist.cons _ (List.Sublist.refl _)), _, ?_, hv5⟩
        rw [eW]

theorem trimmed_c : GivesX Try.prog 177 #[.int .i64 low, v] [] R (LauV (trimLow low l) (trimL l)) := by
  obtain ⟨a, m, cap, rfl, hm, _, _, hcap⟩ := id h
  obtain rfl := lauLen hm
  refine GivesX.part ?_
  refine GivesX.of (callable_of Try.func177 rfl (by decide)) ?_ fun w hnd hlt hR => ?_
  · simp
  refine acall_of (N := 43) (c := _) (rs := [.cell 4 56]) (args := [_, _]) Try.func177 rfl (by decide) rfl rfl (Nat.le_of_ble_eq_true rfl) ?_
  have hR : W8.Told [] w R := hR
  refine Cd.rs [0, 1, 4] fun K hK => ?_
  simp (maxSteps := 2000000) (disch := first | (simp only [E4] <;> omega) | omega | fail) only [↓E2, E3, bare, bareJ, ↓E0, E1, evP, evPlan, env0, envN, evOps, evOp, evQs, evQ, evV, setD, pureOp, ev, upd, updL, gate, binW, eqOp, binV, intOp, shOp, boolOp, unV, convV, nilV, fieldAddrV, indexAddrV, extractV, cellAt, cellsAt, findB, setB, fillL, buildV, Value.cells, lenV, minV, maxV, hav, sliceV, loV, hiV, bslQ, mksQ, appQ, partsOk, partsCells, delB, eqL, SameI, strOp, apzQ, cvtQ, capV, ↓reduceIte, Zj, Zk, Nat.reduceAdd, Nat.reduceLT, Nat.reduceEqDiff, Nat.reduceMul, Nat.reduceLeDiff, if_true, Zn, reduceCtorEq, ZA, eq_self, Int.reduceLE, Int.reduceLT, Int.reduceToNat, ne_eq, Nat.reduceSub, Tzero56]
  repeat refine And.intro (by omega) ?_
  intro b1 hb1
  try simp (maxSteps := 2000000) (disch := first | (simp only [E4] <;> omega) | omega | fail) only [↓E2, E3, bare, bareJ, ↓E0, E1, evP, evPlan, env0, envN, evOps, evOp, evQs, evQ, evV, setD, pureOp, ev, upd, updL, gate, binW, eqOp, binV, intOp, shOp, boolOp, unV, convV, nilV, fieldAddrV, indexAddrV, extractV, cellAt, cellsAt, findB, setB, fillL, buildV, Value.cells, lenV, minV, maxV, hav, sliceV, loV, hiV, bslQ, mksQ, appQ, partsOk, partsCells, delB, eqL, SameI, strOp, apzQ, cvtQ, capV, ↓reduceIte, Zj, Zk, Nat.reduceAdd, Nat.reduceLT, Nat.reduceEqDiff, Nat.reduceMul, Nat.reduceLeDiff, if_true, Zn, reduceCtorEq, ZA, eq_self, Int.reduceLE, Int.reduceLT, Int.reduceToNat, ne_eq, Nat.reduceSub, Tzero56]
  repeat refine And.intro (by omega) ?_
  repeat refine And.intro (by omega) ?_
  intro g
  simp only [List.map_cons, List.map_nil, updL, upd, Nat.reduceEqDiff, if_true, if_false, ↓reduceIte]
  refine hK _ _ ?_; clear hK K
  refine Cd.seq ?_
  refine Cd.block ?_
  refine Cd.loop (fun t ρ M => ∃ g, t ≤ l.length ∧ trEnd l t = trE l ∧ ρ = updL [(0, .int .i64 low), (1, .slice a t cap), (4, .pointer (some ⟨b1, 0, none⟩))] g ∧ M = [(b1, [.int .i64 0, .slice none 0 0])]) l.length ⟨_, Nat.le_refl _, rfl, rfl, rfl⟩ ?_
  rintro t ρ M ⟨g, ht, he, rfl, rfl⟩
  refine Cd.seq ?_
  refine Cd.rs [0, 1, 4, 16] fun K hK => ?_
  simp (maxSteps := 2000000) (disch := first | (simp only [E4] <;> omega) | omega | fail) only [↓E2, E3, bare, bareJ, ↓E0, E1, evP, evPlan, env0, envN, evOps, evOp, evQs, evQ, evV, setD, pureOp, ev, upd, updL, gate, binW, eqOp, binV, intOp, shOp, boolOp, unV, convV, nilV, fieldAddrV, indexAddrV, extractV, cellAt, cellsAt, findB, setB, fillL, buildV, Value.cells, lenV, minV, maxV, hav, sliceV, loV, hiV, bslQ, mksQ, appQ, partsOk, partsCells, delB, eqL, SameI, strOp, apzQ, cvtQ, capV, ↓reduceIte, Zj, Zk, Nat.reduceAdd, Nat.reduceLT, Nat.reduceEqDiff, Nat.reduceMul, Nat.reduceLeDiff, if_true, Zn, reduceCtorEq, ZA, eq_self, Int.reduceLE, Int.reduceLT, Int.reduceToNat, ne_eq, Nat.reduceSub, Tld2, Tslc47, Tslce47]
  repeat refine And.intro (by omega) ?_
  apply guardX_and 7 [9, 10, 11, 12, 13, 14, 15] (j := 3) (d := 8) (tp := 16) (tl := 15) (x := l.getD (t - 1) 0 == 0) rfl rfl rfl rfl rfl
  · intro hq
    simp only [decide_eq_true_eq, decide_eq_false_iff_not, beq_iff_eq, beq_eq_false_iff_ne, bne_iff_ne, bne_eq_false_iff_eq, Bool.and_eq_true, Bool.or_eq_true, Bool.or_eq_false_iff, Bool.not_eq_true', Bool.not_eq_false', Bool.and_eq_false_imp, ne_eq, gt_iff_lt, ge_iff_le, Int.not_lt, Int.not_le, Classical.not_not] at hq
    obtain ⟨b, rfl, q1⟩ := rd_int h hR (k := t - 1) (by omega)
    have n1 := told_ne hb1 q1
    have e1 : ((t : Int) - 1).toNat = t - 1 := by omega
    skip
    simp (maxSteps := 2000000) (disch := first | (simp only [E4, q1, n1, e1] <;> omega) | omega | fail) only [↓E2, E3, bare, bareJ, ↓E0, E1, evP, evPlan, env0, envN, evOps, evOp, evQs, evQ, evV, setD, pureOp, ev, upd, updL, gate, binW, eqOp, binV, intOp, shOp, boolOp, unV, convV, nilV, fieldAddrV, indexAddrV, extractV, cellAt, cellsAt, findB, setB, fillL, buildV, Value.cells, lenV, minV, maxV, hav, sliceV, loV, hiV, bslQ, mksQ, appQ, partsOk, partsCells, delB, eqL, SameI, strOp, apzQ, cvtQ, capV, ↓reduceIte, Zj, Zk, Nat.reduceAdd, Nat.reduceLT, Nat.reduceEqDiff, Nat.reduceMul, Nat.reduceLeDiff, if_true, Zn, reduceCtorEq, ZA, eq_self, Int.reduceLE, Int.reduceLT, Int.reduceToNat, ne_eq, Nat.reduceSub, Tld2, Tslc47, Tslce47, q1, n1, e1]
    repeat refine And.intro (by omega) ?_
    first | omega | exact rfl
  intro g
  simp (maxSteps := 2000000) (disch := first | (simp only [E4] <;> omega) | omega | fail) only [↓E2, E3, bare, bareJ, ↓E0, E1, evP, evPlan, env0, envN, evOps, evOp, evQs, evQ, evV, setD, pureOp, ev, upd, updL, gate, binW, eqOp, binV, intOp, shOp, boolOp, unV, convV, nilV, fieldAddrV, indexAddrV, extractV, cellAt, cellsAt, findB, setB, fillL, buildV, Value.cells, lenV, minV, maxV, hav, sliceV, loV, hiV, bslQ, mksQ, appQ, partsOk, partsCells, delB, eqL, SameI, strOp, apzQ, cvtQ, capV, ↓reduceIte, Zj, Zk, Nat.reduceAdd, Nat.reduceLT, Nat.reduceEqDiff, Nat.reduceMul, Nat.reduceLeDiff, if_true, Zn, reduceCtorEq, ZA, eq_self, Int.reduceLE, Int.reduceLT, Int.reduceToNat, ne_eq, Nat.reduceSub, Tld2, Tslc47, Tslce47]
  repeat refine And.intro (by omega) ?_
  repeat refine And.intro (by omega) ?_
  intro g
  simp only [List.map_cons, List.map_nil, updL, upd, Nat.reduceEqDiff, if_true, if_false, ↓reduceIte]
  refine hK _ _ ?_; clear hK K
  refine Cd.cond rfl (fun h1 => ?_) (fun h1 => ?_)
  · simp only [decide_eq_true_eq, decide_eq_false_iff_not, beq_iff_eq, beq_eq_false_iff_ne, bne_iff_ne, bne_eq_false_iff_eq, Bool.and_eq_true, Bool.or_eq_true, Bool.or_eq_false_iff, Bool.not_eq_true', Bool.not_eq_false', Bool.and_eq_false_imp, ne_eq, gt_iff_lt, ge_iff_le, Int.not_lt, Int.not_le, Classical.not_not] at h1
    obtain ⟨b, rfl, q1⟩ := rd_int h hR (k := t - 1) (by omega)
    have ec : (cap = 0) = False := eq_false (by omega)
    have e1 : ((t : Int) - 1).toNat = t - 1 := by omega
    skip
    refine Cd.skip ?_
    refine thenN ?_
    refine Cd.block ?_
    refine Cd.rr [0, 1, 4] fun K hK => ?_
    simp (maxSteps := 2000000) (disch := first | (simp only [E4, ec, e1] <;> omega) | omega | fail) only [↓E2, E3, bare, bareJ, ↓E0, E1, evP, evPlan, env0, envN, evOps, evOp, evQs, evQ, evV, setD, pureOp, ev, upd, updL, gate, binW, eqOp, binV, intOp, shOp, boolOp, unV, convV, nilV, fieldAddrV, indexAddrV, extractV, cellAt, cellsAt, findB, setB, fillL, buildV, Value.cells, lenV, minV, maxV, hav, sliceV, loV, hiV, bslQ, mksQ, appQ, partsOk, partsCells, delB, eqL, SameI, strOp, apzQ, cvtQ, capV, ↓reduceIte, Zj, Zk, Nat.reduceAdd, Nat.reduceLT, Nat.reduceEqDiff, Nat.reduceMul, Nat.reduceLeDiff, if_true, Zn, reduceCtorEq, ZA, eq_self, Int.reduceLE, Int.reduceLT, Int.reduceToNat, ne_eq, Nat.reduceSub, Tslc47, Tslce47, ec, e1]
    repeat refine And.intro (by omega) ?_
    repeat refine And.intro (by omega) ?_
    intro g
    simp only [List.map_cons, List.map_nil, updL, upd, Nat.reduceEqDiff, if_true, if_false, ↓reduceIte]
    refine hK _ _ ?_; clear hK K
    refine inBN ?_
    refine roundN (m := t - 1) (by omega) ⟨_, by omega, ?_, rfl, rfl⟩
    rw [← he]
    have := trEnd_zero h1.2
    rw [show t - 1 + 1 = t by omega] at this
    exact this.symm
  · have hE : trE l = t := by
      rw [← he]
      rcases Nat.eq_zero_or_pos t with h0 | h0
      · subst h0; rfl
      · have hne : ¬ l.getD (t - 1) 0 = 0 := fun e => by
          rw [e, decide_eq_true (by omega)] at h1
          cases h1
        have := trEnd_one hne
        rw [show t - 1 + 1 = t by omega] at this
        exact this
    clear h1 he
    refine Cd.exit (thenX (roundX (inBX ?_)))
    refine thenN ?_
    refine Cd.seq ?_
    refine Cd.block ?_
    refine Cd.loop (fun d ρ M => ∃ g a' c', d ≤ t ∧ trBeg l t d = trF l ∧ d ≤ c' ∧ (d ≠ 0 → ∀ b, a = some ⟨b, 0, none⟩ → a' = some ⟨b, t - d, none⟩) ∧ ρ = updL [(0, .int .i64 (low + ((t - d : Nat) : Int))), (1, .slice a' d c'), (4, .pointer (some ⟨b1, 0, none⟩))] g ∧ M = [(b1, [.int .i64 0, .slice none 0 0])]) t ⟨_, a, cap, Nat.le_refl _, by unfold trF; rw [hE], by omega, fun _ b e => by rw [e, Nat.sub_self], norm_of ⟨show Value.int .i64 low = _ from congrArg (Value.int .i64) (by omega), rfl, rfl, trivial⟩, rfl⟩ ?_
    rintro d ρ M ⟨g, a', c', hd, he, hdc, haa, rfl, rfl⟩
    refine Cd.seq ?_
    refine Cd.rs [0, 1, 4, 30] fun K hK => ?_
    simp (maxSteps := 2000000) (disch := first | (simp only [E4] <;> omega) | omega | fail) only [↓E2, E3, bare, bareJ, ↓E0, E1, evP, evPlan, env0, envN, evOps, evOp, evQs, evQ, evV, setD, pureOp, ev, upd, updL, gate, binW, eqOp, binV, intOp, shOp, boolOp, unV, convV, nilV, fieldAddrV, indexAddrV, extractV, cellAt, cellsAt, findB, setB, fillL, buildV, Value.cells, lenV, minV, maxV, hav, sliceV, loV, hiV, bslQ, mksQ, appQ, partsOk, partsCells, delB, eqL, SameI, strOp, apzQ, cvtQ, capV, ↓reduceIte, Zj, Zk, Nat.reduceAdd, Nat.reduceLT, Nat.reduceEqDiff, Nat.reduceMul, Nat.reduceLeDiff, if_true, Zn, reduceCtorEq, ZA, eq_self, Int.reduceLE, Int.reduceLT, Int.reduceToNat, ne_eq, Nat.reduceSub, Tld2, Tslc47, Tslce47]
    repeat refine And.intro (by omega) ?_
    apply guardX_and 4 [26, 27, 28, 29] (j := 3) (d := 25) (tp := 30) (tl := 29) (x := l.getD (t - d) 0 == 0) rfl rfl rfl rfl rfl
    · intro hq
      simp only [decide_eq_true_eq, decide_eq_false_iff_not, beq_iff_eq, beq_eq_false_iff_ne, bne_iff_ne, bne_eq_false_iff_eq, Bool.and_eq_true, Bool.or_eq_true, Bool.or_eq_false_iff, Bool.not_eq_true', Bool.not_eq_false', Bool.and_eq_false_imp, ne_eq, gt_iff_lt, ge_iff_le, Int.not_lt, Int.not_le, Classical.not_not] at hq
      obtain ⟨b, rfl, q1⟩ := rd_int h hR (k := t - d) (by omega)
      obtain rfl := haa (by omega) b rfl
      have n1 := told_ne hb1 q1
      skip
      simp (maxSteps := 2000000) (disch := first | (simp only [E4, q1, n1] <;> omega) | omega | fail) only [↓E2, E3, bare, bareJ, ↓E0, E1, evP, evPlan, env0, envN, evOps, evOp, evQs, evQ, evV, setD, pureOp, ev, upd, updL, gate, binW, eqOp, binV, intOp, shOp, boolOp, unV, convV, nilV, fieldAddrV, indexAddrV, extractV, cellAt, cellsAt, findB, setB, fillL, buildV, Value.cells, lenV, minV, maxV, hav, sliceV, loV, hiV, bslQ, mksQ, appQ, partsOk, partsCells, delB, eqL, SameI, strOp, apzQ, cvtQ, capV, ↓reduceIte, Zj, Zk, Nat.reduceAdd, Nat.reduceLT, Nat.reduceEqDiff, Nat.reduceMul, Nat.reduceLeDiff, if_true, Zn, reduceCtorEq, ZA, eq_self, Int.reduceLE, Int.reduceLT, Int.reduceToNat, ne_eq, Nat.reduceSub, Tld2, Tslc47, Tslce47, q1, n1]
      repeat refine And.intro (by omega) ?_
      first | omega | exact rfl
    intro g
    simp (maxSteps := 2000000) (disch := first | (simp only [E4] <;> omega) | omega | fail) only [↓E2, E3, bare, bareJ, ↓E0, E1, evP, evPlan, env0, envN, evOps, evOp, evQs, evQ, evV, setD, pureOp, ev, upd, updL, gate, binW, eqOp, binV, intOp, shOp, boolOp, unV, convV, nilV, fieldAddrV, indexAddrV, extractV, cellAt, cellsAt, findB, setB, fillL, buildV, Value.cells, lenV, minV, maxV, hav, sliceV, loV, hiV, bslQ, mksQ, appQ, partsOk, partsCells, delB, eqL, SameI, strOp, apzQ, cvtQ, capV, ↓reduceIte, Zj, Zk, Nat.reduceAdd, Nat.reduceLT, Nat.reduceEqDiff, Nat.reduceMul, Nat.reduceLeDiff, if_true, Zn, reduceCtorEq, ZA, eq_self, Int.reduceLE, Int.reduceLT, Int.reduceToNat, ne_eq, Nat.reduceSub, Tld2, Tslc47, Tslce47]
    repeat refine And.intro (by omega) ?_
    repeat refine And.intro (by omega) ?_
    intro g
    simp only [List.map_cons, List.map_nil, updL, upd, Nat.reduceEqDiff, if_true, if_false, ↓reduceIte]
    refine hK _ _ ?_; clear hK K
    refine Cd.cond rfl (fun h1 => ?_) (fun h1 => ?_)
    · simp only [decide_eq_true_eq, decide_eq_false_iff_not, beq_iff_eq, beq_eq_false_iff_ne, bne_iff_ne, bne_eq_false_iff_eq, Bool.and_eq_true, Bool.or_eq_true, Bool.or_eq_false_iff, Bool.not_eq_true', Bool.not_eq_false', Bool.and_eq_false_imp, ne_eq, gt_iff_lt, ge_iff_le, Int.not_lt, Int.not_le, Classical.not_not] at h1
      obtain ⟨b, rfl, q1⟩ := rd_int h hR (k := t - d) (by omega)
      obtain rfl := haa (by omega) b rfl
      refine Cd.skip ?_
      refine thenN ?_
      refine Cd.block ?_
      refine Cd.rs [0, 1, 4] fun K hK => ?_
      simp (maxSteps := 2000000) (disch := first | (simp only [E4] <;> omega) | omega | fail) only [↓E2, E3, bare, bareJ, ↓E0, E1, evP, evPlan, env0, envN, evOps, evOp, evQs, evQ, evV, setD, pureOp, ev, upd, updL, gate, binW, eqOp, binV, intOp, shOp, boolOp, unV, convV, nilV, fieldAddrV, indexAddrV, extractV, cellAt, cellsAt, findB, setB, fillL, buildV, Value.cells, lenV, minV, maxV, hav, sliceV, loV, hiV, bslQ, mksQ, appQ, partsOk, partsCells, delB, eqL, SameI, strOp, apzQ, cvtQ, capV, ↓reduceIte, Zj, Zk, Nat.reduceAdd, Nat.reduceLT, Nat.reduceEqDiff, Nat.reduceMul, Nat.reduceLeDiff, if_true, Zn, reduceCtorEq, ZA, eq_self, Int.reduceLE, Int.reduceLT, Int.reduceToNat, ne_eq, Nat.reduceSub, Tslc47]
      repeat refine And.intro (by omega) ?_
      repeat refine And.intro (by omega) ?_
      intro g
      simp only [List.map_cons, List.map_nil, updL, upd, Nat.reduceEqDiff, if_true, if_false, ↓reduceIte]
      refine hK _ _ ?_; clear hK K
      refine Cd.rr [0, 1, 4] fun K hK => ?_
      simp (maxSteps := 2000000) (disch := first | (simp only [E4] <;> omega) | omega | fail) only [↓E2, E3, bare, bareJ, ↓E0, E1, evP, evPlan, env0, envN, evOps, evOp, evQs, evQ, evV, setD, pureOp, ev, upd, updL, gate, binW, eqOp, binV, intOp, shOp, boolOp, unV, convV, nilV, fieldAddrV, indexAddrV, extractV, cellAt, cellsAt, findB, setB, fillL, buildV, Value.cells, lenV, minV, maxV, hav, sliceV, loV, hiV, bslQ, mksQ, appQ, partsOk, partsCells, delB, eqL, SameI, strOp, apzQ, cvtQ, capV, ↓reduceIte, Zj, Zk, Nat.reduceAdd, Nat.reduceLT, Nat.reduceEqDiff, Nat.reduceMul, Nat.reduceLeDiff, if_true, Zn, reduceCtorEq, ZA, eq_self, Int.reduceLE, Int.reduceLT, Int.reduceToNat, ne_eq, Nat.reduceSub]
      repeat refine And.intro (by omega) ?_
      repeat refine And.intro (by omega) ?_
      intro g
      simp only [List.map_cons, List.map_nil, updL, upd, Nat.reduceEqDiff, if_true, if_false, ↓reduceIte]
      refine hK _ _ ?_; clear hK K
      refine inBN ?_
      have e0 : low + ((t - d : Nat) : Int) + 1 = low + ((t - (d - 1) : Nat) : Int) := by omega
      rw [e0]
      refine roundN (m := d - 1) (by omega) ⟨_, _, c' - 1, by omega, ?_, by omega, ?_, rfl, rfl⟩
      · rw [← he]
        have := trBeg_zero (t := t) (d := d - 1) (l := l) (by rw [show t - (d - 1 + 1) = t - d by omega]; exact h1.2)
        rw [show d - 1 + 1 = d by omega] at this
        exact this.symm
      · intro hd1 b2 e2
        cases e2
        rw [if_neg (by omega), show t - d + 1 = t - (d - 1) by omega]
    · have hF : trF l = t - d := by
        rw [← he]
        rcases Nat.eq_zero_or_pos d with h0 | h0
        · subst h0; rfl
        · have hne : ¬ l.getD (t - d) 0 = 0 := fun e => by
            rw [e, decide_eq_true (by omega)] at h1
            cases h1
          have := trBeg_one (t := t) (d := d - 1) (l := l) (by rw [show t - (d - 1 + 1) = t - d by omega]; exact hne)
          rw [show d - 1 + 1 = d by omega] at this
          exact this
      clear h1 he
      refine Cd.exit (thenX (roundX (inBX ?_)))
      refine thenN ?_
      refine Cd.seq ?_
      refine Cd.rs [0, 1, 4, 37] fun K hK => ?_
      simp (maxSteps := 2000000) (disch := first | (simp only [E4] <;> omega) | omega | fail) only [↓E2, E3, bare, bareJ, ↓E0, E1, evP, evPlan, env0, envN, evOps, evOp, evQs, evQ, evV, setD, pureOp, ev, upd, updL, gate, binW, eqOp, binV, intOp, shOp, boolOp, unV, convV, nilV, fieldAddrV, indexAddrV, extractV, cellAt, cellsAt, findB, setB, fillL, buildV, Value.cells, lenV, minV, maxV, hav, sliceV, loV, hiV, bslQ, mksQ, appQ, partsOk, partsCells, delB, eqL, SameI, strOp, apzQ, cvtQ, capV, ↓reduceIte, Zj, Zk, Nat.reduceAdd, Nat.reduceLT, Nat.reduceEqDiff, Nat.reduceMul, Nat.reduceLeDiff, if_true, Zn, reduceCtorEq, ZA, eq_self, Int.reduceLE, Int.reduceLT, Int.reduceToNat, ne_eq, Nat.reduceSub, Tslce47]
      repeat refine And.intro (by omega) ?_
      repeat refine And.intro (by omega) ?_
      intro g
      simp only [List.map_cons, List.map_nil, updL, upd, Nat.reduceEqDiff, if_true, if_false, ↓reduceIte]
      refine hK _ _ ?_; clear hK K
      refine Cd.cond rfl (fun h2 => ?_) (fun h2 => ?_)
      · simp only [decide_eq_true_eq, decide_eq_false_iff_not, beq_iff_eq, beq_eq_false_iff_ne, bne_iff_ne, bne_eq_false_iff_eq, Bool.and_eq_true, Bool.or_eq_true, Bool.or_eq_false_iff, Bool.not_eq_true', Bool.not_eq_false', Bool.and_eq_false_imp, ne_eq, gt_iff_lt, ge_iff_le, Int.not_lt, Int.not_le, Classical.not_not] at h2
        have ez : trF l = trE l := by omega
        refine Cd.rs [4] fun K hK => ?_
        simp (maxSteps := 2000000) (disch := first | (simp only [E4] <;> omega) | omega | fail) only [↓E2, E3, bare, bareJ, ↓E0, E1, evP, evPlan, env0, envN, evOps, evOp, evQs, evQ, evV, setD, pureOp, ev, upd, updL, gate, binW, eqOp, binV, intOp, shOp, boolOp, unV, convV, nilV, fieldAddrV, indexAddrV, extractV, cellAt, cellsAt, findB, setB, fillL, buildV, Value.cells, lenV, minV, maxV, hav, sliceV, loV, hiV, bslQ, mksQ, appQ, partsOk, partsCells, delB, eqL, SameI, strOp, apzQ, cvtQ, capV, ↓reduceIte, Zj, Zk, Nat.reduceAdd, Nat.reduceLT, Nat.reduceEqDiff, Nat.reduceMul, Nat.reduceLeDiff, if_true, Zn, reduceCtorEq, ZA, eq_self, Int.reduceLE, Int.reduceLT, Int.reduceToNat, ne_eq, Nat.reduceSub, Tbld56, Tst56]
        repeat refine And.intro (by omega) ?_
        repeat refine And.intro (by omega) ?_
        intro g
        simp only [List.map_cons, List.map_nil, updL, upd, Nat.reduceEqDiff, if_true, if_false, ↓reduceIte]
        refine hK _ _ ?_; clear hK K
        refine Cd.ret (thenR ?_)
        simp (maxSteps := 2000000) (disch := first | (simp only [E4] <;> omega) | omega | fail) only [↓E2, E3, bare, bareJ, ↓E0, E1, evP, evPlan, env0, envN, evOps, evOp, evQs, evQ, evV, setD, pureOp, ev, upd, updL, gate, binW, eqOp, binV, intOp, shOp, boolOp, unV, convV, nilV, fieldAddrV, indexAddrV, extractV, cellAt, cellsAt, findB, setB, fillL, buildV, Value.cells, lenV, minV, maxV, hav, sliceV, loV, hiV, bslQ, mksQ, appQ, partsOk, partsCells, delB, eqL, SameI, strOp, apzQ, cvtQ, capV, ↓reduceIte, Zj, Zk, Nat.reduceAdd, Nat.reduceLT, Nat.reduceEqDiff, Nat.reduceMul, Nat.reduceLeDiff, if_true, Zn, reduceCtorEq, ZA, eq_self, Int.reduceLE, Int.reduceLT, Int.reduceToNat, ne_eq, Nat.reduceSub, Tld56]
        repeat refine And.intro (by omega) ?_
        refine ⟨[], SubP.of (List.nil_sublist _), .slice none 0 0, ?_, ?_⟩
        · unfold trimLow; rw [if_pos ez]
        · unfold trimL; rw [if_pos ez]; exact SlN.nil 1
      · simp only [decide_eq_true_eq, decide_eq_false_iff_not, beq_iff_eq, beq_eq_false_iff_ne, bne_iff_ne, bne_eq_false_iff_eq, Bool.and_eq_true, Bool.or_eq_true, Bool.or_eq_false_iff, Bool.not_eq_true', Bool.not_eq_false', Bool.and_eq_false_imp, ne_eq, gt_iff_lt, ge_iff_le, Int.not_lt, Int.not_le, Classical.not_not] at h2
        have ez : ¬ trF l = trE l := by omega
        have h3 : t ≤ l.length := ht
        obtain ⟨b, rfl, q1⟩ := rd_int h hR (k := 0) (by omega)
        obtain rfl := haa (by omega) b rfl
        have n1 := told_ne hb1 q1
        have eL : trimL l = (l.drop (t - d)).take (t - (t - d)) := by unfold trimL; rw [if_neg ez, hE, hF]
        have eW : trimLow low l = low + ((t - d : Nat) : Int) := by unfold trimLow; rw [if_neg ez, hF]
        have tp := told_part (f := t - d) (n := t - (t - d)) h hR (by omega)
        rw [← eL] at tp
        have tlen := trimL_len l
        rw [hE, hF, show t - (t - d) = d by omega] at tlen
        have hO : RdO [(b, t - d, ints .i64 (trimL l))] (trimL l) (.slice (some ⟨b, t - d, none⟩) d c') := .inr ⟨b, t - d, c', by rw [tlen], fun e => by rw [e] at tlen; simp at tlen; omega, fun _ => List.mem_singleton.2 rfl⟩
        refine Cd.skip ?_
        refine thenN ?_
        refine Cd.rs [4] fun K hK => ?_
        simp (maxSteps := 2000000) (disch := first | (simp only [E4] <;> omega) | omega | fail) only [↓E2, E3, bare, bareJ, ↓E0, E1, evP, evPlan, env0, envN, evOps, evOp, evQs, evQ, evV, setD, pureOp, ev, upd, updL, gate, binW, eqOp, binV, intOp, shOp, boolOp, unV, convV, nilV, fieldAddrV, indexAddrV, extractV, cellAt, cellsAt, findB, setB, fillL, buildV, Value.cells, lenV, minV, maxV, hav, sliceV, loV, hiV, bslQ, mksQ, appQ, partsOk, partsCells, delB, eqL, SameI, strOp, apzQ, cvtQ, capV, ↓reduceIte, Zj, Zk, Nat.reduceAdd, Nat.reduceLT, Nat.reduceEqDiff, Nat.reduceMul, Nat.reduceLeDiff, if_true, Zn, reduceCtorEq, ZA, eq_self, Int.reduceLE, Int.reduceLT, Int.reduceToNat, ne_eq, Nat.reduceSub, Tbld56, Tst56]
        repeat refine And.intro (by omega) ?_
        refine callK_newR0 (Clone_c _ _ _ hO (by rw [tlen]; omega)) (Told.toldW tp) ?_
        intro v5 M5 hv5 _ _
        obtain ⟨a5, m5, c5, rfl⟩ := hv5.form
        simp only [List.cons_append, List.nil_append]
        simp (maxSteps := 2000000) (disch := first | (simp only [E4] <;> omega) | omega | fail) only [↓E2, E3, bare, bareJ, ↓E0, E1, evP, evPlan, env0, envN, evOps, evOp, evQs, evQ, evV, setD, pureOp, ev, upd, updL, gate, binW, eqOp, binV, intOp, shOp, boolOp, unV, convV, nilV, fieldAddrV, indexAddrV, extractV, cellAt, cellsAt, findB, setB, fillL, buildV, Value.cells, lenV, minV, maxV, hav, sliceV, loV, hiV, bslQ, mksQ, appQ, partsOk, partsCells, delB, eqL, SameI, strOp, apzQ, cvtQ, capV, ↓reduceIte, Zj, Zk, Nat.reduceAdd, Nat.reduceLT, Nat.reduceEqDiff, Nat.reduceMul, Nat.reduceLeDiff, if_true, Zn, reduceCtorEq, ZA, eq_self, Int.reduceLE, Int.reduceLT, Int.reduceToNat, ne_eq, Nat.reduceSub, Tbld56, Tst56]
        repeat refine And.intro (by omega) ?_
        repeat refine And.intro (by omega) ?_
        intro g
        simp only [List.map_cons, List.map_nil, updL, upd, Nat.reduceEqDiff, if_true, if_false, ↓reduceIte]
        refine hK _ _ ?_; clear hK K
        refine Cd.ret ?_
        simp (maxSteps := 2000000) (disch := first | (simp only [E4] <;> omega) | omega | fail) only [↓E2, E3, bare, bareJ, ↓E0, E1, evP, evPlan, env0, envN, evOps, evOp, evQs, evQ, evV, setD, pureOp, ev, upd, updL, gate, binW, eqOp, binV, intOp, shOp, boolOp, unV, convV, nilV, fieldAddrV, indexAddrV, extractV, cellAt, cellsAt, findB, setB, fillL, buildV, Value.cells, lenV, minV, maxV, hav, sliceV, loV, hiV, bslQ, mksQ, appQ, partsOk, partsCells, delB, eqL, SameI, strOp, apzQ, cvtQ, capV, ↓reduceIte, Zj, Zk, Nat.reduceAdd, Nat.reduceLT, Nat.reduceEqDiff, Nat.reduceMul, Nat.reduceLeDiff, if_true, Zn, reduceCtorEq, ZA, eq_self, Int.reduceLE, Int.reduceLT, Int.reduceToNat, ne_eq, Nat.reduceSub, Tld56]
        repeat refine And.intro (by omega) ?_
        refine ⟨M5, SubP.of (List.Sublist.cons _ (List.Sublist.refl _)), _, ?_, hv5⟩
        rw [eW]
end

end Go.Proofs

/-
  What the functions of this part hand back: each as a plain function of its arguments. Conditions: none.
-/
namespace Go.Proofs
open Go.W8
set_option linter.unusedVariables false
set_option linter.unusedSimpArgs false
set_option linter.unusedSectionVars false
set_option maxRecDepth 8000
set_option maxHeartbeats 4000000
theorem isCoefficient_c (c : Int) : Gives Try.prog 132 #[.int .i64 c] (.bool (coOk c)) := by
  refine Gives.of fun w => ?_
  refine acall_of (N := 5) (c := _) (rs := [.tmp 2]) (args := [_]) Try.func132 rfl (by decide) rfl rfl (Nat.le_of_ble_eq_true rfl) ?_
  refine Cd.rs [0] fun K hK => ?_
  simp (maxSteps := 2000000) (disch := first | (simp only [E4] <;> omega) | omega | fail) only [↓E2, E3, bare, bareJ, ↓E0, E1, evP, evPlan, env0, envN, evOps, evOp, evQs, evQ, evV, setD, pureOp, ev, upd, updL, gate, binW, eqOp, binV, intOp, shOp, boolOp, unV, convV, nilV, fieldAddrV, indexAddrV, extractV, cellAt, cellsAt, findB, setB, fillL, buildV, Value.cells, lenV, minV, maxV, hav, sliceV, loV, hiV, bslQ, mksQ, appQ, partsOk, partsCells, delB, eqL, SameI, strOp, apzQ, cvtQ, capV, ↓reduceIte, Zj, Zk, Nat.reduceAdd, Nat.reduceLT, Nat.reduceEqDiff, Nat.reduceMul, Nat.reduceLeDiff, if_true, Zn, reduceCtorEq, ZA, eq_self, Int.reduceLE, Int.reduceLT, Int.reduceToNat, ne_eq, Nat.reduceSub]
  repeat refine And.intro (by omega) ?_
  repeat refine And.intro (by omega) ?_
  intro g
  simp only [List.map_cons, List.map_nil, updL, upd, Nat.reduceEqDiff, if_true, if_false, ↓reduceIte]
  refine hK _ _ ?_; clear hK K
  refine Cd.rs [2] fun K hK => ?_
  simp (maxSteps := 2000000) (disch := first | (simp only [E4] <;> omega) | omega | fail) only [↓E2, E3, bare, bareJ, ↓E0, E1, evP, evPlan, env0, envN, evOps, evOp, evQs, evQ, evV, setD, pureOp, ev, upd, updL, gate, binW, eqOp, binV, intOp, shOp, boolOp, unV, convV, nilV, fieldAddrV, indexAddrV, extractV, cellAt, cellsAt, findB, setB, fillL, buildV, Value.cells, lenV, minV, maxV, hav, sliceV, loV, hiV, bslQ, mksQ, appQ, partsOk, partsCells, delB, eqL, SameI, strOp, apzQ, cvtQ, capV, ↓reduceIte, Zj, Zk, Nat.reduceAdd, Nat.reduceLT, Nat.reduceEqDiff, Nat.reduceMul, Nat.reduceLeDiff, if_true, Zn, reduceCtorEq, ZA, eq_self, Int.reduceLE, Int.reduceLT, Int.reduceToNat, ne_eq, Nat.reduceSub]
  repeat refine And.intro (by omega) ?_
  refine callK_gives (within_c _ _ _) ?_
  simp (maxSteps := 2000000) (disch := first | (simp only [E4] <;> omega) | omega | fail) only [↓E2, E3, bare, bareJ, ↓E0, E1, evP, evPlan, env0, envN, evOps, evOp, evQs, evQ, evV, setD, pureOp, ev, upd, updL, gate, binW, eqOp, binV, intOp, shOp, boolOp, unV, convV, nilV, fieldAddrV, indexAddrV, extractV, cellAt, cellsAt, findB, setB, fillL, buildV, Value.cells, lenV, minV, maxV, hav, sliceV, loV, hiV, bslQ, mksQ, appQ, partsOk, partsCells, delB, eqL, SameI, strOp, apzQ, cvtQ, capV, ↓reduceIte, Zj, Zk, Nat.reduceAdd, Nat.reduceLT, Nat.reduceEqDiff, Nat.reduceMul, Nat.reduceLeDiff, if_true, Zn, reduceCtorEq, ZA, eq_self, Int.reduceLE, Int.reduceLT, Int.reduceToNat, ne_eq, Nat.reduceSub]
  repeat refine And.intro (by omega) ?_
  repeat refine And.intro (by omega) ?_
  intro g
  simp only [List.map_cons, List.map_nil, updL, upd, Nat.reduceEqDiff, if_true, if_false, ↓reduceIte]
  refine hK _ _ ?_; clear hK K
  refine Cd.ret ?_
  simp (maxSteps := 2000000) (disch := first | (simp only [E4] <;> omega) | omega | fail) only [↓E2, E3, bare, bareJ, ↓E0, E1, evP, evPlan, env0, envN, evOps, evOp, evQs, evQ, evV, setD, pureOp, ev, upd, updL, gate, binW, eqOp, binV, intOp, shOp, boolOp, unV, convV, nilV, fieldAddrV, indexAddrV, extractV, cellAt, cellsAt, findB, setB, fillL, buildV, Value.cells, lenV, minV, maxV, hav, sliceV, loV, hiV, bslQ, mksQ, appQ, partsOk, partsCells, delB, eqL, SameI, strOp, apzQ, cvtQ, capV, ↓reduceIte, Zj, Zk, Nat.reduceAdd, Nat.reduceLT, Nat.reduceEqDiff, Nat.reduceMul, Nat.reduceLeDiff, if_true, Zn, reduceCtorEq, ZA, eq_self, Int.reduceLE, Int.reduceLT, Int.reduceToNat, ne_eq, Nat.reduceSub]
  repeat refine And.intro (by omega) ?_
  rfl
theorem areCoefficients1_c (c : Int) : Gives Try.prog 193 #[.int .i64 c] (.bool (!coOk c)) := by
  refine Gives.of fun w => ?_
  refine acall_of (N := 6) (c := _) (rs := [.tmp 2]) (args := [_]) Try.func193 rfl (by decide) rfl rfl (Nat.le_of_ble_eq_true rfl) ?_
  refine Cd.rs [0] fun K hK => ?_
  simp (maxSteps := 2000000) (disch := first | (simp only [E4] <;> omega) | omega | fail) only [↓E2, E3, bare, bareJ, ↓E0, E1, evP, evPlan, env0, envN, evOps, evOp, evQs, evQ, evV, setD, pureOp, ev, upd, updL, gate, binW, eqOp, binV, intOp, shOp, boolOp, unV, convV, nilV, fieldAddrV, indexAddrV, extractV, cellAt, cellsAt, findB, setB, fillL, buildV, Value.cells, lenV, minV, maxV, hav, sliceV, loV, hiV, bslQ, mksQ, appQ, partsOk, partsCells, delB, eqL, SameI, strOp, apzQ, cvtQ, capV, ↓reduceIte, Zj, Zk, Nat.reduceAdd, Nat.reduceLT, Nat.reduceEqDiff, Nat.reduceMul, Nat.reduceLeDiff, if_true, Zn, reduceCtorEq, ZA, eq_self, Int.reduceLE, Int.reduceLT, Int.reduceToNat, ne_eq, Nat.reduceSub]
  repeat refine And.intro (by omega) ?_
  repeat refine And.intro (by omega) ?_
  intro g
  simp only [List.map_cons, List.map_nil, updL, upd, Nat.reduceEqDiff, if_true, if_false, ↓reduceIte]
  refine hK _ _ ?_; clear hK K
  refine Cd.rs [2] fun K hK => ?_
  simp (maxSteps := 2000000) (disch := first | (simp only [E4] <;> omega) | omega | fail) only [↓E2, E3, bare, bareJ, ↓E0, E1, evP, evPlan, env0, envN, evOps, evOp, evQs, evQ, evV, setD, pureOp, ev, upd, updL, gate, binW, eqOp, binV, intOp, shOp, boolOp, unV, convV, nilV, fieldAddrV, indexAddrV, extractV, cellAt, cellsAt, findB, setB, fillL, buildV, Value.cells, lenV, minV, maxV, hav, sliceV, loV, hiV, bslQ, mksQ, appQ, partsOk, partsCells, delB, eqL, SameI, strOp, apzQ, cvtQ, capV, ↓reduceIte, Zj, Zk, Nat.reduceAdd, Nat.reduceLT, Nat.reduceEqDiff, Nat.reduceMul, Nat.reduceLeDiff, if_true, Zn, reduceCtorEq, ZA, eq_self, Int.reduceLE, Int.reduceLT, Int.reduceToNat, ne_eq, Nat.reduceSub]
  repeat refine And.intro (by omega) ?_
  refine callK_gives (isCoefficient_c _) ?_
  simp (maxSteps := 2000000) (disch := first | (simp only [E4] <;> omega) | omega | fail) only [↓E2, E3, bare, bareJ, ↓E0, E1, evP, evPlan, env0, envN, evOps, evOp, evQs, evQ, evV, setD, pureOp, ev, upd, updL, gate, binW, eqOp, binV, intOp, shOp, boolOp, unV, convV, nilV, fieldAddrV, indexAddrV, extractV, cellAt, cellsAt, findB, setB, fillL, buildV, Value.cells, lenV, minV, maxV, hav, sliceV, loV, hiV, bslQ, mksQ, appQ, partsOk, partsCells, delB, eqL, SameI, strOp, apzQ, cvtQ, capV, ↓reduceIte, Zj, Zk, Nat.reduceAdd, Nat.reduceLT, Nat.reduceEqDiff, Nat.reduceMul, Nat.reduceLeDiff, if_true, Zn, reduceCtorEq, ZA, eq_self, Int.reduceLE, Int.reduceLT, Int.reduceToNat, ne_eq, Nat.reduceSub]
  repeat refine And.intro (by omega) ?_
  repeat refine And.intro (by omega) ?_
  intro g
  simp only [List.map_cons, List.map_nil, updL, upd, Nat.reduceEqDiff, if_true, if_false, ↓reduceIte]
  refine hK _ _ ?_; clear hK K
  refine Cd.ret ?_
  simp (maxSteps := 2000000) (disch := first | (simp only [E4] <;> omega) | omega | fail) only [↓E2, E3, bare, bareJ, ↓E0, E1, evP, evPlan, env0, envN, evOps, evOp, evQs, evQ, evV, setD, pureOp, ev, upd, updL, gate, binW, eqOp, binV, intOp, shOp, boolOp, unV, convV, nilV, fieldAddrV, indexAddrV, extractV, cellAt, cellsAt, findB, setB, fillL, buildV, Value.cells, lenV, minV, maxV, hav, sliceV, loV, hiV, bslQ, mksQ, appQ, partsOk, partsCells, delB, eqL, SameI, strOp, apzQ, cvtQ, capV, ↓reduceIte, Zj, Zk, Nat.reduceAdd, Nat.reduceLT, Nat.reduceEqDiff, Nat.reduceMul, Nat.reduceLeDiff, if_true, Zn, reduceCtorEq, ZA, eq_self, Int.reduceLE, Int.reduceLT, Int.reduceToNat, ne_eq, Nat.reduceSub]
  repeat refine And.intro (by omega) ?_
/-- The place of the first number that is not allowed. -/
def badI (l : List Int) : Int := if l.findIdx (fun c => !coOk c) < l.length then (l.findIdx (fun c => !coOk c) : Int) else -1
theorem badI_all (l : List Int) : decide (badI l ≥ 0) = !l.all coOk := by
  unfold badI
  by_cases h : l.findIdx (fun c => !coOk c) < l.length
  · rw [if_pos h, decide_eq_true (by omega)]
    have := List.findIdx_getElem (w := h)
    have hb : l.all coOk = false := by
      rw [List.all_eq_false]
      exact ⟨_, List.getElem_mem h, by simpa using this⟩
    rw [hb]; rfl
  · rw [if_neg h, decide_eq_false (by omega)]
    have hb : l.all coOk = true := by
      rw [List.all_eq_true]
      intro c hc
      cases hcc : coOk c with
      | true => rfl
      | false => exact absurd (List.findIdx_lt_length_of_exists ⟨c, hc, by simp [hcc]⟩) h
    rw [hb]; rfl
theorem IndexFunc_c (l : List Int) (R : Rd) (v : Value) (h : RdS R 1 (ints .i64 l) v) (hb : l.length < 4611686018427387904) :
    GivesR Try.prog 200 #[v, .func (.func 193) #[] #[]] R (.int .i64 (badI l)) := by
  obtain ⟨a, m, cap, rfl, hm, _⟩ := id h
  obtain rfl := lauLen hm
  refine GivesR.of (callable_of Try.func200 rfl (by decide)) fun w hR => ?_
  refine acall_of (N := 19) (c := _) (rs := [.tmp 4]) (args := [_, _]) Try.func200 rfl (by decide) rfl rfl (Nat.le_of_ble_eq_true rfl) ?_
  refine Cd.rs [0, 1] fun K hK => ?_
  simp (maxSteps := 2000000) (disch := first | (simp only [E4] <;> omega) | omega | fail) only [↓E2, E3, bare, bareJ, ↓E0, E1, evP, evPlan, env0, envN, evOps, evOp, evQs, evQ, evV, setD, pureOp, ev, upd, updL, gate, binW, eqOp, binV, intOp, shOp, boolOp, unV, convV, nilV, fieldAddrV, indexAddrV, extractV, cellAt, cellsAt, findB, setB, fillL, buildV, Value.cells, lenV, minV, maxV, hav, sliceV, loV, hiV, bslQ, mksQ, appQ, partsOk, partsCells, delB, eqL, SameI, strOp, apzQ, cvtQ, capV, ↓reduceIte, Zj, Zk, Nat.reduceAdd, Nat.reduceLT, Nat.reduceEqDiff, Nat.reduceMul, Nat.reduceLeDiff, if_true, Zn, reduceCtorEq, ZA, eq_self, Int.reduceLE, Int.reduceLT, Int.reduceToNat, ne_eq, Nat.reduceSub]
  repeat refine And.intro (by omega) ?_
  repeat refine And.intro (by omega) ?_
  intro g
  simp only [List.map_cons, List.map_nil, updL, upd, Nat.reduceEqDiff, if_true, if_false, ↓reduceIte]
  refine hK _ _ ?_; clear hK K
  refine Cd.seq ?_
  refine Cd.rs [0, 1, 7, 8] fun K hK => ?_
  simp (maxSteps := 2000000) (disch := first | (simp only [E4] <;> omega) | omega | fail) only [↓E2, E3, bare, bareJ, ↓E0, E1, evP, evPlan, env0, envN, evOps, evOp, evQs, evQ, evV, setD, pureOp, ev, upd, updL, gate, binW, eqOp, binV, intOp, shOp, boolOp, unV, convV, nilV, fieldAddrV, indexAddrV, extractV, cellAt, cellsAt, findB, setB, fillL, buildV, Value.cells, lenV, minV, maxV, hav, sliceV, loV, hiV, bslQ, mksQ, appQ, partsOk, partsCells, delB, eqL, SameI, strOp, apzQ, cvtQ, capV, ↓reduceIte, Zj, Zk, Nat.reduceAdd, Nat.reduceLT, Nat.reduceEqDiff, Nat.reduceMul, Nat.reduceLeDiff, if_true, Zn, reduceCtorEq, ZA, eq_self, Int.reduceLE, Int.reduceLT, Int.reduceToNat, ne_eq, Nat.reduceSub, Tslce47]
  repeat refine And.intro (by omega) ?_
  repeat refine And.intro (by omega) ?_
  intro g
  simp only [List.map_cons, List.map_nil, updL, upd, Nat.reduceEqDiff, if_true, if_false, ↓reduceIte]
  refine hK _ _ ?_; clear hK K
  refine Cd.block ?_
  refine Cd.loop (fun q ρ M => ∃ g k, k + q = l.length ∧ k ≤ l.findIdx (fun c => !coOk c) ∧ ρ = updL [(0, .slice a l.length cap), (1, .func (.func 193) #[] #[]), (7, .int .i64 (l.length : Int)), (8, .int .i64 (k : Int))] g ∧ M = []) l.length ⟨_, 0, Nat.zero_add _, Nat.zero_le _, rfl, rfl⟩ ?_
  rintro q ρ M ⟨g, k, hk, hkb, rfl, rfl⟩
  refine Cd.rs [0, 1, 7, 8, 9] fun K hK => ?_
  simp (maxSteps := 2000000) (disch := first | (simp only [E4] <;> omega) | omega | fail) only [↓E2, E3, bare, bareJ, ↓E0, E1, evP, evPlan, env0, envN, evOps, evOp, evQs, evQ, evV, setD, pureOp, ev, upd, updL, gate, binW, eqOp, binV, intOp, shOp, boolOp, unV, convV, nilV, fieldAddrV, indexAddrV, extractV, cellAt, cellsAt, findB, setB, fillL, buildV, Value.cells, lenV, minV, maxV, hav, sliceV, loV, hiV, bslQ, mksQ, appQ, partsOk, partsCells, delB, eqL, SameI, strOp, apzQ, cvtQ, capV, ↓reduceIte, Zj, Zk, Nat.reduceAdd, Nat.reduceLT, Nat.reduceEqDiff, Nat.reduceMul, Nat.reduceLeDiff, if_true, Zn, reduceCtorEq, ZA, eq_self, Int.reduceLE, Int.reduceLT, Int.reduceToNat, ne_eq, Nat.reduceSub]
  repeat refine And.intro (by omega) ?_
  repeat refine And.intro (by omega) ?_
  intro g
  simp only [List.map_cons, List.map_nil, updL, upd, Nat.reduceEqDiff, if_true, if_false, ↓reduceIte]
  refine hK _ _ ?_; clear hK K
  refine Cd.seq ?_
  refine Cd.condd rfl (fun h3 => ?_) (fun h3 => ?_)
  · obtain ⟨b, rfl, qk⟩ := rd_int h hR (k := k) (by omega)
    have hkl : k < l.length := by omega
    have eg : l.getD k 0 = l[k] := by rw [List.getD_eq_getElem?_getD, List.getElem?_eq_getElem hkl]; rfl
    refine Cd.skip ?_
    refine thenN ?_
    refine Cd.seq ?_
    refine Cd.block ?_
    skip
    refine Cd.rs [0, 1, 5, 7, 8] fun K hK => ?_
    simp (maxSteps := 2000000) (disch := first | (simp only [E4, qk] <;> omega) | omega | fail) only [↓E2, E3, bare, bareJ, ↓E0, E1, evP, evPlan, env0, envN, evOps, evOp, evQs, evQ, evV, setD, pureOp, ev, upd, updL, gate, binW, eqOp, binV, intOp, shOp, boolOp, unV, convV, nilV, fieldAddrV, indexAddrV, extractV, cellAt, cellsAt, findB, setB, fillL, buildV, Value.cells, lenV, minV, maxV, hav, sliceV, loV, hiV, bslQ, mksQ, appQ, partsOk, partsCells, delB, eqL, SameI, strOp, apzQ, cvtQ, capV, ↓reduceIte, Zj, Zk, Nat.reduceAdd, Nat.reduceLT, Nat.reduceEqDiff, Nat.reduceMul, Nat.reduceLeDiff, if_true, Zn, reduceCtorEq, ZA, eq_self, Int.reduceLE, Int.reduceLT, Int.reduceToNat, ne_eq, Nat.reduceSub, qk]
    repeat refine And.intro (by omega) ?_
    repeat refine And.intro (by omega) ?_
    intro g
    simp only [List.map_cons, List.map_nil, updL, upd, Nat.reduceEqDiff, if_true, if_false, ↓reduceIte]
    refine hK _ _ ?_; clear hK K
    refine Cd.rs [0, 1, 5, 7, 8, 16] fun K hK => ?_
    simp (maxSteps := 2000000) (disch := first | (simp only [E4, qk] <;> omega) | omega | fail) only [↓E2, E3, bare, bareJ, ↓E0, E1, evP, evPlan, env0, envN, evOps, evOp, evQs, evQ, evV, setD, pureOp, ev, upd, updL, gate, binW, eqOp, binV, intOp, shOp, boolOp, unV, convV, nilV, fieldAddrV, indexAddrV, extractV, cellAt, cellsAt, findB, setB, fillL, buildV, Value.cells, lenV, minV, maxV, hav, sliceV, loV, hiV, bslQ, mksQ, appQ, partsOk, partsCells, delB, eqL, SameI, strOp, apzQ, cvtQ, capV, ↓reduceIte, Zj, Zk, Nat.reduceAdd, Nat.reduceLT, Nat.reduceEqDiff, Nat.reduceMul, Nat.reduceLeDiff, if_true, Zn, reduceCtorEq, ZA, eq_self, Int.reduceLE, Int.reduceLT, Int.reduceToNat, ne_eq, Nat.reduceSub, Tld2, Tslc47, qk]
    repeat refine And.intro (by omega) ?_
    refine callK_gives (areCoefficients1_c _) ?_
    simp (maxSteps := 2000000) (disch := first | (simp only [E4, qk] <;> omega) | omega | fail) only [↓E2, E3, bare, bareJ, ↓E0, E1, evP, evPlan, env0, envN, evOps, evOp, evQs, evQ, evV, setD, pureOp, ev, upd, updL, gate, binW, eqOp, binV, intOp, shOp, boolOp, unV, convV, nilV, fieldAddrV, indexAddrV, extractV, cellAt, cellsAt, findB, setB, fillL, buildV, Value.cells, lenV, minV, maxV, hav, sliceV, loV, hiV, bslQ, mksQ, appQ, partsOk, partsCells, delB, eqL, SameI, strOp, apzQ, cvtQ, capV, ↓reduceIte, Zj, Zk, Nat.reduceAdd, Nat.reduceLT, Nat.reduceEqDiff, Nat.reduceMul, Nat.reduceLeDiff, if_true, Zn, reduceCtorEq, ZA, eq_self, Int.reduceLE, Int.reduceLT, Int.reduceToNat, ne_eq, Nat.reduceSub, Tld2, Tslc47, qk]
    repeat refine And.intro (by omega) ?_
    repeat refine And.intro (by omega) ?_
    intro g
    simp only [List.map_cons, List.map_nil, updL, upd, Nat.reduceEqDiff, if_true, if_false, ↓reduceIte]
    refine hK _ _ ?_; clear hK K
    refine Cd.cond rfl (fun h4 => ?_) (fun h4 => ?_)
    · have e : l.findIdx (fun c => !coOk c) = k := by
        rcases Nat.lt_or_ge k (l.findIdx (fun c => !coOk c)) with h5 | h5
        · have := List.not_of_lt_findIdx h5
          rw [eg] at h4
          simp only [Bool.not_eq_false', Bool.not_eq_true', Bool.not_not] at this h4
          rw [h4] at this; cases this
        · omega
      refine Cd.rs [4] fun K hK => ?_
      simp (maxSteps := 2000000) (disch := first | (simp only [E4, qk] <;> omega) | omega | fail) only [↓E2, E3, bare, bareJ, ↓E0, E1, evP, evPlan, env0, envN, evOps, evOp, evQs, evQ, evV, setD, pureOp, ev, upd, updL, gate, binW, eqOp, binV, intOp, shOp, boolOp, unV, convV, nilV, fieldAddrV, indexAddrV, extractV, cellAt, cellsAt, findB, setB, fillL, buildV, Value.cells, lenV, minV, maxV, hav, sliceV, loV, hiV, bslQ, mksQ, appQ, partsOk, partsCells, delB, eqL, SameI, strOp, apzQ, cvtQ, capV, ↓reduceIte, Zj, Zk, Nat.reduceAdd, Nat.reduceLT, Nat.reduceEqDiff, Nat.reduceMul, Nat.reduceLeDiff, if_true, Zn, reduceCtorEq, ZA, eq_self, Int.reduceLE, Int.reduceLT, Int.reduceToNat, ne_eq, Nat.reduceSub, qk]
      repeat refine And.intro (by omega) ?_
      repeat refine And.intro (by omega) ?_
      intro g
      simp only [List.map_cons, List.map_nil, updL, upd, Nat.reduceEqDiff, if_true, if_false, ↓reduceIte]
      refine hK _ _ ?_; clear hK K
      refine Cd.ret (inBR (thenR (roundR (inBR (thenR ?_)))))
      simp (maxSteps := 2000000) (disch := first | (simp only [E4, qk] <;> omega) | omega | fail) only [↓E2, E3, bare, bareJ, ↓E0, E1, evP, evPlan, env0, envN, evOps, evOp, evQs, evQ, evV, setD, pureOp, ev, upd, updL, gate, binW, eqOp, binV, intOp, shOp, boolOp, unV, convV, nilV, fieldAddrV, indexAddrV, extractV, cellAt, cellsAt, findB, setB, fillL, buildV, Value.cells, lenV, minV, maxV, hav, sliceV, loV, hiV, bslQ, mksQ, appQ, partsOk, partsCells, delB, eqL, SameI, strOp, apzQ, cvtQ, capV, ↓reduceIte, Zj, Zk, Nat.reduceAdd, Nat.reduceLT, Nat.reduceEqDiff, Nat.reduceMul, Nat.reduceLeDiff, if_true, Zn, reduceCtorEq, ZA, eq_self, Int.reduceLE, Int.reduceLT, Int.reduceToNat, ne_eq, Nat.reduceSub, qk]
      repeat refine And.intro (by omega) ?_
      unfold badI
      rw [e, if_pos hkl]
    · have hne : l.findIdx (fun c => !coOk c) ≠ k := by
        intro e
        have h6 : l.findIdx (fun c => !coOk c) < l.length := by omega
        have := List.findIdx_getElem (w := h6)
        rw [eg] at h4
        simp only [e] at this
        rw [h4] at this
        cases this
      refine Cd.skip ?_
      refine inBN ?_
      refine thenN ?_
      refine Cd.rr [0, 1, 7, 8] fun K hK => ?_
      simp (maxSteps := 2000000) (disch := first | (simp only [E4, qk] <;> omega) | omega | fail) only [↓E2, E3, bare, bareJ, ↓E0, E1, evP, evPlan, env0, envN, evOps, evOp, evQs, evQ, evV, setD, pureOp, ev, upd, updL, gate, binW, eqOp, binV, intOp, shOp, boolOp, unV, convV, nilV, fieldAddrV, indexAddrV, extractV, cellAt, cellsAt, findB, setB, fillL, buildV, Value.cells, lenV, minV, maxV, hav, sliceV, loV, hiV, bslQ, mksQ, appQ, partsOk, partsCells, delB, eqL, SameI, strOp, apzQ, cvtQ, capV, ↓reduceIte, Zj, Zk, Nat.reduceAdd, Nat.reduceLT, Nat.reduceEqDiff, Nat.reduceMul, Nat.reduceLeDiff, if_true, Zn, reduceCtorEq, ZA, eq_self, Int.reduceLE, Int.reduceLT, Int.reduceToNat, ne_eq, Nat.reduceSub, qk]
      repeat refine And.intro (by omega) ?_
      repeat refine And.intro (by omega) ?_
      intro g
      simp only [List.map_cons, List.map_nil, updL, upd, Nat.reduceEqDiff, if_true, if_false, ↓reduceIte]
      refine hK _ _ ?_; clear hK K
      exact roundN (m := q - 1) (by omega) ⟨_, k + 1, by omega, by omega, rfl, rfl⟩
  · refine Cd.exit (thenX (roundX (inBX ?_)))
    refine thenN ?_
    refine Cd.rs [4] fun K hK => ?_
    simp (maxSteps := 2000000) (disch := first | (simp only [E4] <;> omega) | omega | fail) only [↓E2, E3, bare, bareJ, ↓E0, E1, evP, evPlan, env0, envN, evOps, evOp, evQs, evQ, evV, setD, pureOp, ev, upd, updL, gate, binW, eqOp, binV, intOp, shOp, boolOp, unV, convV, nilV, fieldAddrV, indexAddrV, extractV, cellAt, cellsAt, findB, setB, fillL, buildV, Value.cells, lenV, minV, maxV, hav, sliceV, loV, hiV, bslQ, mksQ, appQ, partsOk, partsCells, delB, eqL, SameI, strOp, apzQ, cvtQ, capV, ↓reduceIte, Zj, Zk, Nat.reduceAdd, Nat.reduceLT, Nat.reduceEqDiff, Nat.reduceMul, Nat.reduceLeDiff, if_true, Zn, reduceCtorEq, ZA, eq_self, Int.reduceLE, Int.reduceLT, Int.reduceToNat, ne_eq, Nat.reduceSub]
    repeat refine And.intro (by omega) ?_
    repeat refine And.intro (by omega) ?_
    intro g
    simp only [List.map_cons, List.map_nil, updL, upd, Nat.reduceEqDiff, if_true, if_false, ↓reduceIte]
    refine hK _ _ ?_; clear hK K
    refine Cd.ret ?_
    simp (maxSteps := 2000000) (disch := first | (simp only [E4] <;> omega) | omega | fail) only [↓E2, E3, bare, bareJ, ↓E0, E1, evP, evPlan, env0, envN, evOps, evOp, evQs, evQ, evV, setD, pureOp, ev, upd, updL, gate, binW, eqOp, binV, intOp, shOp, boolOp, unV, convV, nilV, fieldAddrV, indexAddrV, extractV, cellAt, cellsAt, findB, setB, fillL, buildV, Value.cells, lenV, minV, maxV, hav, sliceV, loV, hiV, bslQ, mksQ, appQ, partsOk, partsCells, delB, eqL, SameI, strOp, apzQ, cvtQ, capV, ↓reduceIte, Zj, Zk, Nat.reduceAdd, Nat.reduceLT, Nat.reduceEqDiff, Nat.reduceMul, Nat.reduceLeDiff, if_true, Zn, reduceCtorEq, ZA, eq_self, Int.reduceLE, Int.reduceLT, Int.reduceToNat, ne_eq, Nat.reduceSub]
    repeat refine And.intro (by omega) ?_
    unfold badI
    rw [if_neg (by omega)]
theorem ContainsFunc_c (l : List Int) (R : Rd) (v : Value) (h : RdS R 1 (ints .i64 l) v) (hb : l.length < 4611686018427387904) :
    GivesR Try.prog 192 #[v, .func (.func 193) #[] #[]] R (.bool (!l.all coOk)) := by
  obtain ⟨a, m, cap, rfl, hm, _⟩ := id h
  refine GivesR.of (callable_of Try.func192 rfl (by decide)) fun w hR => ?_
  refine acall_of (N := 9) (c := _) (rs := [.tmp 4]) (args := [_, _]) Try.func192 rfl (by decide) rfl rfl (Nat.le_of_ble_eq_true rfl) ?_
  refine Cd.rs [0, 1] fun K hK => ?_
  simp (maxSteps := 2000000) (disch := first | (simp only [E4] <;> omega) | omega | fail) only [↓E2, E3, bare, bareJ, ↓E0, E1, evP, evPlan, env0, envN, evOps, evOp, evQs, evQ, evV, setD, pureOp, ev, upd, updL, gate, binW, eqOp, binV, intOp, shOp, boolOp, unV, convV, nilV, fieldAddrV, indexAddrV, extractV, cellAt, cellsAt, findB, setB, fillL, buildV, Value.cells, lenV, minV, maxV, hav, sliceV, loV, hiV, bslQ, mksQ, appQ, partsOk, partsCells, delB, eqL, SameI, strOp, apzQ, cvtQ, capV, ↓reduceIte, Zj, Zk, Nat.reduceAdd, Nat.reduceLT, Nat.reduceEqDiff, Nat.reduceMul, Nat.reduceLeDiff, if_true, Zn, reduceCtorEq, ZA, eq_self, Int.reduceLE, Int.reduceLT, Int.reduceToNat, ne_eq, Nat.reduceSub]
  repeat refine And.intro (by omega) ?_
  repeat refine And.intro (by omega) ?_
  intro g
  simp only [List.map_cons, List.map_nil, updL, upd, Nat.reduceEqDiff, if_true, if_false, ↓reduceIte]
  refine hK _ _ ?_; clear hK K
  refine Cd.rs [4] fun K hK => ?_
  simp (maxSteps := 2000000) (disch := first | (simp only [E4] <;> omega) | omega | fail) only [↓E2, E3, bare, bareJ, ↓E0, E1, evP, evPlan, env0, envN, evOps, evOp, evQs, evQ, evV, setD, pureOp, ev, upd, updL, gate, binW, eqOp, binV, intOp, shOp, boolOp, unV, convV, nilV, fieldAddrV, indexAddrV, extractV, cellAt, cellsAt, findB, setB, fillL, buildV, Value.cells, lenV, minV, maxV, hav, sliceV, loV, hiV, bslQ, mksQ, appQ, partsOk, partsCells, delB, eqL, SameI, strOp, apzQ, cvtQ, capV, ↓reduceIte, Zj, Zk, Nat.reduceAdd, Nat.reduceLT, Nat.reduceEqDiff, Nat.reduceMul, Nat.reduceLeDiff, if_true, Zn, reduceCtorEq, ZA, eq_self, Int.reduceLE, Int.reduceLT, Int.reduceToNat, ne_eq, Nat.reduceSub]
  repeat refine And.intro (by omega) ?_
  refine callK_told0 (IndexFunc_c l R _ h hb) hR ?_
  simp (maxSteps := 2000000) (disch := first | (simp only [E4] <;> omega) | omega | fail) only [↓E2, E3, bare, bareJ, ↓E0, E1, evP, evPlan, env0, envN, evOps, evOp, evQs, evQ, evV, setD, pureOp, ev, upd, updL, gate, binW, eqOp, binV, intOp, shOp, boolOp, unV, convV, nilV, fieldAddrV, indexAddrV, extractV, cellAt, cellsAt, findB, setB, fillL, buildV, Value.cells, lenV, minV, maxV, hav, sliceV, loV, hiV, bslQ, mksQ, appQ, partsOk, partsCells, delB, eqL, SameI, strOp, apzQ, cvtQ, capV, ↓reduceIte, Zj, Zk, Nat.reduceAdd, Nat.reduceLT, Nat.reduceEqDiff, Nat.reduceMul, Nat.reduceLeDiff, if_true, Zn, reduceCtorEq, ZA, eq_self, Int.reduceLE, Int.reduceLT, Int.reduceToNat, ne_eq, Nat.reduceSub]
  repeat refine And.intro (by omega) ?_
  repeat refine And.intro (by omega) ?_
  intro g
  simp only [List.map_cons, List.map_nil, updL, upd, Nat.reduceEqDiff, if_true, if_false, ↓reduceIte]
  refine hK _ _ ?_; clear hK K
  refine Cd.ret ?_
  simp (maxSteps := 2000000) (disch := first | (simp only [E4] <;> omega) | omega | fail) only [↓E2, E3, bare, bareJ, ↓E0, E1, evP, evPlan, env0, envN, evOps, evOp, evQs, evQ, evV, setD, pureOp, ev, upd, updL, gate, binW, eqOp, binV, intOp, shOp, boolOp, unV, convV, nilV, fieldAddrV, indexAddrV, extractV, cellAt, cellsAt, findB, setB, fillL, buildV, Value.cells, lenV, minV, maxV, hav, sliceV, loV, hiV, bslQ, mksQ, appQ, partsOk, partsCells, delB, eqL, SameI, strOp, apzQ, cvtQ, capV, ↓reduceIte, Zj, Zk, Nat.reduceAdd, Nat.reduceLT, Nat.reduceEqDiff, Nat.reduceMul, Nat.reduceLeDiff, if_true, Zn, reduceCtorEq, ZA, eq_self, Int.reduceLE, Int.reduceLT, Int.reduceToNat, ne_eq, Nat.reduceSub]
  repeat refine And.intro (by omega) ?_
  rw [badI_all]
theorem areCoefficients_c (l : List Int) (R : Rd) (v : Value) (h : RdS R 1 (ints .i64 l) v) (hb : l.length < 4611686018427387904) : GivesR Try.prog 178 #[v] R (.bool (l.all coOk)) := by
  obtain ⟨a, m, cap, rfl, hm, _⟩ := id h
  refine GivesR.of (callable_of Try.func178 rfl (by decide)) fun w hR => ?_
  refine acall_of (N := 6) (c := _) (rs := [.tmp 2]) (args := [_]) Try.func178 rfl (by decide) rfl rfl (Nat.le_of_ble_eq_true rfl) ?_
  refine Cd.rs [0] fun K hK => ?_
  simp (maxSteps := 2000000) (disch := first | (simp only [E4] <;> omega) | omega | fail) only [↓E2, E3, bare, bareJ, ↓E0, E1, evP, evPlan, env0, envN, evOps, evOp, evQs, evQ, evV, setD, pureOp, ev, upd, updL, gate, binW, eqOp, binV, intOp, shOp, boolOp, unV, convV, nilV, fieldAddrV, indexAddrV, extractV, cellAt, cellsAt, findB, setB, fillL, buildV, Value.cells, lenV, minV, maxV, hav, sliceV, loV, hiV, bslQ, mksQ, appQ, partsOk, partsCells, delB, eqL, SameI, strOp, apzQ, cvtQ, capV, ↓reduceIte, Zj, Zk, Nat.reduceAdd, Nat.reduceLT, Nat.reduceEqDiff, Nat.reduceMul, Nat.reduceLeDiff, if_true, Zn, reduceCtorEq, ZA, eq_self, Int.reduceLE, Int.reduceLT, Int.reduceToNat, ne_eq, Nat.reduceSub]
  repeat refine And.intro (by omega) ?_
  repeat refine And.intro (by omega) ?_
  intro g
  simp only [List.map_cons, List.map_nil, updL, upd, Nat.reduceEqDiff, if_true, if_false, ↓reduceIte]
  refine hK _ _ ?_; clear hK K
  refine Cd.rs [2] fun K hK => ?_
  simp (maxSteps := 2000000) (disch := first | (simp only [E4] <;> omega) | omega | fail) only [↓E2, E3, bare, bareJ, ↓E0, E1, evP, evPlan, env0, envN, evOps, evOp, evQs, evQ, evV, setD, pureOp, ev, upd, updL, gate, binW, eqOp, binV, intOp, shOp, boolOp, unV, convV, nilV, fieldAddrV, indexAddrV, extractV, cellAt, cellsAt, findB, setB, fillL, buildV, Value.cells, lenV, minV, maxV, hav, sliceV, loV, hiV, bslQ, mksQ, appQ, partsOk, partsCells, delB, eqL, SameI, strOp, apzQ, cvtQ, capV, ↓reduceIte, Zj, Zk, Nat.reduceAdd, Nat.reduceLT, Nat.reduceEqDiff, Nat.reduceMul, Nat.reduceLeDiff, if_true, Zn, reduceCtorEq, ZA, eq_self, Int.reduceLE, Int.reduceLT, Int.reduceToNat, ne_eq, Nat.reduceSub]
  repeat refine And.intro (by omega) ?_
  refine callK_told0 (ContainsFunc_c l R _ h hb) hR ?_
  simp (maxSteps := 2000000) (disch := first | (simp only [E4] <;> omega) | omega | fail) only [↓E2, E3, bare, bareJ, ↓E0, E1, evP, evPlan, env0, envN, evOps, evOp, evQs, evQ, evV, setD, pureOp, ev, upd, updL, gate, binW, eqOp, binV, intOp, shOp, boolOp, unV, convV, nilV, fieldAddrV, indexAddrV, extractV, cellAt, cellsAt, findB, setB, fillL, buildV, Value.cells, lenV, minV, maxV, hav, sliceV, loV, hiV, bslQ, mksQ, appQ, partsOk, partsCells, delB, eqL, SameI, strOp, apzQ, cvtQ, capV, ↓reduceIte, Zj, Zk, Nat.reduceAdd, Nat.reduceLT, Nat.reduceEqDiff, Nat.reduceMul, Nat.reduceLeDiff, if_true, Zn, reduceCtorEq, ZA, eq_self, Int.reduceLE, Int.reduceLT, Int.reduceToNat, ne_eq, Nat.reduceSub]
  repeat refine And.intro (by omega) ?_
  repeat refine And.intro (by omega) ?_
  intro g
  simp only [List.map_cons, List.map_nil, updL, upd, Nat.reduceEqDiff, if_true, if_false, ↓reduceIte]
  refine hK _ _ ?_; clear hK K
  refine Cd.ret ?_
  simp (maxSteps := 2000000) (disch := first | (simp only [E4] <;> omega) | omega | fail) only [↓E2, E3, bare, bareJ, ↓E0, E1, evP, evPlan, env0, envN, evOps, evOp, evQs, evQ, evV, setD, pureOp, ev, upd, updL, gate, binW, eqOp, binV, intOp, shOp, boolOp, unV, convV, nilV, fieldAddrV, indexAddrV, extractV, cellAt, cellsAt, findB, setB, fillL, buildV, Value.cells, lenV, minV, maxV, hav, sliceV, loV, hiV, bslQ, mksQ, appQ, partsOk, partsCells, delB, eqL, SameI, strOp, apzQ, cvtQ, capV, ↓reduceIte, Zj, Zk, Nat.reduceAdd, Nat.reduceLT, Nat.reduceEqDiff, Nat.reduceMul, Nat.reduceLeDiff, if_true, Zn, reduceCtorEq, ZA, eq_self, Int.reduceLE, Int.reduceLT, Int.reduceToNat, ne_eq, Nat.reduceSub]
  repeat refine And.intro (by omega) ?_
  rw [Bool.not_not]
theorem isZero_c (low : Int) (l : List Int) (a : Option Addr) (cap : Nat) : Gives Try.prog 126 #[.agg #[.int .i64 low, .slice a l.length cap]] (.bool ((l.length : Int) == 0)) := by
  refine Gives.of fun w => ?_
  refine acall_of (N := 7) (c := _) (rs := [.tmp 2]) (args := [_]) Try.func126 rfl (by decide) rfl rfl (Nat.le_of_ble_eq_true rfl) ?_
  refine Cd.rs [1] fun K hK => ?_
  simp (maxSteps := 2000000) (disch := first | (simp only [E4] <;> omega) | omega | fail) only [↓E2, E3, bare, bareJ, ↓E0, E1, evP, evPlan, env0, envN, evOps, evOp, evQs, evQ, evV, setD, pureOp, ev, upd, updL, gate, binW, eqOp, binV, intOp, shOp, boolOp, unV, convV, nilV, fieldAddrV, indexAddrV, extractV, cellAt, cellsAt, findB, setB, fillL, buildV, Value.cells, lenV, minV, maxV, hav, sliceV, loV, hiV, bslQ, mksQ, appQ, partsOk, partsCells, delB, eqL, SameI, strOp, apzQ, cvtQ, capV, ↓reduceIte, Zj, Zk, Nat.reduceAdd, Nat.reduceLT, Nat.reduceEqDiff, Nat.reduceMul, Nat.reduceLeDiff, if_true, Zn, reduceCtorEq, ZA, eq_self, Int.reduceLE, Int.reduceLT, Int.reduceToNat, ne_eq, Nat.reduceSub]
  repeat refine And.intro (by omega) ?_
  intro b1 hb1
  try simp (maxSteps := 2000000) (disch := first | (simp only [E4] <;> omega) | omega | fail) only [↓E2, E3, bare, bareJ, ↓E0, E1, evP, evPlan, env0, envN, evOps, evOp, evQs, evQ, evV, setD, pureOp, ev, upd, updL, gate, binW, eqOp, binV, intOp, shOp, boolOp, unV, convV, nilV, fieldAddrV, indexAddrV, extractV, cellAt, cellsAt, findB, setB, fillL, buildV, Value.cells, lenV, minV, maxV, hav, sliceV, loV, hiV, bslQ, mksQ, appQ, partsOk, partsCells, delB, eqL, SameI, strOp, apzQ, cvtQ, capV, ↓reduceIte, Zj, Zk, Nat.reduceAdd, Nat.reduceLT, Nat.reduceEqDiff, Nat.reduceMul, Nat.reduceLeDiff, if_true, Zn, reduceCtorEq, ZA, eq_self, Int.reduceLE, Int.reduceLT, Int.reduceToNat, ne_eq, Nat.reduceSub]
  repeat refine And.intro (by omega) ?_
  repeat refine And.intro (by omega) ?_
  intro g
  simp only [List.map_cons, List.map_nil, updL, upd, Nat.reduceEqDiff, if_true, if_false, ↓reduceIte]
  refine hK _ _ ?_; clear hK K
  refine Cd.rs [2] fun K hK => ?_
  simp (maxSteps := 2000000) (disch := first | (simp only [E4] <;> omega) | omega | fail) only [↓E2, E3, bare, bareJ, ↓E0, E1, evP, evPlan, env0, envN, evOps, evOp, evQs, evQ, evV, setD, pureOp, ev, upd, updL, gate, binW, eqOp, binV, intOp, shOp, boolOp, unV, convV, nilV, fieldAddrV, indexAddrV, extractV, cellAt, cellsAt, findB, setB, fillL, buildV, Value.cells, lenV, minV, maxV, hav, sliceV, loV, hiV, bslQ, mksQ, appQ, partsOk, partsCells, delB, eqL, SameI, strOp, apzQ, cvtQ, capV, ↓reduceIte, Zj, Zk, Nat.reduceAdd, Nat.reduceLT, Nat.reduceEqDiff, Nat.reduceMul, Nat.reduceLeDiff, if_true, Zn, reduceCtorEq, ZA, eq_self, Int.reduceLE, Int.reduceLT, Int.reduceToNat, ne_eq, Nat.reduceSub, Tfld56_1, Tld47, Tslce47]
  repeat refine And.intro (by omega) ?_
  repeat refine And.intro (by omega) ?_
  intro g
  simp only [List.map_cons, List.map_nil, updL, upd, Nat.reduceEqDiff, if_true, if_false, ↓reduceIte]
  refine hK _ _ ?_; clear hK K
  refine Cd.ret ?_
  simp (maxSteps := 2000000) (disch := first | (simp only [E4] <;> omega) | omega | fail) only [↓E2, E3, bare, bareJ, ↓E0, E1, evP, evPlan, env0, envN, evOps, evOp, evQs, evQ, evV, setD, pureOp, ev, upd, updL, gate, binW, eqOp, binV, intOp, shOp, boolOp, unV, convV, nilV, fieldAddrV, indexAddrV, extractV, cellAt, cellsAt, findB, setB, fillL, buildV, Value.cells, lenV, minV, maxV, hav, sliceV, loV, hiV, bslQ, mksQ, appQ, partsOk, partsCells, delB, eqL, SameI, strOp, apzQ, cvtQ, capV, ↓reduceIte, Zj, Zk, Nat.reduceAdd, Nat.reduceLT, Nat.reduceEqDiff, Nat.reduceMul, Nat.reduceLeDiff, if_true, Zn, reduceCtorEq, ZA, eq_self, Int.reduceLE, Int.reduceLT, Int.reduceToNat, ne_eq, Nat.reduceSub]
  repeat refine And.intro (by omega) ?_
theorem high_c (low : Int) (l : List Int) (a : Option Addr) (cap : Nat) (hl : -100000000 ≤ low ∧ low ≤ 100000000) (hb : l.length ≤ 100000000) : Gives Try.prog 129 #[.agg #[.int .i64 low, .slice a l.length cap]] (.int .i64 (low + (l.length : Int) - 1)) := by
  refine Gives.of fun w => ?_
  refine acall_of (N := 10) (c := _) (rs := [.tmp 2]) (args := [_]) Try.func129 rfl (by decide) rfl rfl (Nat.le_of_ble_eq_true rfl) ?_
  refine Cd.rs [1] fun K hK => ?_
  simp (maxSteps := 2000000) (disch := first | (simp only [E4] <;> omega) | omega | fail) only [↓E2, E3, bare, bareJ, ↓E0, E1, evP, evPlan, env0, envN, evOps, evOp, evQs, evQ, evV, setD, pureOp, ev, upd, updL, gate, binW, eqOp, binV, intOp, shOp, boolOp, unV, convV, nilV, fieldAddrV, indexAddrV, extractV, cellAt, cellsAt, findB, setB, fillL, buildV, Value.cells, lenV, minV, maxV, hav, sliceV, loV, hiV, bslQ, mksQ, appQ, partsOk, partsCells, delB, eqL, SameI, strOp, apzQ, cvtQ, capV, ↓reduceIte, Zj, Zk, Nat.reduceAdd, Nat.reduceLT, Nat.reduceEqDiff, Nat.reduceMul, Nat.reduceLeDiff, if_true, Zn, reduceCtorEq, ZA, eq_self, Int.reduceLE, Int.reduceLT, Int.reduceToNat, ne_eq, Nat.reduceSub]
  repeat refine And.intro (by omega) ?_
  intro b1 hb1
  try simp (maxSteps := 2000000) (disch := first | (simp only [E4] <;> omega) | omega | fail) only [↓E2, E3, bare, bareJ, ↓E0, E1, evP, evPlan, env0, envN, evOps, evOp, evQs, evQ, evV, setD, pureOp, ev, upd, updL, gate, binW, eqOp, binV, intOp, shOp, boolOp, unV, convV, nilV, fieldAddrV, indexAddrV, extractV, cellAt, cellsAt, findB, setB, fillL, buildV, Value.cells, lenV, minV, maxV, hav, sliceV, loV, hiV, bslQ, mksQ, appQ, partsOk, partsCells, delB, eqL, SameI, strOp, apzQ, cvtQ, capV, ↓reduceIte, Zj, Zk, Nat.reduceAdd, Nat.reduceLT, Nat.reduceEqDiff, Nat.reduceMul, Nat.reduceLeDiff, if_true, Zn, reduceCtorEq, ZA, eq_self, Int.reduceLE, Int.reduceLT, Int.reduceToNat, ne_eq, Nat.reduceSub]
  repeat refine And.intro (by omega) ?_
  repeat refine And.intro (by omega) ?_
  intro g
  simp only [List.map_cons, List.map_nil, updL, upd, Nat.reduceEqDiff, if_true, if_false, ↓reduceIte]
  refine hK _ _ ?_; clear hK K
  refine Cd.rs [2] fun K hK => ?_
  simp (maxSteps := 2000000) (disch := first | (simp only [E4] <;> omega) | omega | fail) only [↓E2, E3, bare, bareJ, ↓E0, E1, evP, evPlan, env0, envN, evOps, evOp, evQs, evQ, evV, setD, pureOp, ev, upd, updL, gate, binW, eqOp, binV, intOp, shOp, boolOp, unV, convV, nilV, fieldAddrV, indexAddrV, extractV, cellAt, cellsAt, findB, setB, fillL, buildV, Value.cells, lenV, minV, maxV, hav, sliceV, loV, hiV, bslQ, mksQ, appQ, partsOk, partsCells, delB, eqL, SameI, strOp, apzQ, cvtQ, capV, ↓reduceIte, Zj, Zk, Nat.reduceAdd, Nat.reduceLT, Nat.reduceEqDiff, Nat.reduceMul, Nat.reduceLeDiff, if_true, Zn, reduceCtorEq, ZA, eq_self, Int.reduceLE, Int.reduceLT, Int.reduceToNat, ne_eq, Nat.reduceSub, Tfld56_0, Tfld56_1, Tld2, Tld47, Tslce47]
  repeat refine And.intro (by omega) ?_
  repeat refine And.intro (by omega) ?_
  intro g
  simp only [List.map_cons, List.map_nil, updL, upd, Nat.reduceEqDiff, if_true, if_false, ↓reduceIte]
  refine hK _ _ ?_; clear hK K
  refine Cd.ret ?_
  simp (maxSteps := 2000000) (disch := first | (simp only [E4] <;> omega) | omega | fail) only [↓E2, E3, bare, bareJ, ↓E0, E1, evP, evPlan, env0, envN, evOps, evOp, evQs, evQ, evV, setD, pureOp, ev, upd, updL, gate, binW, eqOp, binV, intOp, shOp, boolOp, unV, convV, nilV, fieldAddrV, indexAddrV, extractV, cellAt, cellsAt, findB, setB, fillL, buildV, Value.cells, lenV, minV, maxV, hav, sliceV, loV, hiV, bslQ, mksQ, appQ, partsOk, partsCells, delB, eqL, SameI, strOp, apzQ, cvtQ, capV, ↓reduceIte, Zj, Zk, Nat.reduceAdd, Nat.reduceLT, Nat.reduceEqDiff, Nat.reduceMul, Nat.reduceLeDiff, if_true, Zn, reduceCtorEq, ZA, eq_self, Int.reduceLE, Int.reduceLT, Int.reduceToNat, ne_eq, Nat.reduceSub]
  repeat refine And.intro (by omega) ?_
theorem IsLaurent_c (low : Int) (l : List Int) (R : Rd) (v : Value) (h : RdL R low l v) (hb : l.length ≤ 100000000) (hw : -9223372036854775808 ≤ low ∧ low < 9223372036854775808) : GivesR Try.prog 125 #[v] R (.bool (lauOk low l)) := by
  obtain ⟨a, cap, rfl, hs⟩ := h.form
  refine GivesR.of (callable_of Try.func125 rfl (by decide)) fun w hR => ?_
  refine acall_of (N := 43) (c := _) (rs := [.tmp 2]) (args := [_]) Try.func125 rfl (by decide) rfl rfl (Nat.le_of_ble_eq_true rfl) ?_
  refine Cd.rs [1] fun K hK => ?_
  simp (maxSteps := 2000000) (disch := first | (simp only [E4] <;> omega) | omega | fail) only [↓E2, E3, bare, bareJ, ↓E0, E1, evP, evPlan, env0, envN, evOps, evOp, evQs, evQ, evV, setD, pureOp, ev, upd, updL, gate, binW, eqOp, binV, intOp, shOp, boolOp, unV, convV, nilV, fieldAddrV, indexAddrV, extractV, cellAt, cellsAt, findB, setB, fillL, buildV, Value.cells, lenV, minV, maxV, hav, sliceV, loV, hiV, bslQ, mksQ, appQ, partsOk, partsCells, delB, eqL, SameI, strOp, apzQ, cvtQ, capV, ↓reduceIte, Zj, Zk, Nat.reduceAdd, Nat.reduceLT, Nat.reduceEqDiff, Nat.reduceMul, Nat.reduceLeDiff, if_true, Zn, reduceCtorEq, ZA, eq_self, Int.reduceLE, Int.reduceLT, Int.reduceToNat, ne_eq, Nat.reduceSub]
  repeat refine And.intro (by omega) ?_
  intro b1 hb1
  try simp (maxSteps := 2000000) (disch := first | (simp only [E4] <;> omega) | omega | fail) only [↓E2, E3, bare, bareJ, ↓E0, E1, evP, evPlan, env0, envN, evOps, evOp, evQs, evQ, evV, setD, pureOp, ev, upd, updL, gate, binW, eqOp, binV, intOp, shOp, boolOp, unV, convV, nilV, fieldAddrV, indexAddrV, extractV, cellAt, cellsAt, findB, setB, fillL, buildV, Value.cells, lenV, minV, maxV, hav, sliceV, loV, hiV, bslQ, mksQ, appQ, partsOk, partsCells, delB, eqL, SameI, strOp, apzQ, cvtQ, capV, ↓reduceIte, Zj, Zk, Nat.reduceAdd, Nat.reduceLT, Nat.reduceEqDiff, Nat.reduceMul, Nat.reduceLeDiff, if_true, Zn, reduceCtorEq, ZA, eq_self, Int.reduceLE, Int.reduceLT, Int.reduceToNat, ne_eq, Nat.reduceSub]
  repeat refine And.intro (by omega) ?_
  repeat refine And.intro (by omega) ?_
  intro g
  simp only [List.map_cons, List.map_nil, updL, upd, Nat.reduceEqDiff, if_true, if_false, ↓reduceIte]
  refine hK _ _ ?_; clear hK K
  refine Cd.seq ?_
  refine Cd.rs [1, 5] fun K hK => ?_
  simp (maxSteps := 2000000) (disch := first | (simp only [E4] <;> omega) | omega | fail) only [↓E2, E3, bare, bareJ, ↓E0, E1, evP, evPlan, env0, envN, evOps, evOp, evQs, evQ, evV, setD, pureOp, ev, upd, updL, gate, binW, eqOp, binV, intOp, shOp, boolOp, unV, convV, nilV, fieldAddrV, indexAddrV, extractV, cellAt, cellsAt, findB, setB, fillL, buildV, Value.cells, lenV, minV, maxV, hav, sliceV, loV, hiV, bslQ, mksQ, appQ, partsOk, partsCells, delB, eqL, SameI, strOp, apzQ, cvtQ, capV, ↓reduceIte, Zj, Zk, Nat.reduceAdd, Nat.reduceLT, Nat.reduceEqDiff, Nat.reduceMul, Nat.reduceLeDiff, if_true, Zn, reduceCtorEq, ZA, eq_self, Int.reduceLE, Int.reduceLT, Int.reduceToNat, ne_eq, Nat.reduceSub, Tld56]
  repeat refine And.intro (by omega) ?_
  refine callK_gives (isZero_c low l a cap) ?_
  simp (maxSteps := 2000000) (disch := first | (simp only [E4] <;> omega) | omega | fail) only [↓E2, E3, bare, bareJ, ↓E0, E1, evP, evPlan, env0, envN, evOps, evOp, evQs, evQ, evV, setD, pureOp, ev, upd, updL, gate, binW, eqOp, binV, intOp, shOp, boolOp, unV, convV, nilV, fieldAddrV, indexAddrV, extractV, cellAt, cellsAt, findB, setB, fillL, buildV, Value.cells, lenV, minV, maxV, hav, sliceV, loV, hiV, bslQ, mksQ, appQ, partsOk, partsCells, delB, eqL, SameI, strOp, apzQ, cvtQ, capV, ↓reduceIte, Zj, Zk, Nat.reduceAdd, Nat.reduceLT, Nat.reduceEqDiff, Nat.reduceMul, Nat.reduceLeDiff, if_true, Zn, reduceCtorEq, ZA, eq_self, Int.reduceLE, Int.reduceLT, Int.reduceToNat, ne_eq, Nat.reduceSub, Tld56]
  repeat refine And.intro (by omega) ?_
  repeat refine And.intro (by omega) ?_
  intro g
  simp only [List.map_cons, List.map_nil, updL, upd, Nat.reduceEqDiff, if_true, if_false, ↓reduceIte]
  refine hK _ _ ?_; clear hK K
  refine Cd.cond rfl (fun h1 => ?_) (fun h1 => ?_)
  · simp only [decide_eq_true_eq, decide_eq_false_iff_not, beq_iff_eq, beq_eq_false_iff_ne, bne_iff_ne, bne_eq_false_iff_eq, Bool.and_eq_true, Bool.or_eq_true, Bool.or_eq_false_iff, Bool.not_eq_true', Bool.not_eq_false', Bool.and_eq_false_imp, ne_eq, gt_iff_lt, ge_iff_le, Int.not_lt, Int.not_le, Classical.not_not] at h1
    refine Cd.rs [2] fun K hK => ?_
    simp (maxSteps := 2000000) (disch := first | (simp only [E4] <;> omega) | omega | fail) only [↓E2, E3, bare, bareJ, ↓E0, E1, evP, evPlan, env0, envN, evOps, evOp, evQs, evQ, evV, setD, pureOp, ev, upd, updL, gate, binW, eqOp, binV, intOp, shOp, boolOp, unV, convV, nilV, fieldAddrV, indexAddrV, extractV, cellAt, cellsAt, findB, setB, fillL, buildV, Value.cells, lenV, minV, maxV, hav, sliceV, loV, hiV, bslQ, mksQ, appQ, partsOk, partsCells, delB, eqL, SameI, strOp, apzQ, cvtQ, capV, ↓reduceIte, Zj, Zk, Nat.reduceAdd, Nat.reduceLT, Nat.reduceEqDiff, Nat.reduceMul, Nat.reduceLeDiff, if_true, Zn, reduceCtorEq, ZA, eq_self, Int.reduceLE, Int.reduceLT, Int.reduceToNat, ne_eq, Nat.reduceSub, Tfld56_0, Tld2]
    repeat refine And.intro (by omega) ?_
    repeat refine And.intro (by omega) ?_
    intro g
    simp only [List.map_cons, List.map_nil, updL, upd, Nat.reduceEqDiff, if_true, if_false, ↓reduceIte]
    refine hK _ _ ?_; clear hK K
    refine Cd.ret (thenR ?_)
    simp (maxSteps := 2000000) (disch := first | (simp only [E4] <;> omega) | omega | fail) only [↓E2, E3, bare, bareJ, ↓E0, E1, evP, evPlan, env0, envN, evOps, evOp, evQs, evQ, evV, setD, pureOp, ev, upd, updL, gate, binW, eqOp, binV, intOp, shOp, boolOp, unV, convV, nilV, fieldAddrV, indexAddrV, extractV, cellAt, cellsAt, findB, setB, fillL, buildV, Value.cells, lenV, minV, maxV, hav, sliceV, loV, hiV, bslQ, mksQ, appQ, partsOk, partsCells, delB, eqL, SameI, strOp, apzQ, cvtQ, capV, ↓reduceIte, Zj, Zk, Nat.reduceAdd, Nat.reduceLT, Nat.reduceEqDiff, Nat.reduceMul, Nat.reduceLeDiff, if_true, Zn, reduceCtorEq, ZA, eq_self, Int.reduceLE, Int.reduceLT, Int.reduceToNat, ne_eq, Nat.reduceSub]
    repeat refine And.intro (by omega) ?_
    rw [lauOk_zero (by omega)]
    congr 1
  · simp only [decide_eq_true_eq, decide_eq_false_iff_not, beq_iff_eq, beq_eq_false_iff_ne, bne_iff_ne, bne_eq_false_iff_eq, Bool.and_eq_true, Bool.or_eq_true, Bool.or_eq_false_iff, Bool.not_eq_true', Bool.not_eq_false', Bool.and_eq_false_imp, ne_eq, gt_iff_lt, ge_iff_le, Int.not_lt, Int.not_le, Classical.not_not] at h1
    have hlast : l.length - 1 < l.length := by omega
    obtain ⟨b, rfl, q0⟩ := rd_int hs hR (k := 0) (by omega)
    obtain ⟨_, e, ql⟩ := rd_int hs hR hlast
    cases e
    have n1 := told_ne hb1 q0
    have e1 : ((l.length : Int) - 1).toNat = l.length - 1 := by omega
    refine Cd.skip ?_
    refine thenN ?_
    refine Cd.rs [1, 3] fun K hK => ?_
    simp (maxSteps := 2000000) (disch := first | (simp only [E4] <;> omega) | omega | fail) only [↓E2, E3, bare, bareJ, ↓E0, E1, evP, evPlan, env0, envN, evOps, evOp, evQs, evQ, evV, setD, pureOp, ev, upd, updL, gate, binW, eqOp, binV, intOp, shOp, boolOp, unV, convV, nilV, fieldAddrV, indexAddrV, extractV, cellAt, cellsAt, findB, setB, fillL, buildV, Value.cells, lenV, minV, maxV, hav, sliceV, loV, hiV, bslQ, mksQ, appQ, partsOk, partsCells, delB, eqL, SameI, strOp, apzQ, cvtQ, capV, ↓reduceIte, Zj, Zk, Nat.reduceAdd, Nat.reduceLT, Nat.reduceEqDiff, Nat.reduceMul, Nat.reduceLeDiff, if_true, Zn, reduceCtorEq, ZA, eq_self, Int.reduceLE, Int.reduceLT, Int.reduceToNat, ne_eq, Nat.reduceSub, Tfld56_1, Tld47]
    repeat refine And.intro (by omega) ?_
    repeat refine And.intro (by omega) ?_
    intro g
    simp only [List.map_cons, List.map_nil, updL, upd, Nat.reduceEqDiff, if_true, if_false, ↓reduceIte]
    refine hK _ _ ?_; clear hK K
    skip
    refine Cd.rs [2] fun K hK => ?_
    simp (maxSteps := 2000000) (disch := first | (simp only [E4, q0, ql, n1, e1] <;> omega) | omega | fail) only [↓E2, E3, bare, bareJ, ↓E0, E1, evP, evPlan, env0, envN, evOps, evOp, evQs, evQ, evV, setD, pureOp, ev, upd, updL, gate, binW, eqOp, binV, intOp, shOp, boolOp, unV, convV, nilV, fieldAddrV, indexAddrV, extractV, cellAt, cellsAt, findB, setB, fillL, buildV, Value.cells, lenV, minV, maxV, hav, sliceV, loV, hiV, bslQ, mksQ, appQ, partsOk, partsCells, delB, eqL, SameI, strOp, apzQ, cvtQ, capV, ↓reduceIte, Zj, Zk, Nat.reduceAdd, Nat.reduceLT, Nat.reduceEqDiff, Nat.reduceMul, Nat.reduceLeDiff, if_true, Zn, reduceCtorEq, ZA, eq_self, Int.reduceLE, Int.reduceLT, Int.reduceToNat, ne_eq, Nat.reduceSub, Tfld56_0, Tld2, Tld56, Tslc47, Tslce47, q0, ql, n1, e1]
    repeat refine And.intro (by omega) ?_
    refine callK_gives (within_c _ _ _) ?_
    simp (maxSteps := 2000000) (disch := first | (simp only [E4, q0, ql, n1, e1] <;> omega) | omega | fail) only [↓E2, E3, bare, bareJ, ↓E0, E1, evP, evPlan, env0, envN, evOps, evOp, evQs, evQ, evV, setD, pureOp, ev, upd, updL, gate, binW, eqOp, binV, intOp, shOp, boolOp, unV, convV, nilV, fieldAddrV, indexAddrV, extractV, cellAt, cellsAt, findB, setB, fillL, buildV, Value.cells, lenV, minV, maxV, hav, sliceV, loV, hiV, bslQ, mksQ, appQ, partsOk, partsCells, delB, eqL, SameI, strOp, apzQ, cvtQ, capV, ↓reduceIte, Zj, Zk, Nat.reduceAdd, Nat.reduceLT, Nat.reduceEqDiff, Nat.reduceMul, Nat.reduceLeDiff, if_true, Zn, reduceCtorEq, ZA, eq_self, Int.reduceLE, Int.reduceLT, Int.reduceToNat, ne_eq, Nat.reduceSub, Tfld56_0, Tld2, Tld56, Tslc47, Tslce47, q0, ql, n1, e1]
    repeat refine And.intro (by omega) ?_
    apply guardX_and 3 [15, 16, 17] (j := 3) (d := 14) (tp := 18) (tl := 17) rfl rfl rfl rfl rfl
    · intro hq
      simp (maxSteps := 2000000) (disch := first | (simp only [E4, q0, ql, n1, e1] <;> omega) | omega | fail) only [↓E2, E3, bare, bareJ, ↓E0, E1, evP, evPlan, env0, envN, evOps, evOp, evQs, evQ, evV, setD, pureOp, ev, upd, updL, gate, binW, eqOp, binV, intOp, shOp, boolOp, unV, convV, nilV, fieldAddrV, indexAddrV, extractV, cellAt, cellsAt, findB, setB, fillL, buildV, Value.cells, lenV, minV, maxV, hav, sliceV, loV, hiV, bslQ, mksQ, appQ, partsOk, partsCells, delB, eqL, SameI, strOp, apzQ, cvtQ, capV, ↓reduceIte, Zj, Zk, Nat.reduceAdd, Nat.reduceLT, Nat.reduceEqDiff, Nat.reduceMul, Nat.reduceLeDiff, if_true, Zn, reduceCtorEq, ZA, eq_self, Int.reduceLE, Int.reduceLT, Int.reduceToNat, ne_eq, Nat.reduceSub, Tfld56_0, Tld2, Tld56, Tslc47, Tslce47, q0, ql, n1, e1]
      repeat refine And.intro (by omega) ?_
      exact rfl
    intro g
    simp (maxSteps := 2000000) (disch := first | (simp only [E4, q0, ql, n1, e1] <;> omega) | omega | fail) only [↓E2, E3, bare, bareJ, ↓E0, E1, evP, evPlan, env0, envN, evOps, evOp, evQs, evQ, evV, setD, pureOp, ev, upd, updL, gate, binW, eqOp, binV, intOp, shOp, boolOp, unV, convV, nilV, fieldAddrV, indexAddrV, extractV, cellAt, cellsAt, findB, setB, fillL, buildV, Value.cells, lenV, minV, maxV, hav, sliceV, loV, hiV, bslQ, mksQ, appQ, partsOk, partsCells, delB, eqL, SameI, strOp, apzQ, cvtQ, capV, ↓reduceIte, Zj, Zk, Nat.reduceAdd, Nat.reduceLT, Nat.reduceEqDiff, Nat.reduceMul, Nat.reduceLeDiff, if_true, Zn, reduceCtorEq, ZA, eq_self, Int.reduceLE, Int.reduceLT, Int.reduceToNat, ne_eq, Nat.reduceSub, Tfld56_0, Tld2, Tld56, Tslc47, Tslce47, q0, ql, n1, e1]
    repeat refine And.intro (by omega) ?_
    apply guardX_and 3 [20, 21, 22] (j := 8) (d := 19) (tp := 23) (tl := 22) rfl rfl rfl rfl rfl
    · intro hq
      simp only [decide_eq_true_eq, decide_eq_false_iff_not, beq_iff_eq, beq_eq_false_iff_ne, bne_iff_ne, bne_eq_false_iff_eq, Bool.and_eq_true, Bool.or_eq_true, Bool.or_eq_false_iff, Bool.not_eq_true', Bool.not_eq_false', Bool.and_eq_false_imp, ne_eq, gt_iff_lt, ge_iff_le, Int.not_lt, Int.not_le, Classical.not_not] at hq
      simp (maxSteps := 2000000) (disch := first | (simp only [E4, q0, ql, n1, e1] <;> omega) | omega | fail) only [↓E2, E3, bare, bareJ, ↓E0, E1, evP, evPlan, env0, envN, evOps, evOp, evQs, evQ, evV, setD, pureOp, ev, upd, updL, gate, binW, eqOp, binV, intOp, shOp, boolOp, unV, convV, nilV, fieldAddrV, indexAddrV, extractV, cellAt, cellsAt, findB, setB, fillL, buildV, Value.cells, lenV, minV, maxV, hav, sliceV, loV, hiV, bslQ, mksQ, appQ, partsOk, partsCells, delB, eqL, SameI, strOp, apzQ, cvtQ, capV, ↓reduceIte, Zj, Zk, Nat.reduceAdd, Nat.reduceLT, Nat.reduceEqDiff, Nat.reduceMul, Nat.reduceLeDiff, if_true, Zn, reduceCtorEq, ZA, eq_self, Int.reduceLE, Int.reduceLT, Int.reduceToNat, ne_eq, Nat.reduceSub, Tfld56_0, Tld2, Tld56, Tslc47, Tslce47, q0, ql, n1, e1]
      repeat refine And.intro (by omega) ?_
      refine callK_gives (high_c low l _ cap (by omega) (by omega)) ?_
      simp (maxSteps := 2000000) (disch := first | (simp only [E4, q0, ql, n1, e1] <;> omega) | omega | fail) only [↓E2, E3, bare, bareJ, ↓E0, E1, evP, evPlan, env0, envN, evOps, evOp, evQs, evQ, evV, setD, pureOp, ev, upd, updL, gate, binW, eqOp, binV, intOp, shOp, boolOp, unV, convV, nilV, fieldAddrV, indexAddrV, extractV, cellAt, cellsAt, findB, setB, fillL, buildV, Value.cells, lenV, minV, maxV, hav, sliceV, loV, hiV, bslQ, mksQ, appQ, partsOk, partsCells, delB, eqL, SameI, strOp, apzQ, cvtQ, capV, ↓reduceIte, Zj, Zk, Nat.reduceAdd, Nat.reduceLT, Nat.reduceEqDiff, Nat.reduceMul, Nat.reduceLeDiff, if_true, Zn, reduceCtorEq, ZA, eq_self, Int.reduceLE, Int.reduceLT, Int.reduceToNat, ne_eq, Nat.reduceSub, Tfld56_0, Tld2, Tld56, Tslc47, Tslce47, q0, ql, n1, e1]
      repeat refine And.intro (by omega) ?_
      exact rfl
    intro g
    simp (maxSteps := 2000000) (disch := first | (simp only [E4, q0, ql, n1, e1] <;> omega) | omega | fail) only [↓E2, E3, bare, bareJ, ↓E0, E1, evP, evPlan, env0, envN, evOps, evOp, evQs, evQ, evV, setD, pureOp, ev, upd, updL, gate, binW, eqOp, binV, intOp, shOp, boolOp, unV, convV, nilV, fieldAddrV, indexAddrV, extractV, cellAt, cellsAt, findB, setB, fillL, buildV, Value.cells, lenV, minV, maxV, hav, sliceV, loV, hiV, bslQ, mksQ, appQ, partsOk, partsCells, delB, eqL, SameI, strOp, apzQ, cvtQ, capV, ↓reduceIte, Zj, Zk, Nat.reduceAdd, Nat.reduceLT, Nat.reduceEqDiff, Nat.reduceMul, Nat.reduceLeDiff, if_true, Zn, reduceCtorEq, ZA, eq_self, Int.reduceLE, Int.reduceLT, Int.reduceToNat, ne_eq, Nat.reduceSub, Tfld56_0, Tld2, Tld56, Tslc47, Tslce47, q0, ql, n1, e1]
    repeat refine And.intro (by omega) ?_
    apply guardX_and 4 [25, 26, 27, 28] (j := 13) (d := 24) (tp := 29) (tl := 28) rfl rfl rfl rfl rfl
    · intro hq
      simp (maxSteps := 2000000) (disch := first | (simp only [E4, q0, ql, n1, e1] <;> omega) | omega | fail) only [↓E2, E3, bare, bareJ, ↓E0, E1, evP, evPlan, env0, envN, evOps, evOp, evQs, evQ, evV, setD, pureOp, ev, upd, updL, gate, binW, eqOp, binV, intOp, shOp, boolOp, unV, convV, nilV, fieldAddrV, indexAddrV, extractV, cellAt, cellsAt, findB, setB, fillL, buildV, Value.cells, lenV, minV, maxV, hav, sliceV, loV, hiV, bslQ, mksQ, appQ, partsOk, partsCells, delB, eqL, SameI, strOp, apzQ, cvtQ, capV, ↓reduceIte, Zj, Zk, Nat.reduceAdd, Nat.reduceLT, Nat.reduceEqDiff, Nat.reduceMul, Nat.reduceLeDiff, if_true, Zn, reduceCtorEq, ZA, eq_self, Int.reduceLE, Int.reduceLT, Int.reduceToNat, ne_eq, Nat.reduceSub, Tfld56_0, Tld2, Tld56, Tslc47, Tslce47, q0, ql, n1, e1]
      repeat refine And.intro (by omega) ?_
      exact rfl
    intro g
    simp (maxSteps := 2000000) (disch := first | (simp only [E4, q0, ql, n1, e1] <;> omega) | omega | fail) only [↓E2, E3, bare, bareJ, ↓E0, E1, evP, evPlan, env0, envN, evOps, evOp, evQs, evQ, evV, setD, pureOp, ev, upd, updL, gate, binW, eqOp, binV, intOp, shOp, boolOp, unV, convV, nilV, fieldAddrV, indexAddrV, extractV, cellAt, cellsAt, findB, setB, fillL, buildV, Value.cells, lenV, minV, maxV, hav, sliceV, loV, hiV, bslQ, mksQ, appQ, partsOk, partsCells, delB, eqL, SameI, strOp, apzQ, cvtQ, capV, ↓reduceIte, Zj, Zk, Nat.reduceAdd, Nat.reduceLT, Nat.reduceEqDiff, Nat.reduceMul, Nat.reduceLeDiff, if_true, Zn, reduceCtorEq, ZA, eq_self, Int.reduceLE, Int.reduceLT, Int.reduceToNat, ne_eq, Nat.reduceSub, Tfld56_0, Tld2, Tld56, Tslc47, Tslce47, q0, ql, n1, e1]
    repeat refine And.intro (by omega) ?_
    apply guardX_and 7 [31, 32, 33, 34, 35, 36, 37] (j := 19) (d := 30) (tp := 38) (tl := 37) rfl rfl rfl rfl rfl
    · intro hq
      simp (maxSteps := 2000000) (disch := first | (simp only [E4, q0, ql, n1, e1] <;> omega) | omega | fail) only [↓E2, E3, bare, bareJ, ↓E0, E1, evP, evPlan, env0, envN, evOps, evOp, evQs, evQ, evV, setD, pureOp, ev, upd, updL, gate, binW, eqOp, binV, intOp, shOp, boolOp, unV, convV, nilV, fieldAddrV, indexAddrV, extractV, cellAt, cellsAt, findB, setB, fillL, buildV, Value.cells, lenV, minV, maxV, hav, sliceV, loV, hiV, bslQ, mksQ, appQ, partsOk, partsCells, delB, eqL, SameI, strOp, apzQ, cvtQ, capV, ↓reduceIte, Zj, Zk, Nat.reduceAdd, Nat.reduceLT, Nat.reduceEqDiff, Nat.reduceMul, Nat.reduceLeDiff, if_true, Zn, reduceCtorEq, ZA, eq_self, Int.reduceLE, Int.reduceLT, Int.reduceToNat, ne_eq, Nat.reduceSub, Tfld56_0, Tld2, Tld56, Tslc47, Tslce47, q0, ql, n1, e1]
      repeat refine And.intro (by omega) ?_
      exact rfl
    intro g
    simp (maxSteps := 2000000) (disch := first | (simp only [E4, q0, ql, n1, e1] <;> omega) | omega | fail) only [↓E2, E3, bare, bareJ, ↓E0, E1, evP, evPlan, env0, envN, evOps, evOp, evQs, evQ, evV, setD, pureOp, ev, upd, updL, gate, binW, eqOp, binV, intOp, shOp, boolOp, unV, convV, nilV, fieldAddrV, indexAddrV, extractV, cellAt, cellsAt, findB, setB, fillL, buildV, Value.cells, lenV, minV, maxV, hav, sliceV, loV, hiV, bslQ, mksQ, appQ, partsOk, partsCells, delB, eqL, SameI, strOp, apzQ, cvtQ, capV, ↓reduceIte, Zj, Zk, Nat.reduceAdd, Nat.reduceLT, Nat.reduceEqDiff, Nat.reduceMul, Nat.reduceLeDiff, if_true, Zn, reduceCtorEq, ZA, eq_self, Int.reduceLE, Int.reduceLT, Int.reduceToNat, ne_eq, Nat.reduceSub, Tfld56_0, Tld2, Tld56, Tslc47, Tslce47, q0, ql, n1, e1]
    repeat refine And.intro (by omega) ?_
    apply guardX_and 2 [40, 41] (j := 28) (d := 39) (tp := 42) (tl := 41) rfl rfl rfl rfl rfl
    · intro hq
      simp (maxSteps := 2000000) (disch := first | (simp only [E4, q0, ql, n1, e1] <;> omega) | omega | fail) only [↓E2, E3, bare, bareJ, ↓E0, E1, evP, evPlan, env0, envN, evOps, evOp, evQs, evQ, evV, setD, pureOp, ev, upd, updL, gate, binW, eqOp, binV, intOp, shOp, boolOp, unV, convV, nilV, fieldAddrV, indexAddrV, extractV, cellAt, cellsAt, findB, setB, fillL, buildV, Value.cells, lenV, minV, maxV, hav, sliceV, loV, hiV, bslQ, mksQ, appQ, partsOk, partsCells, delB, eqL, SameI, strOp, apzQ, cvtQ, capV, ↓reduceIte, Zj, Zk, Nat.reduceAdd, Nat.reduceLT, Nat.reduceEqDiff, Nat.reduceMul, Nat.reduceLeDiff, if_true, Zn, reduceCtorEq, ZA, eq_self, Int.reduceLE, Int.reduceLT, Int.reduceToNat, ne_eq, Nat.reduceSub, Tfld56_0, Tld2, Tld56, Tslc47, Tslce47, q0, ql, n1, e1]
      repeat refine And.intro (by omega) ?_
      refine callK_told0 (areCoefficients_c l R _ hs (by omega)) hR ?_
      simp (maxSteps := 2000000) (disch := first | (simp only [E4, q0, ql, n1, e1] <;> omega) | omega | fail) only [↓E2, E3, bare, bareJ, ↓E0, E1, evP, evPlan, env0, envN, evOps, evOp, evQs, evQ, evV, setD, pureOp, ev, upd, updL, gate, binW, eqOp, binV, intOp, shOp, boolOp, unV, convV, nilV, fieldAddrV, indexAddrV, extractV, cellAt, cellsAt, findB, setB, fillL, buildV, Value.cells, lenV, minV, maxV, hav, sliceV, loV, hiV, bslQ, mksQ, appQ, partsOk, partsCells, delB, eqL, SameI, strOp, apzQ, cvtQ, capV, ↓reduceIte, Zj, Zk, Nat.reduceAdd, Nat.reduceLT, Nat.reduceEqDiff, Nat.reduceMul, Nat.reduceLeDiff, if_true, Zn, reduceCtorEq, ZA, eq_self, Int.reduceLE, Int.reduceLT, Int.reduceToNat, ne_eq, Nat.reduceSub, Tfld56_0, Tld2, Tld56, Tslc47, Tslce47, q0, ql, n1, e1]
      repeat refine And.intro (by omega) ?_
      exact rfl
    intro g
    simp (maxSteps := 2000000) (disch := first | (simp only [E4, q0, ql, n1, e1] <;> omega) | omega | fail) only [↓E2, E3, bare, bareJ, ↓E0, E1, evP, evPlan, env0, envN, evOps, evOp, evQs, evQ, evV, setD, pureOp, ev, upd, updL, gate, binW, eqOp, binV, intOp, shOp, boolOp, unV, convV, nilV, fieldAddrV, indexAddrV, extractV, cellAt, cellsAt, findB, setB, fillL, buildV, Value.cells, lenV, minV, maxV, hav, sliceV, loV, hiV, bslQ, mksQ, appQ, partsOk, partsCells, delB, eqL, SameI, strOp, apzQ, cvtQ, capV, ↓reduceIte, Zj, Zk, Nat.reduceAdd, Nat.reduceLT, Nat.reduceEqDiff, Nat.reduceMul, Nat.reduceLeDiff, if_true, Zn, reduceCtorEq, ZA, eq_self, Int.reduceLE, Int.reduceLT, Int.reduceToNat, ne_eq, Nat.reduceSub, Tfld56_0, Tld2, Tld56, Tslc47, Tslce47, q0, ql, n1, e1]
    repeat refine And.intro (by omega) ?_
    repeat refine And.intro (by omega) ?_
    intro g
    simp only [List.map_cons, List.map_nil, updL, upd, Nat.reduceEqDiff, if_true, if_false, ↓reduceIte]
    refine hK _ _ ?_; clear hK K
    refine Cd.ret ?_
    simp (maxSteps := 2000000) (disch := first | (simp only [E4, q0, ql, n1, e1] <;> omega) | omega | fail) only [↓E2, E3, bare, bareJ, ↓E0, E1, evP, evPlan, env0, envN, evOps, evOp, evQs, evQ, evV, setD, pureOp, ev, upd, updL, gate, binW, eqOp, binV, intOp, shOp, boolOp, unV, convV, nilV, fieldAddrV, indexAddrV, extractV, cellAt, cellsAt, findB, setB, fillL, buildV, Value.cells, lenV, minV, maxV, hav, sliceV, loV, hiV, bslQ, mksQ, appQ, partsOk, partsCells, delB, eqL, SameI, strOp, apzQ, cvtQ, capV, ↓reduceIte, Zj, Zk, Nat.reduceAdd, Nat.reduceLT, Nat.reduceEqDiff, Nat.reduceMul, Nat.reduceLeDiff, if_true, Zn, reduceCtorEq, ZA, eq_self, Int.reduceLE, Int.reduceLT, Int.reduceToNat, ne_eq, Nat.reduceSub, q0, ql, n1, e1]
    repeat refine And.intro (by omega) ?_
    rw [lauOk_pos (by omega)]
    have e2 : decide ((l.length : Int) ≤ 2001) = decide (l.length ≤ 2001) := by
      by_cases hc : l.length ≤ 2001
      · rw [decide_eq_true hc, decide_eq_true (by omega)]
      · rw [decide_eq_false hc, decide_eq_false (by omega)]
    rw [e2]
    show Value.bool (_ && _ && _ && _ && !(l.getD 0 0 == 0) && !(l.getD (l.length - 1) 0 == 0) && _) = _
    generalize decide (l.length ≤ 2001) = a
    generalize (decide (-1000 ≤ low) && decide (low ≤ 1000)) = b
    cases a <;> cases b <;> rfl

end Go.Proofs

/-
  What the functions of this part hand back: each as a plain function of its arguments. Conditions: none.
-/
namespace Go.Proofs
open Go.W8
set_option linter.unusedVariables false
set_option linter.unusedSimpArgs false
set_option linter.unusedSectionVars false
set_option maxRecDepth 8000
set_option maxHeartbeats 4000000
def quotP (low : Int) (l : List Int) (k : Nat) (L : Blks) (r : Value) (M' : Blks) : Prop :=
  (∀ p ∈ L, p ∈ M') ∧ ((∃ q pv Mq, qIter (low, l) k = some q ∧ r = .tuple #[pv, .bool true] ∧ (∀ p ∈ Mq, p ∈ M') ∧ LauV q.1 q.2 pv Mq) ∨ (qIter (low, l) k = none ∧ r = .tuple #[.agg #[.int .i64 0, .slice none 0 0], .bool false]))
theorem SubP.mem {M0 M : Blks} (h : SubP M0 M) : ∀ p ∈ M0, p ∈ M := by
  obtain ⟨M1, h1, h2⟩ := h
  exact fun p hp => h2.subset (h1.subset hp)
section
variable (low : Int) (l : List Int) (v : Value) (L : Blks) (hv : LauV low l v L) (hok : lauOk low l = true) (k : Nat) (hk : k ≤ 1000)
include hv hok hk
theorem l04Quotient_c : GivesX Try.prog 169 #[v, .int .i64 (k : Int)] L [] (quotP low l k L) := by
  obtain ⟨s0, rfl, hs0⟩ := hv
  obtain ⟨a0, m0, c0, rfl⟩ := hs0.form
  refine GivesX.of (callable_of Try.func169 rfl (by decide)) ?_ fun w hnd hlt hR => ?_
  · simp
  refine acall_of (N := 44) (c := _) (rs := [.cell 4 56, .tmp 5]) (args := [_, _]) Try.func169 rfl (by decide) rfl rfl (Nat.le_of_ble_eq_true rfl) ?_
  refine Cd.rs [1, 2, 4] fun K hK => ?_
  simp (maxSteps := 2000000) (disch := first | (simp only [E4] <;> omega) | omega | fail) only [↓E2, E3, bare, bareJ, ↓E0, E1, evP, evPlan, env0, envN, evOps, evOp, evQs, evQ, evV, setD, pureOp, ev, upd, updL, gate, binW, eqOp, binV, intOp, shOp, boolOp, unV, convV, nilV, fieldAddrV, indexAddrV, extractV, cellAt, cellsAt, findB, setB, fillL, buildV, Value.cells, lenV, minV, maxV, hav, sliceV, loV, hiV, bslQ, mksQ, appQ, partsOk, partsCells, delB, eqL, SameI, strOp, apzQ, cvtQ, capV, ↓reduceIte, Zj, Zk, Nat.reduceAdd, Nat.reduceLT, Nat.reduceEqDiff, Nat.reduceMul, Nat.reduceLeDiff, if_true, Zn, reduceCtorEq, ZA, eq_self, Int.reduceLE, Int.reduceLT, Int.reduceToNat, ne_eq, Nat.reduceSub, Tzero56]
  repeat refine And.intro (by omega) ?_
  intro b1 hb1
  intro b2 hb2
  have nb2_b1 := hb2.ne
  try simp (maxSteps := 2000000) (disch := first | (simp only [E4, nb2_b1] <;> omega) | omega | fail) only [↓E2, E3, bare, bareJ, ↓E0, E1, evP, evPlan, env0, envN, evOps, evOp, evQs, evQ, evV, setD, pureOp, ev, upd, updL, gate, binW, eqOp, binV, intOp, shOp, boolOp, unV, convV, nilV, fieldAddrV, indexAddrV, extractV, cellAt, cellsAt, findB, setB, fillL, buildV, Value.cells, lenV, minV, maxV, hav, sliceV, loV, hiV, bslQ, mksQ, appQ, partsOk, partsCells, delB, eqL, SameI, strOp, apzQ, cvtQ, capV, ↓reduceIte, Zj, Zk, Nat.reduceAdd, Nat.reduceLT, Nat.reduceEqDiff, Nat.reduceMul, Nat.reduceLeDiff, if_true, Zn, reduceCtorEq, ZA, eq_self, Int.reduceLE, Int.reduceLT, Int.reduceToNat, ne_eq, Nat.reduceSub, Tzero56, nb2_b1]
  repeat refine And.intro (by omega) ?_
  repeat refine And.intro (by omega) ?_
  intro g
  simp only [List.map_cons, List.map_nil, updL, upd, Nat.reduceEqDiff, if_true, if_false, ↓reduceIte]
  refine hK _ _ ?_; clear hK K
  refine Cd.seq ?_
  refine Cd.block ?_
  refine Cd.loop (fun q ρ M => ∃ g j pl pll a m c Mq MM, j + q = k ∧ qIter (low, l) j = some (pl, pll) ∧ SlN 1 (ints .i64 pll) (.slice a m c) Mq ∧ (∀ p ∈ Mq, p ∈ MM) ∧ (∀ p ∈ L, p ∈ MM) ∧ ρ = updL [(1, .int .i64 (q : Int)), (2, .pointer (some ⟨b1, 0, none⟩)), (4, .pointer (some ⟨b2, 0, none⟩))] g ∧
    SubP ((b2, [.int .i64 0, .slice none 0 0]) :: (b1, [.int .i64 pl, .slice a m c]) :: MM) M) k ⟨_, 0, low, l, a0, m0, c0, L, L, Nat.zero_add _, rfl, hs0, fun _ h => h, fun _ h => h, rfl, SubP.refl _⟩ ?_
  rintro q ρ M ⟨g, j, pl, pll, a, m, c, Mq, MM, hj, hq, hsl, hMq, hL, rfl, hM⟩
  refine Cd.sub hM ?_
  clear hM M
  have qok := qIter_ok (p := (low, l)) hok j _ hq
  have q1 := lauOk_low qok
  have q2 := lauOk_len qok
  have q3 := lauOk_get qok
  have q4 := lauOk_high qok
  simp only at q1 q2 q3 q4
  refine Cd.nodup fun hnd => ?_
  have d21 : ¬ b2 = b1 := (nodup_cases hnd).1 (b1, _) (List.mem_cons_self)
  skip
  skip
  clear hnd
  refine Cd.seq ?_
  refine Cd.rs [1, 2, 4, 10] fun K hK => ?_
  simp (maxSteps := 2000000) (disch := first | (simp only [E4, nb2_b1, d21] <;> omega) | omega | fail) only [↓E2, E3, bare, bareJ, ↓E0, E1, evP, evPlan, env0, envN, evOps, evOp, evQs, evQ, evV, setD, pureOp, ev, upd, updL, gate, binW, eqOp, binV, intOp, shOp, boolOp, unV, convV, nilV, fieldAddrV, indexAddrV, extractV, cellAt, cellsAt, findB, setB, fillL, buildV, Value.cells, lenV, minV, maxV, hav, sliceV, loV, hiV, bslQ, mksQ, appQ, partsOk, partsCells, delB, eqL, SameI, strOp, apzQ, cvtQ, capV, ↓reduceIte, Zj, Zk, Nat.reduceAdd, Nat.reduceLT, Nat.reduceEqDiff, Nat.reduceMul, Nat.reduceLeDiff, if_true, Zn, reduceCtorEq, ZA, eq_self, Int.reduceLE, Int.reduceLT, Int.reduceToNat, ne_eq, Nat.reduceSub, nb2_b1, d21]
  repeat refine And.intro (by omega) ?_
  repeat refine And.intro (by omega) ?_
  intro g
  simp only [List.map_cons, List.map_nil, updL, upd, Nat.reduceEqDiff, if_true, if_false, ↓reduceIte]
  refine hK _ _ ?_; clear hK K
  refine Cd.condd rfl (fun h1 => ?_) (fun h1 => ?_)
  · obtain rfl : m = pll.length := by
      rcases hsl with ⟨e1, e2, _⟩ | ⟨_, _, _, _, e, _, hr⟩
      · cases e2
        have := congrArg List.length e1
        rw [ints_length] at this
        simpa using this.symm
      · cases e
        exact lauLen hr.len
    refine Cd.skip ?_
    refine thenN ?_
    refine Cd.seq ?_
    refine Cd.block ?_
    refine Cd.rs [1, 2, 4, 6, 7] fun K hK => ?_
    simp (maxSteps := 2000000) (disch := first | (simp only [E4, nb2_b1, d21] <;> omega) | omega | fail) only [↓E2, E3, bare, bareJ, ↓E0, E1, evP, evPlan, env0, envN, evOps, evOp, evQs, evQ, evV, setD, pureOp, ev, upd, updL, gate, binW, eqOp, binV, intOp, shOp, boolOp, unV, convV, nilV, fieldAddrV, indexAddrV, extractV, cellAt, cellsAt, findB, setB, fillL, buildV, Value.cells, lenV, minV, maxV, hav, sliceV, loV, hiV, bslQ, mksQ, appQ, partsOk, partsCells, delB, eqL, SameI, strOp, apzQ, cvtQ, capV, ↓reduceIte, Zj, Zk, Nat.reduceAdd, Nat.reduceLT, Nat.reduceEqDiff, Nat.reduceMul, Nat.reduceLeDiff, if_true, Zn, reduceCtorEq, ZA, eq_self, Int.reduceLE, Int.reduceLT, Int.reduceToNat, ne_eq, Nat.reduceSub, Tby2, Tslc47, Tslce47, Tzero2, nb2_b1, d21]
    repeat refine And.intro (by omega) ?_
    intro b3 hb3
    have nb3_b2 := hb3.ne
    have nb3_b1 := hb3.tail.ne
    try simp (maxSteps := 2000000) (disch := first | (simp only [E4, nb2_b1, d21, nb3_b2, nb3_b1] <;> omega) | omega | fail) only [↓E2, E3, bare, bareJ, ↓E0, E1, evP, evPlan, env0, envN, evOps, evOp, evQs, evQ, evV, setD, pureOp, ev, upd, updL, gate, binW, eqOp, binV, intOp, shOp, boolOp, unV, convV, nilV, fieldAddrV, indexAddrV, extractV, cellAt, cellsAt, findB, setB, fillL, buildV, Value.cells, lenV, minV, maxV, hav, sliceV, loV, hiV, bslQ, mksQ, appQ, partsOk, partsCells, delB, eqL, SameI, strOp, apzQ, cvtQ, capV, ↓reduceIte, Zj, Zk, Nat.reduceAdd, Nat.reduceLT, Nat.reduceEqDiff, Nat.reduceMul, Nat.reduceLeDiff, if_true, Zn, reduceCtorEq, ZA, eq_self, Int.reduceLE, Int.reduceLT, Int.reduceToNat, ne_eq, Nat.reduceSub, Tby2, Tslc47, Tslce47, Tzero2, nb2_b1, d21, nb3_b2, nb3_b1]
    repeat refine And.intro (by omega) ?_
    repeat refine And.intro (by omega) ?_
    intro g
    simp only [List.map_cons, List.map_nil, updL, upd, Nat.reduceEqDiff, if_true, if_false, ↓reduceIte]
    refine hK _ _ ?_; clear hK K
    refine Cd.seq ?_
    refine Cd.rs [1, 2, 4, 6, 7, 8] fun K hK => ?_
    simp (maxSteps := 2000000) (disch := first | (simp only [E4, nb2_b1, d21, nb3_b2, nb3_b1] <;> omega) | omega | fail) only [↓E2, E3, bare, bareJ, ↓E0, E1, evP, evPlan, env0, envN, evOps, evOp, evQs, evQ, evV, setD, pureOp, ev, upd, updL, gate, binW, eqOp, binV, intOp, shOp, boolOp, unV, convV, nilV, fieldAddrV, indexAddrV, extractV, cellAt, cellsAt, findB, setB, fillL, buildV, Value.cells, lenV, minV, maxV, hav, sliceV, loV, hiV, bslQ, mksQ, appQ, partsOk, partsCells, delB, eqL, SameI, strOp, apzQ, cvtQ, capV, ↓reduceIte, Zj, Zk, Nat.reduceAdd, Nat.reduceLT, Nat.reduceEqDiff, Nat.reduceMul, Nat.reduceLeDiff, if_true, Zn, reduceCtorEq, ZA, eq_self, Int.reduceLE, Int.reduceLT, Int.reduceToNat, ne_eq, Nat.reduceSub, nb2_b1, d21, nb3_b2, nb3_b1]
    repeat refine And.intro (by omega) ?_
    repeat refine And.intro (by omega) ?_
    intro g
    simp only [List.map_cons, List.map_nil, updL, upd, Nat.reduceEqDiff, if_true, if_false, ↓reduceIte]
    refine hK _ _ ?_; clear hK K
    refine Cd.block ?_
    refine Cd.loop (fun q2 ρ M => ∃ g i bl cap cs, i + q2 = pll.length ∧ Row 1 (ints .i64 (sums pll i)) i cap cs ∧ ρ = updL [(1, .int .i64 (q : Int)), (2, .pointer (some ⟨b1, 0, none⟩)), (4, .pointer (some ⟨b2, 0, none⟩)), (6, .slice (some ⟨bl, 0, none⟩) i cap), (7, .int .i64 (psum pll i)), (8, .int .i64 (i : Int))] g ∧
      SubP ((bl, cs) :: (b2, [.int .i64 0, .slice none 0 0]) :: (b1, [.int .i64 pl, .slice a pll.length c]) :: MM) M) pll.length ⟨_, 0, b3, 0, [], Nat.zero_add _, Row.nil 1, rfl, SubP.refl _⟩ ?_
    rintro q2' ρ M ⟨g, i, bl, cap, cs, hi, hrow, rfl, hM⟩
    refine Cd.sub hM ?_
    clear hM M
    refine Cd.nodup fun hnd => ?_
    have nL : ¬ bl ∈ L.map (·.1) := by
      intro hm
      obtain ⟨p, hp, e⟩ := List.mem_map.1 hm
      exact (nodup_cases hnd).1 p (by simp [hL p hp]) e.symm
    have dl2 : ¬ bl = b2 := (nodup_cases hnd).1 (b2, _) List.mem_cons_self
    have dl1 : ¬ bl = b1 := (nodup_cases hnd).1 (b1, _) (List.mem_cons_of_mem _ List.mem_cons_self)
    have ps := psum_bound q3 i
    have s1 := hrow.size1
    have s2 := hrow.le
    skip
    skip
    refine Cd.seq ?_
    refine Cd.rs [1, 2, 4, 6, 7, 8, 18] fun K hK => ?_
    simp (maxSteps := 2000000) (disch := first | (simp only [E4, nb2_b1, d21, nb3_b2, nb3_b1, nL, dl2, dl1] <;> omega) | omega | fail) only [↓E2, E3, bare, bareJ, ↓E0, E1, evP, evPlan, env0, envN, evOps, evOp, evQs, evQ, evV, setD, pureOp, ev, upd, updL, gate, binW, eqOp, binV, intOp, shOp, boolOp, unV, convV, nilV, fieldAddrV, indexAddrV, extractV, cellAt, cellsAt, findB, setB, fillL, buildV, Value.cells, lenV, minV, maxV, hav, sliceV, loV, hiV, bslQ, mksQ, appQ, partsOk, partsCells, delB, eqL, SameI, strOp, apzQ, cvtQ, capV, ↓reduceIte, Zj, Zk, Nat.reduceAdd, Nat.reduceLT, Nat.reduceEqDiff, Nat.reduceMul, Nat.reduceLeDiff, if_true, Zn, reduceCtorEq, ZA, eq_self, Int.reduceLE, Int.reduceLT, Int.reduceToNat, ne_eq, Nat.reduceSub, Tfld56_1, Tld47, Tslce47, nb2_b1, d21, nb3_b2, nb3_b1, nL, dl2, dl1]
    repeat refine And.intro (by omega) ?_
    repeat refine And.intro (by omega) ?_
    intro g
    simp only [List.map_cons, List.map_nil, updL, upd, Nat.reduceEqDiff, if_true, if_false, ↓reduceIte]
    refine hK _ _ ?_; clear hK K
    refine Cd.condd rfl (fun h2 => ?_) (fun h2 => ?_)
    · rcases hsl with ⟨e1, _, _⟩ | ⟨bp, mp, cp, csp, e, rfl, hrp⟩
      · have := congrArg List.length e1
        rw [ints_length] at this
        simp only [List.length_nil] at this
        omega
      cases e
      have hbm := hMq (bp, csp) (List.mem_singleton.2 rfl)
      have hg := hrp.get (ints_get (k := .i64) (l := pll) (i := i) (by omega))
      have e1 : ¬ bl = bp := (nodup_cases hnd).1 (bp, csp) (by simp [hbm])
      have e2 : ¬ b2 = bp := (nodup_cases (nodup_cases hnd).2).1 (bp, csp) (by simp [hbm])
      have e3 : ¬ b1 = bp := (nodup_cases (nodup_cases (nodup_cases hnd).2).2).1 (bp, csp) hbm
      have fp := findB_of (nodup_cases (nodup_cases (nodup_cases hnd).2).2).2 hbm
      have qi := q3 i
      have ep : psum pll (i + 1) = psum pll i + pll.getD i 0 := rfl
      skip
      refine Cd.skip ?_
      refine thenN ?_
      refine Cd.seq ?_
      refine Cd.block ?_
      refine Cd.rs [1, 2, 4, 6, 7, 8] fun K hK => ?_
      simp (maxSteps := 2000000) (disch := first | (simp only [E4, nb2_b1, d21, nb3_b2, nb3_b1, nL, dl2, dl1, hg, e1, e2, e3, fp] <;> omega) | omega | fail) only [↓E2, E3, bare, bareJ, ↓E0, E1, evP, evPlan, env0, envN, evOps, evOp, evQs, evQ, evV, setD, pureOp, ev, upd, updL, gate, binW, eqOp, binV, intOp, shOp, boolOp, unV, convV, nilV, fieldAddrV, indexAddrV, extractV, cellAt, cellsAt, findB, setB, fillL, buildV, Value.cells, lenV, minV, maxV, hav, sliceV, loV, hiV, bslQ, mksQ, appQ, partsOk, partsCells, delB, eqL, SameI, strOp, apzQ, cvtQ, capV, ↓reduceIte, Zj, Zk, Nat.reduceAdd, Nat.reduceLT, Nat.reduceEqDiff, Nat.reduceMul, Nat.reduceLeDiff, if_true, Zn, reduceCtorEq, ZA, eq_self, Int.reduceLE, Int.reduceLT, Int.reduceToNat, ne_eq, Nat.reduceSub, Tfld56_1, Tld2, Tld47, Tslc47, nb2_b1, d21, nb3_b2, nb3_b1, nL, dl2, dl1, hg, e1, e2, e3, fp]
      repeat refine And.intro (by omega) ?_
      repeat refine And.intro (by omega) ?_
      intro g
      simp only [List.map_cons, List.map_nil, updL, upd, Nat.reduceEqDiff, if_true, if_false, ↓reduceIte]
      refine hK _ _ ?_; clear hK K
      refine Cd.rr [1, 2, 4, 6, 7, 8] fun K hK => ?_
      simp (maxSteps := 2000000) (disch := first | (simp only [E4, nb2_b1, d21, nb3_b2, nb3_b1, nL, dl2, dl1, hg, e1, e2, e3, fp] <;> omega) | omega | fail) only [↓E2, E3, bare, bareJ, ↓E0, E1, evP, evPlan, env0, envN, evOps, evOp, evQs, evQ, evV, setD, pureOp, ev, upd, updL, gate, binW, eqOp, binV, intOp, shOp, boolOp, unV, convV, nilV, fieldAddrV, indexAddrV, extractV, cellAt, cellsAt, findB, setB, fillL, buildV, Value.cells, lenV, minV, maxV, hav, sliceV, loV, hiV, bslQ, mksQ, appQ, partsOk, partsCells, delB, eqL, SameI, strOp, apzQ, cvtQ, capV, ↓reduceIte, Zj, Zk, Nat.reduceAdd, Nat.reduceLT, Nat.reduceEqDiff, Nat.reduceMul, Nat.reduceLeDiff, if_true, Zn, reduceCtorEq, ZA, eq_self, Int.reduceLE, Int.reduceLT, Int.reduceToNat, ne_eq, Nat.reduceSub, Tby2, Tslc47, Tslce47, Tzero2, nb2_b1, d21, nb3_b2, nb3_b1, nL, dl2, dl1, hg, e1, e2, e3, fp]
      repeat refine And.intro (by omega) ?_
      intro b4 hb4
      have nb4_bl := hb4.ne
      have nb4_b2 := hb4.tail.ne
      have nb4_b1 := hb4.tail.tail.ne
      try simp (maxSteps := 2000000) (disch := first | (simp only [E4, nb2_b1, d21, nb3_b2, nb3_b1, nL, dl2, dl1, hg, e1, e2, e3, fp, nb4_bl, nb4_b2, nb4_b1] <;> omega) | omega | fail) only [↓E2, E3, bare, bareJ, ↓E0, E1, evP, evPlan, env0, envN, evOps, evOp, evQs, evQ, evV, setD, pureOp, ev, upd, updL, gate, binW, eqOp, binV, intOp, shOp, boolOp, unV, convV, nilV, fieldAddrV, indexAddrV, extractV, cellAt, cellsAt, findB, setB, fillL, buildV, Value.cells, lenV, minV, maxV, hav, sliceV, loV, hiV, bslQ, mksQ, appQ, partsOk, partsCells, delB, eqL, SameI, strOp, apzQ, cvtQ, capV, ↓reduceIte, Zj, Zk, Nat.reduceAdd, Nat.reduceLT, Nat.reduceEqDiff, Nat.reduceMul, Nat.reduceLeDiff, if_true, Zn, reduceCtorEq, ZA, eq_self, Int.reduceLE, Int.reduceLT, Int.reduceToNat, ne_eq, Nat.reduceSub, Tby2, Tslc47, Tslce47, Tzero2, nb2_b1, d21, nb3_b2, nb3_b1, nL, dl2, dl1, hg, e1, e2, e3, fp, nb4_bl, nb4_b2, nb4_b1]
      repeat refine And.intro (by omega) ?_
      intro b' cap' rest' hf hc hr'
      have hr2 := hrow.snoc1 (news := [.int .i64 (psum pll i + pll.getD i 0)]) rfl hc hr'
      rw [ints_snoc, ← ep, ← sums_succ] at hr2
      rw [← ep]
      repeat refine And.intro (by omega) ?_
      intro g
      simp only [List.map_cons, List.map_nil, updL, upd, Nat.reduceEqDiff, if_true, if_false, ↓reduceIte]
      refine hK _ _ ?_; clear hK K
      refine inBN ?_
      refine thenN ?_
      refine Cd.rr [1, 2, 4, 6, 7, 8] fun K hK => ?_
      simp (maxSteps := 2000000) (disch := first | (simp only [E4, nb2_b1, d21, nb3_b2, nb3_b1, nL, dl2, dl1, hg, e1, e2, e3, fp, nb4_bl, nb4_b2, nb4_b1] <;> omega) | omega | fail) only [↓E2, E3, bare, bareJ, ↓E0, E1, evP, evPlan, env0, envN, evOps, evOp, evQs, evQ, evV, setD, pureOp, ev, upd, updL, gate, binW, eqOp, binV, intOp, shOp, boolOp, unV, convV, nilV, fieldAddrV, indexAddrV, extractV, cellAt, cellsAt, findB, setB, fillL, buildV, Value.cells, lenV, minV, maxV, hav, sliceV, loV, hiV, bslQ, mksQ, appQ, partsOk, partsCells, delB, eqL, SameI, strOp, apzQ, cvtQ, capV, ↓reduceIte, Zj, Zk, Nat.reduceAdd, Nat.reduceLT, Nat.reduceEqDiff, Nat.reduceMul, Nat.reduceLeDiff, if_true, Zn, reduceCtorEq, ZA, eq_self, Int.reduceLE, Int.reduceLT, Int.reduceToNat, ne_eq, Nat.reduceSub, nb2_b1, d21, nb3_b2, nb3_b1, nL, dl2, dl1, hg, e1, e2, e3, fp, nb4_bl, nb4_b2, nb4_b1]
      repeat refine And.intro (by omega) ?_
      repeat refine And.intro (by omega) ?_
      intro g
      simp only [List.map_cons, List.map_nil, updL, upd, Nat.reduceEqDiff, if_true, if_false, ↓reduceIte]
      refine hK _ _ ?_; clear hK K
      exact roundN (m := q2' - 1) (by omega) ⟨_, i + 1, b', cap', _, by omega, hr2, rfl, SubP.of (List.Sublist.cons_cons _ (List.Sublist.cons _ (List.Sublist.refl _)))⟩
    · obtain rfl : i = pll.length := by omega
      refine Cd.exit (thenX (roundX (inBX ?_)))
      refine thenN ?_
      refine Cd.seq ?_
      refine Cd.rs [1, 2, 4, 6, 33] fun K hK => ?_
      simp (maxSteps := 2000000) (disch := first | (simp only [E4, nb2_b1, d21, nb3_b2, nb3_b1, nL, dl2, dl1] <;> omega) | omega | fail) only [↓E2, E3, bare, bareJ, ↓E0, E1, evP, evPlan, env0, envN, evOps, evOp, evQs, evQ, evV, setD, pureOp, ev, upd, updL, gate, binW, eqOp, binV, intOp, shOp, boolOp, unV, convV, nilV, fieldAddrV, indexAddrV, extractV, cellAt, cellsAt, findB, setB, fillL, buildV, Value.cells, lenV, minV, maxV, hav, sliceV, loV, hiV, bslQ, mksQ, appQ, partsOk, partsCells, delB, eqL, SameI, strOp, apzQ, cvtQ, capV, ↓reduceIte, Zj, Zk, Nat.reduceAdd, Nat.reduceLT, Nat.reduceEqDiff, Nat.reduceMul, Nat.reduceLeDiff, if_true, Zn, reduceCtorEq, ZA, eq_self, Int.reduceLE, Int.reduceLT, Int.reduceToNat, ne_eq, Nat.reduceSub, nb2_b1, d21, nb3_b2, nb3_b1, nL, dl2, dl1]
      repeat refine And.intro (by omega) ?_
      repeat refine And.intro (by omega) ?_
      intro g
      simp only [List.map_cons, List.map_nil, updL, upd, Nat.reduceEqDiff, if_true, if_false, ↓reduceIte]
      refine hK _ _ ?_; clear hK K
      refine Cd.cond rfl (fun h3 => ?_) (fun h3 => ?_)
      · simp only [decide_eq_true_eq, decide_eq_false_iff_not, beq_iff_eq, beq_eq_false_iff_ne, bne_iff_ne, bne_eq_false_iff_eq, Bool.and_eq_true, Bool.or_eq_true, Bool.or_eq_false_iff, Bool.not_eq_true', Bool.not_eq_false', Bool.and_eq_false_imp, ne_eq, gt_iff_lt, ge_iff_le, Int.not_lt, Int.not_le, Classical.not_not] at h3
        have hn : qIter (low, l) (j + 1) = none := by
          rw [qIter_succ hq]
          unfold qStep
          rw [if_neg (fun h => h3 h.1)]
        refine Cd.rs [4, 5] fun K hK => ?_
        simp (maxSteps := 2000000) (disch := first | (simp only [E4, nb2_b1, d21, nb3_b2, nb3_b1, nL, dl2, dl1] <;> omega) | omega | fail) only [↓E2, E3, bare, bareJ, ↓E0, E1, evP, evPlan, env0, envN, evOps, evOp, evQs, evQ, evV, setD, pureOp, ev, upd, updL, gate, binW, eqOp, binV, intOp, shOp, boolOp, unV, convV, nilV, fieldAddrV, indexAddrV, extractV, cellAt, cellsAt, findB, setB, fillL, buildV, Value.cells, lenV, minV, maxV, hav, sliceV, loV, hiV, bslQ, mksQ, appQ, partsOk, partsCells, delB, eqL, SameI, strOp, apzQ, cvtQ, capV, ↓reduceIte, Zj, Zk, Nat.reduceAdd, Nat.reduceLT, Nat.reduceEqDiff, Nat.reduceMul, Nat.reduceLeDiff, if_true, Zn, reduceCtorEq, ZA, eq_self, Int.reduceLE, Int.reduceLT, Int.reduceToNat, ne_eq, Nat.reduceSub, Tbld56, Tst56, nb2_b1, d21, nb3_b2, nb3_b1, nL, dl2, dl1]
        repeat refine And.intro (by omega) ?_
        repeat refine And.intro (by omega) ?_
        intro g
        simp only [List.map_cons, List.map_nil, updL, upd, Nat.reduceEqDiff, if_true, if_false, ↓reduceIte]
        refine hK _ _ ?_; clear hK K
        refine Cd.ret (thenR (inBR (thenR (roundR (inBR (thenR ?_))))))
        simp (maxSteps := 2000000) (disch := first | (simp only [E4, nb2_b1, d21, nb3_b2, nb3_b1, nL, dl2, dl1] <;> omega) | omega | fail) only [↓E2, E3, bare, bareJ, ↓E0, E1, evP, evPlan, env0, envN, evOps, evOp, evQs, evQ, evV, setD, pureOp, ev, upd, updL, gate, binW, eqOp, binV, intOp, shOp, boolOp, unV, convV, nilV, fieldAddrV, indexAddrV, extractV, cellAt, cellsAt, findB, setB, fillL, buildV, Value.cells, lenV, minV, maxV, hav, sliceV, loV, hiV, bslQ, mksQ, appQ, partsOk, partsCells, delB, eqL, SameI, strOp, apzQ, cvtQ, capV, ↓reduceIte, Zj, Zk, Nat.reduceAdd, Nat.reduceLT, Nat.reduceEqDiff, Nat.reduceMul, Nat.reduceLeDiff, if_true, Zn, reduceCtorEq, ZA, eq_self, Int.reduceLE, Int.reduceLT, Int.reduceToNat, ne_eq, Nat.reduceSub, Tld56, nb2_b1, d21, nb3_b2, nb3_b1, nL, dl2, dl1]
        repeat refine And.intro (by omega) ?_
        exact ⟨fun p hp => by simp [hL p hp], .inr ⟨qIter_none hn k (by omega), rfl⟩⟩
      · simp only [decide_eq_true_eq, decide_eq_false_iff_not, beq_iff_eq, beq_eq_false_iff_ne, bne_iff_ne, bne_eq_false_iff_eq, Bool.and_eq_true, Bool.or_eq_true, Bool.or_eq_false_iff, Bool.not_eq_true', Bool.not_eq_false', Bool.and_eq_false_imp, ne_eq, gt_iff_lt, ge_iff_le, Int.not_lt, Int.not_le, Classical.not_not] at h3
        have hrd : RdS (toldOf [(bl, cs)]) 1 (ints .i64 (sums pll pll.length)) (.slice (some ⟨bl, 0, none⟩) pll.length cap) := (SlN.row hrow).reads fun p hp => mem_toldOf hp
        refine Cd.skip ?_
        refine thenN ?_
        refine Cd.rs [1, 2, 4] fun K hK => ?_
        simp (maxSteps := 2000000) (disch := first | (simp only [E4, nb2_b1, d21, nb3_b2, nb3_b1, nL, dl2, dl1] <;> omega) | omega | fail) only [↓E2, E3, bare, bareJ, ↓E0, E1, evP, evPlan, env0, envN, evOps, evOp, evQs, evQ, evV, setD, pureOp, ev, upd, updL, gate, binW, eqOp, binV, intOp, shOp, boolOp, unV, convV, nilV, fieldAddrV, indexAddrV, extractV, cellAt, cellsAt, findB, setB, fillL, buildV, Value.cells, lenV, minV, maxV, hav, sliceV, loV, hiV, bslQ, mksQ, appQ, partsOk, partsCells, delB, eqL, SameI, strOp, apzQ, cvtQ, capV, ↓reduceIte, Zj, Zk, Nat.reduceAdd, Nat.reduceLT, Nat.reduceEqDiff, Nat.reduceMul, Nat.reduceLeDiff, if_true, Zn, reduceCtorEq, ZA, eq_self, Int.reduceLE, Int.reduceLT, Int.reduceToNat, ne_eq, Nat.reduceSub, Tfld56_0, Tld2, Tst56, nb2_b1, d21, nb3_b2, nb3_b1, nL, dl2, dl1]
        repeat refine And.intro (by omega) ?_
        refine callK_newR0 (l04Trim_c pl (sums pll pll.length) _ _ hrd (by rw [sums_len]; omega) (by omega)) (HoldsAll.toldW (holds_mem hnd fun p hp => by rw [List.mem_singleton.1 hp]; exact List.mem_cons_self)) ?_
        rintro v' M' ⟨s', rfl, hs'⟩ nd' _
        obtain ⟨a', m', c', rfl⟩ := hs'.form
        simp only [List.cons_append, List.nil_append] at nd' ⊢
        simp (maxSteps := 2000000) (disch := first | (simp only [E4, nb2_b1, d21, nb3_b2, nb3_b1, nL, dl2, dl1] <;> omega) | omega | fail) only [↓E2, E3, bare, bareJ, ↓E0, E1, evP, evPlan, env0, envN, evOps, evOp, evQs, evQ, evV, setD, pureOp, ev, upd, updL, gate, binW, eqOp, binV, intOp, shOp, boolOp, unV, convV, nilV, fieldAddrV, indexAddrV, extractV, cellAt, cellsAt, findB, setB, fillL, buildV, Value.cells, lenV, minV, maxV, hav, sliceV, loV, hiV, bslQ, mksQ, appQ, partsOk, partsCells, delB, eqL, SameI, strOp, apzQ, cvtQ, capV, ↓reduceIte, Zj, Zk, Nat.reduceAdd, Nat.reduceLT, Nat.reduceEqDiff, Nat.reduceMul, Nat.reduceLeDiff, if_true, Zn, reduceCtorEq, ZA, eq_self, Int.reduceLE, Int.reduceLT, Int.reduceToNat, ne_eq, Nat.reduceSub, Tfld56_0, Tld2, Tst56, nb2_b1, d21, nb3_b2, nb3_b1, nL, dl2, dl1]
        repeat refine And.intro (by omega) ?_
        repeat refine And.intro (by omega) ?_
        intro g
        simp only [List.map_cons, List.map_nil, updL, upd, Nat.reduceEqDiff, if_true, if_false, ↓reduceIte]
        refine hK _ _ ?_; clear hK K
        have hper : ((b2, [.int .i64 0, .slice none 0 0]) :: (b1, [.int .i64 (trimLow pl (sums pll pll.length)), .slice a' m' c']) :: (MM ++ M')).Sublist ((bl, cs) :: (b2, [.int .i64 0, .slice none 0 0]) :: (b1, [.int .i64 (trimLow pl (sums pll pll.length)), .slice a' m' c']) :: (MM ++ M')) := List.Sublist.cons _ (List.Sublist.refl _)
        refine Cd.drop hper ?_
        refine Cd.nodup fun hnd2 => ?_
        skip
        refine Cd.rs [1, 2, 4, 41] fun K hK => ?_
        simp (maxSteps := 2000000) (disch := first | (simp only [E4, nb2_b1, d21, nb3_b2, nb3_b1, nL, dl2, dl1] <;> omega) | omega | fail) only [↓E2, E3, bare, bareJ, ↓E0, E1, evP, evPlan, env0, envN, evOps, evOp, evQs, evQ, evV, setD, pureOp, ev, upd, updL, gate, binW, eqOp, binV, intOp, shOp, boolOp, unV, convV, nilV, fieldAddrV, indexAddrV, extractV, cellAt, cellsAt, findB, setB, fillL, buildV, Value.cells, lenV, minV, maxV, hav, sliceV, loV, hiV, bslQ, mksQ, appQ, partsOk, partsCells, delB, eqL, SameI, strOp, apzQ, cvtQ, capV, ↓reduceIte, Zj, Zk, Nat.reduceAdd, Nat.reduceLT, Nat.reduceEqDiff, Nat.reduceMul, Nat.reduceLeDiff, if_true, Zn, reduceCtorEq, ZA, eq_self, Int.reduceLE, Int.reduceLT, Int.reduceToNat, ne_eq, Nat.reduceSub, Tld56, nb2_b1, d21, nb3_b2, nb3_b1, nL, dl2, dl1]
        repeat refine And.intro (by omega) ?_
        refine callK_reads0 (l04Is_c _ _ (toldOf M') _ (hs'.reads fun p hp => mem_toldOf hp) (by have := trimL_le (sums pll pll.length); rw [sums_len] at this; omega) (by have := trE_le (sums pll pll.length); rw [sums_len] at this; have := trF_le (sums pll pll.length); unfold trimLow; split <;> omega)) (holds_mem hnd2 fun p hp => by simp [hp]) ?_
        simp (maxSteps := 2000000) (disch := first | (simp only [E4, nb2_b1, d21, nb3_b2, nb3_b1, nL, dl2, dl1] <;> omega) | omega | fail) only [↓E2, E3, bare, bareJ, ↓E0, E1, evP, evPlan, env0, envN, evOps, evOp, evQs, evQ, evV, setD, pureOp, ev, upd, updL, gate, binW, eqOp, binV, intOp, shOp, boolOp, unV, convV, nilV, fieldAddrV, indexAddrV, extractV, cellAt, cellsAt, findB, setB, fillL, buildV, Value.cells, lenV, minV, maxV, hav, sliceV, loV, hiV, bslQ, mksQ, appQ, partsOk, partsCells, delB, eqL, SameI, strOp, apzQ, cvtQ, capV, ↓reduceIte, Zj, Zk, Nat.reduceAdd, Nat.reduceLT, Nat.reduceEqDiff, Nat.reduceMul, Nat.reduceLeDiff, if_true, Zn, reduceCtorEq, ZA, eq_self, Int.reduceLE, Int.reduceLT, Int.reduceToNat, ne_eq, Nat.reduceSub, Tld56, nb2_b1, d21, nb3_b2, nb3_b1, nL, dl2, dl1]
        repeat refine And.intro (by omega) ?_
        repeat refine And.intro (by omega) ?_
        intro g
        simp only [List.map_cons, List.map_nil, updL, upd, Nat.reduceEqDiff, if_true, if_false, ↓reduceIte]
        refine hK _ _ ?_; clear hK K
        have hlt := lauOk_trim (low := pl) (l := sums pll pll.length) q1.1 (by rw [sums_len]; exact q4) (by rw [sums_len]; exact q2)
        refine Cd.cond rfl (fun h4 => ?_) (fun h4 => ?_)
        · have hn : qIter (low, l) (j + 1) = none := by
            rw [qIter_succ hq]
            unfold qStep
            rw [if_neg]
            intro h
            rw [hlt, h.2] at h4
            cases h4
          refine Cd.rs [4, 5] fun K hK => ?_
          simp (maxSteps := 2000000) (disch := first | (simp only [E4, nb2_b1, d21, nb3_b2, nb3_b1, nL, dl2, dl1] <;> omega) | omega | fail) only [↓E2, E3, bare, bareJ, ↓E0, E1, evP, evPlan, env0, envN, evOps, evOp, evQs, evQ, evV, setD, pureOp, ev, upd, updL, gate, binW, eqOp, binV, intOp, shOp, boolOp, unV, convV, nilV, fieldAddrV, indexAddrV, extractV, cellAt, cellsAt, findB, setB, fillL, buildV, Value.cells, lenV, minV, maxV, hav, sliceV, loV, hiV, bslQ, mksQ, appQ, partsOk, partsCells, delB, eqL, SameI, strOp, apzQ, cvtQ, capV, ↓reduceIte, Zj, Zk, Nat.reduceAdd, Nat.reduceLT, Nat.reduceEqDiff, Nat.reduceMul, Nat.reduceLeDiff, if_true, Zn, reduceCtorEq, ZA, eq_self, Int.reduceLE, Int.reduceLT, Int.reduceToNat, ne_eq, Nat.reduceSub, Tbld56, Tst56, nb2_b1, d21, nb3_b2, nb3_b1, nL, dl2, dl1]
          repeat refine And.intro (by omega) ?_
          repeat refine And.intro (by omega) ?_
          intro g
          simp only [List.map_cons, List.map_nil, updL, upd, Nat.reduceEqDiff, if_true, if_false, ↓reduceIte]
          refine hK _ _ ?_; clear hK K
          refine Cd.ret (inBR (thenR (roundR (inBR (thenR ?_)))))
          simp (maxSteps := 2000000) (disch := first | (simp only [E4, nb2_b1, d21, nb3_b2, nb3_b1, nL, dl2, dl1] <;> omega) | omega | fail) only [↓E2, E3, bare, bareJ, ↓E0, E1, evP, evPlan, env0, envN, evOps, evOp, evQs, evQ, evV, setD, pureOp, ev, upd, updL, gate, binW, eqOp, binV, intOp, shOp, boolOp, unV, convV, nilV, fieldAddrV, indexAddrV, extractV, cellAt, cellsAt, findB, setB, fillL, buildV, Value.cells, lenV, minV, maxV, hav, sliceV, loV, hiV, bslQ, mksQ, appQ, partsOk, partsCells, delB, eqL, SameI, strOp, apzQ, cvtQ, capV, ↓reduceIte, Zj, Zk, Nat.reduceAdd, Nat.reduceLT, Nat.reduceEqDiff, Nat.reduceMul, Nat.reduceLeDiff, if_true, Zn, reduceCtorEq, ZA, eq_self, Int.reduceLE, Int.reduceLT, Int.reduceToNat, ne_eq, Nat.reduceSub, Tld56, nb2_b1, d21, nb3_b2, nb3_b1, nL, dl2, dl1]
          repeat refine And.intro (by omega) ?_
          exact ⟨fun p hp => by simp [hL p hp], .inr ⟨qIter_none hn k (by omega), rfl⟩⟩
        · have hn : qIter (low, l) (j + 1) = some (trimLow pl (sums pll pll.length), trimL (sums pll pll.length)) := by
            rw [qIter_succ hq]
            unfold qStep
            rw [if_pos]
            refine ⟨h3, ?_⟩
            rw [hlt] at h4
            simpa using h4
          refine Cd.skip ?_
          refine inBN ?_
          refine thenN ?_
          refine Cd.rr [1, 2, 4] fun K hK => ?_
          simp (maxSteps := 2000000) (disch := first | (simp only [E4, nb2_b1, d21, nb3_b2, nb3_b1, nL, dl2, dl1] <;> omega) | omega | fail) only [↓E2, E3, bare, bareJ, ↓E0, E1, evP, evPlan, env0, envN, evOps, evOp, evQs, evQ, evV, setD, pureOp, ev, upd, updL, gate, binW, eqOp, binV, intOp, shOp, boolOp, unV, convV, nilV, fieldAddrV, indexAddrV, extractV, cellAt, cellsAt, findB, setB, fillL, buildV, Value.cells, lenV, minV, maxV, hav, sliceV, loV, hiV, bslQ, mksQ, appQ, partsOk, partsCells, delB, eqL, SameI, strOp, apzQ, cvtQ, capV, ↓reduceIte, Zj, Zk, Nat.reduceAdd, Nat.reduceLT, Nat.reduceEqDiff, Nat.reduceMul, Nat.reduceLeDiff, if_true, Zn, reduceCtorEq, ZA, eq_self, Int.reduceLE, Int.reduceLT, Int.reduceToNat, ne_eq, Nat.reduceSub, nb2_b1, d21, nb3_b2, nb3_b1, nL, dl2, dl1]
          repeat refine And.intro (by omega) ?_
          repeat refine And.intro (by omega) ?_
          intro g
          simp only [List.map_cons, List.map_nil, updL, upd, Nat.reduceEqDiff, if_true, if_false, ↓reduceIte]
          refine hK _ _ ?_; clear hK K
          have e0 : (q : Int) - 1 = ((q - 1 : Nat) : Int) := by omega
          rw [e0]
          exact roundN (m := q - 1) (by omega) ⟨_, j + 1, _, _, a', m', c', M', MM ++ M', by omega, hn, hs', fun p hp => List.mem_append_right _ hp, fun p hp => List.mem_append_left _ (hL p hp), rfl, SubP.refl _⟩
  · obtain rfl : j = k := by omega
    refine Cd.exit (thenX (roundX (inBX ?_)))
    refine thenN ?_
    refine Cd.rs [4, 5] fun K hK => ?_
    simp (maxSteps := 2000000) (disch := first | (simp only [E4, nb2_b1, d21] <;> omega) | omega | fail) only [↓E2, E3, bare, bareJ, ↓E0, E1, evP, evPlan, env0, envN, evOps, evOp, evQs, evQ, evV, setD, pureOp, ev, upd, updL, gate, binW, eqOp, binV, intOp, shOp, boolOp, unV, convV, nilV, fieldAddrV, indexAddrV, extractV, cellAt, cellsAt, findB, setB, fillL, buildV, Value.cells, lenV, minV, maxV, hav, sliceV, loV, hiV, bslQ, mksQ, appQ, partsOk, partsCells, delB, eqL, SameI, strOp, apzQ, cvtQ, capV, ↓reduceIte, Zj, Zk, Nat.reduceAdd, Nat.reduceLT, Nat.reduceEqDiff, Nat.reduceMul, Nat.reduceLeDiff, if_true, Zn, reduceCtorEq, ZA, eq_self, Int.reduceLE, Int.reduceLT, Int.reduceToNat, ne_eq, Nat.reduceSub, Tld56, Tst56, nb2_b1, d21]
    repeat refine And.intro (by omega) ?_
    repeat refine And.intro (by omega) ?_
    intro g
    simp only [List.map_cons, List.map_nil, updL, upd, Nat.reduceEqDiff, if_true, if_false, ↓reduceIte]
    refine hK _ _ ?_; clear hK K
    refine Cd.ret ?_
    simp (maxSteps := 2000000) (disch := first | (simp only [E4, nb2_b1, d21] <;> omega) | omega | fail) only [↓E2, E3, bare, bareJ, ↓E0, E1, evP, evPlan, env0, envN, evOps, evOp, evQs, evQ, evV, setD, pureOp, ev, upd, updL, gate, binW, eqOp, binV, intOp, shOp, boolOp, unV, convV, nilV, fieldAddrV, indexAddrV, extractV, cellAt, cellsAt, findB, setB, fillL, buildV, Value.cells, lenV, minV, maxV, hav, sliceV, loV, hiV, bslQ, mksQ, appQ, partsOk, partsCells, delB, eqL, SameI, strOp, apzQ, cvtQ, capV, ↓reduceIte, Zj, Zk, Nat.reduceAdd, Nat.reduceLT, Nat.reduceEqDiff, Nat.reduceMul, Nat.reduceLeDiff, if_true, Zn, reduceCtorEq, ZA, eq_self, Int.reduceLE, Int.reduceLT, Int.reduceToNat, ne_eq, Nat.reduceSub, Tld56, nb2_b1, d21]
    repeat refine And.intro (by omega) ?_
    exact ⟨fun p hp => by simp [hL p hp], .inl ⟨_, _, Mq, hq, rfl, fun p hp => by simp [hMq p hp], _, rfl, hsl⟩⟩
end

end Go.Proofs

/-
  What the functions of this part hand back: each as a plain function of its arguments. Conditions: none.
-/
namespace Go.Proofs
open Go.W8
set_option linter.unusedVariables false
set_option linter.unusedSimpArgs false
set_option linter.unusedSectionVars false
set_option maxRecDepth 8000
set_option maxHeartbeats 4000000
theorem sums_bad {l : List Int} {i : Nat} (hi : i < l.length) (h : coOk (psum l (i + 1)) = false) : ¬ (sums l l.length).all coOk = true := by
  intro ha
  have := all_get.1 ha i (by rw [sums_len]; exact hi)
  rw [sums_get hi, h] at this
  cases this
theorem sums_good {l : List Int} (h : ∀ i, i < l.length → coOk (psum l (i + 1)) = true) : (sums l l.length).all coOk = true := by
  rw [all_get, sums_len]
  intro i hi
  rw [sums_get hi]
  exact h i hi
section
variable (low : Int) (l : List Int) (v : Value) (L : Blks) (hv : LauV low l v L) (hok : lauOk low l = true) (k : Nat) (hk : k ≤ 1000)
include hv hok hk
theorem iquotient_c : GivesX Try.prog 172 #[v, .int .i64 (k : Int)] L [] (quotP low l k L) := by
  obtain ⟨s0, rfl, hs0⟩ := hv
  obtain ⟨a0, m0, c0, rfl⟩ := hs0.form
  refine GivesX.of (callable_of Try.func172 rfl (by decide)) ?_ fun w hnd hlt hR => ?_
  · simp
  refine acall_of (N := 42) (c := _) (rs := [.cell 4 56, .tmp 5]) (args := [_, _]) Try.func172 rfl (by decide) rfl rfl (Nat.le_of_ble_eq_true rfl) ?_
  refine Cd.rs [1, 2, 4] fun K hK => ?_
  simp (maxSteps := 2000000) (disch := first | (simp only [E4] <;> omega) | omega | fail) only [↓E2, E3, bare, bareJ, ↓E0, E1, evP, evPlan, env0, envN, evOps, evOp, evQs, evQ, evV, setD, pureOp, ev, upd, updL, gate, binW, eqOp, binV, intOp, shOp, boolOp, unV, convV, nilV, fieldAddrV, indexAddrV, extractV, cellAt, cellsAt, findB, setB, fillL, buildV, Value.cells, lenV, minV, maxV, hav, sliceV, loV, hiV, bslQ, mksQ, appQ, partsOk, partsCells, delB, eqL, SameI, strOp, apzQ, cvtQ, capV, ↓reduceIte, Zj, Zk, Nat.reduceAdd, Nat.reduceLT, Nat.reduceEqDiff, Nat.reduceMul, Nat.reduceLeDiff, if_true, Zn, reduceCtorEq, ZA, eq_self, Int.reduceLE, Int.reduceLT, Int.reduceToNat, ne_eq, Nat.reduceSub, Tzero56]
  repeat refine And.intro (by omega) ?_
  intro b1 hb1
  intro b2 hb2
  have nb2_b1 := hb2.ne
  try simp (maxSteps := 2000000) (disch := first | (simp only [E4, nb2_b1] <;> omega) | omega | fail) only [↓E2, E3, bare, bareJ, ↓E0, E1, evP, evPlan, env0, envN, evOps, evOp, evQs, evQ, evV, setD, pureOp, ev, upd, updL, gate, binW, eqOp, binV, intOp, shOp, boolOp, unV, convV, nilV, fieldAddrV, indexAddrV, extractV, cellAt, cellsAt, findB, setB, fillL, buildV, Value.cells, lenV, minV, maxV, hav, sliceV, loV, hiV, bslQ, mksQ, appQ, partsOk, partsCells, delB, eqL, SameI, strOp, apzQ, cvtQ, capV, ↓reduceIte, Zj, Zk, Nat.reduceAdd, Nat.reduceLT, Nat.reduceEqDiff, Nat.reduceMul, Nat.reduceLeDiff, if_true, Zn, reduceCtorEq, ZA, eq_self, Int.reduceLE, Int.reduceLT, Int.reduceToNat, ne_eq, Nat.reduceSub, Tzero56, nb2_b1]
  repeat refine And.intro (by omega) ?_
  repeat refine And.intro (by omega) ?_
  intro g
  simp only [List.map_cons, List.map_nil, updL, upd, Nat.reduceEqDiff, if_true, if_false, ↓reduceIte]
  refine hK _ _ ?_; clear hK K
  refine Cd.seq ?_
  refine Cd.rs [2, 4, 10, 11] fun K hK => ?_
  simp (maxSteps := 2000000) (disch := first | (simp only [E4, nb2_b1] <;> omega) | omega | fail) only [↓E2, E3, bare, bareJ, ↓E0, E1, evP, evPlan, env0, envN, evOps, evOp, evQs, evQ, evV, setD, pureOp, ev, upd, updL, gate, binW, eqOp, binV, intOp, shOp, boolOp, unV, convV, nilV, fieldAddrV, indexAddrV, extractV, cellAt, cellsAt, findB, setB, fillL, buildV, Value.cells, lenV, minV, maxV, hav, sliceV, loV, hiV, bslQ, mksQ, appQ, partsOk, partsCells, delB, eqL, SameI, strOp, apzQ, cvtQ, capV, ↓reduceIte, Zj, Zk, Nat.reduceAdd, Nat.reduceLT, Nat.reduceEqDiff, Nat.reduceMul, Nat.reduceLeDiff, if_true, Zn, reduceCtorEq, ZA, eq_self, Int.reduceLE, Int.reduceLT, Int.reduceToNat, ne_eq, Nat.reduceSub, nb2_b1]
  repeat refine And.intro (by omega) ?_
  repeat refine And.intro (by omega) ?_
  intro g
  simp only [List.map_cons, List.map_nil, updL, upd, Nat.reduceEqDiff, if_true, if_false, ↓reduceIte]
  refine hK _ _ ?_; clear hK K
  refine Cd.block ?_
  refine Cd.loop (fun q ρ M => ∃ g j pl pll a m c Mq MM, j + q = k ∧ qIter (low, l) j = some (pl, pll) ∧ SlN 1 (ints .i64 pll) (.slice a m c) Mq ∧ (∀ p ∈ Mq, p ∈ MM) ∧ (∀ p ∈ L, p ∈ MM) ∧ ρ = updL [(2, .pointer (some ⟨b1, 0, none⟩)), (4, .pointer (some ⟨b2, 0, none⟩)), (10, .int .i64 (k : Int)), (11, .int .i64 (j : Int))] g ∧
    SubP ((b2, [.int .i64 0, .slice none 0 0]) :: (b1, [.int .i64 pl, .slice a m c]) :: MM) M) k ⟨_, 0, low, l, a0, m0, c0, L, L, Nat.zero_add _, rfl, hs0, fun _ h => h, fun _ h => h, rfl, SubP.refl _⟩ ?_
  rintro q ρ M ⟨g, j, pl, pll, a, m, c, Mq, MM, hj, hq, hsl, hMq, hL, rfl, hM⟩
  refine Cd.sub hM ?_
  clear hM M
  have qok := qIter_ok (p := (low, l)) hok j _ hq
  have q1 := lauOk_low qok
  have q2 := lauOk_len qok
  have q3 := lauOk_get qok
  have q4 := lauOk_high qok
  simp only at q1 q2 q3 q4
  refine Cd.nodup fun hnd => ?_
  have d21 : ¬ b2 = b1 := (nodup_cases hnd).1 (b1, _) (List.mem_cons_self)
  skip
  skip
  clear hnd
  refine Cd.rs [2, 4, 10, 11, 12] fun K hK => ?_
  simp (maxSteps := 2000000) (disch := first | (simp only [E4, nb2_b1, d21] <;> omega) | omega | fail) only [↓E2, E3, bare, bareJ, ↓E0, E1, evP, evPlan, env0, envN, evOps, evOp, evQs, evQ, evV, setD, pureOp, ev, upd, updL, gate, binW, eqOp, binV, intOp, shOp, boolOp, unV, convV, nilV, fieldAddrV, indexAddrV, extractV, cellAt, cellsAt, findB, setB, fillL, buildV, Value.cells, lenV, minV, maxV, hav, sliceV, loV, hiV, bslQ, mksQ, appQ, partsOk, partsCells, delB, eqL, SameI, strOp, apzQ, cvtQ, capV, ↓reduceIte, Zj, Zk, Nat.reduceAdd, Nat.reduceLT, Nat.reduceEqDiff, Nat.reduceMul, Nat.reduceLeDiff, if_true, Zn, reduceCtorEq, ZA, eq_self, Int.reduceLE, Int.reduceLT, Int.reduceToNat, ne_eq, Nat.reduceSub, nb2_b1, d21]
  repeat refine And.intro (by omega) ?_
  repeat refine And.intro (by omega) ?_
  intro g
  simp only [List.map_cons, List.map_nil, updL, upd, Nat.reduceEqDiff, if_true, if_false, ↓reduceIte]
  refine hK _ _ ?_; clear hK K
  refine Cd.seq ?_
  refine Cd.condd rfl (fun h1 => ?_) (fun h1 => ?_)
  · obtain rfl : m = pll.length := by
      rcases hsl with ⟨e1, e2, _⟩ | ⟨_, _, _, _, e, _, hr⟩
      · cases e2
        have := congrArg List.length e1
        rw [ints_length] at this
        simpa using this.symm
      · cases e
        exact lauLen hr.len
    refine Cd.skip ?_
    refine thenN ?_
    refine Cd.seq ?_
    refine Cd.block ?_
    refine Cd.rs [2, 4, 6, 7, 10, 11] fun K hK => ?_
    simp (maxSteps := 2000000) (disch := first | (simp only [E4, nb2_b1, d21] <;> omega) | omega | fail) only [↓E2, E3, bare, bareJ, ↓E0, E1, evP, evPlan, env0, envN, evOps, evOp, evQs, evQ, evV, setD, pureOp, ev, upd, updL, gate, binW, eqOp, binV, intOp, shOp, boolOp, unV, convV, nilV, fieldAddrV, indexAddrV, extractV, cellAt, cellsAt, findB, setB, fillL, buildV, Value.cells, lenV, minV, maxV, hav, sliceV, loV, hiV, bslQ, mksQ, appQ, partsOk, partsCells, delB, eqL, SameI, strOp, apzQ, cvtQ, capV, ↓reduceIte, Zj, Zk, Nat.reduceAdd, Nat.reduceLT, Nat.reduceEqDiff, Nat.reduceMul, Nat.reduceLeDiff, if_true, Zn, reduceCtorEq, ZA, eq_self, Int.reduceLE, Int.reduceLT, Int.reduceToNat, ne_eq, Nat.reduceSub, Tby2, Tslc47, Tslce47, Tzero2, nb2_b1, d21]
    repeat refine And.intro (by omega) ?_
    intro b3 hb3
    have nb3_b2 := hb3.ne
    have nb3_b1 := hb3.tail.ne
    try simp (maxSteps := 2000000) (disch := first | (simp only [E4, nb2_b1, d21, nb3_b2, nb3_b1] <;> omega) | omega | fail) only [↓E2, E3, bare, bareJ, ↓E0, E1, evP, evPlan, env0, envN, evOps, evOp, evQs, evQ, evV, setD, pureOp, ev, upd, updL, gate, binW, eqOp, binV, intOp, shOp, boolOp, unV, convV, nilV, fieldAddrV, indexAddrV, extractV, cellAt, cellsAt, findB, setB, fillL, buildV, Value.cells, lenV, minV, maxV, hav, sliceV, loV, hiV, bslQ, mksQ, appQ, partsOk, partsCells, delB, eqL, SameI, strOp, apzQ, cvtQ, capV, ↓reduceIte, Zj, Zk, Nat.reduceAdd, Nat.reduceLT, Nat.reduceEqDiff, Nat.reduceMul, Nat.reduceLeDiff, if_true, Zn, reduceCtorEq, ZA, eq_self, Int.reduceLE, Int.reduceLT, Int.reduceToNat, ne_eq, Nat.reduceSub, Tby2, Tslc47, Tslce47, Tzero2, nb2_b1, d21, nb3_b2, nb3_b1]
    repeat refine And.intro (by omega) ?_
    repeat refine And.intro (by omega) ?_
    intro g
    simp only [List.map_cons, List.map_nil, updL, upd, Nat.reduceEqDiff, if_true, if_false, ↓reduceIte]
    refine hK _ _ ?_; clear hK K
    refine Cd.seq ?_
    refine Cd.rs [2, 4, 6, 7, 10, 11, 15, 16, 17] fun K hK => ?_
    simp (maxSteps := 2000000) (disch := first | (simp only [E4, nb2_b1, d21, nb3_b2, nb3_b1] <;> omega) | omega | fail) only [↓E2, E3, bare, bareJ, ↓E0, E1, evP, evPlan, env0, envN, evOps, evOp, evQs, evQ, evV, setD, pureOp, ev, upd, updL, gate, binW, eqOp, binV, intOp, shOp, boolOp, unV, convV, nilV, fieldAddrV, indexAddrV, extractV, cellAt, cellsAt, findB, setB, fillL, buildV, Value.cells, lenV, minV, maxV, hav, sliceV, loV, hiV, bslQ, mksQ, appQ, partsOk, partsCells, delB, eqL, SameI, strOp, apzQ, cvtQ, capV, ↓reduceIte, Zj, Zk, Nat.reduceAdd, Nat.reduceLT, Nat.reduceEqDiff, Nat.reduceMul, Nat.reduceLeDiff, if_true, Zn, reduceCtorEq, ZA, eq_self, Int.reduceLE, Int.reduceLT, Int.reduceToNat, ne_eq, Nat.reduceSub, Tfld56_1, Tld47, Tslce47, nb2_b1, d21, nb3_b2, nb3_b1]
    repeat refine And.intro (by omega) ?_
    repeat refine And.intro (by omega) ?_
    intro g
    simp only [List.map_cons, List.map_nil, updL, upd, Nat.reduceEqDiff, if_true, if_false, ↓reduceIte]
    refine hK _ _ ?_; clear hK K
    refine Cd.block ?_
    refine Cd.loop (fun q2 ρ M => ∃ g i bl cap cs, i + q2 = pll.length ∧ (∀ i', i' < i → coOk (psum pll (i' + 1)) = true) ∧ Row 1 (ints .i64 (sums pll i)) i cap cs ∧ ρ = updL [(2, .pointer (some ⟨b1, 0, none⟩)), (4, .pointer (some ⟨b2, 0, none⟩)), (6, .slice (some ⟨bl, 0, none⟩) i cap), (7, .int .i64 (psum pll i)), (10, .int .i64 (k : Int)), (11, .int .i64 (j : Int)), (15, .slice a pll.length c), (16, .int .i64 (pll.length : Int)), (17, .int .i64 (i : Int))] g ∧
      SubP ((bl, cs) :: (b2, [.int .i64 0, .slice none 0 0]) :: (b1, [.int .i64 pl, .slice a pll.length c]) :: MM) M) pll.length ⟨_, 0, b3, 0, [], Nat.zero_add _, fun _ h => absurd h (by omega), Row.nil 1, rfl, SubP.refl _⟩ ?_
    rintro q2' ρ M ⟨g, i, bl, cap, cs, hi, hgood, hrow, rfl, hM⟩
    refine Cd.sub hM ?_
    clear hM M
    refine Cd.nodup fun hnd => ?_
    have nL : ¬ bl ∈ L.map (·.1) := by
      intro hm
      obtain ⟨p, hp, e⟩ := List.mem_map.1 hm
      exact (nodup_cases hnd).1 p (by simp [hL p hp]) e.symm
    have dl2 : ¬ bl = b2 := (nodup_cases hnd).1 (b2, _) List.mem_cons_self
    have dl1 : ¬ bl = b1 := (nodup_cases hnd).1 (b1, _) (List.mem_cons_of_mem _ List.mem_cons_self)
    have ps := psum_bound q3 i
    have s1 := hrow.size1
    have s2 := hrow.le
    skip
    skip
    refine Cd.rs [2, 4, 6, 7, 10, 11, 15, 16, 17, 18] fun K hK => ?_
    simp (maxSteps := 2000000) (disch := first | (simp only [E4, nb2_b1, d21, nb3_b2, nb3_b1, nL, dl2, dl1] <;> omega) | omega | fail) only [↓E2, E3, bare, bareJ, ↓E0, E1, evP, evPlan, env0, envN, evOps, evOp, evQs, evQ, evV, setD, pureOp, ev, upd, updL, gate, binW, eqOp, binV, intOp, shOp, boolOp, unV, convV, nilV, fieldAddrV, indexAddrV, extractV, cellAt, cellsAt, findB, setB, fillL, buildV, Value.cells, lenV, minV, maxV, hav, sliceV, loV, hiV, bslQ, mksQ, appQ, partsOk, partsCells, delB, eqL, SameI, strOp, apzQ, cvtQ, capV, ↓reduceIte, Zj, Zk, Nat.reduceAdd, Nat.reduceLT, Nat.reduceEqDiff, Nat.reduceMul, Nat.reduceLeDiff, if_true, Zn, reduceCtorEq, ZA, eq_self, Int.reduceLE, Int.reduceLT, Int.reduceToNat, ne_eq, Nat.reduceSub, nb2_b1, d21, nb3_b2, nb3_b1, nL, dl2, dl1]
    repeat refine And.intro (by omega) ?_
    repeat refine And.intro (by omega) ?_
    intro g
    simp only [List.map_cons, List.map_nil, updL, upd, Nat.reduceEqDiff, if_true, if_false, ↓reduceIte]
    refine hK _ _ ?_; clear hK K
    refine Cd.seq ?_
    refine Cd.condd rfl (fun h2 => ?_) (fun h2 => ?_)
    · rcases hsl with ⟨e1, _, _⟩ | ⟨bp, mp, cp, csp, e, rfl, hrp⟩
      · have := congrArg List.length e1
        rw [ints_length] at this
        simp only [List.length_nil] at this
        omega
      cases e
      have hbm := hMq (bp, csp) (List.mem_singleton.2 rfl)
      have hg := hrp.get (ints_get (k := .i64) (l := pll) (i := i) (by omega))
      have e1 : ¬ bl = bp := (nodup_cases hnd).1 (bp, csp) (by simp [hbm])
      have e2 : ¬ b2 = bp := (nodup_cases (nodup_cases hnd).2).1 (bp, csp) (by simp [hbm])
      have e3 : ¬ b1 = bp := (nodup_cases (nodup_cases (nodup_cases hnd).2).2).1 (bp, csp) hbm
      have fp := findB_of (nodup_cases (nodup_cases (nodup_cases hnd).2).2).2 hbm
      have qi := q3 i
      have ep : psum pll (i + 1) = psum pll i + pll.getD i 0 := rfl
      skip
      refine Cd.skip ?_
      refine thenN ?_
      refine Cd.seq ?_
      refine Cd.block ?_
      refine Cd.rs [2, 4, 6, 7, 9, 10, 11, 15, 16, 17] fun K hK => ?_
      simp (maxSteps := 2000000) (disch := first | (simp only [E4, nb2_b1, d21, nb3_b2, nb3_b1, nL, dl2, dl1, hg, e1, e2, e3, fp] <;> omega) | omega | fail) only [↓E2, E3, bare, bareJ, ↓E0, E1, evP, evPlan, env0, envN, evOps, evOp, evQs, evQ, evV, setD, pureOp, ev, upd, updL, gate, binW, eqOp, binV, intOp, shOp, boolOp, unV, convV, nilV, fieldAddrV, indexAddrV, extractV, cellAt, cellsAt, findB, setB, fillL, buildV, Value.cells, lenV, minV, maxV, hav, sliceV, loV, hiV, bslQ, mksQ, appQ, partsOk, partsCells, delB, eqL, SameI, strOp, apzQ, cvtQ, capV, ↓reduceIte, Zj, Zk, Nat.reduceAdd, Nat.reduceLT, Nat.reduceEqDiff, Nat.reduceMul, Nat.reduceLeDiff, if_true, Zn, reduceCtorEq, ZA, eq_self, Int.reduceLE, Int.reduceLT, Int.reduceToNat, ne_eq, Nat.reduceSub, Tld2, Tslc47, nb2_b1, d21, nb3_b2, nb3_b1, nL, dl2, dl1, hg, e1, e2, e3, fp]
      repeat refine And.intro (by omega) ?_
      repeat refine And.intro (by omega) ?_
      intro g
      simp only [List.map_cons, List.map_nil, updL, upd, Nat.reduceEqDiff, if_true, if_false, ↓reduceIte]
      refine hK _ _ ?_; clear hK K
      refine Cd.rs [2, 4, 6, 7, 10, 11, 15, 16, 17] fun K hK => ?_
      simp (maxSteps := 2000000) (disch := first | (simp only [E4, nb2_b1, d21, nb3_b2, nb3_b1, nL, dl2, dl1, hg, e1, e2, e3, fp] <;> omega) | omega | fail) only [↓E2, E3, bare, bareJ, ↓E0, E1, evP, evPlan, env0, envN, evOps, evOp, evQs, evQ, evV, setD, pureOp, ev, upd, updL, gate, binW, eqOp, binV, intOp, shOp, boolOp, unV, convV, nilV, fieldAddrV, indexAddrV, extractV, cellAt, cellsAt, findB, setB, fillL, buildV, Value.cells, lenV, minV, maxV, hav, sliceV, loV, hiV, bslQ, mksQ, appQ, partsOk, partsCells, delB, eqL, SameI, strOp, apzQ, cvtQ, capV, ↓reduceIte, Zj, Zk, Nat.reduceAdd, Nat.reduceLT, Nat.reduceEqDiff, Nat.reduceMul, Nat.reduceLeDiff, if_true, Zn, reduceCtorEq, ZA, eq_self, Int.reduceLE, Int.reduceLT, Int.reduceToNat, ne_eq, Nat.reduceSub, nb2_b1, d21, nb3_b2, nb3_b1, nL, dl2, dl1, hg, e1, e2, e3, fp]
      repeat refine And.intro (by omega) ?_
      repeat refine And.intro (by omega) ?_
      intro g
      simp only [List.map_cons, List.map_nil, updL, upd, Nat.reduceEqDiff, if_true, if_false, ↓reduceIte]
      refine hK _ _ ?_; clear hK K
      refine Cd.seq ?_
      refine Cd.rs [2, 4, 6, 7, 10, 11, 15, 16, 17, 26] fun K hK => ?_
      simp (maxSteps := 2000000) (disch := first | (simp only [E4, nb2_b1, d21, nb3_b2, nb3_b1, nL, dl2, dl1, hg, e1, e2, e3, fp] <;> omega) | omega | fail) only [↓E2, E3, bare, bareJ, ↓E0, E1, evP, evPlan, env0, envN, evOps, evOp, evQs, evQ, evV, setD, pureOp, ev, upd, updL, gate, binW, eqOp, binV, intOp, shOp, boolOp, unV, convV, nilV, fieldAddrV, indexAddrV, extractV, cellAt, cellsAt, findB, setB, fillL, buildV, Value.cells, lenV, minV, maxV, hav, sliceV, loV, hiV, bslQ, mksQ, appQ, partsOk, partsCells, delB, eqL, SameI, strOp, apzQ, cvtQ, capV, ↓reduceIte, Zj, Zk, Nat.reduceAdd, Nat.reduceLT, Nat.reduceEqDiff, Nat.reduceMul, Nat.reduceLeDiff, if_true, Zn, reduceCtorEq, ZA, eq_self, Int.reduceLE, Int.reduceLT, Int.reduceToNat, ne_eq, Nat.reduceSub, nb2_b1, d21, nb3_b2, nb3_b1, nL, dl2, dl1, hg, e1, e2, e3, fp]
      repeat refine And.intro (by omega) ?_
      refine callK_gives (isCoefficient_c _) ?_
      simp (maxSteps := 2000000) (disch := first | (simp only [E4, nb2_b1, d21, nb3_b2, nb3_b1, nL, dl2, dl1, hg, e1, e2, e3, fp] <;> omega) | omega | fail) only [↓E2, E3, bare, bareJ, ↓E0, E1, evP, evPlan, env0, envN, evOps, evOp, evQs, evQ, evV, setD, pureOp, ev, upd, updL, gate, binW, eqOp, binV, intOp, shOp, boolOp, unV, convV, nilV, fieldAddrV, indexAddrV, extractV, cellAt, cellsAt, findB, setB, fillL, buildV, Value.cells, lenV, minV, maxV, hav, sliceV, loV, hiV, bslQ, mksQ, appQ, partsOk, partsCells, delB, eqL, SameI, strOp, apzQ, cvtQ, capV, ↓reduceIte, Zj, Zk, Nat.reduceAdd, Nat.reduceLT, Nat.reduceEqDiff, Nat.reduceMul, Nat.reduceLeDiff, if_true, Zn, reduceCtorEq, ZA, eq_self, Int.reduceLE, Int.reduceLT, Int.reduceToNat, ne_eq, Nat.reduceSub, nb2_b1, d21, nb3_b2, nb3_b1, nL, dl2, dl1, hg, e1, e2, e3, fp]
      repeat refine And.intro (by omega) ?_
      repeat refine And.intro (by omega) ?_
      intro g
      simp only [List.map_cons, List.map_nil, updL, upd, Nat.reduceEqDiff, if_true, if_false, ↓reduceIte]
      refine hK _ _ ?_; clear hK K
      rw [← ep]
      refine Cd.cond rfl (fun h3 => ?_) (fun h3 => ?_)
      · have hn : qIter (low, l) (j + 1) = none := by
          rw [qIter_succ hq]
          unfold qStep
          rw [if_neg]
          intro h
          exact sums_bad (show i < pll.length by omega) (by simpa using h3) h.2
        refine Cd.rs [4, 5] fun K hK => ?_
        simp (maxSteps := 2000000) (disch := first | (simp only [E4, nb2_b1, d21, nb3_b2, nb3_b1, nL, dl2, dl1, hg, e1, e2, e3, fp] <;> omega) | omega | fail) only [↓E2, E3, bare, bareJ, ↓E0, E1, evP, evPlan, env0, envN, evOps, evOp, evQs, evQ, evV, setD, pureOp, ev, upd, updL, gate, binW, eqOp, binV, intOp, shOp, boolOp, unV, convV, nilV, fieldAddrV, indexAddrV, extractV, cellAt, cellsAt, findB, setB, fillL, buildV, Value.cells, lenV, minV, maxV, hav, sliceV, loV, hiV, bslQ, mksQ, appQ, partsOk, partsCells, delB, eqL, SameI, strOp, apzQ, cvtQ, capV, ↓reduceIte, Zj, Zk, Nat.reduceAdd, Nat.reduceLT, Nat.reduceEqDiff, Nat.reduceMul, Nat.reduceLeDiff, if_true, Zn, reduceCtorEq, ZA, eq_self, Int.reduceLE, Int.reduceLT, Int.reduceToNat, ne_eq, Nat.reduceSub, Tbld56, Tst56, nb2_b1, d21, nb3_b2, nb3_b1, nL, dl2, dl1, hg, e1, e2, e3, fp]
        repeat refine And.intro (by omega) ?_
        repeat refine And.intro (by omega) ?_
        intro g
        simp only [List.map_cons, List.map_nil, updL, upd, Nat.reduceEqDiff, if_true, if_false, ↓reduceIte]
        refine hK _ _ ?_; clear hK K
        refine Cd.ret (thenR (inBR (thenR (roundR (inBR (thenR (inBR (thenR (roundR (inBR (thenR ?_)))))))))))
        simp (maxSteps := 2000000) (disch := first | (simp only [E4, nb2_b1, d21, nb3_b2, nb3_b1, nL, dl2, dl1, hg, e1, e2, e3, fp] <;> omega) | omega | fail) only [↓E2, E3, bare, bareJ, ↓E0, E1, evP, evPlan, env0, envN, evOps, evOp, evQs, evQ, evV, setD, pureOp, ev, upd, updL, gate, binW, eqOp, binV, intOp, shOp, boolOp, unV, convV, nilV, fieldAddrV, indexAddrV, extractV, cellAt, cellsAt, findB, setB, fillL, buildV, Value.cells, lenV, minV, maxV, hav, sliceV, loV, hiV, bslQ, mksQ, appQ, partsOk, partsCells, delB, eqL, SameI, strOp, apzQ, cvtQ, capV, ↓reduceIte, Zj, Zk, Nat.reduceAdd, Nat.reduceLT, Nat.reduceEqDiff, Nat.reduceMul, Nat.reduceLeDiff, if_true, Zn, reduceCtorEq, ZA, eq_self, Int.reduceLE, Int.reduceLT, Int.reduceToNat, ne_eq, Nat.reduceSub, Tld56, nb2_b1, d21, nb3_b2, nb3_b1, nL, dl2, dl1, hg, e1, e2, e3, fp]
        repeat refine And.intro (by omega) ?_
        exact ⟨fun p hp => by simp [hL p hp], .inr ⟨qIter_none hn k (by omega), rfl⟩⟩
      · refine Cd.skip ?_
        refine thenN ?_
        refine Cd.rr [2, 4, 6, 7, 10, 11, 15, 16, 17] fun K hK => ?_
        simp (maxSteps := 2000000) (disch := first | (simp only [E4, nb2_b1, d21, nb3_b2, nb3_b1, nL, dl2, dl1, hg, e1, e2, e3, fp] <;> omega) | omega | fail) only [↓E2, E3, bare, bareJ, ↓E0, E1, evP, evPlan, env0, envN, evOps, evOp, evQs, evQ, evV, setD, pureOp, ev, upd, updL, gate, binW, eqOp, binV, intOp, shOp, boolOp, unV, convV, nilV, fieldAddrV, indexAddrV, extractV, cellAt, cellsAt, findB, setB, fillL, buildV, Value.cells, lenV, minV, maxV, hav, sliceV, loV, hiV, bslQ, mksQ, appQ, partsOk, partsCells, delB, eqL, SameI, strOp, apzQ, cvtQ, capV, ↓reduceIte, Zj, Zk, Nat.reduceAdd, Nat.reduceLT, Nat.reduceEqDiff, Nat.reduceMul, Nat.reduceLeDiff, if_true, Zn, reduceCtorEq, ZA, eq_self, Int.reduceLE, Int.reduceLT, Int.reduceToNat, ne_eq, Nat.reduceSub, Tby2, Tslc47, Tslce47, Tzero2, nb2_b1, d21, nb3_b2, nb3_b1, nL, dl2, dl1, hg, e1, e2, e3, fp]
        repeat refine And.intro (by omega) ?_
        intro b4 hb4
        have nb4_bl := hb4.ne
        have nb4_b2 := hb4.tail.ne
        have nb4_b1 := hb4.tail.tail.ne
        try simp (maxSteps := 2000000) (disch := first | (simp only [E4, nb2_b1, d21, nb3_b2, nb3_b1, nL, dl2, dl1, hg, e1, e2, e3, fp, nb4_bl, nb4_b2, nb4_b1] <;> omega) | omega | fail) only [↓E2, E3, bare, bareJ, ↓E0, E1, evP, evPlan, env0, envN, evOps, evOp, evQs, evQ, evV, setD, pureOp, ev, upd, updL, gate, binW, eqOp, binV, intOp, shOp, boolOp, unV, convV, nilV, fieldAddrV, indexAddrV, extractV, cellAt, cellsAt, findB, setB, fillL, buildV, Value.cells, lenV, minV, maxV, hav, sliceV, loV, hiV, bslQ, mksQ, appQ, partsOk, partsCells, delB, eqL, SameI, strOp, apzQ, cvtQ, capV, ↓reduceIte, Zj, Zk, Nat.reduceAdd, Nat.reduceLT, Nat.reduceEqDiff, Nat.reduceMul, Nat.reduceLeDiff, if_true, Zn, reduceCtorEq, ZA, eq_self, Int.reduceLE, Int.reduceLT, Int.reduceToNat, ne_eq, Nat.reduceSub, Tby2, Tslc47, Tslce47, Tzero2, nb2_b1, d21, nb3_b2, nb3_b1, nL, dl2, dl1, hg, e1, e2, e3, fp, nb4_bl, nb4_b2, nb4_b1]
        repeat refine And.intro (by omega) ?_
        intro b' cap' rest' hf hc hr'
        have hr2 := hrow.snoc1 (news := [.int .i64 (psum pll (i + 1))]) rfl hc hr'
        rw [ints_snoc, ← sums_succ] at hr2
        repeat refine And.intro (by omega) ?_
        intro g
        simp only [List.map_cons, List.map_nil, updL, upd, Nat.reduceEqDiff, if_true, if_false, ↓reduceIte]
        refine hK _ _ ?_; clear hK K
        refine inBN ?_
        refine thenN ?_
        refine Cd.rr [2, 4, 6, 7, 10, 11, 15, 16, 17] fun K hK => ?_
        simp (maxSteps := 2000000) (disch := first | (simp only [E4, nb2_b1, d21, nb3_b2, nb3_b1, nL, dl2, dl1, hg, e1, e2, e3, fp, nb4_bl, nb4_b2, nb4_b1] <;> omega) | omega | fail) only [↓E2, E3, bare, bareJ, ↓E0, E1, evP, evPlan, env0, envN, evOps, evOp, evQs, evQ, evV, setD, pureOp, ev, upd, updL, gate, binW, eqOp, binV, intOp, shOp, boolOp, unV, convV, nilV, fieldAddrV, indexAddrV, extractV, cellAt, cellsAt, findB, setB, fillL, buildV, Value.cells, lenV, minV, maxV, hav, sliceV, loV, hiV, bslQ, mksQ, appQ, partsOk, partsCells, delB, eqL, SameI, strOp, apzQ, cvtQ, capV, ↓reduceIte, Zj, Zk, Nat.reduceAdd, Nat.reduceLT, Nat.reduceEqDiff, Nat.reduceMul, Nat.reduceLeDiff, if_true, Zn, reduceCtorEq, ZA, eq_self, Int.reduceLE, Int.reduceLT, Int.reduceToNat, ne_eq, Nat.reduceSub, nb2_b1, d21, nb3_b2, nb3_b1, nL, dl2, dl1, hg, e1, e2, e3, fp, nb4_bl, nb4_b2, nb4_b1]
        repeat refine And.intro (by omega) ?_
        repeat refine And.intro (by omega) ?_
        intro g
        simp only [List.map_cons, List.map_nil, updL, upd, Nat.reduceEqDiff, if_true, if_false, ↓reduceIte]
        refine hK _ _ ?_; clear hK K
        have hgood' : ∀ i', i' < i + 1 → coOk (psum pll (i' + 1)) = true := by
          intro i' hi'
          by_cases e : i' = i
          · rw [e]; simpa using h3
          · exact hgood i' (by omega)
        exact roundN (m := q2' - 1) (by omega) ⟨_, i + 1, b', cap', _, by omega, hgood', hr2, rfl, SubP.of (List.Sublist.cons_cons _ (List.Sublist.cons _ (List.Sublist.refl _)))⟩
    · obtain rfl : i = pll.length := by omega
      have hall := sums_good hgood
      refine Cd.exit (thenX (roundX (inBX ?_)))
      refine thenN ?_
      refine Cd.seq ?_
      refine Cd.rs [2, 4, 6, 10, 11, 34] fun K hK => ?_
      simp (maxSteps := 2000000) (disch := first | (simp only [E4, nb2_b1, d21, nb3_b2, nb3_b1, nL, dl2, dl1] <;> omega) | omega | fail) only [↓E2, E3, bare, bareJ, ↓E0, E1, evP, evPlan, env0, envN, evOps, evOp, evQs, evQ, evV, setD, pureOp, ev, upd, updL, gate, binW, eqOp, binV, intOp, shOp, boolOp, unV, convV, nilV, fieldAddrV, indexAddrV, extractV, cellAt, cellsAt, findB, setB, fillL, buildV, Value.cells, lenV, minV, maxV, hav, sliceV, loV, hiV, bslQ, mksQ, appQ, partsOk, partsCells, delB, eqL, SameI, strOp, apzQ, cvtQ, capV, ↓reduceIte, Zj, Zk, Nat.reduceAdd, Nat.reduceLT, Nat.reduceEqDiff, Nat.reduceMul, Nat.reduceLeDiff, if_true, Zn, reduceCtorEq, ZA, eq_self, Int.reduceLE, Int.reduceLT, Int.reduceToNat, ne_eq, Nat.reduceSub, nb2_b1, d21, nb3_b2, nb3_b1, nL, dl2, dl1]
      repeat refine And.intro (by omega) ?_
      repeat refine And.intro (by omega) ?_
      intro g
      simp only [List.map_cons, List.map_nil, updL, upd, Nat.reduceEqDiff, if_true, if_false, ↓reduceIte]
      refine hK _ _ ?_; clear hK K
      refine Cd.cond rfl (fun h3 => ?_) (fun h3 => ?_)
      · simp only [decide_eq_true_eq, decide_eq_false_iff_not, beq_iff_eq, beq_eq_false_iff_ne, bne_iff_ne, bne_eq_false_iff_eq, Bool.and_eq_true, Bool.or_eq_true, Bool.or_eq_false_iff, Bool.not_eq_true', Bool.not_eq_false', Bool.and_eq_false_imp, ne_eq, gt_iff_lt, ge_iff_le, Int.not_lt, Int.not_le, Classical.not_not] at h3
        have hn : qIter (low, l) (j + 1) = none := by
          rw [qIter_succ hq]
          unfold qStep
          rw [if_neg (fun h => h3 h.1)]
        refine Cd.rs [4, 5] fun K hK => ?_
        simp (maxSteps := 2000000) (disch := first | (simp only [E4, nb2_b1, d21, nb3_b2, nb3_b1, nL, dl2, dl1] <;> omega) | omega | fail) only [↓E2, E3, bare, bareJ, ↓E0, E1, evP, evPlan, env0, envN, evOps, evOp, evQs, evQ, evV, setD, pureOp, ev, upd, updL, gate, binW, eqOp, binV, intOp, shOp, boolOp, unV, convV, nilV, fieldAddrV, indexAddrV, extractV, cellAt, cellsAt, findB, setB, fillL, buildV, Value.cells, lenV, minV, maxV, hav, sliceV, loV, hiV, bslQ, mksQ, appQ, partsOk, partsCells, delB, eqL, SameI, strOp, apzQ, cvtQ, capV, ↓reduceIte, Zj, Zk, Nat.reduceAdd, Nat.reduceLT, Nat.reduceEqDiff, Nat.reduceMul, Nat.reduceLeDiff, if_true, Zn, reduceCtorEq, ZA, eq_self, Int.reduceLE, Int.reduceLT, Int.reduceToNat, ne_eq, Nat.reduceSub, Tbld56, Tst56, nb2_b1, d21, nb3_b2, nb3_b1, nL, dl2, dl1]
        repeat refine And.intro (by omega) ?_
        repeat refine And.intro (by omega) ?_
        intro g
        simp only [List.map_cons, List.map_nil, updL, upd, Nat.reduceEqDiff, if_true, if_false, ↓reduceIte]
        refine hK _ _ ?_; clear hK K
        refine Cd.ret (thenR (inBR (thenR (roundR (inBR (thenR ?_))))))
        simp (maxSteps := 2000000) (disch := first | (simp only [E4, nb2_b1, d21, nb3_b2, nb3_b1, nL, dl2, dl1] <;> omega) | omega | fail) only [↓E2, E3, bare, bareJ, ↓E0, E1, evP, evPlan, env0, envN, evOps, evOp, evQs, evQ, evV, setD, pureOp, ev, upd, updL, gate, binW, eqOp, binV, intOp, shOp, boolOp, unV, convV, nilV, fieldAddrV, indexAddrV, extractV, cellAt, cellsAt, findB, setB, fillL, buildV, Value.cells, lenV, minV, maxV, hav, sliceV, loV, hiV, bslQ, mksQ, appQ, partsOk, partsCells, delB, eqL, SameI, strOp, apzQ, cvtQ, capV, ↓reduceIte, Zj, Zk, Nat.reduceAdd, Nat.reduceLT, Nat.reduceEqDiff, Nat.reduceMul, Nat.reduceLeDiff, if_true, Zn, reduceCtorEq, ZA, eq_self, Int.reduceLE, Int.reduceLT, Int.reduceToNat, ne_eq, Nat.reduceSub, Tld56, nb2_b1, d21, nb3_b2, nb3_b1, nL, dl2, dl1]
        repeat refine And.intro (by omega) ?_
        exact ⟨fun p hp => by simp [hL p hp], .inr ⟨qIter_none hn k (by omega), rfl⟩⟩
      · simp only [decide_eq_true_eq, decide_eq_false_iff_not, beq_iff_eq, beq_eq_false_iff_ne, bne_iff_ne, bne_eq_false_iff_eq, Bool.and_eq_true, Bool.or_eq_true, Bool.or_eq_false_iff, Bool.not_eq_true', Bool.not_eq_false', Bool.and_eq_false_imp, ne_eq, gt_iff_lt, ge_iff_le, Int.not_lt, Int.not_le, Classical.not_not] at h3
        have hrd : RdS (toldOf [(bl, cs)]) 1 (ints .i64 (sums pll pll.length)) (.slice (some ⟨bl, 0, none⟩) pll.length cap) := (SlN.row hrow).reads fun p hp => mem_toldOf hp
        have hn : qIter (low, l) (j + 1) = some (trimLow pl (sums pll pll.length), trimL (sums pll pll.length)) := by
          rw [qIter_succ hq]
          unfold qStep
          rw [if_pos ⟨h3, hall⟩]
        refine Cd.skip ?_
        refine thenN ?_
        refine Cd.rr [2, 4, 10, 11] fun K hK => ?_
        simp (maxSteps := 2000000) (disch := first | (simp only [E4, nb2_b1, d21, nb3_b2, nb3_b1, nL, dl2, dl1] <;> omega) | omega | fail) only [↓E2, E3, bare, bareJ, ↓E0, E1, evP, evPlan, env0, envN, evOps, evOp, evQs, evQ, evV, setD, pureOp, ev, upd, updL, gate, binW, eqOp, binV, intOp, shOp, boolOp, unV, convV, nilV, fieldAddrV, indexAddrV, extractV, cellAt, cellsAt, findB, setB, fillL, buildV, Value.cells, lenV, minV, maxV, hav, sliceV, loV, hiV, bslQ, mksQ, appQ, partsOk, partsCells, delB, eqL, SameI, strOp, apzQ, cvtQ, capV, ↓reduceIte, Zj, Zk, Nat.reduceAdd, Nat.reduceLT, Nat.reduceEqDiff, Nat.reduceMul, Nat.reduceLeDiff, if_true, Zn, reduceCtorEq, ZA, eq_self, Int.reduceLE, Int.reduceLT, Int.reduceToNat, ne_eq, Nat.reduceSub, Tfld56_0, Tld2, Tst56, nb2_b1, d21, nb3_b2, nb3_b1, nL, dl2, dl1]
        repeat refine And.intro (by omega) ?_
        refine callK_newR0 (trimmed_c pl (sums pll pll.length) _ _ hrd (by rw [sums_len]; omega) (by omega)) (HoldsAll.toldW (holds_mem hnd fun p hp => by rw [List.mem_singleton.1 hp]; exact List.mem_cons_self)) ?_
        rintro v' M' ⟨s', rfl, hs'⟩ nd' _
        obtain ⟨a', m', c', rfl⟩ := hs'.form
        simp only [List.cons_append, List.nil_append] at nd' ⊢
        simp (maxSteps := 2000000) (disch := first | (simp only [E4, nb2_b1, d21, nb3_b2, nb3_b1, nL, dl2, dl1] <;> omega) | omega | fail) only [↓E2, E3, bare, bareJ, ↓E0, E1, evP, evPlan, env0, envN, evOps, evOp, evQs, evQ, evV, setD, pureOp, ev, upd, updL, gate, binW, eqOp, binV, intOp, shOp, boolOp, unV, convV, nilV, fieldAddrV, indexAddrV, extractV, cellAt, cellsAt, findB, setB, fillL, buildV, Value.cells, lenV, minV, maxV, hav, sliceV, loV, hiV, bslQ, mksQ, appQ, partsOk, partsCells, delB, eqL, SameI, strOp, apzQ, cvtQ, capV, ↓reduceIte, Zj, Zk, Nat.reduceAdd, Nat.reduceLT, Nat.reduceEqDiff, Nat.reduceMul, Nat.reduceLeDiff, if_true, Zn, reduceCtorEq, ZA, eq_self, Int.reduceLE, Int.reduceLT, Int.reduceToNat, ne_eq, Nat.reduceSub, Tfld56_0, Tld2, Tst56, nb2_b1, d21, nb3_b2, nb3_b1, nL, dl2, dl1]
        repeat refine And.intro (by omega) ?_
        repeat refine And.intro (by omega) ?_
        intro g
        simp only [List.map_cons, List.map_nil, updL, upd, Nat.reduceEqDiff, if_true, if_false, ↓reduceIte]
        refine hK _ _ ?_; clear hK K
        have hper : ((b2, [.int .i64 0, .slice none 0 0]) :: (b1, [.int .i64 (trimLow pl (sums pll pll.length)), .slice a' m' c']) :: (MM ++ M')).Sublist ((bl, cs) :: (b2, [.int .i64 0, .slice none 0 0]) :: (b1, [.int .i64 (trimLow pl (sums pll pll.length)), .slice a' m' c']) :: (MM ++ M')) := List.Sublist.cons _ (List.Sublist.refl _)
        refine Cd.drop hper ?_
        refine Cd.nodup fun hnd2 => ?_
        refine Cd.rr [2, 4, 10, 11] fun K hK => ?_
        simp (maxSteps := 2000000) (disch := first | (simp only [E4, nb2_b1, d21, nb3_b2, nb3_b1, nL, dl2, dl1] <;> omega) | omega | fail) only [↓E2, E3, bare, bareJ, ↓E0, E1, evP, evPlan, env0, envN, evOps, evOp, evQs, evQ, evV, setD, pureOp, ev, upd, updL, gate, binW, eqOp, binV, intOp, shOp, boolOp, unV, convV, nilV, fieldAddrV, indexAddrV, extractV, cellAt, cellsAt, findB, setB, fillL, buildV, Value.cells, lenV, minV, maxV, hav, sliceV, loV, hiV, bslQ, mksQ, appQ, partsOk, partsCells, delB, eqL, SameI, strOp, apzQ, cvtQ, capV, ↓reduceIte, Zj, Zk, Nat.reduceAdd, Nat.reduceLT, Nat.reduceEqDiff, Nat.reduceMul, Nat.reduceLeDiff, if_true, Zn, reduceCtorEq, ZA, eq_self, Int.reduceLE, Int.reduceLT, Int.reduceToNat, ne_eq, Nat.reduceSub, nb2_b1, d21, nb3_b2, nb3_b1, nL, dl2, dl1]
        repeat refine And.intro (by omega) ?_
        repeat refine And.intro (by omega) ?_
        intro g
        simp only [List.map_cons, List.map_nil, updL, upd, Nat.reduceEqDiff, if_true, if_false, ↓reduceIte]
        refine hK _ _ ?_; clear hK K
        exact roundN (m := q - 1) (by omega) ⟨_, j + 1, _, _, a', m', c', M', MM ++ M', by omega, hn, hs', fun p hp => List.mem_append_right _ hp, fun p hp => List.mem_append_left _ (hL p hp), rfl, SubP.refl _⟩
  · obtain rfl : j = k := by omega
    refine Cd.exit (thenX (roundX (inBX ?_)))
    refine thenN ?_
    refine Cd.rs [4, 5] fun K hK => ?_
    simp (maxSteps := 2000000) (disch := first | (simp only [E4, nb2_b1, d21] <;> omega) | omega | fail) only [↓E2, E3, bare, bareJ, ↓E0, E1, evP, evPlan, env0, envN, evOps, evOp, evQs, evQ, evV, setD, pureOp, ev, upd, updL, gate, binW, eqOp, binV, intOp, shOp, boolOp, unV, convV, nilV, fieldAddrV, indexAddrV, extractV, cellAt, cellsAt, findB, setB, fillL, buildV, Value.cells, lenV, minV, maxV, hav, sliceV, loV, hiV, bslQ, mksQ, appQ, partsOk, partsCells, delB, eqL, SameI, strOp, apzQ, cvtQ, capV, ↓reduceIte, Zj, Zk, Nat.reduceAdd, Nat.reduceLT, Nat.reduceEqDiff, Nat.reduceMul, Nat.reduceLeDiff, if_true, Zn, reduceCtorEq, ZA, eq_self, Int.reduceLE, Int.reduceLT, Int.reduceToNat, ne_eq, Nat.reduceSub, Tld56, Tst56, nb2_b1, d21]
    repeat refine And.intro (by omega) ?_
    repeat refine And.intro (by omega) ?_
    intro g
    simp only [List.map_cons, List.map_nil, updL, upd, Nat.reduceEqDiff, if_true, if_false, ↓reduceIte]
    refine hK _ _ ?_; clear hK K
    refine Cd.ret ?_
    simp (maxSteps := 2000000) (disch := first | (simp only [E4, nb2_b1, d21] <;> omega) | omega | fail) only [↓E2, E3, bare, bareJ, ↓E0, E1, evP, evPlan, env0, envN, evOps, evOp, evQs, evQ, evV, setD, pureOp, ev, upd, updL, gate, binW, eqOp, binV, intOp, shOp, boolOp, unV, convV, nilV, fieldAddrV, indexAddrV, extractV, cellAt, cellsAt, findB, setB, fillL, buildV, Value.cells, lenV, minV, maxV, hav, sliceV, loV, hiV, bslQ, mksQ, appQ, partsOk, partsCells, delB, eqL, SameI, strOp, apzQ, cvtQ, capV, ↓reduceIte, Zj, Zk, Nat.reduceAdd, Nat.reduceLT, Nat.reduceEqDiff, Nat.reduceMul, Nat.reduceLeDiff, if_true, Zn, reduceCtorEq, ZA, eq_self, Int.reduceLE, Int.reduceLT, Int.reduceToNat, ne_eq, Nat.reduceSub, Tld56, nb2_b1, d21]
    repeat refine And.intro (by omega) ?_
    exact ⟨fun p hp => by simp [hL p hp], .inl ⟨_, _, Mq, hq, rfl, fun p hp => by simp [hMq p hp], _, rfl, hsl⟩⟩
end

end Go.Proofs

/-
  What the functions of this part hand back: each as a plain function of its arguments. Conditions: none.
-/
namespace Go.Proofs
open Go.W8
set_option linter.unusedVariables false
set_option linter.unusedSimpArgs false
set_option linter.unusedSectionVars false
set_option maxRecDepth 8000
set_option maxHeartbeats 4000000
--@plain
section
variable {P : Program} {N : Nat} {W : List Nat} {w0 : World} {ρ : Env} {M M' : Blks}
/-- A function that is lent L, hands it back as it was, and beside it new memory. -/
def keepQ (L : Blks) (rep : Value → Blks → Prop) (v : Value) (M' : Blks) : Prop := ∃ M1, (∀ p ∈ L, p ∈ M') ∧ (∀ p ∈ M1, p ∈ M') ∧ ((L ++ M1).map (·.1)).Nodup ∧ rep v M1
def GivesK (P : Program) (f : FuncId) (args : Array Value) (L : Blks) (rep : Value → Blks → Prop) : Prop := GivesX P f args L [] (keepQ L rep)
theorem keepQ.none {L : Blks} {rep : Value → Blks → Prop} {v : Value} {M' : Blks} (hL : (L.map (·.1)).Nodup) (h : ∀ p ∈ L, p ∈ M') (hr : rep v []) : keepQ L rep v M' := ⟨[], h, (fun _ hp => nomatch hp), by simpa using hL, hr⟩
theorem keepQ.behind {L A B : Blks} {rep : Value → Blks → Prop} {v : Value} {M' : Blks} (hL : (L.map (·.1)).Nodup) (hn : ((A ++ B).map (·.1)).Nodup) (h : ∀ p ∈ L, p ∈ A) (hM : M' = A ++ B) (hr : rep v B) : keepQ L rep v M' := by
  subst hM
  refine ⟨B, fun p hp => List.mem_append_left _ (h p hp), fun p hp => List.mem_append_right _ hp, ?_, hr⟩
  rw [List.map_append, List.nodup_append] at hn ⊢
  refine ⟨hL, hn.2.1, fun a ha b hb => hn.2.2 a ?_ b hb⟩
  obtain ⟨p, hp, rfl⟩ := List.mem_map.1 ha
  exact List.mem_map_of_mem (h p hp)
theorem mem_keys {p : Nat × List Value} (h : p ∈ M) : p.1 ∈ M.map (·.1) := List.mem_map_of_mem h
theorem key_eq {p q : Nat × List Value} (hn : (M.map (·.1)).Nodup) (hp : p ∈ M) (hq : q ∈ M) (e : p.1 = q.1) : p = q := by
  have h1 := findB_of (b := p.1) (cs := p.2) hn hp
  have h2 := findB_of (b := q.1) (cs := q.2) hn hq
  rw [e, h2] at h1
  exact Prod.ext e (Option.some.inj h1).symm
theorem GivesK.acall {f : FuncId} {args : Array Value} {L : Blks} {rep R' : Value → Blks → Prop} (h : GivesK P f args L rep) (hM : (M.map (·.1)).Nodup) (hL : ∀ p ∈ L, p ∈ M) (hn : (L.map (·.1)).Nodup)
    (hk : ∀ v M1, rep v M1 → ((M ++ M1).map (·.1)).Nodup → (∀ p ∈ M1, Fresh w0 M p.1) → R' v (M ++ M1)) : ACall P W w0 f args M R' := by
  refine ⟨h.1, fun w hw => (h.2 w hn (fun p hp => hw.blk p (hL p hp)) toldW_nil).mono ?_⟩
  rintro e w' ⟨v, M', rfl, hw', M1, h1, h2, h3, h4⟩
  have hs : (M.filter fun p => decide (p.1 ∉ L.map (·.1))).Sublist M := List.filter_sublist
  have ho := hw.thenL hL hs (fun p hp => by simpa using (List.mem_filter.1 hp).2) hw'
  have hf : ∀ p ∈ M1, Fresh w0 M p.1 := by
    intro p hp
    have hpL : p.1 ∉ L.map (·.1) := by
      intro hm
      rw [List.map_append, List.nodup_append] at h3
      exact h3.2.2 _ hm _ (mem_keys hp) rfl
    rcases hw'.own p (h2 p hp) with h5 | h5
    · exact absurd h5 hpL
    · exact ⟨Nat.le_trans hw.size h5, fun q hq => by have := hw.lt hq; omega⟩
  have hnn : ((M ++ M1).map (·.1)).Nodup := by
    rw [List.map_append, List.nodup_append] at h3 ⊢
    refine ⟨hM, h3.2.1, ?_⟩
    intro a ha b hb e
    subst e
    obtain ⟨p, hp, rfl⟩ := List.mem_map.1 hb
    obtain ⟨q, hq, e⟩ := List.mem_map.1 ha
    exact (hf p hp).2 q hq e.symm
  refine ⟨v, M ++ M1, rfl, ho.turn (fun p hp => ?_) hnn, hk v M1 h4 hnn hf⟩
  rcases List.mem_append.1 hp with hp | hp
  · by_cases hpL : p.1 ∈ L.map (·.1)
    · obtain ⟨q, hq, e⟩ := List.mem_map.1 hpL
      rw [← key_eq hM (hL q hq) hp e]
      exact List.mem_append_left _ (h1 q hq)
    · exact List.mem_append_right _ (List.mem_filter.2 ⟨hp, by simpa using hpL⟩)
  · exact List.mem_append_left _ (h2 p hp)
theorem callK_keep0 {n : FuncId} {args : List Value} {d : Option Tmp} {ops : Array Oper} {rest : List Oper} {L : Blks} {rep : Value → Blks → Prop} {K : Env → Blks → Prop} (h : GivesK P n args.toArray L rep) (hM : (M.map (·.1)).Nodup) (hL : ∀ p ∈ L, p ∈ M) (hn : (L.map (·.1)).Nodup)
    (hk : ∀ v M1, rep v M1 → ((M ++ M1).map (·.1)).Nodup → (∀ p ∈ M1, Fresh w0 M p.1) → setD N ρ d v fun ρ' => evOps P N W w0 ops rest ρ' (M ++ M1) K) : callK P N W w0 (.func (.func n) #[] #[]) args M d ρ ops rest K := by
  unfold callK
  simp only [List.append_nil, List.nil_append]
  exact h.acall hM hL hn hk
theorem callO_keep0 {n : FuncId} {args : List Value} {d : Option Tmp} {ops : Array Oper} {p : Plan} {L : Blks} {rep : Value → Blks → Prop} {K : Env → Blks → Prop} (h : GivesK P n args.toArray L rep) (hM : (M.map (·.1)).Nodup) (hL : ∀ p ∈ L, p ∈ M) (hn : (L.map (·.1)).Nodup)
    (hk : ∀ v M1, rep v M1 → ((M ++ M1).map (·.1)).Nodup → (∀ p ∈ M1, Fresh w0 M p.1) → setD N ρ d v fun ρ' => evPlan P N W w0 ops p ρ' (M ++ M1) K) : callO P N W w0 (.func (.func n) #[] #[]) args M d ρ ops p K := by
  unfold callO
  simp only [List.append_nil, List.nil_append]
  exact h.acall hM hL hn hk
theorem GivesK.acallS {f : FuncId} {args : Array Value} {L : Blks} {rep R' : Value → Blks → Prop} (h : (L.map (·.1)).Nodup → GivesK P f args L rep) (hc : callable P f) (hs : SubP L M)
    (hk : ∀ v M1, rep v M1 → ((M ++ M1).map (·.1)).Nodup → (∀ p ∈ M1, Fresh w0 M p.1) → R' v (M ++ M1)) : ACall P W w0 f args M R' := by
  refine ⟨hc, fun w hw => ?_⟩
  obtain ⟨M1, h1, h2⟩ := hs
  have hn : (L.map (·.1)).Nodup := (h1.map (·.1)).nodup_iff.2 ((h2.map (·.1)).nodup hw.nodup)
  exact ((h hn).acall hw.nodup (fun p hp => h2.subset (h1.subset hp)) hn hk).2 w hw
theorem callO_keepS {n : FuncId} {args : List Value} {d : Option Tmp} {ops : Array Oper} {p : Plan} {L : Blks} {rep : Value → Blks → Prop} {K : Env → Blks → Prop} (h : (L.map (·.1)).Nodup → GivesK P n args.toArray L rep) (hc : callable P n) (hs : SubP L M)
    (hk : ∀ v M1, rep v M1 → ((M ++ M1).map (·.1)).Nodup → (∀ p ∈ M1, Fresh w0 M p.1) → setD N ρ d v fun ρ' => evPlan P N W w0 ops p ρ' (M ++ M1) K) : callO P N W w0 (.func (.func n) #[] #[]) args M d ρ ops p K := by
  unfold callO
  simp only [List.append_nil, List.nil_append]
  exact GivesK.acallS h hc hs hk
theorem callK_keepS {n : FuncId} {args : List Value} {d : Option Tmp} {ops : Array Oper} {rest : List Oper} {L : Blks} {rep : Value → Blks → Prop} {K : Env → Blks → Prop} (h : (L.map (·.1)).Nodup → GivesK P n args.toArray L rep) (hc : callable P n) (hs : SubP L M)
    (hk : ∀ v M1, rep v M1 → ((M ++ M1).map (·.1)).Nodup → (∀ p ∈ M1, Fresh w0 M p.1) → setD N ρ d v fun ρ' => evOps P N W w0 ops rest ρ' (M ++ M1) K) : callK P N W w0 (.func (.func n) #[] #[]) args M d ρ ops rest K := by
  unfold callK
  simp only [List.append_nil, List.nil_append]
  exact GivesK.acallS h hc hs hk
/-- A call that is lent something: what it hands back is told behind the rest. -/
theorem callK_lentB0 {n : FuncId} {args : List Value} {d : Option Tmp} {ops : Array Oper} {rest : List Oper} {L Mr : Blks} {R : Rd} {Post : Value → Blks → Prop} {K : Env → Blks → Prop} (h : GivesX P n args.toArray L R Post) (hM : ((Mr ++ L).map (·.1)).Nodup) (e : M = Mr ++ L)
    (hR : ∀ w, Own W w0 M w → ToldW w R)
    (hk : ∀ v M', Post v M' → ((Mr ++ M').map (·.1)).Nodup → (∀ p ∈ M', p.1 ∉ L.map (·.1) → Fresh w0 M p.1) → setD N ρ d v fun ρ' => evOps P N W w0 ops rest ρ' (Mr ++ M') K) : callK P N W w0 (.func (.func n) #[] #[]) args M d ρ ops rest K := by
  subst e
  unfold callK
  simp only [List.append_nil, List.nil_append]
  have hn := hM
  rw [List.map_append, List.nodup_append] at hn
  refine ⟨h.1, fun w hw => (h.2 w hn.2.1 (fun p hp => hw.blk p (List.mem_append_right _ hp)) (hR w hw)).mono ?_⟩
  rintro e w' ⟨v, M', rfl, hw', hp⟩
  have ho := hw.thenL (L := L) (Mr := Mr) (fun p hp => List.mem_append_right _ hp) (List.sublist_append_left _ _) (fun p hp hm => hn.2.2 _ (mem_keys hp) _ hm rfl) hw'
  have hper : (Mr ++ M').Perm (M' ++ Mr) := List.perm_append_comm
  have hnn := (hper.map (·.1)).nodup_iff.2 ho.nodup
  refine ⟨v, Mr ++ M', rfl, ho.turn (fun p hp => hper.subset hp) hnn, hk v M' hp hnn fun p hp hne => ?_⟩
  rcases hw'.own p hp with h1 | h1
  · exact absurd h1 hne
  · exact ⟨Nat.le_trans hw.size h1, fun q hq => by have := hw.lt hq; omega⟩
theorem _root_.Go.W8.SlN.toO {l : List Int} {v : Value} {Mq : Blks} (h : SlN 1 (ints .i64 l) v Mq) (hn : (M.map (·.1)).Nodup) (hm : ∀ p ∈ Mq, p ∈ M) : ∃ R, RdO R l v ∧ HoldsAll W w0 M R := by
  rcases h with ⟨e, rfl, rfl⟩ | ⟨b, m, cap, cs, rfl, rfl, hr⟩
  · have : l = [] := by have := congrArg List.length e; rw [ints_length] at this; exact List.eq_nil_of_length_eq_zero this
    subst this
    exact ⟨[], .inl ⟨rfl, _, rfl⟩, fun _ hr => nomatch hr⟩
  · have hl := hr.len
    rw [ints_length] at hl
    obtain rfl : m = l.length := by omega
    refine ⟨[(b, 0, ints .i64 l)], .inr ⟨b, 0, cap, rfl, fun _ => rfl, fun _ => List.mem_singleton.2 rfl⟩, ?_⟩
    intro r hr1
    rw [List.mem_singleton.1 hr1]
    obtain ⟨rest, rfl⟩ := hr.pre
    intro j u hu
    have hf := findB_of hn (hm _ (List.mem_singleton.2 rfl))
    simp only at hu ⊢
    unfold cellAt
    rw [hf]
    have hj : j < (ints .i64 l).length := by
      rcases Nat.lt_or_ge j (ints .i64 l).length with h1 | h1
      · exact h1
      · rw [List.getElem?_eq_none h1] at hu; cases hu
    simp only [Nat.zero_add]
    rw [List.getElem?_append_left hj, hu]
theorem Cd.newer {Q : Exit → Env → Blks → Prop} {c : Code} (h : (∀ p ∈ M, p.1 ∈ W ∨ w0.heap.size ≤ p.1) → Cd P N W w0 c Q ρ M) : Cd P N W w0 c Q ρ M := fun a w ha hw => h hw.own a w ha hw
theorem new_ne {bl bq j : Nat} {u : Value} (h : bl ∈ W ∨ w0.heap.size ≤ bl) (hW : ¬ bl ∈ W) (hg : frn W w0 bq j = some u) : ¬ bl = bq := by
  rcases h with h | h
  · exact absurd h hW
  · exact told_ne (M := []) ⟨h, fun _ hp => nomatch hp⟩ hg
theorem GivesX.acallB {f : FuncId} {args : Array Value} {L Mr : Blks} {R : Rd} {Post R' : Value → Blks → Prop} (h : GivesX P f args L R Post) (hM : ((Mr ++ L).map (·.1)).Nodup) (e : M = Mr ++ L)
    (hR : ∀ w, Own W w0 M w → ToldW w R)
    (hk : ∀ v M', Post v M' → ((Mr ++ M').map (·.1)).Nodup → (∀ p ∈ M', p.1 ∉ L.map (·.1) → Fresh w0 M p.1) → R' v (Mr ++ M')) : ACall P W w0 f args M R' := by
  subst e
  have hn := hM
  rw [List.map_append, List.nodup_append] at hn
  refine ⟨h.1, fun w hw => (h.2 w hn.2.1 (fun p hp => hw.blk p (List.mem_append_right _ hp)) (hR w hw)).mono ?_⟩
  rintro e w' ⟨v, M', rfl, hw', hp⟩
  have ho := hw.thenL (L := L) (Mr := Mr) (fun p hp => List.mem_append_right _ hp) (List.sublist_append_left _ _) (fun p hp hm => hn.2.2 _ (mem_keys hp) _ hm rfl) hw'
  have hper : (Mr ++ M').Perm (M' ++ Mr) := List.perm_append_comm
  have hnn := (hper.map (·.1)).nodup_iff.2 ho.nodup
  refine ⟨v, Mr ++ M', rfl, ho.turn (fun p hp => hper.subset hp) hnn, hk v M' hp hnn fun p hp hne => ?_⟩
  rcases hw'.own p hp with h1 | h1
  · exact absurd h1 hne
  · exact ⟨Nat.le_trans hw.size h1, fun q hq => by have := hw.lt hq; omega⟩
theorem callK_lentB {n : FuncId} {args : List Value} {fs cs : Array Value} {d : Option Tmp} {ops : Array Oper} {rest : List Oper} {L Mr : Blks} {R : Rd} {Post : Value → Blks → Prop} {K : Env → Blks → Prop} (h : GivesX P n (fs.toList ++ (args ++ cs.toList)).toArray L R Post) (hM : ((Mr ++ L).map (·.1)).Nodup) (e : M = Mr ++ L)
    (hR : ∀ w, Own W w0 M w → ToldW w R)
    (hk : ∀ v M', Post v M' → ((Mr ++ M').map (·.1)).Nodup → (∀ p ∈ M', p.1 ∉ L.map (·.1) → Fresh w0 M p.1) → setD N ρ d v fun ρ' => evOps P N W w0 ops rest ρ' (Mr ++ M') K) : callK P N W w0 (.func (.func n) fs cs) args M d ρ ops rest K := by
  unfold callK
  exact GivesX.acallB h hM e hR hk
theorem callO_lentB {n : FuncId} {args : List Value} {fs cs : Array Value} {d : Option Tmp} {ops : Array Oper} {p : Plan} {L Mr : Blks} {R : Rd} {Post : Value → Blks → Prop} {K : Env → Blks → Prop} (h : GivesX P n (fs.toList ++ (args ++ cs.toList)).toArray L R Post) (hM : ((Mr ++ L).map (·.1)).Nodup) (e : M = Mr ++ L)
    (hR : ∀ w, Own W w0 M w → ToldW w R)
    (hk : ∀ v M', Post v M' → ((Mr ++ M').map (·.1)).Nodup → (∀ q ∈ M', q.1 ∉ L.map (·.1) → Fresh w0 M q.1) → setD N ρ d v fun ρ' => evPlan P N W w0 ops p ρ' (Mr ++ M') K) : callO P N W w0 (.func (.func n) fs cs) args M d ρ ops p K := by
  unfold callO
  exact GivesX.acallB h hM e hR hk
/-- .. of a function with captured places. -/
theorem callO_lentC {n : FuncId} {args cs : List Value} {d : Option Tmp} {ops : Array Oper} {p : Plan} {L Mr : Blks} {R : Rd} {Post : Value → Blks → Prop} {K : Env → Blks → Prop} (h : GivesX P n (args ++ cs).toArray L R Post) (hM : ((Mr ++ L).map (·.1)).Nodup) (e : M = Mr ++ L)
    (hR : ∀ w, Own W w0 M w → ToldW w R)
    (hk : ∀ v M', Post v M' → ((Mr ++ M').map (·.1)).Nodup → (∀ q ∈ M', q.1 ∉ L.map (·.1) → Fresh w0 M q.1) → setD N ρ d v fun ρ' => evPlan P N W w0 ops p ρ' (Mr ++ M') K) : callO P N W w0 (.func (.func n) #[] cs.toArray) args M d ρ ops p K := by
  unfold callO
  simp only [List.nil_append]
  exact GivesX.acallB h hM e hR hk
theorem callK_lentC {n : FuncId} {args cs : List Value} {d : Option Tmp} {ops : Array Oper} {rest : List Oper} {L Mr : Blks} {R : Rd} {Post : Value → Blks → Prop} {K : Env → Blks → Prop} (h : GivesX P n (args ++ cs).toArray L R Post) (hM : ((Mr ++ L).map (·.1)).Nodup) (e : M = Mr ++ L)
    (hR : ∀ w, Own W w0 M w → ToldW w R)
    (hk : ∀ v M', Post v M' → ((Mr ++ M').map (·.1)).Nodup → (∀ q ∈ M', q.1 ∉ L.map (·.1) → Fresh w0 M q.1) → setD N ρ d v fun ρ' => evOps P N W w0 ops rest ρ' (Mr ++ M') K) : callK P N W w0 (.func (.func n) #[] cs.toArray) args M d ρ ops rest K := by
  unfold callK
  simp only [List.nil_append]
  exact GivesX.acallB h hM e hR hk
/-- What reads only is a keeping too. -/
theorem GivesX.keep {f : FuncId} {args : Array Value} {L : Blks} {rep : Value → Blks → Prop} (h : GivesX P f args [] (toldOf L) rep) : GivesK P f args L rep := by
  refine ⟨h.1, fun w hn hL _ => ?_⟩
  have hown := Own.startL hL hn
  have hT : ToldW w (toldOf L) := toldW_mem (fun p hp => hp) w hown
  refine (h.2 w List.nodup_nil (fun _ hp => nomatch hp) hT).mono ?_
  rintro e w' ⟨v, M', rfl, hw', hp⟩
  have ho : Own (L.map (·.1)) w (M' ++ L) w' := hown.thenL (L := []) (fun _ hp => nomatch hp) (List.Sublist.refl _) (fun _ _ hm => nomatch hm) hw'
  refine ⟨v, M' ++ L, rfl, ho, M', fun p hp => List.mem_append_right _ hp, fun p hp => List.mem_append_left _ hp, ?_, hp⟩
  have hper : (M' ++ L).Perm (L ++ M') := List.perm_append_comm
  exact (hper.map (·.1)).nodup_iff.1 ho.nodup
end

end Go.Proofs

/-
  What the functions of this part hand back: each as a plain function of its arguments. Conditions: none.
-/
namespace Go.Proofs
open Go.W8
set_option linter.unusedVariables false
set_option linter.unusedSimpArgs false
set_option linter.unusedSectionVars false
set_option maxRecDepth 8000
set_option maxHeartbeats 4000000
def quotAns (low : Int) (l : List Int) (k : Int) : Int × List Int × Int :=
  if lauOk low l = true then if 0 ≤ k ∧ k ≤ 20 then match qIter (low, l) k.toNat with
    | some q => (q.1, q.2, 0)
    | none => (0, [], 5) else (0, [], 2) else (0, [], 1)
def lauRes (A : Int × List Int × Int) : Value → Blks → Prop := ResS (LauV A.1 A.2.1) A.2.2
theorem lauRes_no {A : Int × List Int × Int} {c : Int} {r : Value} (h : A = (0, [], c)) (hr : r = .tuple #[.agg #[.int .i64 0, .slice none 0 0], .int .i64 c]) : lauRes A r [] := by
  subst h; subst hr
  exact ⟨_, rfl, _, rfl, SlN.nil 1⟩
section
variable (low : Int) (l : List Int) (v : Value) (L : Blks) (hv : LauV low l v L) (hL : (L.map (·.1)).Nodup) (hb : l.length ≤ 100000000) (hw : -9223372036854775808 ≤ low ∧ low < 9223372036854775808) (k : Int)
include hv hL hb hw
end
section
variable (low : Int) (l : List Int) (v : Value) (L : Blks) (hv : LauV low l v L) (hL : (L.map (·.1)).Nodup) (hb : l.length ≤ 100000000) (hw : -9223372036854775808 ≤ low ∧ low < 9223372036854775808) (k : Int)
include hv hL hb hw
end

end Go.Proofs

/-
  What the functions of this part hand back: each as a plain function of its arguments. Conditions: none.
-/
namespace Go.Proofs
open Go.W8
set_option linter.unusedVariables false
set_option linter.unusedSimpArgs false
set_option linter.unusedSectionVars false
set_option maxRecDepth 8000
set_option maxHeartbeats 4000000
def mirLow (low : Int) (l : List Int) : Int := if l.length = 0 then 0 else 1 - low - l.length
theorem rev_get {l : List Int} {i : Nat} (h : i < l.length) : l.reverse.getD i 0 = l.getD (l.length - 1 - i) 0 := by
  rw [List.getD_eq_getElem?_getD, List.getD_eq_getElem?_getD, List.getElem?_reverse h]
theorem lauOk_mir {low : Int} {l : List Int} (h : lauOk low l = true) : lauOk (mirLow low l) l.reverse = true := by
  by_cases h0 : l.length = 0
  · have e := List.eq_nil_of_length_eq_zero h0
    subst e
    rfl
  · rw [lauOk_pos h0] at h
    rw [lauOk_pos (by simpa using h0)]
    simp only [Bool.and_eq_true, Bool.not_eq_true', beq_eq_false_iff_ne, decide_eq_true_eq, List.length_reverse, List.all_reverse] at h ⊢
    unfold mirLow
    rw [if_neg h0, rev_get (by omega), rev_get (by omega), show l.length - 1 - (l.length - 1) = 0 by omega, Nat.sub_zero]
    refine ⟨⟨⟨⟨⟨?_, ?_, ?_⟩, ?_⟩, ?_⟩, ?_⟩, ?_⟩ <;> first | omega | exact h.1.1.2 | exact h.1.2 | exact h.2
theorem trim_mir {low : Int} {l : List Int} (h : lauOk low l = true) : trimLow (1 - low - l.length) l.reverse = mirLow low l ∧ trimL l.reverse = l.reverse := by
  have hm := trim_same (lauOk_mir h)
  by_cases h0 : l.length = 0
  · have e := List.eq_nil_of_length_eq_zero h0
    subst e
    exact ⟨rfl, rfl⟩
  · have e : mirLow low l = 1 - low - l.length := by unfold mirLow; rw [if_neg h0]
    rw [e] at hm ⊢
    exact hm
theorem l04Told_c (low : Int) (l : List Int) (R : Rd) (v : Value) (h : RdL R low l v) (hb : l.length < 4611686018427387904) (hw : -9223372036854775808 ≤ low ∧ low < 9223372036854775808) :
    GivesR Try.prog 116 #[v] R (if lauOk low l = true then .tuple #[v, .int .i64 0] else .tuple #[.agg #[.int .i64 0, .slice none 0 0], .int .i64 3]) := by
  have hI := fun (R : Rd) (h : RdL R low l v) => h
  obtain ⟨a, cap, rfl, hsl⟩ := h.form
  refine GivesR.of (callable_of Try.func116 rfl (by decide)) fun w hR => ?_
  refine acall_of (N := 9) (c := _) (rs := [.cell 2 56, .tmp 3]) (args := [_]) Try.func116 rfl (by decide) rfl rfl (Nat.le_of_ble_eq_true rfl) ?_
  refine Cd.rs [1, 2] fun K hK => ?_
  simp (maxSteps := 2000000) (disch := first | (simp only [E4] <;> omega) | omega | fail) only [↓E2, E3, bare, bareJ, ↓E0, E1, evP, evPlan, env0, envN, evOps, evOp, evQs, evQ, evV, setD, pureOp, ev, upd, updL, gate, binW, eqOp, binV, intOp, shOp, boolOp, unV, convV, nilV, fieldAddrV, indexAddrV, extractV, cellAt, cellsAt, findB, setB, fillL, buildV, Value.cells, lenV, minV, maxV, hav, sliceV, loV, hiV, bslQ, mksQ, appQ, partsOk, partsCells, delB, eqL, SameI, strOp, apzQ, cvtQ, capV, ↓reduceIte, Zj, Zk, Nat.reduceAdd, Nat.reduceLT, Nat.reduceEqDiff, Nat.reduceMul, Nat.reduceLeDiff, if_true, Zn, reduceCtorEq, ZA, eq_self, Int.reduceLE, Int.reduceLT, Int.reduceToNat, ne_eq, Nat.reduceSub, Tzero56]
  repeat refine And.intro (by omega) ?_
  intro b1 hb1
  intro b2 hb2
  have nb2_b1 := hb2.ne
  try simp (maxSteps := 2000000) (disch := first | (simp only [E4, nb2_b1] <;> omega) | omega | fail) only [↓E2, E3, bare, bareJ, ↓E0, E1, evP, evPlan, env0, envN, evOps, evOp, evQs, evQ, evV, setD, pureOp, ev, upd, updL, gate, binW, eqOp, binV, intOp, shOp, boolOp, unV, convV, nilV, fieldAddrV, indexAddrV, extractV, cellAt, cellsAt, findB, setB, fillL, buildV, Value.cells, lenV, minV, maxV, hav, sliceV, loV, hiV, bslQ, mksQ, appQ, partsOk, partsCells, delB, eqL, SameI, strOp, apzQ, cvtQ, capV, ↓reduceIte, Zj, Zk, Nat.reduceAdd, Nat.reduceLT, Nat.reduceEqDiff, Nat.reduceMul, Nat.reduceLeDiff, if_true, Zn, reduceCtorEq, ZA, eq_self, Int.reduceLE, Int.reduceLT, Int.reduceToNat, ne_eq, Nat.reduceSub, Tzero56, nb2_b1]
  repeat refine And.intro (by omega) ?_
  repeat refine And.intro (by omega) ?_
  intro g
  simp only [List.map_cons, List.map_nil, updL, upd, Nat.reduceEqDiff, if_true, if_false, ↓reduceIte]
  refine hK _ _ ?_; clear hK K
  refine Cd.seq ?_
  refine Cd.rs [1, 2, 6] fun K hK => ?_
  simp (maxSteps := 2000000) (disch := first | (simp only [E4, nb2_b1] <;> omega) | omega | fail) only [↓E2, E3, bare, bareJ, ↓E0, E1, evP, evPlan, env0, envN, evOps, evOp, evQs, evQ, evV, setD, pureOp, ev, upd, updL, gate, binW, eqOp, binV, intOp, shOp, boolOp, unV, convV, nilV, fieldAddrV, indexAddrV, extractV, cellAt, cellsAt, findB, setB, fillL, buildV, Value.cells, lenV, minV, maxV, hav, sliceV, loV, hiV, bslQ, mksQ, appQ, partsOk, partsCells, delB, eqL, SameI, strOp, apzQ, cvtQ, capV, ↓reduceIte, Zj, Zk, Nat.reduceAdd, Nat.reduceLT, Nat.reduceEqDiff, Nat.reduceMul, Nat.reduceLeDiff, if_true, Zn, reduceCtorEq, ZA, eq_self, Int.reduceLE, Int.reduceLT, Int.reduceToNat, ne_eq, Nat.reduceSub, Tld56, nb2_b1]
  repeat refine And.intro (by omega) ?_
  refine callK_told0 (l04Is_c low l R _ hsl hb hw) hR ?_
  simp (maxSteps := 2000000) (disch := first | (simp only [E4, nb2_b1] <;> omega) | omega | fail) only [↓E2, E3, bare, bareJ, ↓E0, E1, evP, evPlan, env0, envN, evOps, evOp, evQs, evQ, evV, setD, pureOp, ev, upd, updL, gate, binW, eqOp, binV, intOp, shOp, boolOp, unV, convV, nilV, fieldAddrV, indexAddrV, extractV, cellAt, cellsAt, findB, setB, fillL, buildV, Value.cells, lenV, minV, maxV, hav, sliceV, loV, hiV, bslQ, mksQ, appQ, partsOk, partsCells, delB, eqL, SameI, strOp, apzQ, cvtQ, capV, ↓reduceIte, Zj, Zk, Nat.reduceAdd, Nat.reduceLT, Nat.reduceEqDiff, Nat.reduceMul, Nat.reduceLeDiff, if_true, Zn, reduceCtorEq, ZA, eq_self, Int.reduceLE, Int.reduceLT, Int.reduceToNat, ne_eq, Nat.reduceSub, Tld56, nb2_b1]
  repeat refine And.intro (by omega) ?_
  repeat refine And.intro (by omega) ?_
  intro g
  simp only [List.map_cons, List.map_nil, updL, upd, Nat.reduceEqDiff, if_true, if_false, ↓reduceIte]
  refine hK _ _ ?_; clear hK K
  refine Cd.cond rfl (fun h1 => ?_) (fun h1 => ?_)
  · rw [if_neg (by simpa using h1)]
    refine Cd.rs [2, 3] fun K hK => ?_
    simp (maxSteps := 2000000) (disch := first | (simp only [E4, nb2_b1] <;> omega) | omega | fail) only [↓E2, E3, bare, bareJ, ↓E0, E1, evP, evPlan, env0, envN, evOps, evOp, evQs, evQ, evV, setD, pureOp, ev, upd, updL, gate, binW, eqOp, binV, intOp, shOp, boolOp, unV, convV, nilV, fieldAddrV, indexAddrV, extractV, cellAt, cellsAt, findB, setB, fillL, buildV, Value.cells, lenV, minV, maxV, hav, sliceV, loV, hiV, bslQ, mksQ, appQ, partsOk, partsCells, delB, eqL, SameI, strOp, apzQ, cvtQ, capV, ↓reduceIte, Zj, Zk, Nat.reduceAdd, Nat.reduceLT, Nat.reduceEqDiff, Nat.reduceMul, Nat.reduceLeDiff, if_true, Zn, reduceCtorEq, ZA, eq_self, Int.reduceLE, Int.reduceLT, Int.reduceToNat, ne_eq, Nat.reduceSub, Tbld56, Tst56, nb2_b1]
    repeat refine And.intro (by omega) ?_
    repeat refine And.intro (by omega) ?_
    intro g
    simp only [List.map_cons, List.map_nil, updL, upd, Nat.reduceEqDiff, if_true, if_false, ↓reduceIte]
    refine hK _ _ ?_; clear hK K
    refine Cd.ret (thenR ?_)
    simp (maxSteps := 2000000) (disch := first | (simp only [E4, nb2_b1] <;> omega) | omega | fail) only [↓E2, E3, bare, bareJ, ↓E0, E1, evP, evPlan, env0, envN, evOps, evOp, evQs, evQ, evV, setD, pureOp, ev, upd, updL, gate, binW, eqOp, binV, intOp, shOp, boolOp, unV, convV, nilV, fieldAddrV, indexAddrV, extractV, cellAt, cellsAt, findB, setB, fillL, buildV, Value.cells, lenV, minV, maxV, hav, sliceV, loV, hiV, bslQ, mksQ, appQ, partsOk, partsCells, delB, eqL, SameI, strOp, apzQ, cvtQ, capV, ↓reduceIte, Zj, Zk, Nat.reduceAdd, Nat.reduceLT, Nat.reduceEqDiff, Nat.reduceMul, Nat.reduceLeDiff, if_true, Zn, reduceCtorEq, ZA, eq_self, Int.reduceLE, Int.reduceLT, Int.reduceToNat, ne_eq, Nat.reduceSub, Tld56, nb2_b1]
    repeat refine And.intro (by omega) ?_
  · rw [if_pos (by simpa using h1)]
    refine Cd.skip ?_
    refine thenN ?_
    refine Cd.rs [2, 3] fun K hK => ?_
    simp (maxSteps := 2000000) (disch := first | (simp only [E4, nb2_b1] <;> omega) | omega | fail) only [↓E2, E3, bare, bareJ, ↓E0, E1, evP, evPlan, env0, envN, evOps, evOp, evQs, evQ, evV, setD, pureOp, ev, upd, updL, gate, binW, eqOp, binV, intOp, shOp, boolOp, unV, convV, nilV, fieldAddrV, indexAddrV, extractV, cellAt, cellsAt, findB, setB, fillL, buildV, Value.cells, lenV, minV, maxV, hav, sliceV, loV, hiV, bslQ, mksQ, appQ, partsOk, partsCells, delB, eqL, SameI, strOp, apzQ, cvtQ, capV, ↓reduceIte, Zj, Zk, Nat.reduceAdd, Nat.reduceLT, Nat.reduceEqDiff, Nat.reduceMul, Nat.reduceLeDiff, if_true, Zn, reduceCtorEq, ZA, eq_self, Int.reduceLE, Int.reduceLT, Int.reduceToNat, ne_eq, Nat.reduceSub, Tld56, Tst56, nb2_b1]
    repeat refine And.intro (by omega) ?_
    repeat refine And.intro (by omega) ?_
    intro g
    simp only [List.map_cons, List.map_nil, updL, upd, Nat.reduceEqDiff, if_true, if_false, ↓reduceIte]
    refine hK _ _ ?_; clear hK K
    refine Cd.ret ?_
    simp (maxSteps := 2000000) (disch := first | (simp only [E4, nb2_b1] <;> omega) | omega | fail) only [↓E2, E3, bare, bareJ, ↓E0, E1, evP, evPlan, env0, envN, evOps, evOp, evQs, evQ, evV, setD, pureOp, ev, upd, updL, gate, binW, eqOp, binV, intOp, shOp, boolOp, unV, convV, nilV, fieldAddrV, indexAddrV, extractV, cellAt, cellsAt, findB, setB, fillL, buildV, Value.cells, lenV, minV, maxV, hav, sliceV, loV, hiV, bslQ, mksQ, appQ, partsOk, partsCells, delB, eqL, SameI, strOp, apzQ, cvtQ, capV, ↓reduceIte, Zj, Zk, Nat.reduceAdd, Nat.reduceLT, Nat.reduceEqDiff, Nat.reduceMul, Nat.reduceLeDiff, if_true, Zn, reduceCtorEq, ZA, eq_self, Int.reduceLE, Int.reduceLT, Int.reduceToNat, ne_eq, Nat.reduceSub, Tld56, nb2_b1]
    repeat refine And.intro (by omega) ?_
def revs (l : List Int) (k : Nat) : List Int := (List.range k).map fun i => l.getD (l.length - 1 - i) 0
theorem revs_succ (l : List Int) (k : Nat) : revs l (k + 1) = revs l k ++ [l.getD (l.length - 1 - k) 0] := by unfold revs; rw [List.range_succ, List.map_append]; rfl
theorem revs_full (l : List Int) : revs l l.length = l.reverse := by
  apply List.ext_getElem?
  intro i
  unfold revs
  rw [List.getElem?_map]
  by_cases h : i < l.length
  · rw [List.getElem?_range h, List.getElem?_reverse h]
    simp only [Option.map_some]
    rw [List.getD_eq_getElem?_getD, List.getElem?_eq_getElem (by omega)]
    rfl
  · rw [List.getElem?_eq_none (by simpa using h), List.getElem?_eq_none (by simpa using h)]
    rfl
theorem l04Mirror_c (low : Int) (l : List Int) (R : Rd) (v : Value) (h : RdL R low l v) (hok : lauOk low l = true) : GivesX Try.prog 123 #[v] [] R (LauV (mirLow low l) l.reverse) := by
  have q1 := lauOk_low hok
  have q2 := lauOk_len hok
  have q4 := lauOk_high hok
  obtain ⟨a, cap, rfl, hsl⟩ := h.form
  refine GivesX.part ?_
  refine GivesX.of (callable_of Try.func123 rfl (by decide)) ?_ fun w hnd hlt hR => ?_
  · simp
  refine acall_of (N := 30) (c := _) (rs := [.cell 2 56]) (args := [_]) Try.func123 rfl (by decide) rfl rfl (Nat.le_of_ble_eq_true rfl) ?_
  have hR : W8.Told [] w R := hR
  refine Cd.rs [1, 2] fun K hK => ?_
  simp (maxSteps := 2000000) (disch := first | (simp only [E4] <;> omega) | omega | fail) only [↓E2, E3, bare, bareJ, ↓E0, E1, evP, evPlan, env0, envN, evOps, evOp, evQs, evQ, evV, setD, pureOp, ev, upd, updL, gate, binW, eqOp, binV, intOp, shOp, boolOp, unV, convV, nilV, fieldAddrV, indexAddrV, extractV, cellAt, cellsAt, findB, setB, fillL, buildV, Value.cells, lenV, minV, maxV, hav, sliceV, loV, hiV, bslQ, mksQ, appQ, partsOk, partsCells, delB, eqL, SameI, strOp, apzQ, cvtQ, capV, ↓reduceIte, Zj, Zk, Nat.reduceAdd, Nat.reduceLT, Nat.reduceEqDiff, Nat.reduceMul, Nat.reduceLeDiff, if_true, Zn, reduceCtorEq, ZA, eq_self, Int.reduceLE, Int.reduceLT, Int.reduceToNat, ne_eq, Nat.reduceSub, Tzero56]
  repeat refine And.intro (by omega) ?_
  intro b1 hb1
  intro b2 hb2
  have nb2_b1 := hb2.ne
  try simp (maxSteps := 2000000) (disch := first | (simp only [E4, nb2_b1] <;> omega) | omega | fail) only [↓E2, E3, bare, bareJ, ↓E0, E1, evP, evPlan, env0, envN, evOps, evOp, evQs, evQ, evV, setD, pureOp, ev, upd, updL, gate, binW, eqOp, binV, intOp, shOp, boolOp, unV, convV, nilV, fieldAddrV, indexAddrV, extractV, cellAt, cellsAt, findB, setB, fillL, buildV, Value.cells, lenV, minV, maxV, hav, sliceV, loV, hiV, bslQ, mksQ, appQ, partsOk, partsCells, delB, eqL, SameI, strOp, apzQ, cvtQ, capV, ↓reduceIte, Zj, Zk, Nat.reduceAdd, Nat.reduceLT, Nat.reduceEqDiff, Nat.reduceMul, Nat.reduceLeDiff, if_true, Zn, reduceCtorEq, ZA, eq_self, Int.reduceLE, Int.reduceLT, Int.reduceToNat, ne_eq, Nat.reduceSub, Tzero56, nb2_b1]
  repeat refine And.intro (by omega) ?_
  repeat refine And.intro (by omega) ?_
  intro g
  simp only [List.map_cons, List.map_nil, updL, upd, Nat.reduceEqDiff, if_true, if_false, ↓reduceIte]
  refine hK _ _ ?_; clear hK K
  refine Cd.rs [1, 2, 3] fun K hK => ?_
  simp (maxSteps := 2000000) (disch := first | (simp only [E4, nb2_b1] <;> omega) | omega | fail) only [↓E2, E3, bare, bareJ, ↓E0, E1, evP, evPlan, env0, envN, evOps, evOp, evQs, evQ, evV, setD, pureOp, ev, upd, updL, gate, binW, eqOp, binV, intOp, shOp, boolOp, unV, convV, nilV, fieldAddrV, indexAddrV, extractV, cellAt, cellsAt, findB, setB, fillL, buildV, Value.cells, lenV, minV, maxV, hav, sliceV, loV, hiV, bslQ, mksQ, appQ, partsOk, partsCells, delB, eqL, SameI, strOp, apzQ, cvtQ, capV, ↓reduceIte, Zj, Zk, Nat.reduceAdd, Nat.reduceLT, Nat.reduceEqDiff, Nat.reduceMul, Nat.reduceLeDiff, if_true, Zn, reduceCtorEq, ZA, eq_self, Int.reduceLE, Int.reduceLT, Int.reduceToNat, ne_eq, Nat.reduceSub, Tby2, Tslc47, Tslce47, Tzero2, nb2_b1]
  repeat refine And.intro (by omega) ?_
  intro b3 hb3
  have nb3_b2 := hb3.ne
  have nb3_b1 := hb3.tail.ne
  try simp (maxSteps := 2000000) (disch := first | (simp only [E4, nb2_b1, nb3_b2, nb3_b1] <;> omega) | omega | fail) only [↓E2, E3, bare, bareJ, ↓E0, E1, evP, evPlan, env0, envN, evOps, evOp, evQs, evQ, evV, setD, pureOp, ev, upd, updL, gate, binW, eqOp, binV, intOp, shOp, boolOp, unV, convV, nilV, fieldAddrV, indexAddrV, extractV, cellAt, cellsAt, findB, setB, fillL, buildV, Value.cells, lenV, minV, maxV, hav, sliceV, loV, hiV, bslQ, mksQ, appQ, partsOk, partsCells, delB, eqL, SameI, strOp, apzQ, cvtQ, capV, ↓reduceIte, Zj, Zk, Nat.reduceAdd, Nat.reduceLT, Nat.reduceEqDiff, Nat.reduceMul, Nat.reduceLeDiff, if_true, Zn, reduceCtorEq, ZA, eq_self, Int.reduceLE, Int.reduceLT, Int.reduceToNat, ne_eq, Nat.reduceSub, Tby2, Tslc47, Tslce47, Tzero2, nb2_b1, nb3_b2, nb3_b1]
  repeat refine And.intro (by omega) ?_
  repeat refine And.intro (by omega) ?_
  intro g
  simp only [List.map_cons, List.map_nil, updL, upd, Nat.reduceEqDiff, if_true, if_false, ↓reduceIte]
  refine hK _ _ ?_; clear hK K
  refine Cd.seq ?_
  refine Cd.rs [1, 2, 3, 4] fun K hK => ?_
  simp (maxSteps := 2000000) (disch := first | (simp only [E4, nb2_b1, nb3_b2, nb3_b1] <;> omega) | omega | fail) only [↓E2, E3, bare, bareJ, ↓E0, E1, evP, evPlan, env0, envN, evOps, evOp, evQs, evQ, evV, setD, pureOp, ev, upd, updL, gate, binW, eqOp, binV, intOp, shOp, boolOp, unV, convV, nilV, fieldAddrV, indexAddrV, extractV, cellAt, cellsAt, findB, setB, fillL, buildV, Value.cells, lenV, minV, maxV, hav, sliceV, loV, hiV, bslQ, mksQ, appQ, partsOk, partsCells, delB, eqL, SameI, strOp, apzQ, cvtQ, capV, ↓reduceIte, Zj, Zk, Nat.reduceAdd, Nat.reduceLT, Nat.reduceEqDiff, Nat.reduceMul, Nat.reduceLeDiff, if_true, Zn, reduceCtorEq, ZA, eq_self, Int.reduceLE, Int.reduceLT, Int.reduceToNat, ne_eq, Nat.reduceSub, Tfld56_1, Tld47, Tslce47, nb2_b1, nb3_b2, nb3_b1]
  repeat refine And.intro (by omega) ?_
  repeat refine And.intro (by omega) ?_
  intro g
  simp only [List.map_cons, List.map_nil, updL, upd, Nat.reduceEqDiff, if_true, if_false, ↓reduceIte]
  refine hK _ _ ?_; clear hK K
  refine Cd.block ?_
  refine Cd.loop (fun n ρ M => ∃ g k bl cap' cs iv, k + n = l.length ∧ iv = (l.length : Int) - 1 - k ∧ Row 1 (ints .i64 (revs l k)) k cap' cs ∧ ρ = updL [(1, .pointer (some ⟨b1, 0, none⟩)), (2, .pointer (some ⟨b2, 0, none⟩)), (3, .slice (some ⟨bl, 0, none⟩) k cap'), (4, .int .i64 iv)] g ∧
    SubP ((bl, cs) :: (b2, [.int .i64 0, .slice none 0 0]) :: (b1, [.int .i64 low, .slice a l.length cap]) :: []) M) l.length ⟨_, 0, b3, 0, [], _, Nat.zero_add _, by omega, Row.nil 1, rfl, SubP.refl _⟩ ?_
  rintro q ρ M ⟨g, k, bl, cap', cs, iv, hk, hiv, hrow, rfl, hM⟩
  refine Cd.sub hM ?_
  clear hM M
  refine Cd.nodup fun hnd => ?_
  have dl2 : ¬ bl = b2 := (nodup_cases hnd).1 (b2, _) List.mem_cons_self
  have dl1 : ¬ bl = b1 := (nodup_cases hnd).1 (b1, _) (List.mem_cons_of_mem _ List.mem_cons_self)
  have s1 := hrow.size1
  have s2 := hrow.le
  skip
  skip
  refine Cd.seq ?_
  refine Cd.rs [1, 2, 3, 4, 11] fun K hK => ?_
  simp (maxSteps := 2000000) (disch := first | (simp only [E4, nb2_b1, nb3_b2, nb3_b1, dl2, dl1] <;> omega) | omega | fail) only [↓E2, E3, bare, bareJ, ↓E0, E1, evP, evPlan, env0, envN, evOps, evOp, evQs, evQ, evV, setD, pureOp, ev, upd, updL, gate, binW, eqOp, binV, intOp, shOp, boolOp, unV, convV, nilV, fieldAddrV, indexAddrV, extractV, cellAt, cellsAt, findB, setB, fillL, buildV, Value.cells, lenV, minV, maxV, hav, sliceV, loV, hiV, bslQ, mksQ, appQ, partsOk, partsCells, delB, eqL, SameI, strOp, apzQ, cvtQ, capV, ↓reduceIte, Zj, Zk, Nat.reduceAdd, Nat.reduceLT, Nat.reduceEqDiff, Nat.reduceMul, Nat.reduceLeDiff, if_true, Zn, reduceCtorEq, ZA, eq_self, Int.reduceLE, Int.reduceLT, Int.reduceToNat, ne_eq, Nat.reduceSub, nb2_b1, nb3_b2, nb3_b1, dl2, dl1]
  repeat refine And.intro (by omega) ?_
  repeat refine And.intro (by omega) ?_
  intro g
  simp only [List.map_cons, List.map_nil, updL, upd, Nat.reduceEqDiff, if_true, if_false, ↓reduceIte]
  refine hK _ _ ?_; clear hK K
  refine Cd.condd rfl (fun h1 => ?_) (fun h1 => ?_)
  · obtain rfl : iv = ((l.length - 1 - k : Nat) : Int) := by omega
    obtain ⟨bq, rfl, hg⟩ := rd_int hsl hR (show l.length - 1 - k < l.length by omega)
    refine Cd.newer fun hnw => ?_
    have e1 : ¬ bl = bq := new_ne (hnw (bl, cs) (by simp)) (by simp) hg
    have e2 : ¬ b2 = bq := told_ne hb2 hg
    have e3 : ¬ b1 = bq := told_ne hb1 hg
    skip
    refine Cd.skip ?_
    refine thenN ?_
    refine Cd.seq ?_
    refine Cd.block ?_
    refine Cd.rr [1, 2, 3, 4] fun K hK => ?_
    simp (maxSteps := 2000000) (disch := first | (simp only [E4, nb2_b1, nb3_b2, nb3_b1, dl2, dl1, hg, e1, e2, e3] <;> omega) | omega | fail) only [↓E2, E3, bare, bareJ, ↓E0, E1, evP, evPlan, env0, envN, evOps, evOp, evQs, evQ, evV, setD, pureOp, ev, upd, updL, gate, binW, eqOp, binV, intOp, shOp, boolOp, unV, convV, nilV, fieldAddrV, indexAddrV, extractV, cellAt, cellsAt, findB, setB, fillL, buildV, Value.cells, lenV, minV, maxV, hav, sliceV, loV, hiV, bslQ, mksQ, appQ, partsOk, partsCells, delB, eqL, SameI, strOp, apzQ, cvtQ, capV, ↓reduceIte, Zj, Zk, Nat.reduceAdd, Nat.reduceLT, Nat.reduceEqDiff, Nat.reduceMul, Nat.reduceLeDiff, if_true, Zn, reduceCtorEq, ZA, eq_self, Int.reduceLE, Int.reduceLT, Int.reduceToNat, ne_eq, Nat.reduceSub, Tby2, Tfld56_1, Tld2, Tld47, Tslc47, Tslce47, Tzero2, nb2_b1, nb3_b2, nb3_b1, dl2, dl1, hg, e1, e2, e3]
    repeat refine And.intro (by omega) ?_
    intro b4 hb4
    have nb4_bl := hb4.ne
    have nb4_b2 := hb4.tail.ne
    have nb4_b1 := hb4.tail.tail.ne
    try simp (maxSteps := 2000000) (disch := first | (simp only [E4, nb2_b1, nb3_b2, nb3_b1, dl2, dl1, hg, e1, e2, e3, nb4_bl, nb4_b2, nb4_b1] <;> omega) | omega | fail) only [↓E2, E3, bare, bareJ, ↓E0, E1, evP, evPlan, env0, envN, evOps, evOp, evQs, evQ, evV, setD, pureOp, ev, upd, updL, gate, binW, eqOp, binV, intOp, shOp, boolOp, unV, convV, nilV, fieldAddrV, indexAddrV, extractV, cellAt, cellsAt, findB, setB, fillL, buildV, Value.cells, lenV, minV, maxV, hav, sliceV, loV, hiV, bslQ, mksQ, appQ, partsOk, partsCells, delB, eqL, SameI, strOp, apzQ, cvtQ, capV, ↓reduceIte, Zj, Zk, Nat.reduceAdd, Nat.reduceLT, Nat.reduceEqDiff, Nat.reduceMul, Nat.reduceLeDiff, if_true, Zn, reduceCtorEq, ZA, eq_self, Int.reduceLE, Int.reduceLT, Int.reduceToNat, ne_eq, Nat.reduceSub, Tby2, Tfld56_1, Tld2, Tld47, Tslc47, Tslce47, Tzero2, nb2_b1, nb3_b2, nb3_b1, dl2, dl1, hg, e1, e2, e3, nb4_bl, nb4_b2, nb4_b1]
    repeat refine And.intro (by omega) ?_
    intro b' cap' rest' hf hc hr'
    have hr2 := hrow.snoc1 (news := [.int .i64 (l.getD (l.length - 1 - k) 0)]) rfl hc hr'
    rw [ints_snoc, ← revs_succ] at hr2
    repeat refine And.intro (by omega) ?_
    intro g
    simp only [List.map_cons, List.map_nil, updL, upd, Nat.reduceEqDiff, if_true, if_false, ↓reduceIte]
    refine hK _ _ ?_; clear hK K
    refine inBN ?_
    refine thenN ?_
    refine Cd.rr [1, 2, 3, 4] fun K hK => ?_
    simp (maxSteps := 2000000) (disch := first | (simp only [E4, nb2_b1, nb3_b2, nb3_b1, dl2, dl1, hg, e1, e2, e3, nb4_bl, nb4_b2, nb4_b1] <;> omega) | omega | fail) only [↓E2, E3, bare, bareJ, ↓E0, E1, evP, evPlan, env0, envN, evOps, evOp, evQs, evQ, evV, setD, pureOp, ev, upd, updL, gate, binW, eqOp, binV, intOp, shOp, boolOp, unV, convV, nilV, fieldAddrV, indexAddrV, extractV, cellAt, cellsAt, findB, setB, fillL, buildV, Value.cells, lenV, minV, maxV, hav, sliceV, loV, hiV, bslQ, mksQ, appQ, partsOk, partsCells, delB, eqL, SameI, strOp, apzQ, cvtQ, capV, ↓reduceIte, Zj, Zk, Nat.reduceAdd, Nat.reduceLT, Nat.reduceEqDiff, Nat.reduceMul, Nat.reduceLeDiff, if_true, Zn, reduceCtorEq, ZA, eq_self, Int.reduceLE, Int.reduceLT, Int.reduceToNat, ne_eq, Nat.reduceSub, nb2_b1, nb3_b2, nb3_b1, dl2, dl1, hg, e1, e2, e3, nb4_bl, nb4_b2, nb4_b1]
    repeat refine And.intro (by omega) ?_
    repeat refine And.intro (by omega) ?_
    intro g
    simp only [List.map_cons, List.map_nil, updL, upd, Nat.reduceEqDiff, if_true, if_false, ↓reduceIte]
    refine hK _ _ ?_; clear hK K
    exact roundN (m := q - 1) (by omega) ⟨_, k + 1, b', cap', _, _, by omega, by omega, hr2, rfl, SubP.of (List.Sublist.cons_cons _ (List.Sublist.cons _ (List.Sublist.refl _)))⟩
  · obtain rfl : k = l.length := by omega
    refine Cd.exit (thenX (roundX (inBX ?_)))
    refine thenN ?_
    refine Cd.rs [2] fun K hK => ?_
    simp (maxSteps := 2000000) (disch := first | (simp only [E4, nb2_b1, nb3_b2, nb3_b1, dl2, dl1] <;> omega) | omega | fail) only [↓E2, E3, bare, bareJ, ↓E0, E1, evP, evPlan, env0, envN, evOps, evOp, evQs, evQ, evV, setD, pureOp, ev, upd, updL, gate, binW, eqOp, binV, intOp, shOp, boolOp, unV, convV, nilV, fieldAddrV, indexAddrV, extractV, cellAt, cellsAt, findB, setB, fillL, buildV, Value.cells, lenV, minV, maxV, hav, sliceV, loV, hiV, bslQ, mksQ, appQ, partsOk, partsCells, delB, eqL, SameI, strOp, apzQ, cvtQ, capV, ↓reduceIte, Zj, Zk, Nat.reduceAdd, Nat.reduceLT, Nat.reduceEqDiff, Nat.reduceMul, Nat.reduceLeDiff, if_true, Zn, reduceCtorEq, ZA, eq_self, Int.reduceLE, Int.reduceLT, Int.reduceToNat, ne_eq, Nat.reduceSub, Tfld56_0, Tld2, Tslce47, Tst56, nb2_b1, nb3_b2, nb3_b1, dl2, dl1]
    repeat refine And.intro (by omega) ?_
    have hrd : RdS (toldOf [(bl, cs)]) 1 (ints .i64 l.reverse) (.slice (some ⟨bl, 0, none⟩) l.length cap') := by
      rw [← revs_full]
      exact (SlN.row hrow).reads fun p hp => mem_toldOf hp
    refine callK_newR0 (l04Trim_c (1 - low - l.length) l.reverse _ _ hrd (by rw [List.length_reverse]; omega) (by omega)) (HoldsAll.toldW (holds_mem hnd fun p hp => by rw [List.mem_singleton.1 hp]; exact List.mem_cons_self)) ?_
    intro v' M' hs' nd' _
    obtain ⟨s', rfl, hs'⟩ := hs'
    obtain ⟨a', m', c', rfl⟩ := hs'.form
    simp only [List.cons_append, List.nil_append] at nd' ⊢
    simp (maxSteps := 2000000) (disch := first | (simp only [E4, nb2_b1, nb3_b2, nb3_b1, dl2, dl1] <;> omega) | omega | fail) only [↓E2, E3, bare, bareJ, ↓E0, E1, evP, evPlan, env0, envN, evOps, evOp, evQs, evQ, evV, setD, pureOp, ev, upd, updL, gate, binW, eqOp, binV, intOp, shOp, boolOp, unV, convV, nilV, fieldAddrV, indexAddrV, extractV, cellAt, cellsAt, findB, setB, fillL, buildV, Value.cells, lenV, minV, maxV, hav, sliceV, loV, hiV, bslQ, mksQ, appQ, partsOk, partsCells, delB, eqL, SameI, strOp, apzQ, cvtQ, capV, ↓reduceIte, Zj, Zk, Nat.reduceAdd, Nat.reduceLT, Nat.reduceEqDiff, Nat.reduceMul, Nat.reduceLeDiff, if_true, Zn, reduceCtorEq, ZA, eq_self, Int.reduceLE, Int.reduceLT, Int.reduceToNat, ne_eq, Nat.reduceSub, Tfld56_0, Tld2, Tslce47, Tst56, nb2_b1, nb3_b2, nb3_b1, dl2, dl1]
    repeat refine And.intro (by omega) ?_
    repeat refine And.intro (by omega) ?_
    intro g
    simp only [List.map_cons, List.map_nil, updL, upd, Nat.reduceEqDiff, if_true, if_false, ↓reduceIte]
    refine hK _ _ ?_; clear hK K
    refine Cd.ret ?_
    simp (maxSteps := 2000000) (disch := first | (simp only [E4, nb2_b1, nb3_b2, nb3_b1, dl2, dl1] <;> omega) | omega | fail) only [↓E2, E3, bare, bareJ, ↓E0, E1, evP, evPlan, env0, envN, evOps, evOp, evQs, evQ, evV, setD, pureOp, ev, upd, updL, gate, binW, eqOp, binV, intOp, shOp, boolOp, unV, convV, nilV, fieldAddrV, indexAddrV, extractV, cellAt, cellsAt, findB, setB, fillL, buildV, Value.cells, lenV, minV, maxV, hav, sliceV, loV, hiV, bslQ, mksQ, appQ, partsOk, partsCells, delB, eqL, SameI, strOp, apzQ, cvtQ, capV, ↓reduceIte, Zj, Zk, Nat.reduceAdd, Nat.reduceLT, Nat.reduceEqDiff, Nat.reduceMul, Nat.reduceLeDiff, if_true, Zn, reduceCtorEq, ZA, eq_self, Int.reduceLE, Int.reduceLT, Int.reduceToNat, ne_eq, Nat.reduceSub, Tld56, nb2_b1, nb3_b2, nb3_b1, dl2, dl1]
    repeat refine And.intro (by omega) ?_
    rw [(trim_mir hok).1, (trim_mir hok).2] at *
    exact ⟨M', SubP.of (List.Sublist.cons _ (List.Sublist.cons _ (List.Sublist.cons _ (List.Sublist.refl _)))), _, rfl, hs'⟩

end Go.Proofs

/-
  What the functions of this part hand back: each as a plain function of its arguments. Conditions: none.
-/
namespace Go.Proofs
open Go.W8
set_option linter.unusedVariables false
set_option linter.unusedSimpArgs false
set_option linter.unusedSectionVars false
set_option maxRecDepth 8000
set_option maxHeartbeats 4000000
section
variable (p1 : Int) (l1 : List Int) (p2 : Int) (l2 : List Int) (R : Rd) (v1 v2 : Value) (h1 : RdL R p1 l1 v1) (h2 : RdL R p2 l2 v2) (ok1 : lauOk p1 l1 = true) (ok2 : lauOk p2 l2 = true)
include h1 h2 ok1 ok2
theorem l04Add_c (k : Int) (hk : k = 1 ∨ k = -1) : GivesX Try.prog 170 #[v1, v2, .int .i64 k] [] R (LauV (addR p1 l1 p2 l2 k).1 (addR p1 l1 p2 l2 k).2) := by
  have a1 := lauOk_low ok1
  have a2 := lauOk_len ok1
  have a3 := lauOk_get ok1
  have a4 := lauOk_high ok1
  have c1 := lauOk_low ok2
  have c2 := lauOk_len ok2
  have c3 := lauOk_get ok2
  have c4 := lauOk_high ok2
  obtain ⟨x1, cap1, rfl, hsl1⟩ := h1.form
  obtain ⟨x2, cap2, rfl, hsl2⟩ := h2.form
  refine GivesX.part ?_
  refine GivesX.of (callable_of Try.func170 rfl (by decide)) ?_ fun w hnd hlt hR => ?_
  · simp
  refine acall_of (N := 101) (c := _) (rs := [.cell 6 56]) (args := [_, _, _]) Try.func170 rfl (by decide) rfl rfl (Nat.le_of_ble_eq_true rfl) ?_
  have hR : W8.Told [] w R := hR
  refine Cd.rs [2, 3, 4, 6] fun K hK => ?_
  simp (maxSteps := 2000000) (disch := first | (simp only [E4] <;> omega) | omega | fail) only [↓E2, E3, bare, bareJ, ↓E0, E1, evP, evPlan, env0, envN, evOps, evOp, evQs, evQ, evV, setD, pureOp, ev, upd, updL, gate, binW, eqOp, binV, intOp, shOp, boolOp, unV, convV, nilV, fieldAddrV, indexAddrV, extractV, cellAt, cellsAt, findB, setB, fillL, buildV, Value.cells, lenV, minV, maxV, hav, sliceV, loV, hiV, bslQ, mksQ, appQ, partsOk, partsCells, delB, eqL, SameI, strOp, apzQ, cvtQ, capV, ↓reduceIte, Zj, Zk, Nat.reduceAdd, Nat.reduceLT, Nat.reduceEqDiff, Nat.reduceMul, Nat.reduceLeDiff, if_true, Zn, reduceCtorEq, ZA, eq_self, Int.reduceLE, Int.reduceLT, Int.reduceToNat, ne_eq, Nat.reduceSub, Tzero56]
  repeat refine And.intro (by omega) ?_
  intro b1 hb1
  intro b2 hb2
  have nb2_b1 := hb2.ne
  intro b3 hb3
  have nb3_b2 := hb3.ne
  have nb3_b1 := hb3.tail.ne
  try simp (maxSteps := 2000000) (disch := first | (simp only [E4, nb2_b1, nb3_b2, nb3_b1] <;> omega) | omega | fail) only [↓E2, E3, bare, bareJ, ↓E0, E1, evP, evPlan, env0, envN, evOps, evOp, evQs, evQ, evV, setD, pureOp, ev, upd, updL, gate, binW, eqOp, binV, intOp, shOp, boolOp, unV, convV, nilV, fieldAddrV, indexAddrV, extractV, cellAt, cellsAt, findB, setB, fillL, buildV, Value.cells, lenV, minV, maxV, hav, sliceV, loV, hiV, bslQ, mksQ, appQ, partsOk, partsCells, delB, eqL, SameI, strOp, apzQ, cvtQ, capV, ↓reduceIte, Zj, Zk, Nat.reduceAdd, Nat.reduceLT, Nat.reduceEqDiff, Nat.reduceMul, Nat.reduceLeDiff, if_true, Zn, reduceCtorEq, ZA, eq_self, Int.reduceLE, Int.reduceLT, Int.reduceToNat, ne_eq, Nat.reduceSub, Tzero56, nb2_b1, nb3_b2, nb3_b1]
  repeat refine And.intro (by omega) ?_
  repeat refine And.intro (by omega) ?_
  intro g
  simp only [List.map_cons, List.map_nil, updL, upd, Nat.reduceEqDiff, if_true, if_false, ↓reduceIte]
  refine hK _ _ ?_; clear hK K
  refine Cd.seq ?_
  refine Cd.rs [2, 3, 4, 6, 16] fun K hK => ?_
  simp (maxSteps := 2000000) (disch := first | (simp only [E4, nb2_b1, nb3_b2, nb3_b1] <;> omega) | omega | fail) only [↓E2, E3, bare, bareJ, ↓E0, E1, evP, evPlan, env0, envN, evOps, evOp, evQs, evQ, evV, setD, pureOp, ev, upd, updL, gate, binW, eqOp, binV, intOp, shOp, boolOp, unV, convV, nilV, fieldAddrV, indexAddrV, extractV, cellAt, cellsAt, findB, setB, fillL, buildV, Value.cells, lenV, minV, maxV, hav, sliceV, loV, hiV, bslQ, mksQ, appQ, partsOk, partsCells, delB, eqL, SameI, strOp, apzQ, cvtQ, capV, ↓reduceIte, Zj, Zk, Nat.reduceAdd, Nat.reduceLT, Nat.reduceEqDiff, Nat.reduceMul, Nat.reduceLeDiff, if_true, Zn, reduceCtorEq, ZA, eq_self, Int.reduceLE, Int.reduceLT, Int.reduceToNat, ne_eq, Nat.reduceSub, Tfld56_1, Tld47, Tslce47, nb2_b1, nb3_b2, nb3_b1]
  repeat refine And.intro (by omega) ?_
  repeat refine And.intro (by omega) ?_
  intro g
  simp only [List.map_cons, List.map_nil, updL, upd, Nat.reduceEqDiff, if_true, if_false, ↓reduceIte]
  refine hK _ _ ?_; clear hK K
  refine Cd.condd rfl (fun g1 => ?_) (fun g1 => ?_)
  · have g0 : l2.length = 0 := by omega
    refine Cd.rs [6] fun K hK => ?_
    simp (maxSteps := 2000000) (disch := first | (simp only [E4, nb2_b1, nb3_b2, nb3_b1] <;> omega) | omega | fail) only [↓E2, E3, bare, bareJ, ↓E0, E1, evP, evPlan, env0, envN, evOps, evOp, evQs, evQ, evV, setD, pureOp, ev, upd, updL, gate, binW, eqOp, binV, intOp, shOp, boolOp, unV, convV, nilV, fieldAddrV, indexAddrV, extractV, cellAt, cellsAt, findB, setB, fillL, buildV, Value.cells, lenV, minV, maxV, hav, sliceV, loV, hiV, bslQ, mksQ, appQ, partsOk, partsCells, delB, eqL, SameI, strOp, apzQ, cvtQ, capV, ↓reduceIte, Zj, Zk, Nat.reduceAdd, Nat.reduceLT, Nat.reduceEqDiff, Nat.reduceMul, Nat.reduceLeDiff, if_true, Zn, reduceCtorEq, ZA, eq_self, Int.reduceLE, Int.reduceLT, Int.reduceToNat, ne_eq, Nat.reduceSub, Tfld56_0, Tfld56_1, Tld2, Tld47, Tst56, nb2_b1, nb3_b2, nb3_b1]
    repeat refine And.intro (by omega) ?_
    refine callK_newR0 (l04Trim_c p1 l1 _ _ hsl1 (by omega) (by omega)) (Told.toldW hR) ?_
    intro v' M' hs' nd' _
    obtain ⟨s', rfl, hs'⟩ := hs'
    obtain ⟨a', m', c', rfl⟩ := hs'.form
    simp only [List.cons_append, List.nil_append] at nd' ⊢
    simp (maxSteps := 2000000) (disch := first | (simp only [E4, nb2_b1, nb3_b2, nb3_b1] <;> omega) | omega | fail) only [↓E2, E3, bare, bareJ, ↓E0, E1, evP, evPlan, env0, envN, evOps, evOp, evQs, evQ, evV, setD, pureOp, ev, upd, updL, gate, binW, eqOp, binV, intOp, shOp, boolOp, unV, convV, nilV, fieldAddrV, indexAddrV, extractV, cellAt, cellsAt, findB, setB, fillL, buildV, Value.cells, lenV, minV, maxV, hav, sliceV, loV, hiV, bslQ, mksQ, appQ, partsOk, partsCells, delB, eqL, SameI, strOp, apzQ, cvtQ, capV, ↓reduceIte, Zj, Zk, Nat.reduceAdd, Nat.reduceLT, Nat.reduceEqDiff, Nat.reduceMul, Nat.reduceLeDiff, if_true, Zn, reduceCtorEq, ZA, eq_self, Int.reduceLE, Int.reduceLT, Int.reduceToNat, ne_eq, Nat.reduceSub, Tfld56_0, Tfld56_1, Tld2, Tld47, Tst56, nb2_b1, nb3_b2, nb3_b1]
    repeat refine And.intro (by omega) ?_
    repeat refine And.intro (by omega) ?_
    intro g
    simp only [List.map_cons, List.map_nil, updL, upd, Nat.reduceEqDiff, if_true, if_false, ↓reduceIte]
    refine hK _ _ ?_; clear hK K
    refine Cd.ret (thenR ?_)
    simp (maxSteps := 2000000) (disch := first | (simp only [E4, nb2_b1, nb3_b2, nb3_b1] <;> omega) | omega | fail) only [↓E2, E3, bare, bareJ, ↓E0, E1, evP, evPlan, env0, envN, evOps, evOp, evQs, evQ, evV, setD, pureOp, ev, upd, updL, gate, binW, eqOp, binV, intOp, shOp, boolOp, unV, convV, nilV, fieldAddrV, indexAddrV, extractV, cellAt, cellsAt, findB, setB, fillL, buildV, Value.cells, lenV, minV, maxV, hav, sliceV, loV, hiV, bslQ, mksQ, appQ, partsOk, partsCells, delB, eqL, SameI, strOp, apzQ, cvtQ, capV, ↓reduceIte, Zj, Zk, Nat.reduceAdd, Nat.reduceLT, Nat.reduceEqDiff, Nat.reduceMul, Nat.reduceLeDiff, if_true, Zn, reduceCtorEq, ZA, eq_self, Int.reduceLE, Int.reduceLT, Int.reduceToNat, ne_eq, Nat.reduceSub, Tld56, nb2_b1, nb3_b2, nb3_b1]
    repeat refine And.intro (by omega) ?_
    unfold addR
    rw [if_pos g0]
    exact ⟨M', SubP.of (List.Sublist.cons _ (List.Sublist.cons _ (List.Sublist.cons _ (List.Sublist.refl _)))), _, rfl, hs'⟩
  · have g0 : ¬ l2.length = 0 := by omega
    refine Cd.skip ?_
    refine thenN ?_
    refine Cd.qs [2, 3, 4, 6, 7, 8] fol (by kernel_rfl) fun K hK => ?_
    simp (maxSteps := 2000000) (disch := first | (simp only [E4, nb2_b1, nb3_b2, nb3_b1] <;> omega) | omega | fail) only [↓E2, E3, bare, bareJ, ↓E0, E1, evP, evPlan, env0, envN, evOps, evOp, evQs, evQ, evV, setD, pureOp, ev, upd, updL, gate, binW, eqOp, binV, intOp, shOp, boolOp, unV, convV, nilV, fieldAddrV, indexAddrV, extractV, cellAt, cellsAt, findB, setB, fillL, buildV, Value.cells, lenV, minV, maxV, hav, sliceV, loV, hiV, bslQ, mksQ, appQ, partsOk, partsCells, delB, eqL, SameI, strOp, apzQ, cvtQ, capV, ↓reduceIte, Zj, Zk, Nat.reduceAdd, Nat.reduceLT, Nat.reduceEqDiff, Nat.reduceMul, Nat.reduceLeDiff, if_true, Zn, reduceCtorEq, ZA, eq_self, Int.reduceLE, Int.reduceLT, Int.reduceToNat, ne_eq, Nat.reduceSub, Tfld56_0, Tfld56_1, Tld2, Tld47, Tslce47, nb2_b1, nb3_b2, nb3_b1]
    repeat refine And.intro (by omega) ?_
    repeat refine And.intro (by omega) ?_
    intro g
    simp only [List.map_cons, List.map_nil, updL, upd, Nat.reduceEqDiff, if_true, if_false, ↓reduceIte]
    refine hK _ ?_; clear hK K
    refine Cd.midq (fun ρ M => ∃ g, ρ = updL [(2, .int .i64 k), (3, .pointer (some ⟨b1, 0, none⟩)), (4, .pointer (some ⟨b2, 0, none⟩)), (6, .pointer (some ⟨b3, 0, none⟩)), (7, .int .i64 (addLo p1 l1 p2)), (8, .int .i64 (addHi p1 l1 p2 l2))] g ∧ M = [(b3, [.int .i64 0, .slice none 0 0]), (b2, [.int .i64 p2, .slice x2 l2.length cap2]), (b1, [.int .i64 p1, .slice x1 l1.length cap1])]) ?_ ?_
    · refine Cd.rs [2, 3, 4, 6, 7, 8, 33] fun K hK => ?_
      simp (maxSteps := 2000000) (disch := first | (simp only [E4, nb2_b1, nb3_b2, nb3_b1] <;> omega) | omega | fail) only [↓E2, E3, bare, bareJ, ↓E0, E1, evP, evPlan, env0, envN, evOps, evOp, evQs, evQ, evV, setD, pureOp, ev, upd, updL, gate, binW, eqOp, binV, intOp, shOp, boolOp, unV, convV, nilV, fieldAddrV, indexAddrV, extractV, cellAt, cellsAt, findB, setB, fillL, buildV, Value.cells, lenV, minV, maxV, hav, sliceV, loV, hiV, bslQ, mksQ, appQ, partsOk, partsCells, delB, eqL, SameI, strOp, apzQ, cvtQ, capV, ↓reduceIte, Zj, Zk, Nat.reduceAdd, Nat.reduceLT, Nat.reduceEqDiff, Nat.reduceMul, Nat.reduceLeDiff, if_true, Zn, reduceCtorEq, ZA, eq_self, Int.reduceLE, Int.reduceLT, Int.reduceToNat, ne_eq, Nat.reduceSub, Tfld56_1, Tld47, Tslce47, nb2_b1, nb3_b2, nb3_b1]
      repeat refine And.intro (by omega) ?_
      repeat refine And.intro (by omega) ?_
      intro g
      simp only [List.map_cons, List.map_nil, updL, upd, Nat.reduceEqDiff, if_true, if_false, ↓reduceIte]
      refine hK _ _ ?_; clear hK K
      refine Cd.condd rfl (fun g2 => ?_) (fun g2 => ?_)
      · refine Cd.rs [2, 3, 4, 6, 7, 8] fun K hK => ?_
        simp (maxSteps := 2000000) (disch := first | (simp only [E4, nb2_b1, nb3_b2, nb3_b1] <;> omega) | omega | fail) only [↓E2, E3, bare, bareJ, ↓E0, E1, evP, evPlan, env0, envN, evOps, evOp, evQs, evQ, evV, setD, pureOp, ev, upd, updL, gate, binW, eqOp, binV, intOp, shOp, boolOp, unV, convV, nilV, fieldAddrV, indexAddrV, extractV, cellAt, cellsAt, findB, setB, fillL, buildV, Value.cells, lenV, minV, maxV, hav, sliceV, loV, hiV, bslQ, mksQ, appQ, partsOk, partsCells, delB, eqL, SameI, strOp, apzQ, cvtQ, capV, ↓reduceIte, Zj, Zk, Nat.reduceAdd, Nat.reduceLT, Nat.reduceEqDiff, Nat.reduceMul, Nat.reduceLeDiff, if_true, Zn, reduceCtorEq, ZA, eq_self, Int.reduceLE, Int.reduceLT, Int.reduceToNat, ne_eq, Nat.reduceSub, Tfld56_0, Tld2, nb2_b1, nb3_b2, nb3_b1]
        repeat refine And.intro (by omega) ?_
        repeat refine And.intro (by omega) ?_
        intro g
        simp only [List.map_cons, List.map_nil, updL, upd, Nat.reduceEqDiff, if_true, if_false, ↓reduceIte]
        refine hK _ _ ?_; clear hK K
        refine Cd.rr [2, 3, 4, 6, 7, 8] fun K hK => ?_
        simp (maxSteps := 2000000) (disch := first | (simp only [E4, nb2_b1, nb3_b2, nb3_b1] <;> omega) | omega | fail) only [↓E2, E3, bare, bareJ, ↓E0, E1, evP, evPlan, env0, envN, evOps, evOp, evQs, evQ, evV, setD, pureOp, ev, upd, updL, gate, binW, eqOp, binV, intOp, shOp, boolOp, unV, convV, nilV, fieldAddrV, indexAddrV, extractV, cellAt, cellsAt, findB, setB, fillL, buildV, Value.cells, lenV, minV, maxV, hav, sliceV, loV, hiV, bslQ, mksQ, appQ, partsOk, partsCells, delB, eqL, SameI, strOp, apzQ, cvtQ, capV, ↓reduceIte, Zj, Zk, Nat.reduceAdd, Nat.reduceLT, Nat.reduceEqDiff, Nat.reduceMul, Nat.reduceLeDiff, if_true, Zn, reduceCtorEq, ZA, eq_self, Int.reduceLE, Int.reduceLT, Int.reduceToNat, ne_eq, Nat.reduceSub, Tfld56_0, Tfld56_1, Tld2, Tld47, Tslce47, nb2_b1, nb3_b2, nb3_b1]
        repeat refine And.intro (by omega) ?_
        repeat refine And.intro (by omega) ?_
        intro g
        simp only [List.map_cons, List.map_nil, updL, upd, Nat.reduceEqDiff, if_true, if_false, ↓reduceIte]
        refine hK _ _ ?_; clear hK K
        have e1 : addLo p1 l1 p2 = if p1 < p2 then p1 else p2 := by unfold addLo; rw [if_neg (by omega)]; split <;> omega
        have e2 : addHi p1 l1 p2 l2 = if p1 + (l1.length : Int) > p2 + (l2.length : Int) then p1 + (l1.length : Int) else p2 + (l2.length : Int) := by unfold addHi; rw [if_neg (by omega)]; split <;> omega
        rw [e1, e2]
        exact midN ⟨_, rfl, rfl⟩
      · have e1 : addLo p1 l1 p2 = p2 := by unfold addLo; rw [if_pos (by omega)]
        have e2 : addHi p1 l1 p2 l2 = p2 + l2.length := by unfold addHi; rw [if_pos (by omega)]
        rw [e1, e2]
        refine Cd.skip ?_
        exact midN ⟨_, rfl, rfl⟩
    · rintro ρ M ⟨g, rfl, rfl⟩
      have n1 : -1000 ≤ addLo p1 l1 p2 ∧ addLo p1 l1 p2 ≤ 1000 := by unfold addLo; split <;> omega
      have n2 : addHi p1 l1 p2 l2 = addLo p1 l1 p2 + addN p1 l1 p2 l2 := by unfold addN addHi addLo; split <;> omega
      have n3 : addHi p1 l1 p2 l2 ≤ 1001 := by unfold addHi; split <;> omega
      have n4 : l1.length ≠ 0 → addLo p1 l1 p2 ≤ p1 ∧ p1 + l1.length ≤ addHi p1 l1 p2 l2 := by intro hne; unfold addHi addLo; rw [if_neg hne, if_neg hne]; omega
      have n5 : addLo p1 l1 p2 ≤ p2 ∧ p2 + l2.length ≤ addHi p1 l1 p2 l2 := by unfold addHi addLo; split <;> omega
      have eS : addS p1 l1 p2 l2 k = sumK (addLo p1 l1 p2) (addN p1 l1 p2 l2) p1 l1 l1.length p2 l2 l2.length k := rfl
      have eR : addR p1 l1 p2 l2 k = (trimLow (addLo p1 l1 p2) (addS p1 l1 p2 l2 k), trimL (addS p1 l1 p2 l2 k)) := by unfold addR; rw [if_neg g0]
      rw [eR]
      clear eR
      generalize addS p1 l1 p2 l2 k = S at *
      generalize addHi p1 l1 p2 l2 = hi at *
      generalize addLo p1 l1 p2 = lo at *
      generalize addN p1 l1 p2 l2 = N at *
      subst eS n2
      refine Cd.rs [2, 3, 4, 6, 7, 9] fun K hK => ?_
      simp (maxSteps := 2000000) (disch := first | (simp only [E4, nb2_b1, nb3_b2, nb3_b1] <;> omega) | omega | fail) only [↓E2, E3, bare, bareJ, ↓E0, E1, evP, evPlan, env0, envN, evOps, evOp, evQs, evQ, evV, setD, pureOp, ev, upd, updL, gate, binW, eqOp, binV, intOp, shOp, boolOp, unV, convV, nilV, fieldAddrV, indexAddrV, extractV, cellAt, cellsAt, findB, setB, fillL, buildV, Value.cells, lenV, minV, maxV, hav, sliceV, loV, hiV, bslQ, mksQ, appQ, partsOk, partsCells, delB, eqL, SameI, strOp, apzQ, cvtQ, capV, ↓reduceIte, Zj, Zk, Nat.reduceAdd, Nat.reduceLT, Nat.reduceEqDiff, Nat.reduceMul, Nat.reduceLeDiff, if_true, Zn, reduceCtorEq, ZA, eq_self, Int.reduceLE, Int.reduceLT, Int.reduceToNat, ne_eq, Nat.reduceSub, Tby2, Tslc47, Tslce47, Tzero2, nb2_b1, nb3_b2, nb3_b1]
      repeat refine And.intro (by omega) ?_
      intro b4 hb4
      have nb4_b3 := hb4.ne
      have nb4_b2 := hb4.tail.ne
      have nb4_b1 := hb4.tail.tail.ne
      try simp (maxSteps := 2000000) (disch := first | (simp only [E4, nb2_b1, nb3_b2, nb3_b1, nb4_b3, nb4_b2, nb4_b1] <;> omega) | omega | fail) only [↓E2, E3, bare, bareJ, ↓E0, E1, evP, evPlan, env0, envN, evOps, evOp, evQs, evQ, evV, setD, pureOp, ev, upd, updL, gate, binW, eqOp, binV, intOp, shOp, boolOp, unV, convV, nilV, fieldAddrV, indexAddrV, extractV, cellAt, cellsAt, findB, setB, fillL, buildV, Value.cells, lenV, minV, maxV, hav, sliceV, loV, hiV, bslQ, mksQ, appQ, partsOk, partsCells, delB, eqL, SameI, strOp, apzQ, cvtQ, capV, ↓reduceIte, Zj, Zk, Nat.reduceAdd, Nat.reduceLT, Nat.reduceEqDiff, Nat.reduceMul, Nat.reduceLeDiff, if_true, Zn, reduceCtorEq, ZA, eq_self, Int.reduceLE, Int.reduceLT, Int.reduceToNat, ne_eq, Nat.reduceSub, Tby2, Tslc47, Tslce47, Tzero2, nb2_b1, nb3_b2, nb3_b1, nb4_b3, nb4_b2, nb4_b1]
      repeat refine And.intro (by omega) ?_
      repeat refine And.intro (by omega) ?_
      intro g
      simp only [List.map_cons, List.map_nil, updL, upd, Nat.reduceEqDiff, if_true, if_false, ↓reduceIte]
      refine hK _ _ ?_; clear hK K
      have eN : (lo + (N : Int) - lo).toNat = N := by omega
      rw [eN]
      refine Cd.seq ?_
      refine Cd.rs [2, 3, 4, 6, 7, 9, 10] fun K hK => ?_
      simp (maxSteps := 2000000) (disch := first | (simp only [E4, nb2_b1, nb3_b2, nb3_b1, nb4_b3, nb4_b2, nb4_b1] <;> omega) | omega | fail) only [↓E2, E3, bare, bareJ, ↓E0, E1, evP, evPlan, env0, envN, evOps, evOp, evQs, evQ, evV, setD, pureOp, ev, upd, updL, gate, binW, eqOp, binV, intOp, shOp, boolOp, unV, convV, nilV, fieldAddrV, indexAddrV, extractV, cellAt, cellsAt, findB, setB, fillL, buildV, Value.cells, lenV, minV, maxV, hav, sliceV, loV, hiV, bslQ, mksQ, appQ, partsOk, partsCells, delB, eqL, SameI, strOp, apzQ, cvtQ, capV, ↓reduceIte, Zj, Zk, Nat.reduceAdd, Nat.reduceLT, Nat.reduceEqDiff, Nat.reduceMul, Nat.reduceLeDiff, if_true, Zn, reduceCtorEq, ZA, eq_self, Int.reduceLE, Int.reduceLT, Int.reduceToNat, ne_eq, Nat.reduceSub, nb2_b1, nb3_b2, nb3_b1, nb4_b3, nb4_b2, nb4_b1]
      repeat refine And.intro (by omega) ?_
      repeat refine And.intro (by omega) ?_
      intro g
      simp only [List.map_cons, List.map_nil, updL, upd, Nat.reduceEqDiff, if_true, if_false, ↓reduceIte]
      refine hK _ _ ?_; clear hK K
      refine Cd.block ?_
      refine Cd.loop (fun q ρ M => ∃ g i cs, i + q = l1.length ∧ cs = ints .i64 (sumK lo N p1 l1 i p2 l2 0 k) ∧ ρ = updL [(2, .int .i64 k), (3, .pointer (some ⟨b1, 0, none⟩)), (4, .pointer (some ⟨b2, 0, none⟩)), (6, .pointer (some ⟨b3, 0, none⟩)), (7, .int .i64 lo), (9, .slice (some ⟨b4, 0, none⟩) N N), (10, .int .i64 (i : Int))] g ∧ M = [(b4, cs), (b3, [.int .i64 0, .slice none 0 0]), (b2, [.int .i64 p2, .slice x2 l2.length cap2]), (b1, [.int .i64 p1, .slice x1 l1.length cap1])]) l1.length ⟨_, 0, _, Nat.zero_add _, rfl, rfl, by rw [sumK_zero]; simp [ints]⟩ ?_
      rintro q ρ M ⟨g, i, cs, hi, hcs, rfl, rfl⟩
      refine Cd.seq ?_
      refine Cd.rs [2, 3, 4, 6, 7, 9, 10, 54] fun K hK => ?_
      simp (maxSteps := 2000000) (disch := first | (simp only [E4, nb2_b1, nb3_b2, nb3_b1, nb4_b3, nb4_b2, nb4_b1] <;> omega) | omega | fail) only [↓E2, E3, bare, bareJ, ↓E0, E1, evP, evPlan, env0, envN, evOps, evOp, evQs, evQ, evV, setD, pureOp, ev, upd, updL, gate, binW, eqOp, binV, intOp, shOp, boolOp, unV, convV, nilV, fieldAddrV, indexAddrV, extractV, cellAt, cellsAt, findB, setB, fillL, buildV, Value.cells, lenV, minV, maxV, hav, sliceV, loV, hiV, bslQ, mksQ, appQ, partsOk, partsCells, delB, eqL, SameI, strOp, apzQ, cvtQ, capV, ↓reduceIte, Zj, Zk, Nat.reduceAdd, Nat.reduceLT, Nat.reduceEqDiff, Nat.reduceMul, Nat.reduceLeDiff, if_true, Zn, reduceCtorEq, ZA, eq_self, Int.reduceLE, Int.reduceLT, Int.reduceToNat, ne_eq, Nat.reduceSub, Tfld56_1, Tld47, Tslce47, nb2_b1, nb3_b2, nb3_b1, nb4_b3, nb4_b2, nb4_b1]
      repeat refine And.intro (by omega) ?_
      repeat refine And.intro (by omega) ?_
      intro g
      simp only [List.map_cons, List.map_nil, updL, upd, Nat.reduceEqDiff, if_true, if_false, ↓reduceIte]
      refine hK _ _ ?_; clear hK K
      refine Cd.condd rfl (fun g2 => ?_) (fun g2 => ?_)
      · have m4 := n4 (by omega)
        obtain ⟨j, ej⟩ : ∃ j : Nat, p1 - lo + (i : Int) = j := ⟨(p1 - lo + (i : Int)).toNat, by omega⟩
        obtain ⟨bq, rfl, hg⟩ := rd_int hsl1 hR (show i < l1.length by omega)
        have e1 : ¬ b4 = bq := told_ne hb4 hg
        have e2 : ¬ b3 = bq := told_ne hb3 hg
        have e3 : ¬ b2 = bq := told_ne hb2 hg
        have e4 : ¬ b1 = bq := told_ne hb1 hg
        have ecs : cs.length = N := by rw [hcs, ints_length, sumK_len]
        have hcs2 : cs.set j (.int .i64 (l1.getD i 0)) = ints .i64 (sumK lo N p1 l1 (i + 1) p2 l2 0 k) := by
          rw [hcs, ints_set]
          have := sumK_step1 (low := lo) (n := N) (p1 := p1) (l1 := l1) (i1 := i) (p2 := p2) (l2 := l2) (i2 := 0) (k := k) (j := j) (by omega) (by omega)
          rw [coK_zero, Int.mul_zero, Int.add_zero] at this
          rw [this]
        skip
        refine Cd.skip ?_
        refine thenN ?_
        refine Cd.seq ?_
        refine Cd.block ?_
        refine Cd.pr [2, 3, 4, 6, 7, 9, 10] (Plan.take 0 (Plan.take 1 (Plan.take 2 (Plan.take 3 (Plan.take 4 (Plan.take 5 (Plan.take 6 (Plan.take 7 (Plan.take 8 (Plan.take 9 (Plan.take 10 (Plan.take 11 (Plan.take 12 (Plan.one 13 (Plan.done))))))))))))))) fol (by kernel_rfl) (Nat.le_of_ble_eq_true rfl) fun K hK => ?_
        simp (maxSteps := 2000000) (disch := first | (simp only [E4, nb2_b1, nb3_b2, nb3_b1, nb4_b3, nb4_b2, nb4_b1, ej, hg, e1, e2, e3, e4, ecs] <;> omega) | omega | fail) only [↓E2, E3, bare, bareJ, ↓E0, E1, evP, evPlan, env0, envN, evOps, evOp, evQs, evQ, evV, setD, pureOp, ev, upd, updL, gate, binW, eqOp, binV, intOp, shOp, boolOp, unV, convV, nilV, fieldAddrV, indexAddrV, extractV, cellAt, cellsAt, findB, setB, fillL, buildV, Value.cells, lenV, minV, maxV, hav, sliceV, loV, hiV, bslQ, mksQ, appQ, partsOk, partsCells, delB, eqL, SameI, strOp, apzQ, cvtQ, capV, ↓reduceIte, Zj, Zk, Nat.reduceAdd, Nat.reduceLT, Nat.reduceEqDiff, Nat.reduceMul, Nat.reduceLeDiff, if_true, Zn, reduceCtorEq, ZA, eq_self, Int.reduceLE, Int.reduceLT, Int.reduceToNat, ne_eq, Nat.reduceSub, Tfld56_0, Tfld56_1, Tld2, Tld47, Tslc47, Tst2, nb2_b1, nb3_b2, nb3_b1, nb4_b3, nb4_b2, nb4_b1, ej, hg, e1, e2, e3, e4, ecs]
        repeat refine And.intro (by omega) ?_
        repeat refine And.intro (by omega) ?_
        intro g
        simp only [List.map_cons, List.map_nil, updL, upd, Nat.reduceEqDiff, if_true, if_false, ↓reduceIte]
        refine hK _ _ ?_; clear hK K
        refine inBN ?_
        refine thenN ?_
        refine Cd.rr [2, 3, 4, 6, 7, 9, 10] fun K hK => ?_
        simp (maxSteps := 2000000) (disch := first | (simp only [E4, nb2_b1, nb3_b2, nb3_b1, nb4_b3, nb4_b2, nb4_b1, ej, hg, e1, e2, e3, e4, ecs] <;> omega) | omega | fail) only [↓E2, E3, bare, bareJ, ↓E0, E1, evP, evPlan, env0, envN, evOps, evOp, evQs, evQ, evV, setD, pureOp, ev, upd, updL, gate, binW, eqOp, binV, intOp, shOp, boolOp, unV, convV, nilV, fieldAddrV, indexAddrV, extractV, cellAt, cellsAt, findB, setB, fillL, buildV, Value.cells, lenV, minV, maxV, hav, sliceV, loV, hiV, bslQ, mksQ, appQ, partsOk, partsCells, delB, eqL, SameI, strOp, apzQ, cvtQ, capV, ↓reduceIte, Zj, Zk, Nat.reduceAdd, Nat.reduceLT, Nat.reduceEqDiff, Nat.reduceMul, Nat.reduceLeDiff, if_true, Zn, reduceCtorEq, ZA, eq_self, Int.reduceLE, Int.reduceLT, Int.reduceToNat, ne_eq, Nat.reduceSub, nb2_b1, nb3_b2, nb3_b1, nb4_b3, nb4_b2, nb4_b1, ej, hg, e1, e2, e3, e4, ecs]
        repeat refine And.intro (by omega) ?_
        repeat refine And.intro (by omega) ?_
        intro g
        simp only [List.map_cons, List.map_nil, updL, upd, Nat.reduceEqDiff, if_true, if_false, ↓reduceIte]
        refine hK _ _ ?_; clear hK K
        exact roundN (m := q - 1) (by omega) ⟨_, i + 1, _, by omega, hcs2, rfl, rfl⟩
      · obtain rfl : i = l1.length := by omega
        refine Cd.exit (thenX (roundX (inBX ?_)))
        refine thenN ?_
        refine Cd.seq ?_
        refine Cd.rs [2, 4, 6, 7, 9, 11] fun K hK => ?_
        simp (maxSteps := 2000000) (disch := first | (simp only [E4, nb2_b1, nb3_b2, nb3_b1, nb4_b3, nb4_b2, nb4_b1] <;> omega) | omega | fail) only [↓E2, E3, bare, bareJ, ↓E0, E1, evP, evPlan, env0, envN, evOps, evOp, evQs, evQ, evV, setD, pureOp, ev, upd, updL, gate, binW, eqOp, binV, intOp, shOp, boolOp, unV, convV, nilV, fieldAddrV, indexAddrV, extractV, cellAt, cellsAt, findB, setB, fillL, buildV, Value.cells, lenV, minV, maxV, hav, sliceV, loV, hiV, bslQ, mksQ, appQ, partsOk, partsCells, delB, eqL, SameI, strOp, apzQ, cvtQ, capV, ↓reduceIte, Zj, Zk, Nat.reduceAdd, Nat.reduceLT, Nat.reduceEqDiff, Nat.reduceMul, Nat.reduceLeDiff, if_true, Zn, reduceCtorEq, ZA, eq_self, Int.reduceLE, Int.reduceLT, Int.reduceToNat, ne_eq, Nat.reduceSub, nb2_b1, nb3_b2, nb3_b1, nb4_b3, nb4_b2, nb4_b1]
        repeat refine And.intro (by omega) ?_
        repeat refine And.intro (by omega) ?_
        intro g
        simp only [List.map_cons, List.map_nil, updL, upd, Nat.reduceEqDiff, if_true, if_false, ↓reduceIte]
        refine hK _ _ ?_; clear hK K
        refine Cd.block ?_
        subst hcs
        refine Cd.loop (fun q ρ M => ∃ g i cs, i + q = l2.length ∧ cs = ints .i64 (sumK lo N p1 l1 l1.length p2 l2 i k) ∧ ρ = updL [(2, .int .i64 k), (4, .pointer (some ⟨b2, 0, none⟩)), (6, .pointer (some ⟨b3, 0, none⟩)), (7, .int .i64 lo), (9, .slice (some ⟨b4, 0, none⟩) N N), (11, .int .i64 (i : Int))] g ∧ M = [(b4, cs), (b3, [.int .i64 0, .slice none 0 0]), (b2, [.int .i64 p2, .slice x2 l2.length cap2]), (b1, [.int .i64 p1, .slice x1 l1.length cap1])]) l2.length ⟨_, 0, _, Nat.zero_add _, rfl, rfl, rfl⟩ ?_
        rintro q ρ M ⟨g, i, cs, hi, hcs, rfl, rfl⟩
        refine Cd.seq ?_
        refine Cd.rs [2, 4, 6, 7, 9, 11, 74] fun K hK => ?_
        simp (maxSteps := 2000000) (disch := first | (simp only [E4, nb2_b1, nb3_b2, nb3_b1, nb4_b3, nb4_b2, nb4_b1] <;> omega) | omega | fail) only [↓E2, E3, bare, bareJ, ↓E0, E1, evP, evPlan, env0, envN, evOps, evOp, evQs, evQ, evV, setD, pureOp, ev, upd, updL, gate, binW, eqOp, binV, intOp, shOp, boolOp, unV, convV, nilV, fieldAddrV, indexAddrV, extractV, cellAt, cellsAt, findB, setB, fillL, buildV, Value.cells, lenV, minV, maxV, hav, sliceV, loV, hiV, bslQ, mksQ, appQ, partsOk, partsCells, delB, eqL, SameI, strOp, apzQ, cvtQ, capV, ↓reduceIte, Zj, Zk, Nat.reduceAdd, Nat.reduceLT, Nat.reduceEqDiff, Nat.reduceMul, Nat.reduceLeDiff, if_true, Zn, reduceCtorEq, ZA, eq_self, Int.reduceLE, Int.reduceLT, Int.reduceToNat, ne_eq, Nat.reduceSub, Tfld56_1, Tld47, Tslce47, nb2_b1, nb3_b2, nb3_b1, nb4_b3, nb4_b2, nb4_b1]
        repeat refine And.intro (by omega) ?_
        repeat refine And.intro (by omega) ?_
        intro g
        simp only [List.map_cons, List.map_nil, updL, upd, Nat.reduceEqDiff, if_true, if_false, ↓reduceIte]
        refine hK _ _ ?_; clear hK K
        refine Cd.condd rfl (fun g3 => ?_) (fun g3 => ?_)
        · obtain ⟨j, ej⟩ : ∃ j : Nat, p2 - lo + (i : Int) = j := ⟨(p2 - lo + (i : Int)).toNat, by omega⟩
          obtain ⟨bq, rfl, hg⟩ := rd_int hsl2 hR (show i < l2.length by omega)
          have e1 : ¬ b4 = bq := told_ne hb4 hg
          have e2 : ¬ b3 = bq := told_ne hb3 hg
          have e3 : ¬ b2 = bq := told_ne hb2 hg
          have e4 : ¬ b1 = bq := told_ne hb1 hg
          have ecs : cs.length = N := by rw [hcs, ints_length, sumK_len]
          have eold : cs[j]? = some (.int .i64 (coK p1 l1 l1.length (lo + j))) := by
            rw [hcs, ints_get (by rw [sumK_len]; omega), sumK_get (by omega), show lo + (j : Int) = p2 + i by omega, coK_here, Int.mul_zero, Int.add_zero]
          have hcs2 : cs.set j (.int .i64 (coK p1 l1 l1.length (lo + j) + k * l2.getD i 0)) = ints .i64 (sumK lo N p1 l1 l1.length p2 l2 (i + 1) k) := by
            rw [hcs, ints_set, sumK_step2 (by omega) (by omega)]
          have d1 := coK_bound (low := p1) (i := l1.length) (e := lo + j) a3
          have d2 := c3 i
          have d3 : -1000000000000 ≤ k * l2.getD i 0 ∧ k * l2.getD i 0 ≤ 1000000000000 := by rcases hk with rfl | rfl <;> omega
          generalize coK p1 l1 l1.length (lo + j) = old at *
          skip
          refine Cd.skip ?_
          refine thenN ?_
          refine Cd.seq ?_
          refine Cd.block ?_
          refine Cd.rs [2, 4, 6, 7, 9, 11, 12] fun K hK => ?_
          simp (maxSteps := 2000000) (disch := first | (simp only [E4, nb2_b1, nb3_b2, nb3_b1, nb4_b3, nb4_b2, nb4_b1, ej, hg, e1, e2, e3, e4, ecs, eold] <;> omega) | omega | fail) only [↓E2, E3, bare, bareJ, ↓E0, E1, evP, evPlan, env0, envN, evOps, evOp, evQs, evQ, evV, setD, pureOp, ev, upd, updL, gate, binW, eqOp, binV, intOp, shOp, boolOp, unV, convV, nilV, fieldAddrV, indexAddrV, extractV, cellAt, cellsAt, findB, setB, fillL, buildV, Value.cells, lenV, minV, maxV, hav, sliceV, loV, hiV, bslQ, mksQ, appQ, partsOk, partsCells, delB, eqL, SameI, strOp, apzQ, cvtQ, capV, ↓reduceIte, Zj, Zk, Nat.reduceAdd, Nat.reduceLT, Nat.reduceEqDiff, Nat.reduceMul, Nat.reduceLeDiff, if_true, Zn, reduceCtorEq, ZA, eq_self, Int.reduceLE, Int.reduceLT, Int.reduceToNat, ne_eq, Nat.reduceSub, Tfld56_0, Tld2, nb2_b1, nb3_b2, nb3_b1, nb4_b3, nb4_b2, nb4_b1, ej, hg, e1, e2, e3, e4, ecs, eold]
          repeat refine And.intro (by omega) ?_
          repeat refine And.intro (by omega) ?_
          intro g
          simp only [List.map_cons, List.map_nil, updL, upd, Nat.reduceEqDiff, if_true, if_false, ↓reduceIte]
          refine hK _ _ ?_; clear hK K
          refine Cd.pr [2, 4, 6, 7, 9, 11] (Plan.take 0 (Plan.take 1 (Plan.take 2 (Plan.take 3 (Plan.take 4 (Plan.take 5 (Plan.take 6 (Plan.take 7 (Plan.take 8 (Plan.take 9 (Plan.take 10 (Plan.take 11 (Plan.take 12 (Plan.take 13 (Plan.take 14 (Plan.one 15 (Plan.done))))))))))))))))) fol (by kernel_rfl) (Nat.le_of_ble_eq_true rfl) fun K hK => ?_
          simp (maxSteps := 2000000) (disch := first | (simp only [E4, nb2_b1, nb3_b2, nb3_b1, nb4_b3, nb4_b2, nb4_b1, ej, hg, e1, e2, e3, e4, ecs, eold] <;> omega) | omega | fail) only [↓E2, E3, bare, bareJ, ↓E0, E1, evP, evPlan, env0, envN, evOps, evOp, evQs, evQ, evV, setD, pureOp, ev, upd, updL, gate, binW, eqOp, binV, intOp, shOp, boolOp, unV, convV, nilV, fieldAddrV, indexAddrV, extractV, cellAt, cellsAt, findB, setB, fillL, buildV, Value.cells, lenV, minV, maxV, hav, sliceV, loV, hiV, bslQ, mksQ, appQ, partsOk, partsCells, delB, eqL, SameI, strOp, apzQ, cvtQ, capV, ↓reduceIte, Zj, Zk, Nat.reduceAdd, Nat.reduceLT, Nat.reduceEqDiff, Nat.reduceMul, Nat.reduceLeDiff, if_true, Zn, reduceCtorEq, ZA, eq_self, Int.reduceLE, Int.reduceLT, Int.reduceToNat, ne_eq, Nat.reduceSub, Tfld56_1, Tld2, Tld47, Tslc47, Tst2, nb2_b1, nb3_b2, nb3_b1, nb4_b3, nb4_b2, nb4_b1, ej, hg, e1, e2, e3, e4, ecs, eold]
          repeat refine And.intro (by omega) ?_
          repeat refine And.intro (by omega) ?_
          intro g
          simp only [List.map_cons, List.map_nil, updL, upd, Nat.reduceEqDiff, if_true, if_false, ↓reduceIte]
          refine hK _ _ ?_; clear hK K
          refine inBN ?_
          refine thenN ?_
          refine Cd.rr [2, 4, 6, 7, 9, 11] fun K hK => ?_
          simp (maxSteps := 2000000) (disch := first | (simp only [E4, nb2_b1, nb3_b2, nb3_b1, nb4_b3, nb4_b2, nb4_b1, ej, hg, e1, e2, e3, e4, ecs, eold] <;> omega) | omega | fail) only [↓E2, E3, bare, bareJ, ↓E0, E1, evP, evPlan, env0, envN, evOps, evOp, evQs, evQ, evV, setD, pureOp, ev, upd, updL, gate, binW, eqOp, binV, intOp, shOp, boolOp, unV, convV, nilV, fieldAddrV, indexAddrV, extractV, cellAt, cellsAt, findB, setB, fillL, buildV, Value.cells, lenV, minV, maxV, hav, sliceV, loV, hiV, bslQ, mksQ, appQ, partsOk, partsCells, delB, eqL, SameI, strOp, apzQ, cvtQ, capV, ↓reduceIte, Zj, Zk, Nat.reduceAdd, Nat.reduceLT, Nat.reduceEqDiff, Nat.reduceMul, Nat.reduceLeDiff, if_true, Zn, reduceCtorEq, ZA, eq_self, Int.reduceLE, Int.reduceLT, Int.reduceToNat, ne_eq, Nat.reduceSub, nb2_b1, nb3_b2, nb3_b1, nb4_b3, nb4_b2, nb4_b1, ej, hg, e1, e2, e3, e4, ecs, eold]
          repeat refine And.intro (by omega) ?_
          repeat refine And.intro (by omega) ?_
          intro g
          simp only [List.map_cons, List.map_nil, updL, upd, Nat.reduceEqDiff, if_true, if_false, ↓reduceIte]
          refine hK _ _ ?_; clear hK K
          exact roundN (m := q - 1) (by omega) ⟨_, i + 1, _, by omega, hcs2, rfl, rfl⟩
        · obtain rfl : i = l2.length := by omega
          refine Cd.exit (thenX (roundX (inBX ?_)))
          refine thenN ?_
          subst hcs
          refine Cd.nodup fun hnd => ?_
          have hrow : SlN 1 (ints .i64 (sumK lo N p1 l1 l1.length p2 l2 l2.length k)) (.slice (some ⟨b4, 0, none⟩) N N) [(b4, ints .i64 (sumK lo N p1 l1 l1.length p2 l2 l2.length k))] := SlN.row (Row.full (by rw [ints_length, sumK_len, Nat.mul_one]))
          refine Cd.rs [6] fun K hK => ?_
          simp (maxSteps := 2000000) (disch := first | (simp only [E4, nb2_b1, nb3_b2, nb3_b1, nb4_b3, nb4_b2, nb4_b1] <;> omega) | omega | fail) only [↓E2, E3, bare, bareJ, ↓E0, E1, evP, evPlan, env0, envN, evOps, evOp, evQs, evQ, evV, setD, pureOp, ev, upd, updL, gate, binW, eqOp, binV, intOp, shOp, boolOp, unV, convV, nilV, fieldAddrV, indexAddrV, extractV, cellAt, cellsAt, findB, setB, fillL, buildV, Value.cells, lenV, minV, maxV, hav, sliceV, loV, hiV, bslQ, mksQ, appQ, partsOk, partsCells, delB, eqL, SameI, strOp, apzQ, cvtQ, capV, ↓reduceIte, Zj, Zk, Nat.reduceAdd, Nat.reduceLT, Nat.reduceEqDiff, Nat.reduceMul, Nat.reduceLeDiff, if_true, Zn, reduceCtorEq, ZA, eq_self, Int.reduceLE, Int.reduceLT, Int.reduceToNat, ne_eq, Nat.reduceSub, Tst56, nb2_b1, nb3_b2, nb3_b1, nb4_b3, nb4_b2, nb4_b1]
          repeat refine And.intro (by omega) ?_
          refine callK_newR0 (l04Trim_c lo _ _ _ (hrow.reads fun p hp => mem_toldOf hp) (by rw [sumK_len]; omega) (by omega)) (HoldsAll.toldW (holds_mem hnd fun p hp => by rw [List.mem_singleton.1 hp]; exact List.mem_cons_self)) ?_
          intro v' M' hs' nd' _
          obtain ⟨s', rfl, hs'⟩ := hs'
          obtain ⟨a', m', c', rfl⟩ := hs'.form
          simp only [List.cons_append, List.nil_append] at nd' ⊢
          simp (maxSteps := 2000000) (disch := first | (simp only [E4, nb2_b1, nb3_b2, nb3_b1, nb4_b3, nb4_b2, nb4_b1] <;> omega) | omega | fail) only [↓E2, E3, bare, bareJ, ↓E0, E1, evP, evPlan, env0, envN, evOps, evOp, evQs, evQ, evV, setD, pureOp, ev, upd, updL, gate, binW, eqOp, binV, intOp, shOp, boolOp, unV, convV, nilV, fieldAddrV, indexAddrV, extractV, cellAt, cellsAt, findB, setB, fillL, buildV, Value.cells, lenV, minV, maxV, hav, sliceV, loV, hiV, bslQ, mksQ, appQ, partsOk, partsCells, delB, eqL, SameI, strOp, apzQ, cvtQ, capV, ↓reduceIte, Zj, Zk, Nat.reduceAdd, Nat.reduceLT, Nat.reduceEqDiff, Nat.reduceMul, Nat.reduceLeDiff, if_true, Zn, reduceCtorEq, ZA, eq_self, Int.reduceLE, Int.reduceLT, Int.reduceToNat, ne_eq, Nat.reduceSub, Tst56, nb2_b1, nb3_b2, nb3_b1, nb4_b3, nb4_b2, nb4_b1]
          repeat refine And.intro (by omega) ?_
          repeat refine And.intro (by omega) ?_
          intro g
          simp only [List.map_cons, List.map_nil, updL, upd, Nat.reduceEqDiff, if_true, if_false, ↓reduceIte]
          refine hK _ _ ?_; clear hK K
          refine Cd.ret ?_
          simp (maxSteps := 2000000) (disch := first | (simp only [E4, nb2_b1, nb3_b2, nb3_b1, nb4_b3, nb4_b2, nb4_b1] <;> omega) | omega | fail) only [↓E2, E3, bare, bareJ, ↓E0, E1, evP, evPlan, env0, envN, evOps, evOp, evQs, evQ, evV, setD, pureOp, ev, upd, updL, gate, binW, eqOp, binV, intOp, shOp, boolOp, unV, convV, nilV, fieldAddrV, indexAddrV, extractV, cellAt, cellsAt, findB, setB, fillL, buildV, Value.cells, lenV, minV, maxV, hav, sliceV, loV, hiV, bslQ, mksQ, appQ, partsOk, partsCells, delB, eqL, SameI, strOp, apzQ, cvtQ, capV, ↓reduceIte, Zj, Zk, Nat.reduceAdd, Nat.reduceLT, Nat.reduceEqDiff, Nat.reduceMul, Nat.reduceLeDiff, if_true, Zn, reduceCtorEq, ZA, eq_self, Int.reduceLE, Int.reduceLT, Int.reduceToNat, ne_eq, Nat.reduceSub, Tld56, nb2_b1, nb3_b2, nb3_b1, nb4_b3, nb4_b2, nb4_b1]
          repeat refine And.intro (by omega) ?_
          exact ⟨M', SubP.of (List.Sublist.cons _ (List.Sublist.cons _ (List.Sublist.cons _ (List.Sublist.cons _ (List.Sublist.refl _))))), _, rfl, hs'⟩
end

end Go.Proofs

