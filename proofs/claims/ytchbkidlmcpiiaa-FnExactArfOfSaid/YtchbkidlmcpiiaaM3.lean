/-
  What the functions of this part hand back: each as a plain function of its arguments. Conditions: none.
-/
import Derived.ProofKit
import Derived.OpenShut
import Derived.Below
import Derived.ChangeSame
import Derived.Test.YtchbkidlmcpiiaaM1
import Derived.Test.YtchbkidlmcpiiaaM2
namespace Go.Proofs
open Go.W8
set_option linter.unusedVariables false
set_option linter.unusedSimpArgs false
set_option linter.unusedSectionVars false
set_option maxRecDepth 8000
set_option maxHeartbeats 4000000
theorem l01Own_c (l : List Int) (R : Rd) (v : Value) (h : RdO R l v) (hb : l.length ≤ 100000000) : GivesX Try.prog 44 #[v] [] R (SlN 1 (ints .i64 l)) := by
  refine GivesX.part ?_
  rcases h with ⟨rfl, cap, rfl⟩ | ⟨b, o, cap, rfl, h0, h1⟩
  · refine GivesX.of (callable_of Try.func44 rfl (by decide)) ?_ fun w hnd hlt hR => ?_
    · simp
    refine acall_of (N := 6) (c := _) (rs := [.tmp 2]) (args := [_]) Try.func44 rfl (by decide) rfl rfl (Nat.le_of_ble_eq_true rfl) ?_
    refine Cd.rs [0] fun K hK => ?_
    simp (maxSteps := 2000000) (disch := first | (simp only [E4] <;> omega) | omega | fail) only [↓E2, E3, bare, bareJ, ↓E0, E1, env0, envN, evOps, evOp, evQs, evQ, evV, setD, pureOp, ev, upd, updL, hav, delB, ↓reduceIte, Zj, Zk, Nat.reduceAdd, Nat.reduceLT, Nat.reduceEqDiff, Nat.reduceMul, Nat.reduceLeDiff, if_true, Zn, reduceCtorEq, ZA, eq_self, Int.reduceLE, Int.reduceLT, Int.reduceToNat, ne_eq, Nat.reduceSub]
    repeat refine And.intro (by omega) ?_
    repeat refine And.intro (by omega) ?_
    intro g
    simp only [List.map_cons, List.map_nil, updL, upd, Nat.reduceEqDiff, if_true, if_false, ↓reduceIte]
    refine hK _ _ ?_; clear hK K
    refine Cd.rs [2] fun K hK => ?_
    simp (maxSteps := 2000000) (disch := first | (simp only [E4] <;> omega) | omega | fail) only [↓E2, E3, bare, bareJ, ↓E0, E1, evP, env0, envN, evOps, evOp, evQs, evQ, evV, setD, pureOp, ev, upd, updL, cellAt, cellsAt, findB, Value.cells, lenV, hav, bslQ, appQ, partsOk, partsCells, delB, apzQ, ↓reduceIte, Zj, Zk, Nat.reduceAdd, Nat.reduceLT, Nat.reduceEqDiff, Nat.reduceMul, Nat.reduceLeDiff, if_true, Zn, reduceCtorEq, ZA, eq_self, Int.reduceLE, Int.reduceLT, Int.reduceToNat, ne_eq, Nat.reduceSub, Tby2, Tslc31, Tslce31, Tzero2]
    repeat refine And.intro (by omega) ?_
    intro b1 hb1
    try simp (maxSteps := 2000000) (disch := first | (simp only [E4] <;> omega) | omega | fail) only [↓E2, E3, bare, bareJ, ↓E0, E1, evP, env0, envN, evOps, evOp, evQs, evQ, evV, setD, pureOp, ev, upd, updL, cellAt, cellsAt, findB, Value.cells, lenV, hav, bslQ, appQ, partsOk, partsCells, delB, apzQ, ↓reduceIte, Zj, Zk, Nat.reduceAdd, Nat.reduceLT, Nat.reduceEqDiff, Nat.reduceMul, Nat.reduceLeDiff, if_true, Zn, reduceCtorEq, ZA, eq_self, Int.reduceLE, Int.reduceLT, Int.reduceToNat, ne_eq, Nat.reduceSub, Tby2, Tslc31, Tslce31, Tzero2]
    repeat refine And.intro (by omega) ?_
    repeat refine And.intro (by omega) ?_
    intro g
    simp only [List.map_cons, List.map_nil, updL, upd, Nat.reduceEqDiff, if_true, if_false, ↓reduceIte]
    refine hK _ _ ?_; clear hK K
    refine Cd.ret ?_
    simp (maxSteps := 2000000) (disch := first | (simp only [E4] <;> omega) | omega | fail) only [↓E2, E3, bare, bareJ, ↓E0, E1, evP, evPlan, env0, envN, evOps, evOp, evQs, evQ, evV, setD, pureOp, ev, upd, updL, gate, binW, eqOp, binV, intOp, shOp, boolOp, unV, convV, nilV, fieldAddrV, indexAddrV, extractV, cellAt, cellsAt, findB, setB, fillL, buildV, Value.cells, lenV, minV, maxV, hav, sliceV, loV, hiV, bslQ, mksQ, appQ, partsOk, partsCells, delB, eqL, SameI, strOp, apzQ, cvtQ, capV, ↓reduceIte, Zj, Zk, Nat.reduceAdd, Nat.reduceLT, Nat.reduceEqDiff, Nat.reduceMul, Nat.reduceLeDiff, if_true, Zn, reduceCtorEq, ZA, eq_self, Int.reduceLE, Int.reduceLT, Int.reduceToNat, ne_eq, Nat.reduceSub]
    repeat refine And.intro (by omega) ?_
    exact ⟨_, SubP.refl _, SlN.row (Row.nil 1)⟩
  · refine GivesX.of (callable_of Try.func44 rfl (by decide)) ?_ fun w hnd hlt hR => ?_
    · simp
    refine acall_of (N := 6) (c := _) (rs := [.tmp 2]) (args := [_]) Try.func44 rfl (by decide) rfl rfl (Nat.le_of_ble_eq_true rfl) ?_
    have hR : W8.Told [] w R := hR
    refine Cd.rs [0] fun K hK => ?_
    simp (maxSteps := 2000000) (disch := first | (simp only [E4] <;> omega) | omega | fail) only [↓E2, E3, bare, bareJ, ↓E0, E1, env0, envN, evOps, evOp, evQs, evQ, evV, setD, pureOp, ev, upd, updL, hav, delB, ↓reduceIte, Zj, Zk, Nat.reduceAdd, Nat.reduceLT, Nat.reduceEqDiff, Nat.reduceMul, Nat.reduceLeDiff, if_true, Zn, reduceCtorEq, ZA, eq_self, Int.reduceLE, Int.reduceLT, Int.reduceToNat, ne_eq, Nat.reduceSub]
    repeat refine And.intro (by omega) ?_
    repeat refine And.intro (by omega) ?_
    intro g
    simp only [List.map_cons, List.map_nil, updL, upd, Nat.reduceEqDiff, if_true, if_false, ↓reduceIte]
    refine hK _ _ ?_; clear hK K
    refine Cd.rs [2] fun K hK => ?_
    by_cases hn : l = []
    · subst hn
      obtain rfl := h0 rfl
      have mz : ∀ f : Nat → Option Value, (List.range 0).mapM f = some [] := fun _ => rfl
      have sz : subL [] 0 0 = [] := rfl
      skip
      simp (maxSteps := 2000000) (disch := first | (simp only [E4, mz, sz] <;> omega) | omega | fail) only [↓E2, E3, bare, bareJ, ↓E0, E1, evP, env0, envN, evOps, evOp, evQs, evQ, evV, setD, pureOp, ev, upd, updL, cellAt, cellsAt, findB, Value.cells, lenV, hav, bslQ, appQ, partsOk, partsCells, delB, apzQ, ↓reduceIte, Zj, Zk, Nat.reduceAdd, Nat.reduceLT, Nat.reduceEqDiff, Nat.reduceMul, Nat.reduceLeDiff, if_true, Zn, reduceCtorEq, ZA, eq_self, Int.reduceLE, Int.reduceLT, Int.reduceToNat, ne_eq, Nat.reduceSub, Tby2, Tslc31, Tslce31, Tzero2, mz, sz]
      repeat refine And.intro (by omega) ?_
      intro b1 hb1
      by_cases e : b1 = b
      all_goals
        skip
        simp (maxSteps := 2000000) (disch := first | (simp only [E4, mz, sz, e] <;> omega) | omega | fail) only [↓E2, E3, bare, bareJ, ↓E0, E1, evP, env0, envN, evOps, evOp, evQs, evQ, evV, setD, pureOp, ev, upd, updL, cellAt, cellsAt, findB, Value.cells, lenV, hav, bslQ, appQ, partsOk, partsCells, delB, apzQ, ↓reduceIte, Zj, Zk, Nat.reduceAdd, Nat.reduceLT, Nat.reduceEqDiff, Nat.reduceMul, Nat.reduceLeDiff, if_true, Zn, reduceCtorEq, ZA, eq_self, Int.reduceLE, Int.reduceLT, Int.reduceToNat, ne_eq, Nat.reduceSub, Tby2, Tslc31, Tslce31, Tzero2, mz, sz, e]
        repeat refine And.intro (by omega) ?_
        intro b' cap' rest' hf hr'
        repeat refine And.intro (by omega) ?_
        intro g
        simp only [List.map_cons, List.map_nil, updL, upd, Nat.reduceEqDiff, if_true, if_false, ↓reduceIte]
        refine hK _ _ ?_; clear hK K
        refine Cd.ret ?_
        simp (maxSteps := 2000000) (disch := first | (simp only [E4, mz, sz, e] <;> omega) | omega | fail) only [↓E2, E3, bare, bareJ, ↓E0, E1, evP, evPlan, env0, envN, evOps, evOp, evQs, evQ, evV, setD, pureOp, ev, upd, updL, gate, binW, eqOp, binV, intOp, shOp, boolOp, unV, convV, nilV, fieldAddrV, indexAddrV, extractV, cellAt, cellsAt, findB, setB, fillL, buildV, Value.cells, lenV, minV, maxV, hav, sliceV, loV, hiV, bslQ, mksQ, appQ, partsOk, partsCells, delB, eqL, SameI, strOp, apzQ, cvtQ, capV, ↓reduceIte, Zj, Zk, Nat.reduceAdd, Nat.reduceLT, Nat.reduceEqDiff, Nat.reduceMul, Nat.reduceLeDiff, if_true, Zn, reduceCtorEq, ZA, eq_self, Int.reduceLE, Int.reduceLT, Int.reduceToNat, ne_eq, Nat.reduceSub, mz, sz, e]
        repeat refine And.intro (by omega) ?_
        exact ⟨_, SubP.refl _, SlN.row ⟨rfl, Nat.zero_le _, by simpa using hr', rest', rfl⟩⟩
    · have tr := told_range (h1 hn) hR
      have hb0 := hR _ (h1 hn) 0 (.int .i64 (l.getD 0 0)) (ints_get (by cases l with | nil => exact absurd rfl hn | cons a l => simp))
      skip
      simp (maxSteps := 2000000) (disch := first | (simp only [E4, tr] <;> omega) | omega | fail) only [↓E2, E3, bare, bareJ, ↓E0, E1, evP, env0, envN, evOps, evOp, evQs, evQ, evV, setD, pureOp, ev, upd, updL, cellAt, cellsAt, findB, Value.cells, lenV, hav, bslQ, appQ, partsOk, partsCells, delB, apzQ, ↓reduceIte, Zj, Zk, Nat.reduceAdd, Nat.reduceLT, Nat.reduceEqDiff, Nat.reduceMul, Nat.reduceLeDiff, if_true, Zn, reduceCtorEq, ZA, eq_self, Int.reduceLE, Int.reduceLT, Int.reduceToNat, ne_eq, Nat.reduceSub, Tby2, Tslc31, Tslce31, Tzero2, tr]
      repeat refine And.intro (by omega) ?_
      intro b1 hb1
      have n1 : ¬ b1 = b := told_ne hb1 hb0
      skip
      simp (maxSteps := 2000000) (disch := first | (simp only [E4, tr] <;> omega) | omega | fail) only [↓E2, E3, bare, bareJ, ↓E0, E1, evP, env0, envN, evOps, evOp, evQs, evQ, evV, setD, pureOp, ev, upd, updL, cellAt, cellsAt, findB, Value.cells, lenV, hav, bslQ, appQ, partsOk, partsCells, delB, apzQ, ↓reduceIte, Zj, Zk, Nat.reduceAdd, Nat.reduceLT, Nat.reduceEqDiff, Nat.reduceMul, Nat.reduceLeDiff, if_true, Zn, reduceCtorEq, ZA, eq_self, Int.reduceLE, Int.reduceLT, Int.reduceToNat, ne_eq, Nat.reduceSub, Tby2, Tslc31, Tslce31, Tzero2, tr, n1]
      repeat refine And.intro (by omega) ?_
      intro b' cap' rest' hf hc hr'
      repeat refine And.intro (by omega) ?_
      intro g
      simp only [List.map_cons, List.map_nil, updL, upd, Nat.reduceEqDiff, if_true, if_false, ↓reduceIte]
      refine hK _ _ ?_; clear hK K
      refine Cd.drop (M' := [(b', ints .i64 l ++ rest')]) (List.Sublist.cons_cons _ (List.nil_sublist _)) ?_
      refine Cd.ret ?_
      simp (maxSteps := 2000000) (disch := first | (simp only [E4, tr] <;> omega) | omega | fail) only [↓E2, E3, bare, bareJ, ↓E0, E1, evP, evPlan, env0, envN, evOps, evOp, evQs, evQ, evV, setD, pureOp, ev, upd, updL, gate, binW, eqOp, binV, intOp, shOp, boolOp, unV, convV, nilV, fieldAddrV, indexAddrV, extractV, cellAt, cellsAt, findB, setB, fillL, buildV, Value.cells, lenV, minV, maxV, hav, sliceV, loV, hiV, bslQ, mksQ, appQ, partsOk, partsCells, delB, eqL, SameI, strOp, apzQ, cvtQ, capV, ↓reduceIte, Zj, Zk, Nat.reduceAdd, Nat.reduceLT, Nat.reduceEqDiff, Nat.reduceMul, Nat.reduceLeDiff, if_true, Zn, reduceCtorEq, ZA, eq_self, Int.reduceLE, Int.reduceLT, Int.reduceToNat, ne_eq, Nat.reduceSub, tr, n1]
      repeat refine And.intro (by omega) ?_
      exact ⟨_, SubP.refl _, SlN.row (Row.first (by rw [ints_length, Nat.mul_one]) hc (by omega))⟩

theorem Clone_c (l : List Int) (R : Rd) (v : Value) (h : RdO R l v) (hb : l.length ≤ 100000000) : GivesX Try.prog 35 #[v] [] R (SlN 1 (ints .i64 l)) := by
  refine GivesX.part ?_
  rcases h with ⟨rfl, cap, rfl⟩ | ⟨b, o, cap, rfl, h0, h1⟩
  · refine GivesX.of (callable_of Try.func35 rfl (by decide)) ?_ fun w hnd hlt hR => ?_
    · simp
    refine acall_of (N := 8) (c := _) (rs := [.tmp 2]) (args := [_]) Try.func35 rfl (by decide) rfl rfl (Nat.le_of_ble_eq_true rfl) ?_
    refine Cd.rs [0] fun K hK => ?_
    simp (maxSteps := 2000000) (disch := first | (simp only [E4] <;> omega) | omega | fail) only [↓E2, E3, bare, bareJ, ↓E0, E1, env0, envN, evOps, evOp, evQs, evQ, evV, setD, pureOp, ev, upd, updL, hav, delB, ↓reduceIte, Zj, Zk, Nat.reduceAdd, Nat.reduceLT, Nat.reduceEqDiff, Nat.reduceMul, Nat.reduceLeDiff, if_true, Zn, reduceCtorEq, ZA, eq_self, Int.reduceLE, Int.reduceLT, Int.reduceToNat, ne_eq, Nat.reduceSub]
    repeat refine And.intro (by omega) ?_
    repeat refine And.intro (by omega) ?_
    intro g
    simp only [List.map_cons, List.map_nil, updL, upd, Nat.reduceEqDiff, if_true, if_false, ↓reduceIte]
    refine hK _ _ ?_; clear hK K
    refine Cd.seq ?_
    refine Cd.rs [0, 4] fun K hK => ?_
    simp (maxSteps := 2000000) (disch := first | (simp only [E4] <;> omega) | omega | fail) only [↓E2, E3, bare, bareJ, ↓E0, E1, env0, envN, evOps, evOp, evQs, evQ, evV, setD, pureOp, ev, upd, updL, binW, eqOp, binV, intOp, shOp, boolOp, hav, delB, eqL, SameI, strOp, ↓reduceIte, Zj, Zk, Nat.reduceAdd, Nat.reduceLT, Nat.reduceEqDiff, Nat.reduceMul, Nat.reduceLeDiff, if_true, Zn, reduceCtorEq, ZA, eq_self, Int.reduceLE, Int.reduceLT, Int.reduceToNat, ne_eq, Nat.reduceSub, Tslce31]
    repeat refine And.intro (by omega) ?_
    repeat refine And.intro (by omega) ?_
    intro g
    simp only [List.map_cons, List.map_nil, updL, upd, Nat.reduceEqDiff, if_true, if_false, ↓reduceIte]
    refine hK _ _ ?_; clear hK K
    refine Cd.yes rfl ?_
    refine Cd.rs [2] fun K hK => ?_
    simp (maxSteps := 2000000) (disch := first | (simp only [E4] <;> omega) | omega | fail) only [↓E2, E3, bare, bareJ, ↓E0, E1, env0, envN, evOps, evOp, evQs, evQ, evV, setD, pureOp, ev, upd, updL, hav, delB, ↓reduceIte, Zj, Zk, Nat.reduceAdd, Nat.reduceLT, Nat.reduceEqDiff, Nat.reduceMul, Nat.reduceLeDiff, if_true, Zn, reduceCtorEq, ZA, eq_self, Int.reduceLE, Int.reduceLT, Int.reduceToNat, ne_eq, Nat.reduceSub]
    repeat refine And.intro (by omega) ?_
    repeat refine And.intro (by omega) ?_
    intro g
    simp only [List.map_cons, List.map_nil, updL, upd, Nat.reduceEqDiff, if_true, if_false, ↓reduceIte]
    refine hK _ _ ?_; clear hK K
    refine Cd.ret (thenR ?_)
    simp (maxSteps := 2000000) (disch := first | (simp only [E4] <;> omega) | omega | fail) only [↓E2, E3, bare, bareJ, ↓E0, E1, evP, evPlan, env0, envN, evOps, evOp, evQs, evQ, evV, setD, pureOp, ev, upd, updL, gate, binW, eqOp, binV, intOp, shOp, boolOp, unV, convV, nilV, fieldAddrV, indexAddrV, extractV, cellAt, cellsAt, findB, setB, fillL, buildV, Value.cells, lenV, minV, maxV, hav, sliceV, loV, hiV, bslQ, mksQ, appQ, partsOk, partsCells, delB, eqL, SameI, strOp, apzQ, cvtQ, capV, ↓reduceIte, Zj, Zk, Nat.reduceAdd, Nat.reduceLT, Nat.reduceEqDiff, Nat.reduceMul, Nat.reduceLeDiff, if_true, Zn, reduceCtorEq, ZA, eq_self, Int.reduceLE, Int.reduceLT, Int.reduceToNat, ne_eq, Nat.reduceSub]
    repeat refine And.intro (by omega) ?_
    exact ⟨_, SubP.refl _, SlN.nil 1⟩
  · refine GivesX.of (callable_of Try.func35 rfl (by decide)) ?_ fun w hnd hlt hR => ?_
    · simp
    refine acall_of (N := 8) (c := _) (rs := [.tmp 2]) (args := [_]) Try.func35 rfl (by decide) rfl rfl (Nat.le_of_ble_eq_true rfl) ?_
    have hR : W8.Told [] w R := hR
    refine Cd.rs [0] fun K hK => ?_
    simp (maxSteps := 2000000) (disch := first | (simp only [E4] <;> omega) | omega | fail) only [↓E2, E3, bare, bareJ, ↓E0, E1, env0, envN, evOps, evOp, evQs, evQ, evV, setD, pureOp, ev, upd, updL, hav, delB, ↓reduceIte, Zj, Zk, Nat.reduceAdd, Nat.reduceLT, Nat.reduceEqDiff, Nat.reduceMul, Nat.reduceLeDiff, if_true, Zn, reduceCtorEq, ZA, eq_self, Int.reduceLE, Int.reduceLT, Int.reduceToNat, ne_eq, Nat.reduceSub]
    repeat refine And.intro (by omega) ?_
    repeat refine And.intro (by omega) ?_
    intro g
    simp only [List.map_cons, List.map_nil, updL, upd, Nat.reduceEqDiff, if_true, if_false, ↓reduceIte]
    refine hK _ _ ?_; clear hK K
    refine Cd.seq ?_
    refine Cd.rs [0, 4] fun K hK => ?_
    simp (maxSteps := 2000000) (disch := first | (simp only [E4] <;> omega) | omega | fail) only [↓E2, E3, bare, bareJ, ↓E0, E1, env0, envN, evOps, evOp, evQs, evQ, evV, setD, pureOp, ev, upd, updL, binW, eqOp, binV, intOp, shOp, boolOp, hav, delB, eqL, SameI, strOp, ↓reduceIte, Zj, Zk, Nat.reduceAdd, Nat.reduceLT, Nat.reduceEqDiff, Nat.reduceMul, Nat.reduceLeDiff, if_true, Zn, reduceCtorEq, ZA, eq_self, Int.reduceLE, Int.reduceLT, Int.reduceToNat, ne_eq, Nat.reduceSub, Tslce31]
    repeat refine And.intro (by omega) ?_
    repeat refine And.intro (by omega) ?_
    intro g
    simp only [List.map_cons, List.map_nil, updL, upd, Nat.reduceEqDiff, if_true, if_false, ↓reduceIte]
    refine hK _ _ ?_; clear hK K
    refine Cd.no rfl ?_
    refine Cd.skip ?_
    refine thenN ?_
    refine Cd.rs [2] fun K hK => ?_
    by_cases hn : l = []
    · subst hn
      obtain rfl := h0 rfl
      have mz : ∀ f : Nat → Option Value, (List.range 0).mapM f = some [] := fun _ => rfl
      have sz : subL [] 0 0 = [] := rfl
      skip
      simp (maxSteps := 2000000) (disch := first | (simp only [E4, mz, sz] <;> omega) | omega | fail) only [↓E2, E3, bare, bareJ, ↓E0, E1, evP, env0, envN, evOps, evOp, evQs, evQ, evV, setD, pureOp, ev, upd, updL, cellAt, cellsAt, findB, Value.cells, lenV, hav, bslQ, appQ, partsOk, partsCells, delB, apzQ, ↓reduceIte, Zj, Zk, Nat.reduceAdd, Nat.reduceLT, Nat.reduceEqDiff, Nat.reduceMul, Nat.reduceLeDiff, if_true, Zn, reduceCtorEq, ZA, eq_self, Int.reduceLE, Int.reduceLT, Int.reduceToNat, ne_eq, Nat.reduceSub, Tby2, Tslc31, Tslce31, Tzero2, mz, sz]
      repeat refine And.intro (by omega) ?_
      intro b1 hb1
      by_cases e : b1 = b
      all_goals
        skip
        simp (maxSteps := 2000000) (disch := first | (simp only [E4, mz, sz, e] <;> omega) | omega | fail) only [↓E2, E3, bare, bareJ, ↓E0, E1, evP, env0, envN, evOps, evOp, evQs, evQ, evV, setD, pureOp, ev, upd, updL, cellAt, cellsAt, findB, Value.cells, lenV, hav, bslQ, appQ, partsOk, partsCells, delB, apzQ, ↓reduceIte, Zj, Zk, Nat.reduceAdd, Nat.reduceLT, Nat.reduceEqDiff, Nat.reduceMul, Nat.reduceLeDiff, if_true, Zn, reduceCtorEq, ZA, eq_self, Int.reduceLE, Int.reduceLT, Int.reduceToNat, ne_eq, Nat.reduceSub, Tby2, Tslc31, Tslce31, Tzero2, mz, sz, e]
        repeat refine And.intro (by omega) ?_
        intro b' cap' rest' hf hr'
        repeat refine And.intro (by omega) ?_
        intro g
        simp only [List.map_cons, List.map_nil, updL, upd, Nat.reduceEqDiff, if_true, if_false, ↓reduceIte]
        refine hK _ _ ?_; clear hK K
        refine Cd.ret ?_
        simp (maxSteps := 2000000) (disch := first | (simp only [E4, mz, sz, e] <;> omega) | omega | fail) only [↓E2, E3, bare, bareJ, ↓E0, E1, evP, evPlan, env0, envN, evOps, evOp, evQs, evQ, evV, setD, pureOp, ev, upd, updL, gate, binW, eqOp, binV, intOp, shOp, boolOp, unV, convV, nilV, fieldAddrV, indexAddrV, extractV, cellAt, cellsAt, findB, setB, fillL, buildV, Value.cells, lenV, minV, maxV, hav, sliceV, loV, hiV, bslQ, mksQ, appQ, partsOk, partsCells, delB, eqL, SameI, strOp, apzQ, cvtQ, capV, ↓reduceIte, Zj, Zk, Nat.reduceAdd, Nat.reduceLT, Nat.reduceEqDiff, Nat.reduceMul, Nat.reduceLeDiff, if_true, Zn, reduceCtorEq, ZA, eq_self, Int.reduceLE, Int.reduceLT, Int.reduceToNat, ne_eq, Nat.reduceSub, mz, sz, e]
        repeat refine And.intro (by omega) ?_
        exact ⟨_, SubP.refl _, SlN.row ⟨rfl, Nat.zero_le _, by simpa using hr', rest', rfl⟩⟩
    · have tr := told_range (h1 hn) hR
      have hb0 := hR _ (h1 hn) 0 (.int .i64 (l.getD 0 0)) (ints_get (by cases l with | nil => exact absurd rfl hn | cons a l => simp))
      skip
      simp (maxSteps := 2000000) (disch := first | (simp only [E4, tr] <;> omega) | omega | fail) only [↓E2, E3, bare, bareJ, ↓E0, E1, evP, env0, envN, evOps, evOp, evQs, evQ, evV, setD, pureOp, ev, upd, updL, cellAt, cellsAt, findB, Value.cells, lenV, hav, bslQ, appQ, partsOk, partsCells, delB, apzQ, ↓reduceIte, Zj, Zk, Nat.reduceAdd, Nat.reduceLT, Nat.reduceEqDiff, Nat.reduceMul, Nat.reduceLeDiff, if_true, Zn, reduceCtorEq, ZA, eq_self, Int.reduceLE, Int.reduceLT, Int.reduceToNat, ne_eq, Nat.reduceSub, Tby2, Tslc31, Tslce31, Tzero2, tr]
      repeat refine And.intro (by omega) ?_
      intro b1 hb1
      have n1 : ¬ b1 = b := told_ne hb1 hb0
      skip
      simp (maxSteps := 2000000) (disch := first | (simp only [E4, tr] <;> omega) | omega | fail) only [↓E2, E3, bare, bareJ, ↓E0, E1, evP, env0, envN, evOps, evOp, evQs, evQ, evV, setD, pureOp, ev, upd, updL, cellAt, cellsAt, findB, Value.cells, lenV, hav, bslQ, appQ, partsOk, partsCells, delB, apzQ, ↓reduceIte, Zj, Zk, Nat.reduceAdd, Nat.reduceLT, Nat.reduceEqDiff, Nat.reduceMul, Nat.reduceLeDiff, if_true, Zn, reduceCtorEq, ZA, eq_self, Int.reduceLE, Int.reduceLT, Int.reduceToNat, ne_eq, Nat.reduceSub, Tby2, Tslc31, Tslce31, Tzero2, tr, n1]
      repeat refine And.intro (by omega) ?_
      intro b' cap' rest' hf hc hr'
      repeat refine And.intro (by omega) ?_
      intro g
      simp only [List.map_cons, List.map_nil, updL, upd, Nat.reduceEqDiff, if_true, if_false, ↓reduceIte]
      refine hK _ _ ?_; clear hK K
      refine Cd.drop (M' := [(b', ints .i64 l ++ rest')]) (List.Sublist.cons_cons _ (List.nil_sublist _)) ?_
      refine Cd.ret ?_
      simp (maxSteps := 2000000) (disch := first | (simp only [E4, tr] <;> omega) | omega | fail) only [↓E2, E3, bare, bareJ, ↓E0, E1, evP, evPlan, env0, envN, evOps, evOp, evQs, evQ, evV, setD, pureOp, ev, upd, updL, gate, binW, eqOp, binV, intOp, shOp, boolOp, unV, convV, nilV, fieldAddrV, indexAddrV, extractV, cellAt, cellsAt, findB, setB, fillL, buildV, Value.cells, lenV, minV, maxV, hav, sliceV, loV, hiV, bslQ, mksQ, appQ, partsOk, partsCells, delB, eqL, SameI, strOp, apzQ, cvtQ, capV, ↓reduceIte, Zj, Zk, Nat.reduceAdd, Nat.reduceLT, Nat.reduceEqDiff, Nat.reduceMul, Nat.reduceLeDiff, if_true, Zn, reduceCtorEq, ZA, eq_self, Int.reduceLE, Int.reduceLT, Int.reduceToNat, ne_eq, Nat.reduceSub, tr, n1]
      repeat refine And.intro (by omega) ?_
      exact ⟨_, SubP.refl _, SlN.row (Row.first (by rw [ints_length, Nat.mul_one]) hc (by omega))⟩
section
variable (low : Int) (l : List Int) (R : Rd) (v : Value) (h : RdS R 1 (ints .i64 l) v) (hb : l.length ≤ 1000000) (wl : -1000000 ≤ low ∧ low ≤ 1000000)
include h hb wl
theorem l04Trim_c : GivesX Try.prog 24 #[.int .i64 low, v] [] R (LauV (trimLow low l) (trimL l)) := by
  obtain ⟨a, m, cap, rfl, hm, _⟩ := id h
  obtain rfl := lauLen hm
  refine GivesX.part ?_
  refine GivesX.of (callable_of Try.func24 rfl (by decide)) ?_ fun w hnd hlt hR => ?_
  · simp
  refine acall_of (N := 46) (c := _) (rs := [.cell 4 35]) (args := [_, _]) Try.func24 rfl (by decide) rfl rfl (Nat.le_of_ble_eq_true rfl) ?_
  have hR : W8.Told [] w R := hR
  refine Cd.rs [0, 1, 4] fun K hK => ?_
  simp (maxSteps := 2000000) (disch := first | (simp only [E4] <;> omega) | omega | fail) only [↓E2, E3, bare, bareJ, ↓E0, E1, env0, envN, evOps, evOp, evQs, evQ, evV, setD, pureOp, ev, upd, updL, Value.cells, hav, delB, ↓reduceIte, Zj, Zk, Nat.reduceAdd, Nat.reduceLT, Nat.reduceEqDiff, Nat.reduceMul, Nat.reduceLeDiff, if_true, Zn, reduceCtorEq, ZA, eq_self, Int.reduceLE, Int.reduceLT, Int.reduceToNat, ne_eq, Nat.reduceSub, Tzero35]
  repeat refine And.intro (by omega) ?_
  intro b1 hb1
  try simp (maxSteps := 2000000) (disch := first | (simp only [E4] <;> omega) | omega | fail) only [↓E2, E3, bare, bareJ, ↓E0, E1, env0, envN, evOps, evOp, evQs, evQ, evV, setD, pureOp, ev, upd, updL, Value.cells, hav, delB, ↓reduceIte, Zj, Zk, Nat.reduceAdd, Nat.reduceLT, Nat.reduceEqDiff, Nat.reduceMul, Nat.reduceLeDiff, if_true, Zn, reduceCtorEq, ZA, eq_self, Int.reduceLE, Int.reduceLT, Int.reduceToNat, ne_eq, Nat.reduceSub, Tzero35]
  repeat refine And.intro (by omega) ?_
  repeat refine And.intro (by omega) ?_
  intro g
  simp only [List.map_cons, List.map_nil, updL, upd, Nat.reduceEqDiff, if_true, if_false, ↓reduceIte]
  refine hK _ _ ?_; clear hK K
  refine Cd.rs [0, 1, 4, 5, 6] fun K hK => ?_
  simp (maxSteps := 2000000) (disch := first | (simp only [E4] <;> omega) | omega | fail) only [↓E2, E3, bare, bareJ, ↓E0, E1, env0, envN, evOps, evOp, evQs, evQ, evV, setD, pureOp, ev, upd, updL, lenV, hav, delB, ↓reduceIte, Zj, Zk, Nat.reduceAdd, Nat.reduceLT, Nat.reduceEqDiff, Nat.reduceMul, Nat.reduceLeDiff, if_true, Zn, reduceCtorEq, ZA, eq_self, Int.reduceLE, Int.reduceLT, Int.reduceToNat, ne_eq, Nat.reduceSub, Tslce31]
  repeat refine And.intro (by omega) ?_
  repeat refine And.intro (by omega) ?_
  intro g
  simp only [List.map_cons, List.map_nil, updL, upd, Nat.reduceEqDiff, if_true, if_false, ↓reduceIte]
  refine hK _ _ ?_; clear hK K
  refine Cd.seq ?_
  refine Cd.block ?_
  refine Cd.loop (fun t ρ M => ∃ g, t ≤ l.length ∧ trEnd l t = trE l ∧ ρ = updL [(0, .int .i64 low), (1, .slice a l.length cap), (4, .pointer (some ⟨b1, 0, none⟩)), (5, .int .i64 0), (6, .int .i64 (t : Int))] g ∧ M = [(b1, [.int .i64 0, .slice none 0 0])]) l.length ⟨_, Nat.le_refl _, rfl, rfl, rfl⟩ ?_
  rintro t ρ M ⟨g, ht, he, rfl, rfl⟩
  refine Cd.seq ?_
  refine Cd.rs [0, 1, 4, 5, 6, 18] fun K hK => ?_
  simp (maxSteps := 2000000) (disch := first | (simp only [E4] <;> omega) | omega | fail) only [↓E2, E3, bare, bareJ, ↓E0, E1, env0, envN, evOps, evOp, evQs, evQ, evV, setD, pureOp, ev, upd, updL, gate, binW, eqOp, binV, intOp, shOp, boolOp, indexAddrV, cellAt, cellsAt, findB, hav, delB, eqL, SameI, strOp, ↓reduceIte, Zj, Zk, Nat.reduceAdd, Nat.reduceLT, Nat.reduceEqDiff, Nat.reduceMul, Nat.reduceLeDiff, if_true, Zn, reduceCtorEq, ZA, eq_self, Int.reduceLE, Int.reduceLT, Int.reduceToNat, ne_eq, Nat.reduceSub, Tld2, Tslc31]
  repeat refine And.intro (by omega) ?_
  apply guardX_and 6 [12, 13, 14, 15, 16, 17] (j := 2) (d := 11) (tp := 18) (tl := 17) (x := l.getD (t - 1) 0 == 0) rfl rfl rfl rfl rfl
  · intro hq
    simp only [decide_eq_true_eq, decide_eq_false_iff_not, beq_iff_eq, beq_eq_false_iff_ne, bne_iff_ne, bne_eq_false_iff_eq, Bool.and_eq_true, Bool.or_eq_true, Bool.or_eq_false_iff, Bool.not_eq_true', Bool.not_eq_false', Bool.and_eq_false_imp, ne_eq, gt_iff_lt, ge_iff_le, Int.not_lt, Int.not_le, Classical.not_not] at hq
    obtain ⟨b, rfl, q1⟩ := rd_int h hR (k := t - 1) (by omega)
    have n1 := told_ne hb1 q1
    have e1 : ((t : Int) - 1).toNat = t - 1 := by omega
    skip
    simp (maxSteps := 2000000) (disch := first | (simp only [E4, q1, e1] <;> omega) | omega | fail) only [↓E2, E3, bare, bareJ, ↓E0, E1, env0, envN, evOps, evOp, evQs, evQ, evV, setD, pureOp, ev, upd, updL, gate, binW, eqOp, binV, intOp, shOp, boolOp, indexAddrV, cellAt, cellsAt, findB, hav, delB, eqL, SameI, strOp, ↓reduceIte, Zj, Zk, Nat.reduceAdd, Nat.reduceLT, Nat.reduceEqDiff, Nat.reduceMul, Nat.reduceLeDiff, if_true, Zn, reduceCtorEq, ZA, eq_self, Int.reduceLE, Int.reduceLT, Int.reduceToNat, ne_eq, Nat.reduceSub, Tld2, Tslc31, q1, n1, e1]
    repeat refine And.intro (by omega) ?_
    first | omega | exact rfl
  intro g
  simp (maxSteps := 2000000) (disch := first | (simp only [E4] <;> omega) | omega | fail) only [↓E2, E3, bare, bareJ, ↓E0, E1, env0, envN, evOps, evOp, evQs, evQ, evV, setD, pureOp, ev, upd, updL, gate, binW, eqOp, binV, intOp, shOp, boolOp, indexAddrV, cellAt, cellsAt, findB, hav, delB, eqL, SameI, strOp, ↓reduceIte, Zj, Zk, Nat.reduceAdd, Nat.reduceLT, Nat.reduceEqDiff, Nat.reduceMul, Nat.reduceLeDiff, if_true, Zn, reduceCtorEq, ZA, eq_self, Int.reduceLE, Int.reduceLT, Int.reduceToNat, ne_eq, Nat.reduceSub, Tld2, Tslc31]
  repeat refine And.intro (by omega) ?_
  repeat refine And.intro (by omega) ?_
  intro g
  simp only [List.map_cons, List.map_nil, updL, upd, Nat.reduceEqDiff, if_true, if_false, ↓reduceIte]
  refine hK _ _ ?_; clear hK K
  refine Cd.cond rfl (fun h1 => ?_) (fun h1 => ?_)
  · simp only [decide_eq_true_eq, decide_eq_false_iff_not, beq_iff_eq, beq_eq_false_iff_ne, bne_iff_ne, bne_eq_false_iff_eq, Bool.and_eq_true, Bool.or_eq_true, Bool.or_eq_false_iff, Bool.not_eq_true', Bool.not_eq_false', Bool.and_eq_false_imp, ne_eq, gt_iff_lt, ge_iff_le, Int.not_lt, Int.not_le, Classical.not_not] at h1
    refine Cd.skip ?_
    refine thenN ?_
    refine Cd.block ?_
    refine Cd.rr [0, 1, 4, 5, 6] fun K hK => ?_
    simp (maxSteps := 2000000) (disch := first | (simp only [E4] <;> omega) | omega | fail) only [↓E2, E3, bare, bareJ, ↓E0, E1, env0, envN, evOps, evOp, evQs, evQ, evV, setD, pureOp, ev, upd, updL, binW, eqOp, binV, intOp, shOp, boolOp, hav, delB, eqL, SameI, strOp, ↓reduceIte, Zj, Zk, Nat.reduceAdd, Nat.reduceLT, Nat.reduceEqDiff, Nat.reduceMul, Nat.reduceLeDiff, if_true, Zn, reduceCtorEq, ZA, eq_self, Int.reduceLE, Int.reduceLT, Int.reduceToNat, ne_eq, Nat.reduceSub]
    repeat refine And.intro (by omega) ?_
    repeat refine And.intro (by omega) ?_
    intro g
    simp only [List.map_cons, List.map_nil, updL, upd, Nat.reduceEqDiff, if_true, if_false, ↓reduceIte]
    refine hK _ _ ?_; clear hK K
    refine inBN ?_
    have e0 : ((t : Int) - 1) = ((t - 1 : Nat) : Int) := by omega
    rw [e0]
    refine roundN (m := t - 1) (by omega) ⟨_, by omega, ?_, rfl, rfl⟩
    rw [← he]
    have := trEnd_zero h1.2
    rw [show t - 1 + 1 = t by omega] at this
    exact this.symm
  · have hE : trE l = t := by
      rw [← he]
      rcases Nat.eq_zero_or_pos t with h0 | h0
      · subst h0; rfl
      · have hne : ¬ l.getD (t - 1) 0 = 0 := fun e => by
          rw [e, decide_eq_true (by omega)] at h1
          cases h1
        have := trEnd_one hne
        rw [show t - 1 + 1 = t by omega] at this
        exact this
    clear h1 he
    refine Cd.exit (thenX (roundX (inBX ?_)))
    refine thenN ?_
    refine Cd.seq ?_
    refine Cd.block ?_
    refine Cd.loop (fun d ρ M => ∃ g, d ≤ t ∧ trBeg l t d = trF l ∧ ρ = updL [(0, .int .i64 low), (1, .slice a l.length cap), (4, .pointer (some ⟨b1, 0, none⟩)), (5, .int .i64 ((t - d : Nat) : Int)), (6, .int .i64 (t : Int))] g ∧ M = [(b1, [.int .i64 0, .slice none 0 0])]) t ⟨_, Nat.le_refl _, by unfold trF; rw [hE], by rw [Nat.sub_self]; rfl, rfl⟩ ?_
    rintro d ρ M ⟨g, hd, he, rfl, rfl⟩
    refine Cd.seq ?_
    refine Cd.rs [0, 1, 4, 5, 6, 30] fun K hK => ?_
    simp (maxSteps := 2000000) (disch := first | (simp only [E4] <;> omega) | omega | fail) only [↓E2, E3, bare, bareJ, ↓E0, E1, env0, envN, evOps, evOp, evQs, evQ, evV, setD, pureOp, ev, upd, updL, gate, binW, eqOp, binV, intOp, shOp, boolOp, indexAddrV, cellAt, cellsAt, findB, hav, delB, eqL, SameI, strOp, ↓reduceIte, Zj, Zk, Nat.reduceAdd, Nat.reduceLT, Nat.reduceEqDiff, Nat.reduceMul, Nat.reduceLeDiff, if_true, Zn, reduceCtorEq, ZA, eq_self, Int.reduceLE, Int.reduceLT, Int.reduceToNat, ne_eq, Nat.reduceSub, Tld2, Tslc31]
    repeat refine And.intro (by omega) ?_
    apply guardX_and 5 [25, 26, 27, 28, 29] (j := 3) (d := 24) (tp := 30) (tl := 29) (x := l.getD (t - d) 0 == 0) rfl rfl rfl rfl rfl
    · intro hq
      simp only [decide_eq_true_eq, decide_eq_false_iff_not, beq_iff_eq, beq_eq_false_iff_ne, bne_iff_ne, bne_eq_false_iff_eq, Bool.and_eq_true, Bool.or_eq_true, Bool.or_eq_false_iff, Bool.not_eq_true', Bool.not_eq_false', Bool.and_eq_false_imp, ne_eq, gt_iff_lt, ge_iff_le, Int.not_lt, Int.not_le, Classical.not_not] at hq
      obtain ⟨b, rfl, q1⟩ := rd_int h hR (k := t - d) (by omega)
      have n1 := told_ne hb1 q1
      skip
      simp (maxSteps := 2000000) (disch := first | (simp only [E4, q1] <;> omega) | omega | fail) only [↓E2, E3, bare, bareJ, ↓E0, E1, env0, envN, evOps, evOp, evQs, evQ, evV, setD, pureOp, ev, upd, updL, gate, binW, eqOp, binV, intOp, shOp, boolOp, indexAddrV, cellAt, cellsAt, findB, hav, delB, eqL, SameI, strOp, ↓reduceIte, Zj, Zk, Nat.reduceAdd, Nat.reduceLT, Nat.reduceEqDiff, Nat.reduceMul, Nat.reduceLeDiff, if_true, Zn, reduceCtorEq, ZA, eq_self, Int.reduceLE, Int.reduceLT, Int.reduceToNat, ne_eq, Nat.reduceSub, Tld2, Tslc31, q1, n1]
      repeat refine And.intro (by omega) ?_
      first | omega | exact rfl
    intro g
    simp (maxSteps := 2000000) (disch := first | (simp only [E4] <;> omega) | omega | fail) only [↓E2, E3, bare, bareJ, ↓E0, E1, env0, envN, evOps, evOp, evQs, evQ, evV, setD, pureOp, ev, upd, updL, gate, binW, eqOp, binV, intOp, shOp, boolOp, indexAddrV, cellAt, cellsAt, findB, hav, delB, eqL, SameI, strOp, ↓reduceIte, Zj, Zk, Nat.reduceAdd, Nat.reduceLT, Nat.reduceEqDiff, Nat.reduceMul, Nat.reduceLeDiff, if_true, Zn, reduceCtorEq, ZA, eq_self, Int.reduceLE, Int.reduceLT, Int.reduceToNat, ne_eq, Nat.reduceSub, Tld2, Tslc31]
    repeat refine And.intro (by omega) ?_
    repeat refine And.intro (by omega) ?_
    intro g
    simp only [List.map_cons, List.map_nil, updL, upd, Nat.reduceEqDiff, if_true, if_false, ↓reduceIte]
    refine hK _ _ ?_; clear hK K
    refine Cd.cond rfl (fun h1 => ?_) (fun h1 => ?_)
    · simp only [decide_eq_true_eq, decide_eq_false_iff_not, beq_iff_eq, beq_eq_false_iff_ne, bne_iff_ne, bne_eq_false_iff_eq, Bool.and_eq_true, Bool.or_eq_true, Bool.or_eq_false_iff, Bool.not_eq_true', Bool.not_eq_false', Bool.and_eq_false_imp, ne_eq, gt_iff_lt, ge_iff_le, Int.not_lt, Int.not_le, Classical.not_not] at h1
      refine Cd.skip ?_
      refine thenN ?_
      refine Cd.block ?_
      refine Cd.rr [0, 1, 4, 5, 6] fun K hK => ?_
      simp (maxSteps := 2000000) (disch := first | (simp only [E4] <;> omega) | omega | fail) only [↓E2, E3, bare, bareJ, ↓E0, E1, env0, envN, evOps, evOp, evQs, evQ, evV, setD, pureOp, ev, upd, updL, binW, eqOp, binV, intOp, shOp, boolOp, hav, delB, eqL, SameI, strOp, ↓reduceIte, Zj, Zk, Nat.reduceAdd, Nat.reduceLT, Nat.reduceEqDiff, Nat.reduceMul, Nat.reduceLeDiff, if_true, Zn, reduceCtorEq, ZA, eq_self, Int.reduceLE, Int.reduceLT, Int.reduceToNat, ne_eq, Nat.reduceSub]
      repeat refine And.intro (by omega) ?_
      repeat refine And.intro (by omega) ?_
      intro g
      simp only [List.map_cons, List.map_nil, updL, upd, Nat.reduceEqDiff, if_true, if_false, ↓reduceIte]
      refine hK _ _ ?_; clear hK K
      refine inBN ?_
      have e0 : ((t - d : Nat) : Int) + 1 = ((t - (d - 1) : Nat) : Int) := by omega
      rw [e0]
      refine roundN (m := d - 1) (by omega) ⟨_, by omega, ?_, rfl, rfl⟩
      rw [← he]
      have := trBeg_zero (t := t) (d := d - 1) (l := l) (by rw [show t - (d - 1 + 1) = t - d by omega]; exact h1.2)
      rw [show d - 1 + 1 = d by omega] at this
      exact this.symm
    · have hF : trF l = t - d := by
        rw [← he]
        rcases Nat.eq_zero_or_pos d with h0 | h0
        · subst h0; rfl
        · have hne : ¬ l.getD (t - d) 0 = 0 := fun e => by
            rw [e, decide_eq_true (by omega)] at h1
            cases h1
          have := trBeg_one (t := t) (d := d - 1) (l := l) (by rw [show t - (d - 1 + 1) = t - d by omega]; exact hne)
          rw [show d - 1 + 1 = d by omega] at this
          exact this
      clear h1 he
      refine Cd.exit (thenX (roundX (inBX ?_)))
      refine thenN ?_
      refine Cd.seq ?_
      refine Cd.rs [0, 1, 4, 5, 6, 35] fun K hK => ?_
      simp (maxSteps := 2000000) (disch := first | (simp only [E4] <;> omega) | omega | fail) only [↓E2, E3, bare, bareJ, ↓E0, E1, env0, envN, evOps, evOp, evQs, evQ, evV, setD, pureOp, ev, upd, updL, binW, eqOp, binV, intOp, shOp, boolOp, hav, delB, eqL, SameI, strOp, ↓reduceIte, Zj, Zk, Nat.reduceAdd, Nat.reduceLT, Nat.reduceEqDiff, Nat.reduceMul, Nat.reduceLeDiff, if_true, Zn, reduceCtorEq, ZA, eq_self, Int.reduceLE, Int.reduceLT, Int.reduceToNat, ne_eq, Nat.reduceSub]
      repeat refine And.intro (by omega) ?_
      repeat refine And.intro (by omega) ?_
      intro g
      simp only [List.map_cons, List.map_nil, updL, upd, Nat.reduceEqDiff, if_true, if_false, ↓reduceIte]
      refine hK _ _ ?_; clear hK K
      refine Cd.cond rfl (fun h2 => ?_) (fun h2 => ?_)
      · simp only [decide_eq_true_eq, decide_eq_false_iff_not, beq_iff_eq, beq_eq_false_iff_ne, bne_iff_ne, bne_eq_false_iff_eq, Bool.and_eq_true, Bool.or_eq_true, Bool.or_eq_false_iff, Bool.not_eq_true', Bool.not_eq_false', Bool.and_eq_false_imp, ne_eq, gt_iff_lt, ge_iff_le, Int.not_lt, Int.not_le, Classical.not_not] at h2
        have ez : trF l = trE l := by omega
        refine Cd.rs [4] fun K hK => ?_
        simp (maxSteps := 2000000) (disch := first | (simp only [E4] <;> omega) | omega | fail) only [↓E2, E3, bare, bareJ, ↓E0, E1, evP, env0, envN, evOps, evOp, evQs, evQ, evV, setD, pureOp, ev, upd, updL, cellAt, cellsAt, findB, setB, fillL, buildV, Value.cells, hav, delB, ↓reduceIte, Zj, Zk, Nat.reduceAdd, Nat.reduceLT, Nat.reduceEqDiff, Nat.reduceMul, Nat.reduceLeDiff, if_true, Zn, reduceCtorEq, ZA, eq_self, Int.reduceLE, Int.reduceLT, Int.reduceToNat, ne_eq, Nat.reduceSub, Tbld35, Tst35]
        repeat refine And.intro (by omega) ?_
        repeat refine And.intro (by omega) ?_
        intro g
        simp only [List.map_cons, List.map_nil, updL, upd, Nat.reduceEqDiff, if_true, if_false, ↓reduceIte]
        refine hK _ _ ?_; clear hK K
        refine Cd.ret (thenR ?_)
        simp (maxSteps := 2000000) (disch := first | (simp only [E4] <;> omega) | omega | fail) only [↓E2, E3, bare, bareJ, ↓E0, E1, evP, evPlan, env0, envN, evOps, evOp, evQs, evQ, evV, setD, pureOp, ev, upd, updL, gate, binW, eqOp, binV, intOp, shOp, boolOp, unV, convV, nilV, fieldAddrV, indexAddrV, extractV, cellAt, cellsAt, findB, setB, fillL, buildV, Value.cells, lenV, minV, maxV, hav, sliceV, loV, hiV, bslQ, mksQ, appQ, partsOk, partsCells, delB, eqL, SameI, strOp, apzQ, cvtQ, capV, ↓reduceIte, Zj, Zk, Nat.reduceAdd, Nat.reduceLT, Nat.reduceEqDiff, Nat.reduceMul, Nat.reduceLeDiff, if_true, Zn, reduceCtorEq, ZA, eq_self, Int.reduceLE, Int.reduceLT, Int.reduceToNat, ne_eq, Nat.reduceSub, Tld35]
        repeat refine And.intro (by omega) ?_
        refine ⟨[], SubP.of (List.nil_sublist _), .slice none 0 0, ?_, ?_⟩
        · unfold trimLow; rw [if_pos ez]
        · unfold trimL; rw [if_pos ez]; exact SlN.nil 1
      · simp only [decide_eq_true_eq, decide_eq_false_iff_not, beq_iff_eq, beq_eq_false_iff_ne, bne_iff_ne, bne_eq_false_iff_eq, Bool.and_eq_true, Bool.or_eq_true, Bool.or_eq_false_iff, Bool.not_eq_true', Bool.not_eq_false', Bool.and_eq_false_imp, ne_eq, gt_iff_lt, ge_iff_le, Int.not_lt, Int.not_le, Classical.not_not] at h2
        have ez : ¬ trF l = trE l := by omega
        have h3 : t ≤ l.length := ht
        obtain ⟨b, rfl, q1⟩ := rd_int h hR (k := 0) (by omega)
        have hcap : l.length ≤ cap := by obtain ⟨_, _, _, e, _, _, _, hc⟩ := h; cases e; exact hc
        have ec : (cap = t - d) = False := eq_false (by omega)
        have n1 := told_ne hb1 q1
        have eL : trimL l = (l.drop (t - d)).take (t - (t - d)) := by unfold trimL; rw [if_neg ez, hE, hF]
        have eW : trimLow low l = low + ((t - d : Nat) : Int) := by unfold trimLow; rw [if_neg ez, hF]
        have tp := told_part (f := t - d) (n := t - (t - d)) h hR (by omega)
        rw [← eL] at tp
        have tlen := trimL_len l
        rw [hE, hF] at tlen
        have hO : RdO [(b, t - d, ints .i64 (trimL l))] (trimL l) (.slice (some ⟨b, t - d, none⟩) (t - (t - d)) (cap - (t - d))) := .inr ⟨b, t - d, cap - (t - d), by rw [tlen], fun e => by rw [e] at tlen; simp at tlen; omega, fun _ => List.mem_singleton.2 rfl⟩
        refine Cd.skip ?_
        refine thenN ?_
        skip
        refine Cd.rs [4] fun K hK => ?_
        simp (maxSteps := 2000000) (disch := first | (simp only [E4, ec] <;> omega) | omega | fail) only [↓E2, E3, bare, bareJ, ↓E0, E1, evP, env0, envN, evOps, evOp, evQs, evQ, evV, setD, pureOp, ev, upd, updL, binW, eqOp, binV, intOp, shOp, boolOp, cellAt, cellsAt, findB, setB, fillL, buildV, Value.cells, hav, sliceV, loV, hiV, delB, eqL, SameI, strOp, ↓reduceIte, Zj, Zk, Nat.reduceAdd, Nat.reduceLT, Nat.reduceEqDiff, Nat.reduceMul, Nat.reduceLeDiff, if_true, Zn, reduceCtorEq, ZA, eq_self, Int.reduceLE, Int.reduceLT, Int.reduceToNat, ne_eq, Nat.reduceSub, Tbld35, Tslc31, Tst35, ec]
        repeat refine And.intro (by omega) ?_
        refine callK_newR0 (l01Own_c _ _ _ hO (by rw [tlen]; omega)) (Told.toldW tp) ?_
        intro v5 M5 hv5 _ _
        obtain ⟨a5, m5, c5, rfl⟩ := hv5.form
        simp only [List.cons_append, List.nil_append]
        simp (maxSteps := 2000000) (disch := first | (simp only [E4, ec] <;> omega) | omega | fail) only [↓E2, E3, bare, bareJ, ↓E0, E1, evP, env0, envN, evOps, evOp, evQs, evQ, evV, setD, pureOp, ev, upd, updL, binW, eqOp, binV, intOp, shOp, boolOp, cellAt, cellsAt, findB, setB, fillL, buildV, Value.cells, hav, sliceV, loV, hiV, delB, eqL, SameI, strOp, ↓reduceIte, Zj, Zk, Nat.reduceAdd, Nat.reduceLT, Nat.reduceEqDiff, Nat.reduceMul, Nat.reduceLeDiff, if_true, Zn, reduceCtorEq, ZA, eq_self, Int.reduceLE, Int.reduceLT, Int.reduceToNat, ne_eq, Nat.reduceSub, Tbld35, Tslc31, Tst35, ec]
        repeat refine And.intro (by omega) ?_
        repeat refine And.intro (by omega) ?_
        intro g
        simp only [List.map_cons, List.map_nil, updL, upd, Nat.reduceEqDiff, if_true, if_false, ↓reduceIte]
        refine hK _ _ ?_; clear hK K
        refine Cd.ret ?_
        simp (maxSteps := 2000000) (disch := first | (simp only [E4, ec] <;> omega) | omega | fail) only [↓E2, E3, bare, bareJ, ↓E0, E1, evP, evPlan, env0, envN, evOps, evOp, evQs, evQ, evV, setD, pureOp, ev, upd, updL, gate, binW, eqOp, binV, intOp, shOp, boolOp, unV, convV, nilV, fieldAddrV, indexAddrV, extractV, cellAt, cellsAt, findB, setB, fillL, buildV, Value.cells, lenV, minV, maxV, hav, sliceV, loV, hiV, bslQ, mksQ, appQ, partsOk, partsCells, delB, eqL, SameI, strOp, apzQ, cvtQ, capV, ↓reduceIte, Zj, Zk, Nat.reduceAdd, Nat.reduceLT, Nat.reduceEqDiff, Nat.reduceMul, Nat.reduceLeDiff, if_true, Zn, reduceCtorEq, ZA, eq_self, Int.reduceLE, Int.reduceLT, Int.reduceToNat, ne_eq, Nat.reduceSub, Tld35, ec]
        repeat refine And.intro (by omega) ?_
        refine ⟨M5, SubP.of (List.Sublist.cons _ (List.Sublist.refl _)), _, ?_, hv5⟩
        rw [eW]

theorem trimmed_c : GivesX Try.prog 54 #[.int .i64 low, v] [] R (LauV (trimLow low l) (trimL l)) := by
  obtain ⟨a, m, cap, rfl, hm, _, _, hcap⟩ := id h
  obtain rfl := lauLen hm
  refine GivesX.part ?_
  refine GivesX.of (callable_of Try.func54 rfl (by decide)) ?_ fun w hnd hlt hR => ?_
  · simp
  refine acall_of (N := 43) (c := _) (rs := [.cell 4 35]) (args := [_, _]) Try.func54 rfl (by decide) rfl rfl (Nat.le_of_ble_eq_true rfl) ?_
  have hR : W8.Told [] w R := hR
  refine Cd.rs [0, 1, 4] fun K hK => ?_
  simp (maxSteps := 2000000) (disch := first | (simp only [E4] <;> omega) | omega | fail) only [↓E2, E3, bare, bareJ, ↓E0, E1, env0, envN, evOps, evOp, evQs, evQ, evV, setD, pureOp, ev, upd, updL, Value.cells, hav, delB, ↓reduceIte, Zj, Zk, Nat.reduceAdd, Nat.reduceLT, Nat.reduceEqDiff, Nat.reduceMul, Nat.reduceLeDiff, if_true, Zn, reduceCtorEq, ZA, eq_self, Int.reduceLE, Int.reduceLT, Int.reduceToNat, ne_eq, Nat.reduceSub, Tzero35]
  repeat refine And.intro (by omega) ?_
  intro b1 hb1
  try simp (maxSteps := 2000000) (disch := first | (simp only [E4] <;> omega) | omega | fail) only [↓E2, E3, bare, bareJ, ↓E0, E1, env0, envN, evOps, evOp, evQs, evQ, evV, setD, pureOp, ev, upd, updL, Value.cells, hav, delB, ↓reduceIte, Zj, Zk, Nat.reduceAdd, Nat.reduceLT, Nat.reduceEqDiff, Nat.reduceMul, Nat.reduceLeDiff, if_true, Zn, reduceCtorEq, ZA, eq_self, Int.reduceLE, Int.reduceLT, Int.reduceToNat, ne_eq, Nat.reduceSub, Tzero35]
  repeat refine And.intro (by omega) ?_
  repeat refine And.intro (by omega) ?_
  intro g
  simp only [List.map_cons, List.map_nil, updL, upd, Nat.reduceEqDiff, if_true, if_false, ↓reduceIte]
  refine hK _ _ ?_; clear hK K
  refine Cd.seq ?_
  refine Cd.block ?_
  refine Cd.loop (fun t ρ M => ∃ g, t ≤ l.length ∧ trEnd l t = trE l ∧ ρ = updL [(0, .int .i64 low), (1, .slice a t cap), (4, .pointer (some ⟨b1, 0, none⟩))] g ∧ M = [(b1, [.int .i64 0, .slice none 0 0])]) l.length ⟨_, Nat.le_refl _, rfl, rfl, rfl⟩ ?_
  rintro t ρ M ⟨g, ht, he, rfl, rfl⟩
  refine Cd.seq ?_
  refine Cd.rs [0, 1, 4, 16] fun K hK => ?_
  simp (maxSteps := 2000000) (disch := first | (simp only [E4] <;> omega) | omega | fail) only [↓E2, E3, bare, bareJ, ↓E0, E1, env0, envN, evOps, evOp, evQs, evQ, evV, setD, pureOp, ev, upd, updL, gate, binW, eqOp, binV, intOp, shOp, boolOp, indexAddrV, cellAt, cellsAt, findB, lenV, hav, delB, eqL, SameI, strOp, ↓reduceIte, Zj, Zk, Nat.reduceAdd, Nat.reduceLT, Nat.reduceEqDiff, Nat.reduceMul, Nat.reduceLeDiff, if_true, Zn, reduceCtorEq, ZA, eq_self, Int.reduceLE, Int.reduceLT, Int.reduceToNat, ne_eq, Nat.reduceSub, Tld2, Tslc31, Tslce31]
  repeat refine And.intro (by omega) ?_
  apply guardX_and 7 [9, 10, 11, 12, 13, 14, 15] (j := 3) (d := 8) (tp := 16) (tl := 15) (x := l.getD (t - 1) 0 == 0) rfl rfl rfl rfl rfl
  · intro hq
    simp only [decide_eq_true_eq, decide_eq_false_iff_not, beq_iff_eq, beq_eq_false_iff_ne, bne_iff_ne, bne_eq_false_iff_eq, Bool.and_eq_true, Bool.or_eq_true, Bool.or_eq_false_iff, Bool.not_eq_true', Bool.not_eq_false', Bool.and_eq_false_imp, ne_eq, gt_iff_lt, ge_iff_le, Int.not_lt, Int.not_le, Classical.not_not] at hq
    obtain ⟨b, rfl, q1⟩ := rd_int h hR (k := t - 1) (by omega)
    have n1 := told_ne hb1 q1
    have e1 : ((t : Int) - 1).toNat = t - 1 := by omega
    skip
    simp (maxSteps := 2000000) (disch := first | (simp only [E4, q1, e1] <;> omega) | omega | fail) only [↓E2, E3, bare, bareJ, ↓E0, E1, env0, envN, evOps, evOp, evQs, evQ, evV, setD, pureOp, ev, upd, updL, gate, binW, eqOp, binV, intOp, shOp, boolOp, indexAddrV, cellAt, cellsAt, findB, lenV, hav, delB, eqL, SameI, strOp, ↓reduceIte, Zj, Zk, Nat.reduceAdd, Nat.reduceLT, Nat.reduceEqDiff, Nat.reduceMul, Nat.reduceLeDiff, if_true, Zn, reduceCtorEq, ZA, eq_self, Int.reduceLE, Int.reduceLT, Int.reduceToNat, ne_eq, Nat.reduceSub, Tld2, Tslc31, Tslce31, q1, n1, e1]
    repeat refine And.intro (by omega) ?_
    first | omega | exact rfl
  intro g
  simp (maxSteps := 2000000) (disch := first | (simp only [E4] <;> omega) | omega | fail) only [↓E2, E3, bare, bareJ, ↓E0, E1, env0, envN, evOps, evOp, evQs, evQ, evV, setD, pureOp, ev, upd, updL, gate, binW, eqOp, binV, intOp, shOp, boolOp, indexAddrV, cellAt, cellsAt, findB, lenV, hav, delB, eqL, SameI, strOp, ↓reduceIte, Zj, Zk, Nat.reduceAdd, Nat.reduceLT, Nat.reduceEqDiff, Nat.reduceMul, Nat.reduceLeDiff, if_true, Zn, reduceCtorEq, ZA, eq_self, Int.reduceLE, Int.reduceLT, Int.reduceToNat, ne_eq, Nat.reduceSub, Tld2, Tslc31, Tslce31]
  repeat refine And.intro (by omega) ?_
  repeat refine And.intro (by omega) ?_
  intro g
  simp only [List.map_cons, List.map_nil, updL, upd, Nat.reduceEqDiff, if_true, if_false, ↓reduceIte]
  refine hK _ _ ?_; clear hK K
  refine Cd.cond rfl (fun h1 => ?_) (fun h1 => ?_)
  · simp only [decide_eq_true_eq, decide_eq_false_iff_not, beq_iff_eq, beq_eq_false_iff_ne, bne_iff_ne, bne_eq_false_iff_eq, Bool.and_eq_true, Bool.or_eq_true, Bool.or_eq_false_iff, Bool.not_eq_true', Bool.not_eq_false', Bool.and_eq_false_imp, ne_eq, gt_iff_lt, ge_iff_le, Int.not_lt, Int.not_le, Classical.not_not] at h1
    obtain ⟨b, rfl, q1⟩ := rd_int h hR (k := t - 1) (by omega)
    have ec : (cap = 0) = False := eq_false (by omega)
    have e1 : ((t : Int) - 1).toNat = t - 1 := by omega
    skip
    refine Cd.skip ?_
    refine thenN ?_
    refine Cd.block ?_
    refine Cd.rr [0, 1, 4] fun K hK => ?_
    simp (maxSteps := 2000000) (disch := first | (simp only [E4, ec, e1] <;> omega) | omega | fail) only [↓E2, E3, bare, bareJ, ↓E0, E1, env0, envN, evOps, evOp, evQs, evQ, evV, setD, pureOp, ev, upd, updL, binW, eqOp, binV, intOp, shOp, boolOp, lenV, hav, sliceV, loV, hiV, delB, eqL, SameI, strOp, ↓reduceIte, Zj, Zk, Nat.reduceAdd, Nat.reduceLT, Nat.reduceEqDiff, Nat.reduceMul, Nat.reduceLeDiff, if_true, Zn, reduceCtorEq, ZA, eq_self, Int.reduceLE, Int.reduceLT, Int.reduceToNat, ne_eq, Nat.reduceSub, Tslc31, Tslce31, ec, e1]
    repeat refine And.intro (by omega) ?_
    repeat refine And.intro (by omega) ?_
    intro g
    simp only [List.map_cons, List.map_nil, updL, upd, Nat.reduceEqDiff, if_true, if_false, ↓reduceIte]
    refine hK _ _ ?_; clear hK K
    refine inBN ?_
    refine roundN (m := t - 1) (by omega) ⟨_, by omega, ?_, rfl, rfl⟩
    rw [← he]
    have := trEnd_zero h1.2
    rw [show t - 1 + 1 = t by omega] at this
    exact this.symm
  · have hE : trE l = t := by
      rw [← he]
      rcases Nat.eq_zero_or_pos t with h0 | h0
      · subst h0; rfl
      · have hne : ¬ l.getD (t - 1) 0 = 0 := fun e => by
          rw [e, decide_eq_true (by omega)] at h1
          cases h1
        have := trEnd_one hne
        rw [show t - 1 + 1 = t by omega] at this
        exact this
    clear h1 he
    refine Cd.exit (thenX (roundX (inBX ?_)))
    refine thenN ?_
    refine Cd.seq ?_
    refine Cd.block ?_
    refine Cd.loop (fun d ρ M => ∃ g a' c', d ≤ t ∧ trBeg l t d = trF l ∧ d ≤ c' ∧ (d ≠ 0 → ∀ b, a = some ⟨b, 0, none⟩ → a' = some ⟨b, t - d, none⟩) ∧ ρ = updL [(0, .int .i64 (low + ((t - d : Nat) : Int))), (1, .slice a' d c'), (4, .pointer (some ⟨b1, 0, none⟩))] g ∧ M = [(b1, [.int .i64 0, .slice none 0 0])]) t ⟨_, a, cap, Nat.le_refl _, by unfold trF; rw [hE], by omega, fun _ b e => by rw [e, Nat.sub_self], norm_of ⟨show Value.int .i64 low = _ from congrArg (Value.int .i64) (by omega), rfl, rfl, trivial⟩, rfl⟩ ?_
    rintro d ρ M ⟨g, a', c', hd, he, hdc, haa, rfl, rfl⟩
    refine Cd.seq ?_
    refine Cd.rs [0, 1, 4, 30] fun K hK => ?_
    simp (maxSteps := 2000000) (disch := first | (simp only [E4] <;> omega) | omega | fail) only [↓E2, E3, bare, bareJ, ↓E0, E1, env0, envN, evOps, evOp, evQs, evQ, evV, setD, pureOp, ev, upd, updL, gate, binW, eqOp, binV, intOp, shOp, boolOp, indexAddrV, cellAt, cellsAt, findB, lenV, hav, delB, eqL, SameI, strOp, ↓reduceIte, Zj, Zk, Nat.reduceAdd, Nat.reduceLT, Nat.reduceEqDiff, Nat.reduceMul, Nat.reduceLeDiff, if_true, Zn, reduceCtorEq, ZA, eq_self, Int.reduceLE, Int.reduceLT, Int.reduceToNat, ne_eq, Nat.reduceSub, Tld2, Tslc31, Tslce31]
    repeat refine And.intro (by omega) ?_
    apply guardX_and 4 [26, 27, 28, 29] (j := 3) (d := 25) (tp := 30) (tl := 29) (x := l.getD (t - d) 0 == 0) rfl rfl rfl rfl rfl
    · intro hq
      simp only [decide_eq_true_eq, decide_eq_false_iff_not, beq_iff_eq, beq_eq_false_iff_ne, bne_iff_ne, bne_eq_false_iff_eq, Bool.and_eq_true, Bool.or_eq_true, Bool.or_eq_false_iff, Bool.not_eq_true', Bool.not_eq_false', Bool.and_eq_false_imp, ne_eq, gt_iff_lt, ge_iff_le, Int.not_lt, Int.not_le, Classical.not_not] at hq
      obtain ⟨b, rfl, q1⟩ := rd_int h hR (k := t - d) (by omega)
      obtain rfl := haa (by omega) b rfl
      have n1 := told_ne hb1 q1
      skip
      simp (maxSteps := 2000000) (disch := first | (simp only [E4, q1] <;> omega) | omega | fail) only [↓E2, E3, bare, bareJ, ↓E0, E1, env0, envN, evOps, evOp, evQs, evQ, evV, setD, pureOp, ev, upd, updL, gate, binW, eqOp, binV, intOp, shOp, boolOp, indexAddrV, cellAt, cellsAt, findB, lenV, hav, delB, eqL, SameI, strOp, ↓reduceIte, Zj, Zk, Nat.reduceAdd, Nat.reduceLT, Nat.reduceEqDiff, Nat.reduceMul, Nat.reduceLeDiff, if_true, Zn, reduceCtorEq, ZA, eq_self, Int.reduceLE, Int.reduceLT, Int.reduceToNat, ne_eq, Nat.reduceSub, Tld2, Tslc31, Tslce31, q1, n1]
      repeat refine And.intro (by omega) ?_
      first | omega | exact rfl
    intro g
    simp (maxSteps := 2000000) (disch := first | (simp only [E4] <;> omega) | omega | fail) only [↓E2, E3, bare, bareJ, ↓E0, E1, env0, envN, evOps, evOp, evQs, evQ, evV, setD, pureOp, ev, upd, updL, gate, binW, eqOp, binV, intOp, shOp, boolOp, indexAddrV, cellAt, cellsAt, findB, lenV, hav, delB, eqL, SameI, strOp, ↓reduceIte, Zj, Zk, Nat.reduceAdd, Nat.reduceLT, Nat.reduceEqDiff, Nat.reduceMul, Nat.reduceLeDiff, if_true, Zn, reduceCtorEq, ZA, eq_self, Int.reduceLE, Int.reduceLT, Int.reduceToNat, ne_eq, Nat.reduceSub, Tld2, Tslc31, Tslce31]
    repeat refine And.intro (by omega) ?_
    repeat refine And.intro (by omega) ?_
    intro g
    simp only [List.map_cons, List.map_nil, updL, upd, Nat.reduceEqDiff, if_true, if_false, ↓reduceIte]
    refine hK _ _ ?_; clear hK K
    refine Cd.cond rfl (fun h1 => ?_) (fun h1 => ?_)
    · simp only [decide_eq_true_eq, decide_eq_false_iff_not, beq_iff_eq, beq_eq_false_iff_ne, bne_iff_ne, bne_eq_false_iff_eq, Bool.and_eq_true, Bool.or_eq_true, Bool.or_eq_false_iff, Bool.not_eq_true', Bool.not_eq_false', Bool.and_eq_false_imp, ne_eq, gt_iff_lt, ge_iff_le, Int.not_lt, Int.not_le, Classical.not_not] at h1
      obtain ⟨b, rfl, q1⟩ := rd_int h hR (k := t - d) (by omega)
      obtain rfl := haa (by omega) b rfl
      refine Cd.skip ?_
      refine thenN ?_
      refine Cd.block ?_
      refine Cd.rs [0, 1, 4] fun K hK => ?_
      simp (maxSteps := 2000000) (disch := first | (simp only [E4] <;> omega) | omega | fail) only [↓E2, E3, bare, bareJ, ↓E0, E1, env0, envN, evOps, evOp, evQs, evQ, evV, setD, pureOp, ev, upd, updL, hav, sliceV, loV, hiV, delB, ↓reduceIte, Zj, Zk, Nat.reduceAdd, Nat.reduceLT, Nat.reduceEqDiff, Nat.reduceMul, Nat.reduceLeDiff, if_true, Zn, reduceCtorEq, ZA, eq_self, Int.reduceLE, Int.reduceLT, Int.reduceToNat, ne_eq, Nat.reduceSub, Tslc31]
      repeat refine And.intro (by omega) ?_
      repeat refine And.intro (by omega) ?_
      intro g
      simp only [List.map_cons, List.map_nil, updL, upd, Nat.reduceEqDiff, if_true, if_false, ↓reduceIte]
      refine hK _ _ ?_; clear hK K
      refine Cd.rr [0, 1, 4] fun K hK => ?_
      simp (maxSteps := 2000000) (disch := first | (simp only [E4] <;> omega) | omega | fail) only [↓E2, E3, bare, bareJ, ↓E0, E1, env0, envN, evOps, evOp, evQs, evQ, evV, setD, pureOp, ev, upd, updL, binW, eqOp, binV, intOp, shOp, boolOp, hav, delB, eqL, SameI, strOp, ↓reduceIte, Zj, Zk, Nat.reduceAdd, Nat.reduceLT, Nat.reduceEqDiff, Nat.reduceMul, Nat.reduceLeDiff, if_true, Zn, reduceCtorEq, ZA, eq_self, Int.reduceLE, Int.reduceLT, Int.reduceToNat, ne_eq, Nat.reduceSub]
      repeat refine And.intro (by omega) ?_
      repeat refine And.intro (by omega) ?_
      intro g
      simp only [List.map_cons, List.map_nil, updL, upd, Nat.reduceEqDiff, if_true, if_false, ↓reduceIte]
      refine hK _ _ ?_; clear hK K
      refine inBN ?_
      have e0 : low + ((t - d : Nat) : Int) + 1 = low + ((t - (d - 1) : Nat) : Int) := by omega
      rw [e0]
      refine roundN (m := d - 1) (by omega) ⟨_, _, c' - 1, by omega, ?_, by omega, ?_, rfl, rfl⟩
      · rw [← he]
        have := trBeg_zero (t := t) (d := d - 1) (l := l) (by rw [show t - (d - 1 + 1) = t - d by omega]; exact h1.2)
        rw [show d - 1 + 1 = d by omega] at this
        exact this.symm
      · intro hd1 b2 e2
        cases e2
        rw [if_neg (by omega), show t - d + 1 = t - (d - 1) by omega]
    · have hF : trF l = t - d := by
        rw [← he]
        rcases Nat.eq_zero_or_pos d with h0 | h0
        · subst h0; rfl
        · have hne : ¬ l.getD (t - d) 0 = 0 := fun e => by
            rw [e, decide_eq_true (by omega)] at h1
            cases h1
          have := trBeg_one (t := t) (d := d - 1) (l := l) (by rw [show t - (d - 1 + 1) = t - d by omega]; exact hne)
          rw [show d - 1 + 1 = d by omega] at this
          exact this
      clear h1 he
      refine Cd.exit (thenX (roundX (inBX ?_)))
      refine thenN ?_
      refine Cd.seq ?_
      refine Cd.rs [0, 1, 4, 37] fun K hK => ?_
      simp (maxSteps := 2000000) (disch := first | (simp only [E4] <;> omega) | omega | fail) only [↓E2, E3, bare, bareJ, ↓E0, E1, env0, envN, evOps, evOp, evQs, evQ, evV, setD, pureOp, ev, upd, updL, binW, eqOp, binV, intOp, shOp, boolOp, lenV, hav, delB, eqL, SameI, strOp, ↓reduceIte, Zj, Zk, Nat.reduceAdd, Nat.reduceLT, Nat.reduceEqDiff, Nat.reduceMul, Nat.reduceLeDiff, if_true, Zn, reduceCtorEq, ZA, eq_self, Int.reduceLE, Int.reduceLT, Int.reduceToNat, ne_eq, Nat.reduceSub, Tslce31]
      repeat refine And.intro (by omega) ?_
      repeat refine And.intro (by omega) ?_
      intro g
      simp only [List.map_cons, List.map_nil, updL, upd, Nat.reduceEqDiff, if_true, if_false, ↓reduceIte]
      refine hK _ _ ?_; clear hK K
      refine Cd.cond rfl (fun h2 => ?_) (fun h2 => ?_)
      · simp only [decide_eq_true_eq, decide_eq_false_iff_not, beq_iff_eq, beq_eq_false_iff_ne, bne_iff_ne, bne_eq_false_iff_eq, Bool.and_eq_true, Bool.or_eq_true, Bool.or_eq_false_iff, Bool.not_eq_true', Bool.not_eq_false', Bool.and_eq_false_imp, ne_eq, gt_iff_lt, ge_iff_le, Int.not_lt, Int.not_le, Classical.not_not] at h2
        have ez : trF l = trE l := by omega
        refine Cd.rs [4] fun K hK => ?_
        simp (maxSteps := 2000000) (disch := first | (simp only [E4] <;> omega) | omega | fail) only [↓E2, E3, bare, bareJ, ↓E0, E1, evP, env0, envN, evOps, evOp, evQs, evQ, evV, setD, pureOp, ev, upd, updL, cellAt, cellsAt, findB, setB, fillL, buildV, Value.cells, hav, delB, ↓reduceIte, Zj, Zk, Nat.reduceAdd, Nat.reduceLT, Nat.reduceEqDiff, Nat.reduceMul, Nat.reduceLeDiff, if_true, Zn, reduceCtorEq, ZA, eq_self, Int.reduceLE, Int.reduceLT, Int.reduceToNat, ne_eq, Nat.reduceSub, Tbld35, Tst35]
        repeat refine And.intro (by omega) ?_
        repeat refine And.intro (by omega) ?_
        intro g
        simp only [List.map_cons, List.map_nil, updL, upd, Nat.reduceEqDiff, if_true, if_false, ↓reduceIte]
        refine hK _ _ ?_; clear hK K
        refine Cd.ret (thenR ?_)
        simp (maxSteps := 2000000) (disch := first | (simp only [E4] <;> omega) | omega | fail) only [↓E2, E3, bare, bareJ, ↓E0, E1, evP, evPlan, env0, envN, evOps, evOp, evQs, evQ, evV, setD, pureOp, ev, upd, updL, gate, binW, eqOp, binV, intOp, shOp, boolOp, unV, convV, nilV, fieldAddrV, indexAddrV, extractV, cellAt, cellsAt, findB, setB, fillL, buildV, Value.cells, lenV, minV, maxV, hav, sliceV, loV, hiV, bslQ, mksQ, appQ, partsOk, partsCells, delB, eqL, SameI, strOp, apzQ, cvtQ, capV, ↓reduceIte, Zj, Zk, Nat.reduceAdd, Nat.reduceLT, Nat.reduceEqDiff, Nat.reduceMul, Nat.reduceLeDiff, if_true, Zn, reduceCtorEq, ZA, eq_self, Int.reduceLE, Int.reduceLT, Int.reduceToNat, ne_eq, Nat.reduceSub, Tld35]
        repeat refine And.intro (by omega) ?_
        refine ⟨[], SubP.of (List.nil_sublist _), .slice none 0 0, ?_, ?_⟩
        · unfold trimLow; rw [if_pos ez]
        · unfold trimL; rw [if_pos ez]; exact SlN.nil 1
      · simp only [decide_eq_true_eq, decide_eq_false_iff_not, beq_iff_eq, beq_eq_false_iff_ne, bne_iff_ne, bne_eq_false_iff_eq, Bool.and_eq_true, Bool.or_eq_true, Bool.or_eq_false_iff, Bool.not_eq_true', Bool.not_eq_false', Bool.and_eq_false_imp, ne_eq, gt_iff_lt, ge_iff_le, Int.not_lt, Int.not_le, Classical.not_not] at h2
        have ez : ¬ trF l = trE l := by omega
        have h3 : t ≤ l.length := ht
        obtain ⟨b, rfl, q1⟩ := rd_int h hR (k := 0) (by omega)
        obtain rfl := haa (by omega) b rfl
        have n1 := told_ne hb1 q1
        have eL : trimL l = (l.drop (t - d)).take (t - (t - d)) := by unfold trimL; rw [if_neg ez, hE, hF]
        have eW : trimLow low l = low + ((t - d : Nat) : Int) := by unfold trimLow; rw [if_neg ez, hF]
        have tp := told_part (f := t - d) (n := t - (t - d)) h hR (by omega)
        rw [← eL] at tp
        have tlen := trimL_len l
        rw [hE, hF, show t - (t - d) = d by omega] at tlen
        have hO : RdO [(b, t - d, ints .i64 (trimL l))] (trimL l) (.slice (some ⟨b, t - d, none⟩) d c') := .inr ⟨b, t - d, c', by rw [tlen], fun e => by rw [e] at tlen; simp at tlen; omega, fun _ => List.mem_singleton.2 rfl⟩
        refine Cd.skip ?_
        refine thenN ?_
        refine Cd.rs [4] fun K hK => ?_
        simp (maxSteps := 2000000) (disch := first | (simp only [E4] <;> omega) | omega | fail) only [↓E2, E3, bare, bareJ, ↓E0, E1, evP, env0, envN, evOps, evOp, evQs, evQ, evV, setD, pureOp, ev, upd, updL, cellAt, cellsAt, findB, setB, fillL, buildV, Value.cells, hav, delB, ↓reduceIte, Zj, Zk, Nat.reduceAdd, Nat.reduceLT, Nat.reduceEqDiff, Nat.reduceMul, Nat.reduceLeDiff, if_true, Zn, reduceCtorEq, ZA, eq_self, Int.reduceLE, Int.reduceLT, Int.reduceToNat, ne_eq, Nat.reduceSub, Tbld35, Tst35]
        repeat refine And.intro (by omega) ?_
        refine callK_newR0 (Clone_c _ _ _ hO (by rw [tlen]; omega)) (Told.toldW tp) ?_
        intro v5 M5 hv5 _ _
        obtain ⟨a5, m5, c5, rfl⟩ := hv5.form
        simp only [List.cons_append, List.nil_append]
        simp (maxSteps := 2000000) (disch := first | (simp only [E4] <;> omega) | omega | fail) only [↓E2, E3, bare, bareJ, ↓E0, E1, evP, env0, envN, evOps, evOp, evQs, evQ, evV, setD, pureOp, ev, upd, updL, cellAt, cellsAt, findB, setB, fillL, buildV, Value.cells, hav, delB, ↓reduceIte, Zj, Zk, Nat.reduceAdd, Nat.reduceLT, Nat.reduceEqDiff, Nat.reduceMul, Nat.reduceLeDiff, if_true, Zn, reduceCtorEq, ZA, eq_self, Int.reduceLE, Int.reduceLT, Int.reduceToNat, ne_eq, Nat.reduceSub, Tbld35, Tst35]
        repeat refine And.intro (by omega) ?_
        repeat refine And.intro (by omega) ?_
        intro g
        simp only [List.map_cons, List.map_nil, updL, upd, Nat.reduceEqDiff, if_true, if_false, ↓reduceIte]
        refine hK _ _ ?_; clear hK K
        refine Cd.ret ?_
        simp (maxSteps := 2000000) (disch := first | (simp only [E4] <;> omega) | omega | fail) only [↓E2, E3, bare, bareJ, ↓E0, E1, evP, evPlan, env0, envN, evOps, evOp, evQs, evQ, evV, setD, pureOp, ev, upd, updL, gate, binW, eqOp, binV, intOp, shOp, boolOp, unV, convV, nilV, fieldAddrV, indexAddrV, extractV, cellAt, cellsAt, findB, setB, fillL, buildV, Value.cells, lenV, minV, maxV, hav, sliceV, loV, hiV, bslQ, mksQ, appQ, partsOk, partsCells, delB, eqL, SameI, strOp, apzQ, cvtQ, capV, ↓reduceIte, Zj, Zk, Nat.reduceAdd, Nat.reduceLT, Nat.reduceEqDiff, Nat.reduceMul, Nat.reduceLeDiff, if_true, Zn, reduceCtorEq, ZA, eq_self, Int.reduceLE, Int.reduceLT, Int.reduceToNat, ne_eq, Nat.reduceSub, Tld35]
        repeat refine And.intro (by omega) ?_
        refine ⟨M5, SubP.of (List.Sublist.cons _ (List.Sublist.refl _)), _, ?_, hv5⟩
        rw [eW]
end

end Go.Proofs

/-
  What the functions of this part hand back: each as a plain function of its arguments. Conditions: none.
-/
namespace Go.Proofs
open Go.W8
set_option linter.unusedVariables false
set_option linter.unusedSimpArgs false
set_option linter.unusedSectionVars false
set_option maxRecDepth 8000
set_option maxHeartbeats 4000000
def wtG (x o : List Int) (r a : Nat) : Int := wnd x o (r : Int) a
theorem wtG_bound (x o : List Int) (r a : Nat) (h : a ≤ 8) : -8 ≤ wtG x o r a ∧ wtG x o r a ≤ 8 := by
  have := wnd_bound x o (r : Int) a
  unfold wtG
  omega
/-- The table of powers, of which rows and columns are filled up to a place. -/
def dtab (n : Nat) (x o : List Int) (b a : Nat) : List Int := (List.range 64).map fun i => if i % 8 < n ∧ (i / 8 < b ∨ (i / 8 = b ∧ i % 8 < a)) then 8 - wtG x o (i / 8) (i % 8) else 0
section
variable {n : Nat} {x o : List Int} {b a : Nat}
theorem dtab_len : (dtab n x o b a).length = 64 := by simp [dtab]
theorem dtab_get {i : Nat} (h : i < 64) : (dtab n x o b a).getD i 0 = if i % 8 < n ∧ (i / 8 < b ∨ (i / 8 = b ∧ i % 8 < a)) then 8 - wtG x o (i / 8) (i % 8) else 0 := by
  unfold dtab
  rw [List.getD_eq_getElem?_getD, List.getElem?_map, List.getElem?_range h]; rfl
theorem dtab_zero : dtab n x o 0 0 = List.replicate 64 0 := by
  refine ext0 (by simp [dtab_len]) fun i hi => ?_
  rw [dtab_len] at hi
  rw [dtab_get hi, if_neg (by omega), List.getD_eq_getElem?_getD, List.getElem?_replicate, if_pos hi]
  rfl
theorem dtab_row : dtab n x o b n = dtab n x o (b + 1) 0 := by
  refine ext0 (by simp [dtab_len]) fun i hi => ?_
  rw [dtab_len] at hi
  rw [dtab_get hi, dtab_get hi]
  by_cases h : i % 8 < n ∧ (i / 8 < b ∨ (i / 8 = b ∧ i % 8 < n))
  · rw [if_pos h, if_pos (by omega)]
  · rw [if_neg h, if_neg (by omega)]
theorem dtab_set (hb : b < 8) (ha : a < n) (hn : n ≤ 8) : (dtab n x o b a).set (b * 8 + a) (8 - wtG x o b a) = dtab n x o b (a + 1) := by
  refine ext0 (by simp [dtab_len]) fun i hi => ?_
  rw [List.length_set, dtab_len] at hi
  rw [getD_set (by rw [dtab_len]; omega), dtab_get hi, dtab_get hi]
  by_cases e : b * 8 + a = i
  · subst e
    have e1 : (b * 8 + a) / 8 = b := by omega
    have e2 : (b * 8 + a) % 8 = a := by omega
    rw [if_pos rfl, e1, e2, if_pos (by omega)]
  · rw [if_neg e]
    by_cases h : i % 8 < n ∧ (i / 8 < b ∨ (i / 8 = b ∧ i % 8 < a))
    · rw [if_pos h, if_pos (by omega)]
    · rw [if_neg h, if_neg (by omega)]
end
/-- The numbers of the determinant polynomial, at the powers from -8 n on. -/
def detC (n : Nat) (x o : List Int) : List Int := cntL n (wtG x o) (List.replicate (16 * n + 1) 0) 0 1 n 0 (freeS (List.replicate 8 false))
theorem detC_len (n : Nat) (x o : List Int) : (detC n x o).length = 16 * n + 1 := by unfold detC; rw [cntL_len, List.length_replicate]
def detLow (n : Nat) (x o : List Int) : Int := trimLow (-8 * (n : Int)) (detC n x o)
def detL (n : Nat) (x o : List Int) : List Int := trimL (detC n x o)
section
variable (n : Nat) (x o : List Int) (hx : Bytes8 x) (ho : Bytes8 o) (hn : n ≤ 8) (hn2 : 2 ≤ n)
include hx ho hn hn2
theorem l04Determinant_c : GivesX Try.prog 26 #[.agg (gc (n : Int) x o).toArray] [] [] (LauV (detLow n x o) (detL n x o)) := by
  have hl := hx.len
  have hm := ho.len
  refine GivesX.part ?_
  skip
  refine GivesX.of (callable_of Try.func26 rfl (by decide)) ?_ fun w hnd hlt hR => ?_
  · simp
  refine acall_of (N := 43) (c := _) (rs := [.cell 2 35]) (args := [_]) Try.func26 rfl (by decide) rfl rfl (Nat.le_of_ble_eq_true rfl) ?_
  refine Cd.rs [1, 2] fun K hK => ?_
  simp (maxSteps := 2000000) (disch := first | (simp only [E4, hl, hm] <;> omega) | omega | fail) only [↓E2, E3, bare, bareJ, ↓E0, E1, env0, envN, evOps, evOp, evQs, evQ, evV, setD, pureOp, ev, upd, updL, Value.cells, hav, delB, ↓reduceIte, Zj, Zk, Nat.reduceAdd, Nat.reduceLT, Nat.reduceEqDiff, Nat.reduceMul, Nat.reduceLeDiff, if_true, Zn, reduceCtorEq, ZA, eq_self, Int.reduceLE, Int.reduceLT, Int.reduceToNat, ne_eq, Nat.reduceSub, Tzero35, hl, hm]
  repeat refine And.intro (by omega) ?_
  intro b1 hb1
  intro b2 hb2
  have nb2_b1 := hb2.ne
  try simp (maxSteps := 2000000) (disch := first | (simp only [E4, hl, hm] <;> omega) | omega | fail) only [↓E2, E3, bare, bareJ, ↓E0, E1, env0, envN, evOps, evOp, evQs, evQ, evV, setD, pureOp, ev, upd, updL, Value.cells, hav, delB, ↓reduceIte, Zj, Zk, Nat.reduceAdd, Nat.reduceLT, Nat.reduceEqDiff, Nat.reduceMul, Nat.reduceLeDiff, if_true, Zn, reduceCtorEq, ZA, eq_self, Int.reduceLE, Int.reduceLT, Int.reduceToNat, ne_eq, Nat.reduceSub, Tzero35, hl, hm, nb2_b1]
  repeat refine And.intro (by omega) ?_
  repeat refine And.intro (by omega) ?_
  intro g
  simp only [List.map_cons, List.map_nil, updL, upd, Nat.reduceEqDiff, if_true, if_false, ↓reduceIte]
  refine hK _ _ ?_; clear hK K
  have n2 : ¬ b2 = b1 := hb2.2 (b1, gc (n : Int) x o) (by simp)
  skip
  refine Cd.ps [1, 2, 3, 4] (Plan.take 0 (Plan.take 1 (Plan.more 2 (Plan.one 3 (Plan.one 4 (Plan.take 5 (Plan.done)))) (Plan.one 3 (Plan.more 2 (Plan.one 4 (Plan.take 5 (Plan.done))) (Plan.one 4 (Plan.take 2 (Plan.take 5 (Plan.done))))))))) fol (by kernel_rfl) (Nat.le_of_ble_eq_true rfl) fun K hK => ?_
  have J : ∀ g b3, ¬ b3 = b1 → ¬ b3 = b2 → K (updL [(1, .pointer (some ⟨b1, 0, none⟩)), (2, .pointer (some ⟨b2, 0, none⟩)), (3, .pointer (some ⟨b3, 0, none⟩)), (4, .int .i64 (n : Int))] g) [(b3, ints .i64 (List.replicate 64 0)), (b2, [.int .i64 0, .slice none 0 0]), (b1, gc (n : Int) x o)] := by
    intro g b3 n31 n32
    refine hK _ _ ?_
    clear hK K
    rw [← dtab_zero (n := n) (x := x) (o := o)]
    skip
    skip
    refine Cd.seq ?_
    refine Cd.rs [1, 2, 3, 4, 5] fun K hK => ?_
    simp (maxSteps := 2000000) (disch := first | (simp only [E4, hl, hm] <;> omega) | omega | fail) only [↓E2, E3, bare, bareJ, ↓E0, E1, env0, envN, evOps, evOp, evQs, evQ, evV, setD, pureOp, ev, upd, updL, hav, delB, ↓reduceIte, Zj, Zk, Nat.reduceAdd, Nat.reduceLT, Nat.reduceEqDiff, Nat.reduceMul, Nat.reduceLeDiff, if_true, Zn, reduceCtorEq, ZA, eq_self, Int.reduceLE, Int.reduceLT, Int.reduceToNat, ne_eq, Nat.reduceSub, hl, hm, nb2_b1, n2, n31, n32]
    repeat refine And.intro (by omega) ?_
    repeat refine And.intro (by omega) ?_
    intro g
    simp only [List.map_cons, List.map_nil, updL, upd, Nat.reduceEqDiff, if_true, if_false, ↓reduceIte]
    refine hK _ _ ?_; clear hK K
    refine Cd.block ?_
    refine Cd.loop (fun q ρ M => ∃ g b, b + q = n ∧ ρ = updL [(1, .pointer (some ⟨b1, 0, none⟩)), (2, .pointer (some ⟨b2, 0, none⟩)), (3, .pointer (some ⟨b3, 0, none⟩)), (4, .int .i64 (n : Int)), (5, .int .i64 (b : Int))] g ∧ M = [(b3, ints .i64 (dtab n x o b 0)), (b2, [.int .i64 0, .slice none 0 0]), (b1, gc (n : Int) x o)]) n ⟨_, 0, Nat.zero_add _, rfl, rfl⟩ ?_
    rintro q ρ M ⟨g, b, hb, rfl, rfl⟩
    refine Cd.seq ?_
    refine Cd.rs [1, 2, 3, 4, 5, 13] fun K hK => ?_
    simp (maxSteps := 2000000) (disch := first | (simp only [E4, hl, hm] <;> omega) | omega | fail) only [↓E2, E3, bare, bareJ, ↓E0, E1, env0, envN, evOps, evOp, evQs, evQ, evV, setD, pureOp, ev, upd, updL, binW, eqOp, binV, intOp, shOp, boolOp, hav, delB, eqL, SameI, strOp, ↓reduceIte, Zj, Zk, Nat.reduceAdd, Nat.reduceLT, Nat.reduceEqDiff, Nat.reduceMul, Nat.reduceLeDiff, if_true, Zn, reduceCtorEq, ZA, eq_self, Int.reduceLE, Int.reduceLT, Int.reduceToNat, ne_eq, Nat.reduceSub, hl, hm, nb2_b1, n2, n31, n32]
    repeat refine And.intro (by omega) ?_
    repeat refine And.intro (by omega) ?_
    intro g
    simp only [List.map_cons, List.map_nil, updL, upd, Nat.reduceEqDiff, if_true, if_false, ↓reduceIte]
    refine hK _ _ ?_; clear hK K
    refine Cd.condd rfl (fun h1 => ?_) (fun h1 => ?_)
    · refine Cd.skip ?_
      refine thenN ?_
      refine Cd.seq ?_
      refine Cd.block ?_
      refine Cd.rs [1, 2, 3, 4, 5, 6] fun K hK => ?_
      simp (maxSteps := 2000000) (disch := first | (simp only [E4, hl, hm] <;> omega) | omega | fail) only [↓E2, E3, bare, bareJ, ↓E0, E1, env0, envN, evOps, evOp, evQs, evQ, evV, setD, pureOp, ev, upd, updL, hav, delB, ↓reduceIte, Zj, Zk, Nat.reduceAdd, Nat.reduceLT, Nat.reduceEqDiff, Nat.reduceMul, Nat.reduceLeDiff, if_true, Zn, reduceCtorEq, ZA, eq_self, Int.reduceLE, Int.reduceLT, Int.reduceToNat, ne_eq, Nat.reduceSub, hl, hm, nb2_b1, n2, n31, n32]
      repeat refine And.intro (by omega) ?_
      repeat refine And.intro (by omega) ?_
      intro g
      simp only [List.map_cons, List.map_nil, updL, upd, Nat.reduceEqDiff, if_true, if_false, ↓reduceIte]
      refine hK _ _ ?_; clear hK K
      refine Cd.block ?_
      refine Cd.loop (fun q ρ M => ∃ g a, a + q = n ∧ ρ = updL [(1, .pointer (some ⟨b1, 0, none⟩)), (2, .pointer (some ⟨b2, 0, none⟩)), (3, .pointer (some ⟨b3, 0, none⟩)), (4, .int .i64 (n : Int)), (5, .int .i64 (b : Int)), (6, .int .i64 (a : Int))] g ∧ M = [(b3, ints .i64 (dtab n x o b a)), (b2, [.int .i64 0, .slice none 0 0]), (b1, gc (n : Int) x o)]) n ⟨_, 0, Nat.zero_add _, rfl, rfl⟩ ?_
      rintro q2 ρ M ⟨g, a, ha, rfl, rfl⟩
      refine Cd.seq ?_
      refine Cd.rs [1, 2, 3, 4, 5, 6, 18] fun K hK => ?_
      simp (maxSteps := 2000000) (disch := first | (simp only [E4, hl, hm] <;> omega) | omega | fail) only [↓E2, E3, bare, bareJ, ↓E0, E1, env0, envN, evOps, evOp, evQs, evQ, evV, setD, pureOp, ev, upd, updL, binW, eqOp, binV, intOp, shOp, boolOp, hav, delB, eqL, SameI, strOp, ↓reduceIte, Zj, Zk, Nat.reduceAdd, Nat.reduceLT, Nat.reduceEqDiff, Nat.reduceMul, Nat.reduceLeDiff, if_true, Zn, reduceCtorEq, ZA, eq_self, Int.reduceLE, Int.reduceLT, Int.reduceToNat, ne_eq, Nat.reduceSub, hl, hm, nb2_b1, n2, n31, n32]
      repeat refine And.intro (by omega) ?_
      repeat refine And.intro (by omega) ?_
      intro g
      simp only [List.map_cons, List.map_nil, updL, upd, Nat.reduceEqDiff, if_true, if_false, ↓reduceIte]
      refine hK _ _ ?_; clear hK K
      refine Cd.condd rfl (fun h2 => ?_) (fun h2 => ?_)
      · have dl : (dtab n x o b a).length = 64 := dtab_len
        have hw := wtG_bound x o b a (by omega)
        have e1 : wnd x o (b : Int) a = wtG x o b a := rfl
        have ds := dtab_set (n := n) (x := x) (o := o) (b := b) (a := a) (by omega) (by omega) hn
        skip
        refine Cd.skip ?_
        refine thenN ?_
        refine Cd.seq ?_
        refine Cd.block ?_
        refine Cd.pr [1, 2, 3, 4, 5, 6] (Plan.take 0 (Plan.take 1 (Plan.take 2 (Plan.take 3 (Plan.take 4 (Plan.take 5 (Plan.take 6 (Plan.take 7 (Plan.take 8 (Plan.one 9 (Plan.done))))))))))) fol (by kernel_rfl) (Nat.le_of_ble_eq_true rfl) fun K hK => ?_
        simp (maxSteps := 2000000) (disch := first | (simp only [E4, hl, hm, dl] <;> omega) | omega | fail) only [↓E2, E3, bare, bareJ, ↓E0, E1, evPlan, env0, envN, evOps, evOp, evQs, evQ, evV, setD, pureOp, ev, upd, updL, binW, eqOp, binV, intOp, shOp, boolOp, indexAddrV, cellAt, cellsAt, findB, setB, Value.cells, hav, delB, eqL, SameI, strOp, ↓reduceIte, Zj, Zk, Nat.reduceAdd, Nat.reduceLT, Nat.reduceEqDiff, Nat.reduceMul, Nat.reduceLeDiff, if_true, Zn, reduceCtorEq, ZA, eq_self, Int.reduceLE, Int.reduceLT, Int.reduceToNat, ne_eq, Nat.reduceSub, Tarr44, Tarr66, Tld27, Tst2, hl, hm, nb2_b1, n2, n31, n32, dl]
        repeat refine And.intro (by omega) ?_
        refine callP_gives (l04Winding_c _ x o hx ho _ _ (by omega)) ?_
        rw [Int.toNat_natCast, e1]
        simp (maxSteps := 2000000) (disch := first | (simp only [E4, hl, hm, dl] <;> omega) | omega | fail) only [↓E2, E3, bare, bareJ, ↓E0, E1, evPlan, env0, envN, evOps, evOp, evQs, evQ, evV, setD, pureOp, ev, upd, updL, binW, eqOp, binV, intOp, shOp, boolOp, indexAddrV, cellAt, cellsAt, findB, setB, Value.cells, hav, delB, eqL, SameI, strOp, ↓reduceIte, Zj, Zk, Nat.reduceAdd, Nat.reduceLT, Nat.reduceEqDiff, Nat.reduceMul, Nat.reduceLeDiff, if_true, Zn, reduceCtorEq, ZA, eq_self, Int.reduceLE, Int.reduceLT, Int.reduceToNat, ne_eq, Nat.reduceSub, Tarr44, Tarr66, Tld27, Tst2, hl, hm, nb2_b1, n2, n31, n32, dl]
        repeat refine And.intro (by omega) ?_
        rw [ds]
        repeat refine And.intro (by omega) ?_
        intro g
        simp only [List.map_cons, List.map_nil, updL, upd, Nat.reduceEqDiff, if_true, if_false, ↓reduceIte]
        refine hK _ _ ?_; clear hK K
        refine inBN ?_
        refine thenN ?_
        refine Cd.rr [1, 2, 3, 4, 5, 6] fun K hK => ?_
        simp (maxSteps := 2000000) (disch := first | (simp only [E4, hl, hm, dl] <;> omega) | omega | fail) only [↓E2, E3, bare, bareJ, ↓E0, E1, env0, envN, evOps, evOp, evQs, evQ, evV, setD, pureOp, ev, upd, updL, binW, eqOp, binV, intOp, shOp, boolOp, hav, delB, eqL, SameI, strOp, ↓reduceIte, Zj, Zk, Nat.reduceAdd, Nat.reduceLT, Nat.reduceEqDiff, Nat.reduceMul, Nat.reduceLeDiff, if_true, Zn, reduceCtorEq, ZA, eq_self, Int.reduceLE, Int.reduceLT, Int.reduceToNat, ne_eq, Nat.reduceSub, hl, hm, nb2_b1, n2, n31, n32, dl]
        repeat refine And.intro (by omega) ?_
        repeat refine And.intro (by omega) ?_
        intro g
        simp only [List.map_cons, List.map_nil, updL, upd, Nat.reduceEqDiff, if_true, if_false, ↓reduceIte]
        refine hK _ _ ?_; clear hK K
        exact roundN (m := q2 - 1) (by omega) ⟨_, a + 1, by omega, rfl, rfl⟩
      · obtain rfl : a = n := by omega
        refine Cd.exit (thenX (roundX (inBX ?_)))
        refine inBN ?_
        refine thenN ?_
        rw [dtab_row]
        refine Cd.rr [1, 2, 3, 4, 5] fun K hK => ?_
        simp (maxSteps := 2000000) (disch := first | (simp only [E4, hl, hm] <;> omega) | omega | fail) only [↓E2, E3, bare, bareJ, ↓E0, E1, env0, envN, evOps, evOp, evQs, evQ, evV, setD, pureOp, ev, upd, updL, binW, eqOp, binV, intOp, shOp, boolOp, hav, delB, eqL, SameI, strOp, ↓reduceIte, Zj, Zk, Nat.reduceAdd, Nat.reduceLT, Nat.reduceEqDiff, Nat.reduceMul, Nat.reduceLeDiff, if_true, Zn, reduceCtorEq, ZA, eq_self, Int.reduceLE, Int.reduceLT, Int.reduceToNat, ne_eq, Nat.reduceSub, hl, hm, nb2_b1, n2, n31, n32]
        repeat refine And.intro (by omega) ?_
        repeat refine And.intro (by omega) ?_
        intro g
        simp only [List.map_cons, List.map_nil, updL, upd, Nat.reduceEqDiff, if_true, if_false, ↓reduceIte]
        refine hK _ _ ?_; clear hK K
        exact roundN (m := q - 1) (by omega) ⟨_, b + 1, by omega, rfl, rfl⟩
    · obtain rfl : b = n := by omega
      have dl : (dtab b x o b 0).length = 64 := dtab_len
      skip
      refine Cd.exit (thenX (roundX (inBX ?_)))
      refine thenN ?_
      refine Cd.rs [2, 3, 4, 7] fun K hK => ?_
      simp (maxSteps := 2000000) (disch := first | (simp only [E4, hl, hm, dl] <;> omega) | omega | fail) only [↓E2, E3, bare, bareJ, ↓E0, E1, env0, envN, evOps, evOp, evQs, evQ, evV, setD, pureOp, ev, upd, updL, binW, eqOp, binV, intOp, shOp, boolOp, Value.cells, hav, mksQ, delB, eqL, SameI, strOp, ↓reduceIte, Zj, Zk, Nat.reduceAdd, Nat.reduceLT, Nat.reduceEqDiff, Nat.reduceMul, Nat.reduceLeDiff, if_true, Zn, reduceCtorEq, ZA, eq_self, Int.reduceLE, Int.reduceLT, Int.reduceToNat, ne_eq, Nat.reduceSub, Tby2, Tslc31, Tslce31, Tzero2, hl, hm, nb2_b1, n2, n31, n32, dl]
      repeat refine And.intro (by omega) ?_
      intro b4 hb4
      have nb4_b3 := hb4.ne
      have nb4_b2 := hb4.tail.ne
      have nb4_b1 := hb4.tail.tail.ne
      try simp (maxSteps := 2000000) (disch := first | (simp only [E4, hl, hm, dl] <;> omega) | omega | fail) only [↓E2, E3, bare, bareJ, ↓E0, E1, env0, envN, evOps, evOp, evQs, evQ, evV, setD, pureOp, ev, upd, updL, binW, eqOp, binV, intOp, shOp, boolOp, Value.cells, hav, mksQ, delB, eqL, SameI, strOp, ↓reduceIte, Zj, Zk, Nat.reduceAdd, Nat.reduceLT, Nat.reduceEqDiff, Nat.reduceMul, Nat.reduceLeDiff, if_true, Zn, reduceCtorEq, ZA, eq_self, Int.reduceLE, Int.reduceLT, Int.reduceToNat, ne_eq, Nat.reduceSub, Tby2, Tslc31, Tslce31, Tzero2, hl, hm, nb2_b1, n2, n31, n32, dl, nb4_b3, nb4_b2, nb4_b1]
      repeat refine And.intro (by omega) ?_
      have e16 : (16 * (b : Int) + 1).toNat = 16 * b + 1 := by omega
      have hrep : List.replicate (16 * b + 1) (Value.int .i64 0) = ints .i64 (List.replicate (16 * b + 1) 0) := by simp [ints]
      rw [e16, hrep]
      repeat refine And.intro (by omega) ?_
      intro g
      simp only [List.map_cons, List.map_nil, updL, upd, Nat.reduceEqDiff, if_true, if_false, ↓reduceIte]
      refine hK _ _ ?_; clear hK K
      refine Cd.nodup fun hnd4 => ?_
      have p8 : (b : Int) ^ b ≤ 16777216 := by
        have h9 : b = 2 ∨ b = 3 ∨ b = 4 ∨ b = 5 ∨ b = 6 ∨ b = 7 ∨ b = 8 := by omega
        rcases h9 with rfl | rfl | rfl | rfl | rfl | rfl | rfl <;> decide
      have hc := l04Count_c b hn (wtG x o) (dtab b x o b 0) dl (fun r a hr ha => ⟨by rw [dtab_get (by omega), if_pos (by omega), show (r * 8 + a) / 8 = r by omega, show (r * 8 + a) % 8 = a by omega], wtG_bound x o r a (by omega)⟩)
        b4 (16 * b + 1) b 0 0 1 0 (List.replicate 8 false) (List.replicate (16 * b + 1) 0) (by omega) List.length_replicate List.length_replicate (by omega) (by omega) (.inl rfl) (by omega) (by omega)
        (fun j => by rw [List.getD_eq_getElem?_getD, List.getElem?_replicate]; split <;> simp)
      refine Cd.rs [2, 4, 7] fun K hK => ?_
      simp (maxSteps := 2000000) (disch := first | (simp only [E4, hl, hm, dl] <;> omega) | omega | fail) only [↓E2, E3, bare, bareJ, ↓E0, E1, evP, env0, envN, evOps, evOp, evQs, evQ, evV, setD, pureOp, ev, upd, updL, cellAt, cellsAt, findB, setB, fillL, buildV, Value.cells, hav, delB, ↓reduceIte, Zj, Zk, Nat.reduceAdd, Nat.reduceLT, Nat.reduceEqDiff, Nat.reduceMul, Nat.reduceLeDiff, if_true, Zn, reduceCtorEq, ZA, eq_self, Int.reduceLE, Int.reduceLT, Int.reduceToNat, ne_eq, Nat.reduceSub, Tbld69, Tld66, hl, hm, nb2_b1, n2, n31, n32, dl, nb4_b3, nb4_b2, nb4_b1]
      repeat refine And.intro (by omega) ?_
      refine callK_lend hc (by simp [findB]) hnd4 (fun _ _ => toldW_nil) ?_
      rintro v' M' rfl _ _
      rw [show cntL b (wtG x o) (List.replicate (16 * b + 1) 0) 0 1 b 0 (freeS (List.replicate 8 false)) = detC b x o from rfl]
      simp only [List.cons_append, List.nil_append]
      have dcl := detC_len b x o
      skip
      simp (maxSteps := 2000000) (disch := first | (simp only [E4, hl, hm, dl, dcl] <;> omega) | omega | fail) only [↓E2, E3, bare, bareJ, ↓E0, E1, evP, env0, envN, evOps, evOp, evQs, evQ, evV, setD, pureOp, ev, upd, updL, cellAt, cellsAt, findB, setB, fillL, buildV, Value.cells, hav, delB, ↓reduceIte, Zj, Zk, Nat.reduceAdd, Nat.reduceLT, Nat.reduceEqDiff, Nat.reduceMul, Nat.reduceLeDiff, if_true, Zn, reduceCtorEq, ZA, eq_self, Int.reduceLE, Int.reduceLT, Int.reduceToNat, ne_eq, Nat.reduceSub, Tbld69, Tld66, hl, hm, nb2_b1, n2, n31, n32, dl, nb4_b3, nb4_b2, nb4_b1, dcl]
      repeat refine And.intro (by omega) ?_
      repeat refine And.intro (by omega) ?_
      intro g
      simp only [List.map_cons, List.map_nil, updL, upd, Nat.reduceEqDiff, if_true, if_false, ↓reduceIte]
      refine hK _ _ ?_; clear hK K
      refine Cd.nodup fun hnd5 => ?_
      have hrd : RdS (toldOf [(b4, ints .i64 (detC b x o))]) 1 (ints .i64 (detC b x o)) (.slice (some ⟨b4, 0, none⟩) (16 * b + 1) (16 * b + 1)) := (SlN.row (Row.full (w := 1) (by rw [ints_length, dcl, Nat.mul_one]))).reads fun p hp => mem_toldOf hp
      refine Cd.rs [2] fun K hK => ?_
      simp (maxSteps := 2000000) (disch := first | (simp only [E4, hl, hm, dl, dcl] <;> omega) | omega | fail) only [↓E2, E3, bare, bareJ, ↓E0, E1, env0, envN, evOps, evOp, evQs, evQ, evV, setD, pureOp, ev, upd, updL, binW, eqOp, binV, intOp, shOp, boolOp, cellAt, cellsAt, findB, setB, Value.cells, hav, delB, eqL, SameI, strOp, ↓reduceIte, Zj, Zk, Nat.reduceAdd, Nat.reduceLT, Nat.reduceEqDiff, Nat.reduceMul, Nat.reduceLeDiff, if_true, Zn, reduceCtorEq, ZA, eq_self, Int.reduceLE, Int.reduceLT, Int.reduceToNat, ne_eq, Nat.reduceSub, Tst35, hl, hm, nb2_b1, n2, n31, n32, dl, nb4_b3, nb4_b2, nb4_b1, dcl]
      repeat refine And.intro (by omega) ?_
      refine callK_newR0 (l04Trim_c (-8 * (b : Int)) (detC b x o) _ _ hrd (by omega) (by omega)) (HoldsAll.toldW (holds_mem hnd5 fun p hp => by rw [List.mem_singleton.1 hp]; exact List.mem_cons_self)) ?_
      intro v' M' hs' nd' _
      obtain ⟨s', rfl, hs'⟩ := hs'
      obtain ⟨a', m', c', rfl⟩ := hs'.form
      simp only [List.cons_append, List.nil_append] at nd' ⊢
      simp (maxSteps := 2000000) (disch := first | (simp only [E4, hl, hm, dl, dcl] <;> omega) | omega | fail) only [↓E2, E3, bare, bareJ, ↓E0, E1, env0, envN, evOps, evOp, evQs, evQ, evV, setD, pureOp, ev, upd, updL, binW, eqOp, binV, intOp, shOp, boolOp, cellAt, cellsAt, findB, setB, Value.cells, hav, delB, eqL, SameI, strOp, ↓reduceIte, Zj, Zk, Nat.reduceAdd, Nat.reduceLT, Nat.reduceEqDiff, Nat.reduceMul, Nat.reduceLeDiff, if_true, Zn, reduceCtorEq, ZA, eq_self, Int.reduceLE, Int.reduceLT, Int.reduceToNat, ne_eq, Nat.reduceSub, Tst35, hl, hm, nb2_b1, n2, n31, n32, dl, nb4_b3, nb4_b2, nb4_b1, dcl]
      repeat refine And.intro (by omega) ?_
      repeat refine And.intro (by omega) ?_
      intro g
      simp only [List.map_cons, List.map_nil, updL, upd, Nat.reduceEqDiff, if_true, if_false, ↓reduceIte]
      refine hK _ _ ?_; clear hK K
      refine Cd.ret ?_
      simp (maxSteps := 2000000) (disch := first | (simp only [E4, hl, hm, dl, dcl] <;> omega) | omega | fail) only [↓E2, E3, bare, bareJ, ↓E0, E1, evP, evPlan, env0, envN, evOps, evOp, evQs, evQ, evV, setD, pureOp, ev, upd, updL, gate, binW, eqOp, binV, intOp, shOp, boolOp, unV, convV, nilV, fieldAddrV, indexAddrV, extractV, cellAt, cellsAt, findB, setB, fillL, buildV, Value.cells, lenV, minV, maxV, hav, sliceV, loV, hiV, bslQ, mksQ, appQ, partsOk, partsCells, delB, eqL, SameI, strOp, apzQ, cvtQ, capV, ↓reduceIte, Zj, Zk, Nat.reduceAdd, Nat.reduceLT, Nat.reduceEqDiff, Nat.reduceMul, Nat.reduceLeDiff, if_true, Zn, reduceCtorEq, ZA, eq_self, Int.reduceLE, Int.reduceLT, Int.reduceToNat, ne_eq, Nat.reduceSub, Tld35, hl, hm, nb2_b1, n2, n31, n32, dl, nb4_b3, nb4_b2, nb4_b1, dcl]
      repeat refine And.intro (by omega) ?_
      unfold detLow detL
      exact ⟨M', SubP.of (List.Sublist.cons _ (List.Sublist.cons _ (List.Sublist.cons _ (List.Sublist.cons _ (List.Sublist.refl _))))), _, rfl, hs'⟩
  clear hK
  simp (maxSteps := 2000000) (disch := first | (simp only [E4, hl, hm] <;> omega) | omega | fail) only [↓E2, E3, bare, bareJ, ↓E0, E1, evP, evPlan, env0, envN, evOps, evOp, evQs, evQ, evV, setD, pureOp, ev, upd, updL, fieldAddrV, cellAt, cellsAt, findB, setB, fillL, buildV, Value.cells, hav, delB, ↓reduceIte, Zj, Zk, Nat.reduceAdd, Nat.reduceLT, Nat.reduceEqDiff, Nat.reduceMul, Nat.reduceLeDiff, if_true, Zn, reduceCtorEq, ZA, eq_self, Int.reduceLE, Int.reduceLT, Int.reduceToNat, ne_eq, Nat.reduceSub, Tbld66, Tfld27_0, Tld2, Tst66, Tzero66, ↓YR, hl, hm, nb2_b1]
  repeat' first
      | omega
      | refine moreX_go ?_ ?_
      | with_reducible refine And.intro ?_ ?_
      | (with_reducible intro (b : Nat) (hb : Fresh _ _ b); have hb := hb.all; simp only [List.mem_cons, List.not_mem_nil, forall_eq_or_imp, or_false, forall_eq, false_implies, implies_true, and_true] at hb)
      | (with_reducible intro (b' : Nat) (cap' : Nat) (rest' : List Value) (hf' : Fresh _ _ b') (hc' : _ ≤ cap') (hr' : rest'.length = _); have hfa := hf'.all; simp only [List.mem_cons, List.not_mem_nil, forall_eq_or_imp, or_false, forall_eq, false_implies, implies_true, and_true] at hfa)
      | simp (maxSteps := 2000000) (disch := first | (simp only [E4, hl, hm] <;> omega) | omega | fail) only [↓E2, E3, bare, bareJ, ↓E0, E1, evP, evPlan, env0, envN, evOps, evOp, evQs, evQ, evV, setD, pureOp, ev, upd, updL, fieldAddrV, cellAt, cellsAt, findB, setB, fillL, buildV, Value.cells, hav, delB, ↓reduceIte, Zj, Zk, Nat.reduceAdd, Nat.reduceLT, Nat.reduceEqDiff, Nat.reduceMul, Nat.reduceLeDiff, if_true, Zn, reduceCtorEq, ZA, eq_self, Int.reduceLE, Int.reduceLT, Int.reduceToNat, ne_eq, Nat.reduceSub, Tbld66, Tfld27_0, Tld2, Tst66, Tzero66, ↓YR, hl, hm, nb2_b1, *]
  all_goals
    repeat refine And.intro (by omega) ?_
    intro g
    simp only [List.map_cons, List.map_nil, updL, upd, Nat.reduceEqDiff, if_true, if_false, ↓reduceIte]
    exact J g _ hb.2 hb.1
end

end Go.Proofs

/-
  What the functions of this part hand back: each as a plain function of its arguments. Conditions: none.
-/
namespace Go.Proofs
open Go.W8
set_option linter.unusedVariables false
set_option linter.unusedSimpArgs false
set_option linter.unusedSectionVars false
set_option maxRecDepth 8000
set_option maxHeartbeats 4000000
--@plain
/-- A set of columns as the bits of a number. -/
def bitsS (s : Nat) : Nat → Bool := fun a => s.testBit a
theorem bitB : ∀ s : Nat, s < 256 → ∀ a : Nat, a < 8 → s.testBit a = true → (2 ^ a ≤ s ∧ ∀ c : Nat, c < 8 → (s - 2 ^ a).testBit c = (s.testBit c && !(c == a))) := by decide +kernel
theorem pow8 {c : Nat} (h : 8 ≤ c) : 256 ≤ 2 ^ c := Nat.pow_le_pow_right (n := 2) (by decide) h
theorem bitsS_rem {s a : Nat} (hs : s < 256) (ha : a < 8) (h : bitsS s a = true) : bitsS (s - 2 ^ a) = rem (bitsS s) a := by
  funext c
  have hb := bitB s hs a ha h
  by_cases hc : c < 8
  · exact hb.2 c hc
  · have h1 : bitsS s c = false := Nat.testBit_lt_two_pow (Nat.lt_of_lt_of_le hs (pow8 (by omega)))
    have h2 : bitsS (s - 2 ^ a) c = false := Nat.testBit_lt_two_pow (Nat.lt_of_le_of_lt (Nat.sub_le _ _) (Nat.lt_of_lt_of_le hs (pow8 (by omega))))
    rw [rem_at, h1, h2]; rfl
theorem bitsS_pos {s a : Nat} (hs : s < 256) (ha : a < 8) (h : bitsS s a = true) : s - 2 ^ a < s := by
  have h1 := (bitB s hs a ha h).1
  have h2 : 0 < 2 ^ a := Nat.pow_pos (by decide)
  omega
theorem bitN : ∀ s : Nat, s < 256 → ∀ a : Nat, a < 8 → s.testBit a = true → IntKind.i64.wrap ((BitVec.ofInt IntKind.i64.bits (s : Int) &&& ~~~ BitVec.ofInt IntKind.i64.bits ((2 ^ a : Nat) : Int)).toNat : Int) = ((s - 2 ^ a : Nat) : Int) := by decide +kernel
theorem bitV : ∀ s : Nat, s < 256 → ∀ a : Nat, a < 8 → IntKind.i64.wrap ((BitVec.ofInt IntKind.i64.bits ((s : Int).fdiv (2 ^ min a IntKind.i64.bits)) &&& BitVec.ofInt IntKind.i64.bits 1).toNat : Int) = if s.testBit a then 1 else 0 := by decide +kernel
theorem bitW : ∀ a : Nat, a < 9 → IntKind.i64.wrap (1 * 2 ^ min a IntKind.i64.bits) = ((2 ^ a : Nat) : Int) := by decide +kernel
theorem cb_all {S : Nat → Bool} : ∀ {k : Nat}, (∀ a, a < k → S a = true) → cb S k = k
  | 0, _ => rfl
  | k + 1, h => by
    show cb S k + (if S k = true then 1 else 0) = k + 1
    rw [cb_all fun a ha => h a (Nat.lt_succ_of_lt ha), if_pos (h k (Nat.lt_succ_self k))]
theorem cb_congr {S S' : Nat → Bool} : ∀ {k : Nat}, (∀ a, a < k → S a = S' a) → cb S k = cb S' k
  | 0, _ => rfl
  | k + 1, h => by
    show cb S k + (if S k = true then 1 else 0) = cb S' k + (if S' k = true then 1 else 0)
    rw [cb_congr fun a ha => h a (Nat.lt_succ_of_lt ha), h k (Nat.lt_succ_self k)]
theorem dA_congr {n : Nat} {w : Nat → Nat → Int} : ∀ (m r : Nat) (S S' : Nat → Bool) (e : Int), (∀ a, a < n → S a = S' a) → dA n w m r S e = dA n w m r S' e
  | 0, _, _, _, _, _ => rfl
  | m + 1, r, S, S', e, h => by
    show sumN _ n = sumN _ n
    refine sumN_congr fun a ha => ?_
    rw [h a ha, cb_congr fun c hc => h c (Nat.lt_trans hc ha), dA_congr m (r + 1) (rem S a) (rem S' a) _ fun c hc => by rw [rem_at, rem_at, h c hc]]
theorem cb_pos {S : Nat → Bool} {n a : Nat} (h : S a = true) (ha : a < n) : 0 < cb S n := by
  have := cb_mono S (show a + 1 ≤ n from ha)
  have e : cb S (a + 1) = cb S a + 1 := by show cb S a + _ = _; rw [if_pos h]
  omega
/-- A table of 129 numbers for each set. -/
def mtab (N : Nat) (F : Nat → Nat → Int) : List Int := (List.range (N * 129)).map fun i => F (i / 129) (i % 129)
def prow (f : Nat → Int) : List Int := (List.range 129).map f
theorem prow_len (f : Nat → Int) : (prow f).length = 129 := by simp [prow]
theorem prow_get {f : Nat → Int} {k : Nat} (h : k < 129) : (prow f).getD k 0 = f k := by
  unfold prow
  rw [List.getD_eq_getElem?_getD, List.getElem?_map, List.getElem?_range h]; rfl
section
variable {N : Nat} {F G : Nat → Nat → Int}
theorem mtab_len : (mtab N F).length = N * 129 := by simp [mtab]
theorem mtab_at {i : Nat} (h : i < N * 129) : (mtab N F).getD i 0 = F (i / 129) (i % 129) := by
  unfold mtab
  rw [List.getD_eq_getElem?_getD, List.getElem?_map, List.getElem?_range h]; rfl
theorem mtab_get {s k : Nat} (hs : s < N) (hk : k < 129) : (mtab N F).getD (s * 129 + k) 0 = F s k := by
  rw [mtab_at (by have := Nat.mul_le_mul_right 129 (show s + 1 ≤ N from hs); omega), show (s * 129 + k) / 129 = s by omega, show (s * 129 + k) % 129 = k by omega]
theorem mext {A B : List Int} (h : A.length = B.length) (hg : ∀ i, i < A.length → A.getD i 0 = B.getD i 0) : A = B := by
  apply List.ext_getElem h
  intro i h1 h2
  have := hg i h1
  rw [List.getD_eq_getElem?_getD, List.getD_eq_getElem?_getD, List.getElem?_eq_getElem h1, List.getElem?_eq_getElem h2] at this
  simpa using this
theorem mtab_congr (h : ∀ s, s < N → ∀ k, k < 129 → F s k = G s k) : mtab N F = mtab N G := by
  unfold mtab
  refine List.map_congr_left fun i hi => ?_
  rw [List.mem_range] at hi
  exact h _ (by omega) _ (by omega)
theorem mtab_set {s k : Nat} {v : Int} (hs : s < N) (hk : k < 129) : (mtab N F).set (s * 129 + k) v = mtab N (fun s' k' => if s' = s ∧ k' = k then v else F s' k') := by
  have hb : s * 129 + k < N * 129 := by have := Nat.mul_le_mul_right 129 (show s + 1 ≤ N from hs); omega
  refine mext (by rw [List.length_set, mtab_len, mtab_len]) fun i hi => ?_
  rw [List.length_set, mtab_len] at hi
  rw [mtab_at hi]
  rw [List.getD_eq_getElem?_getD, List.getElem?_set]
  by_cases e : s * 129 + k = i
  · subst e
    rw [if_pos rfl, if_pos (by rw [mtab_len]; exact hb), if_pos ⟨by omega, by omega⟩]
    rfl
  · rw [if_neg e, if_neg (by omega), ← List.getD_eq_getElem?_getD, mtab_at hi]
theorem mtab_sub {s : Nat} (hs : s < N) : ((mtab N F).drop (s * 129)).take 129 = prow (F s) := by
  have hb := Nat.mul_le_mul_right 129 (show s + 1 ≤ N from hs)
  refine mext (by rw [List.length_take, List.length_drop, mtab_len, prow_len]; omega) fun i hi => ?_
  rw [List.length_take, List.length_drop, mtab_len] at hi
  rw [prow_get (by omega), ← mtab_get (F := F) hs (show i < 129 by omega), List.getD_eq_getElem?_getD, List.getElem?_take, if_pos (by omega), List.getElem?_drop, List.getD_eq_getElem?_getD]
theorem mtab_zero : mtab N (fun _ _ => 0) = List.replicate (N * 129) 0 := by
  refine mext (by rw [mtab_len, List.length_replicate]) fun i hi => ?_
  rw [mtab_len] at hi
  rw [mtab_at hi, List.getD_eq_getElem?_getD, List.getElem?_replicate, if_pos hi]
  rfl
end
section
variable (n : Nat) (w : Nat → Nat → Int)
def dBs (s k : Nat) : Int := dB n w (cb (bitsS s) n) 0 (bitsS s) ((k : Int) - 64)
/-- The sets before s are done; of s a part P is there. -/
def mF (s : Nat) (P : Nat → Int) : Nat → Nat → Int := fun s' k => if s' < s then dBs n w s' k else if s' = s then P k else 0
def fS (S : Nat → Bool) (m k a : Nat) : Int := if S a then sg (ab S n a) * dB n w m 0 (rem S a) ((k : Int) - 64 + w (0 + m) a) else 0
def pS (S : Nat → Bool) (m j k : Nat) : Int := sumN (fS n w S m k) n - sumN (fS n w S m k) j
def pK (S : Nat → Bool) (m a kk k : Nat) : Int := pS n w S m (a + 1) k + if (k : Int) + w m a < kk then sg (ab S n a) * dB n w m 0 (rem S a) ((k : Int) - 64 + w m a) else 0
end
section
variable {n : Nat} {w : Nat → Nat → Int} {S : Nat → Bool} {m a j k kk s : Nat}
theorem pS_top : pS n w S m n = fun _ => 0 := by
  funext k; unfold pS; omega
theorem pS_end (hc : cb S n = m + 1) : pS n w S m 0 k = dB n w (cb S n) 0 S ((k : Int) - 64) := by
  rw [hc]
  show sumN (fS n w S m k) n - 0 = sumN _ n
  rw [Int.sub_zero]
  rfl
theorem pS_skip (h : S a = false) : pS n w S m (a + 1) = pS n w S m a := by
  funext k
  show _ - (sumN (fS n w S m k) a + fS n w S m k a) = _ - sumN (fS n w S m k) a
  have : fS n w S m k a = 0 := by unfold fS; rw [h]; rfl
  omega
theorem pS_step (h : S a = true) : pS n w S m a k = pS n w S m (a + 1) k + sg (ab S n a) * dB n w m 0 (rem S a) ((k : Int) - 64 + w m a) := by
  show _ - sumN (fS n w S m k) a = _ - (sumN (fS n w S m k) a + fS n w S m k a) + _
  have : fS n w S m k a = sg (ab S n a) * dB n w m 0 (rem S a) ((k : Int) - 64 + w m a) := by unfold fS; rw [if_pos h, Nat.zero_add]
  omega
theorem dB_far8 (hw : ∀ r a, a < n → -8 ≤ w r a ∧ w r a ≤ 8) (m : Nat) {S : Nat → Bool} {e : Int} (h : e < -(8 * (m : Int)) ∨ 8 * (m : Int) < e) : dB n w m 0 S e = 0 := by
  rcases Decidable.em (dB n w m 0 S e = 0) with h1 | h1
  · exact h1
  · have := dB_far hw m 0 S e h1
    omega
theorem pK_zero (hw : ∀ r a, a < n → -8 ≤ w r a ∧ w r a ≤ 8) (hm : m ≤ 7) : pK n w S m a 0 = pS n w S m (a + 1) := by
  funext k
  unfold pK
  by_cases h : (k : Int) + w m a < (0 : Nat)
  · rw [if_pos h, dB_far8 hw m (.inl (by omega)), Int.mul_zero, Int.add_zero]
  · rw [if_neg h, Int.add_zero]
theorem pK_full (hw : ∀ r a, a < n → -8 ≤ w r a ∧ w r a ≤ 8) (hm : m ≤ 7) (h : S a = true) : pK n w S m a 129 = pS n w S m a := by
  funext k
  unfold pK
  rw [pS_step h]
  by_cases h : (k : Int) + w m a < (129 : Nat)
  · rw [if_pos h]
  · rw [if_neg h, dB_far8 hw m (.inr (by omega)), Int.mul_zero]
theorem pK_same (hd : dB n w m 0 (rem S a) ((kk : Int) - 64) = 0) : pK n w S m a (kk + 1) = pK n w S m a kk := by
  funext k
  unfold pK
  by_cases e : (k : Int) + w m a = kk
  · rw [if_pos (by omega), if_neg (by omega), show (k : Int) - 64 + w m a = (kk : Int) - 64 by omega, hd, Int.mul_zero]
  · by_cases h : (k : Int) + w m a < kk
    · rw [if_pos (by omega), if_pos h]
    · rw [if_neg (by omega), if_neg h]
theorem pK_step (h0 : (k : Int) + w m a = kk) : pK n w S m a (kk + 1) = fun k' => if k' = k then pK n w S m a kk k + sg (ab S n a) * dB n w m 0 (rem S a) ((kk : Int) - 64) else pK n w S m a kk k' := by
  funext k'
  unfold pK
  by_cases e : k' = k
  · subst e
    rw [if_pos rfl, if_pos (by omega), if_neg (by omega), show (k' : Int) - 64 + w m a = (kk : Int) - 64 by omega, Int.add_zero]
  · rw [if_neg e]
    by_cases h : (k' : Int) + w m a < kk
    · rw [if_pos (by omega), if_pos h]
    · rw [if_neg (by omega), if_neg h]
theorem mF_self {P : Nat → Int} : mF n w s P s k = P k := by
  unfold mF; rw [if_neg (Nat.lt_irrefl _), if_pos rfl]
theorem mF_less {P : Nat → Int} {s' : Nat} (h : s' < s) : mF n w s P s' k = dBs n w s' k := by
  unfold mF; rw [if_pos h]
theorem mF_set {P : Nat → Int} {v : Int} : (fun s' k' => if s' = s ∧ k' = k then v else mF n w s P s' k') = mF n w s (fun k' => if k' = k then v else P k') := by
  funext s' k'
  unfold mF
  by_cases h : s' = s
  · subst h
    rw [if_neg (Nat.lt_irrefl _), if_neg (Nat.lt_irrefl _), if_pos rfl, if_pos rfl]
    show _ = if k' = k then v else P k'
    by_cases hk : k' = k
    · rw [if_pos ⟨rfl, hk⟩, if_pos hk]
    · rw [if_neg (fun h => hk h.2), if_neg hk]
  · rw [if_neg (fun hh => h hh.1), if_neg h, if_neg h]
theorem mF_next (h : ∀ k, pS n w S m 0 k = dBs n w s k) : mF n w s (pS n w S m 0) = mF n w (s + 1) (fun _ => 0) := by
  funext s' k
  unfold mF
  by_cases h1 : s' < s
  · rw [if_pos h1, if_pos (by omega)]
  · rw [if_neg h1]
    by_cases h2 : s' = s
    · subst h2
      rw [if_pos rfl, if_pos (by omega), h]
    · rw [if_neg h2, if_neg (by omega)]
      split <;> rfl
theorem pK_small (hn : n ≤ 8) (hm : m ≤ 7) (ha : a < n) : -100000000 ≤ pK n w S m a kk k ∧ pK n w S m a kk k ≤ 100000000 := by
  have hp : (n : Int) ^ m ≤ 2097152 := by
    have h1 : n ^ m ≤ 8 ^ 7 := Nat.le_trans (Nat.pow_le_pow_left hn m) (Nat.pow_le_pow_right (by decide) hm)
    have h2 : ((n ^ m : Nat) : Int) = (n : Int) ^ m := Int.natCast_pow n m
    omega
  have hd : ∀ (S : Nat → Bool) (e : Int), -2097152 ≤ dB n w m 0 S e ∧ dB n w m 0 S e ≤ 2097152 := fun S e => by
    have := dB_bound n w m 0 S e
    omega
  have hf : ∀ i, -2097152 ≤ fS n w S m k i ∧ fS n w S m k i ≤ 2097152 := fun i => by
    unfold fS
    cases S i with
    | false => simp only [Bool.false_eq_true, if_false]; omega
    | true =>
      have := hd (rem S i) ((k : Int) - 64 + w (0 + m) i)
      rcases sg_cases (ab S n i) with h | h <;> rw [if_pos rfl, h] <;> omega
  have h1 := sumN_bound hf n
  have h4 : pK n w S m a kk k = sumN (fS n w S m k) n - sumN (fS n w S m k) (a + 1) + if (k : Int) + w m a < kk then sg (ab S n a) * dB n w m 0 (rem S a) ((k : Int) - 64 + w m a) else 0 := rfl
  have h2 := sumN_bound hf (a + 1)
  have h3 : -2097152 ≤ (if (k : Int) + w m a < kk then sg (ab S n a) * dB n w m 0 (rem S a) ((k : Int) - 64 + w m a) else 0) ∧ (if (k : Int) + w m a < kk then sg (ab S n a) * dB n w m 0 (rem S a) ((k : Int) - 64 + w m a) else 0) ≤ 2097152 := by
    have := hd (rem S a) ((k : Int) - 64 + w m a)
    split
    · rcases sg_cases (ab S n a) with h | h <;> rw [h] <;> omega
    · omega
  omega
end

end Go.Proofs

/-
  What the functions of this part hand back: each as a plain function of its arguments. Conditions: none.
-/
namespace Go.Proofs
open Go.W8
set_option linter.unusedVariables false
set_option linter.unusedSimpArgs false
set_option linter.unusedSectionVars false
set_option maxRecDepth 8000
set_option maxHeartbeats 4000000
theorem made_rep {k : IntKind} {m n : Nat} (hm : 0 < m) : (madeCells (ints k (List.replicate m 0)).toArray n).toList = ints k (List.replicate n 0) := by
  unfold madeCells
  apply List.ext_getElem?
  intro i
  have hs : ∀ j, j < m → (ints k (List.replicate m 0)).toArray[j]! = .int k 0 := by
    intro j hj
    have : (ints k (List.replicate m 0)).toArray = (List.replicate m (Value.int k 0)).toArray := by simp [ints]
    rw [this]
    simp [hj]
  by_cases h : i < n
  · simp only [Array.toList_map, Array.toList_range, List.getElem?_map, List.getElem?_range h, Option.map_some, List.size_toArray, ints_length, List.length_replicate]
    rw [hs _ (Nat.mod_lt _ hm)]
    simp [ints, h]
  · simp [ints, h]
theorem ints_agg {k : IntKind} {l : List Int} {i : Nat} (h : i < l.length) : (ints k l).toArray.getD i undef = .int k (l.getD i 0) := by
  rw [Array.getD_eq_getD_getElem?, List.getElem?_toArray, ints_get h]; rfl
theorem sub_ints {k : IntKind} {l : List Int} {o n : Nat} : subL (ints k l) o n = ints k ((l.drop o).take n) := by simp [subL, ints]
def detF (n : Nat) (x o : List Int) : List Int := prow (dBs n (wtG x o) (2 ^ n - 1))
theorem detF_same {n : Nat} (x o : List Int) (hn : n ≤ 8) : trimLow (-64) (detF n x o) = detLow n x o ∧ trimL (detF n x o) = detL n x o := by
  have hw : ∀ r a, a < n → -8 ≤ wtG x o r a ∧ wtG x o r a ≤ 8 := fun r a ha => wtG_bound x o r a (by omega)
  have hall : ∀ a, a < n → bitsS (2 ^ n - 1) a = true := fun a ha => by unfold bitsS; rw [Nat.testBit_two_pow_sub_one]; exact decide_eq_true ha
  have hcb : cb (bitsS (2 ^ n - 1)) n = n := cb_all hall
  have hAB : ∀ e, dA n (wtG x o) n 0 (freeS (List.replicate 8 false)) e = dB n (wtG x o) n 0 (bitsS (2 ^ n - 1)) e := fun e => by
    rw [← dA_dB n (wtG x o) n n (Nat.le_refl _) 0 _ hcb]
    refine dA_congr n 0 _ _ e fun a ha => ?_
    rw [hall a ha]
    unfold freeS
    rw [List.getD_eq_getElem?_getD, List.getElem?_replicate, if_pos (by omega)]
    rfl
  refine trim_eq fun e => ?_
  have h1 : coefAt (-64) (detF n x o) e = dB n (wtG x o) n 0 (bitsS (2 ^ n - 1)) e := by
    unfold coefAt
    by_cases h : (-64 : Int) ≤ e
    · rw [if_pos h]
      by_cases h2 : (e - -64).toNat < 129
      · unfold detF
        rw [prow_get h2]
        unfold dBs
        rw [hcb, show (((e - -64).toNat : Nat) : Int) - 64 = e by omega]
      · rw [getD_far (by unfold detF; rw [prow_len]; omega), dB_far8 hw n (.inr (by omega))]
    · rw [if_neg h, dB_far8 hw n (.inl (by omega))]
  have h2 : coefAt (-8 * (n : Int)) (detC n x o) e = dB n (wtG x o) n 0 (bitsS (2 ^ n - 1)) e := by
    unfold coefAt
    by_cases h : -8 * (n : Int) ≤ e
    · rw [if_pos h]
      by_cases h2 : (e - -8 * (n : Int)).toNat < 16 * n + 1
      · unfold detC
        rw [cntL_get (by rw [List.length_replicate]; exact h2), List.getD_eq_getElem?_getD, List.getElem?_replicate, if_pos h2, hAB, show (((e - -8 * (n : Int)).toNat : Nat) : Int) - 0 - 8 * (n : Int) = e by omega]
        simp
      · rw [getD_far (by rw [detC_len]; omega), dB_far8 hw n (.inr (by omega))]
    · rw [if_neg h, dB_far8 hw n (.inl (by omega))]
  rw [h1, h2]
theorem cb_none {S : Nat → Bool} (h : ∀ a, S a = false) : ∀ k, cb S k = 0
  | 0 => rfl
  | k + 1 => by
    show cb S k + (if S k = true then 1 else 0) = 0
    rw [cb_none h k, h k]; rfl
theorem dBs_zero (n : Nat) (w : Nat → Nat → Int) (k : Nat) : dBs n w 0 k = if k = 64 then 1 else 0 := by
  unfold dBs
  rw [cb_none (S := bitsS 0) (fun a => Nat.zero_testBit a)]
  show (if _ then (1 : Int) else 0) = _
  by_cases h : k = 64
  · rw [if_pos h, if_pos (by omega)]
  · rw [if_neg h, if_neg (by omega)]
theorem mtab_start {N : Nat} (h : 0 < N) (n : Nat) (w : Nat → Nat → Int) : (List.replicate (N * 129) (0 : Int)).set 64 1 = mtab N (mF n w 1 (fun _ => 0)) := by
  rw [← mtab_zero (N := N)]
  have := mtab_set (N := N) (F := fun _ _ => 0) (s := 0) (k := 64) (v := 1) h (by decide)
  rw [show (0 : Nat) * 129 + 64 = 64 from rfl] at this
  rw [this]
  refine mtab_congr fun s hs k hk => ?_
  unfold mF
  by_cases h0 : s = 0
  · subst h0
    rw [if_pos (by decide : 0 < 1), dBs_zero]
    by_cases hk : k = 64
    · rw [if_pos ⟨rfl, hk⟩, if_pos hk]
    · rw [if_neg (fun h => hk h.2), if_neg hk]
  · rw [if_neg (fun h => h0 h.1), if_neg (by omega)]
    split <;> rfl
section
variable (n : Nat) (x o : List Int) (hx : Bytes8 x) (ho : Bytes8 o) (hn : n ≤ 8) (hn2 : 2 ≤ n)
include hx ho hn hn2
theorem determinant_c : GivesX Try.prog 38 #[.agg (gc (n : Int) x o).toArray] [] [] (LauV (detLow n x o) (detL n x o)) := by
  have hl := hx.len
  have hm := ho.len
  have hw : ∀ r a, a < n → -8 ≤ wtG x o r a ∧ wtG x o r a ≤ 8 := fun r a ha => wtG_bound x o r a (by omega)
  have hN8 : 2 ^ n ≤ 256 := Nat.pow_le_pow_right (n := 2) (by decide) hn
  have hN4 : 4 ≤ 2 ^ n := Nat.pow_le_pow_right (n := 2) (by decide) hn2
  have ew := bitW n (by omega)
  have hall : ∀ s, s < 2 ^ n → ∀ c, n ≤ c → bitsS s c = false := fun s hs c hc => Nat.testBit_lt_two_pow (Nat.lt_of_lt_of_le hs (Nat.pow_le_pow_right (by decide) hc))
  rw [← (detF_same x o hn).1, ← (detF_same x o hn).2]
  unfold detF
  generalize hNN : 2 ^ n = N at *
  refine GivesX.part ?_
  skip
  refine GivesX.of (callable_of Try.func38 rfl (by decide)) ?_ fun w hnd hlt hR => ?_
  · simp
  refine acall_of (N := 92) (c := _) (rs := [.cell 2 35]) (args := [_]) Try.func38 rfl (by decide) rfl rfl (Nat.le_of_ble_eq_true rfl) ?_
  refine Cd.rs [1, 2] fun K hK => ?_
  simp (maxSteps := 2000000) (disch := first | (simp only [E4, hl, hm, ew] <;> omega) | omega | fail) only [↓E2, E3, bare, bareJ, ↓E0, E1, env0, envN, evOps, evOp, evQs, evQ, evV, setD, pureOp, ev, upd, updL, Value.cells, hav, delB, ↓reduceIte, Zj, Zk, Nat.reduceAdd, Nat.reduceLT, Nat.reduceEqDiff, Nat.reduceMul, Nat.reduceLeDiff, if_true, Zn, reduceCtorEq, ZA, eq_self, Int.reduceLE, Int.reduceLT, Int.reduceToNat, ne_eq, Nat.reduceSub, Tzero35, hl, hm, ew]
  repeat refine And.intro (by omega) ?_
  intro b1 hb1
  intro b2 hb2
  have nb2_b1 := hb2.ne
  try simp (maxSteps := 2000000) (disch := first | (simp only [E4, hl, hm, ew] <;> omega) | omega | fail) only [↓E2, E3, bare, bareJ, ↓E0, E1, env0, envN, evOps, evOp, evQs, evQ, evV, setD, pureOp, ev, upd, updL, Value.cells, hav, delB, ↓reduceIte, Zj, Zk, Nat.reduceAdd, Nat.reduceLT, Nat.reduceEqDiff, Nat.reduceMul, Nat.reduceLeDiff, if_true, Zn, reduceCtorEq, ZA, eq_self, Int.reduceLE, Int.reduceLT, Int.reduceToNat, ne_eq, Nat.reduceSub, Tzero35, hl, hm, ew, nb2_b1]
  repeat refine And.intro (by omega) ?_
  repeat refine And.intro (by omega) ?_
  intro g
  simp only [List.map_cons, List.map_nil, updL, upd, Nat.reduceEqDiff, if_true, if_false, ↓reduceIte]
  refine hK _ _ ?_; clear hK K
  have n2 : ¬ b2 = b1 := hb2.2 (b1, gc (n : Int) x o) (by simp)
  skip
  skip
  refine Cd.rs [1, 2, 3] fun K hK => ?_
  simp (maxSteps := 2000000) (disch := first | (simp only [E4, hl, hm, ew] <;> omega) | omega | fail) only [↓E2, E3, bare, bareJ, ↓E0, E1, env0, envN, evOps, evOp, evQs, evQ, evV, setD, pureOp, ev, upd, updL, cellAt, cellsAt, findB, setB, hav, delB, ↓reduceIte, Zj, Zk, Nat.reduceAdd, Nat.reduceLT, Nat.reduceEqDiff, Nat.reduceMul, Nat.reduceLeDiff, if_true, Zn, reduceCtorEq, ZA, eq_self, Int.reduceLE, Int.reduceLT, Int.reduceToNat, ne_eq, Nat.reduceSub, Tld27, hl, hm, ew, nb2_b1, n2]
  repeat refine And.intro (by omega) ?_
  refine callK_gives (n_c _ _ _ hl hm) ?_
  simp (maxSteps := 2000000) (disch := first | (simp only [E4, hl, hm, ew] <;> omega) | omega | fail) only [↓E2, E3, bare, bareJ, ↓E0, E1, env0, envN, evOps, evOp, evQs, evQ, evV, setD, pureOp, ev, upd, updL, cellAt, cellsAt, findB, setB, hav, delB, ↓reduceIte, Zj, Zk, Nat.reduceAdd, Nat.reduceLT, Nat.reduceEqDiff, Nat.reduceMul, Nat.reduceLeDiff, if_true, Zn, reduceCtorEq, ZA, eq_self, Int.reduceLE, Int.reduceLT, Int.reduceToNat, ne_eq, Nat.reduceSub, Tld27, hl, hm, ew, nb2_b1, n2]
  repeat refine And.intro (by omega) ?_
  repeat refine And.intro (by omega) ?_
  intro g
  simp only [List.map_cons, List.map_nil, updL, upd, Nat.reduceEqDiff, if_true, if_false, ↓reduceIte]
  refine hK _ _ ?_; clear hK K
  refine Cd.rs [1, 2, 3, 4] fun K hK => ?_
  simp (maxSteps := 2000000) (disch := first | (simp only [E4, hl, hm, ew] <;> omega) | omega | fail) only [↓E2, E3, bare, bareJ, ↓E0, E1, env0, envN, evOps, evOp, evQs, evQ, evV, setD, pureOp, ev, upd, updL, binW, eqOp, binV, intOp, shOp, boolOp, Value.cells, hav, mksQ, delB, eqL, SameI, strOp, ↓reduceIte, Zj, Zk, Nat.reduceAdd, Nat.reduceLT, Nat.reduceEqDiff, Nat.reduceMul, Nat.reduceLeDiff, if_true, Zn, reduceCtorEq, ZA, eq_self, Int.reduceLE, Int.reduceLT, Int.reduceToNat, ne_eq, Nat.reduceSub, Tby79, Tslc77, Tslce77, Tzero79, hl, hm, ew, nb2_b1, n2]
  repeat refine And.intro (by omega) ?_
  intro b3 hb3
  have nb3_b2 := hb3.ne
  have nb3_b1 := hb3.tail.ne
  try simp (maxSteps := 2000000) (disch := first | (simp only [E4, hl, hm, ew] <;> omega) | omega | fail) only [↓E2, E3, bare, bareJ, ↓E0, E1, env0, envN, evOps, evOp, evQs, evQ, evV, setD, pureOp, ev, upd, updL, binW, eqOp, binV, intOp, shOp, boolOp, Value.cells, hav, mksQ, delB, eqL, SameI, strOp, ↓reduceIte, Zj, Zk, Nat.reduceAdd, Nat.reduceLT, Nat.reduceEqDiff, Nat.reduceMul, Nat.reduceLeDiff, if_true, Zn, reduceCtorEq, ZA, eq_self, Int.reduceLE, Int.reduceLT, Int.reduceToNat, ne_eq, Nat.reduceSub, Tby79, Tslc77, Tslce77, Tzero79, hl, hm, ew, nb2_b1, n2, nb3_b2, nb3_b1]
  repeat refine And.intro (by omega) ?_
  rw [made_rep (by decide)]
  repeat refine And.intro (by omega) ?_
  intro g
  simp only [List.map_cons, List.map_nil, updL, upd, Nat.reduceEqDiff, if_true, if_false, ↓reduceIte]
  refine hK _ _ ?_; clear hK K
  refine Cd.rs [1, 2, 3, 4] fun K hK => ?_
  simp (maxSteps := 2000000) (disch := first | (simp only [E4, hl, hm, ew] <;> omega) | omega | fail) only [↓E2, E3, bare, bareJ, ↓E0, E1, env0, envN, evOps, evOp, evQs, evQ, evV, setD, pureOp, ev, upd, updL, indexAddrV, cellAt, cellsAt, findB, setB, Value.cells, hav, delB, ↓reduceIte, Zj, Zk, Nat.reduceAdd, Nat.reduceLT, Nat.reduceEqDiff, Nat.reduceMul, Nat.reduceLeDiff, if_true, Zn, reduceCtorEq, ZA, eq_self, Int.reduceLE, Int.reduceLT, Int.reduceToNat, ne_eq, Nat.reduceSub, Tarr79, Tslc77, Tst2, hl, hm, ew, nb2_b1, n2, nb3_b2, nb3_b1]
  repeat refine And.intro (by omega) ?_
  have est := mtab_start (N := N) (by omega) n (wtG x o)
  simp (maxSteps := 2000000) (disch := first | (simp only [E4, hl, hm, ew, est] <;> omega) | omega | fail) only [↓E2, E3, bare, bareJ, ↓E0, E1, env0, envN, evOps, evOp, evQs, evQ, evV, setD, pureOp, ev, upd, updL, indexAddrV, cellAt, cellsAt, findB, setB, Value.cells, hav, delB, ↓reduceIte, Zj, Zk, Nat.reduceAdd, Nat.reduceLT, Nat.reduceEqDiff, Nat.reduceMul, Nat.reduceLeDiff, if_true, Zn, reduceCtorEq, ZA, eq_self, Int.reduceLE, Int.reduceLT, Int.reduceToNat, ne_eq, Nat.reduceSub, Tarr79, Tslc77, Tst2, hl, hm, ew, nb2_b1, n2, nb3_b2, nb3_b1, est]
  repeat refine And.intro (by omega) ?_
  repeat refine And.intro (by omega) ?_
  intro g
  simp only [List.map_cons, List.map_nil, updL, upd, Nat.reduceEqDiff, if_true, if_false, ↓reduceIte]
  refine hK _ _ ?_; clear hK K
  refine Cd.seq ?_
  refine Cd.rs [1, 2, 3, 4, 5] fun K hK => ?_
  simp (maxSteps := 2000000) (disch := first | (simp only [E4, hl, hm, ew] <;> omega) | omega | fail) only [↓E2, E3, bare, bareJ, ↓E0, E1, env0, envN, evOps, evOp, evQs, evQ, evV, setD, pureOp, ev, upd, updL, hav, delB, ↓reduceIte, Zj, Zk, Nat.reduceAdd, Nat.reduceLT, Nat.reduceEqDiff, Nat.reduceMul, Nat.reduceLeDiff, if_true, Zn, reduceCtorEq, ZA, eq_self, Int.reduceLE, Int.reduceLT, Int.reduceToNat, ne_eq, Nat.reduceSub, hl, hm, ew, nb2_b1, n2, nb3_b2, nb3_b1]
  repeat refine And.intro (by omega) ?_
  repeat refine And.intro (by omega) ?_
  intro g
  simp only [List.map_cons, List.map_nil, updL, upd, Nat.reduceEqDiff, if_true, if_false, ↓reduceIte]
  refine hK _ _ ?_; clear hK K
  refine Cd.block ?_
  refine Cd.loop (fun q ρ M => ∃ g s, s + q = N ∧ 0 < s ∧ ρ = updL [(1, .pointer (some ⟨b1, 0, none⟩)), (2, .pointer (some ⟨b2, 0, none⟩)), (3, .int .i64 (n : Int)), (4, .slice (some ⟨b3, 0, none⟩) N N), (5, .int .i64 (s : Int))] g ∧
    M = [(b3, ints .i64 (mtab N (mF n (wtG x o) s (fun _ => 0)))), (b2, [.int .i64 0, .slice none 0 0]), (b1, gc (n : Int) x o)]) (N - 1) ⟨_, 1, by omega, by decide, rfl, rfl⟩ ?_
  rintro q ρ M ⟨g, s, hs, hs0, rfl, rfl⟩
  refine Cd.seq ?_
  refine Cd.rs [1, 2, 3, 4, 5, 25] fun K hK => ?_
  simp (maxSteps := 2000000) (disch := first | (simp only [E4, hl, hm, ew] <;> omega) | omega | fail) only [↓E2, E3, bare, bareJ, ↓E0, E1, env0, envN, evOps, evOp, evQs, evQ, evV, setD, pureOp, ev, upd, updL, binW, eqOp, binV, intOp, shOp, boolOp, hav, delB, eqL, SameI, strOp, ↓reduceIte, Zj, Zk, Nat.reduceAdd, Nat.reduceLT, Nat.reduceEqDiff, Nat.reduceMul, Nat.reduceLeDiff, if_true, Zn, reduceCtorEq, ZA, eq_self, Int.reduceLE, Int.reduceLT, Int.reduceToNat, ne_eq, Nat.reduceSub, hl, hm, ew, nb2_b1, n2, nb3_b2, nb3_b1]
  repeat refine And.intro (by omega) ?_
  repeat refine And.intro (by omega) ?_
  intro g
  simp only [List.map_cons, List.map_nil, updL, upd, Nat.reduceEqDiff, if_true, if_false, ↓reduceIte]
  refine hK _ _ ?_; clear hK K
  refine Cd.condd rfl (fun h1 => ?_) (fun h1 => ?_)
  · refine Cd.skip ?_
    refine thenN ?_
    refine Cd.seq ?_
    refine Cd.block ?_
    refine Cd.rs [1, 2, 3, 4, 5, 6] fun K hK => ?_
    simp (maxSteps := 2000000) (disch := first | (simp only [E4, hl, hm, ew] <;> omega) | omega | fail) only [↓E2, E3, bare, bareJ, ↓E0, E1, env0, envN, evOps, evOp, evQs, evQ, evV, setD, pureOp, ev, upd, updL, hav, delB, ↓reduceIte, Zj, Zk, Nat.reduceAdd, Nat.reduceLT, Nat.reduceEqDiff, Nat.reduceMul, Nat.reduceLeDiff, if_true, Zn, reduceCtorEq, ZA, eq_self, Int.reduceLE, Int.reduceLT, Int.reduceToNat, ne_eq, Nat.reduceSub, hl, hm, ew, nb2_b1, n2, nb3_b2, nb3_b1]
    repeat refine And.intro (by omega) ?_
    repeat refine And.intro (by omega) ?_
    intro g
    simp only [List.map_cons, List.map_nil, updL, upd, Nat.reduceEqDiff, if_true, if_false, ↓reduceIte]
    refine hK _ _ ?_; clear hK K
    refine Cd.seq ?_
    refine Cd.rs [1, 2, 3, 4, 5, 6, 28, 29] fun K hK => ?_
    simp (maxSteps := 2000000) (disch := first | (simp only [E4, hl, hm, ew] <;> omega) | omega | fail) only [↓E2, E3, bare, bareJ, ↓E0, E1, env0, envN, evOps, evOp, evQs, evQ, evV, setD, pureOp, ev, upd, updL, hav, delB, ↓reduceIte, Zj, Zk, Nat.reduceAdd, Nat.reduceLT, Nat.reduceEqDiff, Nat.reduceMul, Nat.reduceLeDiff, if_true, Zn, reduceCtorEq, ZA, eq_self, Int.reduceLE, Int.reduceLT, Int.reduceToNat, ne_eq, Nat.reduceSub, hl, hm, ew, nb2_b1, n2, nb3_b2, nb3_b1]
    repeat refine And.intro (by omega) ?_
    repeat refine And.intro (by omega) ?_
    intro g
    simp only [List.map_cons, List.map_nil, updL, upd, Nat.reduceEqDiff, if_true, if_false, ↓reduceIte]
    refine hK _ _ ?_; clear hK K
    refine Cd.block ?_
    refine Cd.loop (fun q ρ M => ∃ g i, i + q = n ∧ ρ = updL [(1, .pointer (some ⟨b1, 0, none⟩)), (2, .pointer (some ⟨b2, 0, none⟩)), (3, .int .i64 (n : Int)), (4, .slice (some ⟨b3, 0, none⟩) N N), (5, .int .i64 (s : Int)), (6, .int .i64 (((cb (bitsS s) i : Nat) : Int) - 1)), (28, .int .i64 (n : Int)), (29, .int .i64 (i : Int))] g ∧
      M = [(b3, ints .i64 (mtab N (mF n (wtG x o) s (fun _ => 0)))), (b2, [.int .i64 0, .slice none 0 0]), (b1, gc (n : Int) x o)]) n ⟨_, 0, Nat.zero_add _, rfl, rfl⟩ ?_
    rintro q2 ρ M ⟨g, i, hi, rfl, rfl⟩
    refine Cd.rs [1, 2, 3, 4, 5, 6, 28, 29, 30] fun K hK => ?_
    simp (maxSteps := 2000000) (disch := first | (simp only [E4, hl, hm, ew] <;> omega) | omega | fail) only [↓E2, E3, bare, bareJ, ↓E0, E1, env0, envN, evOps, evOp, evQs, evQ, evV, setD, pureOp, ev, upd, updL, binW, eqOp, binV, intOp, shOp, boolOp, hav, delB, eqL, SameI, strOp, ↓reduceIte, Zj, Zk, Nat.reduceAdd, Nat.reduceLT, Nat.reduceEqDiff, Nat.reduceMul, Nat.reduceLeDiff, if_true, Zn, reduceCtorEq, ZA, eq_self, Int.reduceLE, Int.reduceLT, Int.reduceToNat, ne_eq, Nat.reduceSub, hl, hm, ew, nb2_b1, n2, nb3_b2, nb3_b1]
    repeat refine And.intro (by omega) ?_
    repeat refine And.intro (by omega) ?_
    intro g
    simp only [List.map_cons, List.map_nil, updL, upd, Nat.reduceEqDiff, if_true, if_false, ↓reduceIte]
    refine hK _ _ ?_; clear hK K
    refine Cd.seq ?_
    refine Cd.condd rfl (fun h2 => ?_) (fun h2 => ?_)
    · have hcb := cb_le (bitsS s) i
      have ebv := bitV s (by omega) i (by omega)
      have ecb : ((cb (bitsS s) (i + 1) : Nat) : Int) = ((cb (bitsS s) i : Nat) : Int) + (if s.testBit i then 1 else 0) := by
        show ((cb (bitsS s) i + (if bitsS s i = true then 1 else 0) : Nat) : Int) = _
        unfold bitsS
        split <;> omega
      have eb2 : 0 ≤ (if s.testBit i then (1 : Int) else 0) ∧ (if s.testBit i then (1 : Int) else 0) ≤ 1 := by split <;> omega
      generalize (if s.testBit i then (1 : Int) else 0) = bv at *
      refine Cd.skip ?_
      refine thenN ?_
      refine Cd.seq ?_
      refine Cd.block ?_
      refine Cd.rs [1, 2, 3, 4, 5, 6, 7, 28, 29] fun K hK => ?_
      simp (maxSteps := 2000000) (disch := first | (simp only [E4, hl, hm, ew] <;> omega) | omega | fail) only [↓E2, E3, bare, bareJ, ↓E0, E1, env0, envN, evOps, evOp, evQs, evQ, evV, setD, pureOp, ev, upd, updL, hav, delB, ↓reduceIte, Zj, Zk, Nat.reduceAdd, Nat.reduceLT, Nat.reduceEqDiff, Nat.reduceMul, Nat.reduceLeDiff, if_true, Zn, reduceCtorEq, ZA, eq_self, Int.reduceLE, Int.reduceLT, Int.reduceToNat, ne_eq, Nat.reduceSub, hl, hm, ew, nb2_b1, n2, nb3_b2, nb3_b1]
      repeat refine And.intro (by omega) ?_
      repeat refine And.intro (by omega) ?_
      intro g
      simp only [List.map_cons, List.map_nil, updL, upd, Nat.reduceEqDiff, if_true, if_false, ↓reduceIte]
      refine hK _ _ ?_; clear hK K
      refine Cd.rr [1, 2, 3, 4, 5, 6, 28, 29] fun K hK => ?_
      simp (maxSteps := 2000000) (disch := first | (simp only [E4, hl, hm, ew, ebv] <;> omega) | omega | fail) only [↓E2, E3, bare, bareJ, ↓E0, E1, env0, envN, evOps, evOp, evQs, evQ, evV, setD, pureOp, ev, upd, updL, binW, eqOp, binV, intOp, shOp, boolOp, hav, delB, eqL, SameI, strOp, ↓reduceIte, Zj, Zk, Nat.reduceAdd, Nat.reduceLT, Nat.reduceEqDiff, Nat.reduceMul, Nat.reduceLeDiff, if_true, Zn, reduceCtorEq, ZA, eq_self, Int.reduceLE, Int.reduceLT, Int.reduceToNat, ne_eq, Nat.reduceSub, hl, hm, ew, nb2_b1, n2, nb3_b2, nb3_b1, ebv]
      repeat refine And.intro (by omega) ?_
      repeat refine And.intro (by omega) ?_
      intro g
      simp only [List.map_cons, List.map_nil, updL, upd, Nat.reduceEqDiff, if_true, if_false, ↓reduceIte]
      refine hK _ _ ?_; clear hK K
      refine inBN ?_
      refine thenN ?_
      refine Cd.rr [1, 2, 3, 4, 5, 6, 28, 29] fun K hK => ?_
      simp (maxSteps := 2000000) (disch := first | (simp only [E4, hl, hm, ew] <;> omega) | omega | fail) only [↓E2, E3, bare, bareJ, ↓E0, E1, env0, envN, evOps, evOp, evQs, evQ, evV, setD, pureOp, ev, upd, updL, binW, eqOp, binV, intOp, shOp, boolOp, hav, delB, eqL, SameI, strOp, ↓reduceIte, Zj, Zk, Nat.reduceAdd, Nat.reduceLT, Nat.reduceEqDiff, Nat.reduceMul, Nat.reduceLeDiff, if_true, Zn, reduceCtorEq, ZA, eq_self, Int.reduceLE, Int.reduceLT, Int.reduceToNat, ne_eq, Nat.reduceSub, hl, hm, ew, nb2_b1, n2, nb3_b2, nb3_b1]
      repeat refine And.intro (by omega) ?_
      repeat refine And.intro (by omega) ?_
      intro g
      simp only [List.map_cons, List.map_nil, updL, upd, Nat.reduceEqDiff, if_true, if_false, ↓reduceIte]
      refine hK _ _ ?_; clear hK K
      exact roundN (m := q2 - 1) (by omega) ⟨_, i + 1, by omega, by rw [ecb, show ((cb (bitsS s) i : Nat) : Int) + bv - 1 = ((cb (bitsS s) i : Nat) : Int) - 1 + bv by omega]; rfl, rfl⟩
    · obtain rfl : n = i := by omega
      refine Cd.exit (thenX (roundX (inBX ?_)))
      refine thenN ?_
      have hcp : 0 < cb (bitsS s) n := by
        obtain ⟨a, ha⟩ := Nat.exists_testBit_of_ne_zero (show s ≠ 0 by omega)
        by_cases hlt : a < n
        · exact cb_pos (S := bitsS s) ha hlt
        · rw [show s.testBit a = false from hall s (by omega) a (by omega)] at ha
          cases ha
      obtain ⟨m, hm1⟩ : ∃ m, cb (bitsS s) n = m + 1 := ⟨cb (bitsS s) n - 1, by omega⟩
      have hm7 : m ≤ 7 := by have := cb_le (bitsS s) n; omega
      rw [hm1, show ((m + 1 : Nat) : Int) - 1 = (m : Int) by omega, show (fun (_ : Nat) => (0 : Int)) = pS n (wtG x o) (bitsS s) m n from pS_top.symm]
      refine Cd.rs [1, 2, 3, 4, 5, 6, 8] fun K hK => ?_
      simp (maxSteps := 2000000) (disch := first | (simp only [E4, hl, hm, ew] <;> omega) | omega | fail) only [↓E2, E3, bare, bareJ, ↓E0, E1, env0, envN, evOps, evOp, evQs, evQ, evV, setD, pureOp, ev, upd, updL, hav, delB, ↓reduceIte, Zj, Zk, Nat.reduceAdd, Nat.reduceLT, Nat.reduceEqDiff, Nat.reduceMul, Nat.reduceLeDiff, if_true, Zn, reduceCtorEq, ZA, eq_self, Int.reduceLE, Int.reduceLT, Int.reduceToNat, ne_eq, Nat.reduceSub, hl, hm, ew, nb2_b1, n2, nb3_b2, nb3_b1]
      repeat refine And.intro (by omega) ?_
      repeat refine And.intro (by omega) ?_
      intro g
      simp only [List.map_cons, List.map_nil, updL, upd, Nat.reduceEqDiff, if_true, if_false, ↓reduceIte]
      refine hK _ _ ?_; clear hK K
      refine Cd.rs [1, 2, 3, 4, 5, 6, 8, 9] fun K hK => ?_
      simp (maxSteps := 2000000) (disch := first | (simp only [E4, hl, hm, ew] <;> omega) | omega | fail) only [↓E2, E3, bare, bareJ, ↓E0, E1, env0, envN, evOps, evOp, evQs, evQ, evV, setD, pureOp, ev, upd, updL, binW, eqOp, binV, intOp, shOp, boolOp, hav, delB, eqL, SameI, strOp, ↓reduceIte, Zj, Zk, Nat.reduceAdd, Nat.reduceLT, Nat.reduceEqDiff, Nat.reduceMul, Nat.reduceLeDiff, if_true, Zn, reduceCtorEq, ZA, eq_self, Int.reduceLE, Int.reduceLT, Int.reduceToNat, ne_eq, Nat.reduceSub, hl, hm, ew, nb2_b1, n2, nb3_b2, nb3_b1]
      repeat refine And.intro (by omega) ?_
      repeat refine And.intro (by omega) ?_
      intro g
      simp only [List.map_cons, List.map_nil, updL, upd, Nat.reduceEqDiff, if_true, if_false, ↓reduceIte]
      refine hK _ _ ?_; clear hK K
      refine Cd.block ?_
      refine Cd.loop (fun j ρ M => ∃ g, j ≤ n ∧ ρ = updL [(1, .pointer (some ⟨b1, 0, none⟩)), (2, .pointer (some ⟨b2, 0, none⟩)), (3, .int .i64 (n : Int)), (4, .slice (some ⟨b3, 0, none⟩) N N), (5, .int .i64 (s : Int)), (6, .int .i64 (m : Int)), (8, .int .i64 (sg (cb (bitsS s) n - cb (bitsS s) j))), (9, .int .i64 ((j : Int) - 1))] g ∧
        M = [(b3, ints .i64 (mtab N (mF n (wtG x o) s (pS n (wtG x o) (bitsS s) m j)))), (b2, [.int .i64 0, .slice none 0 0]), (b1, gc (n : Int) x o)]) n ⟨_, Nat.le_refl _, by rw [Nat.sub_self]; rfl, rfl⟩ ?_
      rintro j ρ M ⟨g, hj, rfl, rfl⟩
      refine Cd.seq ?_
      refine Cd.rs [1, 2, 3, 4, 5, 6, 8, 9, 42] fun K hK => ?_
      simp (maxSteps := 2000000) (disch := first | (simp only [E4, hl, hm, ew] <;> omega) | omega | fail) only [↓E2, E3, bare, bareJ, ↓E0, E1, env0, envN, evOps, evOp, evQs, evQ, evV, setD, pureOp, ev, upd, updL, binW, eqOp, binV, intOp, shOp, boolOp, hav, delB, eqL, SameI, strOp, ↓reduceIte, Zj, Zk, Nat.reduceAdd, Nat.reduceLT, Nat.reduceEqDiff, Nat.reduceMul, Nat.reduceLeDiff, if_true, Zn, reduceCtorEq, ZA, eq_self, Int.reduceLE, Int.reduceLT, Int.reduceToNat, ne_eq, Nat.reduceSub, hl, hm, ew, nb2_b1, n2, nb3_b2, nb3_b1]
      repeat refine And.intro (by omega) ?_
      repeat refine And.intro (by omega) ?_
      intro g
      simp only [List.map_cons, List.map_nil, updL, upd, Nat.reduceEqDiff, if_true, if_false, ↓reduceIte]
      refine hK _ _ ?_; clear hK K
      refine Cd.condd rfl (fun h3 => ?_) (fun h3 => ?_)
      · obtain ⟨a, rfl⟩ : ∃ a, j = a + 1 := ⟨j - 1, by omega⟩
        rw [show ((a + 1 : Nat) : Int) - 1 = (a : Int) by omega]
        have hcs : cb (bitsS s) (a + 1) = cb (bitsS s) a + if bitsS s a = true then 1 else 0 := rfl
        have hcm := cb_mono (bitsS s) (show a + 1 ≤ n from hj)
        have ebv := bitV s (by omega) a (by omega)
        have eab : ab (bitsS s) n a = cb (bitsS s) n - cb (bitsS s) (a + 1) := rfl
        refine Cd.skip ?_
        refine thenN ?_
        refine Cd.seq ?_
        refine Cd.block ?_
        refine Cd.seq ?_
        refine Cd.rs [1, 2, 3, 4, 5, 6, 8, 9, 49] fun K hK => ?_
        simp (maxSteps := 2000000) (disch := first | (simp only [E4, hl, hm, ew, ebv] <;> omega) | omega | fail) only [↓E2, E3, bare, bareJ, ↓E0, E1, env0, envN, evOps, evOp, evQs, evQ, evV, setD, pureOp, ev, upd, updL, binW, eqOp, binV, intOp, shOp, boolOp, hav, delB, eqL, SameI, strOp, ↓reduceIte, Zj, Zk, Nat.reduceAdd, Nat.reduceLT, Nat.reduceEqDiff, Nat.reduceMul, Nat.reduceLeDiff, if_true, Zn, reduceCtorEq, ZA, eq_self, Int.reduceLE, Int.reduceLT, Int.reduceToNat, ne_eq, Nat.reduceSub, hl, hm, ew, nb2_b1, n2, nb3_b2, nb3_b1, ebv]
        repeat refine And.intro (by omega) ?_
        repeat refine And.intro (by omega) ?_
        intro g
        simp only [List.map_cons, List.map_nil, updL, upd, Nat.reduceEqDiff, if_true, if_false, ↓reduceIte]
        refine hK _ _ ?_; clear hK K
        refine Cd.cond rfl (fun h4 => ?_) (fun h4 => ?_)
        · have hS : bitsS s a = false := by
            unfold bitsS
            cases hb : s.testBit a with
            | false => rfl
            | true => rw [hb] at h4; cases h4
          rw [hS] at hcs
          simp only [Bool.false_eq_true, if_false, Nat.add_zero] at hcs
          refine Cd.exit (thenX (inBX ?_))
          refine thenN ?_
          refine Cd.rr [1, 2, 3, 4, 5, 6, 8, 9] fun K hK => ?_
          simp (maxSteps := 2000000) (disch := first | (simp only [E4, hl, hm, ew] <;> omega) | omega | fail) only [↓E2, E3, bare, bareJ, ↓E0, E1, env0, envN, evOps, evOp, evQs, evQ, evV, setD, pureOp, ev, upd, updL, binW, eqOp, binV, intOp, shOp, boolOp, hav, delB, eqL, SameI, strOp, ↓reduceIte, Zj, Zk, Nat.reduceAdd, Nat.reduceLT, Nat.reduceEqDiff, Nat.reduceMul, Nat.reduceLeDiff, if_true, Zn, reduceCtorEq, ZA, eq_self, Int.reduceLE, Int.reduceLT, Int.reduceToNat, ne_eq, Nat.reduceSub, hl, hm, ew, nb2_b1, n2, nb3_b2, nb3_b1]
          repeat refine And.intro (by omega) ?_
          repeat refine And.intro (by omega) ?_
          intro g
          simp only [List.map_cons, List.map_nil, updL, upd, Nat.reduceEqDiff, if_true, if_false, ↓reduceIte]
          refine hK _ _ ?_; clear hK K
          exact roundN (m := a) (by omega) ⟨_, by omega, by rw [hcs]; rfl, by rw [pS_skip hS]⟩
        · have hS : bitsS s a = true := by
            unfold bitsS
            cases hb : s.testBit a with
            | true => rfl
            | false => rw [hb] at h4; cases h4
          rw [hS] at hcs
          simp only [if_true] at hcs
          have hcr := cb_rem hS n
          rw [if_pos (show a < n from hj)] at hcr
          have ebn := bitN s (by omega) a (by omega) hS
          have ebw := bitW a (by omega)
          have hsr := bitsS_rem (by omega) (by omega) hS
          have hsp := bitsS_pos (by omega) (by omega) hS
          obtain ⟨s', hs'⟩ : ∃ s', s' = s - 2 ^ a := ⟨_, rfl⟩
          rw [← hs'] at ebn hsr hsp
          have hold : ∀ k, dBs n (wtG x o) s' k = dB n (wtG x o) m 0 (rem (bitsS s) a) ((k : Int) - 64) := fun k => by
            unfold dBs
            rw [hsr, show cb (rem (bitsS s) a) n = m by omega]
          have hsgn : sg (cb (bitsS s) n - cb (bitsS s) (a + 1)) = sg (ab (bitsS s) n a) := rfl
          rw [hsgn]
          have hww : wnd x o (m : Int) a = wtG x o m a := rfl
          have hwb := wtG_bound x o m a (by omega)
          refine Cd.skip ?_
          refine thenN ?_
          refine Cd.rs [1, 2, 3, 4, 5, 6, 8, 9, 10] fun K hK => ?_
          simp (maxSteps := 2000000) (disch := first | (simp only [E4, hl, hm, ew] <;> omega) | omega | fail) only [↓E2, E3, bare, bareJ, ↓E0, E1, env0, envN, evOps, evOp, evQs, evQ, evV, setD, pureOp, ev, upd, updL, cellAt, cellsAt, findB, setB, hav, delB, ↓reduceIte, Zj, Zk, Nat.reduceAdd, Nat.reduceLT, Nat.reduceEqDiff, Nat.reduceMul, Nat.reduceLeDiff, if_true, Zn, reduceCtorEq, ZA, eq_self, Int.reduceLE, Int.reduceLT, Int.reduceToNat, ne_eq, Nat.reduceSub, Tld27, hl, hm, ew, nb2_b1, n2, nb3_b2, nb3_b1]
          repeat refine And.intro (by omega) ?_
          refine callK_gives (winding_c _ x o hx ho _ _ (by omega)) ?_
          rw [Int.toNat_natCast, hww]
          simp (maxSteps := 2000000) (disch := first | (simp only [E4, hl, hm, ew] <;> omega) | omega | fail) only [↓E2, E3, bare, bareJ, ↓E0, E1, env0, envN, evOps, evOp, evQs, evQ, evV, setD, pureOp, ev, upd, updL, cellAt, cellsAt, findB, setB, hav, delB, ↓reduceIte, Zj, Zk, Nat.reduceAdd, Nat.reduceLT, Nat.reduceEqDiff, Nat.reduceMul, Nat.reduceLeDiff, if_true, Zn, reduceCtorEq, ZA, eq_self, Int.reduceLE, Int.reduceLT, Int.reduceToNat, ne_eq, Nat.reduceSub, Tld27, hl, hm, ew, nb2_b1, n2, nb3_b2, nb3_b1]
          repeat refine And.intro (by omega) ?_
          repeat refine And.intro (by omega) ?_
          intro g
          simp only [List.map_cons, List.map_nil, updL, upd, Nat.reduceEqDiff, if_true, if_false, ↓reduceIte]
          refine hK _ _ ?_; clear hK K
          have hmt : (mtab N (mF n (wtG x o) s (pS n (wtG x o) (bitsS s) m (a + 1)))).length = N * 129 := mtab_len
          have hsub : List.take 129 (List.drop (s' * 129) (mtab N (mF n (wtG x o) s (pS n (wtG x o) (bitsS s) m (a + 1))))) = prow (dBs n (wtG x o) s') := by
            rw [mtab_sub (by omega), show mF n (wtG x o) s (pS n (wtG x o) (bitsS s) m (a + 1)) s' = dBs n (wtG x o) s' from funext fun k => mF_less hsp]
          have hle : s' * 129 + 129 ≤ N * 129 := by omega
          refine Cd.seq ?_
          skip
          refine Cd.rs [1, 2, 3, 4, 5, 6, 8, 9, 10, 60, 61] fun K hK => ?_
          simp (maxSteps := 2000000) (disch := first | (simp only [E4, hl, hm, ew, hmt, ebw, ebn, sub_ints, hsub, hle] <;> omega) | omega | fail) only [↓E2, E3, bare, bareJ, ↓E0, E1, env0, envN, evOps, evOp, evQs, evQ, evV, setD, pureOp, ev, upd, updL, binW, eqOp, binV, intOp, shOp, boolOp, indexAddrV, cellAt, cellsAt, findB, hav, delB, eqL, SameI, strOp, ↓reduceIte, Zj, Zk, Nat.reduceAdd, Nat.reduceLT, Nat.reduceEqDiff, Nat.reduceMul, Nat.reduceLeDiff, if_true, Zn, reduceCtorEq, ZA, eq_self, Int.reduceLE, Int.reduceLT, Int.reduceToNat, ne_eq, Nat.reduceSub, Tld79, Tslc77, hl, hm, ew, nb2_b1, n2, nb3_b2, nb3_b1, hmt, ebw, ebn, sub_ints, hsub, hle]
          repeat refine And.intro (by omega) ?_
          repeat refine And.intro (by omega) ?_
          intro g
          simp only [List.map_cons, List.map_nil, updL, upd, Nat.reduceEqDiff, if_true, if_false, ↓reduceIte]
          refine hK _ _ ?_; clear hK K
          have hLo : (prow (dBs n (wtG x o) s')).length = 129 := prow_len _
          have hLg : ∀ k, k < 129 → (prow (dBs n (wtG x o) s')).getD k 0 = dB n (wtG x o) m 0 (rem (bitsS s) a) ((k : Int) - 64) := fun k hk => by rw [prow_get hk, hold]
          generalize prow (dBs n (wtG x o) s') = Lo at hLo hLg
          rw [← pK_zero hw hm7]
          refine Cd.block ?_
          refine Cd.loop (fun q ρ M => ∃ g kk, kk + q = 129 ∧ ρ = updL [(1, .pointer (some ⟨b1, 0, none⟩)), (2, .pointer (some ⟨b2, 0, none⟩)), (3, .int .i64 (n : Int)), (4, .slice (some ⟨b3, 0, none⟩) N N), (5, .int .i64 (s : Int)), (6, .int .i64 (m : Int)), (8, .int .i64 (sg (ab (bitsS s) n a))), (9, .int .i64 (a : Int)), (10, .int .i64 (wtG x o m a)), (60, .agg (ints .i64 Lo).toArray), (61, .int .i64 (kk : Int))] g ∧
            M = [(b3, ints .i64 (mtab N (mF n (wtG x o) s (pK n (wtG x o) (bitsS s) m a kk)))), (b2, [.int .i64 0, .slice none 0 0]), (b1, gc (n : Int) x o)]) 129 ⟨_, 0, Nat.zero_add _, rfl, rfl⟩ ?_
          rintro q2 ρ M ⟨g, kk, hkk, rfl, rfl⟩
          skip
          refine Cd.rs [1, 2, 3, 4, 5, 6, 8, 9, 10, 60, 61, 62] fun K hK => ?_
          simp (maxSteps := 2000000) (disch := first | (simp only [E4, hl, hm, ew, hmt, hLo] <;> omega) | omega | fail) only [↓E2, E3, bare, bareJ, ↓E0, E1, env0, envN, evOps, evOp, evQs, evQ, evV, setD, pureOp, ev, upd, updL, binW, eqOp, binV, intOp, shOp, boolOp, hav, delB, eqL, SameI, strOp, ↓reduceIte, Zj, Zk, Nat.reduceAdd, Nat.reduceLT, Nat.reduceEqDiff, Nat.reduceMul, Nat.reduceLeDiff, if_true, Zn, reduceCtorEq, ZA, eq_self, Int.reduceLE, Int.reduceLT, Int.reduceToNat, ne_eq, Nat.reduceSub, hl, hm, ew, nb2_b1, n2, nb3_b2, nb3_b1, hmt, hLo]
          repeat refine And.intro (by omega) ?_
          repeat refine And.intro (by omega) ?_
          intro g
          simp only [List.map_cons, List.map_nil, updL, upd, Nat.reduceEqDiff, if_true, if_false, ↓reduceIte]
          refine hK _ _ ?_; clear hK K
          refine Cd.seq ?_
          refine Cd.condd rfl (fun h5 => ?_) (fun h5 => ?_)
          · have hc := hLg kk (by omega)
            refine Cd.skip ?_
            refine thenN ?_
            refine Cd.seq ?_
            refine Cd.block ?_
            refine Cd.rs [1, 2, 3, 4, 5, 6, 8, 9, 10, 11, 12, 60, 61] fun K hK => ?_
            have hcell2 : (ints .i64 Lo).toArray.getD kk undef = .int .i64 (dB n (wtG x o) m 0 (rem (bitsS s) a) ((kk : Int) - 64)) := by rw [ints_agg (by omega), hc]
            simp (maxSteps := 2000000) (disch := first | (simp only [E4, hl, hm, ew, hmt, hLo, indexV, partV, hcell2] <;> omega) | omega | fail) only [↓E2, E3, bare, bareJ, ↓E0, E1, env0, envN, evOps, evOp, evQs, evQ, evV, setD, pureOp, ev, upd, updL, indexAddrV, cellAt, hav, delB, ↓reduceIte, Zj, Zk, Nat.reduceAdd, Nat.reduceLT, Nat.reduceEqDiff, Nat.reduceMul, Nat.reduceLeDiff, if_true, Zn, reduceCtorEq, ZA, eq_self, Int.reduceLE, Int.reduceLT, Int.reduceToNat, ne_eq, Nat.reduceSub, Tagg2, Tarr79, Tarre79, Thas2, Tpar2, Tsz2, hl, hm, ew, nb2_b1, n2, nb3_b2, nb3_b1, hmt, hLo, indexV, partV, hcell2]
            repeat refine And.intro (by omega) ?_
            repeat refine And.intro (by omega) ?_
            intro g
            simp only [List.map_cons, List.map_nil, updL, upd, Nat.reduceEqDiff, if_true, if_false, ↓reduceIte]
            refine hK _ _ ?_; clear hK K
            refine Cd.rs [1, 2, 3, 4, 5, 6, 8, 9, 10, 11, 12, 60, 61, 66] fun K hK => ?_
            simp (maxSteps := 2000000) (disch := first | (simp only [E4, hl, hm, ew, hmt, hLo] <;> omega) | omega | fail) only [↓E2, E3, bare, bareJ, ↓E0, E1, env0, envN, evOps, evOp, evQs, evQ, evV, setD, pureOp, ev, upd, updL, binW, eqOp, binV, intOp, shOp, boolOp, hav, delB, eqL, SameI, strOp, ↓reduceIte, Zj, Zk, Nat.reduceAdd, Nat.reduceLT, Nat.reduceEqDiff, Nat.reduceMul, Nat.reduceLeDiff, if_true, Zn, reduceCtorEq, ZA, eq_self, Int.reduceLE, Int.reduceLT, Int.reduceToNat, ne_eq, Nat.reduceSub, hl, hm, ew, nb2_b1, n2, nb3_b2, nb3_b1, hmt, hLo]
            repeat refine And.intro (by omega) ?_
            repeat refine And.intro (by omega) ?_
            intro g
            simp only [List.map_cons, List.map_nil, updL, upd, Nat.reduceEqDiff, if_true, if_false, ↓reduceIte]
            refine hK _ _ ?_; clear hK K
            refine Cd.cond rfl (fun h6 => ?_) (fun h6 => ?_)
            · simp only [decide_eq_true_eq, decide_eq_false_iff_not, beq_iff_eq, beq_eq_false_iff_ne, bne_iff_ne, bne_eq_false_iff_eq, Bool.and_eq_true, Bool.or_eq_true, Bool.or_eq_false_iff, Bool.not_eq_true', Bool.not_eq_false', Bool.and_eq_false_imp, ne_eq, gt_iff_lt, ge_iff_le, Int.not_lt, Int.not_le, Classical.not_not] at h6
              have hfar : -(8 * (m : Int)) ≤ (kk : Int) - 64 ∧ (kk : Int) - 64 ≤ 8 * (m : Int) := dB_far hw m 0 _ _ h6
              obtain ⟨i, hi⟩ : ∃ i : Nat, (kk : Int) - wtG x o m a = (i : Int) := ⟨((kk : Int) - wtG x o m a).toNat, by omega⟩
              have hi2 : (i : Int) + wtG x o m a = kk := by omega
              have hil : i < 129 := by omega
              have hcell : (mtab N (mF n (wtG x o) s (pK n (wtG x o) (bitsS s) m a kk))).getD (s * 129 + i) 0 = pK n (wtG x o) (bitsS s) m a kk i := by rw [mtab_get (by omega) hil, mF_self]
              have hmt : (mtab N (mF n (wtG x o) s (pK n (wtG x o) (bitsS s) m a kk))).length = N * 129 := mtab_len
              have hsm := pK_small (w := wtG x o) (S := bitsS s) (kk := kk) (k := i) hn hm7 (show a < n from hj)
              have hset := mtab_set (N := N) (F := mF n (wtG x o) s (pK n (wtG x o) (bitsS s) m a kk)) (s := s) (k := i) (v := pK n (wtG x o) (bitsS s) m a kk i + sg (ab (bitsS s) n a) * dB n (wtG x o) m 0 (rem (bitsS s) a) ((kk : Int) - 64)) (by omega) hil
              rw [mF_set, ← pK_step hi2] at hset
              have hdb := dB_bound n (wtG x o) m 0 (rem (bitsS s) a) ((kk : Int) - 64)
              have hp : (n : Int) ^ m ≤ 2097152 := by
                have h1 : n ^ m ≤ 8 ^ 7 := Nat.le_trans (Nat.pow_le_pow_left hn m) (Nat.pow_le_pow_right (by decide) hm7)
                have h2 : ((n ^ m : Nat) : Int) = (n : Int) ^ m := Int.natCast_pow n m
                omega
              generalize dB n (wtG x o) m 0 (rem (bitsS s) a) ((kk : Int) - 64) = cc at *
              have hsc : -2097152 ≤ sg (ab (bitsS s) n a) * cc ∧ sg (ab (bitsS s) n a) * cc ≤ 2097152 := by
                rcases sg_cases (ab (bitsS s) n a) with h | h <;> rw [h] <;> omega
              generalize hpp : sg (ab (bitsS s) n a) * cc = pp at *
              skip
              refine Cd.pr [1, 2, 3, 4, 5, 6, 8, 9, 10, 60, 61] (Plan.take 0 (Plan.take 1 (Plan.take 2 (Plan.take 3 (Plan.take 4 (Plan.take 5 (Plan.take 6 (Plan.take 7 (Plan.take 8 (Plan.take 9 (Plan.take 10 (Plan.take 11 (Plan.take 12 (Plan.take 13 (Plan.one 14 (Plan.done)))))))))))))))) fol (by kernel_rfl) (Nat.le_of_ble_eq_true rfl) fun K hK => ?_
              simp (maxSteps := 2000000) (disch := first | (simp only [E4, hl, hm, ew, hmt, hLo, hi, hcell, hpp] <;> omega) | omega | fail) only [↓E2, E3, bare, bareJ, ↓E0, E1, evPlan, env0, envN, evOps, evOp, evQs, evQ, evV, setD, pureOp, ev, upd, updL, binW, eqOp, binV, intOp, shOp, boolOp, indexAddrV, cellAt, cellsAt, findB, setB, Value.cells, hav, delB, eqL, SameI, strOp, ↓reduceIte, Zj, Zk, Nat.reduceAdd, Nat.reduceLT, Nat.reduceEqDiff, Nat.reduceMul, Nat.reduceLeDiff, if_true, Zn, reduceCtorEq, ZA, eq_self, Int.reduceLE, Int.reduceLT, Int.reduceToNat, ne_eq, Nat.reduceSub, Tarr79, Tld2, Tslc77, Tst2, hl, hm, ew, nb2_b1, n2, nb3_b2, nb3_b1, hmt, hLo, hi, hcell, hpp]
              repeat refine And.intro (by omega) ?_
              rw [hset]
              repeat refine And.intro (by omega) ?_
              intro g
              simp only [List.map_cons, List.map_nil, updL, upd, Nat.reduceEqDiff, if_true, if_false, ↓reduceIte]
              refine hK _ _ ?_; clear hK K
              refine inBN ?_
              refine thenN ?_
              refine Cd.rr [1, 2, 3, 4, 5, 6, 8, 9, 10, 60, 61] fun K hK => ?_
              simp (maxSteps := 2000000) (disch := first | (simp only [E4, hl, hm, ew, hmt, hLo, hi, hcell, hpp] <;> omega) | omega | fail) only [↓E2, E3, bare, bareJ, ↓E0, E1, env0, envN, evOps, evOp, evQs, evQ, evV, setD, pureOp, ev, upd, updL, binW, eqOp, binV, intOp, shOp, boolOp, hav, delB, eqL, SameI, strOp, ↓reduceIte, Zj, Zk, Nat.reduceAdd, Nat.reduceLT, Nat.reduceEqDiff, Nat.reduceMul, Nat.reduceLeDiff, if_true, Zn, reduceCtorEq, ZA, eq_self, Int.reduceLE, Int.reduceLT, Int.reduceToNat, ne_eq, Nat.reduceSub, hl, hm, ew, nb2_b1, n2, nb3_b2, nb3_b1, hmt, hLo, hi, hcell, hpp]
              repeat refine And.intro (by omega) ?_
              repeat refine And.intro (by omega) ?_
              intro g
              simp only [List.map_cons, List.map_nil, updL, upd, Nat.reduceEqDiff, if_true, if_false, ↓reduceIte]
              refine hK _ _ ?_; clear hK K
              exact roundN (m := q2 - 1) (by omega) ⟨_, kk + 1, by omega, rfl, rfl⟩
            · simp only [decide_eq_true_eq, decide_eq_false_iff_not, beq_iff_eq, beq_eq_false_iff_ne, bne_iff_ne, bne_eq_false_iff_eq, Bool.and_eq_true, Bool.or_eq_true, Bool.or_eq_false_iff, Bool.not_eq_true', Bool.not_eq_false', Bool.and_eq_false_imp, ne_eq, gt_iff_lt, ge_iff_le, Int.not_lt, Int.not_le, Classical.not_not] at h6
              refine Cd.skip ?_
              refine inBN ?_
              refine thenN ?_
              refine Cd.rr [1, 2, 3, 4, 5, 6, 8, 9, 10, 60, 61] fun K hK => ?_
              simp (maxSteps := 2000000) (disch := first | (simp only [E4, hl, hm, ew, hmt, hLo] <;> omega) | omega | fail) only [↓E2, E3, bare, bareJ, ↓E0, E1, env0, envN, evOps, evOp, evQs, evQ, evV, setD, pureOp, ev, upd, updL, binW, eqOp, binV, intOp, shOp, boolOp, hav, delB, eqL, SameI, strOp, ↓reduceIte, Zj, Zk, Nat.reduceAdd, Nat.reduceLT, Nat.reduceEqDiff, Nat.reduceMul, Nat.reduceLeDiff, if_true, Zn, reduceCtorEq, ZA, eq_self, Int.reduceLE, Int.reduceLT, Int.reduceToNat, ne_eq, Nat.reduceSub, hl, hm, ew, nb2_b1, n2, nb3_b2, nb3_b1, hmt, hLo]
              repeat refine And.intro (by omega) ?_
              repeat refine And.intro (by omega) ?_
              intro g
              simp only [List.map_cons, List.map_nil, updL, upd, Nat.reduceEqDiff, if_true, if_false, ↓reduceIte]
              refine hK _ _ ?_; clear hK K
              exact roundN (m := q2 - 1) (by omega) ⟨_, kk + 1, by omega, rfl, by rw [pK_same h6]⟩
          · obtain rfl : kk = 129 := by omega
            refine Cd.exit (thenX (roundX (inBX ?_)))
            refine thenN ?_
            have hneg : 0 - sg (ab (bitsS s) n a) = sg (cb (bitsS s) n - cb (bitsS s) a) := by
              rw [Int.zero_sub, ← sg_succ]
              congr 1
              omega
            have hsb := sg_cases (ab (bitsS s) n a)
            have hsb2 : -1 ≤ sg (ab (bitsS s) n a) ∧ sg (ab (bitsS s) n a) ≤ 1 := by omega
            rw [pK_full hw hm7 hS]
            refine Cd.rr [1, 2, 3, 4, 5, 6, 8, 9] fun K hK => ?_
            simp (maxSteps := 2000000) (disch := first | (simp only [E4, hl, hm, ew, hmt, hLo] <;> omega) | omega | fail) only [↓E2, E3, bare, bareJ, ↓E0, E1, env0, envN, evOps, evOp, evQs, evQ, evV, setD, pureOp, ev, upd, updL, unV, hav, delB, ↓reduceIte, Zj, Zk, Nat.reduceAdd, Nat.reduceLT, Nat.reduceEqDiff, Nat.reduceMul, Nat.reduceLeDiff, if_true, Zn, reduceCtorEq, ZA, eq_self, Int.reduceLE, Int.reduceLT, Int.reduceToNat, ne_eq, Nat.reduceSub, hl, hm, ew, nb2_b1, n2, nb3_b2, nb3_b1, hmt, hLo]
            repeat refine And.intro (by omega) ?_
            rw [hneg]
            repeat refine And.intro (by omega) ?_
            intro g
            simp only [List.map_cons, List.map_nil, updL, upd, Nat.reduceEqDiff, if_true, if_false, ↓reduceIte]
            refine hK _ _ ?_; clear hK K
            refine inBN ?_
            refine thenN ?_
            refine Cd.rr [1, 2, 3, 4, 5, 6, 8, 9] fun K hK => ?_
            simp (maxSteps := 2000000) (disch := first | (simp only [E4, hl, hm, ew, hmt, hLo] <;> omega) | omega | fail) only [↓E2, E3, bare, bareJ, ↓E0, E1, env0, envN, evOps, evOp, evQs, evQ, evV, setD, pureOp, ev, upd, updL, binW, eqOp, binV, intOp, shOp, boolOp, hav, delB, eqL, SameI, strOp, ↓reduceIte, Zj, Zk, Nat.reduceAdd, Nat.reduceLT, Nat.reduceEqDiff, Nat.reduceMul, Nat.reduceLeDiff, if_true, Zn, reduceCtorEq, ZA, eq_self, Int.reduceLE, Int.reduceLT, Int.reduceToNat, ne_eq, Nat.reduceSub, hl, hm, ew, nb2_b1, n2, nb3_b2, nb3_b1, hmt, hLo]
            repeat refine And.intro (by omega) ?_
            repeat refine And.intro (by omega) ?_
            intro g
            simp only [List.map_cons, List.map_nil, updL, upd, Nat.reduceEqDiff, if_true, if_false, ↓reduceIte]
            refine hK _ _ ?_; clear hK K
            exact roundN (m := a) (by omega) ⟨_, by omega, rfl, rfl⟩
      · obtain rfl : j = 0 := by omega
        refine Cd.exit (thenX (roundX (inBX ?_)))
        refine inBN ?_
        refine thenN ?_
        have hnx := mF_next (n := n) (w := wtG x o) (s := s) (S := bitsS s) (m := m) fun k => pS_end hm1
        rw [hnx]
        refine Cd.rr [1, 2, 3, 4, 5] fun K hK => ?_
        simp (maxSteps := 2000000) (disch := first | (simp only [E4, hl, hm, ew] <;> omega) | omega | fail) only [↓E2, E3, bare, bareJ, ↓E0, E1, env0, envN, evOps, evOp, evQs, evQ, evV, setD, pureOp, ev, upd, updL, binW, eqOp, binV, intOp, shOp, boolOp, hav, delB, eqL, SameI, strOp, ↓reduceIte, Zj, Zk, Nat.reduceAdd, Nat.reduceLT, Nat.reduceEqDiff, Nat.reduceMul, Nat.reduceLeDiff, if_true, Zn, reduceCtorEq, ZA, eq_self, Int.reduceLE, Int.reduceLT, Int.reduceToNat, ne_eq, Nat.reduceSub, hl, hm, ew, nb2_b1, n2, nb3_b2, nb3_b1]
        repeat refine And.intro (by omega) ?_
        repeat refine And.intro (by omega) ?_
        intro g
        simp only [List.map_cons, List.map_nil, updL, upd, Nat.reduceEqDiff, if_true, if_false, ↓reduceIte]
        refine hK _ _ ?_; clear hK K
        exact roundN (m := q - 1) (by omega) ⟨_, s + 1, by omega, by omega, rfl, by rw [pS_top]⟩
  · obtain rfl : s = N := by omega
    refine Cd.exit (thenX (roundX (inBX ?_)))
    refine thenN ?_
    have hmt : (mtab s (mF n (wtG x o) s (fun _ => 0))).length = s * 129 := mtab_len
    have es : ((s : Int) - 1) = ((s - 1 : Nat) : Int) := by omega
    have hsub : List.take 129 (List.drop ((s - 1) * 129) (mtab s (mF n (wtG x o) s (fun _ => 0)))) = prow (dBs n (wtG x o) (s - 1)) := by
      rw [mtab_sub (by omega), show mF n (wtG x o) s (fun _ => 0) (s - 1) = dBs n (wtG x o) (s - 1) from funext fun k => mF_less (by omega)]
    have hle : (s - 1) * 129 + 129 ≤ s * 129 := by omega
    have hpl : (prow (dBs n (wtG x o) (s - 1))).length = 129 := prow_len _
    skip
    refine Cd.rs [2, 13] fun K hK => ?_
    simp (maxSteps := 2000000) (disch := first | (simp only [E4, hl, hm, ew, hmt, hpl, es, sub_ints, hsub, hle] <;> omega) | omega | fail) only [↓E2, E3, bare, bareJ, ↓E0, E1, env0, envN, evOps, evOp, evQs, evQ, evV, setD, pureOp, ev, upd, updL, binW, eqOp, binV, intOp, shOp, boolOp, indexAddrV, cellAt, cellsAt, findB, setB, Value.cells, hav, delB, eqL, SameI, strOp, ↓reduceIte, Zj, Zk, Nat.reduceAdd, Nat.reduceLT, Nat.reduceEqDiff, Nat.reduceMul, Nat.reduceLeDiff, if_true, Zn, reduceCtorEq, ZA, eq_self, Int.reduceLE, Int.reduceLT, Int.reduceToNat, ne_eq, Nat.reduceSub, Tld79, Tslc77, Tst79, Tzero79, hl, hm, ew, nb2_b1, n2, nb3_b2, nb3_b1, hmt, hpl, es, sub_ints, hsub, hle]
    repeat refine And.intro (by omega) ?_
    intro b4 hb4
    have n4 : ¬ b4 = b2 := hb4.2 (b2, [.int .i64 0, .slice none 0 0]) (by simp)
    skip
    try simp (maxSteps := 2000000) (disch := first | (simp only [E4, hl, hm, ew, hmt, hpl, es, sub_ints, hsub, hle] <;> omega) | omega | fail) only [↓E2, E3, bare, bareJ, ↓E0, E1, env0, envN, evOps, evOp, evQs, evQ, evV, setD, pureOp, ev, upd, updL, binW, eqOp, binV, intOp, shOp, boolOp, indexAddrV, cellAt, cellsAt, findB, setB, Value.cells, hav, delB, eqL, SameI, strOp, ↓reduceIte, Zj, Zk, Nat.reduceAdd, Nat.reduceLT, Nat.reduceEqDiff, Nat.reduceMul, Nat.reduceLeDiff, if_true, Zn, reduceCtorEq, ZA, eq_self, Int.reduceLE, Int.reduceLT, Int.reduceToNat, ne_eq, Nat.reduceSub, Tld79, Tslc77, Tst79, Tzero79, hl, hm, ew, nb2_b1, n2, nb3_b2, nb3_b1, hmt, hpl, n4, es, sub_ints, hsub, hle]
    repeat refine And.intro (by omega) ?_
    intro g
    simp only [List.map_cons, List.map_nil, updL, upd, Nat.reduceEqDiff, if_true, if_false, ↓reduceIte]
    refine hK _ _ ?_; clear hK K
    refine Cd.nodup fun hnd => ?_
    generalize hpr : prow (dBs n (wtG x o) (s - 1)) = Lo at *
    have hrd : RdS (toldOf [(b4, ints .i64 Lo)]) 1 (ints .i64 Lo) (.slice (some ⟨b4, 0, none⟩) 129 129) := (SlN.row (Row.full (w := 1) (by rw [ints_length, hpl]))).reads fun p hp => mem_toldOf hp
    refine Cd.rs [2] fun K hK => ?_
    simp (maxSteps := 2000000) (disch := first | (simp only [E4, hl, hm, ew, hmt, hpl] <;> omega) | omega | fail) only [↓E2, E3, bare, bareJ, ↓E0, E1, env0, envN, evOps, evOp, evQs, evQ, evV, setD, pureOp, ev, upd, updL, cellAt, cellsAt, findB, setB, Value.cells, hav, sliceV, loV, hiV, delB, ↓reduceIte, Zj, Zk, Nat.reduceAdd, Nat.reduceLT, Nat.reduceEqDiff, Nat.reduceMul, Nat.reduceLeDiff, if_true, Zn, reduceCtorEq, ZA, eq_self, Int.reduceLE, Int.reduceLT, Int.reduceToNat, ne_eq, Nat.reduceSub, Tarr79, Tst35, hl, hm, ew, nb2_b1, n2, nb3_b2, nb3_b1, hmt, hpl, n4]
    repeat refine And.intro (by omega) ?_
    refine callK_newR0 (trimmed_c (-64) Lo _ _ hrd (by omega) (by omega)) (HoldsAll.toldW (holds_mem hnd fun p hp => by rw [List.mem_singleton.1 hp]; exact List.mem_cons_self)) ?_
    rintro v' M' ⟨s', rfl, hs'⟩ nd' _
    obtain ⟨a', m', c', rfl⟩ := hs'.form
    simp only [List.cons_append, List.nil_append] at nd' ⊢
    simp (maxSteps := 2000000) (disch := first | (simp only [E4, hl, hm, ew, hmt, hpl] <;> omega) | omega | fail) only [↓E2, E3, bare, bareJ, ↓E0, E1, env0, envN, evOps, evOp, evQs, evQ, evV, setD, pureOp, ev, upd, updL, cellAt, cellsAt, findB, setB, Value.cells, hav, sliceV, loV, hiV, delB, ↓reduceIte, Zj, Zk, Nat.reduceAdd, Nat.reduceLT, Nat.reduceEqDiff, Nat.reduceMul, Nat.reduceLeDiff, if_true, Zn, reduceCtorEq, ZA, eq_self, Int.reduceLE, Int.reduceLT, Int.reduceToNat, ne_eq, Nat.reduceSub, Tarr79, Tst35, hl, hm, ew, nb2_b1, n2, nb3_b2, nb3_b1, hmt, hpl, n4]
    repeat refine And.intro (by omega) ?_
    repeat refine And.intro (by omega) ?_
    intro g
    simp only [List.map_cons, List.map_nil, updL, upd, Nat.reduceEqDiff, if_true, if_false, ↓reduceIte]
    refine hK _ _ ?_; clear hK K
    refine Cd.ret ?_
    simp (maxSteps := 2000000) (disch := first | (simp only [E4, hl, hm, ew, hmt, hpl] <;> omega) | omega | fail) only [↓E2, E3, bare, bareJ, ↓E0, E1, evP, evPlan, env0, envN, evOps, evOp, evQs, evQ, evV, setD, pureOp, ev, upd, updL, gate, binW, eqOp, binV, intOp, shOp, boolOp, unV, convV, nilV, fieldAddrV, indexAddrV, extractV, cellAt, cellsAt, findB, setB, fillL, buildV, Value.cells, lenV, minV, maxV, hav, sliceV, loV, hiV, bslQ, mksQ, appQ, partsOk, partsCells, delB, eqL, SameI, strOp, apzQ, cvtQ, capV, ↓reduceIte, Zj, Zk, Nat.reduceAdd, Nat.reduceLT, Nat.reduceEqDiff, Nat.reduceMul, Nat.reduceLeDiff, if_true, Zn, reduceCtorEq, ZA, eq_self, Int.reduceLE, Int.reduceLT, Int.reduceToNat, ne_eq, Nat.reduceSub, Tld35, hl, hm, ew, nb2_b1, n2, nb3_b2, nb3_b1, hmt, hpl, n4]
    repeat refine And.intro (by omega) ?_
    exact ⟨M', SubP.of (List.Sublist.cons _ (List.Sublist.cons _ (List.Sublist.cons _ (List.Sublist.cons _ (List.Sublist.refl _))))), _, rfl, hs'⟩
end

end Go.Proofs

/-
  What the functions of this part hand back: each as a plain function of its arguments. Conditions: none.
-/
namespace Go.Proofs
open Go.W8
set_option linter.unusedVariables false
set_option linter.unusedSimpArgs false
set_option linter.unusedSectionVars false
set_option maxRecDepth 8000
set_option maxHeartbeats 4000000
theorem isCoefficient_c (c : Int) : Gives Try.prog 37 #[.int .i64 c] (.bool (coOk c)) := by
  refine Gives.of fun w => ?_
  refine acall_of (N := 5) (c := _) (rs := [.tmp 2]) (args := [_]) Try.func37 rfl (by decide) rfl rfl (Nat.le_of_ble_eq_true rfl) ?_
  refine Cd.rs [0] fun K hK => ?_
  simp (maxSteps := 2000000) (disch := first | (simp only [E4] <;> omega) | omega | fail) only [↓E2, E3, bare, bareJ, ↓E0, E1, env0, envN, evOps, evOp, evQs, evQ, evV, setD, pureOp, ev, upd, updL, hav, delB, ↓reduceIte, Zj, Zk, Nat.reduceAdd, Nat.reduceLT, Nat.reduceEqDiff, Nat.reduceMul, Nat.reduceLeDiff, if_true, Zn, reduceCtorEq, ZA, eq_self, Int.reduceLE, Int.reduceLT, Int.reduceToNat, ne_eq, Nat.reduceSub]
  repeat refine And.intro (by omega) ?_
  repeat refine And.intro (by omega) ?_
  intro g
  simp only [List.map_cons, List.map_nil, updL, upd, Nat.reduceEqDiff, if_true, if_false, ↓reduceIte]
  refine hK _ _ ?_; clear hK K
  refine Cd.rs [2] fun K hK => ?_
  simp (maxSteps := 2000000) (disch := first | (simp only [E4] <;> omega) | omega | fail) only [↓E2, E3, bare, bareJ, ↓E0, E1, env0, envN, evOps, evOp, evQs, evQ, evV, setD, pureOp, ev, upd, updL, cellAt, cellsAt, findB, setB, hav, delB, ↓reduceIte, Zj, Zk, Nat.reduceAdd, Nat.reduceLT, Nat.reduceEqDiff, Nat.reduceMul, Nat.reduceLeDiff, if_true, Zn, reduceCtorEq, ZA, eq_self, Int.reduceLE, Int.reduceLT, Int.reduceToNat, ne_eq, Nat.reduceSub]
  repeat refine And.intro (by omega) ?_
  refine callK_gives (within_c _ _ _) ?_
  simp (maxSteps := 2000000) (disch := first | (simp only [E4] <;> omega) | omega | fail) only [↓E2, E3, bare, bareJ, ↓E0, E1, env0, envN, evOps, evOp, evQs, evQ, evV, setD, pureOp, ev, upd, updL, cellAt, cellsAt, findB, setB, hav, delB, ↓reduceIte, Zj, Zk, Nat.reduceAdd, Nat.reduceLT, Nat.reduceEqDiff, Nat.reduceMul, Nat.reduceLeDiff, if_true, Zn, reduceCtorEq, ZA, eq_self, Int.reduceLE, Int.reduceLT, Int.reduceToNat, ne_eq, Nat.reduceSub]
  repeat refine And.intro (by omega) ?_
  repeat refine And.intro (by omega) ?_
  intro g
  simp only [List.map_cons, List.map_nil, updL, upd, Nat.reduceEqDiff, if_true, if_false, ↓reduceIte]
  refine hK _ _ ?_; clear hK K
  refine Cd.ret ?_
  simp (maxSteps := 2000000) (disch := first | (simp only [E4] <;> omega) | omega | fail) only [↓E2, E3, bare, bareJ, ↓E0, E1, evP, evPlan, env0, envN, evOps, evOp, evQs, evQ, evV, setD, pureOp, ev, upd, updL, gate, binW, eqOp, binV, intOp, shOp, boolOp, unV, convV, nilV, fieldAddrV, indexAddrV, extractV, cellAt, cellsAt, findB, setB, fillL, buildV, Value.cells, lenV, minV, maxV, hav, sliceV, loV, hiV, bslQ, mksQ, appQ, partsOk, partsCells, delB, eqL, SameI, strOp, apzQ, cvtQ, capV, ↓reduceIte, Zj, Zk, Nat.reduceAdd, Nat.reduceLT, Nat.reduceEqDiff, Nat.reduceMul, Nat.reduceLeDiff, if_true, Zn, reduceCtorEq, ZA, eq_self, Int.reduceLE, Int.reduceLT, Int.reduceToNat, ne_eq, Nat.reduceSub]
  repeat refine And.intro (by omega) ?_
  rfl
theorem areCoefficients1_c (c : Int) : Gives Try.prog 58 #[.int .i64 c] (.bool (!coOk c)) := by
  refine Gives.of fun w => ?_
  refine acall_of (N := 6) (c := _) (rs := [.tmp 2]) (args := [_]) Try.func58 rfl (by decide) rfl rfl (Nat.le_of_ble_eq_true rfl) ?_
  refine Cd.rs [0] fun K hK => ?_
  simp (maxSteps := 2000000) (disch := first | (simp only [E4] <;> omega) | omega | fail) only [↓E2, E3, bare, bareJ, ↓E0, E1, env0, envN, evOps, evOp, evQs, evQ, evV, setD, pureOp, ev, upd, updL, hav, delB, ↓reduceIte, Zj, Zk, Nat.reduceAdd, Nat.reduceLT, Nat.reduceEqDiff, Nat.reduceMul, Nat.reduceLeDiff, if_true, Zn, reduceCtorEq, ZA, eq_self, Int.reduceLE, Int.reduceLT, Int.reduceToNat, ne_eq, Nat.reduceSub]
  repeat refine And.intro (by omega) ?_
  repeat refine And.intro (by omega) ?_
  intro g
  simp only [List.map_cons, List.map_nil, updL, upd, Nat.reduceEqDiff, if_true, if_false, ↓reduceIte]
  refine hK _ _ ?_; clear hK K
  refine Cd.rs [2] fun K hK => ?_
  simp (maxSteps := 2000000) (disch := first | (simp only [E4] <;> omega) | omega | fail) only [↓E2, E3, bare, bareJ, ↓E0, E1, env0, envN, evOps, evOp, evQs, evQ, evV, setD, pureOp, ev, upd, updL, unV, cellAt, cellsAt, findB, setB, hav, delB, ↓reduceIte, Zj, Zk, Nat.reduceAdd, Nat.reduceLT, Nat.reduceEqDiff, Nat.reduceMul, Nat.reduceLeDiff, if_true, Zn, reduceCtorEq, ZA, eq_self, Int.reduceLE, Int.reduceLT, Int.reduceToNat, ne_eq, Nat.reduceSub]
  repeat refine And.intro (by omega) ?_
  refine callK_gives (isCoefficient_c _) ?_
  simp (maxSteps := 2000000) (disch := first | (simp only [E4] <;> omega) | omega | fail) only [↓E2, E3, bare, bareJ, ↓E0, E1, env0, envN, evOps, evOp, evQs, evQ, evV, setD, pureOp, ev, upd, updL, unV, cellAt, cellsAt, findB, setB, hav, delB, ↓reduceIte, Zj, Zk, Nat.reduceAdd, Nat.reduceLT, Nat.reduceEqDiff, Nat.reduceMul, Nat.reduceLeDiff, if_true, Zn, reduceCtorEq, ZA, eq_self, Int.reduceLE, Int.reduceLT, Int.reduceToNat, ne_eq, Nat.reduceSub]
  repeat refine And.intro (by omega) ?_
  repeat refine And.intro (by omega) ?_
  intro g
  simp only [List.map_cons, List.map_nil, updL, upd, Nat.reduceEqDiff, if_true, if_false, ↓reduceIte]
  refine hK _ _ ?_; clear hK K
  refine Cd.ret ?_
  simp (maxSteps := 2000000) (disch := first | (simp only [E4] <;> omega) | omega | fail) only [↓E2, E3, bare, bareJ, ↓E0, E1, evP, evPlan, env0, envN, evOps, evOp, evQs, evQ, evV, setD, pureOp, ev, upd, updL, gate, binW, eqOp, binV, intOp, shOp, boolOp, unV, convV, nilV, fieldAddrV, indexAddrV, extractV, cellAt, cellsAt, findB, setB, fillL, buildV, Value.cells, lenV, minV, maxV, hav, sliceV, loV, hiV, bslQ, mksQ, appQ, partsOk, partsCells, delB, eqL, SameI, strOp, apzQ, cvtQ, capV, ↓reduceIte, Zj, Zk, Nat.reduceAdd, Nat.reduceLT, Nat.reduceEqDiff, Nat.reduceMul, Nat.reduceLeDiff, if_true, Zn, reduceCtorEq, ZA, eq_self, Int.reduceLE, Int.reduceLT, Int.reduceToNat, ne_eq, Nat.reduceSub]
  repeat refine And.intro (by omega) ?_
/-- The place of the first number that is not allowed. -/
def badI (l : List Int) : Int := if l.findIdx (fun c => !coOk c) < l.length then (l.findIdx (fun c => !coOk c) : Int) else -1
theorem badI_all (l : List Int) : decide (badI l ≥ 0) = !l.all coOk := by
  unfold badI
  by_cases h : l.findIdx (fun c => !coOk c) < l.length
  · rw [if_pos h, decide_eq_true (by omega)]
    have := List.findIdx_getElem (w := h)
    have hb : l.all coOk = false := by
      rw [List.all_eq_false]
      exact ⟨_, List.getElem_mem h, by simpa using this⟩
    rw [hb]; rfl
  · rw [if_neg h, decide_eq_false (by omega)]
    have hb : l.all coOk = true := by
      rw [List.all_eq_true]
      intro c hc
      cases hcc : coOk c with
      | true => rfl
      | false => exact absurd (List.findIdx_lt_length_of_exists ⟨c, hc, by simp [hcc]⟩) h
    rw [hb]; rfl
theorem IndexFunc_c (l : List Int) (R : Rd) (v : Value) (h : RdS R 1 (ints .i64 l) v) (hb : l.length < 4611686018427387904) :
    GivesR Try.prog 59 #[v, .func (.func 58) #[] #[]] R (.int .i64 (badI l)) := by
  obtain ⟨a, m, cap, rfl, hm, _⟩ := id h
  obtain rfl := lauLen hm
  refine GivesR.of (callable_of Try.func59 rfl (by decide)) fun w hR => ?_
  refine acall_of (N := 19) (c := _) (rs := [.tmp 4]) (args := [_, _]) Try.func59 rfl (by decide) rfl rfl (Nat.le_of_ble_eq_true rfl) ?_
  refine Cd.rs [0, 1] fun K hK => ?_
  simp (maxSteps := 2000000) (disch := first | (simp only [E4] <;> omega) | omega | fail) only [↓E2, E3, bare, bareJ, ↓E0, E1, env0, envN, evOps, evOp, evQs, evQ, evV, setD, pureOp, ev, upd, updL, hav, delB, ↓reduceIte, Zj, Zk, Nat.reduceAdd, Nat.reduceLT, Nat.reduceEqDiff, Nat.reduceMul, Nat.reduceLeDiff, if_true, Zn, reduceCtorEq, ZA, eq_self, Int.reduceLE, Int.reduceLT, Int.reduceToNat, ne_eq, Nat.reduceSub]
  repeat refine And.intro (by omega) ?_
  repeat refine And.intro (by omega) ?_
  intro g
  simp only [List.map_cons, List.map_nil, updL, upd, Nat.reduceEqDiff, if_true, if_false, ↓reduceIte]
  refine hK _ _ ?_; clear hK K
  refine Cd.seq ?_
  refine Cd.rs [0, 1, 7, 8] fun K hK => ?_
  simp (maxSteps := 2000000) (disch := first | (simp only [E4] <;> omega) | omega | fail) only [↓E2, E3, bare, bareJ, ↓E0, E1, env0, envN, evOps, evOp, evQs, evQ, evV, setD, pureOp, ev, upd, updL, lenV, hav, delB, ↓reduceIte, Zj, Zk, Nat.reduceAdd, Nat.reduceLT, Nat.reduceEqDiff, Nat.reduceMul, Nat.reduceLeDiff, if_true, Zn, reduceCtorEq, ZA, eq_self, Int.reduceLE, Int.reduceLT, Int.reduceToNat, ne_eq, Nat.reduceSub, Tslce31]
  repeat refine And.intro (by omega) ?_
  repeat refine And.intro (by omega) ?_
  intro g
  simp only [List.map_cons, List.map_nil, updL, upd, Nat.reduceEqDiff, if_true, if_false, ↓reduceIte]
  refine hK _ _ ?_; clear hK K
  refine Cd.block ?_
  refine Cd.loop (fun q ρ M => ∃ g k, k + q = l.length ∧ k ≤ l.findIdx (fun c => !coOk c) ∧ ρ = updL [(0, .slice a l.length cap), (1, .func (.func 58) #[] #[]), (7, .int .i64 (l.length : Int)), (8, .int .i64 (k : Int))] g ∧ M = []) l.length ⟨_, 0, Nat.zero_add _, Nat.zero_le _, rfl, rfl⟩ ?_
  rintro q ρ M ⟨g, k, hk, hkb, rfl, rfl⟩
  refine Cd.rs [0, 1, 7, 8, 9] fun K hK => ?_
  simp (maxSteps := 2000000) (disch := first | (simp only [E4] <;> omega) | omega | fail) only [↓E2, E3, bare, bareJ, ↓E0, E1, env0, envN, evOps, evOp, evQs, evQ, evV, setD, pureOp, ev, upd, updL, binW, eqOp, binV, intOp, shOp, boolOp, hav, delB, eqL, SameI, strOp, ↓reduceIte, Zj, Zk, Nat.reduceAdd, Nat.reduceLT, Nat.reduceEqDiff, Nat.reduceMul, Nat.reduceLeDiff, if_true, Zn, reduceCtorEq, ZA, eq_self, Int.reduceLE, Int.reduceLT, Int.reduceToNat, ne_eq, Nat.reduceSub]
  repeat refine And.intro (by omega) ?_
  repeat refine And.intro (by omega) ?_
  intro g
  simp only [List.map_cons, List.map_nil, updL, upd, Nat.reduceEqDiff, if_true, if_false, ↓reduceIte]
  refine hK _ _ ?_; clear hK K
  refine Cd.seq ?_
  refine Cd.condd rfl (fun h3 => ?_) (fun h3 => ?_)
  · obtain ⟨b, rfl, qk⟩ := rd_int h hR (k := k) (by omega)
    have hkl : k < l.length := by omega
    have eg : l.getD k 0 = l[k] := by rw [List.getD_eq_getElem?_getD, List.getElem?_eq_getElem hkl]; rfl
    refine Cd.skip ?_
    refine thenN ?_
    refine Cd.seq ?_
    refine Cd.block ?_
    skip
    refine Cd.rs [0, 1, 5, 7, 8] fun K hK => ?_
    simp (maxSteps := 2000000) (disch := first | (simp only [E4, qk] <;> omega) | omega | fail) only [↓E2, E3, bare, bareJ, ↓E0, E1, env0, envN, evOps, evOp, evQs, evQ, evV, setD, pureOp, ev, upd, updL, hav, delB, ↓reduceIte, Zj, Zk, Nat.reduceAdd, Nat.reduceLT, Nat.reduceEqDiff, Nat.reduceMul, Nat.reduceLeDiff, if_true, Zn, reduceCtorEq, ZA, eq_self, Int.reduceLE, Int.reduceLT, Int.reduceToNat, ne_eq, Nat.reduceSub, qk]
    repeat refine And.intro (by omega) ?_
    repeat refine And.intro (by omega) ?_
    intro g
    simp only [List.map_cons, List.map_nil, updL, upd, Nat.reduceEqDiff, if_true, if_false, ↓reduceIte]
    refine hK _ _ ?_; clear hK K
    refine Cd.rs [0, 1, 5, 7, 8, 16] fun K hK => ?_
    simp (maxSteps := 2000000) (disch := first | (simp only [E4, qk] <;> omega) | omega | fail) only [↓E2, E3, bare, bareJ, ↓E0, E1, env0, envN, evOps, evOp, evQs, evQ, evV, setD, pureOp, ev, upd, updL, indexAddrV, cellAt, cellsAt, findB, setB, hav, delB, ↓reduceIte, Zj, Zk, Nat.reduceAdd, Nat.reduceLT, Nat.reduceEqDiff, Nat.reduceMul, Nat.reduceLeDiff, if_true, Zn, reduceCtorEq, ZA, eq_self, Int.reduceLE, Int.reduceLT, Int.reduceToNat, ne_eq, Nat.reduceSub, Tld2, Tslc31, qk]
    repeat refine And.intro (by omega) ?_
    refine callK_gives (areCoefficients1_c _) ?_
    simp (maxSteps := 2000000) (disch := first | (simp only [E4, qk] <;> omega) | omega | fail) only [↓E2, E3, bare, bareJ, ↓E0, E1, env0, envN, evOps, evOp, evQs, evQ, evV, setD, pureOp, ev, upd, updL, indexAddrV, cellAt, cellsAt, findB, setB, hav, delB, ↓reduceIte, Zj, Zk, Nat.reduceAdd, Nat.reduceLT, Nat.reduceEqDiff, Nat.reduceMul, Nat.reduceLeDiff, if_true, Zn, reduceCtorEq, ZA, eq_self, Int.reduceLE, Int.reduceLT, Int.reduceToNat, ne_eq, Nat.reduceSub, Tld2, Tslc31, qk]
    repeat refine And.intro (by omega) ?_
    repeat refine And.intro (by omega) ?_
    intro g
    simp only [List.map_cons, List.map_nil, updL, upd, Nat.reduceEqDiff, if_true, if_false, ↓reduceIte]
    refine hK _ _ ?_; clear hK K
    refine Cd.cond rfl (fun h4 => ?_) (fun h4 => ?_)
    · have e : l.findIdx (fun c => !coOk c) = k := by
        rcases Nat.lt_or_ge k (l.findIdx (fun c => !coOk c)) with h5 | h5
        · have := List.not_of_lt_findIdx h5
          rw [eg] at h4
          simp only [Bool.not_eq_false', Bool.not_eq_true', Bool.not_not] at this h4
          rw [h4] at this; cases this
        · omega
      refine Cd.rs [4] fun K hK => ?_
      simp (maxSteps := 2000000) (disch := first | (simp only [E4, qk] <;> omega) | omega | fail) only [↓E2, E3, bare, bareJ, ↓E0, E1, env0, envN, evOps, evOp, evQs, evQ, evV, setD, pureOp, ev, upd, updL, hav, delB, ↓reduceIte, Zj, Zk, Nat.reduceAdd, Nat.reduceLT, Nat.reduceEqDiff, Nat.reduceMul, Nat.reduceLeDiff, if_true, Zn, reduceCtorEq, ZA, eq_self, Int.reduceLE, Int.reduceLT, Int.reduceToNat, ne_eq, Nat.reduceSub, qk]
      repeat refine And.intro (by omega) ?_
      repeat refine And.intro (by omega) ?_
      intro g
      simp only [List.map_cons, List.map_nil, updL, upd, Nat.reduceEqDiff, if_true, if_false, ↓reduceIte]
      refine hK _ _ ?_; clear hK K
      refine Cd.ret (inBR (thenR (roundR (inBR (thenR ?_)))))
      simp (maxSteps := 2000000) (disch := first | (simp only [E4, qk] <;> omega) | omega | fail) only [↓E2, E3, bare, bareJ, ↓E0, E1, evP, evPlan, env0, envN, evOps, evOp, evQs, evQ, evV, setD, pureOp, ev, upd, updL, gate, binW, eqOp, binV, intOp, shOp, boolOp, unV, convV, nilV, fieldAddrV, indexAddrV, extractV, cellAt, cellsAt, findB, setB, fillL, buildV, Value.cells, lenV, minV, maxV, hav, sliceV, loV, hiV, bslQ, mksQ, appQ, partsOk, partsCells, delB, eqL, SameI, strOp, apzQ, cvtQ, capV, ↓reduceIte, Zj, Zk, Nat.reduceAdd, Nat.reduceLT, Nat.reduceEqDiff, Nat.reduceMul, Nat.reduceLeDiff, if_true, Zn, reduceCtorEq, ZA, eq_self, Int.reduceLE, Int.reduceLT, Int.reduceToNat, ne_eq, Nat.reduceSub, qk]
      repeat refine And.intro (by omega) ?_
      unfold badI
      rw [e, if_pos hkl]
    · have hne : l.findIdx (fun c => !coOk c) ≠ k := by
        intro e
        have h6 : l.findIdx (fun c => !coOk c) < l.length := by omega
        have := List.findIdx_getElem (w := h6)
        rw [eg] at h4
        simp only [e] at this
        rw [h4] at this
        cases this
      refine Cd.skip ?_
      refine inBN ?_
      refine thenN ?_
      refine Cd.rr [0, 1, 7, 8] fun K hK => ?_
      simp (maxSteps := 2000000) (disch := first | (simp only [E4, qk] <;> omega) | omega | fail) only [↓E2, E3, bare, bareJ, ↓E0, E1, env0, envN, evOps, evOp, evQs, evQ, evV, setD, pureOp, ev, upd, updL, binW, eqOp, binV, intOp, shOp, boolOp, hav, delB, eqL, SameI, strOp, ↓reduceIte, Zj, Zk, Nat.reduceAdd, Nat.reduceLT, Nat.reduceEqDiff, Nat.reduceMul, Nat.reduceLeDiff, if_true, Zn, reduceCtorEq, ZA, eq_self, Int.reduceLE, Int.reduceLT, Int.reduceToNat, ne_eq, Nat.reduceSub, qk]
      repeat refine And.intro (by omega) ?_
      repeat refine And.intro (by omega) ?_
      intro g
      simp only [List.map_cons, List.map_nil, updL, upd, Nat.reduceEqDiff, if_true, if_false, ↓reduceIte]
      refine hK _ _ ?_; clear hK K
      exact roundN (m := q - 1) (by omega) ⟨_, k + 1, by omega, by omega, rfl, rfl⟩
  · refine Cd.exit (thenX (roundX (inBX ?_)))
    refine thenN ?_
    refine Cd.rs [4] fun K hK => ?_
    simp (maxSteps := 2000000) (disch := first | (simp only [E4] <;> omega) | omega | fail) only [↓E2, E3, bare, bareJ, ↓E0, E1, env0, envN, evOps, evOp, evQs, evQ, evV, setD, pureOp, ev, upd, updL, hav, delB, ↓reduceIte, Zj, Zk, Nat.reduceAdd, Nat.reduceLT, Nat.reduceEqDiff, Nat.reduceMul, Nat.reduceLeDiff, if_true, Zn, reduceCtorEq, ZA, eq_self, Int.reduceLE, Int.reduceLT, Int.reduceToNat, ne_eq, Nat.reduceSub]
    repeat refine And.intro (by omega) ?_
    repeat refine And.intro (by omega) ?_
    intro g
    simp only [List.map_cons, List.map_nil, updL, upd, Nat.reduceEqDiff, if_true, if_false, ↓reduceIte]
    refine hK _ _ ?_; clear hK K
    refine Cd.ret ?_
    simp (maxSteps := 2000000) (disch := first | (simp only [E4] <;> omega) | omega | fail) only [↓E2, E3, bare, bareJ, ↓E0, E1, evP, evPlan, env0, envN, evOps, evOp, evQs, evQ, evV, setD, pureOp, ev, upd, updL, gate, binW, eqOp, binV, intOp, shOp, boolOp, unV, convV, nilV, fieldAddrV, indexAddrV, extractV, cellAt, cellsAt, findB, setB, fillL, buildV, Value.cells, lenV, minV, maxV, hav, sliceV, loV, hiV, bslQ, mksQ, appQ, partsOk, partsCells, delB, eqL, SameI, strOp, apzQ, cvtQ, capV, ↓reduceIte, Zj, Zk, Nat.reduceAdd, Nat.reduceLT, Nat.reduceEqDiff, Nat.reduceMul, Nat.reduceLeDiff, if_true, Zn, reduceCtorEq, ZA, eq_self, Int.reduceLE, Int.reduceLT, Int.reduceToNat, ne_eq, Nat.reduceSub]
    repeat refine And.intro (by omega) ?_
    unfold badI
    rw [if_neg (by omega)]
theorem ContainsFunc_c (l : List Int) (R : Rd) (v : Value) (h : RdS R 1 (ints .i64 l) v) (hb : l.length < 4611686018427387904) :
    GivesR Try.prog 57 #[v, .func (.func 58) #[] #[]] R (.bool (!l.all coOk)) := by
  obtain ⟨a, m, cap, rfl, hm, _⟩ := id h
  refine GivesR.of (callable_of Try.func57 rfl (by decide)) fun w hR => ?_
  refine acall_of (N := 9) (c := _) (rs := [.tmp 4]) (args := [_, _]) Try.func57 rfl (by decide) rfl rfl (Nat.le_of_ble_eq_true rfl) ?_
  refine Cd.rs [0, 1] fun K hK => ?_
  simp (maxSteps := 2000000) (disch := first | (simp only [E4] <;> omega) | omega | fail) only [↓E2, E3, bare, bareJ, ↓E0, E1, env0, envN, evOps, evOp, evQs, evQ, evV, setD, pureOp, ev, upd, updL, hav, delB, ↓reduceIte, Zj, Zk, Nat.reduceAdd, Nat.reduceLT, Nat.reduceEqDiff, Nat.reduceMul, Nat.reduceLeDiff, if_true, Zn, reduceCtorEq, ZA, eq_self, Int.reduceLE, Int.reduceLT, Int.reduceToNat, ne_eq, Nat.reduceSub]
  repeat refine And.intro (by omega) ?_
  repeat refine And.intro (by omega) ?_
  intro g
  simp only [List.map_cons, List.map_nil, updL, upd, Nat.reduceEqDiff, if_true, if_false, ↓reduceIte]
  refine hK _ _ ?_; clear hK K
  refine Cd.rs [4] fun K hK => ?_
  simp (maxSteps := 2000000) (disch := first | (simp only [E4] <;> omega) | omega | fail) only [↓E2, E3, bare, bareJ, ↓E0, E1, env0, envN, evOps, evOp, evQs, evQ, evV, setD, pureOp, ev, upd, updL, binW, eqOp, binV, intOp, shOp, boolOp, cellAt, cellsAt, findB, setB, hav, delB, eqL, SameI, strOp, ↓reduceIte, Zj, Zk, Nat.reduceAdd, Nat.reduceLT, Nat.reduceEqDiff, Nat.reduceMul, Nat.reduceLeDiff, if_true, Zn, reduceCtorEq, ZA, eq_self, Int.reduceLE, Int.reduceLT, Int.reduceToNat, ne_eq, Nat.reduceSub]
  repeat refine And.intro (by omega) ?_
  refine callK_told0 (IndexFunc_c l R _ h hb) hR ?_
  simp (maxSteps := 2000000) (disch := first | (simp only [E4] <;> omega) | omega | fail) only [↓E2, E3, bare, bareJ, ↓E0, E1, env0, envN, evOps, evOp, evQs, evQ, evV, setD, pureOp, ev, upd, updL, binW, eqOp, binV, intOp, shOp, boolOp, cellAt, cellsAt, findB, setB, hav, delB, eqL, SameI, strOp, ↓reduceIte, Zj, Zk, Nat.reduceAdd, Nat.reduceLT, Nat.reduceEqDiff, Nat.reduceMul, Nat.reduceLeDiff, if_true, Zn, reduceCtorEq, ZA, eq_self, Int.reduceLE, Int.reduceLT, Int.reduceToNat, ne_eq, Nat.reduceSub]
  repeat refine And.intro (by omega) ?_
  repeat refine And.intro (by omega) ?_
  intro g
  simp only [List.map_cons, List.map_nil, updL, upd, Nat.reduceEqDiff, if_true, if_false, ↓reduceIte]
  refine hK _ _ ?_; clear hK K
  refine Cd.ret ?_
  simp (maxSteps := 2000000) (disch := first | (simp only [E4] <;> omega) | omega | fail) only [↓E2, E3, bare, bareJ, ↓E0, E1, evP, evPlan, env0, envN, evOps, evOp, evQs, evQ, evV, setD, pureOp, ev, upd, updL, gate, binW, eqOp, binV, intOp, shOp, boolOp, unV, convV, nilV, fieldAddrV, indexAddrV, extractV, cellAt, cellsAt, findB, setB, fillL, buildV, Value.cells, lenV, minV, maxV, hav, sliceV, loV, hiV, bslQ, mksQ, appQ, partsOk, partsCells, delB, eqL, SameI, strOp, apzQ, cvtQ, capV, ↓reduceIte, Zj, Zk, Nat.reduceAdd, Nat.reduceLT, Nat.reduceEqDiff, Nat.reduceMul, Nat.reduceLeDiff, if_true, Zn, reduceCtorEq, ZA, eq_self, Int.reduceLE, Int.reduceLT, Int.reduceToNat, ne_eq, Nat.reduceSub]
  repeat refine And.intro (by omega) ?_
  rw [badI_all]
theorem areCoefficients_c (l : List Int) (R : Rd) (v : Value) (h : RdS R 1 (ints .i64 l) v) (hb : l.length < 4611686018427387904) : GivesR Try.prog 51 #[v] R (.bool (l.all coOk)) := by
  obtain ⟨a, m, cap, rfl, hm, _⟩ := id h
  refine GivesR.of (callable_of Try.func51 rfl (by decide)) fun w hR => ?_
  refine acall_of (N := 6) (c := _) (rs := [.tmp 2]) (args := [_]) Try.func51 rfl (by decide) rfl rfl (Nat.le_of_ble_eq_true rfl) ?_
  refine Cd.rs [0] fun K hK => ?_
  simp (maxSteps := 2000000) (disch := first | (simp only [E4] <;> omega) | omega | fail) only [↓E2, E3, bare, bareJ, ↓E0, E1, env0, envN, evOps, evOp, evQs, evQ, evV, setD, pureOp, ev, upd, updL, hav, delB, ↓reduceIte, Zj, Zk, Nat.reduceAdd, Nat.reduceLT, Nat.reduceEqDiff, Nat.reduceMul, Nat.reduceLeDiff, if_true, Zn, reduceCtorEq, ZA, eq_self, Int.reduceLE, Int.reduceLT, Int.reduceToNat, ne_eq, Nat.reduceSub]
  repeat refine And.intro (by omega) ?_
  repeat refine And.intro (by omega) ?_
  intro g
  simp only [List.map_cons, List.map_nil, updL, upd, Nat.reduceEqDiff, if_true, if_false, ↓reduceIte]
  refine hK _ _ ?_; clear hK K
  refine Cd.rs [2] fun K hK => ?_
  simp (maxSteps := 2000000) (disch := first | (simp only [E4] <;> omega) | omega | fail) only [↓E2, E3, bare, bareJ, ↓E0, E1, env0, envN, evOps, evOp, evQs, evQ, evV, setD, pureOp, ev, upd, updL, unV, cellAt, cellsAt, findB, setB, hav, delB, ↓reduceIte, Zj, Zk, Nat.reduceAdd, Nat.reduceLT, Nat.reduceEqDiff, Nat.reduceMul, Nat.reduceLeDiff, if_true, Zn, reduceCtorEq, ZA, eq_self, Int.reduceLE, Int.reduceLT, Int.reduceToNat, ne_eq, Nat.reduceSub]
  repeat refine And.intro (by omega) ?_
  refine callK_told0 (ContainsFunc_c l R _ h hb) hR ?_
  simp (maxSteps := 2000000) (disch := first | (simp only [E4] <;> omega) | omega | fail) only [↓E2, E3, bare, bareJ, ↓E0, E1, env0, envN, evOps, evOp, evQs, evQ, evV, setD, pureOp, ev, upd, updL, unV, cellAt, cellsAt, findB, setB, hav, delB, ↓reduceIte, Zj, Zk, Nat.reduceAdd, Nat.reduceLT, Nat.reduceEqDiff, Nat.reduceMul, Nat.reduceLeDiff, if_true, Zn, reduceCtorEq, ZA, eq_self, Int.reduceLE, Int.reduceLT, Int.reduceToNat, ne_eq, Nat.reduceSub]
  repeat refine And.intro (by omega) ?_
  repeat refine And.intro (by omega) ?_
  intro g
  simp only [List.map_cons, List.map_nil, updL, upd, Nat.reduceEqDiff, if_true, if_false, ↓reduceIte]
  refine hK _ _ ?_; clear hK K
  refine Cd.ret ?_
  simp (maxSteps := 2000000) (disch := first | (simp only [E4] <;> omega) | omega | fail) only [↓E2, E3, bare, bareJ, ↓E0, E1, evP, evPlan, env0, envN, evOps, evOp, evQs, evQ, evV, setD, pureOp, ev, upd, updL, gate, binW, eqOp, binV, intOp, shOp, boolOp, unV, convV, nilV, fieldAddrV, indexAddrV, extractV, cellAt, cellsAt, findB, setB, fillL, buildV, Value.cells, lenV, minV, maxV, hav, sliceV, loV, hiV, bslQ, mksQ, appQ, partsOk, partsCells, delB, eqL, SameI, strOp, apzQ, cvtQ, capV, ↓reduceIte, Zj, Zk, Nat.reduceAdd, Nat.reduceLT, Nat.reduceEqDiff, Nat.reduceMul, Nat.reduceLeDiff, if_true, Zn, reduceCtorEq, ZA, eq_self, Int.reduceLE, Int.reduceLT, Int.reduceToNat, ne_eq, Nat.reduceSub]
  repeat refine And.intro (by omega) ?_
  rw [Bool.not_not]
theorem isZero_c (low : Int) (l : List Int) (a : Option Addr) (cap : Nat) : Gives Try.prog 32 #[.agg #[.int .i64 low, .slice a l.length cap]] (.bool ((l.length : Int) == 0)) := by
  refine Gives.of fun w => ?_
  refine acall_of (N := 7) (c := _) (rs := [.tmp 2]) (args := [_]) Try.func32 rfl (by decide) rfl rfl (Nat.le_of_ble_eq_true rfl) ?_
  refine Cd.rs [1] fun K hK => ?_
  simp (maxSteps := 2000000) (disch := first | (simp only [E4] <;> omega) | omega | fail) only [↓E2, E3, bare, bareJ, ↓E0, E1, env0, envN, evOps, evOp, evQs, evQ, evV, setD, pureOp, ev, upd, updL, Value.cells, hav, delB, ↓reduceIte, Zj, Zk, Nat.reduceAdd, Nat.reduceLT, Nat.reduceEqDiff, Nat.reduceMul, Nat.reduceLeDiff, if_true, Zn, reduceCtorEq, ZA, eq_self, Int.reduceLE, Int.reduceLT, Int.reduceToNat, ne_eq, Nat.reduceSub]
  repeat refine And.intro (by omega) ?_
  intro b1 hb1
  try simp (maxSteps := 2000000) (disch := first | (simp only [E4] <;> omega) | omega | fail) only [↓E2, E3, bare, bareJ, ↓E0, E1, env0, envN, evOps, evOp, evQs, evQ, evV, setD, pureOp, ev, upd, updL, Value.cells, hav, delB, ↓reduceIte, Zj, Zk, Nat.reduceAdd, Nat.reduceLT, Nat.reduceEqDiff, Nat.reduceMul, Nat.reduceLeDiff, if_true, Zn, reduceCtorEq, ZA, eq_self, Int.reduceLE, Int.reduceLT, Int.reduceToNat, ne_eq, Nat.reduceSub]
  repeat refine And.intro (by omega) ?_
  repeat refine And.intro (by omega) ?_
  intro g
  simp only [List.map_cons, List.map_nil, updL, upd, Nat.reduceEqDiff, if_true, if_false, ↓reduceIte]
  refine hK _ _ ?_; clear hK K
  refine Cd.rs [2] fun K hK => ?_
  simp (maxSteps := 2000000) (disch := first | (simp only [E4] <;> omega) | omega | fail) only [↓E2, E3, bare, bareJ, ↓E0, E1, env0, envN, evOps, evOp, evQs, evQ, evV, setD, pureOp, ev, upd, updL, binW, eqOp, binV, intOp, shOp, boolOp, fieldAddrV, cellAt, cellsAt, findB, lenV, hav, delB, eqL, SameI, strOp, ↓reduceIte, Zj, Zk, Nat.reduceAdd, Nat.reduceLT, Nat.reduceEqDiff, Nat.reduceMul, Nat.reduceLeDiff, if_true, Zn, reduceCtorEq, ZA, eq_self, Int.reduceLE, Int.reduceLT, Int.reduceToNat, ne_eq, Nat.reduceSub, Tfld35_1, Tld31, Tslce31]
  repeat refine And.intro (by omega) ?_
  repeat refine And.intro (by omega) ?_
  intro g
  simp only [List.map_cons, List.map_nil, updL, upd, Nat.reduceEqDiff, if_true, if_false, ↓reduceIte]
  refine hK _ _ ?_; clear hK K
  refine Cd.ret ?_
  simp (maxSteps := 2000000) (disch := first | (simp only [E4] <;> omega) | omega | fail) only [↓E2, E3, bare, bareJ, ↓E0, E1, evP, evPlan, env0, envN, evOps, evOp, evQs, evQ, evV, setD, pureOp, ev, upd, updL, gate, binW, eqOp, binV, intOp, shOp, boolOp, unV, convV, nilV, fieldAddrV, indexAddrV, extractV, cellAt, cellsAt, findB, setB, fillL, buildV, Value.cells, lenV, minV, maxV, hav, sliceV, loV, hiV, bslQ, mksQ, appQ, partsOk, partsCells, delB, eqL, SameI, strOp, apzQ, cvtQ, capV, ↓reduceIte, Zj, Zk, Nat.reduceAdd, Nat.reduceLT, Nat.reduceEqDiff, Nat.reduceMul, Nat.reduceLeDiff, if_true, Zn, reduceCtorEq, ZA, eq_self, Int.reduceLE, Int.reduceLT, Int.reduceToNat, ne_eq, Nat.reduceSub]
  repeat refine And.intro (by omega) ?_
theorem high_c (low : Int) (l : List Int) (a : Option Addr) (cap : Nat) (hl : -100000000 ≤ low ∧ low ≤ 100000000) (hb : l.length ≤ 100000000) : Gives Try.prog 19 #[.agg #[.int .i64 low, .slice a l.length cap]] (.int .i64 (low + (l.length : Int) - 1)) := by
  refine Gives.of fun w => ?_
  refine acall_of (N := 10) (c := _) (rs := [.tmp 2]) (args := [_]) Try.func19 rfl (by decide) rfl rfl (Nat.le_of_ble_eq_true rfl) ?_
  refine Cd.rs [1] fun K hK => ?_
  simp (maxSteps := 2000000) (disch := first | (simp only [E4] <;> omega) | omega | fail) only [↓E2, E3, bare, bareJ, ↓E0, E1, env0, envN, evOps, evOp, evQs, evQ, evV, setD, pureOp, ev, upd, updL, Value.cells, hav, delB, ↓reduceIte, Zj, Zk, Nat.reduceAdd, Nat.reduceLT, Nat.reduceEqDiff, Nat.reduceMul, Nat.reduceLeDiff, if_true, Zn, reduceCtorEq, ZA, eq_self, Int.reduceLE, Int.reduceLT, Int.reduceToNat, ne_eq, Nat.reduceSub]
  repeat refine And.intro (by omega) ?_
  intro b1 hb1
  try simp (maxSteps := 2000000) (disch := first | (simp only [E4] <;> omega) | omega | fail) only [↓E2, E3, bare, bareJ, ↓E0, E1, env0, envN, evOps, evOp, evQs, evQ, evV, setD, pureOp, ev, upd, updL, Value.cells, hav, delB, ↓reduceIte, Zj, Zk, Nat.reduceAdd, Nat.reduceLT, Nat.reduceEqDiff, Nat.reduceMul, Nat.reduceLeDiff, if_true, Zn, reduceCtorEq, ZA, eq_self, Int.reduceLE, Int.reduceLT, Int.reduceToNat, ne_eq, Nat.reduceSub]
  repeat refine And.intro (by omega) ?_
  repeat refine And.intro (by omega) ?_
  intro g
  simp only [List.map_cons, List.map_nil, updL, upd, Nat.reduceEqDiff, if_true, if_false, ↓reduceIte]
  refine hK _ _ ?_; clear hK K
  refine Cd.rs [2] fun K hK => ?_
  simp (maxSteps := 2000000) (disch := first | (simp only [E4] <;> omega) | omega | fail) only [↓E2, E3, bare, bareJ, ↓E0, E1, env0, envN, evOps, evOp, evQs, evQ, evV, setD, pureOp, ev, upd, updL, binW, eqOp, binV, intOp, shOp, boolOp, fieldAddrV, cellAt, cellsAt, findB, lenV, hav, delB, eqL, SameI, strOp, ↓reduceIte, Zj, Zk, Nat.reduceAdd, Nat.reduceLT, Nat.reduceEqDiff, Nat.reduceMul, Nat.reduceLeDiff, if_true, Zn, reduceCtorEq, ZA, eq_self, Int.reduceLE, Int.reduceLT, Int.reduceToNat, ne_eq, Nat.reduceSub, Tfld35_0, Tfld35_1, Tld2, Tld31, Tslce31]
  repeat refine And.intro (by omega) ?_
  repeat refine And.intro (by omega) ?_
  intro g
  simp only [List.map_cons, List.map_nil, updL, upd, Nat.reduceEqDiff, if_true, if_false, ↓reduceIte]
  refine hK _ _ ?_; clear hK K
  refine Cd.ret ?_
  simp (maxSteps := 2000000) (disch := first | (simp only [E4] <;> omega) | omega | fail) only [↓E2, E3, bare, bareJ, ↓E0, E1, evP, evPlan, env0, envN, evOps, evOp, evQs, evQ, evV, setD, pureOp, ev, upd, updL, gate, binW, eqOp, binV, intOp, shOp, boolOp, unV, convV, nilV, fieldAddrV, indexAddrV, extractV, cellAt, cellsAt, findB, setB, fillL, buildV, Value.cells, lenV, minV, maxV, hav, sliceV, loV, hiV, bslQ, mksQ, appQ, partsOk, partsCells, delB, eqL, SameI, strOp, apzQ, cvtQ, capV, ↓reduceIte, Zj, Zk, Nat.reduceAdd, Nat.reduceLT, Nat.reduceEqDiff, Nat.reduceMul, Nat.reduceLeDiff, if_true, Zn, reduceCtorEq, ZA, eq_self, Int.reduceLE, Int.reduceLT, Int.reduceToNat, ne_eq, Nat.reduceSub]
  repeat refine And.intro (by omega) ?_
theorem IsLaurent_c (low : Int) (l : List Int) (R : Rd) (v : Value) (h : RdL R low l v) (hb : l.length ≤ 100000000) (hw : -9223372036854775808 ≤ low ∧ low < 9223372036854775808) : GivesR Try.prog 31 #[v] R (.bool (lauOk low l)) := by
  obtain ⟨a, cap, rfl, hs⟩ := h.form
  refine GivesR.of (callable_of Try.func31 rfl (by decide)) fun w hR => ?_
  refine acall_of (N := 43) (c := _) (rs := [.tmp 2]) (args := [_]) Try.func31 rfl (by decide) rfl rfl (Nat.le_of_ble_eq_true rfl) ?_
  refine Cd.rs [1] fun K hK => ?_
  simp (maxSteps := 2000000) (disch := first | (simp only [E4] <;> omega) | omega | fail) only [↓E2, E3, bare, bareJ, ↓E0, E1, env0, envN, evOps, evOp, evQs, evQ, evV, setD, pureOp, ev, upd, updL, Value.cells, hav, delB, ↓reduceIte, Zj, Zk, Nat.reduceAdd, Nat.reduceLT, Nat.reduceEqDiff, Nat.reduceMul, Nat.reduceLeDiff, if_true, Zn, reduceCtorEq, ZA, eq_self, Int.reduceLE, Int.reduceLT, Int.reduceToNat, ne_eq, Nat.reduceSub]
  repeat refine And.intro (by omega) ?_
  intro b1 hb1
  try simp (maxSteps := 2000000) (disch := first | (simp only [E4] <;> omega) | omega | fail) only [↓E2, E3, bare, bareJ, ↓E0, E1, env0, envN, evOps, evOp, evQs, evQ, evV, setD, pureOp, ev, upd, updL, Value.cells, hav, delB, ↓reduceIte, Zj, Zk, Nat.reduceAdd, Nat.reduceLT, Nat.reduceEqDiff, Nat.reduceMul, Nat.reduceLeDiff, if_true, Zn, reduceCtorEq, ZA, eq_self, Int.reduceLE, Int.reduceLT, Int.reduceToNat, ne_eq, Nat.reduceSub]
  repeat refine And.intro (by omega) ?_
  repeat refine And.intro (by omega) ?_
  intro g
  simp only [List.map_cons, List.map_nil, updL, upd, Nat.reduceEqDiff, if_true, if_false, ↓reduceIte]
  refine hK _ _ ?_; clear hK K
  refine Cd.seq ?_
  refine Cd.rs [1, 5] fun K hK => ?_
  simp (maxSteps := 2000000) (disch := first | (simp only [E4] <;> omega) | omega | fail) only [↓E2, E3, bare, bareJ, ↓E0, E1, env0, envN, evOps, evOp, evQs, evQ, evV, setD, pureOp, ev, upd, updL, cellAt, cellsAt, findB, setB, hav, delB, ↓reduceIte, Zj, Zk, Nat.reduceAdd, Nat.reduceLT, Nat.reduceEqDiff, Nat.reduceMul, Nat.reduceLeDiff, if_true, Zn, reduceCtorEq, ZA, eq_self, Int.reduceLE, Int.reduceLT, Int.reduceToNat, ne_eq, Nat.reduceSub, Tld35]
  repeat refine And.intro (by omega) ?_
  refine callK_gives (isZero_c low l a cap) ?_
  simp (maxSteps := 2000000) (disch := first | (simp only [E4] <;> omega) | omega | fail) only [↓E2, E3, bare, bareJ, ↓E0, E1, env0, envN, evOps, evOp, evQs, evQ, evV, setD, pureOp, ev, upd, updL, cellAt, cellsAt, findB, setB, hav, delB, ↓reduceIte, Zj, Zk, Nat.reduceAdd, Nat.reduceLT, Nat.reduceEqDiff, Nat.reduceMul, Nat.reduceLeDiff, if_true, Zn, reduceCtorEq, ZA, eq_self, Int.reduceLE, Int.reduceLT, Int.reduceToNat, ne_eq, Nat.reduceSub, Tld35]
  repeat refine And.intro (by omega) ?_
  repeat refine And.intro (by omega) ?_
  intro g
  simp only [List.map_cons, List.map_nil, updL, upd, Nat.reduceEqDiff, if_true, if_false, ↓reduceIte]
  refine hK _ _ ?_; clear hK K
  refine Cd.cond rfl (fun h1 => ?_) (fun h1 => ?_)
  · simp only [decide_eq_true_eq, decide_eq_false_iff_not, beq_iff_eq, beq_eq_false_iff_ne, bne_iff_ne, bne_eq_false_iff_eq, Bool.and_eq_true, Bool.or_eq_true, Bool.or_eq_false_iff, Bool.not_eq_true', Bool.not_eq_false', Bool.and_eq_false_imp, ne_eq, gt_iff_lt, ge_iff_le, Int.not_lt, Int.not_le, Classical.not_not] at h1
    refine Cd.rs [2] fun K hK => ?_
    simp (maxSteps := 2000000) (disch := first | (simp only [E4] <;> omega) | omega | fail) only [↓E2, E3, bare, bareJ, ↓E0, E1, env0, envN, evOps, evOp, evQs, evQ, evV, setD, pureOp, ev, upd, updL, binW, eqOp, binV, intOp, shOp, boolOp, fieldAddrV, cellAt, cellsAt, findB, hav, delB, eqL, SameI, strOp, ↓reduceIte, Zj, Zk, Nat.reduceAdd, Nat.reduceLT, Nat.reduceEqDiff, Nat.reduceMul, Nat.reduceLeDiff, if_true, Zn, reduceCtorEq, ZA, eq_self, Int.reduceLE, Int.reduceLT, Int.reduceToNat, ne_eq, Nat.reduceSub, Tfld35_0, Tld2]
    repeat refine And.intro (by omega) ?_
    repeat refine And.intro (by omega) ?_
    intro g
    simp only [List.map_cons, List.map_nil, updL, upd, Nat.reduceEqDiff, if_true, if_false, ↓reduceIte]
    refine hK _ _ ?_; clear hK K
    refine Cd.ret (thenR ?_)
    simp (maxSteps := 2000000) (disch := first | (simp only [E4] <;> omega) | omega | fail) only [↓E2, E3, bare, bareJ, ↓E0, E1, evP, evPlan, env0, envN, evOps, evOp, evQs, evQ, evV, setD, pureOp, ev, upd, updL, gate, binW, eqOp, binV, intOp, shOp, boolOp, unV, convV, nilV, fieldAddrV, indexAddrV, extractV, cellAt, cellsAt, findB, setB, fillL, buildV, Value.cells, lenV, minV, maxV, hav, sliceV, loV, hiV, bslQ, mksQ, appQ, partsOk, partsCells, delB, eqL, SameI, strOp, apzQ, cvtQ, capV, ↓reduceIte, Zj, Zk, Nat.reduceAdd, Nat.reduceLT, Nat.reduceEqDiff, Nat.reduceMul, Nat.reduceLeDiff, if_true, Zn, reduceCtorEq, ZA, eq_self, Int.reduceLE, Int.reduceLT, Int.reduceToNat, ne_eq, Nat.reduceSub]
    repeat refine And.intro (by omega) ?_
    rw [lauOk_zero (by omega)]
    congr 1
  · simp only [decide_eq_true_eq, decide_eq_false_iff_not, beq_iff_eq, beq_eq_false_iff_ne, bne_iff_ne, bne_eq_false_iff_eq, Bool.and_eq_true, Bool.or_eq_true, Bool.or_eq_false_iff, Bool.not_eq_true', Bool.not_eq_false', Bool.and_eq_false_imp, ne_eq, gt_iff_lt, ge_iff_le, Int.not_lt, Int.not_le, Classical.not_not] at h1
    have hlast : l.length - 1 < l.length := by omega
    obtain ⟨b, rfl, q0⟩ := rd_int hs hR (k := 0) (by omega)
    obtain ⟨_, e, ql⟩ := rd_int hs hR hlast
    cases e
    have n1 := told_ne hb1 q0
    have e1 : ((l.length : Int) - 1).toNat = l.length - 1 := by omega
    refine Cd.skip ?_
    refine thenN ?_
    refine Cd.rs [1, 3] fun K hK => ?_
    simp (maxSteps := 2000000) (disch := first | (simp only [E4] <;> omega) | omega | fail) only [↓E2, E3, bare, bareJ, ↓E0, E1, env0, envN, evOps, evOp, evQs, evQ, evV, setD, pureOp, ev, upd, updL, fieldAddrV, cellAt, cellsAt, findB, hav, delB, ↓reduceIte, Zj, Zk, Nat.reduceAdd, Nat.reduceLT, Nat.reduceEqDiff, Nat.reduceMul, Nat.reduceLeDiff, if_true, Zn, reduceCtorEq, ZA, eq_self, Int.reduceLE, Int.reduceLT, Int.reduceToNat, ne_eq, Nat.reduceSub, Tfld35_1, Tld31]
    repeat refine And.intro (by omega) ?_
    repeat refine And.intro (by omega) ?_
    intro g
    simp only [List.map_cons, List.map_nil, updL, upd, Nat.reduceEqDiff, if_true, if_false, ↓reduceIte]
    refine hK _ _ ?_; clear hK K
    skip
    refine Cd.rs [2] fun K hK => ?_
    simp (maxSteps := 2000000) (disch := first | (simp only [E4, q0, ql, e1] <;> omega) | omega | fail) only [↓E2, E3, bare, bareJ, ↓E0, E1, env0, envN, evOps, evOp, evQs, evQ, evV, setD, pureOp, ev, upd, updL, gate, binW, eqOp, binV, intOp, shOp, boolOp, fieldAddrV, indexAddrV, cellAt, cellsAt, findB, setB, lenV, hav, delB, eqL, SameI, strOp, ↓reduceIte, Zj, Zk, Nat.reduceAdd, Nat.reduceLT, Nat.reduceEqDiff, Nat.reduceMul, Nat.reduceLeDiff, if_true, Zn, reduceCtorEq, ZA, eq_self, Int.reduceLE, Int.reduceLT, Int.reduceToNat, ne_eq, Nat.reduceSub, Tfld35_0, Tld2, Tld35, Tslc31, Tslce31, q0, ql, n1, e1]
    repeat refine And.intro (by omega) ?_
    refine callK_gives (within_c _ _ _) ?_
    simp (maxSteps := 2000000) (disch := first | (simp only [E4, q0, ql, e1] <;> omega) | omega | fail) only [↓E2, E3, bare, bareJ, ↓E0, E1, env0, envN, evOps, evOp, evQs, evQ, evV, setD, pureOp, ev, upd, updL, gate, binW, eqOp, binV, intOp, shOp, boolOp, fieldAddrV, indexAddrV, cellAt, cellsAt, findB, setB, lenV, hav, delB, eqL, SameI, strOp, ↓reduceIte, Zj, Zk, Nat.reduceAdd, Nat.reduceLT, Nat.reduceEqDiff, Nat.reduceMul, Nat.reduceLeDiff, if_true, Zn, reduceCtorEq, ZA, eq_self, Int.reduceLE, Int.reduceLT, Int.reduceToNat, ne_eq, Nat.reduceSub, Tfld35_0, Tld2, Tld35, Tslc31, Tslce31, q0, ql, n1, e1]
    repeat refine And.intro (by omega) ?_
    apply guardX_and 3 [15, 16, 17] (j := 3) (d := 14) (tp := 18) (tl := 17) rfl rfl rfl rfl rfl
    · intro hq
      simp (maxSteps := 2000000) (disch := first | (simp only [E4, q0, ql, e1] <;> omega) | omega | fail) only [↓E2, E3, bare, bareJ, ↓E0, E1, env0, envN, evOps, evOp, evQs, evQ, evV, setD, pureOp, ev, upd, updL, gate, binW, eqOp, binV, intOp, shOp, boolOp, fieldAddrV, indexAddrV, cellAt, cellsAt, findB, setB, lenV, hav, delB, eqL, SameI, strOp, ↓reduceIte, Zj, Zk, Nat.reduceAdd, Nat.reduceLT, Nat.reduceEqDiff, Nat.reduceMul, Nat.reduceLeDiff, if_true, Zn, reduceCtorEq, ZA, eq_self, Int.reduceLE, Int.reduceLT, Int.reduceToNat, ne_eq, Nat.reduceSub, Tfld35_0, Tld2, Tld35, Tslc31, Tslce31, q0, ql, n1, e1]
      repeat refine And.intro (by omega) ?_
      exact rfl
    intro g
    simp (maxSteps := 2000000) (disch := first | (simp only [E4, q0, ql, e1] <;> omega) | omega | fail) only [↓E2, E3, bare, bareJ, ↓E0, E1, env0, envN, evOps, evOp, evQs, evQ, evV, setD, pureOp, ev, upd, updL, gate, binW, eqOp, binV, intOp, shOp, boolOp, fieldAddrV, indexAddrV, cellAt, cellsAt, findB, setB, lenV, hav, delB, eqL, SameI, strOp, ↓reduceIte, Zj, Zk, Nat.reduceAdd, Nat.reduceLT, Nat.reduceEqDiff, Nat.reduceMul, Nat.reduceLeDiff, if_true, Zn, reduceCtorEq, ZA, eq_self, Int.reduceLE, Int.reduceLT, Int.reduceToNat, ne_eq, Nat.reduceSub, Tfld35_0, Tld2, Tld35, Tslc31, Tslce31, q0, ql, n1, e1]
    repeat refine And.intro (by omega) ?_
    apply guardX_and 3 [20, 21, 22] (j := 8) (d := 19) (tp := 23) (tl := 22) rfl rfl rfl rfl rfl
    · intro hq
      simp only [decide_eq_true_eq, decide_eq_false_iff_not, beq_iff_eq, beq_eq_false_iff_ne, bne_iff_ne, bne_eq_false_iff_eq, Bool.and_eq_true, Bool.or_eq_true, Bool.or_eq_false_iff, Bool.not_eq_true', Bool.not_eq_false', Bool.and_eq_false_imp, ne_eq, gt_iff_lt, ge_iff_le, Int.not_lt, Int.not_le, Classical.not_not] at hq
      simp (maxSteps := 2000000) (disch := first | (simp only [E4, q0, ql, e1] <;> omega) | omega | fail) only [↓E2, E3, bare, bareJ, ↓E0, E1, env0, envN, evOps, evOp, evQs, evQ, evV, setD, pureOp, ev, upd, updL, gate, binW, eqOp, binV, intOp, shOp, boolOp, fieldAddrV, indexAddrV, cellAt, cellsAt, findB, setB, lenV, hav, delB, eqL, SameI, strOp, ↓reduceIte, Zj, Zk, Nat.reduceAdd, Nat.reduceLT, Nat.reduceEqDiff, Nat.reduceMul, Nat.reduceLeDiff, if_true, Zn, reduceCtorEq, ZA, eq_self, Int.reduceLE, Int.reduceLT, Int.reduceToNat, ne_eq, Nat.reduceSub, Tfld35_0, Tld2, Tld35, Tslc31, Tslce31, q0, ql, n1, e1]
      repeat refine And.intro (by omega) ?_
      refine callK_gives (high_c low l _ cap (by omega) (by omega)) ?_
      simp (maxSteps := 2000000) (disch := first | (simp only [E4, q0, ql, e1] <;> omega) | omega | fail) only [↓E2, E3, bare, bareJ, ↓E0, E1, env0, envN, evOps, evOp, evQs, evQ, evV, setD, pureOp, ev, upd, updL, gate, binW, eqOp, binV, intOp, shOp, boolOp, fieldAddrV, indexAddrV, cellAt, cellsAt, findB, setB, lenV, hav, delB, eqL, SameI, strOp, ↓reduceIte, Zj, Zk, Nat.reduceAdd, Nat.reduceLT, Nat.reduceEqDiff, Nat.reduceMul, Nat.reduceLeDiff, if_true, Zn, reduceCtorEq, ZA, eq_self, Int.reduceLE, Int.reduceLT, Int.reduceToNat, ne_eq, Nat.reduceSub, Tfld35_0, Tld2, Tld35, Tslc31, Tslce31, q0, ql, n1, e1]
      repeat refine And.intro (by omega) ?_
      exact rfl
    intro g
    simp (maxSteps := 2000000) (disch := first | (simp only [E4, q0, ql, e1] <;> omega) | omega | fail) only [↓E2, E3, bare, bareJ, ↓E0, E1, env0, envN, evOps, evOp, evQs, evQ, evV, setD, pureOp, ev, upd, updL, gate, binW, eqOp, binV, intOp, shOp, boolOp, fieldAddrV, indexAddrV, cellAt, cellsAt, findB, setB, lenV, hav, delB, eqL, SameI, strOp, ↓reduceIte, Zj, Zk, Nat.reduceAdd, Nat.reduceLT, Nat.reduceEqDiff, Nat.reduceMul, Nat.reduceLeDiff, if_true, Zn, reduceCtorEq, ZA, eq_self, Int.reduceLE, Int.reduceLT, Int.reduceToNat, ne_eq, Nat.reduceSub, Tfld35_0, Tld2, Tld35, Tslc31, Tslce31, q0, ql, n1, e1]
    repeat refine And.intro (by omega) ?_
    apply guardX_and 4 [25, 26, 27, 28] (j := 13) (d := 24) (tp := 29) (tl := 28) rfl rfl rfl rfl rfl
    · intro hq
      simp (maxSteps := 2000000) (disch := first | (simp only [E4, q0, ql, e1] <;> omega) | omega | fail) only [↓E2, E3, bare, bareJ, ↓E0, E1, env0, envN, evOps, evOp, evQs, evQ, evV, setD, pureOp, ev, upd, updL, gate, binW, eqOp, binV, intOp, shOp, boolOp, fieldAddrV, indexAddrV, cellAt, cellsAt, findB, setB, lenV, hav, delB, eqL, SameI, strOp, ↓reduceIte, Zj, Zk, Nat.reduceAdd, Nat.reduceLT, Nat.reduceEqDiff, Nat.reduceMul, Nat.reduceLeDiff, if_true, Zn, reduceCtorEq, ZA, eq_self, Int.reduceLE, Int.reduceLT, Int.reduceToNat, ne_eq, Nat.reduceSub, Tfld35_0, Tld2, Tld35, Tslc31, Tslce31, q0, ql, n1, e1]
      repeat refine And.intro (by omega) ?_
      exact rfl
    intro g
    simp (maxSteps := 2000000) (disch := first | (simp only [E4, q0, ql, e1] <;> omega) | omega | fail) only [↓E2, E3, bare, bareJ, ↓E0, E1, env0, envN, evOps, evOp, evQs, evQ, evV, setD, pureOp, ev, upd, updL, gate, binW, eqOp, binV, intOp, shOp, boolOp, fieldAddrV, indexAddrV, cellAt, cellsAt, findB, setB, lenV, hav, delB, eqL, SameI, strOp, ↓reduceIte, Zj, Zk, Nat.reduceAdd, Nat.reduceLT, Nat.reduceEqDiff, Nat.reduceMul, Nat.reduceLeDiff, if_true, Zn, reduceCtorEq, ZA, eq_self, Int.reduceLE, Int.reduceLT, Int.reduceToNat, ne_eq, Nat.reduceSub, Tfld35_0, Tld2, Tld35, Tslc31, Tslce31, q0, ql, n1, e1]
    repeat refine And.intro (by omega) ?_
    apply guardX_and 7 [31, 32, 33, 34, 35, 36, 37] (j := 19) (d := 30) (tp := 38) (tl := 37) rfl rfl rfl rfl rfl
    · intro hq
      simp (maxSteps := 2000000) (disch := first | (simp only [E4, q0, ql, e1] <;> omega) | omega | fail) only [↓E2, E3, bare, bareJ, ↓E0, E1, env0, envN, evOps, evOp, evQs, evQ, evV, setD, pureOp, ev, upd, updL, gate, binW, eqOp, binV, intOp, shOp, boolOp, fieldAddrV, indexAddrV, cellAt, cellsAt, findB, setB, lenV, hav, delB, eqL, SameI, strOp, ↓reduceIte, Zj, Zk, Nat.reduceAdd, Nat.reduceLT, Nat.reduceEqDiff, Nat.reduceMul, Nat.reduceLeDiff, if_true, Zn, reduceCtorEq, ZA, eq_self, Int.reduceLE, Int.reduceLT, Int.reduceToNat, ne_eq, Nat.reduceSub, Tfld35_0, Tld2, Tld35, Tslc31, Tslce31, q0, ql, n1, e1]
      repeat refine And.intro (by omega) ?_
      exact rfl
    intro g
    simp (maxSteps := 2000000) (disch := first | (simp only [E4, q0, ql, e1] <;> omega) | omega | fail) only [↓E2, E3, bare, bareJ, ↓E0, E1, env0, envN, evOps, evOp, evQs, evQ, evV, setD, pureOp, ev, upd, updL, gate, binW, eqOp, binV, intOp, shOp, boolOp, fieldAddrV, indexAddrV, cellAt, cellsAt, findB, setB, lenV, hav, delB, eqL, SameI, strOp, ↓reduceIte, Zj, Zk, Nat.reduceAdd, Nat.reduceLT, Nat.reduceEqDiff, Nat.reduceMul, Nat.reduceLeDiff, if_true, Zn, reduceCtorEq, ZA, eq_self, Int.reduceLE, Int.reduceLT, Int.reduceToNat, ne_eq, Nat.reduceSub, Tfld35_0, Tld2, Tld35, Tslc31, Tslce31, q0, ql, n1, e1]
    repeat refine And.intro (by omega) ?_
    apply guardX_and 2 [40, 41] (j := 28) (d := 39) (tp := 42) (tl := 41) rfl rfl rfl rfl rfl
    · intro hq
      simp (maxSteps := 2000000) (disch := first | (simp only [E4, q0, ql, e1] <;> omega) | omega | fail) only [↓E2, E3, bare, bareJ, ↓E0, E1, env0, envN, evOps, evOp, evQs, evQ, evV, setD, pureOp, ev, upd, updL, gate, binW, eqOp, binV, intOp, shOp, boolOp, fieldAddrV, indexAddrV, cellAt, cellsAt, findB, setB, lenV, hav, delB, eqL, SameI, strOp, ↓reduceIte, Zj, Zk, Nat.reduceAdd, Nat.reduceLT, Nat.reduceEqDiff, Nat.reduceMul, Nat.reduceLeDiff, if_true, Zn, reduceCtorEq, ZA, eq_self, Int.reduceLE, Int.reduceLT, Int.reduceToNat, ne_eq, Nat.reduceSub, Tfld35_0, Tld2, Tld35, Tslc31, Tslce31, q0, ql, n1, e1]
      repeat refine And.intro (by omega) ?_
      refine callK_told0 (areCoefficients_c l R _ hs (by omega)) hR ?_
      simp (maxSteps := 2000000) (disch := first | (simp only [E4, q0, ql, e1] <;> omega) | omega | fail) only [↓E2, E3, bare, bareJ, ↓E0, E1, env0, envN, evOps, evOp, evQs, evQ, evV, setD, pureOp, ev, upd, updL, gate, binW, eqOp, binV, intOp, shOp, boolOp, fieldAddrV, indexAddrV, cellAt, cellsAt, findB, setB, lenV, hav, delB, eqL, SameI, strOp, ↓reduceIte, Zj, Zk, Nat.reduceAdd, Nat.reduceLT, Nat.reduceEqDiff, Nat.reduceMul, Nat.reduceLeDiff, if_true, Zn, reduceCtorEq, ZA, eq_self, Int.reduceLE, Int.reduceLT, Int.reduceToNat, ne_eq, Nat.reduceSub, Tfld35_0, Tld2, Tld35, Tslc31, Tslce31, q0, ql, n1, e1]
      repeat refine And.intro (by omega) ?_
      exact rfl
    intro g
    simp (maxSteps := 2000000) (disch := first | (simp only [E4, q0, ql, e1] <;> omega) | omega | fail) only [↓E2, E3, bare, bareJ, ↓E0, E1, env0, envN, evOps, evOp, evQs, evQ, evV, setD, pureOp, ev, upd, updL, gate, binW, eqOp, binV, intOp, shOp, boolOp, fieldAddrV, indexAddrV, cellAt, cellsAt, findB, setB, lenV, hav, delB, eqL, SameI, strOp, ↓reduceIte, Zj, Zk, Nat.reduceAdd, Nat.reduceLT, Nat.reduceEqDiff, Nat.reduceMul, Nat.reduceLeDiff, if_true, Zn, reduceCtorEq, ZA, eq_self, Int.reduceLE, Int.reduceLT, Int.reduceToNat, ne_eq, Nat.reduceSub, Tfld35_0, Tld2, Tld35, Tslc31, Tslce31, q0, ql, n1, e1]
    repeat refine And.intro (by omega) ?_
    repeat refine And.intro (by omega) ?_
    intro g
    simp only [List.map_cons, List.map_nil, updL, upd, Nat.reduceEqDiff, if_true, if_false, ↓reduceIte]
    refine hK _ _ ?_; clear hK K
    refine Cd.ret ?_
    simp (maxSteps := 2000000) (disch := first | (simp only [E4, q0, ql, e1] <;> omega) | omega | fail) only [↓E2, E3, bare, bareJ, ↓E0, E1, evP, evPlan, env0, envN, evOps, evOp, evQs, evQ, evV, setD, pureOp, ev, upd, updL, gate, binW, eqOp, binV, intOp, shOp, boolOp, unV, convV, nilV, fieldAddrV, indexAddrV, extractV, cellAt, cellsAt, findB, setB, fillL, buildV, Value.cells, lenV, minV, maxV, hav, sliceV, loV, hiV, bslQ, mksQ, appQ, partsOk, partsCells, delB, eqL, SameI, strOp, apzQ, cvtQ, capV, ↓reduceIte, Zj, Zk, Nat.reduceAdd, Nat.reduceLT, Nat.reduceEqDiff, Nat.reduceMul, Nat.reduceLeDiff, if_true, Zn, reduceCtorEq, ZA, eq_self, Int.reduceLE, Int.reduceLT, Int.reduceToNat, ne_eq, Nat.reduceSub, q0, ql, n1, e1]
    repeat refine And.intro (by omega) ?_
    rw [lauOk_pos (by omega)]
    have e2 : decide ((l.length : Int) ≤ 2001) = decide (l.length ≤ 2001) := by
      by_cases hc : l.length ≤ 2001
      · rw [decide_eq_true hc, decide_eq_true (by omega)]
      · rw [decide_eq_false hc, decide_eq_false (by omega)]
    rw [e2]
    show Value.bool (_ && _ && _ && _ && !(l.getD 0 0 == 0) && !(l.getD (l.length - 1) 0 == 0) && _) = _
    generalize decide (l.length ≤ 2001) = a
    generalize (decide (-1000 ≤ low) && decide (low ≤ 1000)) = b
    cases a <;> cases b <;> rfl

end Go.Proofs

/-
  What the functions of this part hand back: each as a plain function of its arguments. Conditions: none.
-/
namespace Go.Proofs
open Go.W8
set_option linter.unusedVariables false
set_option linter.unusedSimpArgs false
set_option linter.unusedSectionVars false
set_option maxRecDepth 8000
set_option maxHeartbeats 4000000
def quotP (low : Int) (l : List Int) (k : Nat) (L : Blks) (r : Value) (M' : Blks) : Prop :=
  (∀ p ∈ L, p ∈ M') ∧ ((∃ q pv Mq, qIter (low, l) k = some q ∧ r = .tuple #[pv, .bool true] ∧ (∀ p ∈ Mq, p ∈ M') ∧ LauV q.1 q.2 pv Mq) ∨ (qIter (low, l) k = none ∧ r = .tuple #[.agg #[.int .i64 0, .slice none 0 0], .bool false]))
section
variable (low : Int) (l : List Int) (v : Value) (L : Blks) (hv : LauV low l v L) (hok : lauOk low l = true) (k : Nat) (hk : k ≤ 1000)
include hv hok hk
theorem l04Quotient_c : GivesX Try.prog 25 #[v, .int .i64 (k : Int)] L [] (quotP low l k L) := by
  obtain ⟨s0, rfl, hs0⟩ := hv
  obtain ⟨a0, m0, c0, rfl⟩ := hs0.form
  refine GivesX.of (callable_of Try.func25 rfl (by decide)) ?_ fun w hnd hlt hR => ?_
  · simp
  refine acall_of (N := 44) (c := _) (rs := [.cell 4 35, .tmp 5]) (args := [_, _]) Try.func25 rfl (by decide) rfl rfl (Nat.le_of_ble_eq_true rfl) ?_
  refine Cd.rs [1, 2, 4] fun K hK => ?_
  simp (maxSteps := 2000000) (disch := first | (simp only [E4] <;> omega) | omega | fail) only [↓E2, E3, bare, bareJ, ↓E0, E1, env0, envN, evOps, evOp, evQs, evQ, evV, setD, pureOp, ev, upd, updL, Value.cells, hav, delB, ↓reduceIte, Zj, Zk, Nat.reduceAdd, Nat.reduceLT, Nat.reduceEqDiff, Nat.reduceMul, Nat.reduceLeDiff, if_true, Zn, reduceCtorEq, ZA, eq_self, Int.reduceLE, Int.reduceLT, Int.reduceToNat, ne_eq, Nat.reduceSub, Tzero35]
  repeat refine And.intro (by omega) ?_
  intro b1 hb1
  intro b2 hb2
  have nb2_b1 := hb2.ne
  try simp (maxSteps := 2000000) (disch := first | (simp only [E4] <;> omega) | omega | fail) only [↓E2, E3, bare, bareJ, ↓E0, E1, env0, envN, evOps, evOp, evQs, evQ, evV, setD, pureOp, ev, upd, updL, Value.cells, hav, delB, ↓reduceIte, Zj, Zk, Nat.reduceAdd, Nat.reduceLT, Nat.reduceEqDiff, Nat.reduceMul, Nat.reduceLeDiff, if_true, Zn, reduceCtorEq, ZA, eq_self, Int.reduceLE, Int.reduceLT, Int.reduceToNat, ne_eq, Nat.reduceSub, Tzero35, nb2_b1]
  repeat refine And.intro (by omega) ?_
  repeat refine And.intro (by omega) ?_
  intro g
  simp only [List.map_cons, List.map_nil, updL, upd, Nat.reduceEqDiff, if_true, if_false, ↓reduceIte]
  refine hK _ _ ?_; clear hK K
  refine Cd.seq ?_
  refine Cd.block ?_
  refine Cd.loop (fun q ρ M => ∃ g j pl pll a m c Mq MM, j + q = k ∧ qIter (low, l) j = some (pl, pll) ∧ SlN 1 (ints .i64 pll) (.slice a m c) Mq ∧ (∀ p ∈ Mq, p ∈ MM) ∧ (∀ p ∈ L, p ∈ MM) ∧ ρ = updL [(1, .int .i64 (q : Int)), (2, .pointer (some ⟨b1, 0, none⟩)), (4, .pointer (some ⟨b2, 0, none⟩))] g ∧
    SubP ((b2, [.int .i64 0, .slice none 0 0]) :: (b1, [.int .i64 pl, .slice a m c]) :: MM) M) k ⟨_, 0, low, l, a0, m0, c0, L, L, Nat.zero_add _, rfl, hs0, fun _ h => h, fun _ h => h, rfl, SubP.refl _⟩ ?_
  rintro q ρ M ⟨g, j, pl, pll, a, m, c, Mq, MM, hj, hq, hsl, hMq, hL, rfl, hM⟩
  refine Cd.sub hM ?_
  clear hM M
  have qok := qIter_ok (p := (low, l)) hok j _ hq
  have q1 := lauOk_low qok
  have q2 := lauOk_len qok
  have q3 := lauOk_get qok
  have q4 := lauOk_high qok
  simp only at q1 q2 q3 q4
  refine Cd.nodup fun hnd => ?_
  have d21 : ¬ b2 = b1 := (nodup_cases hnd).1 (b1, _) (List.mem_cons_self)
  skip
  skip
  clear hnd
  refine Cd.seq ?_
  refine Cd.rs [1, 2, 4, 10] fun K hK => ?_
  simp (maxSteps := 2000000) (disch := first | (simp only [E4, d21] <;> omega) | omega | fail) only [↓E2, E3, bare, bareJ, ↓E0, E1, env0, envN, evOps, evOp, evQs, evQ, evV, setD, pureOp, ev, upd, updL, binW, eqOp, binV, intOp, shOp, boolOp, hav, delB, eqL, SameI, strOp, ↓reduceIte, Zj, Zk, Nat.reduceAdd, Nat.reduceLT, Nat.reduceEqDiff, Nat.reduceMul, Nat.reduceLeDiff, if_true, Zn, reduceCtorEq, ZA, eq_self, Int.reduceLE, Int.reduceLT, Int.reduceToNat, ne_eq, Nat.reduceSub, nb2_b1, d21]
  repeat refine And.intro (by omega) ?_
  repeat refine And.intro (by omega) ?_
  intro g
  simp only [List.map_cons, List.map_nil, updL, upd, Nat.reduceEqDiff, if_true, if_false, ↓reduceIte]
  refine hK _ _ ?_; clear hK K
  refine Cd.condd rfl (fun h1 => ?_) (fun h1 => ?_)
  · obtain rfl : m = pll.length := by
      rcases hsl with ⟨e1, e2, _⟩ | ⟨_, _, _, _, e, _, hr⟩
      · cases e2
        have := congrArg List.length e1
        rw [ints_length] at this
        simpa using this.symm
      · cases e
        exact lauLen hr.len
    refine Cd.skip ?_
    refine thenN ?_
    refine Cd.seq ?_
    refine Cd.block ?_
    refine Cd.rs [1, 2, 4, 6, 7] fun K hK => ?_
    simp (maxSteps := 2000000) (disch := first | (simp only [E4, d21] <;> omega) | omega | fail) only [↓E2, E3, bare, bareJ, ↓E0, E1, evP, env0, envN, evOps, evOp, evQs, evQ, evV, setD, pureOp, ev, upd, updL, Value.cells, hav, bslQ, partsOk, partsCells, delB, ↓reduceIte, Zj, Zk, Nat.reduceAdd, Nat.reduceLT, Nat.reduceEqDiff, Nat.reduceMul, Nat.reduceLeDiff, if_true, Zn, reduceCtorEq, ZA, eq_self, Int.reduceLE, Int.reduceLT, Int.reduceToNat, ne_eq, Nat.reduceSub, Tby2, Tslc31, Tslce31, Tzero2, nb2_b1, d21]
    repeat refine And.intro (by omega) ?_
    intro b3 hb3
    have nb3_b2 := hb3.ne
    have nb3_b1 := hb3.tail.ne
    try simp (maxSteps := 2000000) (disch := first | (simp only [E4, d21] <;> omega) | omega | fail) only [↓E2, E3, bare, bareJ, ↓E0, E1, evP, env0, envN, evOps, evOp, evQs, evQ, evV, setD, pureOp, ev, upd, updL, Value.cells, hav, bslQ, partsOk, partsCells, delB, ↓reduceIte, Zj, Zk, Nat.reduceAdd, Nat.reduceLT, Nat.reduceEqDiff, Nat.reduceMul, Nat.reduceLeDiff, if_true, Zn, reduceCtorEq, ZA, eq_self, Int.reduceLE, Int.reduceLT, Int.reduceToNat, ne_eq, Nat.reduceSub, Tby2, Tslc31, Tslce31, Tzero2, nb2_b1, d21, nb3_b2, nb3_b1]
    repeat refine And.intro (by omega) ?_
    repeat refine And.intro (by omega) ?_
    intro g
    simp only [List.map_cons, List.map_nil, updL, upd, Nat.reduceEqDiff, if_true, if_false, ↓reduceIte]
    refine hK _ _ ?_; clear hK K
    refine Cd.seq ?_
    refine Cd.rs [1, 2, 4, 6, 7, 8] fun K hK => ?_
    simp (maxSteps := 2000000) (disch := first | (simp only [E4, d21] <;> omega) | omega | fail) only [↓E2, E3, bare, bareJ, ↓E0, E1, env0, envN, evOps, evOp, evQs, evQ, evV, setD, pureOp, ev, upd, updL, hav, delB, ↓reduceIte, Zj, Zk, Nat.reduceAdd, Nat.reduceLT, Nat.reduceEqDiff, Nat.reduceMul, Nat.reduceLeDiff, if_true, Zn, reduceCtorEq, ZA, eq_self, Int.reduceLE, Int.reduceLT, Int.reduceToNat, ne_eq, Nat.reduceSub, nb2_b1, d21, nb3_b2, nb3_b1]
    repeat refine And.intro (by omega) ?_
    repeat refine And.intro (by omega) ?_
    intro g
    simp only [List.map_cons, List.map_nil, updL, upd, Nat.reduceEqDiff, if_true, if_false, ↓reduceIte]
    refine hK _ _ ?_; clear hK K
    refine Cd.block ?_
    refine Cd.loop (fun q2 ρ M => ∃ g i bl cap cs, i + q2 = pll.length ∧ Row 1 (ints .i64 (sums pll i)) i cap cs ∧ ρ = updL [(1, .int .i64 (q : Int)), (2, .pointer (some ⟨b1, 0, none⟩)), (4, .pointer (some ⟨b2, 0, none⟩)), (6, .slice (some ⟨bl, 0, none⟩) i cap), (7, .int .i64 (psum pll i)), (8, .int .i64 (i : Int))] g ∧
      SubP ((bl, cs) :: (b2, [.int .i64 0, .slice none 0 0]) :: (b1, [.int .i64 pl, .slice a pll.length c]) :: MM) M) pll.length ⟨_, 0, b3, 0, [], Nat.zero_add _, Row.nil 1, rfl, SubP.refl _⟩ ?_
    rintro q2' ρ M ⟨g, i, bl, cap, cs, hi, hrow, rfl, hM⟩
    refine Cd.sub hM ?_
    clear hM M
    refine Cd.nodup fun hnd => ?_
    have nL : ¬ bl ∈ L.map (·.1) := by
      intro hm
      obtain ⟨p, hp, e⟩ := List.mem_map.1 hm
      exact (nodup_cases hnd).1 p (by simp [hL p hp]) e.symm
    have dl2 : ¬ bl = b2 := (nodup_cases hnd).1 (b2, _) List.mem_cons_self
    have dl1 : ¬ bl = b1 := (nodup_cases hnd).1 (b1, _) (List.mem_cons_of_mem _ List.mem_cons_self)
    have ps := psum_bound q3 i
    have s1 := hrow.size1
    have s2 := hrow.le
    skip
    skip
    refine Cd.seq ?_
    refine Cd.rs [1, 2, 4, 6, 7, 8, 18] fun K hK => ?_
    simp (maxSteps := 2000000) (disch := first | (simp only [E4, d21, nL, dl2, dl1] <;> omega) | omega | fail) only [↓E2, E3, bare, bareJ, ↓E0, E1, env0, envN, evOps, evOp, evQs, evQ, evV, setD, pureOp, ev, upd, updL, binW, eqOp, binV, intOp, shOp, boolOp, fieldAddrV, cellAt, cellsAt, findB, lenV, hav, delB, eqL, SameI, strOp, ↓reduceIte, Zj, Zk, Nat.reduceAdd, Nat.reduceLT, Nat.reduceEqDiff, Nat.reduceMul, Nat.reduceLeDiff, if_true, Zn, reduceCtorEq, ZA, eq_self, Int.reduceLE, Int.reduceLT, Int.reduceToNat, ne_eq, Nat.reduceSub, Tfld35_1, Tld31, Tslce31, nb2_b1, d21, nb3_b2, nb3_b1, nL, dl2, dl1]
    repeat refine And.intro (by omega) ?_
    repeat refine And.intro (by omega) ?_
    intro g
    simp only [List.map_cons, List.map_nil, updL, upd, Nat.reduceEqDiff, if_true, if_false, ↓reduceIte]
    refine hK _ _ ?_; clear hK K
    refine Cd.condd rfl (fun h2 => ?_) (fun h2 => ?_)
    · rcases hsl with ⟨e1, _, _⟩ | ⟨bp, mp, cp, csp, e, rfl, hrp⟩
      · have := congrArg List.length e1
        rw [ints_length] at this
        simp only [List.length_nil] at this
        omega
      cases e
      have hbm := hMq (bp, csp) (List.mem_singleton.2 rfl)
      have hg := hrp.get (ints_get (k := .i64) (l := pll) (i := i) (by omega))
      have e1 : ¬ bl = bp := (nodup_cases hnd).1 (bp, csp) (by simp [hbm])
      have e2 : ¬ b2 = bp := (nodup_cases (nodup_cases hnd).2).1 (bp, csp) (by simp [hbm])
      have e3 : ¬ b1 = bp := (nodup_cases (nodup_cases (nodup_cases hnd).2).2).1 (bp, csp) hbm
      have fp := findB_of (nodup_cases (nodup_cases (nodup_cases hnd).2).2).2 hbm
      have qi := q3 i
      have ep : psum pll (i + 1) = psum pll i + pll.getD i 0 := rfl
      skip
      refine Cd.skip ?_
      refine thenN ?_
      refine Cd.seq ?_
      refine Cd.block ?_
      refine Cd.rs [1, 2, 4, 6, 7, 8] fun K hK => ?_
      simp (maxSteps := 2000000) (disch := first | (simp only [E4, d21, nL, dl2, dl1, hg, e1, e2, e3, fp] <;> omega) | omega | fail) only [↓E2, E3, bare, bareJ, ↓E0, E1, env0, envN, evOps, evOp, evQs, evQ, evV, setD, pureOp, ev, upd, updL, binW, eqOp, binV, intOp, shOp, boolOp, fieldAddrV, indexAddrV, cellAt, cellsAt, findB, hav, delB, eqL, SameI, strOp, ↓reduceIte, Zj, Zk, Nat.reduceAdd, Nat.reduceLT, Nat.reduceEqDiff, Nat.reduceMul, Nat.reduceLeDiff, if_true, Zn, reduceCtorEq, ZA, eq_self, Int.reduceLE, Int.reduceLT, Int.reduceToNat, ne_eq, Nat.reduceSub, Tfld35_1, Tld2, Tld31, Tslc31, nb2_b1, d21, nb3_b2, nb3_b1, nL, dl2, dl1, hg, e1, e2, e3, fp]
      repeat refine And.intro (by omega) ?_
      repeat refine And.intro (by omega) ?_
      intro g
      simp only [List.map_cons, List.map_nil, updL, upd, Nat.reduceEqDiff, if_true, if_false, ↓reduceIte]
      refine hK _ _ ?_; clear hK K
      refine Cd.rr [1, 2, 4, 6, 7, 8] fun K hK => ?_
      simp (maxSteps := 2000000) (disch := first | (simp only [E4, d21, nL, dl2, dl1, hg, e1, e2, e3, fp] <;> omega) | omega | fail) only [↓E2, E3, bare, bareJ, ↓E0, E1, evP, env0, envN, evOps, evOp, evQs, evQ, evV, setD, pureOp, ev, upd, updL, cellAt, cellsAt, findB, Value.cells, lenV, hav, bslQ, appQ, partsOk, partsCells, delB, apzQ, ↓reduceIte, Zj, Zk, Nat.reduceAdd, Nat.reduceLT, Nat.reduceEqDiff, Nat.reduceMul, Nat.reduceLeDiff, if_true, Zn, reduceCtorEq, ZA, eq_self, Int.reduceLE, Int.reduceLT, Int.reduceToNat, ne_eq, Nat.reduceSub, Tby2, Tslc31, Tslce31, Tzero2, nb2_b1, d21, nb3_b2, nb3_b1, nL, dl2, dl1, hg, e1, e2, e3, fp]
      repeat refine And.intro (by omega) ?_
      intro b4 hb4
      have nb4_bl := hb4.ne
      have nb4_b2 := hb4.tail.ne
      have nb4_b1 := hb4.tail.tail.ne
      try simp (maxSteps := 2000000) (disch := first | (simp only [E4, d21, nL, dl2, dl1, hg, e1, e2, e3, fp] <;> omega) | omega | fail) only [↓E2, E3, bare, bareJ, ↓E0, E1, evP, env0, envN, evOps, evOp, evQs, evQ, evV, setD, pureOp, ev, upd, updL, cellAt, cellsAt, findB, Value.cells, lenV, hav, bslQ, appQ, partsOk, partsCells, delB, apzQ, ↓reduceIte, Zj, Zk, Nat.reduceAdd, Nat.reduceLT, Nat.reduceEqDiff, Nat.reduceMul, Nat.reduceLeDiff, if_true, Zn, reduceCtorEq, ZA, eq_self, Int.reduceLE, Int.reduceLT, Int.reduceToNat, ne_eq, Nat.reduceSub, Tby2, Tslc31, Tslce31, Tzero2, nb2_b1, d21, nb3_b2, nb3_b1, nL, dl2, dl1, hg, e1, e2, e3, fp, nb4_bl, nb4_b2, nb4_b1]
      repeat refine And.intro (by omega) ?_
      intro b' cap' rest' hf hc hr'
      have hr2 := hrow.snoc1 (news := [.int .i64 (psum pll i + pll.getD i 0)]) rfl hc hr'
      rw [ints_snoc, ← ep, ← sums_succ] at hr2
      rw [← ep]
      repeat refine And.intro (by omega) ?_
      intro g
      simp only [List.map_cons, List.map_nil, updL, upd, Nat.reduceEqDiff, if_true, if_false, ↓reduceIte]
      refine hK _ _ ?_; clear hK K
      refine inBN ?_
      refine thenN ?_
      refine Cd.rr [1, 2, 4, 6, 7, 8] fun K hK => ?_
      simp (maxSteps := 2000000) (disch := first | (simp only [E4, d21, nL, dl2, dl1, hg, e1, e2, e3, fp] <;> omega) | omega | fail) only [↓E2, E3, bare, bareJ, ↓E0, E1, env0, envN, evOps, evOp, evQs, evQ, evV, setD, pureOp, ev, upd, updL, binW, eqOp, binV, intOp, shOp, boolOp, hav, delB, eqL, SameI, strOp, ↓reduceIte, Zj, Zk, Nat.reduceAdd, Nat.reduceLT, Nat.reduceEqDiff, Nat.reduceMul, Nat.reduceLeDiff, if_true, Zn, reduceCtorEq, ZA, eq_self, Int.reduceLE, Int.reduceLT, Int.reduceToNat, ne_eq, Nat.reduceSub, nb2_b1, d21, nb3_b2, nb3_b1, nL, dl2, dl1, hg, e1, e2, e3, fp, nb4_bl, nb4_b2, nb4_b1]
      repeat refine And.intro (by omega) ?_
      repeat refine And.intro (by omega) ?_
      intro g
      simp only [List.map_cons, List.map_nil, updL, upd, Nat.reduceEqDiff, if_true, if_false, ↓reduceIte]
      refine hK _ _ ?_; clear hK K
      exact roundN (m := q2' - 1) (by omega) ⟨_, i + 1, b', cap', _, by omega, hr2, rfl, SubP.of (List.Sublist.cons_cons _ (List.Sublist.cons _ (List.Sublist.refl _)))⟩
    · obtain rfl : i = pll.length := by omega
      refine Cd.exit (thenX (roundX (inBX ?_)))
      refine thenN ?_
      refine Cd.seq ?_
      refine Cd.rs [1, 2, 4, 6, 33] fun K hK => ?_
      simp (maxSteps := 2000000) (disch := first | (simp only [E4, d21, nL, dl2, dl1] <;> omega) | omega | fail) only [↓E2, E3, bare, bareJ, ↓E0, E1, env0, envN, evOps, evOp, evQs, evQ, evV, setD, pureOp, ev, upd, updL, binW, eqOp, binV, intOp, shOp, boolOp, hav, delB, eqL, SameI, strOp, ↓reduceIte, Zj, Zk, Nat.reduceAdd, Nat.reduceLT, Nat.reduceEqDiff, Nat.reduceMul, Nat.reduceLeDiff, if_true, Zn, reduceCtorEq, ZA, eq_self, Int.reduceLE, Int.reduceLT, Int.reduceToNat, ne_eq, Nat.reduceSub, nb2_b1, d21, nb3_b2, nb3_b1, nL, dl2, dl1]
      repeat refine And.intro (by omega) ?_
      repeat refine And.intro (by omega) ?_
      intro g
      simp only [List.map_cons, List.map_nil, updL, upd, Nat.reduceEqDiff, if_true, if_false, ↓reduceIte]
      refine hK _ _ ?_; clear hK K
      refine Cd.cond rfl (fun h3 => ?_) (fun h3 => ?_)
      · simp only [decide_eq_true_eq, decide_eq_false_iff_not, beq_iff_eq, beq_eq_false_iff_ne, bne_iff_ne, bne_eq_false_iff_eq, Bool.and_eq_true, Bool.or_eq_true, Bool.or_eq_false_iff, Bool.not_eq_true', Bool.not_eq_false', Bool.and_eq_false_imp, ne_eq, gt_iff_lt, ge_iff_le, Int.not_lt, Int.not_le, Classical.not_not] at h3
        have hn : qIter (low, l) (j + 1) = none := by
          rw [qIter_succ hq]
          unfold qStep
          rw [if_neg (fun h => h3 h.1)]
        refine Cd.rs [4, 5] fun K hK => ?_
        simp (maxSteps := 2000000) (disch := first | (simp only [E4, d21, nL, dl2, dl1] <;> omega) | omega | fail) only [↓E2, E3, bare, bareJ, ↓E0, E1, evP, env0, envN, evOps, evOp, evQs, evQ, evV, setD, pureOp, ev, upd, updL, cellAt, cellsAt, findB, setB, fillL, buildV, Value.cells, hav, delB, ↓reduceIte, Zj, Zk, Nat.reduceAdd, Nat.reduceLT, Nat.reduceEqDiff, Nat.reduceMul, Nat.reduceLeDiff, if_true, Zn, reduceCtorEq, ZA, eq_self, Int.reduceLE, Int.reduceLT, Int.reduceToNat, ne_eq, Nat.reduceSub, Tbld35, Tst35, nb2_b1, d21, nb3_b2, nb3_b1, nL, dl2, dl1]
        repeat refine And.intro (by omega) ?_
        repeat refine And.intro (by omega) ?_
        intro g
        simp only [List.map_cons, List.map_nil, updL, upd, Nat.reduceEqDiff, if_true, if_false, ↓reduceIte]
        refine hK _ _ ?_; clear hK K
        refine Cd.ret (thenR (inBR (thenR (roundR (inBR (thenR ?_))))))
        simp (maxSteps := 2000000) (disch := first | (simp only [E4, d21, nL, dl2, dl1] <;> omega) | omega | fail) only [↓E2, E3, bare, bareJ, ↓E0, E1, evP, evPlan, env0, envN, evOps, evOp, evQs, evQ, evV, setD, pureOp, ev, upd, updL, gate, binW, eqOp, binV, intOp, shOp, boolOp, unV, convV, nilV, fieldAddrV, indexAddrV, extractV, cellAt, cellsAt, findB, setB, fillL, buildV, Value.cells, lenV, minV, maxV, hav, sliceV, loV, hiV, bslQ, mksQ, appQ, partsOk, partsCells, delB, eqL, SameI, strOp, apzQ, cvtQ, capV, ↓reduceIte, Zj, Zk, Nat.reduceAdd, Nat.reduceLT, Nat.reduceEqDiff, Nat.reduceMul, Nat.reduceLeDiff, if_true, Zn, reduceCtorEq, ZA, eq_self, Int.reduceLE, Int.reduceLT, Int.reduceToNat, ne_eq, Nat.reduceSub, Tld35, nb2_b1, d21, nb3_b2, nb3_b1, nL, dl2, dl1]
        repeat refine And.intro (by omega) ?_
        exact ⟨fun p hp => by simp [hL p hp], .inr ⟨qIter_none hn k (by omega), rfl⟩⟩
      · simp only [decide_eq_true_eq, decide_eq_false_iff_not, beq_iff_eq, beq_eq_false_iff_ne, bne_iff_ne, bne_eq_false_iff_eq, Bool.and_eq_true, Bool.or_eq_true, Bool.or_eq_false_iff, Bool.not_eq_true', Bool.not_eq_false', Bool.and_eq_false_imp, ne_eq, gt_iff_lt, ge_iff_le, Int.not_lt, Int.not_le, Classical.not_not] at h3
        have hrd : RdS (toldOf [(bl, cs)]) 1 (ints .i64 (sums pll pll.length)) (.slice (some ⟨bl, 0, none⟩) pll.length cap) := (SlN.row hrow).reads fun p hp => mem_toldOf hp
        refine Cd.skip ?_
        refine thenN ?_
        refine Cd.rs [1, 2, 4] fun K hK => ?_
        simp (maxSteps := 2000000) (disch := first | (simp only [E4, d21, nL, dl2, dl1] <;> omega) | omega | fail) only [↓E2, E3, bare, bareJ, ↓E0, E1, env0, envN, evOps, evOp, evQs, evQ, evV, setD, pureOp, ev, upd, updL, fieldAddrV, cellAt, cellsAt, findB, setB, Value.cells, hav, delB, ↓reduceIte, Zj, Zk, Nat.reduceAdd, Nat.reduceLT, Nat.reduceEqDiff, Nat.reduceMul, Nat.reduceLeDiff, if_true, Zn, reduceCtorEq, ZA, eq_self, Int.reduceLE, Int.reduceLT, Int.reduceToNat, ne_eq, Nat.reduceSub, Tfld35_0, Tld2, Tst35, nb2_b1, d21, nb3_b2, nb3_b1, nL, dl2, dl1]
        repeat refine And.intro (by omega) ?_
        refine callK_newR0 (l04Trim_c pl (sums pll pll.length) _ _ hrd (by rw [sums_len]; omega) (by omega)) (HoldsAll.toldW (holds_mem hnd fun p hp => by rw [List.mem_singleton.1 hp]; exact List.mem_cons_self)) ?_
        rintro v' M' ⟨s', rfl, hs'⟩ nd' _
        obtain ⟨a', m', c', rfl⟩ := hs'.form
        simp only [List.cons_append, List.nil_append] at nd' ⊢
        simp (maxSteps := 2000000) (disch := first | (simp only [E4, d21, nL, dl2, dl1] <;> omega) | omega | fail) only [↓E2, E3, bare, bareJ, ↓E0, E1, env0, envN, evOps, evOp, evQs, evQ, evV, setD, pureOp, ev, upd, updL, fieldAddrV, cellAt, cellsAt, findB, setB, Value.cells, hav, delB, ↓reduceIte, Zj, Zk, Nat.reduceAdd, Nat.reduceLT, Nat.reduceEqDiff, Nat.reduceMul, Nat.reduceLeDiff, if_true, Zn, reduceCtorEq, ZA, eq_self, Int.reduceLE, Int.reduceLT, Int.reduceToNat, ne_eq, Nat.reduceSub, Tfld35_0, Tld2, Tst35, nb2_b1, d21, nb3_b2, nb3_b1, nL, dl2, dl1]
        repeat refine And.intro (by omega) ?_
        repeat refine And.intro (by omega) ?_
        intro g
        simp only [List.map_cons, List.map_nil, updL, upd, Nat.reduceEqDiff, if_true, if_false, ↓reduceIte]
        refine hK _ _ ?_; clear hK K
        have hper : ((b2, [.int .i64 0, .slice none 0 0]) :: (b1, [.int .i64 (trimLow pl (sums pll pll.length)), .slice a' m' c']) :: (MM ++ M')).Sublist ((bl, cs) :: (b2, [.int .i64 0, .slice none 0 0]) :: (b1, [.int .i64 (trimLow pl (sums pll pll.length)), .slice a' m' c']) :: (MM ++ M')) := List.Sublist.cons _ (List.Sublist.refl _)
        refine Cd.drop hper ?_
        refine Cd.nodup fun hnd2 => ?_
        skip
        refine Cd.rs [1, 2, 4, 41] fun K hK => ?_
        simp (maxSteps := 2000000) (disch := first | (simp only [E4, d21, nL, dl2, dl1] <;> omega) | omega | fail) only [↓E2, E3, bare, bareJ, ↓E0, E1, env0, envN, evOps, evOp, evQs, evQ, evV, setD, pureOp, ev, upd, updL, unV, cellAt, cellsAt, findB, setB, hav, delB, ↓reduceIte, Zj, Zk, Nat.reduceAdd, Nat.reduceLT, Nat.reduceEqDiff, Nat.reduceMul, Nat.reduceLeDiff, if_true, Zn, reduceCtorEq, ZA, eq_self, Int.reduceLE, Int.reduceLT, Int.reduceToNat, ne_eq, Nat.reduceSub, Tld35, nb2_b1, d21, nb3_b2, nb3_b1, nL, dl2, dl1]
        repeat refine And.intro (by omega) ?_
        refine callK_reads0 (l04Is_c _ _ (toldOf M') _ (hs'.reads fun p hp => mem_toldOf hp) (by have := trimL_le (sums pll pll.length); rw [sums_len] at this; omega) (by have := trE_le (sums pll pll.length); rw [sums_len] at this; have := trF_le (sums pll pll.length); unfold trimLow; split <;> omega)) (holds_mem hnd2 fun p hp => by simp [hp]) ?_
        simp (maxSteps := 2000000) (disch := first | (simp only [E4, d21, nL, dl2, dl1] <;> omega) | omega | fail) only [↓E2, E3, bare, bareJ, ↓E0, E1, env0, envN, evOps, evOp, evQs, evQ, evV, setD, pureOp, ev, upd, updL, unV, cellAt, cellsAt, findB, setB, hav, delB, ↓reduceIte, Zj, Zk, Nat.reduceAdd, Nat.reduceLT, Nat.reduceEqDiff, Nat.reduceMul, Nat.reduceLeDiff, if_true, Zn, reduceCtorEq, ZA, eq_self, Int.reduceLE, Int.reduceLT, Int.reduceToNat, ne_eq, Nat.reduceSub, Tld35, nb2_b1, d21, nb3_b2, nb3_b1, nL, dl2, dl1]
        repeat refine And.intro (by omega) ?_
        repeat refine And.intro (by omega) ?_
        intro g
        simp only [List.map_cons, List.map_nil, updL, upd, Nat.reduceEqDiff, if_true, if_false, ↓reduceIte]
        refine hK _ _ ?_; clear hK K
        have hlt := lauOk_trim (low := pl) (l := sums pll pll.length) q1.1 (by rw [sums_len]; exact q4) (by rw [sums_len]; exact q2)
        refine Cd.cond rfl (fun h4 => ?_) (fun h4 => ?_)
        · have hn : qIter (low, l) (j + 1) = none := by
            rw [qIter_succ hq]
            unfold qStep
            rw [if_neg]
            intro h
            rw [hlt, h.2] at h4
            cases h4
          refine Cd.rs [4, 5] fun K hK => ?_
          simp (maxSteps := 2000000) (disch := first | (simp only [E4, d21, nL, dl2, dl1] <;> omega) | omega | fail) only [↓E2, E3, bare, bareJ, ↓E0, E1, evP, env0, envN, evOps, evOp, evQs, evQ, evV, setD, pureOp, ev, upd, updL, cellAt, cellsAt, findB, setB, fillL, buildV, Value.cells, hav, delB, ↓reduceIte, Zj, Zk, Nat.reduceAdd, Nat.reduceLT, Nat.reduceEqDiff, Nat.reduceMul, Nat.reduceLeDiff, if_true, Zn, reduceCtorEq, ZA, eq_self, Int.reduceLE, Int.reduceLT, Int.reduceToNat, ne_eq, Nat.reduceSub, Tbld35, Tst35, nb2_b1, d21, nb3_b2, nb3_b1, nL, dl2, dl1]
          repeat refine And.intro (by omega) ?_
          repeat refine And.intro (by omega) ?_
          intro g
          simp only [List.map_cons, List.map_nil, updL, upd, Nat.reduceEqDiff, if_true, if_false, ↓reduceIte]
          refine hK _ _ ?_; clear hK K
          refine Cd.ret (inBR (thenR (roundR (inBR (thenR ?_)))))
          simp (maxSteps := 2000000) (disch := first | (simp only [E4, d21, nL, dl2, dl1] <;> omega) | omega | fail) only [↓E2, E3, bare, bareJ, ↓E0, E1, evP, evPlan, env0, envN, evOps, evOp, evQs, evQ, evV, setD, pureOp, ev, upd, updL, gate, binW, eqOp, binV, intOp, shOp, boolOp, unV, convV, nilV, fieldAddrV, indexAddrV, extractV, cellAt, cellsAt, findB, setB, fillL, buildV, Value.cells, lenV, minV, maxV, hav, sliceV, loV, hiV, bslQ, mksQ, appQ, partsOk, partsCells, delB, eqL, SameI, strOp, apzQ, cvtQ, capV, ↓reduceIte, Zj, Zk, Nat.reduceAdd, Nat.reduceLT, Nat.reduceEqDiff, Nat.reduceMul, Nat.reduceLeDiff, if_true, Zn, reduceCtorEq, ZA, eq_self, Int.reduceLE, Int.reduceLT, Int.reduceToNat, ne_eq, Nat.reduceSub, Tld35, nb2_b1, d21, nb3_b2, nb3_b1, nL, dl2, dl1]
          repeat refine And.intro (by omega) ?_
          exact ⟨fun p hp => by simp [hL p hp], .inr ⟨qIter_none hn k (by omega), rfl⟩⟩
        · have hn : qIter (low, l) (j + 1) = some (trimLow pl (sums pll pll.length), trimL (sums pll pll.length)) := by
            rw [qIter_succ hq]
            unfold qStep
            rw [if_pos]
            refine ⟨h3, ?_⟩
            rw [hlt] at h4
            simpa using h4
          refine Cd.skip ?_
          refine inBN ?_
          refine thenN ?_
          refine Cd.rr [1, 2, 4] fun K hK => ?_
          simp (maxSteps := 2000000) (disch := first | (simp only [E4, d21, nL, dl2, dl1] <;> omega) | omega | fail) only [↓E2, E3, bare, bareJ, ↓E0, E1, env0, envN, evOps, evOp, evQs, evQ, evV, setD, pureOp, ev, upd, updL, binW, eqOp, binV, intOp, shOp, boolOp, hav, delB, eqL, SameI, strOp, ↓reduceIte, Zj, Zk, Nat.reduceAdd, Nat.reduceLT, Nat.reduceEqDiff, Nat.reduceMul, Nat.reduceLeDiff, if_true, Zn, reduceCtorEq, ZA, eq_self, Int.reduceLE, Int.reduceLT, Int.reduceToNat, ne_eq, Nat.reduceSub, nb2_b1, d21, nb3_b2, nb3_b1, nL, dl2, dl1]
          repeat refine And.intro (by omega) ?_
          repeat refine And.intro (by omega) ?_
          intro g
          simp only [List.map_cons, List.map_nil, updL, upd, Nat.reduceEqDiff, if_true, if_false, ↓reduceIte]
          refine hK _ _ ?_; clear hK K
          have e0 : (q : Int) - 1 = ((q - 1 : Nat) : Int) := by omega
          rw [e0]
          exact roundN (m := q - 1) (by omega) ⟨_, j + 1, _, _, a', m', c', M', MM ++ M', by omega, hn, hs', fun p hp => List.mem_append_right _ hp, fun p hp => List.mem_append_left _ (hL p hp), rfl, SubP.refl _⟩
  · obtain rfl : j = k := by omega
    refine Cd.exit (thenX (roundX (inBX ?_)))
    refine thenN ?_
    refine Cd.rs [4, 5] fun K hK => ?_
    simp (maxSteps := 2000000) (disch := first | (simp only [E4, d21] <;> omega) | omega | fail) only [↓E2, E3, bare, bareJ, ↓E0, E1, env0, envN, evOps, evOp, evQs, evQ, evV, setD, pureOp, ev, upd, updL, cellAt, cellsAt, findB, setB, Value.cells, hav, delB, ↓reduceIte, Zj, Zk, Nat.reduceAdd, Nat.reduceLT, Nat.reduceEqDiff, Nat.reduceMul, Nat.reduceLeDiff, if_true, Zn, reduceCtorEq, ZA, eq_self, Int.reduceLE, Int.reduceLT, Int.reduceToNat, ne_eq, Nat.reduceSub, Tld35, Tst35, nb2_b1, d21]
    repeat refine And.intro (by omega) ?_
    repeat refine And.intro (by omega) ?_
    intro g
    simp only [List.map_cons, List.map_nil, updL, upd, Nat.reduceEqDiff, if_true, if_false, ↓reduceIte]
    refine hK _ _ ?_; clear hK K
    refine Cd.ret ?_
    simp (maxSteps := 2000000) (disch := first | (simp only [E4, d21] <;> omega) | omega | fail) only [↓E2, E3, bare, bareJ, ↓E0, E1, evP, evPlan, env0, envN, evOps, evOp, evQs, evQ, evV, setD, pureOp, ev, upd, updL, gate, binW, eqOp, binV, intOp, shOp, boolOp, unV, convV, nilV, fieldAddrV, indexAddrV, extractV, cellAt, cellsAt, findB, setB, fillL, buildV, Value.cells, lenV, minV, maxV, hav, sliceV, loV, hiV, bslQ, mksQ, appQ, partsOk, partsCells, delB, eqL, SameI, strOp, apzQ, cvtQ, capV, ↓reduceIte, Zj, Zk, Nat.reduceAdd, Nat.reduceLT, Nat.reduceEqDiff, Nat.reduceMul, Nat.reduceLeDiff, if_true, Zn, reduceCtorEq, ZA, eq_self, Int.reduceLE, Int.reduceLT, Int.reduceToNat, ne_eq, Nat.reduceSub, Tld35, nb2_b1, d21]
    repeat refine And.intro (by omega) ?_
    exact ⟨fun p hp => by simp [hL p hp], .inl ⟨_, _, Mq, hq, rfl, fun p hp => by simp [hMq p hp], _, rfl, hsl⟩⟩
end

end Go.Proofs

/-
  What the functions of this part hand back: each as a plain function of its arguments. Conditions: none.
-/
namespace Go.Proofs
open Go.W8
set_option linter.unusedVariables false
set_option linter.unusedSimpArgs false
set_option linter.unusedSectionVars false
set_option maxRecDepth 8000
set_option maxHeartbeats 4000000
theorem sums_bad {l : List Int} {i : Nat} (hi : i < l.length) (h : coOk (psum l (i + 1)) = false) : ¬ (sums l l.length).all coOk = true := by
  intro ha
  have := all_get.1 ha i (by rw [sums_len]; exact hi)
  rw [sums_get hi, h] at this
  cases this
theorem sums_good {l : List Int} (h : ∀ i, i < l.length → coOk (psum l (i + 1)) = true) : (sums l l.length).all coOk = true := by
  rw [all_get, sums_len]
  intro i hi
  rw [sums_get hi]
  exact h i hi
section
variable (low : Int) (l : List Int) (v : Value) (L : Blks) (hv : LauV low l v L) (hok : lauOk low l = true) (k : Nat) (hk : k ≤ 1000)
include hv hok hk
theorem iquotient_c : GivesX Try.prog 39 #[v, .int .i64 (k : Int)] L [] (quotP low l k L) := by
  obtain ⟨s0, rfl, hs0⟩ := hv
  obtain ⟨a0, m0, c0, rfl⟩ := hs0.form
  refine GivesX.of (callable_of Try.func39 rfl (by decide)) ?_ fun w hnd hlt hR => ?_
  · simp
  refine acall_of (N := 42) (c := _) (rs := [.cell 4 35, .tmp 5]) (args := [_, _]) Try.func39 rfl (by decide) rfl rfl (Nat.le_of_ble_eq_true rfl) ?_
  refine Cd.rs [1, 2, 4] fun K hK => ?_
  simp (maxSteps := 2000000) (disch := first | (simp only [E4] <;> omega) | omega | fail) only [↓E2, E3, bare, bareJ, ↓E0, E1, env0, envN, evOps, evOp, evQs, evQ, evV, setD, pureOp, ev, upd, updL, Value.cells, hav, delB, ↓reduceIte, Zj, Zk, Nat.reduceAdd, Nat.reduceLT, Nat.reduceEqDiff, Nat.reduceMul, Nat.reduceLeDiff, if_true, Zn, reduceCtorEq, ZA, eq_self, Int.reduceLE, Int.reduceLT, Int.reduceToNat, ne_eq, Nat.reduceSub, Tzero35]
  repeat refine And.intro (by omega) ?_
  intro b1 hb1
  intro b2 hb2
  have nb2_b1 := hb2.ne
  try simp (maxSteps := 2000000) (disch := first | (simp only [E4] <;> omega) | omega | fail) only [↓E2, E3, bare, bareJ, ↓E0, E1, env0, envN, evOps, evOp, evQs, evQ, evV, setD, pureOp, ev, upd, updL, Value.cells, hav, delB, ↓reduceIte, Zj, Zk, Nat.reduceAdd, Nat.reduceLT, Nat.reduceEqDiff, Nat.reduceMul, Nat.reduceLeDiff, if_true, Zn, reduceCtorEq, ZA, eq_self, Int.reduceLE, Int.reduceLT, Int.reduceToNat, ne_eq, Nat.reduceSub, Tzero35, nb2_b1]
  repeat refine And.intro (by omega) ?_
  repeat refine And.intro (by omega) ?_
  intro g
  simp only [List.map_cons, List.map_nil, updL, upd, Nat.reduceEqDiff, if_true, if_false, ↓reduceIte]
  refine hK _ _ ?_; clear hK K
  refine Cd.seq ?_
  refine Cd.rs [2, 4, 10, 11] fun K hK => ?_
  simp (maxSteps := 2000000) (disch := first | (simp only [E4] <;> omega) | omega | fail) only [↓E2, E3, bare, bareJ, ↓E0, E1, env0, envN, evOps, evOp, evQs, evQ, evV, setD, pureOp, ev, upd, updL, hav, delB, ↓reduceIte, Zj, Zk, Nat.reduceAdd, Nat.reduceLT, Nat.reduceEqDiff, Nat.reduceMul, Nat.reduceLeDiff, if_true, Zn, reduceCtorEq, ZA, eq_self, Int.reduceLE, Int.reduceLT, Int.reduceToNat, ne_eq, Nat.reduceSub, nb2_b1]
  repeat refine And.intro (by omega) ?_
  repeat refine And.intro (by omega) ?_
  intro g
  simp only [List.map_cons, List.map_nil, updL, upd, Nat.reduceEqDiff, if_true, if_false, ↓reduceIte]
  refine hK _ _ ?_; clear hK K
  refine Cd.block ?_
  refine Cd.loop (fun q ρ M => ∃ g j pl pll a m c Mq MM, j + q = k ∧ qIter (low, l) j = some (pl, pll) ∧ SlN 1 (ints .i64 pll) (.slice a m c) Mq ∧ (∀ p ∈ Mq, p ∈ MM) ∧ (∀ p ∈ L, p ∈ MM) ∧ ρ = updL [(2, .pointer (some ⟨b1, 0, none⟩)), (4, .pointer (some ⟨b2, 0, none⟩)), (10, .int .i64 (k : Int)), (11, .int .i64 (j : Int))] g ∧
    SubP ((b2, [.int .i64 0, .slice none 0 0]) :: (b1, [.int .i64 pl, .slice a m c]) :: MM) M) k ⟨_, 0, low, l, a0, m0, c0, L, L, Nat.zero_add _, rfl, hs0, fun _ h => h, fun _ h => h, rfl, SubP.refl _⟩ ?_
  rintro q ρ M ⟨g, j, pl, pll, a, m, c, Mq, MM, hj, hq, hsl, hMq, hL, rfl, hM⟩
  refine Cd.sub hM ?_
  clear hM M
  have qok := qIter_ok (p := (low, l)) hok j _ hq
  have q1 := lauOk_low qok
  have q2 := lauOk_len qok
  have q3 := lauOk_get qok
  have q4 := lauOk_high qok
  simp only at q1 q2 q3 q4
  refine Cd.nodup fun hnd => ?_
  have d21 : ¬ b2 = b1 := (nodup_cases hnd).1 (b1, _) (List.mem_cons_self)
  skip
  skip
  clear hnd
  refine Cd.rs [2, 4, 10, 11, 12] fun K hK => ?_
  simp (maxSteps := 2000000) (disch := first | (simp only [E4, d21] <;> omega) | omega | fail) only [↓E2, E3, bare, bareJ, ↓E0, E1, env0, envN, evOps, evOp, evQs, evQ, evV, setD, pureOp, ev, upd, updL, binW, eqOp, binV, intOp, shOp, boolOp, hav, delB, eqL, SameI, strOp, ↓reduceIte, Zj, Zk, Nat.reduceAdd, Nat.reduceLT, Nat.reduceEqDiff, Nat.reduceMul, Nat.reduceLeDiff, if_true, Zn, reduceCtorEq, ZA, eq_self, Int.reduceLE, Int.reduceLT, Int.reduceToNat, ne_eq, Nat.reduceSub, nb2_b1, d21]
  repeat refine And.intro (by omega) ?_
  repeat refine And.intro (by omega) ?_
  intro g
  simp only [List.map_cons, List.map_nil, updL, upd, Nat.reduceEqDiff, if_true, if_false, ↓reduceIte]
  refine hK _ _ ?_; clear hK K
  refine Cd.seq ?_
  refine Cd.condd rfl (fun h1 => ?_) (fun h1 => ?_)
  · obtain rfl : m = pll.length := by
      rcases hsl with ⟨e1, e2, _⟩ | ⟨_, _, _, _, e, _, hr⟩
      · cases e2
        have := congrArg List.length e1
        rw [ints_length] at this
        simpa using this.symm
      · cases e
        exact lauLen hr.len
    refine Cd.skip ?_
    refine thenN ?_
    refine Cd.seq ?_
    refine Cd.block ?_
    refine Cd.rs [2, 4, 6, 7, 10, 11] fun K hK => ?_
    simp (maxSteps := 2000000) (disch := first | (simp only [E4, d21] <;> omega) | omega | fail) only [↓E2, E3, bare, bareJ, ↓E0, E1, evP, env0, envN, evOps, evOp, evQs, evQ, evV, setD, pureOp, ev, upd, updL, Value.cells, hav, bslQ, partsOk, partsCells, delB, ↓reduceIte, Zj, Zk, Nat.reduceAdd, Nat.reduceLT, Nat.reduceEqDiff, Nat.reduceMul, Nat.reduceLeDiff, if_true, Zn, reduceCtorEq, ZA, eq_self, Int.reduceLE, Int.reduceLT, Int.reduceToNat, ne_eq, Nat.reduceSub, Tby2, Tslc31, Tslce31, Tzero2, nb2_b1, d21]
    repeat refine And.intro (by omega) ?_
    intro b3 hb3
    have nb3_b2 := hb3.ne
    have nb3_b1 := hb3.tail.ne
    try simp (maxSteps := 2000000) (disch := first | (simp only [E4, d21] <;> omega) | omega | fail) only [↓E2, E3, bare, bareJ, ↓E0, E1, evP, env0, envN, evOps, evOp, evQs, evQ, evV, setD, pureOp, ev, upd, updL, Value.cells, hav, bslQ, partsOk, partsCells, delB, ↓reduceIte, Zj, Zk, Nat.reduceAdd, Nat.reduceLT, Nat.reduceEqDiff, Nat.reduceMul, Nat.reduceLeDiff, if_true, Zn, reduceCtorEq, ZA, eq_self, Int.reduceLE, Int.reduceLT, Int.reduceToNat, ne_eq, Nat.reduceSub, Tby2, Tslc31, Tslce31, Tzero2, nb2_b1, d21, nb3_b2, nb3_b1]
    repeat refine And.intro (by omega) ?_
    repeat refine And.intro (by omega) ?_
    intro g
    simp only [List.map_cons, List.map_nil, updL, upd, Nat.reduceEqDiff, if_true, if_false, ↓reduceIte]
    refine hK _ _ ?_; clear hK K
    refine Cd.seq ?_
    refine Cd.rs [2, 4, 6, 7, 10, 11, 15, 16, 17] fun K hK => ?_
    simp (maxSteps := 2000000) (disch := first | (simp only [E4, d21] <;> omega) | omega | fail) only [↓E2, E3, bare, bareJ, ↓E0, E1, env0, envN, evOps, evOp, evQs, evQ, evV, setD, pureOp, ev, upd, updL, fieldAddrV, cellAt, cellsAt, findB, lenV, hav, delB, ↓reduceIte, Zj, Zk, Nat.reduceAdd, Nat.reduceLT, Nat.reduceEqDiff, Nat.reduceMul, Nat.reduceLeDiff, if_true, Zn, reduceCtorEq, ZA, eq_self, Int.reduceLE, Int.reduceLT, Int.reduceToNat, ne_eq, Nat.reduceSub, Tfld35_1, Tld31, Tslce31, nb2_b1, d21, nb3_b2, nb3_b1]
    repeat refine And.intro (by omega) ?_
    repeat refine And.intro (by omega) ?_
    intro g
    simp only [List.map_cons, List.map_nil, updL, upd, Nat.reduceEqDiff, if_true, if_false, ↓reduceIte]
    refine hK _ _ ?_; clear hK K
    refine Cd.block ?_
    refine Cd.loop (fun q2 ρ M => ∃ g i bl cap cs, i + q2 = pll.length ∧ (∀ i', i' < i → coOk (psum pll (i' + 1)) = true) ∧ Row 1 (ints .i64 (sums pll i)) i cap cs ∧ ρ = updL [(2, .pointer (some ⟨b1, 0, none⟩)), (4, .pointer (some ⟨b2, 0, none⟩)), (6, .slice (some ⟨bl, 0, none⟩) i cap), (7, .int .i64 (psum pll i)), (10, .int .i64 (k : Int)), (11, .int .i64 (j : Int)), (15, .slice a pll.length c), (16, .int .i64 (pll.length : Int)), (17, .int .i64 (i : Int))] g ∧
      SubP ((bl, cs) :: (b2, [.int .i64 0, .slice none 0 0]) :: (b1, [.int .i64 pl, .slice a pll.length c]) :: MM) M) pll.length ⟨_, 0, b3, 0, [], Nat.zero_add _, fun _ h => absurd h (by omega), Row.nil 1, rfl, SubP.refl _⟩ ?_
    rintro q2' ρ M ⟨g, i, bl, cap, cs, hi, hgood, hrow, rfl, hM⟩
    refine Cd.sub hM ?_
    clear hM M
    refine Cd.nodup fun hnd => ?_
    have nL : ¬ bl ∈ L.map (·.1) := by
      intro hm
      obtain ⟨p, hp, e⟩ := List.mem_map.1 hm
      exact (nodup_cases hnd).1 p (by simp [hL p hp]) e.symm
    have dl2 : ¬ bl = b2 := (nodup_cases hnd).1 (b2, _) List.mem_cons_self
    have dl1 : ¬ bl = b1 := (nodup_cases hnd).1 (b1, _) (List.mem_cons_of_mem _ List.mem_cons_self)
    have ps := psum_bound q3 i
    have s1 := hrow.size1
    have s2 := hrow.le
    skip
    skip
    refine Cd.rs [2, 4, 6, 7, 10, 11, 15, 16, 17, 18] fun K hK => ?_
    simp (maxSteps := 2000000) (disch := first | (simp only [E4, d21, nL, dl2, dl1] <;> omega) | omega | fail) only [↓E2, E3, bare, bareJ, ↓E0, E1, env0, envN, evOps, evOp, evQs, evQ, evV, setD, pureOp, ev, upd, updL, binW, eqOp, binV, intOp, shOp, boolOp, hav, delB, eqL, SameI, strOp, ↓reduceIte, Zj, Zk, Nat.reduceAdd, Nat.reduceLT, Nat.reduceEqDiff, Nat.reduceMul, Nat.reduceLeDiff, if_true, Zn, reduceCtorEq, ZA, eq_self, Int.reduceLE, Int.reduceLT, Int.reduceToNat, ne_eq, Nat.reduceSub, nb2_b1, d21, nb3_b2, nb3_b1, nL, dl2, dl1]
    repeat refine And.intro (by omega) ?_
    repeat refine And.intro (by omega) ?_
    intro g
    simp only [List.map_cons, List.map_nil, updL, upd, Nat.reduceEqDiff, if_true, if_false, ↓reduceIte]
    refine hK _ _ ?_; clear hK K
    refine Cd.seq ?_
    refine Cd.condd rfl (fun h2 => ?_) (fun h2 => ?_)
    · rcases hsl with ⟨e1, _, _⟩ | ⟨bp, mp, cp, csp, e, rfl, hrp⟩
      · have := congrArg List.length e1
        rw [ints_length] at this
        simp only [List.length_nil] at this
        omega
      cases e
      have hbm := hMq (bp, csp) (List.mem_singleton.2 rfl)
      have hg := hrp.get (ints_get (k := .i64) (l := pll) (i := i) (by omega))
      have e1 : ¬ bl = bp := (nodup_cases hnd).1 (bp, csp) (by simp [hbm])
      have e2 : ¬ b2 = bp := (nodup_cases (nodup_cases hnd).2).1 (bp, csp) (by simp [hbm])
      have e3 : ¬ b1 = bp := (nodup_cases (nodup_cases (nodup_cases hnd).2).2).1 (bp, csp) hbm
      have fp := findB_of (nodup_cases (nodup_cases (nodup_cases hnd).2).2).2 hbm
      have qi := q3 i
      have ep : psum pll (i + 1) = psum pll i + pll.getD i 0 := rfl
      skip
      refine Cd.skip ?_
      refine thenN ?_
      refine Cd.seq ?_
      refine Cd.block ?_
      refine Cd.rs [2, 4, 6, 7, 9, 10, 11, 15, 16, 17] fun K hK => ?_
      simp (maxSteps := 2000000) (disch := first | (simp only [E4, d21, nL, dl2, dl1, hg, e1, e2, e3, fp] <;> omega) | omega | fail) only [↓E2, E3, bare, bareJ, ↓E0, E1, env0, envN, evOps, evOp, evQs, evQ, evV, setD, pureOp, ev, upd, updL, indexAddrV, cellAt, cellsAt, findB, hav, delB, ↓reduceIte, Zj, Zk, Nat.reduceAdd, Nat.reduceLT, Nat.reduceEqDiff, Nat.reduceMul, Nat.reduceLeDiff, if_true, Zn, reduceCtorEq, ZA, eq_self, Int.reduceLE, Int.reduceLT, Int.reduceToNat, ne_eq, Nat.reduceSub, Tld2, Tslc31, nb2_b1, d21, nb3_b2, nb3_b1, nL, dl2, dl1, hg, e1, e2, e3, fp]
      repeat refine And.intro (by omega) ?_
      repeat refine And.intro (by omega) ?_
      intro g
      simp only [List.map_cons, List.map_nil, updL, upd, Nat.reduceEqDiff, if_true, if_false, ↓reduceIte]
      refine hK _ _ ?_; clear hK K
      refine Cd.rs [2, 4, 6, 7, 10, 11, 15, 16, 17] fun K hK => ?_
      simp (maxSteps := 2000000) (disch := first | (simp only [E4, d21, nL, dl2, dl1, hg, e1, e2, e3, fp] <;> omega) | omega | fail) only [↓E2, E3, bare, bareJ, ↓E0, E1, env0, envN, evOps, evOp, evQs, evQ, evV, setD, pureOp, ev, upd, updL, binW, eqOp, binV, intOp, shOp, boolOp, hav, delB, eqL, SameI, strOp, ↓reduceIte, Zj, Zk, Nat.reduceAdd, Nat.reduceLT, Nat.reduceEqDiff, Nat.reduceMul, Nat.reduceLeDiff, if_true, Zn, reduceCtorEq, ZA, eq_self, Int.reduceLE, Int.reduceLT, Int.reduceToNat, ne_eq, Nat.reduceSub, nb2_b1, d21, nb3_b2, nb3_b1, nL, dl2, dl1, hg, e1, e2, e3, fp]
      repeat refine And.intro (by omega) ?_
      repeat refine And.intro (by omega) ?_
      intro g
      simp only [List.map_cons, List.map_nil, updL, upd, Nat.reduceEqDiff, if_true, if_false, ↓reduceIte]
      refine hK _ _ ?_; clear hK K
      refine Cd.seq ?_
      refine Cd.rs [2, 4, 6, 7, 10, 11, 15, 16, 17, 26] fun K hK => ?_
      simp (maxSteps := 2000000) (disch := first | (simp only [E4, d21, nL, dl2, dl1, hg, e1, e2, e3, fp] <;> omega) | omega | fail) only [↓E2, E3, bare, bareJ, ↓E0, E1, env0, envN, evOps, evOp, evQs, evQ, evV, setD, pureOp, ev, upd, updL, unV, cellAt, cellsAt, findB, setB, hav, delB, ↓reduceIte, Zj, Zk, Nat.reduceAdd, Nat.reduceLT, Nat.reduceEqDiff, Nat.reduceMul, Nat.reduceLeDiff, if_true, Zn, reduceCtorEq, ZA, eq_self, Int.reduceLE, Int.reduceLT, Int.reduceToNat, ne_eq, Nat.reduceSub, nb2_b1, d21, nb3_b2, nb3_b1, nL, dl2, dl1, hg, e1, e2, e3, fp]
      repeat refine And.intro (by omega) ?_
      refine callK_gives (isCoefficient_c _) ?_
      simp (maxSteps := 2000000) (disch := first | (simp only [E4, d21, nL, dl2, dl1, hg, e1, e2, e3, fp] <;> omega) | omega | fail) only [↓E2, E3, bare, bareJ, ↓E0, E1, env0, envN, evOps, evOp, evQs, evQ, evV, setD, pureOp, ev, upd, updL, unV, cellAt, cellsAt, findB, setB, hav, delB, ↓reduceIte, Zj, Zk, Nat.reduceAdd, Nat.reduceLT, Nat.reduceEqDiff, Nat.reduceMul, Nat.reduceLeDiff, if_true, Zn, reduceCtorEq, ZA, eq_self, Int.reduceLE, Int.reduceLT, Int.reduceToNat, ne_eq, Nat.reduceSub, nb2_b1, d21, nb3_b2, nb3_b1, nL, dl2, dl1, hg, e1, e2, e3, fp]
      repeat refine And.intro (by omega) ?_
      repeat refine And.intro (by omega) ?_
      intro g
      simp only [List.map_cons, List.map_nil, updL, upd, Nat.reduceEqDiff, if_true, if_false, ↓reduceIte]
      refine hK _ _ ?_; clear hK K
      rw [← ep]
      refine Cd.cond rfl (fun h3 => ?_) (fun h3 => ?_)
      · have hn : qIter (low, l) (j + 1) = none := by
          rw [qIter_succ hq]
          unfold qStep
          rw [if_neg]
          intro h
          exact sums_bad (show i < pll.length by omega) (by simpa using h3) h.2
        refine Cd.rs [4, 5] fun K hK => ?_
        simp (maxSteps := 2000000) (disch := first | (simp only [E4, d21, nL, dl2, dl1, hg, e1, e2, e3, fp] <;> omega) | omega | fail) only [↓E2, E3, bare, bareJ, ↓E0, E1, evP, env0, envN, evOps, evOp, evQs, evQ, evV, setD, pureOp, ev, upd, updL, cellAt, cellsAt, findB, setB, fillL, buildV, Value.cells, hav, delB, ↓reduceIte, Zj, Zk, Nat.reduceAdd, Nat.reduceLT, Nat.reduceEqDiff, Nat.reduceMul, Nat.reduceLeDiff, if_true, Zn, reduceCtorEq, ZA, eq_self, Int.reduceLE, Int.reduceLT, Int.reduceToNat, ne_eq, Nat.reduceSub, Tbld35, Tst35, nb2_b1, d21, nb3_b2, nb3_b1, nL, dl2, dl1, hg, e1, e2, e3, fp]
        repeat refine And.intro (by omega) ?_
        repeat refine And.intro (by omega) ?_
        intro g
        simp only [List.map_cons, List.map_nil, updL, upd, Nat.reduceEqDiff, if_true, if_false, ↓reduceIte]
        refine hK _ _ ?_; clear hK K
        refine Cd.ret (thenR (inBR (thenR (roundR (inBR (thenR (inBR (thenR (roundR (inBR (thenR ?_)))))))))))
        simp (maxSteps := 2000000) (disch := first | (simp only [E4, d21, nL, dl2, dl1, hg, e1, e2, e3, fp] <;> omega) | omega | fail) only [↓E2, E3, bare, bareJ, ↓E0, E1, evP, evPlan, env0, envN, evOps, evOp, evQs, evQ, evV, setD, pureOp, ev, upd, updL, gate, binW, eqOp, binV, intOp, shOp, boolOp, unV, convV, nilV, fieldAddrV, indexAddrV, extractV, cellAt, cellsAt, findB, setB, fillL, buildV, Value.cells, lenV, minV, maxV, hav, sliceV, loV, hiV, bslQ, mksQ, appQ, partsOk, partsCells, delB, eqL, SameI, strOp, apzQ, cvtQ, capV, ↓reduceIte, Zj, Zk, Nat.reduceAdd, Nat.reduceLT, Nat.reduceEqDiff, Nat.reduceMul, Nat.reduceLeDiff, if_true, Zn, reduceCtorEq, ZA, eq_self, Int.reduceLE, Int.reduceLT, Int.reduceToNat, ne_eq, Nat.reduceSub, Tld35, nb2_b1, d21, nb3_b2, nb3_b1, nL, dl2, dl1, hg, e1, e2, e3, fp]
        repeat refine And.intro (by omega) ?_
        exact ⟨fun p hp => by simp [hL p hp], .inr ⟨qIter_none hn k (by omega), rfl⟩⟩
      · refine Cd.skip ?_
        refine thenN ?_
        refine Cd.rr [2, 4, 6, 7, 10, 11, 15, 16, 17] fun K hK => ?_
        simp (maxSteps := 2000000) (disch := first | (simp only [E4, d21, nL, dl2, dl1, hg, e1, e2, e3, fp] <;> omega) | omega | fail) only [↓E2, E3, bare, bareJ, ↓E0, E1, evP, env0, envN, evOps, evOp, evQs, evQ, evV, setD, pureOp, ev, upd, updL, cellAt, cellsAt, findB, Value.cells, lenV, hav, bslQ, appQ, partsOk, partsCells, delB, apzQ, ↓reduceIte, Zj, Zk, Nat.reduceAdd, Nat.reduceLT, Nat.reduceEqDiff, Nat.reduceMul, Nat.reduceLeDiff, if_true, Zn, reduceCtorEq, ZA, eq_self, Int.reduceLE, Int.reduceLT, Int.reduceToNat, ne_eq, Nat.reduceSub, Tby2, Tslc31, Tslce31, Tzero2, nb2_b1, d21, nb3_b2, nb3_b1, nL, dl2, dl1, hg, e1, e2, e3, fp]
        repeat refine And.intro (by omega) ?_
        intro b4 hb4
        have nb4_bl := hb4.ne
        have nb4_b2 := hb4.tail.ne
        have nb4_b1 := hb4.tail.tail.ne
        try simp (maxSteps := 2000000) (disch := first | (simp only [E4, d21, nL, dl2, dl1, hg, e1, e2, e3, fp] <;> omega) | omega | fail) only [↓E2, E3, bare, bareJ, ↓E0, E1, evP, env0, envN, evOps, evOp, evQs, evQ, evV, setD, pureOp, ev, upd, updL, cellAt, cellsAt, findB, Value.cells, lenV, hav, bslQ, appQ, partsOk, partsCells, delB, apzQ, ↓reduceIte, Zj, Zk, Nat.reduceAdd, Nat.reduceLT, Nat.reduceEqDiff, Nat.reduceMul, Nat.reduceLeDiff, if_true, Zn, reduceCtorEq, ZA, eq_self, Int.reduceLE, Int.reduceLT, Int.reduceToNat, ne_eq, Nat.reduceSub, Tby2, Tslc31, Tslce31, Tzero2, nb2_b1, d21, nb3_b2, nb3_b1, nL, dl2, dl1, hg, e1, e2, e3, fp, nb4_bl, nb4_b2, nb4_b1]
        repeat refine And.intro (by omega) ?_
        intro b' cap' rest' hf hc hr'
        have hr2 := hrow.snoc1 (news := [.int .i64 (psum pll (i + 1))]) rfl hc hr'
        rw [ints_snoc, ← sums_succ] at hr2
        repeat refine And.intro (by omega) ?_
        intro g
        simp only [List.map_cons, List.map_nil, updL, upd, Nat.reduceEqDiff, if_true, if_false, ↓reduceIte]
        refine hK _ _ ?_; clear hK K
        refine inBN ?_
        refine thenN ?_
        refine Cd.rr [2, 4, 6, 7, 10, 11, 15, 16, 17] fun K hK => ?_
        simp (maxSteps := 2000000) (disch := first | (simp only [E4, d21, nL, dl2, dl1, hg, e1, e2, e3, fp] <;> omega) | omega | fail) only [↓E2, E3, bare, bareJ, ↓E0, E1, env0, envN, evOps, evOp, evQs, evQ, evV, setD, pureOp, ev, upd, updL, binW, eqOp, binV, intOp, shOp, boolOp, hav, delB, eqL, SameI, strOp, ↓reduceIte, Zj, Zk, Nat.reduceAdd, Nat.reduceLT, Nat.reduceEqDiff, Nat.reduceMul, Nat.reduceLeDiff, if_true, Zn, reduceCtorEq, ZA, eq_self, Int.reduceLE, Int.reduceLT, Int.reduceToNat, ne_eq, Nat.reduceSub, nb2_b1, d21, nb3_b2, nb3_b1, nL, dl2, dl1, hg, e1, e2, e3, fp, nb4_bl, nb4_b2, nb4_b1]
        repeat refine And.intro (by omega) ?_
        repeat refine And.intro (by omega) ?_
        intro g
        simp only [List.map_cons, List.map_nil, updL, upd, Nat.reduceEqDiff, if_true, if_false, ↓reduceIte]
        refine hK _ _ ?_; clear hK K
        have hgood' : ∀ i', i' < i + 1 → coOk (psum pll (i' + 1)) = true := by
          intro i' hi'
          by_cases e : i' = i
          · rw [e]; simpa using h3
          · exact hgood i' (by omega)
        exact roundN (m := q2' - 1) (by omega) ⟨_, i + 1, b', cap', _, by omega, hgood', hr2, rfl, SubP.of (List.Sublist.cons_cons _ (List.Sublist.cons _ (List.Sublist.refl _)))⟩
    · obtain rfl : i = pll.length := by omega
      have hall := sums_good hgood
      refine Cd.exit (thenX (roundX (inBX ?_)))
      refine thenN ?_
      refine Cd.seq ?_
      refine Cd.rs [2, 4, 6, 10, 11, 34] fun K hK => ?_
      simp (maxSteps := 2000000) (disch := first | (simp only [E4, d21, nL, dl2, dl1] <;> omega) | omega | fail) only [↓E2, E3, bare, bareJ, ↓E0, E1, env0, envN, evOps, evOp, evQs, evQ, evV, setD, pureOp, ev, upd, updL, binW, eqOp, binV, intOp, shOp, boolOp, hav, delB, eqL, SameI, strOp, ↓reduceIte, Zj, Zk, Nat.reduceAdd, Nat.reduceLT, Nat.reduceEqDiff, Nat.reduceMul, Nat.reduceLeDiff, if_true, Zn, reduceCtorEq, ZA, eq_self, Int.reduceLE, Int.reduceLT, Int.reduceToNat, ne_eq, Nat.reduceSub, nb2_b1, d21, nb3_b2, nb3_b1, nL, dl2, dl1]
      repeat refine And.intro (by omega) ?_
      repeat refine And.intro (by omega) ?_
      intro g
      simp only [List.map_cons, List.map_nil, updL, upd, Nat.reduceEqDiff, if_true, if_false, ↓reduceIte]
      refine hK _ _ ?_; clear hK K
      refine Cd.cond rfl (fun h3 => ?_) (fun h3 => ?_)
      · simp only [decide_eq_true_eq, decide_eq_false_iff_not, beq_iff_eq, beq_eq_false_iff_ne, bne_iff_ne, bne_eq_false_iff_eq, Bool.and_eq_true, Bool.or_eq_true, Bool.or_eq_false_iff, Bool.not_eq_true', Bool.not_eq_false', Bool.and_eq_false_imp, ne_eq, gt_iff_lt, ge_iff_le, Int.not_lt, Int.not_le, Classical.not_not] at h3
        have hn : qIter (low, l) (j + 1) = none := by
          rw [qIter_succ hq]
          unfold qStep
          rw [if_neg (fun h => h3 h.1)]
        refine Cd.rs [4, 5] fun K hK => ?_
        simp (maxSteps := 2000000) (disch := first | (simp only [E4, d21, nL, dl2, dl1] <;> omega) | omega | fail) only [↓E2, E3, bare, bareJ, ↓E0, E1, evP, env0, envN, evOps, evOp, evQs, evQ, evV, setD, pureOp, ev, upd, updL, cellAt, cellsAt, findB, setB, fillL, buildV, Value.cells, hav, delB, ↓reduceIte, Zj, Zk, Nat.reduceAdd, Nat.reduceLT, Nat.reduceEqDiff, Nat.reduceMul, Nat.reduceLeDiff, if_true, Zn, reduceCtorEq, ZA, eq_self, Int.reduceLE, Int.reduceLT, Int.reduceToNat, ne_eq, Nat.reduceSub, Tbld35, Tst35, nb2_b1, d21, nb3_b2, nb3_b1, nL, dl2, dl1]
        repeat refine And.intro (by omega) ?_
        repeat refine And.intro (by omega) ?_
        intro g
        simp only [List.map_cons, List.map_nil, updL, upd, Nat.reduceEqDiff, if_true, if_false, ↓reduceIte]
        refine hK _ _ ?_; clear hK K
        refine Cd.ret (thenR (inBR (thenR (roundR (inBR (thenR ?_))))))
        simp (maxSteps := 2000000) (disch := first | (simp only [E4, d21, nL, dl2, dl1] <;> omega) | omega | fail) only [↓E2, E3, bare, bareJ, ↓E0, E1, evP, evPlan, env0, envN, evOps, evOp, evQs, evQ, evV, setD, pureOp, ev, upd, updL, gate, binW, eqOp, binV, intOp, shOp, boolOp, unV, convV, nilV, fieldAddrV, indexAddrV, extractV, cellAt, cellsAt, findB, setB, fillL, buildV, Value.cells, lenV, minV, maxV, hav, sliceV, loV, hiV, bslQ, mksQ, appQ, partsOk, partsCells, delB, eqL, SameI, strOp, apzQ, cvtQ, capV, ↓reduceIte, Zj, Zk, Nat.reduceAdd, Nat.reduceLT, Nat.reduceEqDiff, Nat.reduceMul, Nat.reduceLeDiff, if_true, Zn, reduceCtorEq, ZA, eq_self, Int.reduceLE, Int.reduceLT, Int.reduceToNat, ne_eq, Nat.reduceSub, Tld35, nb2_b1, d21, nb3_b2, nb3_b1, nL, dl2, dl1]
        repeat refine And.intro (by omega) ?_
        exact ⟨fun p hp => by simp [hL p hp], .inr ⟨qIter_none hn k (by omega), rfl⟩⟩
      · simp only [decide_eq_true_eq, decide_eq_false_iff_not, beq_iff_eq, beq_eq_false_iff_ne, bne_iff_ne, bne_eq_false_iff_eq, Bool.and_eq_true, Bool.or_eq_true, Bool.or_eq_false_iff, Bool.not_eq_true', Bool.not_eq_false', Bool.and_eq_false_imp, ne_eq, gt_iff_lt, ge_iff_le, Int.not_lt, Int.not_le, Classical.not_not] at h3
        have hrd : RdS (toldOf [(bl, cs)]) 1 (ints .i64 (sums pll pll.length)) (.slice (some ⟨bl, 0, none⟩) pll.length cap) := (SlN.row hrow).reads fun p hp => mem_toldOf hp
        have hn : qIter (low, l) (j + 1) = some (trimLow pl (sums pll pll.length), trimL (sums pll pll.length)) := by
          rw [qIter_succ hq]
          unfold qStep
          rw [if_pos ⟨h3, hall⟩]
        refine Cd.skip ?_
        refine thenN ?_
        refine Cd.rr [2, 4, 10, 11] fun K hK => ?_
        simp (maxSteps := 2000000) (disch := first | (simp only [E4, d21, nL, dl2, dl1] <;> omega) | omega | fail) only [↓E2, E3, bare, bareJ, ↓E0, E1, env0, envN, evOps, evOp, evQs, evQ, evV, setD, pureOp, ev, upd, updL, fieldAddrV, cellAt, cellsAt, findB, setB, Value.cells, hav, delB, ↓reduceIte, Zj, Zk, Nat.reduceAdd, Nat.reduceLT, Nat.reduceEqDiff, Nat.reduceMul, Nat.reduceLeDiff, if_true, Zn, reduceCtorEq, ZA, eq_self, Int.reduceLE, Int.reduceLT, Int.reduceToNat, ne_eq, Nat.reduceSub, Tfld35_0, Tld2, Tst35, nb2_b1, d21, nb3_b2, nb3_b1, nL, dl2, dl1]
        repeat refine And.intro (by omega) ?_
        refine callK_newR0 (trimmed_c pl (sums pll pll.length) _ _ hrd (by rw [sums_len]; omega) (by omega)) (HoldsAll.toldW (holds_mem hnd fun p hp => by rw [List.mem_singleton.1 hp]; exact List.mem_cons_self)) ?_
        rintro v' M' ⟨s', rfl, hs'⟩ nd' _
        obtain ⟨a', m', c', rfl⟩ := hs'.form
        simp only [List.cons_append, List.nil_append] at nd' ⊢
        simp (maxSteps := 2000000) (disch := first | (simp only [E4, d21, nL, dl2, dl1] <;> omega) | omega | fail) only [↓E2, E3, bare, bareJ, ↓E0, E1, env0, envN, evOps, evOp, evQs, evQ, evV, setD, pureOp, ev, upd, updL, fieldAddrV, cellAt, cellsAt, findB, setB, Value.cells, hav, delB, ↓reduceIte, Zj, Zk, Nat.reduceAdd, Nat.reduceLT, Nat.reduceEqDiff, Nat.reduceMul, Nat.reduceLeDiff, if_true, Zn, reduceCtorEq, ZA, eq_self, Int.reduceLE, Int.reduceLT, Int.reduceToNat, ne_eq, Nat.reduceSub, Tfld35_0, Tld2, Tst35, nb2_b1, d21, nb3_b2, nb3_b1, nL, dl2, dl1]
        repeat refine And.intro (by omega) ?_
        repeat refine And.intro (by omega) ?_
        intro g
        simp only [List.map_cons, List.map_nil, updL, upd, Nat.reduceEqDiff, if_true, if_false, ↓reduceIte]
        refine hK _ _ ?_; clear hK K
        have hper : ((b2, [.int .i64 0, .slice none 0 0]) :: (b1, [.int .i64 (trimLow pl (sums pll pll.length)), .slice a' m' c']) :: (MM ++ M')).Sublist ((bl, cs) :: (b2, [.int .i64 0, .slice none 0 0]) :: (b1, [.int .i64 (trimLow pl (sums pll pll.length)), .slice a' m' c']) :: (MM ++ M')) := List.Sublist.cons _ (List.Sublist.refl _)
        refine Cd.drop hper ?_
        refine Cd.nodup fun hnd2 => ?_
        refine Cd.rr [2, 4, 10, 11] fun K hK => ?_
        simp (maxSteps := 2000000) (disch := first | (simp only [E4, d21, nL, dl2, dl1] <;> omega) | omega | fail) only [↓E2, E3, bare, bareJ, ↓E0, E1, env0, envN, evOps, evOp, evQs, evQ, evV, setD, pureOp, ev, upd, updL, binW, eqOp, binV, intOp, shOp, boolOp, hav, delB, eqL, SameI, strOp, ↓reduceIte, Zj, Zk, Nat.reduceAdd, Nat.reduceLT, Nat.reduceEqDiff, Nat.reduceMul, Nat.reduceLeDiff, if_true, Zn, reduceCtorEq, ZA, eq_self, Int.reduceLE, Int.reduceLT, Int.reduceToNat, ne_eq, Nat.reduceSub, nb2_b1, d21, nb3_b2, nb3_b1, nL, dl2, dl1]
        repeat refine And.intro (by omega) ?_
        repeat refine And.intro (by omega) ?_
        intro g
        simp only [List.map_cons, List.map_nil, updL, upd, Nat.reduceEqDiff, if_true, if_false, ↓reduceIte]
        refine hK _ _ ?_; clear hK K
        exact roundN (m := q - 1) (by omega) ⟨_, j + 1, _, _, a', m', c', M', MM ++ M', by omega, hn, hs', fun p hp => List.mem_append_right _ hp, fun p hp => List.mem_append_left _ (hL p hp), rfl, SubP.refl _⟩
  · obtain rfl : j = k := by omega
    refine Cd.exit (thenX (roundX (inBX ?_)))
    refine thenN ?_
    refine Cd.rs [4, 5] fun K hK => ?_
    simp (maxSteps := 2000000) (disch := first | (simp only [E4, d21] <;> omega) | omega | fail) only [↓E2, E3, bare, bareJ, ↓E0, E1, env0, envN, evOps, evOp, evQs, evQ, evV, setD, pureOp, ev, upd, updL, cellAt, cellsAt, findB, setB, Value.cells, hav, delB, ↓reduceIte, Zj, Zk, Nat.reduceAdd, Nat.reduceLT, Nat.reduceEqDiff, Nat.reduceMul, Nat.reduceLeDiff, if_true, Zn, reduceCtorEq, ZA, eq_self, Int.reduceLE, Int.reduceLT, Int.reduceToNat, ne_eq, Nat.reduceSub, Tld35, Tst35, nb2_b1, d21]
    repeat refine And.intro (by omega) ?_
    repeat refine And.intro (by omega) ?_
    intro g
    simp only [List.map_cons, List.map_nil, updL, upd, Nat.reduceEqDiff, if_true, if_false, ↓reduceIte]
    refine hK _ _ ?_; clear hK K
    refine Cd.ret ?_
    simp (maxSteps := 2000000) (disch := first | (simp only [E4, d21] <;> omega) | omega | fail) only [↓E2, E3, bare, bareJ, ↓E0, E1, evP, evPlan, env0, envN, evOps, evOp, evQs, evQ, evV, setD, pureOp, ev, upd, updL, gate, binW, eqOp, binV, intOp, shOp, boolOp, unV, convV, nilV, fieldAddrV, indexAddrV, extractV, cellAt, cellsAt, findB, setB, fillL, buildV, Value.cells, lenV, minV, maxV, hav, sliceV, loV, hiV, bslQ, mksQ, appQ, partsOk, partsCells, delB, eqL, SameI, strOp, apzQ, cvtQ, capV, ↓reduceIte, Zj, Zk, Nat.reduceAdd, Nat.reduceLT, Nat.reduceEqDiff, Nat.reduceMul, Nat.reduceLeDiff, if_true, Zn, reduceCtorEq, ZA, eq_self, Int.reduceLE, Int.reduceLT, Int.reduceToNat, ne_eq, Nat.reduceSub, Tld35, nb2_b1, d21]
    repeat refine And.intro (by omega) ?_
    exact ⟨fun p hp => by simp [hL p hp], .inl ⟨_, _, Mq, hq, rfl, fun p hp => by simp [hMq p hp], _, rfl, hsl⟩⟩
end

end Go.Proofs

/-
  What the functions of this part hand back: each as a plain function of its arguments. Conditions: none.
-/
namespace Go.Proofs
open Go.W8
set_option linter.unusedVariables false
set_option linter.unusedSimpArgs false
set_option linter.unusedSectionVars false
set_option maxRecDepth 8000
set_option maxHeartbeats 4000000
def quotAns (low : Int) (l : List Int) (k : Int) : Int × List Int × Int :=
  if lauOk low l = true then if 0 ≤ k ∧ k ≤ 20 then match qIter (low, l) k.toNat with
    | some q => (q.1, q.2, 0)
    | none => (0, [], 5) else (0, [], 2) else (0, [], 1)
def lauRes (A : Int × List Int × Int) : Value → Blks → Prop := ResS (LauV A.1 A.2.1) A.2.2
section
variable (low : Int) (l : List Int) (v : Value) (L : Blks) (hv : LauV low l v L) (hL : (L.map (·.1)).Nodup) (hb : l.length ≤ 100000000) (hw : -9223372036854775808 ≤ low ∧ low < 9223372036854775808) (k : Int)
include hv hL hb hw
end
section
variable (low : Int) (l : List Int) (v : Value) (L : Blks) (hv : LauV low l v L) (hL : (L.map (·.1)).Nodup) (hb : l.length ≤ 100000000) (hw : -9223372036854775808 ≤ low ∧ low < 9223372036854775808) (k : Int)
include hv hL hb hw
end

end Go.Proofs

/-
  What the functions of this part hand back: each as a plain function of its arguments. Conditions: none.
-/
namespace Go.Proofs
open Go.W8
set_option linter.unusedVariables false
set_option linter.unusedSimpArgs false
set_option linter.unusedSectionVars false
set_option maxRecDepth 8000
set_option maxHeartbeats 4000000
def mirLow (low : Int) (l : List Int) : Int := if l.length = 0 then 0 else 1 - low - l.length
theorem rev_get {l : List Int} {i : Nat} (h : i < l.length) : l.reverse.getD i 0 = l.getD (l.length - 1 - i) 0 := by
  rw [List.getD_eq_getElem?_getD, List.getD_eq_getElem?_getD, List.getElem?_reverse h]
theorem lauOk_mir {low : Int} {l : List Int} (h : lauOk low l = true) : lauOk (mirLow low l) l.reverse = true := by
  by_cases h0 : l.length = 0
  · have e := List.eq_nil_of_length_eq_zero h0
    subst e
    rfl
  · rw [lauOk_pos h0] at h
    rw [lauOk_pos (by simpa using h0)]
    simp only [Bool.and_eq_true, Bool.not_eq_true', beq_eq_false_iff_ne, decide_eq_true_eq, List.length_reverse, List.all_reverse] at h ⊢
    unfold mirLow
    rw [if_neg h0, rev_get (by omega), rev_get (by omega), show l.length - 1 - (l.length - 1) = 0 by omega, Nat.sub_zero]
    refine ⟨⟨⟨⟨⟨?_, ?_, ?_⟩, ?_⟩, ?_⟩, ?_⟩, ?_⟩ <;> first | omega | exact h.1.1.2 | exact h.1.2 | exact h.2
def revs (l : List Int) (k : Nat) : List Int := (List.range k).map fun i => l.getD (l.length - 1 - i) 0
end Go.Proofs

/-
  What the functions of this part hand back: each as a plain function of its arguments. Conditions: none.
-/
namespace Go.Proofs
open Go.W8
set_option linter.unusedVariables false
set_option linter.unusedSimpArgs false
set_option linter.unusedSectionVars false
set_option maxRecDepth 8000
set_option maxHeartbeats 4000000
/-- What a function that asks for a grid hands back. -/
def wrapP (s : Int) (x o : List Int) (Post : Value → Blks → Prop) (z : Value) (v : Value) (M : Blks) : Prop := if gridB s x o then ResS Post 0 v M else v = .tuple #[z, .int .i64 1] ∧ M = []
def codeG (s : Int) (x o : List Int) : Int := if gridB s x o then 0 else 1
end Go.Proofs

/-
  What the functions of this part hand back: each as a plain function of its arguments. Conditions: none.
-/
namespace Go.Proofs
open Go.W8
set_option linter.unusedVariables false
set_option linter.unusedSimpArgs false
set_option linter.unusedSectionVars false
set_option maxRecDepth 8000
set_option maxHeartbeats 4000000
theorem detL_ok {n : Nat} (x o : List Int) (hn : n ≤ 8) : lauOk (detLow n x o) (detL n x o) = true := by
  unfold detLow detL
  rw [lauOk_trim (by omega) (by rw [detC_len]; omega) (by rw [detC_len]; omega), all_get]
  intro i hi
  rw [detC_len] at hi
  unfold detC
  rw [cntL_get (by rw [List.length_replicate]; exact hi), List.getD_eq_getElem?_getD, List.getElem?_replicate, if_pos hi]
  have h1 := dA_bound n (wtG x o) n 0 (freeS (List.replicate 8 false)) ((i : Int) - 0 - 8 * (n : Int))
  have hp : (n : Int) ^ n ≤ 16777216 := by
    have h1 : n ^ n ≤ 8 ^ 8 := Nat.le_trans (Nat.pow_le_pow_left hn n) (Nat.pow_le_pow_right (by decide) hn)
    have h2 : ((n ^ n : Nat) : Int) = (n : Int) ^ n := Int.natCast_pow n n
    omega
  unfold coOk
  simp only [Option.getD_some, Int.one_mul, Int.zero_add]
  rw [decide_eq_true (by omega), decide_eq_true (by omega)]
  rfl
def detAns (s : Int) (x o : List Int) : Int × List Int × Int := if gridB s x o then (detLow s.toNat x o, detL s.toNat x o, 0) else (0, [], 1)
section
variable (s : Int) (x o : List Int) (hx : Bytes8 x) (ho : Bytes8 o)
include hx ho
end

end Go.Proofs

