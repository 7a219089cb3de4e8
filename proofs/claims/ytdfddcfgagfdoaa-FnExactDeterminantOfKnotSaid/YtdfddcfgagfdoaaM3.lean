/-
  What the functions of this part hand back: each as a plain function of its arguments. Conditions: none.
-/
import Derived.ProofKit
import Derived.OpenShut
import Derived.Below
import Derived.ChangeSame
import Derived.Test.YtdfddcfgagfdoaaM1
import Derived.Test.YtdfddcfgagfdoaaM2
namespace Go.Proofs
open Go.W8
set_option linter.unusedVariables false
set_option linter.unusedSimpArgs false
set_option linter.unusedSectionVars false
set_option maxRecDepth 8000
set_option maxHeartbeats 4000000
theorem toByteA8_c (x : List Int) (hx : x.length = 8) : Gives Try.prog 108 #[.agg (ints .u8 x).toArray] (.agg (ints .u8 x).toArray) := by
  refine Gives.of fun w => ?_
  refine acall_of (N := 15) (c := _) (rs := [.cell 2 30]) (args := [_]) Try.func108 rfl (by decide) rfl rfl (Nat.le_of_ble_eq_true rfl) ?_
  refine Cd.rs [1, 2] fun K hK => ?_
  simp (maxSteps := 2000000) (disch := first | omega | (simp only [E4, *] <;> omega) | fail) only [↓E0, E1, evP, evPlan, env0, envN, evOps, evOp, evQs, evQ, evV, setD, pureOp, ev, upd, updL, gate, binW, eqOp, binV, intOp, shOp, boolOp, unV, convV, nilV, fieldAddrV, indexAddrV, extractV, cellAt, cellsAt, findB, setB, fillL, buildV, Value.cells, lenV, minV, maxV, hav, sliceV, loV, hiV, bslQ, mksQ, appQ, partsOk, partsCells, delB, eqL, SameI, strOp, apzQ, cvtQ, capV, ↓reduceIte, Zj, Zk, Nat.reduceAdd, Nat.reduceLT, Nat.reduceEqDiff, Nat.reduceMul, Nat.reduceLeDiff, if_true, Zn, reduceCtorEq, ZA, eq_self, Int.reduceLE, Int.reduceLT, Int.reduceToNat, ne_eq, Nat.reduceSub, Tzero30]
  intro b1 hb1 b2 hb2
  have n21 := hb2.ne
  repeat refine And.intro (by omega) ?_
  intro g
  simp only [List.map_cons, List.map_nil, updL, upd, Nat.reduceEqDiff, if_true, if_false, ↓reduceIte]
  refine hK _ _ ?_; clear hK K
  refine Cd.rs [1, 2, 3] fun K hK => ?_
  simp (maxSteps := 2000000) (disch := first | omega | (simp only [E4, *] <;> omega) | fail) only [↓E0, E1, evP, evPlan, env0, envN, evOps, evOp, evQs, evQ, evV, setD, pureOp, ev, upd, updL, gate, binW, eqOp, binV, intOp, shOp, boolOp, unV, convV, nilV, fieldAddrV, indexAddrV, extractV, cellAt, cellsAt, findB, setB, fillL, buildV, Value.cells, lenV, minV, maxV, hav, sliceV, loV, hiV, bslQ, mksQ, appQ, partsOk, partsCells, delB, eqL, SameI, strOp, apzQ, cvtQ, capV, ↓reduceIte, Zj, Zk, Nat.reduceAdd, Nat.reduceLT, Nat.reduceEqDiff, Nat.reduceMul, Nat.reduceLeDiff, if_true, Zn, reduceCtorEq, ZA, eq_self, Int.reduceLE, Int.reduceLT, Int.reduceToNat, ne_eq, Nat.reduceSub, Tzero30]
  intro b3 hb3
  have n32 := hb3.ne
  have n31 := hb3.tail.ne
  repeat refine And.intro (by omega) ?_
  intro g
  simp only [List.map_cons, List.map_nil, updL, upd, Nat.reduceEqDiff, if_true, if_false, ↓reduceIte]
  refine hK _ _ ?_; clear hK K
  refine Cd.seq ?_
  refine Cd.rs [1, 2, 3, 4] fun K hK => ?_
  simp (maxSteps := 2000000) (disch := first | omega | (simp only [E4, *] <;> omega) | fail) only [↓E0, E1, evP, evPlan, env0, envN, evOps, evOp, evQs, evQ, evV, setD, pureOp, ev, upd, updL, gate, binW, eqOp, binV, intOp, shOp, boolOp, unV, convV, nilV, fieldAddrV, indexAddrV, extractV, cellAt, cellsAt, findB, setB, fillL, buildV, Value.cells, lenV, minV, maxV, hav, sliceV, loV, hiV, bslQ, mksQ, appQ, partsOk, partsCells, delB, eqL, SameI, strOp, apzQ, cvtQ, capV, ↓reduceIte, Zj, Zk, Nat.reduceAdd, Nat.reduceLT, Nat.reduceEqDiff, Nat.reduceMul, Nat.reduceLeDiff, if_true, Zn, reduceCtorEq, ZA, eq_self, Int.reduceLE, Int.reduceLT, Int.reduceToNat, ne_eq, Nat.reduceSub]
  repeat refine And.intro (by omega) ?_
  intro g
  simp only [List.map_cons, List.map_nil, updL, upd, Nat.reduceEqDiff, if_true, if_false, ↓reduceIte]
  refine hK _ _ ?_; clear hK K
  refine Cd.block ?_
  refine Cd.loop (fun n ρ M => ∃ g k, k + n = 8 ∧ ρ = updL [(1, .pointer (some ⟨b1, 0, none⟩)), (2, .pointer (some ⟨b2, 0, none⟩)), (3, .pointer (some ⟨b3, 0, none⟩)), (4, .int .i64 (k : Int))] g ∧
    M = [(b3, ints .u8 (upto 8 (fun i => x.getD i 0) 0 k)), (b2, ints .u8 z8), (b1, ints .u8 x)]) 8 ⟨_, 0, Nat.zero_add _, rfl, rfl⟩ ?_
  rintro n ρ M ⟨g, k, hk, rfl, rfl⟩
  refine Cd.seq ?_
  refine Cd.rs [1, 2, 3, 4, 6] fun K hK => ?_
  simp (maxSteps := 2000000) (disch := first | omega | (simp only [E4, *] <;> omega) | fail) only [↓E0, E1, evP, evPlan, env0, envN, evOps, evOp, evQs, evQ, evV, setD, pureOp, ev, upd, updL, gate, binW, eqOp, binV, intOp, shOp, boolOp, unV, convV, nilV, fieldAddrV, indexAddrV, extractV, cellAt, cellsAt, findB, setB, fillL, buildV, Value.cells, lenV, minV, maxV, hav, sliceV, loV, hiV, bslQ, mksQ, appQ, partsOk, partsCells, delB, eqL, SameI, strOp, apzQ, cvtQ, capV, ↓reduceIte, Zj, Zk, Nat.reduceAdd, Nat.reduceLT, Nat.reduceEqDiff, Nat.reduceMul, Nat.reduceLeDiff, if_true, Zn, reduceCtorEq, ZA, eq_self, Int.reduceLE, Int.reduceLT, Int.reduceToNat, ne_eq, Nat.reduceSub]
  repeat refine And.intro (by omega) ?_
  intro g
  simp only [List.map_cons, List.map_nil, updL, upd, Nat.reduceEqDiff, if_true, if_false, ↓reduceIte]
  refine hK _ _ ?_; clear hK K
  refine Cd.condd rfl (fun h1 => ?_) (fun h1 => ?_)
  · refine Cd.skip ?_
    refine thenN ?_
    refine Cd.seq ?_
    refine Cd.block ?_
    refine Cd.rr [1, 2, 3, 4] fun K hK => ?_
    simp (maxSteps := 2000000) (disch := first | omega | (simp only [E4, n21, n32, n31, hx, *] <;> omega) | fail) only [↓E0, E1, evP, evPlan, env0, envN, evOps, evOp, evQs, evQ, evV, setD, pureOp, ev, upd, updL, gate, binW, eqOp, binV, intOp, shOp, boolOp, unV, convV, nilV, fieldAddrV, indexAddrV, extractV, cellAt, cellsAt, findB, setB, fillL, buildV, Value.cells, lenV, minV, maxV, hav, sliceV, loV, hiV, bslQ, mksQ, appQ, partsOk, partsCells, delB, eqL, SameI, strOp, apzQ, cvtQ, capV, ↓reduceIte, Zj, Zk, Nat.reduceAdd, Nat.reduceLT, Nat.reduceEqDiff, Nat.reduceMul, Nat.reduceLeDiff, if_true, Zn, reduceCtorEq, ZA, eq_self, Int.reduceLE, Int.reduceLT, Int.reduceToNat, ne_eq, Nat.reduceSub, Tarr30, Tld5, Tst5, n21, n32, n31, hx]
    repeat refine And.intro (by omega) ?_
    rw [upto_set rfl]
    repeat refine And.intro (by omega) ?_
    intro g
    simp only [List.map_cons, List.map_nil, updL, upd, Nat.reduceEqDiff, if_true, if_false, ↓reduceIte]
    refine hK _ _ ?_; clear hK K
    refine inBN ?_
    refine thenN ?_
    refine Cd.rr [1, 2, 3, 4] fun K hK => ?_
    simp (maxSteps := 2000000) (disch := first | omega | (simp only [E4, *] <;> omega) | fail) only [↓E0, E1, evP, evPlan, env0, envN, evOps, evOp, evQs, evQ, evV, setD, pureOp, ev, upd, updL, gate, binW, eqOp, binV, intOp, shOp, boolOp, unV, convV, nilV, fieldAddrV, indexAddrV, extractV, cellAt, cellsAt, findB, setB, fillL, buildV, Value.cells, lenV, minV, maxV, hav, sliceV, loV, hiV, bslQ, mksQ, appQ, partsOk, partsCells, delB, eqL, SameI, strOp, apzQ, cvtQ, capV, ↓reduceIte, Zj, Zk, Nat.reduceAdd, Nat.reduceLT, Nat.reduceEqDiff, Nat.reduceMul, Nat.reduceLeDiff, if_true, Zn, reduceCtorEq, ZA, eq_self, Int.reduceLE, Int.reduceLT, Int.reduceToNat, ne_eq, Nat.reduceSub]
    repeat refine And.intro (by omega) ?_
    intro g
    simp only [List.map_cons, List.map_nil, updL, upd, Nat.reduceEqDiff, if_true, if_false, ↓reduceIte]
    refine hK _ _ ?_; clear hK K
    exact roundN (m := n - 1) (by omega) ⟨_, k + 1, by omega, rfl, rfl⟩
  · refine Cd.exit (thenX (roundX (inBX ?_)))
    refine thenN ?_
    obtain rfl : k = 8 := by omega
    rw [upto_full hx]
    refine Cd.rs [2] fun K hK => ?_
    simp (maxSteps := 2000000) (disch := first | omega | (simp only [E4, n21, n32, n31, hx, *] <;> omega) | fail) only [↓E0, E1, evP, evPlan, env0, envN, evOps, evOp, evQs, evQ, evV, setD, pureOp, ev, upd, updL, gate, binW, eqOp, binV, intOp, shOp, boolOp, unV, convV, nilV, fieldAddrV, indexAddrV, extractV, cellAt, cellsAt, findB, setB, fillL, buildV, Value.cells, lenV, minV, maxV, hav, sliceV, loV, hiV, bslQ, mksQ, appQ, partsOk, partsCells, delB, eqL, SameI, strOp, apzQ, cvtQ, capV, ↓reduceIte, Zj, Zk, Nat.reduceAdd, Nat.reduceLT, Nat.reduceEqDiff, Nat.reduceMul, Nat.reduceLeDiff, if_true, Zn, reduceCtorEq, ZA, eq_self, Int.reduceLE, Int.reduceLT, Int.reduceToNat, ne_eq, Nat.reduceSub, Tld30, Tst30, n21, n32, n31, hx]
    repeat refine And.intro (by omega) ?_
    intro g
    simp only [List.map_cons, List.map_nil, updL, upd, Nat.reduceEqDiff, if_true, if_false, ↓reduceIte]
    refine hK _ _ ?_; clear hK K
    refine Cd.ret ?_
    simp (maxSteps := 2000000) (disch := first | omega | (simp only [E4, n21, n32, n31, hx, *] <;> omega) | fail) only [↓E0, E1, evP, evPlan, env0, envN, evOps, evOp, evQs, evQ, evV, setD, pureOp, ev, upd, updL, gate, binW, eqOp, binV, intOp, shOp, boolOp, unV, convV, nilV, fieldAddrV, indexAddrV, extractV, cellAt, cellsAt, findB, setB, fillL, buildV, Value.cells, lenV, minV, maxV, hav, sliceV, loV, hiV, bslQ, mksQ, appQ, partsOk, partsCells, delB, eqL, SameI, strOp, apzQ, cvtQ, capV, ↓reduceIte, Zj, Zk, Nat.reduceAdd, Nat.reduceLT, Nat.reduceEqDiff, Nat.reduceMul, Nat.reduceLeDiff, if_true, Zn, reduceCtorEq, ZA, eq_self, Int.reduceLE, Int.reduceLT, Int.reduceToNat, ne_eq, Nat.reduceSub, Tld30, n21, n32, n31, hx]

theorem toGrid_c (s : Int) (x o : List Int) (hx : x.length = 8) (ho : o.length = 8) : Gives Try.prog 36 #[.agg (gc s x o).toArray] (.agg (gc s x o).toArray) := by
  refine Gives.of fun w => ?_
  refine acall_of (N := 16) (c := _) (rs := [.cell 2 32]) (args := [_]) Try.func36 rfl (by decide) rfl rfl (Nat.le_of_ble_eq_true rfl) ?_
  refine Cd.rs [1, 2] fun K hK => ?_
  simp (maxSteps := 2000000) (disch := first | omega | (simp only [E4, *] <;> omega) | fail) only [↓E0, E1, evP, evPlan, env0, envN, evOps, evOp, evQs, evQ, evV, setD, pureOp, ev, upd, updL, gate, binW, eqOp, binV, intOp, shOp, boolOp, unV, convV, nilV, fieldAddrV, indexAddrV, extractV, cellAt, cellsAt, findB, setB, fillL, buildV, Value.cells, lenV, minV, maxV, hav, sliceV, loV, hiV, bslQ, mksQ, appQ, partsOk, partsCells, delB, eqL, SameI, strOp, apzQ, cvtQ, capV, ↓reduceIte, Zj, Zk, Nat.reduceAdd, Nat.reduceLT, Nat.reduceEqDiff, Nat.reduceMul, Nat.reduceLeDiff, if_true, Zn, reduceCtorEq, ZA, eq_self, Int.reduceLE, Int.reduceLT, Int.reduceToNat, ne_eq, Nat.reduceSub, Tzero32]
  intro b1 hb1 b2 hb2
  have n21 := hb2.ne
  repeat refine And.intro (by omega) ?_
  intro g
  simp only [List.map_cons, List.map_nil, updL, upd, Nat.reduceEqDiff, if_true, if_false, ↓reduceIte]
  refine hK _ _ ?_; clear hK K
  refine Cd.rs [1, 2, 3] fun K hK => ?_
  simp (maxSteps := 2000000) (disch := first | omega | (simp only [E4, *] <;> omega) | fail) only [↓E0, E1, evP, evPlan, env0, envN, evOps, evOp, evQs, evQ, evV, setD, pureOp, ev, upd, updL, gate, binW, eqOp, binV, intOp, shOp, boolOp, unV, convV, nilV, fieldAddrV, indexAddrV, extractV, cellAt, cellsAt, findB, setB, fillL, buildV, Value.cells, lenV, minV, maxV, hav, sliceV, loV, hiV, bslQ, mksQ, appQ, partsOk, partsCells, delB, eqL, SameI, strOp, apzQ, cvtQ, capV, ↓reduceIte, Zj, Zk, Nat.reduceAdd, Nat.reduceLT, Nat.reduceEqDiff, Nat.reduceMul, Nat.reduceLeDiff, if_true, Zn, reduceCtorEq, ZA, eq_self, Int.reduceLE, Int.reduceLT, Int.reduceToNat, ne_eq, Nat.reduceSub, Tzero32]
  intro b3 hb3
  have n32 := hb3.ne
  have n31 := hb3.tail.ne
  repeat refine And.intro (by omega) ?_
  intro g
  simp only [List.map_cons, List.map_nil, updL, upd, Nat.reduceEqDiff, if_true, if_false, ↓reduceIte]
  refine hK _ _ ?_; clear hK K
  refine Cd.rs [1, 2, 3] fun K hK => ?_
  simp (maxSteps := 2000000) (disch := first | omega | (simp only [E4, n21, n32, n31, hx, ho, *] <;> omega) | fail) only [↓E0, E1, evP, evPlan, env0, envN, evOps, evOp, evQs, evQ, evV, setD, pureOp, ev, upd, updL, gate, binW, eqOp, binV, intOp, shOp, boolOp, unV, convV, nilV, fieldAddrV, indexAddrV, extractV, cellAt, cellsAt, findB, setB, fillL, buildV, Value.cells, lenV, minV, maxV, hav, sliceV, loV, hiV, bslQ, mksQ, appQ, partsOk, partsCells, delB, eqL, SameI, strOp, apzQ, cvtQ, capV, ↓reduceIte, Zj, Zk, Nat.reduceAdd, Nat.reduceLT, Nat.reduceEqDiff, Nat.reduceMul, Nat.reduceLeDiff, if_true, Zn, reduceCtorEq, ZA, eq_self, Int.reduceLE, Int.reduceLT, Int.reduceToNat, ne_eq, Nat.reduceSub, Tfld32_0, Tfld49_0, Tld2, Tst2, n21, n32, n31, hx, ho]
  repeat refine And.intro (by omega) ?_
  intro g
  simp only [List.map_cons, List.map_nil, updL, upd, Nat.reduceEqDiff, if_true, if_false, ↓reduceIte]
  refine hK _ _ ?_; clear hK K
  refine Cd.rs [1, 2, 3] fun K hK => ?_
  simp (maxSteps := 2000000) (disch := first | omega | (simp only [E4, n21, n32, n31, hx, ho, *] <;> omega) | fail) only [↓E0, E1, evP, evPlan, env0, envN, evOps, evOp, evQs, evQ, evV, setD, pureOp, ev, upd, updL, gate, binW, eqOp, binV, intOp, shOp, boolOp, unV, convV, nilV, fieldAddrV, indexAddrV, extractV, cellAt, cellsAt, findB, setB, fillL, buildV, Value.cells, lenV, minV, maxV, hav, sliceV, loV, hiV, bslQ, mksQ, appQ, partsOk, partsCells, delB, eqL, SameI, strOp, apzQ, cvtQ, capV, ↓reduceIte, Zj, Zk, Nat.reduceAdd, Nat.reduceLT, Nat.reduceEqDiff, Nat.reduceMul, Nat.reduceLeDiff, if_true, Zn, reduceCtorEq, ZA, eq_self, Int.reduceLE, Int.reduceLT, Int.reduceToNat, ne_eq, Nat.reduceSub, Tfld32_1, Tfld49_1, Tld30, Tst30, n21, n32, n31, hx, ho]
  refine callK_gives (toByteA8_c _ hx) ?_
  simp (maxSteps := 2000000) (disch := first | omega | (simp only [E4, n21, n32, n31, hx, ho, *] <;> omega) | fail) only [↓E0, E1, evP, evPlan, env0, envN, evOps, evOp, evQs, evQ, evV, setD, pureOp, ev, upd, updL, gate, binW, eqOp, binV, intOp, shOp, boolOp, unV, convV, nilV, fieldAddrV, indexAddrV, extractV, cellAt, cellsAt, findB, setB, fillL, buildV, Value.cells, lenV, minV, maxV, hav, sliceV, loV, hiV, bslQ, mksQ, appQ, partsOk, partsCells, delB, eqL, SameI, strOp, apzQ, cvtQ, capV, ↓reduceIte, Zj, Zk, Nat.reduceAdd, Nat.reduceLT, Nat.reduceEqDiff, Nat.reduceMul, Nat.reduceLeDiff, if_true, Zn, reduceCtorEq, ZA, eq_self, Int.reduceLE, Int.reduceLT, Int.reduceToNat, ne_eq, Nat.reduceSub, Tfld32_1, Tfld49_1, Tld30, Tst30, n21, n32, n31, hx, ho]
  repeat refine And.intro (by omega) ?_
  intro g
  simp only [List.map_cons, List.map_nil, updL, upd, Nat.reduceEqDiff, if_true, if_false, ↓reduceIte]
  refine hK _ _ ?_; clear hK K
  refine Cd.rs [2, 3] fun K hK => ?_
  simp (maxSteps := 2000000) (disch := first | omega | (simp only [E4, n21, n32, n31, hx, ho, *] <;> omega) | fail) only [↓E0, E1, evP, evPlan, env0, envN, evOps, evOp, evQs, evQ, evV, setD, pureOp, ev, upd, updL, gate, binW, eqOp, binV, intOp, shOp, boolOp, unV, convV, nilV, fieldAddrV, indexAddrV, extractV, cellAt, cellsAt, findB, setB, fillL, buildV, Value.cells, lenV, minV, maxV, hav, sliceV, loV, hiV, bslQ, mksQ, appQ, partsOk, partsCells, delB, eqL, SameI, strOp, apzQ, cvtQ, capV, ↓reduceIte, Zj, Zk, Nat.reduceAdd, Nat.reduceLT, Nat.reduceEqDiff, Nat.reduceMul, Nat.reduceLeDiff, if_true, Zn, reduceCtorEq, ZA, eq_self, Int.reduceLE, Int.reduceLT, Int.reduceToNat, ne_eq, Nat.reduceSub, Tfld32_2, Tfld49_2, Tld30, Tst30, n21, n32, n31, hx, ho]
  refine callK_gives (toByteA8_c _ ho) ?_
  simp (maxSteps := 2000000) (disch := first | omega | (simp only [E4, n21, n32, n31, hx, ho, *] <;> omega) | fail) only [↓E0, E1, evP, evPlan, env0, envN, evOps, evOp, evQs, evQ, evV, setD, pureOp, ev, upd, updL, gate, binW, eqOp, binV, intOp, shOp, boolOp, unV, convV, nilV, fieldAddrV, indexAddrV, extractV, cellAt, cellsAt, findB, setB, fillL, buildV, Value.cells, lenV, minV, maxV, hav, sliceV, loV, hiV, bslQ, mksQ, appQ, partsOk, partsCells, delB, eqL, SameI, strOp, apzQ, cvtQ, capV, ↓reduceIte, Zj, Zk, Nat.reduceAdd, Nat.reduceLT, Nat.reduceEqDiff, Nat.reduceMul, Nat.reduceLeDiff, if_true, Zn, reduceCtorEq, ZA, eq_self, Int.reduceLE, Int.reduceLT, Int.reduceToNat, ne_eq, Nat.reduceSub, Tfld32_2, Tfld49_2, Tld30, Tst30, n21, n32, n31, hx, ho]
  repeat refine And.intro (by omega) ?_
  intro g
  simp only [List.map_cons, List.map_nil, updL, upd, Nat.reduceEqDiff, if_true, if_false, ↓reduceIte]
  refine hK _ _ ?_; clear hK K
  refine Cd.rs [2] fun K hK => ?_
  simp (maxSteps := 2000000) (disch := first | omega | (simp only [E4, n21, n32, n31, hx, ho, *] <;> omega) | fail) only [↓E0, E1, evP, evPlan, env0, envN, evOps, evOp, evQs, evQ, evV, setD, pureOp, ev, upd, updL, gate, binW, eqOp, binV, intOp, shOp, boolOp, unV, convV, nilV, fieldAddrV, indexAddrV, extractV, cellAt, cellsAt, findB, setB, fillL, buildV, Value.cells, lenV, minV, maxV, hav, sliceV, loV, hiV, bslQ, mksQ, appQ, partsOk, partsCells, delB, eqL, SameI, strOp, apzQ, cvtQ, capV, ↓reduceIte, Zj, Zk, Nat.reduceAdd, Nat.reduceLT, Nat.reduceEqDiff, Nat.reduceMul, Nat.reduceLeDiff, if_true, Zn, reduceCtorEq, ZA, eq_self, Int.reduceLE, Int.reduceLT, Int.reduceToNat, ne_eq, Nat.reduceSub, Tld32, Tst32, n21, n32, n31, hx, ho]
  repeat refine And.intro (by omega) ?_
  intro g
  simp only [List.map_cons, List.map_nil, updL, upd, Nat.reduceEqDiff, if_true, if_false, ↓reduceIte]
  refine hK _ _ ?_; clear hK K
  refine Cd.ret ?_
  simp (maxSteps := 2000000) (disch := first | omega | (simp only [E4, n21, n32, n31, hx, ho, *] <;> omega) | fail) only [↓E0, E1, evP, evPlan, env0, envN, evOps, evOp, evQs, evQ, evV, setD, pureOp, ev, upd, updL, gate, binW, eqOp, binV, intOp, shOp, boolOp, unV, convV, nilV, fieldAddrV, indexAddrV, extractV, cellAt, cellsAt, findB, setB, fillL, buildV, Value.cells, lenV, minV, maxV, hav, sliceV, loV, hiV, bslQ, mksQ, appQ, partsOk, partsCells, delB, eqL, SameI, strOp, apzQ, cvtQ, capV, ↓reduceIte, Zj, Zk, Nat.reduceAdd, Nat.reduceLT, Nat.reduceEqDiff, Nat.reduceMul, Nat.reduceLeDiff, if_true, Zn, reduceCtorEq, ZA, eq_self, Int.reduceLE, Int.reduceLT, Int.reduceToNat, ne_eq, Nat.reduceSub, Tld32, n21, n32, n31, hx, ho]

end Go.Proofs

/-
  What the functions of this part hand back: each as a plain function of its arguments. Conditions: none.
-/
namespace Go.Proofs
open Go.W8
set_option linter.unusedVariables false
set_option linter.unusedSimpArgs false
set_option linter.unusedSectionVars false
set_option maxRecDepth 8000
set_option maxHeartbeats 4000000
theorem l04Winding_c (s : Int) (x o : List Int) (hx : Bytes8 x) (ho : Bytes8 o) (a b : Int) (ha : a ≤ 8) : Gives Try.prog 175 #[.agg (gc s x o).toArray, .int .i64 a, .int .i64 b] (.int .i64 (wnd x o b a.toNat)) := by
  have hl := hx.len
  have hm := ho.len
  skip
  refine Gives.of fun w => ?_
  refine acall_of (N := 49) (c := _) (rs := [.tmp 6]) (args := [_, _, _]) Try.func175 rfl (by decide) rfl rfl (Nat.le_of_ble_eq_true rfl) ?_
  refine Cd.rs [1, 2, 3] fun K hK => ?_
  simp (maxSteps := 2000000) (disch := first | omega | (simp only [E4, hl, hm, *] <;> omega) | fail) only [↓E0, E1, evP, evPlan, env0, envN, evOps, evOp, evQs, evQ, evV, setD, pureOp, ev, upd, updL, gate, binW, eqOp, binV, intOp, shOp, boolOp, unV, convV, nilV, fieldAddrV, indexAddrV, extractV, cellAt, cellsAt, findB, setB, fillL, buildV, Value.cells, lenV, minV, maxV, hav, sliceV, loV, hiV, bslQ, mksQ, appQ, partsOk, partsCells, delB, eqL, SameI, strOp, apzQ, cvtQ, capV, ↓reduceIte, Zj, Zk, Nat.reduceAdd, Nat.reduceLT, Nat.reduceEqDiff, Nat.reduceMul, Nat.reduceLeDiff, if_true, Zn, reduceCtorEq, ZA, eq_self, Int.reduceLE, Int.reduceLT, Int.reduceToNat, ne_eq, Nat.reduceSub, hl, hm]
  intro b1 hb1
  try simp (maxSteps := 2000000) (disch := first | omega | (simp only [E4, hl, hm, *] <;> omega) | fail) only [↓E0, E1, evP, evPlan, env0, envN, evOps, evOp, evQs, evQ, evV, setD, pureOp, ev, upd, updL, gate, binW, eqOp, binV, intOp, shOp, boolOp, unV, convV, nilV, fieldAddrV, indexAddrV, extractV, cellAt, cellsAt, findB, setB, fillL, buildV, Value.cells, lenV, minV, maxV, hav, sliceV, loV, hiV, bslQ, mksQ, appQ, partsOk, partsCells, delB, eqL, SameI, strOp, apzQ, cvtQ, capV, ↓reduceIte, Zj, Zk, Nat.reduceAdd, Nat.reduceLT, Nat.reduceEqDiff, Nat.reduceMul, Nat.reduceLeDiff, if_true, Zn, reduceCtorEq, ZA, eq_self, Int.reduceLE, Int.reduceLT, Int.reduceToNat, ne_eq, Nat.reduceSub, hl, hm]
  repeat refine And.intro (by omega) ?_
  intro g
  simp only [List.map_cons, List.map_nil, updL, upd, Nat.reduceEqDiff, if_true, if_false, ↓reduceIte]
  refine hK _ _ ?_; clear hK K
  refine Cd.rs [1, 2, 3, 7] fun K hK => ?_
  simp (maxSteps := 2000000) (disch := first | omega | (simp only [E4, hl, hm, *] <;> omega) | fail) only [↓E0, E1, evP, evPlan, env0, envN, evOps, evOp, evQs, evQ, evV, setD, pureOp, ev, upd, updL, gate, binW, eqOp, binV, intOp, shOp, boolOp, unV, convV, nilV, fieldAddrV, indexAddrV, extractV, cellAt, cellsAt, findB, setB, fillL, buildV, Value.cells, lenV, minV, maxV, hav, sliceV, loV, hiV, bslQ, mksQ, appQ, partsOk, partsCells, delB, eqL, SameI, strOp, apzQ, cvtQ, capV, ↓reduceIte, Zj, Zk, Nat.reduceAdd, Nat.reduceLT, Nat.reduceEqDiff, Nat.reduceMul, Nat.reduceLeDiff, if_true, Zn, reduceCtorEq, ZA, eq_self, Int.reduceLE, Int.reduceLT, Int.reduceToNat, ne_eq, Nat.reduceSub, hl, hm]
  repeat refine And.intro (by omega) ?_
  intro g
  simp only [List.map_cons, List.map_nil, updL, upd, Nat.reduceEqDiff, if_true, if_false, ↓reduceIte]
  refine hK _ _ ?_; clear hK K
  refine Cd.seq ?_
  refine Cd.rs [1, 2, 3, 7, 8] fun K hK => ?_
  simp (maxSteps := 2000000) (disch := first | omega | (simp only [E4, hl, hm, *] <;> omega) | fail) only [↓E0, E1, evP, evPlan, env0, envN, evOps, evOp, evQs, evQ, evV, setD, pureOp, ev, upd, updL, gate, binW, eqOp, binV, intOp, shOp, boolOp, unV, convV, nilV, fieldAddrV, indexAddrV, extractV, cellAt, cellsAt, findB, setB, fillL, buildV, Value.cells, lenV, minV, maxV, hav, sliceV, loV, hiV, bslQ, mksQ, appQ, partsOk, partsCells, delB, eqL, SameI, strOp, apzQ, cvtQ, capV, ↓reduceIte, Zj, Zk, Nat.reduceAdd, Nat.reduceLT, Nat.reduceEqDiff, Nat.reduceMul, Nat.reduceLeDiff, if_true, Zn, reduceCtorEq, ZA, eq_self, Int.reduceLE, Int.reduceLT, Int.reduceToNat, ne_eq, Nat.reduceSub, hl, hm]
  repeat refine And.intro (by omega) ?_
  intro g
  simp only [List.map_cons, List.map_nil, updL, upd, Nat.reduceEqDiff, if_true, if_false, ↓reduceIte]
  refine hK _ _ ?_; clear hK K
  refine Cd.block ?_
  refine Cd.loop (fun m ρ M => ∃ g k, k + m = a.toNat ∧ ρ = updL ([(1, .int .i64 a), (2, .int .i64 b), (3, .pointer (some ⟨b1, 0, none⟩)), (7, .int .i64 (wnd x o b k)), (8, .int .i64 (k : Int))]) g ∧ M = [(b1, gc s x o)]) a.toNat ⟨_, 0, Nat.zero_add _, rfl, rfl⟩ ?_
  rintro m ρ M ⟨g, k, hk, rfl, rfl⟩
  refine Cd.seq ?_
  refine Cd.rs [1, 2, 3, 7, 8, 13] fun K hK => ?_
  simp (maxSteps := 2000000) (disch := first | omega | (simp only [E4, hl, hm, *] <;> omega) | fail) only [↓E0, E1, evP, evPlan, env0, envN, evOps, evOp, evQs, evQ, evV, setD, pureOp, ev, upd, updL, gate, binW, eqOp, binV, intOp, shOp, boolOp, unV, convV, nilV, fieldAddrV, indexAddrV, extractV, cellAt, cellsAt, findB, setB, fillL, buildV, Value.cells, lenV, minV, maxV, hav, sliceV, loV, hiV, bslQ, mksQ, appQ, partsOk, partsCells, delB, eqL, SameI, strOp, apzQ, cvtQ, capV, ↓reduceIte, Zj, Zk, Nat.reduceAdd, Nat.reduceLT, Nat.reduceEqDiff, Nat.reduceMul, Nat.reduceLeDiff, if_true, Zn, reduceCtorEq, ZA, eq_self, Int.reduceLE, Int.reduceLT, Int.reduceToNat, ne_eq, Nat.reduceSub, hl, hm]
  repeat refine And.intro (by omega) ?_
  intro g
  simp only [List.map_cons, List.map_nil, updL, upd, Nat.reduceEqDiff, if_true, if_false, ↓reduceIte]
  refine hK _ _ ?_; clear hK K
  refine Cd.condd rfl (fun h1 => ?_) (fun h1 => ?_)
  · have c1 := bytes_get hx (i := k) (by omega)
    have c2 := bytes_get ho (i := k) (by omega)
    have c3 := wnd_bound x o b k
    refine Cd.skip ?_
    refine thenN ?_
    refine Cd.seq ?_
    refine Cd.block ?_
    refine Cd.qs [1, 2, 3, 7, 8, 9, 10] fol (by kernel_rfl) fun K hK => ?_
    simp (maxSteps := 2000000) (disch := first | omega | (simp only [E4, hl, hm, *] <;> omega) | fail) only [↓E0, E1, evP, evPlan, env0, envN, evOps, evOp, evQs, evQ, evV, setD, pureOp, ev, upd, updL, gate, binW, eqOp, binV, intOp, shOp, boolOp, unV, convV, nilV, fieldAddrV, indexAddrV, extractV, cellAt, cellsAt, findB, setB, fillL, buildV, Value.cells, lenV, minV, maxV, hav, sliceV, loV, hiV, bslQ, mksQ, appQ, partsOk, partsCells, delB, eqL, SameI, strOp, apzQ, cvtQ, capV, ↓reduceIte, Zj, Zk, Nat.reduceAdd, Nat.reduceLT, Nat.reduceEqDiff, Nat.reduceMul, Nat.reduceLeDiff, if_true, Zn, reduceCtorEq, ZA, eq_self, Int.reduceLE, Int.reduceLT, Int.reduceToNat, ne_eq, Nat.reduceSub, Tarr30, Tfld32_1, Tfld32_2, Tint2, Tld5, Tpar5, hl, hm]
    repeat refine And.intro (by omega) ?_
    repeat refine And.intro (by omega) ?_
    intro g
    simp only [List.map_cons, List.map_nil, updL, upd, Nat.reduceEqDiff, if_true, if_false, ↓reduceIte]
    refine hK _ ?_; clear hK K
    refine Cd.block ?_
    refine Cd.rs [1, 2, 3, 7, 8, 9, 10, 26] fun K hK => ?_
    have J : ∀ g d, (d = true ↔ o.getD k 0 < b ∧ b ≤ x.getD k 0) → K (updL ([(1, .int .i64 a), (2, .int .i64 b), (3, .pointer (some ⟨b1, 0, none⟩)), (7, .int .i64 (wnd x o b k)), (8, .int .i64 (k : Int)), (9, .int .i64 (x.getD k 0)), (10, .int .i64 (o.getD k 0)), (26, .bool d)]) g) [(b1, gc s x o)] := by
      intro g d hd
      refine hK _ _ ?_
      clear hK K
      refine Cd.cond rfl (fun h2 => ?_) (fun h2 => ?_)
      · refine Cd.rr [1, 2, 3, 7, 8] fun K hK => ?_
        simp (maxSteps := 2000000) (disch := first | omega | (simp only [E4, hl, hm, *] <;> omega) | fail) only [↓E0, E1, evP, evPlan, env0, envN, evOps, evOp, evQs, evQ, evV, setD, pureOp, ev, upd, updL, gate, binW, eqOp, binV, intOp, shOp, boolOp, unV, convV, nilV, fieldAddrV, indexAddrV, extractV, cellAt, cellsAt, findB, setB, fillL, buildV, Value.cells, lenV, minV, maxV, hav, sliceV, loV, hiV, bslQ, mksQ, appQ, partsOk, partsCells, delB, eqL, SameI, strOp, apzQ, cvtQ, capV, ↓reduceIte, Zj, Zk, Nat.reduceAdd, Nat.reduceLT, Nat.reduceEqDiff, Nat.reduceMul, Nat.reduceLeDiff, if_true, Zn, reduceCtorEq, ZA, eq_self, Int.reduceLE, Int.reduceLT, Int.reduceToNat, ne_eq, Nat.reduceSub, hl, hm]
        rw [wnd_up (hd.1 h2)]
        repeat refine And.intro (by omega) ?_
        intro g
        simp only [List.map_cons, List.map_nil, updL, upd, Nat.reduceEqDiff, if_true, if_false, ↓reduceIte]
        refine hK _ _ ?_; clear hK K
        refine inBN ?_
        refine inBN ?_
        refine thenN ?_
        refine Cd.rr [1, 2, 3, 7, 8] fun K hK => ?_
        simp (maxSteps := 2000000) (disch := first | omega | (simp only [E4, hl, hm, *] <;> omega) | fail) only [↓E0, E1, evP, evPlan, env0, envN, evOps, evOp, evQs, evQ, evV, setD, pureOp, ev, upd, updL, gate, binW, eqOp, binV, intOp, shOp, boolOp, unV, convV, nilV, fieldAddrV, indexAddrV, extractV, cellAt, cellsAt, findB, setB, fillL, buildV, Value.cells, lenV, minV, maxV, hav, sliceV, loV, hiV, bslQ, mksQ, appQ, partsOk, partsCells, delB, eqL, SameI, strOp, apzQ, cvtQ, capV, ↓reduceIte, Zj, Zk, Nat.reduceAdd, Nat.reduceLT, Nat.reduceEqDiff, Nat.reduceMul, Nat.reduceLeDiff, if_true, Zn, reduceCtorEq, ZA, eq_self, Int.reduceLE, Int.reduceLT, Int.reduceToNat, ne_eq, Nat.reduceSub, hl, hm]
        repeat refine And.intro (by omega) ?_
        intro g
        simp only [List.map_cons, List.map_nil, updL, upd, Nat.reduceEqDiff, if_true, if_false, ↓reduceIte]
        refine hK _ _ ?_; clear hK K
        exact roundN (m := m - 1) (by omega) ⟨_, k + 1, by omega, rfl, rfl⟩
      · have h3 : ¬ (o.getD k 0 < b ∧ b ≤ x.getD k 0) := fun h => by rw [hd.2 h] at h2; cases h2
        refine Cd.rs [1, 2, 3, 7, 8, 37] fun K hK => ?_
        have J : ∀ g d, (d = true ↔ x.getD k 0 < b ∧ b ≤ o.getD k 0) → K (updL ([(1, .int .i64 a), (2, .int .i64 b), (3, .pointer (some ⟨b1, 0, none⟩)), (7, .int .i64 (wnd x o b k)), (8, .int .i64 (k : Int)), (37, .bool d)]) g) [(b1, gc s x o)] := by
          intro g d hd
          refine hK _ _ ?_
          clear hK K
          refine Cd.cond rfl (fun h2 => ?_) (fun h2 => ?_)
          · refine Cd.rr [1, 2, 3, 7, 8] fun K hK => ?_
            simp (maxSteps := 2000000) (disch := first | omega | (simp only [E4, hl, hm, *] <;> omega) | fail) only [↓E0, E1, evP, evPlan, env0, envN, evOps, evOp, evQs, evQ, evV, setD, pureOp, ev, upd, updL, gate, binW, eqOp, binV, intOp, shOp, boolOp, unV, convV, nilV, fieldAddrV, indexAddrV, extractV, cellAt, cellsAt, findB, setB, fillL, buildV, Value.cells, lenV, minV, maxV, hav, sliceV, loV, hiV, bslQ, mksQ, appQ, partsOk, partsCells, delB, eqL, SameI, strOp, apzQ, cvtQ, capV, ↓reduceIte, Zj, Zk, Nat.reduceAdd, Nat.reduceLT, Nat.reduceEqDiff, Nat.reduceMul, Nat.reduceLeDiff, if_true, Zn, reduceCtorEq, ZA, eq_self, Int.reduceLE, Int.reduceLT, Int.reduceToNat, ne_eq, Nat.reduceSub, hl, hm]
            rw [wnd_down h3 (hd.1 h2)]
            repeat refine And.intro (by omega) ?_
            intro g
            simp only [List.map_cons, List.map_nil, updL, upd, Nat.reduceEqDiff, if_true, if_false, ↓reduceIte]
            refine hK _ _ ?_; clear hK K
            refine inBN ?_
            refine inBN ?_
            refine thenN ?_
            refine Cd.rr [1, 2, 3, 7, 8] fun K hK => ?_
            simp (maxSteps := 2000000) (disch := first | omega | (simp only [E4, hl, hm, *] <;> omega) | fail) only [↓E0, E1, evP, evPlan, env0, envN, evOps, evOp, evQs, evQ, evV, setD, pureOp, ev, upd, updL, gate, binW, eqOp, binV, intOp, shOp, boolOp, unV, convV, nilV, fieldAddrV, indexAddrV, extractV, cellAt, cellsAt, findB, setB, fillL, buildV, Value.cells, lenV, minV, maxV, hav, sliceV, loV, hiV, bslQ, mksQ, appQ, partsOk, partsCells, delB, eqL, SameI, strOp, apzQ, cvtQ, capV, ↓reduceIte, Zj, Zk, Nat.reduceAdd, Nat.reduceLT, Nat.reduceEqDiff, Nat.reduceMul, Nat.reduceLeDiff, if_true, Zn, reduceCtorEq, ZA, eq_self, Int.reduceLE, Int.reduceLT, Int.reduceToNat, ne_eq, Nat.reduceSub, hl, hm]
            repeat refine And.intro (by omega) ?_
            intro g
            simp only [List.map_cons, List.map_nil, updL, upd, Nat.reduceEqDiff, if_true, if_false, ↓reduceIte]
            refine hK _ _ ?_; clear hK K
            exact roundN (m := m - 1) (by omega) ⟨_, k + 1, by omega, rfl, rfl⟩
          · have h4 : ¬ (x.getD k 0 < b ∧ b ≤ o.getD k 0) := fun h => by rw [hd.2 h] at h2; cases h2
            refine Cd.skip ?_
            refine inBN ?_
            refine inBN ?_
            refine thenN ?_
            refine Cd.rr [1, 2, 3, 7, 8] fun K hK => ?_
            simp (maxSteps := 2000000) (disch := first | omega | (simp only [E4, hl, hm, *] <;> omega) | fail) only [↓E0, E1, evP, evPlan, env0, envN, evOps, evOp, evQs, evQ, evV, setD, pureOp, ev, upd, updL, gate, binW, eqOp, binV, intOp, shOp, boolOp, unV, convV, nilV, fieldAddrV, indexAddrV, extractV, cellAt, cellsAt, findB, setB, fillL, buildV, Value.cells, lenV, minV, maxV, hav, sliceV, loV, hiV, bslQ, mksQ, appQ, partsOk, partsCells, delB, eqL, SameI, strOp, apzQ, cvtQ, capV, ↓reduceIte, Zj, Zk, Nat.reduceAdd, Nat.reduceLT, Nat.reduceEqDiff, Nat.reduceMul, Nat.reduceLeDiff, if_true, Zn, reduceCtorEq, ZA, eq_self, Int.reduceLE, Int.reduceLT, Int.reduceToNat, ne_eq, Nat.reduceSub, hl, hm]
            rw [wnd_same h3 h4]
            repeat refine And.intro (by omega) ?_
            intro g
            simp only [List.map_cons, List.map_nil, updL, upd, Nat.reduceEqDiff, if_true, if_false, ↓reduceIte]
            refine hK _ _ ?_; clear hK K
            exact roundN (m := m - 1) (by omega) ⟨_, k + 1, by omega, rfl, rfl⟩
        clear hK
        simp (maxSteps := 2000000) (disch := first | omega | (simp only [E4, hl, hm, *] <;> omega) | fail) only [↓E0, E1, evP, evPlan, env0, envN, evOps, evOp, evQs, evQ, evV, setD, pureOp, ev, upd, updL, gate, binW, eqOp, binV, intOp, shOp, boolOp, unV, convV, nilV, fieldAddrV, indexAddrV, extractV, cellAt, cellsAt, findB, setB, fillL, buildV, Value.cells, lenV, minV, maxV, hav, sliceV, loV, hiV, bslQ, mksQ, appQ, partsOk, partsCells, delB, eqL, SameI, strOp, apzQ, cvtQ, capV, ↓reduceIte, Zj, Zk, Nat.reduceAdd, Nat.reduceLT, Nat.reduceEqDiff, Nat.reduceMul, Nat.reduceLeDiff, if_true, Zn, reduceCtorEq, ZA, eq_self, Int.reduceLE, Int.reduceLT, Int.reduceToNat, ne_eq, Nat.reduceSub, hl, hm]
        refine ⟨fun h => ?_, fun h => ?_⟩
        all_goals
          repeat refine And.intro (by omega) ?_
          intro g
          simp only [List.map_cons, List.map_nil, updL, upd, Nat.reduceEqDiff, if_true, if_false, ↓reduceIte]
          refine J g _ ?_
          simp at h ⊢
          omega
    clear hK
    simp (maxSteps := 2000000) (disch := first | omega | (simp only [E4, hl, hm, *] <;> omega) | fail) only [↓E0, E1, evP, evPlan, env0, envN, evOps, evOp, evQs, evQ, evV, setD, pureOp, ev, upd, updL, gate, binW, eqOp, binV, intOp, shOp, boolOp, unV, convV, nilV, fieldAddrV, indexAddrV, extractV, cellAt, cellsAt, findB, setB, fillL, buildV, Value.cells, lenV, minV, maxV, hav, sliceV, loV, hiV, bslQ, mksQ, appQ, partsOk, partsCells, delB, eqL, SameI, strOp, apzQ, cvtQ, capV, ↓reduceIte, Zj, Zk, Nat.reduceAdd, Nat.reduceLT, Nat.reduceEqDiff, Nat.reduceMul, Nat.reduceLeDiff, if_true, Zn, reduceCtorEq, ZA, eq_self, Int.reduceLE, Int.reduceLT, Int.reduceToNat, ne_eq, Nat.reduceSub, hl, hm]
    refine ⟨fun h => ?_, fun h => ?_⟩
    all_goals
      repeat refine And.intro (by omega) ?_
      intro g
      simp only [List.map_cons, List.map_nil, updL, upd, Nat.reduceEqDiff, if_true, if_false, ↓reduceIte]
      refine J g _ ?_
      simp at h ⊢
      omega
  · refine Cd.exit (thenX (roundX (inBX ?_)))
    refine thenN ?_
    obtain rfl : k = a.toNat := by omega
    refine Cd.rs [6] fun K hK => ?_
    simp (maxSteps := 2000000) (disch := first | omega | (simp only [E4, hl, hm, *] <;> omega) | fail) only [↓E0, E1, evP, evPlan, env0, envN, evOps, evOp, evQs, evQ, evV, setD, pureOp, ev, upd, updL, gate, binW, eqOp, binV, intOp, shOp, boolOp, unV, convV, nilV, fieldAddrV, indexAddrV, extractV, cellAt, cellsAt, findB, setB, fillL, buildV, Value.cells, lenV, minV, maxV, hav, sliceV, loV, hiV, bslQ, mksQ, appQ, partsOk, partsCells, delB, eqL, SameI, strOp, apzQ, cvtQ, capV, ↓reduceIte, Zj, Zk, Nat.reduceAdd, Nat.reduceLT, Nat.reduceEqDiff, Nat.reduceMul, Nat.reduceLeDiff, if_true, Zn, reduceCtorEq, ZA, eq_self, Int.reduceLE, Int.reduceLT, Int.reduceToNat, ne_eq, Nat.reduceSub, hl, hm]
    repeat refine And.intro (by omega) ?_
    intro g
    simp only [List.map_cons, List.map_nil, updL, upd, Nat.reduceEqDiff, if_true, if_false, ↓reduceIte]
    refine hK _ _ ?_; clear hK K
    refine Cd.ret ?_
    simp (maxSteps := 2000000) (disch := first | omega | (simp only [E4, hl, hm, *] <;> omega) | fail) only [↓E0, E1, evP, evPlan, env0, envN, evOps, evOp, evQs, evQ, evV, setD, pureOp, ev, upd, updL, gate, binW, eqOp, binV, intOp, shOp, boolOp, unV, convV, nilV, fieldAddrV, indexAddrV, extractV, cellAt, cellsAt, findB, setB, fillL, buildV, Value.cells, lenV, minV, maxV, hav, sliceV, loV, hiV, bslQ, mksQ, appQ, partsOk, partsCells, delB, eqL, SameI, strOp, apzQ, cvtQ, capV, ↓reduceIte, Zj, Zk, Nat.reduceAdd, Nat.reduceLT, Nat.reduceEqDiff, Nat.reduceMul, Nat.reduceLeDiff, if_true, Zn, reduceCtorEq, ZA, eq_self, Int.reduceLE, Int.reduceLT, Int.reduceToNat, ne_eq, Nat.reduceSub, hl, hm]

section
variable (s : Int) (x o : List Int) (hx : Bytes8 x) (ho : Bytes8 o) (a : Int) (wa : -9223372036854775808 ≤ a ∧ a < 9223372036854775808) (b : Int) (wb : -9223372036854775808 ≤ b ∧ b < 9223372036854775808)
include hx ho wa wb

end
end Go.Proofs

/-
  What the functions of this part hand back: each as a plain function of its arguments. Conditions: none.
-/
namespace Go.Proofs
open Go.W8
set_option linter.unusedVariables false
set_option linter.unusedSimpArgs false
set_option linter.unusedSectionVars false
set_option maxRecDepth 8000
set_option maxHeartbeats 4000000
theorem int64_len {l : List Int} {m : Nat} (h : (ints .i64 l).length = m * 1) : m = l.length := by
  rw [ints_length] at h; omega
theorem eqInt64S_c (l : List Int) (R : Rd) (v v' : Value) (h : RdS R 1 (ints .i64 l) v) (h' : RdS R 1 (ints .i64 l) v') (hb : l.length < 4611686018427387904) : GivesR Try.prog 52 #[v, v'] R (.bool true) := by
  obtain ⟨a, m, cap, rfl, hm, _⟩ := id h
  obtain ⟨a', m', cap', rfl, hm', _⟩ := id h'
  obtain rfl := int64_len hm
  obtain rfl := int64_len hm'
  refine GivesR.of (callable_of Try.func52 rfl (by decide)) fun w hR => ?_
  refine acall_of (N := 26) (c := _) (rs := [.tmp 4]) (args := [_, _]) Try.func52 rfl (by decide) rfl rfl (Nat.le_of_ble_eq_true rfl) ?_
  refine Cd.rs [0, 1] fun K hK => ?_
  simp (maxSteps := 2000000) (disch := first | (simp only [E4] <;> omega) | omega | fail) only [↓E2, E3, bare, bareJ, ↓E0, E1, evP, evPlan, env0, envN, evOps, evOp, evQs, evQ, evV, setD, pureOp, ev, upd, updL, gate, binW, eqOp, binV, intOp, shOp, boolOp, unV, convV, nilV, fieldAddrV, indexAddrV, extractV, cellAt, cellsAt, findB, setB, fillL, buildV, Value.cells, lenV, minV, maxV, hav, sliceV, loV, hiV, bslQ, mksQ, appQ, partsOk, partsCells, delB, eqL, SameI, strOp, apzQ, cvtQ, capV, ↓reduceIte, Zj, Zk, Nat.reduceAdd, Nat.reduceLT, Nat.reduceEqDiff, Nat.reduceMul, Nat.reduceLeDiff, if_true, Zn, reduceCtorEq, ZA, eq_self, Int.reduceLE, Int.reduceLT, Int.reduceToNat, ne_eq, Nat.reduceSub]
  repeat refine And.intro (by omega) ?_
  intro g
  simp only [List.map_cons, List.map_nil, updL, upd, Nat.reduceEqDiff, if_true, if_false, ↓reduceIte]
  refine hK _ _ ?_; clear hK K
  refine Cd.seq ?_
  refine Cd.rs [0, 1, 10] fun K hK => ?_
  simp (maxSteps := 2000000) (disch := first | (simp only [E4] <;> omega) | omega | fail) only [↓E2, E3, bare, bareJ, ↓E0, E1, evP, evPlan, env0, envN, evOps, evOp, evQs, evQ, evV, setD, pureOp, ev, upd, updL, gate, binW, eqOp, binV, intOp, shOp, boolOp, unV, convV, nilV, fieldAddrV, indexAddrV, extractV, cellAt, cellsAt, findB, setB, fillL, buildV, Value.cells, lenV, minV, maxV, hav, sliceV, loV, hiV, bslQ, mksQ, appQ, partsOk, partsCells, delB, eqL, SameI, strOp, apzQ, cvtQ, capV, ↓reduceIte, Zj, Zk, Nat.reduceAdd, Nat.reduceLT, Nat.reduceEqDiff, Nat.reduceMul, Nat.reduceLeDiff, if_true, Zn, reduceCtorEq, ZA, eq_self, Int.reduceLE, Int.reduceLT, Int.reduceToNat, ne_eq, Nat.reduceSub, Tslce47]
  repeat refine And.intro (by omega) ?_
  intro g
  simp only [List.map_cons, List.map_nil, updL, upd, Nat.reduceEqDiff, if_true, if_false, ↓reduceIte]
  refine hK _ _ ?_; clear hK K
  refine Cd.no rfl ?_
  refine Cd.skip ?_
  refine thenN ?_
  refine Cd.seq ?_
  refine Cd.rs [0, 1, 5] fun K hK => ?_
  simp (maxSteps := 2000000) (disch := first | (simp only [E4] <;> omega) | omega | fail) only [↓E2, E3, bare, bareJ, ↓E0, E1, evP, evPlan, env0, envN, evOps, evOp, evQs, evQ, evV, setD, pureOp, ev, upd, updL, gate, binW, eqOp, binV, intOp, shOp, boolOp, unV, convV, nilV, fieldAddrV, indexAddrV, extractV, cellAt, cellsAt, findB, setB, fillL, buildV, Value.cells, lenV, minV, maxV, hav, sliceV, loV, hiV, bslQ, mksQ, appQ, partsOk, partsCells, delB, eqL, SameI, strOp, apzQ, cvtQ, capV, ↓reduceIte, Zj, Zk, Nat.reduceAdd, Nat.reduceLT, Nat.reduceEqDiff, Nat.reduceMul, Nat.reduceLeDiff, if_true, Zn, reduceCtorEq, ZA, eq_self, Int.reduceLE, Int.reduceLT, Int.reduceToNat, ne_eq, Nat.reduceSub]
  repeat refine And.intro (by omega) ?_
  intro g
  simp only [List.map_cons, List.map_nil, updL, upd, Nat.reduceEqDiff, if_true, if_false, ↓reduceIte]
  refine hK _ _ ?_; clear hK K
  refine Cd.block ?_
  refine Cd.loop (fun n ρ M => ∃ g k, k + n = l.length ∧ ρ = updL [(0, .slice a l.length cap), (1, .slice a' l.length cap'), (5, .int .i64 (k : Int))] g ∧ M = []) l.length ⟨_, 0, Nat.zero_add _, rfl, rfl⟩ ?_
  rintro n ρ M ⟨g, k, hk, rfl, rfl⟩
  refine Cd.seq ?_
  refine Cd.rs [0, 1, 5, 14] fun K hK => ?_
  simp (maxSteps := 2000000) (disch := first | (simp only [E4] <;> omega) | omega | fail) only [↓E2, E3, bare, bareJ, ↓E0, E1, evP, evPlan, env0, envN, evOps, evOp, evQs, evQ, evV, setD, pureOp, ev, upd, updL, gate, binW, eqOp, binV, intOp, shOp, boolOp, unV, convV, nilV, fieldAddrV, indexAddrV, extractV, cellAt, cellsAt, findB, setB, fillL, buildV, Value.cells, lenV, minV, maxV, hav, sliceV, loV, hiV, bslQ, mksQ, appQ, partsOk, partsCells, delB, eqL, SameI, strOp, apzQ, cvtQ, capV, ↓reduceIte, Zj, Zk, Nat.reduceAdd, Nat.reduceLT, Nat.reduceEqDiff, Nat.reduceMul, Nat.reduceLeDiff, if_true, Zn, reduceCtorEq, ZA, eq_self, Int.reduceLE, Int.reduceLT, Int.reduceToNat, ne_eq, Nat.reduceSub, Tslce47]
  repeat refine And.intro (by omega) ?_
  intro g
  simp only [List.map_cons, List.map_nil, updL, upd, Nat.reduceEqDiff, if_true, if_false, ↓reduceIte]
  refine hK _ _ ?_; clear hK K
  refine Cd.condd rfl (fun h2 => ?_) (fun h2 => ?_)
  · obtain ⟨b, rfl, q⟩ := h.get hR (ints_get (i := k) (by omega))
    obtain ⟨b', rfl, q'⟩ := h'.get hR (ints_get (i := k) (by omega))
    refine Cd.skip ?_
    refine thenN ?_
    refine Cd.seq ?_
    refine Cd.block ?_
    skip
    refine Cd.qs [0, 1, 5, 25] fol (by kernel_rfl) fun K hK => ?_
    simp (maxSteps := 2000000) (disch := first | (simp only [E4, q, q'] <;> omega) | omega | fail) only [↓E2, E3, bare, bareJ, ↓E0, E1, evP, evPlan, env0, envN, evOps, evOp, evQs, evQ, evV, setD, pureOp, ev, upd, updL, gate, binW, eqOp, binV, intOp, shOp, boolOp, unV, convV, nilV, fieldAddrV, indexAddrV, extractV, cellAt, cellsAt, findB, setB, fillL, buildV, Value.cells, lenV, minV, maxV, hav, sliceV, loV, hiV, bslQ, mksQ, appQ, partsOk, partsCells, delB, eqL, SameI, strOp, apzQ, cvtQ, capV, ↓reduceIte, Zj, Zk, Nat.reduceAdd, Nat.reduceLT, Nat.reduceEqDiff, Nat.reduceMul, Nat.reduceLeDiff, if_true, Zn, reduceCtorEq, ZA, eq_self, Int.reduceLE, Int.reduceLT, Int.reduceToNat, ne_eq, Nat.reduceSub, Tld2, Tslc47, q, q']
    repeat refine And.intro (by omega) ?_
    intro g
    simp only [List.map_cons, List.map_nil, updL, upd, Nat.reduceEqDiff, if_true, if_false, ↓reduceIte]
    refine hK _ ?_; clear hK K
    refine Cd.no rfl ?_
    refine Cd.skip ?_
    refine inBN ?_
    refine thenN ?_
    refine Cd.rr [0, 1, 5] fun K hK => ?_
    simp (maxSteps := 2000000) (disch := first | (simp only [E4, q, q'] <;> omega) | omega | fail) only [↓E2, E3, bare, bareJ, ↓E0, E1, evP, evPlan, env0, envN, evOps, evOp, evQs, evQ, evV, setD, pureOp, ev, upd, updL, gate, binW, eqOp, binV, intOp, shOp, boolOp, unV, convV, nilV, fieldAddrV, indexAddrV, extractV, cellAt, cellsAt, findB, setB, fillL, buildV, Value.cells, lenV, minV, maxV, hav, sliceV, loV, hiV, bslQ, mksQ, appQ, partsOk, partsCells, delB, eqL, SameI, strOp, apzQ, cvtQ, capV, ↓reduceIte, Zj, Zk, Nat.reduceAdd, Nat.reduceLT, Nat.reduceEqDiff, Nat.reduceMul, Nat.reduceLeDiff, if_true, Zn, reduceCtorEq, ZA, eq_self, Int.reduceLE, Int.reduceLT, Int.reduceToNat, ne_eq, Nat.reduceSub, q, q']
    repeat refine And.intro (by omega) ?_
    intro g
    simp only [List.map_cons, List.map_nil, updL, upd, Nat.reduceEqDiff, if_true, if_false, ↓reduceIte]
    refine hK _ _ ?_; clear hK K
    exact roundN (m := n - 1) (by omega) ⟨_, k + 1, by omega, rfl, rfl⟩
  · refine Cd.exit (thenX (roundX (inBX ?_)))
    refine thenN ?_
    refine Cd.rs [4] fun K hK => ?_
    simp (maxSteps := 2000000) (disch := first | (simp only [E4] <;> omega) | omega | fail) only [↓E2, E3, bare, bareJ, ↓E0, E1, evP, evPlan, env0, envN, evOps, evOp, evQs, evQ, evV, setD, pureOp, ev, upd, updL, gate, binW, eqOp, binV, intOp, shOp, boolOp, unV, convV, nilV, fieldAddrV, indexAddrV, extractV, cellAt, cellsAt, findB, setB, fillL, buildV, Value.cells, lenV, minV, maxV, hav, sliceV, loV, hiV, bslQ, mksQ, appQ, partsOk, partsCells, delB, eqL, SameI, strOp, apzQ, cvtQ, capV, ↓reduceIte, Zj, Zk, Nat.reduceAdd, Nat.reduceLT, Nat.reduceEqDiff, Nat.reduceMul, Nat.reduceLeDiff, if_true, Zn, reduceCtorEq, ZA, eq_self, Int.reduceLE, Int.reduceLT, Int.reduceToNat, ne_eq, Nat.reduceSub]
    repeat refine And.intro (by omega) ?_
    intro g
    simp only [List.map_cons, List.map_nil, updL, upd, Nat.reduceEqDiff, if_true, if_false, ↓reduceIte]
    refine hK _ _ ?_; clear hK K
    refine Cd.ret ?_
    simp (maxSteps := 2000000) (disch := first | (simp only [E4] <;> omega) | omega | fail) only [↓E2, E3, bare, bareJ, ↓E0, E1, evP, evPlan, env0, envN, evOps, evOp, evQs, evQ, evV, setD, pureOp, ev, upd, updL, gate, binW, eqOp, binV, intOp, shOp, boolOp, unV, convV, nilV, fieldAddrV, indexAddrV, extractV, cellAt, cellsAt, findB, setB, fillL, buildV, Value.cells, lenV, minV, maxV, hav, sliceV, loV, hiV, bslQ, mksQ, appQ, partsOk, partsCells, delB, eqL, SameI, strOp, apzQ, cvtQ, capV, ↓reduceIte, Zj, Zk, Nat.reduceAdd, Nat.reduceLT, Nat.reduceEqDiff, Nat.reduceMul, Nat.reduceLeDiff, if_true, Zn, reduceCtorEq, ZA, eq_self, Int.reduceLE, Int.reduceLT, Int.reduceToNat, ne_eq, Nat.reduceSub]

/-- Numbers from k on. -/
def upK (k : Int) (n : Nat) : List Int := (List.range n).map fun (i : Nat) => k + (i : Int)
theorem upK_len (k : Int) (n : Nat) : (upK k n).length = n := by simp [upK]
theorem upK_get {k : Int} {n i : Nat} (h : i < n) : (upK k n)[i]? = some (k + (i : Int)) := by
  unfold upK
  rw [List.getElem?_map, List.getElem?_range h]
  rfl
theorem upK_getD {k : Int} {n i : Nat} (h : i < n) : (upK k n).getD i 0 = k + (i : Int) := by
  rw [List.getD_eq_getElem?_getD, upK_get h]; rfl
/-- The first i marked. -/
def mkK (l : List Int) (k : Int) (i : Nat) : List Int := upK k i ++ l.drop i
theorem mkK_len {l : List Int} {k : Int} {i : Nat} (h : i ≤ l.length) : (mkK l k i).length = l.length := by
  unfold mkK
  rw [List.length_append, upK_len, List.length_drop]; omega
theorem mkK_zero (l : List Int) (k : Int) : mkK l k 0 = l := rfl
theorem mkK_full (l : List Int) (k : Int) : mkK l k l.length = upK k l.length := by
  unfold mkK
  rw [List.drop_of_length_le (Nat.le_refl _), List.append_nil]
theorem mkK_set {l : List Int} {k : Int} {i : Nat} (h : i < l.length) : (mkK l k i).set i (k + (i : Int)) = mkK l k (i + 1) := by
  apply List.ext_getElem?
  intro j
  unfold mkK
  by_cases e : i = j
  · subst e
    rw [List.getElem?_set_self (by rw [List.length_append, upK_len, List.length_drop]; omega), List.getElem?_append_left (by rw [upK_len]; omega), upK_get (by omega)]
  · rw [List.getElem?_set_ne e]
    by_cases hj : j < i
    · rw [List.getElem?_append_left (by rw [upK_len]; omega), List.getElem?_append_left (by rw [upK_len]; omega), upK_get hj, upK_get (by omega)]
    · rw [List.getElem?_append_right (by rw [upK_len]; omega), List.getElem?_append_right (by rw [upK_len]; omega), upK_len, upK_len, List.getElem?_drop, List.getElem?_drop]
      congr 1
      omega

theorem markInt64S_c (l : List Int) (v : Value) (L : Blks) (h : SlN 1 (ints .i64 l) v L) (k : Nat) (hb : k + l.length < 4611686018427387904) :
    GivesX Try.prog 53 #[v, .int .i64 (k : Int)] L [] (fun r M' => r = .int .i64 ((k + l.length : Nat) : Int) ∧ SlN 1 (ints .i64 (upK k l.length)) v M') := by
  obtain ⟨a, cap, rfl⟩ : ∃ a cap, v = .slice a l.length cap := by
    rcases h with ⟨h1, h2, h3⟩ | ⟨b, m, cap, cs, h1, h2, h3⟩
    · have := congrArg List.length h1
      rw [ints_length] at this
      exact ⟨_, _, by rw [this]; exact h2⟩
    · obtain rfl := int64_len h3.len
      exact ⟨_, _, h1⟩
  refine GivesX.of (callable_of Try.func53 rfl (by decide)) ?_ fun w hnd hlt hR => ?_
  · simp
  refine acall_of (N := 19) (c := _) (rs := [.tmp 4]) (args := [_, _]) Try.func53 rfl (by decide) rfl rfl (Nat.le_of_ble_eq_true rfl) ?_
  refine Cd.rs [0, 1] fun K hK => ?_
  simp (maxSteps := 2000000) (disch := first | (simp only [E4] <;> omega) | omega | fail) only [↓E2, E3, bare, bareJ, ↓E0, E1, evP, evPlan, env0, envN, evOps, evOp, evQs, evQ, evV, setD, pureOp, ev, upd, updL, gate, binW, eqOp, binV, intOp, shOp, boolOp, unV, convV, nilV, fieldAddrV, indexAddrV, extractV, cellAt, cellsAt, findB, setB, fillL, buildV, Value.cells, lenV, minV, maxV, hav, sliceV, loV, hiV, bslQ, mksQ, appQ, partsOk, partsCells, delB, eqL, SameI, strOp, apzQ, cvtQ, capV, ↓reduceIte, Zj, Zk, Nat.reduceAdd, Nat.reduceLT, Nat.reduceEqDiff, Nat.reduceMul, Nat.reduceLeDiff, if_true, Zn, reduceCtorEq, ZA, eq_self, Int.reduceLE, Int.reduceLT, Int.reduceToNat, ne_eq, Nat.reduceSub]
  repeat refine And.intro (by omega) ?_
  intro g
  simp only [List.map_cons, List.map_nil, updL, upd, Nat.reduceEqDiff, if_true, if_false, ↓reduceIte]
  refine hK _ _ ?_; clear hK K
  refine Cd.seq ?_
  refine Cd.rs [0, 1, 5] fun K hK => ?_
  simp (maxSteps := 2000000) (disch := first | (simp only [E4] <;> omega) | omega | fail) only [↓E2, E3, bare, bareJ, ↓E0, E1, evP, evPlan, env0, envN, evOps, evOp, evQs, evQ, evV, setD, pureOp, ev, upd, updL, gate, binW, eqOp, binV, intOp, shOp, boolOp, unV, convV, nilV, fieldAddrV, indexAddrV, extractV, cellAt, cellsAt, findB, setB, fillL, buildV, Value.cells, lenV, minV, maxV, hav, sliceV, loV, hiV, bslQ, mksQ, appQ, partsOk, partsCells, delB, eqL, SameI, strOp, apzQ, cvtQ, capV, ↓reduceIte, Zj, Zk, Nat.reduceAdd, Nat.reduceLT, Nat.reduceEqDiff, Nat.reduceMul, Nat.reduceLeDiff, if_true, Zn, reduceCtorEq, ZA, eq_self, Int.reduceLE, Int.reduceLT, Int.reduceToNat, ne_eq, Nat.reduceSub]
  repeat refine And.intro (by omega) ?_
  intro g
  simp only [List.map_cons, List.map_nil, updL, upd, Nat.reduceEqDiff, if_true, if_false, ↓reduceIte]
  refine hK _ _ ?_; clear hK K
  refine Cd.block ?_
  refine Cd.loop (fun n ρ M => ∃ g i, i + n = l.length ∧ ρ = updL [(0, .slice a l.length cap), (1, .int .i64 ((k + i : Nat) : Int)), (5, .int .i64 (i : Int))] g ∧ SlN 1 (ints .i64 (mkK l k i)) (.slice a l.length cap) M) l.length ⟨_, 0, Nat.zero_add _, rfl, h⟩ ?_
  rintro n ρ M ⟨g, i, hi, rfl, hM⟩
  refine Cd.seq ?_
  refine Cd.rs [0, 1, 5, 9] fun K hK => ?_
  simp (maxSteps := 2000000) (disch := first | (simp only [E4] <;> omega) | omega | fail) only [↓E2, E3, bare, bareJ, ↓E0, E1, evP, evPlan, env0, envN, evOps, evOp, evQs, evQ, evV, setD, pureOp, ev, upd, updL, gate, binW, eqOp, binV, intOp, shOp, boolOp, unV, convV, nilV, fieldAddrV, indexAddrV, extractV, cellAt, cellsAt, findB, setB, fillL, buildV, Value.cells, lenV, minV, maxV, hav, sliceV, loV, hiV, bslQ, mksQ, appQ, partsOk, partsCells, delB, eqL, SameI, strOp, apzQ, cvtQ, capV, ↓reduceIte, Zj, Zk, Nat.reduceAdd, Nat.reduceLT, Nat.reduceEqDiff, Nat.reduceMul, Nat.reduceLeDiff, if_true, Zn, reduceCtorEq, ZA, eq_self, Int.reduceLE, Int.reduceLT, Int.reduceToNat, ne_eq, Nat.reduceSub, Tslce47]
  repeat refine And.intro (by omega) ?_
  intro g
  simp only [List.map_cons, List.map_nil, updL, upd, Nat.reduceEqDiff, if_true, if_false, ↓reduceIte]
  refine hK _ _ ?_; clear hK K
  refine Cd.condd rfl (fun h1 => ?_) (fun h1 => ?_)
  · rcases hM with ⟨e, _, _⟩ | ⟨b, m, cap', cs, e, rfl, hr⟩
    · have := congrArg List.length e
      rw [ints_length, mkK_len (by omega)] at this
      simp only [List.length_nil] at this
      omega
    cases e
    have hr' := hr.set (j := i) (by omega) (.int .i64 (k + i : Int))
    rw [ints_set, mkK_set (by omega)] at hr'
    have hf := hr.fits (k := i + 1) (by omega)
    refine Cd.skip ?_
    refine thenN ?_
    refine Cd.seq ?_
    refine Cd.block ?_
    refine Cd.rs [0, 1, 5] fun K hK => ?_
    simp (maxSteps := 2000000) (disch := first | (simp only [E4] <;> omega) | omega | fail) only [↓E2, E3, bare, bareJ, ↓E0, E1, evP, evPlan, env0, envN, evOps, evOp, evQs, evQ, evV, setD, pureOp, ev, upd, updL, gate, binW, eqOp, binV, intOp, shOp, boolOp, unV, convV, nilV, fieldAddrV, indexAddrV, extractV, cellAt, cellsAt, findB, setB, fillL, buildV, Value.cells, lenV, minV, maxV, hav, sliceV, loV, hiV, bslQ, mksQ, appQ, partsOk, partsCells, delB, eqL, SameI, strOp, apzQ, cvtQ, capV, ↓reduceIte, Zj, Zk, Nat.reduceAdd, Nat.reduceLT, Nat.reduceEqDiff, Nat.reduceMul, Nat.reduceLeDiff, if_true, Zn, reduceCtorEq, ZA, eq_self, Int.reduceLE, Int.reduceLT, Int.reduceToNat, ne_eq, Nat.reduceSub, Tslc47, Tst2]
    repeat refine And.intro (by omega) ?_
    intro g
    simp only [List.map_cons, List.map_nil, updL, upd, Nat.reduceEqDiff, if_true, if_false, ↓reduceIte]
    refine hK _ _ ?_; clear hK K
    refine Cd.rr [0, 1, 5] fun K hK => ?_
    simp (maxSteps := 2000000) (disch := first | (simp only [E4] <;> omega) | omega | fail) only [↓E2, E3, bare, bareJ, ↓E0, E1, evP, evPlan, env0, envN, evOps, evOp, evQs, evQ, evV, setD, pureOp, ev, upd, updL, gate, binW, eqOp, binV, intOp, shOp, boolOp, unV, convV, nilV, fieldAddrV, indexAddrV, extractV, cellAt, cellsAt, findB, setB, fillL, buildV, Value.cells, lenV, minV, maxV, hav, sliceV, loV, hiV, bslQ, mksQ, appQ, partsOk, partsCells, delB, eqL, SameI, strOp, apzQ, cvtQ, capV, ↓reduceIte, Zj, Zk, Nat.reduceAdd, Nat.reduceLT, Nat.reduceEqDiff, Nat.reduceMul, Nat.reduceLeDiff, if_true, Zn, reduceCtorEq, ZA, eq_self, Int.reduceLE, Int.reduceLT, Int.reduceToNat, ne_eq, Nat.reduceSub]
    repeat refine And.intro (by omega) ?_
    intro g
    simp only [List.map_cons, List.map_nil, updL, upd, Nat.reduceEqDiff, if_true, if_false, ↓reduceIte]
    refine hK _ _ ?_; clear hK K
    refine inBN ?_
    refine thenN ?_
    refine Cd.rr [0, 1, 5] fun K hK => ?_
    simp (maxSteps := 2000000) (disch := first | (simp only [E4] <;> omega) | omega | fail) only [↓E2, E3, bare, bareJ, ↓E0, E1, evP, evPlan, env0, envN, evOps, evOp, evQs, evQ, evV, setD, pureOp, ev, upd, updL, gate, binW, eqOp, binV, intOp, shOp, boolOp, unV, convV, nilV, fieldAddrV, indexAddrV, extractV, cellAt, cellsAt, findB, setB, fillL, buildV, Value.cells, lenV, minV, maxV, hav, sliceV, loV, hiV, bslQ, mksQ, appQ, partsOk, partsCells, delB, eqL, SameI, strOp, apzQ, cvtQ, capV, ↓reduceIte, Zj, Zk, Nat.reduceAdd, Nat.reduceLT, Nat.reduceEqDiff, Nat.reduceMul, Nat.reduceLeDiff, if_true, Zn, reduceCtorEq, ZA, eq_self, Int.reduceLE, Int.reduceLT, Int.reduceToNat, ne_eq, Nat.reduceSub]
    repeat refine And.intro (by omega) ?_
    intro g
    simp only [List.map_cons, List.map_nil, updL, upd, Nat.reduceEqDiff, if_true, if_false, ↓reduceIte]
    refine hK _ _ ?_; clear hK K
    exact roundN (m := n - 1) (by omega) ⟨_, i + 1, by omega, rfl, SlN.row hr'⟩
  · obtain rfl : i = l.length := by omega
    refine Cd.exit (thenX (roundX (inBX ?_)))
    refine thenN ?_
    refine Cd.rs [4] fun K hK => ?_
    simp (maxSteps := 2000000) (disch := first | (simp only [E4] <;> omega) | omega | fail) only [↓E2, E3, bare, bareJ, ↓E0, E1, evP, evPlan, env0, envN, evOps, evOp, evQs, evQ, evV, setD, pureOp, ev, upd, updL, gate, binW, eqOp, binV, intOp, shOp, boolOp, unV, convV, nilV, fieldAddrV, indexAddrV, extractV, cellAt, cellsAt, findB, setB, fillL, buildV, Value.cells, lenV, minV, maxV, hav, sliceV, loV, hiV, bslQ, mksQ, appQ, partsOk, partsCells, delB, eqL, SameI, strOp, apzQ, cvtQ, capV, ↓reduceIte, Zj, Zk, Nat.reduceAdd, Nat.reduceLT, Nat.reduceEqDiff, Nat.reduceMul, Nat.reduceLeDiff, if_true, Zn, reduceCtorEq, ZA, eq_self, Int.reduceLE, Int.reduceLT, Int.reduceToNat, ne_eq, Nat.reduceSub]
    repeat refine And.intro (by omega) ?_
    intro g
    simp only [List.map_cons, List.map_nil, updL, upd, Nat.reduceEqDiff, if_true, if_false, ↓reduceIte]
    refine hK _ _ ?_; clear hK K
    refine Cd.ret ?_
    simp (maxSteps := 2000000) (disch := first | (simp only [E4] <;> omega) | omega | fail) only [↓E2, E3, bare, bareJ, ↓E0, E1, evP, evPlan, env0, envN, evOps, evOp, evQs, evQ, evV, setD, pureOp, ev, upd, updL, gate, binW, eqOp, binV, intOp, shOp, boolOp, unV, convV, nilV, fieldAddrV, indexAddrV, extractV, cellAt, cellsAt, findB, setB, fillL, buildV, Value.cells, lenV, minV, maxV, hav, sliceV, loV, hiV, bslQ, mksQ, appQ, partsOk, partsCells, delB, eqL, SameI, strOp, apzQ, cvtQ, capV, ↓reduceIte, Zj, Zk, Nat.reduceAdd, Nat.reduceLT, Nat.reduceEqDiff, Nat.reduceMul, Nat.reduceLeDiff, if_true, Zn, reduceCtorEq, ZA, eq_self, Int.reduceLE, Int.reduceLT, Int.reduceToNat, ne_eq, Nat.reduceSub]
    rw [mkK_full] at hM
    exact hM

theorem heldInt64S_c (n k : Nat) (v : Value) (R : Rd) (h : RdS R 1 (ints .i64 (upK k n)) v) (hb : k + n < 4611686018427387904) :
    GivesR Try.prog 54 #[v, .int .i64 (k : Int)] R (.int .i64 ((k + n : Nat) : Int)) := by
  obtain ⟨a, m, cap, rfl, hm, _⟩ := id h
  obtain rfl := int64_len hm
  rw [upK_len] at *
  refine GivesR.of (callable_of Try.func54 rfl (by decide)) fun w hR => ?_
  refine acall_of (N := 21) (c := _) (rs := [.tmp 4]) (args := [_, _]) Try.func54 rfl (by decide) rfl rfl (Nat.le_of_ble_eq_true rfl) ?_
  refine Cd.rs [0, 1] fun K hK => ?_
  simp (maxSteps := 2000000) (disch := first | (simp only [E4] <;> omega) | omega | fail) only [↓E2, E3, bare, bareJ, ↓E0, E1, evP, evPlan, env0, envN, evOps, evOp, evQs, evQ, evV, setD, pureOp, ev, upd, updL, gate, binW, eqOp, binV, intOp, shOp, boolOp, unV, convV, nilV, fieldAddrV, indexAddrV, extractV, cellAt, cellsAt, findB, setB, fillL, buildV, Value.cells, lenV, minV, maxV, hav, sliceV, loV, hiV, bslQ, mksQ, appQ, partsOk, partsCells, delB, eqL, SameI, strOp, apzQ, cvtQ, capV, ↓reduceIte, Zj, Zk, Nat.reduceAdd, Nat.reduceLT, Nat.reduceEqDiff, Nat.reduceMul, Nat.reduceLeDiff, if_true, Zn, reduceCtorEq, ZA, eq_self, Int.reduceLE, Int.reduceLT, Int.reduceToNat, ne_eq, Nat.reduceSub]
  repeat refine And.intro (by omega) ?_
  intro g
  simp only [List.map_cons, List.map_nil, updL, upd, Nat.reduceEqDiff, if_true, if_false, ↓reduceIte]
  refine hK _ _ ?_; clear hK K
  refine Cd.seq ?_
  refine Cd.rs [0, 1, 5] fun K hK => ?_
  simp (maxSteps := 2000000) (disch := first | (simp only [E4] <;> omega) | omega | fail) only [↓E2, E3, bare, bareJ, ↓E0, E1, evP, evPlan, env0, envN, evOps, evOp, evQs, evQ, evV, setD, pureOp, ev, upd, updL, gate, binW, eqOp, binV, intOp, shOp, boolOp, unV, convV, nilV, fieldAddrV, indexAddrV, extractV, cellAt, cellsAt, findB, setB, fillL, buildV, Value.cells, lenV, minV, maxV, hav, sliceV, loV, hiV, bslQ, mksQ, appQ, partsOk, partsCells, delB, eqL, SameI, strOp, apzQ, cvtQ, capV, ↓reduceIte, Zj, Zk, Nat.reduceAdd, Nat.reduceLT, Nat.reduceEqDiff, Nat.reduceMul, Nat.reduceLeDiff, if_true, Zn, reduceCtorEq, ZA, eq_self, Int.reduceLE, Int.reduceLT, Int.reduceToNat, ne_eq, Nat.reduceSub]
  repeat refine And.intro (by omega) ?_
  intro g
  simp only [List.map_cons, List.map_nil, updL, upd, Nat.reduceEqDiff, if_true, if_false, ↓reduceIte]
  refine hK _ _ ?_; clear hK K
  refine Cd.block ?_
  refine Cd.loop (fun q ρ M => ∃ g i, i + q = n ∧ ρ = updL [(0, .slice a n cap), (1, .int .i64 ((k + i : Nat) : Int)), (5, .int .i64 (i : Int))] g ∧ M = []) n ⟨_, 0, Nat.zero_add _, rfl, rfl⟩ ?_
  rintro q ρ M ⟨g, i, hi, rfl, rfl⟩
  refine Cd.seq ?_
  refine Cd.rs [0, 1, 5, 9] fun K hK => ?_
  simp (maxSteps := 2000000) (disch := first | (simp only [E4] <;> omega) | omega | fail) only [↓E2, E3, bare, bareJ, ↓E0, E1, evP, evPlan, env0, envN, evOps, evOp, evQs, evQ, evV, setD, pureOp, ev, upd, updL, gate, binW, eqOp, binV, intOp, shOp, boolOp, unV, convV, nilV, fieldAddrV, indexAddrV, extractV, cellAt, cellsAt, findB, setB, fillL, buildV, Value.cells, lenV, minV, maxV, hav, sliceV, loV, hiV, bslQ, mksQ, appQ, partsOk, partsCells, delB, eqL, SameI, strOp, apzQ, cvtQ, capV, ↓reduceIte, Zj, Zk, Nat.reduceAdd, Nat.reduceLT, Nat.reduceEqDiff, Nat.reduceMul, Nat.reduceLeDiff, if_true, Zn, reduceCtorEq, ZA, eq_self, Int.reduceLE, Int.reduceLT, Int.reduceToNat, ne_eq, Nat.reduceSub, Tslce47]
  repeat refine And.intro (by omega) ?_
  intro g
  simp only [List.map_cons, List.map_nil, updL, upd, Nat.reduceEqDiff, if_true, if_false, ↓reduceIte]
  refine hK _ _ ?_; clear hK K
  refine Cd.condd rfl (fun h1 => ?_) (fun h1 => ?_)
  · obtain ⟨b, rfl, q1⟩ := h.get hR (ints_get (i := i) (by rw [upK_len]; omega))
    rw [upK_getD (by omega)] at q1
    refine Cd.skip ?_
    refine thenN ?_
    refine Cd.seq ?_
    refine Cd.block ?_
    skip
    refine Cd.seq ?_
    refine Cd.rs [0, 1, 5, 17] fun K hK => ?_
    simp (maxSteps := 2000000) (disch := first | (simp only [E4, q1] <;> omega) | omega | fail) only [↓E2, E3, bare, bareJ, ↓E0, E1, evP, evPlan, env0, envN, evOps, evOp, evQs, evQ, evV, setD, pureOp, ev, upd, updL, gate, binW, eqOp, binV, intOp, shOp, boolOp, unV, convV, nilV, fieldAddrV, indexAddrV, extractV, cellAt, cellsAt, findB, setB, fillL, buildV, Value.cells, lenV, minV, maxV, hav, sliceV, loV, hiV, bslQ, mksQ, appQ, partsOk, partsCells, delB, eqL, SameI, strOp, apzQ, cvtQ, capV, ↓reduceIte, Zj, Zk, Nat.reduceAdd, Nat.reduceLT, Nat.reduceEqDiff, Nat.reduceMul, Nat.reduceLeDiff, if_true, Zn, reduceCtorEq, ZA, eq_self, Int.reduceLE, Int.reduceLT, Int.reduceToNat, ne_eq, Nat.reduceSub, Tld2, Tslc47, q1]
    repeat refine And.intro (by omega) ?_
    intro g
    simp only [List.map_cons, List.map_nil, updL, upd, Nat.reduceEqDiff, if_true, if_false, ↓reduceIte]
    refine hK _ _ ?_; clear hK K
    refine Cd.same rfl (by omega) ?_
    refine Cd.skip ?_
    refine thenN ?_
    refine Cd.rr [0, 1, 5] fun K hK => ?_
    simp (maxSteps := 2000000) (disch := first | (simp only [E4, q1] <;> omega) | omega | fail) only [↓E2, E3, bare, bareJ, ↓E0, E1, evP, evPlan, env0, envN, evOps, evOp, evQs, evQ, evV, setD, pureOp, ev, upd, updL, gate, binW, eqOp, binV, intOp, shOp, boolOp, unV, convV, nilV, fieldAddrV, indexAddrV, extractV, cellAt, cellsAt, findB, setB, fillL, buildV, Value.cells, lenV, minV, maxV, hav, sliceV, loV, hiV, bslQ, mksQ, appQ, partsOk, partsCells, delB, eqL, SameI, strOp, apzQ, cvtQ, capV, ↓reduceIte, Zj, Zk, Nat.reduceAdd, Nat.reduceLT, Nat.reduceEqDiff, Nat.reduceMul, Nat.reduceLeDiff, if_true, Zn, reduceCtorEq, ZA, eq_self, Int.reduceLE, Int.reduceLT, Int.reduceToNat, ne_eq, Nat.reduceSub, q1]
    repeat refine And.intro (by omega) ?_
    intro g
    simp only [List.map_cons, List.map_nil, updL, upd, Nat.reduceEqDiff, if_true, if_false, ↓reduceIte]
    refine hK _ _ ?_; clear hK K
    refine inBN ?_
    refine thenN ?_
    refine Cd.rr [0, 1, 5] fun K hK => ?_
    simp (maxSteps := 2000000) (disch := first | (simp only [E4, q1] <;> omega) | omega | fail) only [↓E2, E3, bare, bareJ, ↓E0, E1, evP, evPlan, env0, envN, evOps, evOp, evQs, evQ, evV, setD, pureOp, ev, upd, updL, gate, binW, eqOp, binV, intOp, shOp, boolOp, unV, convV, nilV, fieldAddrV, indexAddrV, extractV, cellAt, cellsAt, findB, setB, fillL, buildV, Value.cells, lenV, minV, maxV, hav, sliceV, loV, hiV, bslQ, mksQ, appQ, partsOk, partsCells, delB, eqL, SameI, strOp, apzQ, cvtQ, capV, ↓reduceIte, Zj, Zk, Nat.reduceAdd, Nat.reduceLT, Nat.reduceEqDiff, Nat.reduceMul, Nat.reduceLeDiff, if_true, Zn, reduceCtorEq, ZA, eq_self, Int.reduceLE, Int.reduceLT, Int.reduceToNat, ne_eq, Nat.reduceSub, q1]
    repeat refine And.intro (by omega) ?_
    intro g
    simp only [List.map_cons, List.map_nil, updL, upd, Nat.reduceEqDiff, if_true, if_false, ↓reduceIte]
    refine hK _ _ ?_; clear hK K
    exact roundN (m := q - 1) (by omega) ⟨_, i + 1, by omega, rfl, rfl⟩
  · obtain rfl : i = n := by omega
    refine Cd.exit (thenX (roundX (inBX ?_)))
    refine thenN ?_
    refine Cd.rs [4] fun K hK => ?_
    simp (maxSteps := 2000000) (disch := first | (simp only [E4] <;> omega) | omega | fail) only [↓E2, E3, bare, bareJ, ↓E0, E1, evP, evPlan, env0, envN, evOps, evOp, evQs, evQ, evV, setD, pureOp, ev, upd, updL, gate, binW, eqOp, binV, intOp, shOp, boolOp, unV, convV, nilV, fieldAddrV, indexAddrV, extractV, cellAt, cellsAt, findB, setB, fillL, buildV, Value.cells, lenV, minV, maxV, hav, sliceV, loV, hiV, bslQ, mksQ, appQ, partsOk, partsCells, delB, eqL, SameI, strOp, apzQ, cvtQ, capV, ↓reduceIte, Zj, Zk, Nat.reduceAdd, Nat.reduceLT, Nat.reduceEqDiff, Nat.reduceMul, Nat.reduceLeDiff, if_true, Zn, reduceCtorEq, ZA, eq_self, Int.reduceLE, Int.reduceLT, Int.reduceToNat, ne_eq, Nat.reduceSub]
    repeat refine And.intro (by omega) ?_
    intro g
    simp only [List.map_cons, List.map_nil, updL, upd, Nat.reduceEqDiff, if_true, if_false, ↓reduceIte]
    refine hK _ _ ?_; clear hK K
    refine Cd.ret ?_
    simp (maxSteps := 2000000) (disch := first | (simp only [E4] <;> omega) | omega | fail) only [↓E2, E3, bare, bareJ, ↓E0, E1, evP, evPlan, env0, envN, evOps, evOp, evQs, evQ, evV, setD, pureOp, ev, upd, updL, gate, binW, eqOp, binV, intOp, shOp, boolOp, unV, convV, nilV, fieldAddrV, indexAddrV, extractV, cellAt, cellsAt, findB, setB, fillL, buildV, Value.cells, lenV, minV, maxV, hav, sliceV, loV, hiV, bslQ, mksQ, appQ, partsOk, partsCells, delB, eqL, SameI, strOp, apzQ, cvtQ, capV, ↓reduceIte, Zj, Zk, Nat.reduceAdd, Nat.reduceLT, Nat.reduceEqDiff, Nat.reduceMul, Nat.reduceLeDiff, if_true, Zn, reduceCtorEq, ZA, eq_self, Int.reduceLE, Int.reduceLT, Int.reduceToNat, ne_eq, Nat.reduceSub]

end Go.Proofs

/-
  What the functions of this part hand back: each as a plain function of its arguments. Conditions: none.
-/
namespace Go.Proofs
open Go.W8
set_option linter.unusedVariables false
set_option linter.unusedSimpArgs false
set_option linter.unusedSectionVars false
set_option maxRecDepth 8000
set_option maxHeartbeats 4000000
--@plain

end Go.Proofs

/-
  What the functions of this part hand back: each as a plain function of its arguments. Conditions: none.
-/
namespace Go.Proofs
open Go.W8
set_option linter.unusedVariables false
set_option linter.unusedSimpArgs false
set_option linter.unusedSectionVars false
set_option maxRecDepth 8000
set_option maxHeartbeats 4000000
theorem toInt64S_c (l : List Int) (R : Rd) (v : Value) (h : InS R l v) (hb : l.length ≤ 17592186044416) : GivesX Try.prog 124 #[v] [] R (SlN 1 (ints .i64 l)) := by
  obtain ⟨a, cap, rfl, _⟩ := id h
  refine GivesX.of (callable_of Try.func124 rfl (by decide)) ?_ fun w hnd hlt hR => ?_
  · simp
  refine acall_of (N := 22) (c := _) (rs := [.tmp 2]) (args := [_]) Try.func124 rfl (by decide) rfl rfl (Nat.le_of_ble_eq_true rfl) ?_
  have hR : W8.Told [] w R := hR
  refine Cd.rs [0] fun K hK => ?_
  simp (maxSteps := 2000000) (disch := first | (simp only [E4] <;> omega) | omega | fail) only [↓E2, E3, bare, bareJ, ↓E0, E1, evP, evPlan, env0, envN, evOps, evOp, evQs, evQ, evV, setD, pureOp, ev, upd, updL, gate, binW, eqOp, binV, intOp, shOp, boolOp, unV, convV, nilV, fieldAddrV, indexAddrV, extractV, cellAt, cellsAt, findB, setB, fillL, buildV, Value.cells, lenV, minV, maxV, hav, sliceV, loV, hiV, bslQ, mksQ, appQ, partsOk, partsCells, delB, eqL, SameI, strOp, apzQ, cvtQ, capV, ↓reduceIte, Zj, Zk, Nat.reduceAdd, Nat.reduceLT, Nat.reduceEqDiff, Nat.reduceMul, Nat.reduceLeDiff, if_true, Zn, reduceCtorEq, ZA, eq_self, Int.reduceLE, Int.reduceLT, Int.reduceToNat, ne_eq, Nat.reduceSub]
  repeat refine And.intro (by omega) ?_
  repeat refine And.intro (by omega) ?_
  intro g
  simp only [List.map_cons, List.map_nil, updL, upd, Nat.reduceEqDiff, if_true, if_false, ↓reduceIte]
  refine hK _ _ ?_; clear hK K
  refine Cd.rs [0, 3] fun K hK => ?_
  simp (maxSteps := 2000000) (disch := first | (simp only [E4] <;> omega) | omega | fail) only [↓E2, E3, bare, bareJ, ↓E0, E1, evP, evPlan, env0, envN, evOps, evOp, evQs, evQ, evV, setD, pureOp, ev, upd, updL, gate, binW, eqOp, binV, intOp, shOp, boolOp, unV, convV, nilV, fieldAddrV, indexAddrV, extractV, cellAt, cellsAt, findB, setB, fillL, buildV, Value.cells, lenV, minV, maxV, hav, sliceV, loV, hiV, bslQ, mksQ, appQ, partsOk, partsCells, delB, eqL, SameI, strOp, apzQ, cvtQ, capV, ↓reduceIte, Zj, Zk, Nat.reduceAdd, Nat.reduceLT, Nat.reduceEqDiff, Nat.reduceMul, Nat.reduceLeDiff, if_true, Zn, reduceCtorEq, ZA, eq_self, Int.reduceLE, Int.reduceLT, Int.reduceToNat, ne_eq, Nat.reduceSub, Tby2, Tslc47, Tslce47, Tzero2]
  repeat refine And.intro (by omega) ?_
  intro b1 hb1
  try simp (maxSteps := 2000000) (disch := first | (simp only [E4] <;> omega) | omega | fail) only [↓E2, E3, bare, bareJ, ↓E0, E1, evP, evPlan, env0, envN, evOps, evOp, evQs, evQ, evV, setD, pureOp, ev, upd, updL, gate, binW, eqOp, binV, intOp, shOp, boolOp, unV, convV, nilV, fieldAddrV, indexAddrV, extractV, cellAt, cellsAt, findB, setB, fillL, buildV, Value.cells, lenV, minV, maxV, hav, sliceV, loV, hiV, bslQ, mksQ, appQ, partsOk, partsCells, delB, eqL, SameI, strOp, apzQ, cvtQ, capV, ↓reduceIte, Zj, Zk, Nat.reduceAdd, Nat.reduceLT, Nat.reduceEqDiff, Nat.reduceMul, Nat.reduceLeDiff, if_true, Zn, reduceCtorEq, ZA, eq_self, Int.reduceLE, Int.reduceLT, Int.reduceToNat, ne_eq, Nat.reduceSub, Tby2, Tslc47, Tslce47, Tzero2]
  repeat refine And.intro (by omega) ?_
  repeat refine And.intro (by omega) ?_
  intro g
  simp only [List.map_cons, List.map_nil, updL, upd, Nat.reduceEqDiff, if_true, if_false, ↓reduceIte]
  refine hK _ _ ?_; clear hK K
  refine Cd.seq ?_
  refine Cd.rs [0, 3, 4] fun K hK => ?_
  simp (maxSteps := 2000000) (disch := first | (simp only [E4] <;> omega) | omega | fail) only [↓E2, E3, bare, bareJ, ↓E0, E1, evP, evPlan, env0, envN, evOps, evOp, evQs, evQ, evV, setD, pureOp, ev, upd, updL, gate, binW, eqOp, binV, intOp, shOp, boolOp, unV, convV, nilV, fieldAddrV, indexAddrV, extractV, cellAt, cellsAt, findB, setB, fillL, buildV, Value.cells, lenV, minV, maxV, hav, sliceV, loV, hiV, bslQ, mksQ, appQ, partsOk, partsCells, delB, eqL, SameI, strOp, apzQ, cvtQ, capV, ↓reduceIte, Zj, Zk, Nat.reduceAdd, Nat.reduceLT, Nat.reduceEqDiff, Nat.reduceMul, Nat.reduceLeDiff, if_true, Zn, reduceCtorEq, ZA, eq_self, Int.reduceLE, Int.reduceLT, Int.reduceToNat, ne_eq, Nat.reduceSub]
  repeat refine And.intro (by omega) ?_
  repeat refine And.intro (by omega) ?_
  intro g
  simp only [List.map_cons, List.map_nil, updL, upd, Nat.reduceEqDiff, if_true, if_false, ↓reduceIte]
  refine hK _ _ ?_; clear hK K
  refine Cd.block ?_
  refine Cd.loop (fun q ρ M => ∃ g k cs, k + q = l.length ∧ cs = ints .i64 (l.take k ++ List.replicate (l.length - k) 0) ∧ ρ = updL [(0, .slice a l.length cap), (3, .slice (some ⟨b1, 0, none⟩) l.length l.length), (4, .int .i64 (k : Int))] g ∧ M = [(b1, cs)]) l.length ⟨_, 0, _, Nat.zero_add _, rfl, rfl, by rw [List.take_zero, List.nil_append, Nat.sub_zero]; simp [ints]⟩ ?_
  rintro q ρ M ⟨g, k, cs, hk, hcs, rfl, rfl⟩
  refine Cd.seq ?_
  refine Cd.rs [0, 3, 4, 11] fun K hK => ?_
  simp (maxSteps := 2000000) (disch := first | (simp only [E4] <;> omega) | omega | fail) only [↓E2, E3, bare, bareJ, ↓E0, E1, evP, evPlan, env0, envN, evOps, evOp, evQs, evQ, evV, setD, pureOp, ev, upd, updL, gate, binW, eqOp, binV, intOp, shOp, boolOp, unV, convV, nilV, fieldAddrV, indexAddrV, extractV, cellAt, cellsAt, findB, setB, fillL, buildV, Value.cells, lenV, minV, maxV, hav, sliceV, loV, hiV, bslQ, mksQ, appQ, partsOk, partsCells, delB, eqL, SameI, strOp, apzQ, cvtQ, capV, ↓reduceIte, Zj, Zk, Nat.reduceAdd, Nat.reduceLT, Nat.reduceEqDiff, Nat.reduceMul, Nat.reduceLeDiff, if_true, Zn, reduceCtorEq, ZA, eq_self, Int.reduceLE, Int.reduceLT, Int.reduceToNat, ne_eq, Nat.reduceSub, Tslce47]
  repeat refine And.intro (by omega) ?_
  repeat refine And.intro (by omega) ?_
  intro g
  simp only [List.map_cons, List.map_nil, updL, upd, Nat.reduceEqDiff, if_true, if_false, ↓reduceIte]
  refine hK _ _ ?_; clear hK K
  refine Cd.condd rfl (fun h1 => ?_) (fun h1 => ?_)
  · obtain ⟨b, o, rfl, g1⟩ := h.get hR (k := k) (by omega)
    have n1 : ¬ b1 = b := fun e => by
      have := frn_lt g1
      have := hb1.1
      omega
    have cl : cs.length = l.length := by rw [hcs, ints_length, List.length_append, List.length_take, List.length_replicate]; omega
    have hcs2 : cs.set k (.int .i64 (l.getD k 0)) = ints .i64 (l.take (k + 1) ++ List.replicate (l.length - (k + 1)) 0) := by
      rw [hcs, ints_set]
      congr 1
      rw [List.take_succ_eq_append_getElem (by omega), List.set_append_right _ _ (by rw [List.length_take]; omega), List.length_take, show k - min k l.length = 0 by omega, show l.length - k = (l.length - (k + 1)) + 1 by omega, List.replicate_succ, List.set_cons_zero, List.append_assoc, List.getD_eq_getElem?_getD, List.getElem?_eq_getElem (show k < l.length by omega)]
      rfl
    refine Cd.skip ?_
    refine thenN ?_
    refine Cd.seq ?_
    refine Cd.block ?_
    skip
    refine Cd.rr [0, 3, 4] fun K hK => ?_
    simp (maxSteps := 2000000) (disch := first | (simp only [E4, g1, n1, cl] <;> omega) | omega | fail) only [↓E2, E3, bare, bareJ, ↓E0, E1, evP, evPlan, env0, envN, evOps, evOp, evQs, evQ, evV, setD, pureOp, ev, upd, updL, gate, binW, eqOp, binV, intOp, shOp, boolOp, unV, convV, nilV, fieldAddrV, indexAddrV, extractV, cellAt, cellsAt, findB, setB, fillL, buildV, Value.cells, lenV, minV, maxV, hav, sliceV, loV, hiV, bslQ, mksQ, appQ, partsOk, partsCells, delB, eqL, SameI, strOp, apzQ, cvtQ, capV, ↓reduceIte, Zj, Zk, Nat.reduceAdd, Nat.reduceLT, Nat.reduceEqDiff, Nat.reduceMul, Nat.reduceLeDiff, if_true, Zn, reduceCtorEq, ZA, eq_self, Int.reduceLE, Int.reduceLT, Int.reduceToNat, ne_eq, Nat.reduceSub, Tld2, Tslc47, Tst2, g1, n1, cl]
    repeat refine And.intro (by omega) ?_
    repeat refine And.intro (by omega) ?_
    intro g
    simp only [List.map_cons, List.map_nil, updL, upd, Nat.reduceEqDiff, if_true, if_false, ↓reduceIte]
    refine hK _ _ ?_; clear hK K
    refine inBN ?_
    refine thenN ?_
    refine Cd.rr [0, 3, 4] fun K hK => ?_
    simp (maxSteps := 2000000) (disch := first | (simp only [E4, g1, n1, cl] <;> omega) | omega | fail) only [↓E2, E3, bare, bareJ, ↓E0, E1, evP, evPlan, env0, envN, evOps, evOp, evQs, evQ, evV, setD, pureOp, ev, upd, updL, gate, binW, eqOp, binV, intOp, shOp, boolOp, unV, convV, nilV, fieldAddrV, indexAddrV, extractV, cellAt, cellsAt, findB, setB, fillL, buildV, Value.cells, lenV, minV, maxV, hav, sliceV, loV, hiV, bslQ, mksQ, appQ, partsOk, partsCells, delB, eqL, SameI, strOp, apzQ, cvtQ, capV, ↓reduceIte, Zj, Zk, Nat.reduceAdd, Nat.reduceLT, Nat.reduceEqDiff, Nat.reduceMul, Nat.reduceLeDiff, if_true, Zn, reduceCtorEq, ZA, eq_self, Int.reduceLE, Int.reduceLT, Int.reduceToNat, ne_eq, Nat.reduceSub, g1, n1, cl]
    repeat refine And.intro (by omega) ?_
    repeat refine And.intro (by omega) ?_
    intro g
    simp only [List.map_cons, List.map_nil, updL, upd, Nat.reduceEqDiff, if_true, if_false, ↓reduceIte]
    refine hK _ _ ?_; clear hK K
    exact roundN (m := q - 1) (by omega) ⟨_, k + 1, _, by omega, hcs2, rfl, rfl⟩
  · refine Cd.exit (thenX (roundX (inBX ?_)))
    refine thenN ?_
    obtain rfl : k = l.length := by omega
    refine Cd.rs [2] fun K hK => ?_
    simp (maxSteps := 2000000) (disch := first | (simp only [E4] <;> omega) | omega | fail) only [↓E2, E3, bare, bareJ, ↓E0, E1, evP, evPlan, env0, envN, evOps, evOp, evQs, evQ, evV, setD, pureOp, ev, upd, updL, gate, binW, eqOp, binV, intOp, shOp, boolOp, unV, convV, nilV, fieldAddrV, indexAddrV, extractV, cellAt, cellsAt, findB, setB, fillL, buildV, Value.cells, lenV, minV, maxV, hav, sliceV, loV, hiV, bslQ, mksQ, appQ, partsOk, partsCells, delB, eqL, SameI, strOp, apzQ, cvtQ, capV, ↓reduceIte, Zj, Zk, Nat.reduceAdd, Nat.reduceLT, Nat.reduceEqDiff, Nat.reduceMul, Nat.reduceLeDiff, if_true, Zn, reduceCtorEq, ZA, eq_self, Int.reduceLE, Int.reduceLT, Int.reduceToNat, ne_eq, Nat.reduceSub]
    repeat refine And.intro (by omega) ?_
    repeat refine And.intro (by omega) ?_
    intro g
    simp only [List.map_cons, List.map_nil, updL, upd, Nat.reduceEqDiff, if_true, if_false, ↓reduceIte]
    refine hK _ _ ?_; clear hK K
    refine Cd.ret ?_
    simp (maxSteps := 2000000) (disch := first | (simp only [E4] <;> omega) | omega | fail) only [↓E2, E3, bare, bareJ, ↓E0, E1, evP, evPlan, env0, envN, evOps, evOp, evQs, evQ, evV, setD, pureOp, ev, upd, updL, gate, binW, eqOp, binV, intOp, shOp, boolOp, unV, convV, nilV, fieldAddrV, indexAddrV, extractV, cellAt, cellsAt, findB, setB, fillL, buildV, Value.cells, lenV, minV, maxV, hav, sliceV, loV, hiV, bslQ, mksQ, appQ, partsOk, partsCells, delB, eqL, SameI, strOp, apzQ, cvtQ, capV, ↓reduceIte, Zj, Zk, Nat.reduceAdd, Nat.reduceLT, Nat.reduceEqDiff, Nat.reduceMul, Nat.reduceLeDiff, if_true, Zn, reduceCtorEq, ZA, eq_self, Int.reduceLE, Int.reduceLT, Int.reduceToNat, ne_eq, Nat.reduceSub]
    repeat refine And.intro (by omega) ?_
    rw [Nat.sub_self, List.take_of_length_le (Nat.le_refl _), List.replicate_zero, List.append_nil] at hcs
    subst hcs
    exact SlN.row (Row.full (by rw [ints_length, Nat.mul_one]))

theorem toLaurent_c (low : Int) (l : List Int) (R : Rd) (v : Value) (h : InS R l v) (hb : l.length ≤ 17592186044416) : GivesX Try.prog 50 #[.agg #[.int .i64 low, v]] [] R (LauV low l) := by
  obtain ⟨a, cap, rfl, _⟩ := id h
  refine GivesX.part ?_
  refine GivesX.of (callable_of Try.func50 rfl (by decide)) ?_ fun w hnd hlt hR => ?_
  · simp
  refine acall_of (N := 12) (c := _) (rs := [.cell 2 56]) (args := [_]) Try.func50 rfl (by decide) rfl rfl (Nat.le_of_ble_eq_true rfl) ?_
  have hR : W8.Told [] w R := hR
  refine Cd.rs [1, 2] fun K hK => ?_
  simp (maxSteps := 2000000) (disch := first | (simp only [E4] <;> omega) | omega | fail) only [↓E2, E3, bare, bareJ, ↓E0, E1, evP, evPlan, env0, envN, evOps, evOp, evQs, evQ, evV, setD, pureOp, ev, upd, updL, gate, binW, eqOp, binV, intOp, shOp, boolOp, unV, convV, nilV, fieldAddrV, indexAddrV, extractV, cellAt, cellsAt, findB, setB, fillL, buildV, Value.cells, lenV, minV, maxV, hav, sliceV, loV, hiV, bslQ, mksQ, appQ, partsOk, partsCells, delB, eqL, SameI, strOp, apzQ, cvtQ, capV, ↓reduceIte, Zj, Zk, Nat.reduceAdd, Nat.reduceLT, Nat.reduceEqDiff, Nat.reduceMul, Nat.reduceLeDiff, if_true, Zn, reduceCtorEq, ZA, eq_self, Int.reduceLE, Int.reduceLT, Int.reduceToNat, ne_eq, Nat.reduceSub, Tzero56]
  repeat refine And.intro (by omega) ?_
  intro b1 hb1
  intro b2 hb2
  have nb2_b1 := hb2.ne
  try simp (maxSteps := 2000000) (disch := first | (simp only [E4, nb2_b1] <;> omega) | omega | fail) only [↓E2, E3, bare, bareJ, ↓E0, E1, evP, evPlan, env0, envN, evOps, evOp, evQs, evQ, evV, setD, pureOp, ev, upd, updL, gate, binW, eqOp, binV, intOp, shOp, boolOp, unV, convV, nilV, fieldAddrV, indexAddrV, extractV, cellAt, cellsAt, findB, setB, fillL, buildV, Value.cells, lenV, minV, maxV, hav, sliceV, loV, hiV, bslQ, mksQ, appQ, partsOk, partsCells, delB, eqL, SameI, strOp, apzQ, cvtQ, capV, ↓reduceIte, Zj, Zk, Nat.reduceAdd, Nat.reduceLT, Nat.reduceEqDiff, Nat.reduceMul, Nat.reduceLeDiff, if_true, Zn, reduceCtorEq, ZA, eq_self, Int.reduceLE, Int.reduceLT, Int.reduceToNat, ne_eq, Nat.reduceSub, Tzero56, nb2_b1]
  repeat refine And.intro (by omega) ?_
  repeat refine And.intro (by omega) ?_
  intro g
  simp only [List.map_cons, List.map_nil, updL, upd, Nat.reduceEqDiff, if_true, if_false, ↓reduceIte]
  refine hK _ _ ?_; clear hK K
  refine Cd.rs [1, 2, 3] fun K hK => ?_
  simp (maxSteps := 2000000) (disch := first | (simp only [E4, nb2_b1] <;> omega) | omega | fail) only [↓E2, E3, bare, bareJ, ↓E0, E1, evP, evPlan, env0, envN, evOps, evOp, evQs, evQ, evV, setD, pureOp, ev, upd, updL, gate, binW, eqOp, binV, intOp, shOp, boolOp, unV, convV, nilV, fieldAddrV, indexAddrV, extractV, cellAt, cellsAt, findB, setB, fillL, buildV, Value.cells, lenV, minV, maxV, hav, sliceV, loV, hiV, bslQ, mksQ, appQ, partsOk, partsCells, delB, eqL, SameI, strOp, apzQ, cvtQ, capV, ↓reduceIte, Zj, Zk, Nat.reduceAdd, Nat.reduceLT, Nat.reduceEqDiff, Nat.reduceMul, Nat.reduceLeDiff, if_true, Zn, reduceCtorEq, ZA, eq_self, Int.reduceLE, Int.reduceLT, Int.reduceToNat, ne_eq, Nat.reduceSub, Tzero56, nb2_b1]
  repeat refine And.intro (by omega) ?_
  intro b3 hb3
  have nb3_b2 := hb3.ne
  have nb3_b1 := hb3.tail.ne
  try simp (maxSteps := 2000000) (disch := first | (simp only [E4, nb2_b1, nb3_b2, nb3_b1] <;> omega) | omega | fail) only [↓E2, E3, bare, bareJ, ↓E0, E1, evP, evPlan, env0, envN, evOps, evOp, evQs, evQ, evV, setD, pureOp, ev, upd, updL, gate, binW, eqOp, binV, intOp, shOp, boolOp, unV, convV, nilV, fieldAddrV, indexAddrV, extractV, cellAt, cellsAt, findB, setB, fillL, buildV, Value.cells, lenV, minV, maxV, hav, sliceV, loV, hiV, bslQ, mksQ, appQ, partsOk, partsCells, delB, eqL, SameI, strOp, apzQ, cvtQ, capV, ↓reduceIte, Zj, Zk, Nat.reduceAdd, Nat.reduceLT, Nat.reduceEqDiff, Nat.reduceMul, Nat.reduceLeDiff, if_true, Zn, reduceCtorEq, ZA, eq_self, Int.reduceLE, Int.reduceLT, Int.reduceToNat, ne_eq, Nat.reduceSub, Tzero56, nb2_b1, nb3_b2, nb3_b1]
  repeat refine And.intro (by omega) ?_
  repeat refine And.intro (by omega) ?_
  intro g
  simp only [List.map_cons, List.map_nil, updL, upd, Nat.reduceEqDiff, if_true, if_false, ↓reduceIte]
  refine hK _ _ ?_; clear hK K
  refine Cd.rs [1, 2, 3] fun K hK => ?_
  simp (maxSteps := 2000000) (disch := first | (simp only [E4, nb2_b1, nb3_b2, nb3_b1] <;> omega) | omega | fail) only [↓E2, E3, bare, bareJ, ↓E0, E1, evP, evPlan, env0, envN, evOps, evOp, evQs, evQ, evV, setD, pureOp, ev, upd, updL, gate, binW, eqOp, binV, intOp, shOp, boolOp, unV, convV, nilV, fieldAddrV, indexAddrV, extractV, cellAt, cellsAt, findB, setB, fillL, buildV, Value.cells, lenV, minV, maxV, hav, sliceV, loV, hiV, bslQ, mksQ, appQ, partsOk, partsCells, delB, eqL, SameI, strOp, apzQ, cvtQ, capV, ↓reduceIte, Zj, Zk, Nat.reduceAdd, Nat.reduceLT, Nat.reduceEqDiff, Nat.reduceMul, Nat.reduceLeDiff, if_true, Zn, reduceCtorEq, ZA, eq_self, Int.reduceLE, Int.reduceLT, Int.reduceToNat, ne_eq, Nat.reduceSub, Tfld56_0, Tfld61_0, Tld2, Tst2, nb2_b1, nb3_b2, nb3_b1]
  repeat refine And.intro (by omega) ?_
  repeat refine And.intro (by omega) ?_
  intro g
  simp only [List.map_cons, List.map_nil, updL, upd, Nat.reduceEqDiff, if_true, if_false, ↓reduceIte]
  refine hK _ _ ?_; clear hK K
  refine Cd.rs [2, 3] fun K hK => ?_
  simp (maxSteps := 2000000) (disch := first | (simp only [E4, nb2_b1, nb3_b2, nb3_b1] <;> omega) | omega | fail) only [↓E2, E3, bare, bareJ, ↓E0, E1, evP, evPlan, env0, envN, evOps, evOp, evQs, evQ, evV, setD, pureOp, ev, upd, updL, gate, binW, eqOp, binV, intOp, shOp, boolOp, unV, convV, nilV, fieldAddrV, indexAddrV, extractV, cellAt, cellsAt, findB, setB, fillL, buildV, Value.cells, lenV, minV, maxV, hav, sliceV, loV, hiV, bslQ, mksQ, appQ, partsOk, partsCells, delB, eqL, SameI, strOp, apzQ, cvtQ, capV, ↓reduceIte, Zj, Zk, Nat.reduceAdd, Nat.reduceLT, Nat.reduceEqDiff, Nat.reduceMul, Nat.reduceLeDiff, if_true, Zn, reduceCtorEq, ZA, eq_self, Int.reduceLE, Int.reduceLT, Int.reduceToNat, ne_eq, Nat.reduceSub, Tfld56_1, Tfld61_1, Tld47, Tst47, nb2_b1, nb3_b2, nb3_b1]
  repeat refine And.intro (by omega) ?_
  refine callK_newR0 (toInt64S_c l R _ h hb) hR.toldW ?_
  intro v M' hv _ hf
  obtain ⟨a', m', cap', rfl⟩ := hv.form
  simp only [List.cons_append, List.nil_append]
  simp (maxSteps := 2000000) (disch := first | (simp only [E4, nb2_b1, nb3_b2, nb3_b1] <;> omega) | omega | fail) only [↓E2, E3, bare, bareJ, ↓E0, E1, evP, evPlan, env0, envN, evOps, evOp, evQs, evQ, evV, setD, pureOp, ev, upd, updL, gate, binW, eqOp, binV, intOp, shOp, boolOp, unV, convV, nilV, fieldAddrV, indexAddrV, extractV, cellAt, cellsAt, findB, setB, fillL, buildV, Value.cells, lenV, minV, maxV, hav, sliceV, loV, hiV, bslQ, mksQ, appQ, partsOk, partsCells, delB, eqL, SameI, strOp, apzQ, cvtQ, capV, ↓reduceIte, Zj, Zk, Nat.reduceAdd, Nat.reduceLT, Nat.reduceEqDiff, Nat.reduceMul, Nat.reduceLeDiff, if_true, Zn, reduceCtorEq, ZA, eq_self, Int.reduceLE, Int.reduceLT, Int.reduceToNat, ne_eq, Nat.reduceSub, Tfld56_1, Tfld61_1, Tld47, Tst47, nb2_b1, nb3_b2, nb3_b1]
  repeat refine And.intro (by omega) ?_
  repeat refine And.intro (by omega) ?_
  intro g
  simp only [List.map_cons, List.map_nil, updL, upd, Nat.reduceEqDiff, if_true, if_false, ↓reduceIte]
  refine hK _ _ ?_; clear hK K
  refine Cd.rs [2] fun K hK => ?_
  simp (maxSteps := 2000000) (disch := first | (simp only [E4, nb2_b1, nb3_b2, nb3_b1] <;> omega) | omega | fail) only [↓E2, E3, bare, bareJ, ↓E0, E1, evP, evPlan, env0, envN, evOps, evOp, evQs, evQ, evV, setD, pureOp, ev, upd, updL, gate, binW, eqOp, binV, intOp, shOp, boolOp, unV, convV, nilV, fieldAddrV, indexAddrV, extractV, cellAt, cellsAt, findB, setB, fillL, buildV, Value.cells, lenV, minV, maxV, hav, sliceV, loV, hiV, bslQ, mksQ, appQ, partsOk, partsCells, delB, eqL, SameI, strOp, apzQ, cvtQ, capV, ↓reduceIte, Zj, Zk, Nat.reduceAdd, Nat.reduceLT, Nat.reduceEqDiff, Nat.reduceMul, Nat.reduceLeDiff, if_true, Zn, reduceCtorEq, ZA, eq_self, Int.reduceLE, Int.reduceLT, Int.reduceToNat, ne_eq, Nat.reduceSub, Tld56, Tst56, nb2_b1, nb3_b2, nb3_b1]
  repeat refine And.intro (by omega) ?_
  repeat refine And.intro (by omega) ?_
  intro g
  simp only [List.map_cons, List.map_nil, updL, upd, Nat.reduceEqDiff, if_true, if_false, ↓reduceIte]
  refine hK _ _ ?_; clear hK K
  refine Cd.ret ?_
  simp (maxSteps := 2000000) (disch := first | (simp only [E4, nb2_b1, nb3_b2, nb3_b1] <;> omega) | omega | fail) only [↓E2, E3, bare, bareJ, ↓E0, E1, evP, evPlan, env0, envN, evOps, evOp, evQs, evQ, evV, setD, pureOp, ev, upd, updL, gate, binW, eqOp, binV, intOp, shOp, boolOp, unV, convV, nilV, fieldAddrV, indexAddrV, extractV, cellAt, cellsAt, findB, setB, fillL, buildV, Value.cells, lenV, minV, maxV, hav, sliceV, loV, hiV, bslQ, mksQ, appQ, partsOk, partsCells, delB, eqL, SameI, strOp, apzQ, cvtQ, capV, ↓reduceIte, Zj, Zk, Nat.reduceAdd, Nat.reduceLT, Nat.reduceEqDiff, Nat.reduceMul, Nat.reduceLeDiff, if_true, Zn, reduceCtorEq, ZA, eq_self, Int.reduceLE, Int.reduceLT, Int.reduceToNat, ne_eq, Nat.reduceSub, Tld56, nb2_b1, nb3_b2, nb3_b1]
  repeat refine And.intro (by omega) ?_
  exact ⟨M', .of (List.Sublist.cons _ (List.Sublist.cons _ (List.Sublist.cons _ (List.Sublist.refl _)))), _, rfl, hv⟩

theorem szInt64S_c (l : Nat) (a : Option Addr) (cap : Nat) (left : Nat) (hl : left < 4611686018427387904) (hb : l ≤ 9223372036854775807) : Gives Try.prog 120 #[.slice a l cap, .int .i64 (left : Int)] (.int .i64 (if (left : Int) - l < 0 then -1 else (left : Int) - l)) := by
  refine Gives.of fun w => ?_
  refine acall_of (N := 12) (c := _) (rs := [.tmp 4]) (args := [_, _]) Try.func120 rfl (by decide) rfl rfl (Nat.le_of_ble_eq_true rfl) ?_
  refine Cd.rs [0, 1] fun K hK => ?_
  simp (maxSteps := 2000000) (disch := first | (simp only [E4] <;> omega) | omega | fail) only [↓E2, E3, bare, bareJ, ↓E0, E1, evP, evPlan, env0, envN, evOps, evOp, evQs, evQ, evV, setD, pureOp, ev, upd, updL, gate, binW, eqOp, binV, intOp, shOp, boolOp, unV, convV, nilV, fieldAddrV, indexAddrV, extractV, cellAt, cellsAt, findB, setB, fillL, buildV, Value.cells, lenV, minV, maxV, hav, sliceV, loV, hiV, bslQ, mksQ, appQ, partsOk, partsCells, delB, eqL, SameI, strOp, apzQ, cvtQ, capV, ↓reduceIte, Zj, Zk, Nat.reduceAdd, Nat.reduceLT, Nat.reduceEqDiff, Nat.reduceMul, Nat.reduceLeDiff, if_true, Zn, reduceCtorEq, ZA, eq_self, Int.reduceLE, Int.reduceLT, Int.reduceToNat, ne_eq, Nat.reduceSub]
  repeat refine And.intro (by omega) ?_
  repeat refine And.intro (by omega) ?_
  intro g
  simp only [List.map_cons, List.map_nil, updL, upd, Nat.reduceEqDiff, if_true, if_false, ↓reduceIte]
  refine hK _ _ ?_; clear hK K
  refine Cd.rs [1] fun K hK => ?_
  simp (maxSteps := 2000000) (disch := first | (simp only [E4] <;> omega) | omega | fail) only [↓E2, E3, bare, bareJ, ↓E0, E1, evP, evPlan, env0, envN, evOps, evOp, evQs, evQ, evV, setD, pureOp, ev, upd, updL, gate, binW, eqOp, binV, intOp, shOp, boolOp, unV, convV, nilV, fieldAddrV, indexAddrV, extractV, cellAt, cellsAt, findB, setB, fillL, buildV, Value.cells, lenV, minV, maxV, hav, sliceV, loV, hiV, bslQ, mksQ, appQ, partsOk, partsCells, delB, eqL, SameI, strOp, apzQ, cvtQ, capV, ↓reduceIte, Zj, Zk, Nat.reduceAdd, Nat.reduceLT, Nat.reduceEqDiff, Nat.reduceMul, Nat.reduceLeDiff, if_true, Zn, reduceCtorEq, ZA, eq_self, Int.reduceLE, Int.reduceLT, Int.reduceToNat, ne_eq, Nat.reduceSub, Tslce47]
  repeat refine And.intro (by omega) ?_
  repeat refine And.intro (by omega) ?_
  intro g
  simp only [List.map_cons, List.map_nil, updL, upd, Nat.reduceEqDiff, if_true, if_false, ↓reduceIte]
  refine hK _ _ ?_; clear hK K
  refine Cd.seq ?_
  refine Cd.rs [1, 10] fun K hK => ?_
  simp (maxSteps := 2000000) (disch := first | (simp only [E4] <;> omega) | omega | fail) only [↓E2, E3, bare, bareJ, ↓E0, E1, evP, evPlan, env0, envN, evOps, evOp, evQs, evQ, evV, setD, pureOp, ev, upd, updL, gate, binW, eqOp, binV, intOp, shOp, boolOp, unV, convV, nilV, fieldAddrV, indexAddrV, extractV, cellAt, cellsAt, findB, setB, fillL, buildV, Value.cells, lenV, minV, maxV, hav, sliceV, loV, hiV, bslQ, mksQ, appQ, partsOk, partsCells, delB, eqL, SameI, strOp, apzQ, cvtQ, capV, ↓reduceIte, Zj, Zk, Nat.reduceAdd, Nat.reduceLT, Nat.reduceEqDiff, Nat.reduceMul, Nat.reduceLeDiff, if_true, Zn, reduceCtorEq, ZA, eq_self, Int.reduceLE, Int.reduceLT, Int.reduceToNat, ne_eq, Nat.reduceSub]
  repeat refine And.intro (by omega) ?_
  repeat refine And.intro (by omega) ?_
  intro g
  simp only [List.map_cons, List.map_nil, updL, upd, Nat.reduceEqDiff, if_true, if_false, ↓reduceIte]
  refine hK _ _ ?_; clear hK K
  refine Cd.condd rfl (fun h1 => ?_) (fun h1 => ?_)
  · refine Cd.rs [4] fun K hK => ?_
    simp (maxSteps := 2000000) (disch := first | (simp only [E4] <;> omega) | omega | fail) only [↓E2, E3, bare, bareJ, ↓E0, E1, evP, evPlan, env0, envN, evOps, evOp, evQs, evQ, evV, setD, pureOp, ev, upd, updL, gate, binW, eqOp, binV, intOp, shOp, boolOp, unV, convV, nilV, fieldAddrV, indexAddrV, extractV, cellAt, cellsAt, findB, setB, fillL, buildV, Value.cells, lenV, minV, maxV, hav, sliceV, loV, hiV, bslQ, mksQ, appQ, partsOk, partsCells, delB, eqL, SameI, strOp, apzQ, cvtQ, capV, ↓reduceIte, Zj, Zk, Nat.reduceAdd, Nat.reduceLT, Nat.reduceEqDiff, Nat.reduceMul, Nat.reduceLeDiff, if_true, Zn, reduceCtorEq, ZA, eq_self, Int.reduceLE, Int.reduceLT, Int.reduceToNat, ne_eq, Nat.reduceSub]
    repeat refine And.intro (by omega) ?_
    repeat refine And.intro (by omega) ?_
    intro g
    simp only [List.map_cons, List.map_nil, updL, upd, Nat.reduceEqDiff, if_true, if_false, ↓reduceIte]
    refine hK _ _ ?_; clear hK K
    refine Cd.ret (thenR ?_)
    simp (maxSteps := 2000000) (disch := first | (simp only [E4] <;> omega) | omega | fail) only [↓E2, E3, bare, bareJ, ↓E0, E1, evP, evPlan, env0, envN, evOps, evOp, evQs, evQ, evV, setD, pureOp, ev, upd, updL, gate, binW, eqOp, binV, intOp, shOp, boolOp, unV, convV, nilV, fieldAddrV, indexAddrV, extractV, cellAt, cellsAt, findB, setB, fillL, buildV, Value.cells, lenV, minV, maxV, hav, sliceV, loV, hiV, bslQ, mksQ, appQ, partsOk, partsCells, delB, eqL, SameI, strOp, apzQ, cvtQ, capV, ↓reduceIte, Zj, Zk, Nat.reduceAdd, Nat.reduceLT, Nat.reduceEqDiff, Nat.reduceMul, Nat.reduceLeDiff, if_true, Zn, reduceCtorEq, ZA, eq_self, Int.reduceLE, Int.reduceLT, Int.reduceToNat, ne_eq, Nat.reduceSub]
    repeat refine And.intro (by omega) ?_
    rw [if_pos h1]
  · refine Cd.skip ?_
    refine thenN ?_
    refine Cd.rs [4] fun K hK => ?_
    simp (maxSteps := 2000000) (disch := first | (simp only [E4] <;> omega) | omega | fail) only [↓E2, E3, bare, bareJ, ↓E0, E1, evP, evPlan, env0, envN, evOps, evOp, evQs, evQ, evV, setD, pureOp, ev, upd, updL, gate, binW, eqOp, binV, intOp, shOp, boolOp, unV, convV, nilV, fieldAddrV, indexAddrV, extractV, cellAt, cellsAt, findB, setB, fillL, buildV, Value.cells, lenV, minV, maxV, hav, sliceV, loV, hiV, bslQ, mksQ, appQ, partsOk, partsCells, delB, eqL, SameI, strOp, apzQ, cvtQ, capV, ↓reduceIte, Zj, Zk, Nat.reduceAdd, Nat.reduceLT, Nat.reduceEqDiff, Nat.reduceMul, Nat.reduceLeDiff, if_true, Zn, reduceCtorEq, ZA, eq_self, Int.reduceLE, Int.reduceLT, Int.reduceToNat, ne_eq, Nat.reduceSub]
    repeat refine And.intro (by omega) ?_
    repeat refine And.intro (by omega) ?_
    intro g
    simp only [List.map_cons, List.map_nil, updL, upd, Nat.reduceEqDiff, if_true, if_false, ↓reduceIte]
    refine hK _ _ ?_; clear hK K
    refine Cd.ret ?_
    simp (maxSteps := 2000000) (disch := first | (simp only [E4] <;> omega) | omega | fail) only [↓E2, E3, bare, bareJ, ↓E0, E1, evP, evPlan, env0, envN, evOps, evOp, evQs, evQ, evV, setD, pureOp, ev, upd, updL, gate, binW, eqOp, binV, intOp, shOp, boolOp, unV, convV, nilV, fieldAddrV, indexAddrV, extractV, cellAt, cellsAt, findB, setB, fillL, buildV, Value.cells, lenV, minV, maxV, hav, sliceV, loV, hiV, bslQ, mksQ, appQ, partsOk, partsCells, delB, eqL, SameI, strOp, apzQ, cvtQ, capV, ↓reduceIte, Zj, Zk, Nat.reduceAdd, Nat.reduceLT, Nat.reduceEqDiff, Nat.reduceMul, Nat.reduceLeDiff, if_true, Zn, reduceCtorEq, ZA, eq_self, Int.reduceLE, Int.reduceLT, Int.reduceToNat, ne_eq, Nat.reduceSub]
    repeat refine And.intro (by omega) ?_
    rw [if_neg h1]
theorem szLaurent_c (low : Int) (l : Nat) (a : Option Addr) (cap : Nat) (left : Nat) (hl : left < 4611686018427387904) (hb : l ≤ 9223372036854775807) : Gives Try.prog 48 #[.agg #[.int .i64 low, .slice a l cap], .int .i64 (left : Int)] (.int .i64 (if (left : Int) - l < 0 then -1 else (left : Int) - l)) := by
  refine Gives.of fun w => ?_
  refine acall_of (N := 12) (c := _) (rs := [.tmp 4]) (args := [_, _]) Try.func48 rfl (by decide) rfl rfl (Nat.le_of_ble_eq_true rfl) ?_
  refine Cd.rs [1, 2] fun K hK => ?_
  simp (maxSteps := 2000000) (disch := first | (simp only [E4] <;> omega) | omega | fail) only [↓E2, E3, bare, bareJ, ↓E0, E1, evP, evPlan, env0, envN, evOps, evOp, evQs, evQ, evV, setD, pureOp, ev, upd, updL, gate, binW, eqOp, binV, intOp, shOp, boolOp, unV, convV, nilV, fieldAddrV, indexAddrV, extractV, cellAt, cellsAt, findB, setB, fillL, buildV, Value.cells, lenV, minV, maxV, hav, sliceV, loV, hiV, bslQ, mksQ, appQ, partsOk, partsCells, delB, eqL, SameI, strOp, apzQ, cvtQ, capV, ↓reduceIte, Zj, Zk, Nat.reduceAdd, Nat.reduceLT, Nat.reduceEqDiff, Nat.reduceMul, Nat.reduceLeDiff, if_true, Zn, reduceCtorEq, ZA, eq_self, Int.reduceLE, Int.reduceLT, Int.reduceToNat, ne_eq, Nat.reduceSub]
  repeat refine And.intro (by omega) ?_
  intro b1 hb1
  try simp (maxSteps := 2000000) (disch := first | (simp only [E4] <;> omega) | omega | fail) only [↓E2, E3, bare, bareJ, ↓E0, E1, evP, evPlan, env0, envN, evOps, evOp, evQs, evQ, evV, setD, pureOp, ev, upd, updL, gate, binW, eqOp, binV, intOp, shOp, boolOp, unV, convV, nilV, fieldAddrV, indexAddrV, extractV, cellAt, cellsAt, findB, setB, fillL, buildV, Value.cells, lenV, minV, maxV, hav, sliceV, loV, hiV, bslQ, mksQ, appQ, partsOk, partsCells, delB, eqL, SameI, strOp, apzQ, cvtQ, capV, ↓reduceIte, Zj, Zk, Nat.reduceAdd, Nat.reduceLT, Nat.reduceEqDiff, Nat.reduceMul, Nat.reduceLeDiff, if_true, Zn, reduceCtorEq, ZA, eq_self, Int.reduceLE, Int.reduceLT, Int.reduceToNat, ne_eq, Nat.reduceSub]
  repeat refine And.intro (by omega) ?_
  repeat refine And.intro (by omega) ?_
  intro g
  simp only [List.map_cons, List.map_nil, updL, upd, Nat.reduceEqDiff, if_true, if_false, ↓reduceIte]
  refine hK _ _ ?_; clear hK K
  refine Cd.rs [1] fun K hK => ?_
  simp (maxSteps := 2000000) (disch := first | (simp only [E4] <;> omega) | omega | fail) only [↓E2, E3, bare, bareJ, ↓E0, E1, evP, evPlan, env0, envN, evOps, evOp, evQs, evQ, evV, setD, pureOp, ev, upd, updL, gate, binW, eqOp, binV, intOp, shOp, boolOp, unV, convV, nilV, fieldAddrV, indexAddrV, extractV, cellAt, cellsAt, findB, setB, fillL, buildV, Value.cells, lenV, minV, maxV, hav, sliceV, loV, hiV, bslQ, mksQ, appQ, partsOk, partsCells, delB, eqL, SameI, strOp, apzQ, cvtQ, capV, ↓reduceIte, Zj, Zk, Nat.reduceAdd, Nat.reduceLT, Nat.reduceEqDiff, Nat.reduceMul, Nat.reduceLeDiff, if_true, Zn, reduceCtorEq, ZA, eq_self, Int.reduceLE, Int.reduceLT, Int.reduceToNat, ne_eq, Nat.reduceSub, Tfld61_1, Tld47]
  repeat refine And.intro (by omega) ?_
  refine callK_gives (szInt64S_c l a cap left hl hb) ?_
  simp (maxSteps := 2000000) (disch := first | (simp only [E4] <;> omega) | omega | fail) only [↓E2, E3, bare, bareJ, ↓E0, E1, evP, evPlan, env0, envN, evOps, evOp, evQs, evQ, evV, setD, pureOp, ev, upd, updL, gate, binW, eqOp, binV, intOp, shOp, boolOp, unV, convV, nilV, fieldAddrV, indexAddrV, extractV, cellAt, cellsAt, findB, setB, fillL, buildV, Value.cells, lenV, minV, maxV, hav, sliceV, loV, hiV, bslQ, mksQ, appQ, partsOk, partsCells, delB, eqL, SameI, strOp, apzQ, cvtQ, capV, ↓reduceIte, Zj, Zk, Nat.reduceAdd, Nat.reduceLT, Nat.reduceEqDiff, Nat.reduceMul, Nat.reduceLeDiff, if_true, Zn, reduceCtorEq, ZA, eq_self, Int.reduceLE, Int.reduceLT, Int.reduceToNat, ne_eq, Nat.reduceSub, Tfld61_1, Tld47]
  repeat refine And.intro (by omega) ?_
  repeat refine And.intro (by omega) ?_
  intro g
  simp only [List.map_cons, List.map_nil, updL, upd, Nat.reduceEqDiff, if_true, if_false, ↓reduceIte]
  refine hK _ _ ?_; clear hK K
  refine Cd.seq ?_
  refine Cd.rs [1, 10] fun K hK => ?_
  simp (maxSteps := 2000000) (disch := first | (simp only [E4] <;> omega) | omega | fail) only [↓E2, E3, bare, bareJ, ↓E0, E1, evP, evPlan, env0, envN, evOps, evOp, evQs, evQ, evV, setD, pureOp, ev, upd, updL, gate, binW, eqOp, binV, intOp, shOp, boolOp, unV, convV, nilV, fieldAddrV, indexAddrV, extractV, cellAt, cellsAt, findB, setB, fillL, buildV, Value.cells, lenV, minV, maxV, hav, sliceV, loV, hiV, bslQ, mksQ, appQ, partsOk, partsCells, delB, eqL, SameI, strOp, apzQ, cvtQ, capV, ↓reduceIte, Zj, Zk, Nat.reduceAdd, Nat.reduceLT, Nat.reduceEqDiff, Nat.reduceMul, Nat.reduceLeDiff, if_true, Zn, reduceCtorEq, ZA, eq_self, Int.reduceLE, Int.reduceLT, Int.reduceToNat, ne_eq, Nat.reduceSub]
  repeat refine And.intro (by omega) ?_
  repeat refine And.intro (by omega) ?_
  intro g
  simp only [List.map_cons, List.map_nil, updL, upd, Nat.reduceEqDiff, if_true, if_false, ↓reduceIte]
  refine hK _ _ ?_; clear hK K
  refine Cd.condd rfl (fun h1 => ?_) (fun h1 => ?_)
  · have h2 : (left : Int) - l < 0 := by
      by_cases h : (left : Int) - l < 0
      · exact h
      · rw [if_neg h] at h1; omega
    refine Cd.rs [4] fun K hK => ?_
    simp (maxSteps := 2000000) (disch := first | (simp only [E4] <;> omega) | omega | fail) only [↓E2, E3, bare, bareJ, ↓E0, E1, evP, evPlan, env0, envN, evOps, evOp, evQs, evQ, evV, setD, pureOp, ev, upd, updL, gate, binW, eqOp, binV, intOp, shOp, boolOp, unV, convV, nilV, fieldAddrV, indexAddrV, extractV, cellAt, cellsAt, findB, setB, fillL, buildV, Value.cells, lenV, minV, maxV, hav, sliceV, loV, hiV, bslQ, mksQ, appQ, partsOk, partsCells, delB, eqL, SameI, strOp, apzQ, cvtQ, capV, ↓reduceIte, Zj, Zk, Nat.reduceAdd, Nat.reduceLT, Nat.reduceEqDiff, Nat.reduceMul, Nat.reduceLeDiff, if_true, Zn, reduceCtorEq, ZA, eq_self, Int.reduceLE, Int.reduceLT, Int.reduceToNat, ne_eq, Nat.reduceSub]
    repeat refine And.intro (by omega) ?_
    repeat refine And.intro (by omega) ?_
    intro g
    simp only [List.map_cons, List.map_nil, updL, upd, Nat.reduceEqDiff, if_true, if_false, ↓reduceIte]
    refine hK _ _ ?_; clear hK K
    refine Cd.ret (thenR ?_)
    simp (maxSteps := 2000000) (disch := first | (simp only [E4] <;> omega) | omega | fail) only [↓E2, E3, bare, bareJ, ↓E0, E1, evP, evPlan, env0, envN, evOps, evOp, evQs, evQ, evV, setD, pureOp, ev, upd, updL, gate, binW, eqOp, binV, intOp, shOp, boolOp, unV, convV, nilV, fieldAddrV, indexAddrV, extractV, cellAt, cellsAt, findB, setB, fillL, buildV, Value.cells, lenV, minV, maxV, hav, sliceV, loV, hiV, bslQ, mksQ, appQ, partsOk, partsCells, delB, eqL, SameI, strOp, apzQ, cvtQ, capV, ↓reduceIte, Zj, Zk, Nat.reduceAdd, Nat.reduceLT, Nat.reduceEqDiff, Nat.reduceMul, Nat.reduceLeDiff, if_true, Zn, reduceCtorEq, ZA, eq_self, Int.reduceLE, Int.reduceLT, Int.reduceToNat, ne_eq, Nat.reduceSub]
    repeat refine And.intro (by omega) ?_
    rw [if_pos h2]
  · refine Cd.skip ?_
    refine thenN ?_
    refine Cd.rs [4] fun K hK => ?_
    simp (maxSteps := 2000000) (disch := first | (simp only [E4] <;> omega) | omega | fail) only [↓E2, E3, bare, bareJ, ↓E0, E1, evP, evPlan, env0, envN, evOps, evOp, evQs, evQ, evV, setD, pureOp, ev, upd, updL, gate, binW, eqOp, binV, intOp, shOp, boolOp, unV, convV, nilV, fieldAddrV, indexAddrV, extractV, cellAt, cellsAt, findB, setB, fillL, buildV, Value.cells, lenV, minV, maxV, hav, sliceV, loV, hiV, bslQ, mksQ, appQ, partsOk, partsCells, delB, eqL, SameI, strOp, apzQ, cvtQ, capV, ↓reduceIte, Zj, Zk, Nat.reduceAdd, Nat.reduceLT, Nat.reduceEqDiff, Nat.reduceMul, Nat.reduceLeDiff, if_true, Zn, reduceCtorEq, ZA, eq_self, Int.reduceLE, Int.reduceLT, Int.reduceToNat, ne_eq, Nat.reduceSub]
    repeat refine And.intro (by omega) ?_
    repeat refine And.intro (by omega) ?_
    intro g
    simp only [List.map_cons, List.map_nil, updL, upd, Nat.reduceEqDiff, if_true, if_false, ↓reduceIte]
    refine hK _ _ ?_; clear hK K
    refine Cd.ret ?_
    simp (maxSteps := 2000000) (disch := first | (simp only [E4] <;> omega) | omega | fail) only [↓E2, E3, bare, bareJ, ↓E0, E1, evP, evPlan, env0, envN, evOps, evOp, evQs, evQ, evV, setD, pureOp, ev, upd, updL, gate, binW, eqOp, binV, intOp, shOp, boolOp, unV, convV, nilV, fieldAddrV, indexAddrV, extractV, cellAt, cellsAt, findB, setB, fillL, buildV, Value.cells, lenV, minV, maxV, hav, sliceV, loV, hiV, bslQ, mksQ, appQ, partsOk, partsCells, delB, eqL, SameI, strOp, apzQ, cvtQ, capV, ↓reduceIte, Zj, Zk, Nat.reduceAdd, Nat.reduceLT, Nat.reduceEqDiff, Nat.reduceMul, Nat.reduceLeDiff, if_true, Zn, reduceCtorEq, ZA, eq_self, Int.reduceLE, Int.reduceLT, Int.reduceToNat, ne_eq, Nat.reduceSub]
    repeat refine And.intro (by omega) ?_
theorem eqLaurent_c (low : Int) (l : List Int) (R : Rd) (v v' : Value) (h : RdL R low l v) (h' : RdL R low l v') (hb : l.length < 4611686018427387904) : GivesR Try.prog 45 #[v, v'] R (.bool true) := by
  obtain ⟨s, rfl, h⟩ := h
  obtain ⟨s', rfl, h'⟩ := h'
  have he := eqInt64S_c l R s s' h h' hb
  obtain ⟨a, m, cap, rfl, hm, _⟩ := id h
  obtain ⟨a', m', cap', rfl, hm', _⟩ := id h'
  refine GivesR.of (callable_of Try.func45 rfl (by decide)) fun w hR => ?_
  refine acall_of (N := 16) (c := _) (rs := [.tmp 4]) (args := [_, _]) Try.func45 rfl (by decide) rfl rfl (Nat.le_of_ble_eq_true rfl) ?_
  refine Cd.rs [2, 3] fun K hK => ?_
  simp (maxSteps := 2000000) (disch := first | (simp only [E4] <;> omega) | omega | fail) only [↓E2, E3, bare, bareJ, ↓E0, E1, evP, evPlan, env0, envN, evOps, evOp, evQs, evQ, evV, setD, pureOp, ev, upd, updL, gate, binW, eqOp, binV, intOp, shOp, boolOp, unV, convV, nilV, fieldAddrV, indexAddrV, extractV, cellAt, cellsAt, findB, setB, fillL, buildV, Value.cells, lenV, minV, maxV, hav, sliceV, loV, hiV, bslQ, mksQ, appQ, partsOk, partsCells, delB, eqL, SameI, strOp, apzQ, cvtQ, capV, ↓reduceIte, Zj, Zk, Nat.reduceAdd, Nat.reduceLT, Nat.reduceEqDiff, Nat.reduceMul, Nat.reduceLeDiff, if_true, Zn, reduceCtorEq, ZA, eq_self, Int.reduceLE, Int.reduceLT, Int.reduceToNat, ne_eq, Nat.reduceSub]
  repeat refine And.intro (by omega) ?_
  intro b1 hb1
  intro b2 hb2
  have nb2_b1 := hb2.ne
  try simp (maxSteps := 2000000) (disch := first | (simp only [E4, nb2_b1] <;> omega) | omega | fail) only [↓E2, E3, bare, bareJ, ↓E0, E1, evP, evPlan, env0, envN, evOps, evOp, evQs, evQ, evV, setD, pureOp, ev, upd, updL, gate, binW, eqOp, binV, intOp, shOp, boolOp, unV, convV, nilV, fieldAddrV, indexAddrV, extractV, cellAt, cellsAt, findB, setB, fillL, buildV, Value.cells, lenV, minV, maxV, hav, sliceV, loV, hiV, bslQ, mksQ, appQ, partsOk, partsCells, delB, eqL, SameI, strOp, apzQ, cvtQ, capV, ↓reduceIte, Zj, Zk, Nat.reduceAdd, Nat.reduceLT, Nat.reduceEqDiff, Nat.reduceMul, Nat.reduceLeDiff, if_true, Zn, reduceCtorEq, ZA, eq_self, Int.reduceLE, Int.reduceLT, Int.reduceToNat, ne_eq, Nat.reduceSub, nb2_b1]
  repeat refine And.intro (by omega) ?_
  repeat refine And.intro (by omega) ?_
  intro g
  simp only [List.map_cons, List.map_nil, updL, upd, Nat.reduceEqDiff, if_true, if_false, ↓reduceIte]
  refine hK _ _ ?_; clear hK K
  refine Cd.seq ?_
  refine Cd.rs [2, 3, 9] fun K hK => ?_
  simp (maxSteps := 2000000) (disch := first | (simp only [E4, nb2_b1] <;> omega) | omega | fail) only [↓E2, E3, bare, bareJ, ↓E0, E1, evP, evPlan, env0, envN, evOps, evOp, evQs, evQ, evV, setD, pureOp, ev, upd, updL, gate, binW, eqOp, binV, intOp, shOp, boolOp, unV, convV, nilV, fieldAddrV, indexAddrV, extractV, cellAt, cellsAt, findB, setB, fillL, buildV, Value.cells, lenV, minV, maxV, hav, sliceV, loV, hiV, bslQ, mksQ, appQ, partsOk, partsCells, delB, eqL, SameI, strOp, apzQ, cvtQ, capV, ↓reduceIte, Zj, Zk, Nat.reduceAdd, Nat.reduceLT, Nat.reduceEqDiff, Nat.reduceMul, Nat.reduceLeDiff, if_true, Zn, reduceCtorEq, ZA, eq_self, Int.reduceLE, Int.reduceLT, Int.reduceToNat, ne_eq, Nat.reduceSub, Tfld56_0, Tld2, nb2_b1]
  repeat refine And.intro (by omega) ?_
  repeat refine And.intro (by omega) ?_
  intro g
  simp only [List.map_cons, List.map_nil, updL, upd, Nat.reduceEqDiff, if_true, if_false, ↓reduceIte]
  refine hK _ _ ?_; clear hK K
  refine Cd.no rfl ?_
  refine Cd.skip ?_
  refine thenN ?_
  refine Cd.seq ?_
  refine Cd.rs [15] fun K hK => ?_
  simp (maxSteps := 2000000) (disch := first | (simp only [E4, nb2_b1] <;> omega) | omega | fail) only [↓E2, E3, bare, bareJ, ↓E0, E1, evP, evPlan, env0, envN, evOps, evOp, evQs, evQ, evV, setD, pureOp, ev, upd, updL, gate, binW, eqOp, binV, intOp, shOp, boolOp, unV, convV, nilV, fieldAddrV, indexAddrV, extractV, cellAt, cellsAt, findB, setB, fillL, buildV, Value.cells, lenV, minV, maxV, hav, sliceV, loV, hiV, bslQ, mksQ, appQ, partsOk, partsCells, delB, eqL, SameI, strOp, apzQ, cvtQ, capV, ↓reduceIte, Zj, Zk, Nat.reduceAdd, Nat.reduceLT, Nat.reduceEqDiff, Nat.reduceMul, Nat.reduceLeDiff, if_true, Zn, reduceCtorEq, ZA, eq_self, Int.reduceLE, Int.reduceLT, Int.reduceToNat, ne_eq, Nat.reduceSub, Tfld56_1, Tld47, nb2_b1]
  repeat refine And.intro (by omega) ?_
  refine callK_told0 he hR ?_
  simp (maxSteps := 2000000) (disch := first | (simp only [E4, nb2_b1] <;> omega) | omega | fail) only [↓E2, E3, bare, bareJ, ↓E0, E1, evP, evPlan, env0, envN, evOps, evOp, evQs, evQ, evV, setD, pureOp, ev, upd, updL, gate, binW, eqOp, binV, intOp, shOp, boolOp, unV, convV, nilV, fieldAddrV, indexAddrV, extractV, cellAt, cellsAt, findB, setB, fillL, buildV, Value.cells, lenV, minV, maxV, hav, sliceV, loV, hiV, bslQ, mksQ, appQ, partsOk, partsCells, delB, eqL, SameI, strOp, apzQ, cvtQ, capV, ↓reduceIte, Zj, Zk, Nat.reduceAdd, Nat.reduceLT, Nat.reduceEqDiff, Nat.reduceMul, Nat.reduceLeDiff, if_true, Zn, reduceCtorEq, ZA, eq_self, Int.reduceLE, Int.reduceLT, Int.reduceToNat, ne_eq, Nat.reduceSub, Tfld56_1, Tld47, nb2_b1]
  repeat refine And.intro (by omega) ?_
  repeat refine And.intro (by omega) ?_
  intro g
  simp only [List.map_cons, List.map_nil, updL, upd, Nat.reduceEqDiff, if_true, if_false, ↓reduceIte]
  refine hK _ _ ?_; clear hK K
  refine Cd.no rfl ?_
  refine Cd.skip ?_
  refine thenN ?_
  refine Cd.rs [4] fun K hK => ?_
  simp (maxSteps := 2000000) (disch := first | (simp only [E4, nb2_b1] <;> omega) | omega | fail) only [↓E2, E3, bare, bareJ, ↓E0, E1, evP, evPlan, env0, envN, evOps, evOp, evQs, evQ, evV, setD, pureOp, ev, upd, updL, gate, binW, eqOp, binV, intOp, shOp, boolOp, unV, convV, nilV, fieldAddrV, indexAddrV, extractV, cellAt, cellsAt, findB, setB, fillL, buildV, Value.cells, lenV, minV, maxV, hav, sliceV, loV, hiV, bslQ, mksQ, appQ, partsOk, partsCells, delB, eqL, SameI, strOp, apzQ, cvtQ, capV, ↓reduceIte, Zj, Zk, Nat.reduceAdd, Nat.reduceLT, Nat.reduceEqDiff, Nat.reduceMul, Nat.reduceLeDiff, if_true, Zn, reduceCtorEq, ZA, eq_self, Int.reduceLE, Int.reduceLT, Int.reduceToNat, ne_eq, Nat.reduceSub, nb2_b1]
  repeat refine And.intro (by omega) ?_
  repeat refine And.intro (by omega) ?_
  intro g
  simp only [List.map_cons, List.map_nil, updL, upd, Nat.reduceEqDiff, if_true, if_false, ↓reduceIte]
  refine hK _ _ ?_; clear hK K
  refine Cd.ret ?_
  simp (maxSteps := 2000000) (disch := first | (simp only [E4, nb2_b1] <;> omega) | omega | fail) only [↓E2, E3, bare, bareJ, ↓E0, E1, evP, evPlan, env0, envN, evOps, evOp, evQs, evQ, evV, setD, pureOp, ev, upd, updL, gate, binW, eqOp, binV, intOp, shOp, boolOp, unV, convV, nilV, fieldAddrV, indexAddrV, extractV, cellAt, cellsAt, findB, setB, fillL, buildV, Value.cells, lenV, minV, maxV, hav, sliceV, loV, hiV, bslQ, mksQ, appQ, partsOk, partsCells, delB, eqL, SameI, strOp, apzQ, cvtQ, capV, ↓reduceIte, Zj, Zk, Nat.reduceAdd, Nat.reduceLT, Nat.reduceEqDiff, Nat.reduceMul, Nat.reduceLeDiff, if_true, Zn, reduceCtorEq, ZA, eq_self, Int.reduceLE, Int.reduceLT, Int.reduceToNat, ne_eq, Nat.reduceSub, nb2_b1]
  repeat refine And.intro (by omega) ?_
theorem markLaurent_c (low : Int) (l : List Int) (v : Value) (L : Blks) (h : LauV low l v L) (k : Nat) (hb : k + l.length < 4611686018427387904) :
    GivesX Try.prog 46 #[v, .int .i64 (k : Int)] L [] (fun r M' => r = .int .i64 ((k + l.length : Nat) : Int) ∧ LauV low (upK k l.length) v M') := by
  obtain ⟨s, rfl, h⟩ := h
  have hk := markInt64S_c l s L h k hb
  obtain ⟨a, m, cap, rfl⟩ := h.form
  refine GivesX.of (callable_of Try.func46 rfl (by decide)) ?_ fun w hnd hlt hR => ?_
  · simp
  refine acall_of (N := 10) (c := _) (rs := [.tmp 4]) (args := [_, _]) Try.func46 rfl (by decide) rfl rfl (Nat.le_of_ble_eq_true rfl) ?_
  refine Cd.rs [1, 2] fun K hK => ?_
  simp (maxSteps := 2000000) (disch := first | (simp only [E4] <;> omega) | omega | fail) only [↓E2, E3, bare, bareJ, ↓E0, E1, evP, evPlan, env0, envN, evOps, evOp, evQs, evQ, evV, setD, pureOp, ev, upd, updL, gate, binW, eqOp, binV, intOp, shOp, boolOp, unV, convV, nilV, fieldAddrV, indexAddrV, extractV, cellAt, cellsAt, findB, setB, fillL, buildV, Value.cells, lenV, minV, maxV, hav, sliceV, loV, hiV, bslQ, mksQ, appQ, partsOk, partsCells, delB, eqL, SameI, strOp, apzQ, cvtQ, capV, ↓reduceIte, Zj, Zk, Nat.reduceAdd, Nat.reduceLT, Nat.reduceEqDiff, Nat.reduceMul, Nat.reduceLeDiff, if_true, Zn, reduceCtorEq, ZA, eq_self, Int.reduceLE, Int.reduceLT, Int.reduceToNat, ne_eq, Nat.reduceSub]
  repeat refine And.intro (by omega) ?_
  intro b1 hb1
  try simp (maxSteps := 2000000) (disch := first | (simp only [E4] <;> omega) | omega | fail) only [↓E2, E3, bare, bareJ, ↓E0, E1, evP, evPlan, env0, envN, evOps, evOp, evQs, evQ, evV, setD, pureOp, ev, upd, updL, gate, binW, eqOp, binV, intOp, shOp, boolOp, unV, convV, nilV, fieldAddrV, indexAddrV, extractV, cellAt, cellsAt, findB, setB, fillL, buildV, Value.cells, lenV, minV, maxV, hav, sliceV, loV, hiV, bslQ, mksQ, appQ, partsOk, partsCells, delB, eqL, SameI, strOp, apzQ, cvtQ, capV, ↓reduceIte, Zj, Zk, Nat.reduceAdd, Nat.reduceLT, Nat.reduceEqDiff, Nat.reduceMul, Nat.reduceLeDiff, if_true, Zn, reduceCtorEq, ZA, eq_self, Int.reduceLE, Int.reduceLT, Int.reduceToNat, ne_eq, Nat.reduceSub]
  repeat refine And.intro (by omega) ?_
  repeat refine And.intro (by omega) ?_
  intro g
  simp only [List.map_cons, List.map_nil, updL, upd, Nat.reduceEqDiff, if_true, if_false, ↓reduceIte]
  refine hK _ _ ?_; clear hK K
  refine Cd.nodup fun hnd => ?_
  refine Cd.rs [1] fun K hK => ?_
  simp (maxSteps := 2000000) (disch := first | (simp only [E4] <;> omega) | omega | fail) only [↓E2, E3, bare, bareJ, ↓E0, E1, evP, evPlan, env0, envN, evOps, evOp, evQs, evQ, evV, setD, pureOp, ev, upd, updL, gate, binW, eqOp, binV, intOp, shOp, boolOp, unV, convV, nilV, fieldAddrV, indexAddrV, extractV, cellAt, cellsAt, findB, setB, fillL, buildV, Value.cells, lenV, minV, maxV, hav, sliceV, loV, hiV, bslQ, mksQ, appQ, partsOk, partsCells, delB, eqL, SameI, strOp, apzQ, cvtQ, capV, ↓reduceIte, Zj, Zk, Nat.reduceAdd, Nat.reduceLT, Nat.reduceEqDiff, Nat.reduceMul, Nat.reduceLeDiff, if_true, Zn, reduceCtorEq, ZA, eq_self, Int.reduceLE, Int.reduceLT, Int.reduceToNat, ne_eq, Nat.reduceSub, Tfld56_1, Tld47]
  repeat refine And.intro (by omega) ?_
  refine callK_lent0 hk (nodup_cases hnd).2 (fun p hp => List.mem_cons_of_mem _ hp) (Mr := [(b1, [.int .i64 low, .slice a m cap])]) (List.Sublist.cons_cons _ (List.nil_sublist _)) (fun p hp => ?_) (fun _ _ => toldW_nil) ?_
  · rw [List.mem_singleton.1 hp]
    simp only [List.map_cons, List.nodup_cons] at hnd
    exact hnd.1
  rintro v' M' ⟨rfl, hv'⟩ _ _
  simp (maxSteps := 2000000) (disch := first | (simp only [E4] <;> omega) | omega | fail) only [↓E2, E3, bare, bareJ, ↓E0, E1, evP, evPlan, env0, envN, evOps, evOp, evQs, evQ, evV, setD, pureOp, ev, upd, updL, gate, binW, eqOp, binV, intOp, shOp, boolOp, unV, convV, nilV, fieldAddrV, indexAddrV, extractV, cellAt, cellsAt, findB, setB, fillL, buildV, Value.cells, lenV, minV, maxV, hav, sliceV, loV, hiV, bslQ, mksQ, appQ, partsOk, partsCells, delB, eqL, SameI, strOp, apzQ, cvtQ, capV, ↓reduceIte, Zj, Zk, Nat.reduceAdd, Nat.reduceLT, Nat.reduceEqDiff, Nat.reduceMul, Nat.reduceLeDiff, if_true, Zn, reduceCtorEq, ZA, eq_self, Int.reduceLE, Int.reduceLT, Int.reduceToNat, ne_eq, Nat.reduceSub, Tfld56_1, Tld47]
  repeat refine And.intro (by omega) ?_
  repeat refine And.intro (by omega) ?_
  intro g
  simp only [List.map_cons, List.map_nil, updL, upd, Nat.reduceEqDiff, if_true, if_false, ↓reduceIte]
  refine hK _ _ ?_; clear hK K
  refine Cd.drop (List.sublist_append_left _ _) ?_
  refine Cd.rs [4] fun K hK => ?_
  simp (maxSteps := 2000000) (disch := first | (simp only [E4] <;> omega) | omega | fail) only [↓E2, E3, bare, bareJ, ↓E0, E1, evP, evPlan, env0, envN, evOps, evOp, evQs, evQ, evV, setD, pureOp, ev, upd, updL, gate, binW, eqOp, binV, intOp, shOp, boolOp, unV, convV, nilV, fieldAddrV, indexAddrV, extractV, cellAt, cellsAt, findB, setB, fillL, buildV, Value.cells, lenV, minV, maxV, hav, sliceV, loV, hiV, bslQ, mksQ, appQ, partsOk, partsCells, delB, eqL, SameI, strOp, apzQ, cvtQ, capV, ↓reduceIte, Zj, Zk, Nat.reduceAdd, Nat.reduceLT, Nat.reduceEqDiff, Nat.reduceMul, Nat.reduceLeDiff, if_true, Zn, reduceCtorEq, ZA, eq_self, Int.reduceLE, Int.reduceLT, Int.reduceToNat, ne_eq, Nat.reduceSub]
  repeat refine And.intro (by omega) ?_
  repeat refine And.intro (by omega) ?_
  intro g
  simp only [List.map_cons, List.map_nil, updL, upd, Nat.reduceEqDiff, if_true, if_false, ↓reduceIte]
  refine hK _ _ ?_; clear hK K
  refine Cd.ret ?_
  simp (maxSteps := 2000000) (disch := first | (simp only [E4] <;> omega) | omega | fail) only [↓E2, E3, bare, bareJ, ↓E0, E1, evP, evPlan, env0, envN, evOps, evOp, evQs, evQ, evV, setD, pureOp, ev, upd, updL, gate, binW, eqOp, binV, intOp, shOp, boolOp, unV, convV, nilV, fieldAddrV, indexAddrV, extractV, cellAt, cellsAt, findB, setB, fillL, buildV, Value.cells, lenV, minV, maxV, hav, sliceV, loV, hiV, bslQ, mksQ, appQ, partsOk, partsCells, delB, eqL, SameI, strOp, apzQ, cvtQ, capV, ↓reduceIte, Zj, Zk, Nat.reduceAdd, Nat.reduceLT, Nat.reduceEqDiff, Nat.reduceMul, Nat.reduceLeDiff, if_true, Zn, reduceCtorEq, ZA, eq_self, Int.reduceLE, Int.reduceLT, Int.reduceToNat, ne_eq, Nat.reduceSub]
  repeat refine And.intro (by omega) ?_
  exact ⟨_, rfl, hv'⟩
theorem heldLaurent_c (low : Int) (n k : Nat) (v : Value) (R : Rd) (h : RdL R low (upK k n) v) (hb : k + n < 4611686018427387904) :
    GivesR Try.prog 47 #[v, .int .i64 (k : Int)] R (.int .i64 ((k + n : Nat) : Int)) := by
  obtain ⟨s, rfl, h⟩ := h
  have he := heldInt64S_c n k s R h hb
  obtain ⟨a, m, cap, rfl, hm, _⟩ := id h
  refine GivesR.of (callable_of Try.func47 rfl (by decide)) fun w hR => ?_
  refine acall_of (N := 12) (c := _) (rs := [.tmp 4]) (args := [_, _]) Try.func47 rfl (by decide) rfl rfl (Nat.le_of_ble_eq_true rfl) ?_
  refine Cd.rs [1, 2] fun K hK => ?_
  simp (maxSteps := 2000000) (disch := first | (simp only [E4] <;> omega) | omega | fail) only [↓E2, E3, bare, bareJ, ↓E0, E1, evP, evPlan, env0, envN, evOps, evOp, evQs, evQ, evV, setD, pureOp, ev, upd, updL, gate, binW, eqOp, binV, intOp, shOp, boolOp, unV, convV, nilV, fieldAddrV, indexAddrV, extractV, cellAt, cellsAt, findB, setB, fillL, buildV, Value.cells, lenV, minV, maxV, hav, sliceV, loV, hiV, bslQ, mksQ, appQ, partsOk, partsCells, delB, eqL, SameI, strOp, apzQ, cvtQ, capV, ↓reduceIte, Zj, Zk, Nat.reduceAdd, Nat.reduceLT, Nat.reduceEqDiff, Nat.reduceMul, Nat.reduceLeDiff, if_true, Zn, reduceCtorEq, ZA, eq_self, Int.reduceLE, Int.reduceLT, Int.reduceToNat, ne_eq, Nat.reduceSub]
  repeat refine And.intro (by omega) ?_
  intro b1 hb1
  try simp (maxSteps := 2000000) (disch := first | (simp only [E4] <;> omega) | omega | fail) only [↓E2, E3, bare, bareJ, ↓E0, E1, evP, evPlan, env0, envN, evOps, evOp, evQs, evQ, evV, setD, pureOp, ev, upd, updL, gate, binW, eqOp, binV, intOp, shOp, boolOp, unV, convV, nilV, fieldAddrV, indexAddrV, extractV, cellAt, cellsAt, findB, setB, fillL, buildV, Value.cells, lenV, minV, maxV, hav, sliceV, loV, hiV, bslQ, mksQ, appQ, partsOk, partsCells, delB, eqL, SameI, strOp, apzQ, cvtQ, capV, ↓reduceIte, Zj, Zk, Nat.reduceAdd, Nat.reduceLT, Nat.reduceEqDiff, Nat.reduceMul, Nat.reduceLeDiff, if_true, Zn, reduceCtorEq, ZA, eq_self, Int.reduceLE, Int.reduceLT, Int.reduceToNat, ne_eq, Nat.reduceSub]
  repeat refine And.intro (by omega) ?_
  repeat refine And.intro (by omega) ?_
  intro g
  simp only [List.map_cons, List.map_nil, updL, upd, Nat.reduceEqDiff, if_true, if_false, ↓reduceIte]
  refine hK _ _ ?_; clear hK K
  refine Cd.rs [1] fun K hK => ?_
  simp (maxSteps := 2000000) (disch := first | (simp only [E4] <;> omega) | omega | fail) only [↓E2, E3, bare, bareJ, ↓E0, E1, evP, evPlan, env0, envN, evOps, evOp, evQs, evQ, evV, setD, pureOp, ev, upd, updL, gate, binW, eqOp, binV, intOp, shOp, boolOp, unV, convV, nilV, fieldAddrV, indexAddrV, extractV, cellAt, cellsAt, findB, setB, fillL, buildV, Value.cells, lenV, minV, maxV, hav, sliceV, loV, hiV, bslQ, mksQ, appQ, partsOk, partsCells, delB, eqL, SameI, strOp, apzQ, cvtQ, capV, ↓reduceIte, Zj, Zk, Nat.reduceAdd, Nat.reduceLT, Nat.reduceEqDiff, Nat.reduceMul, Nat.reduceLeDiff, if_true, Zn, reduceCtorEq, ZA, eq_self, Int.reduceLE, Int.reduceLT, Int.reduceToNat, ne_eq, Nat.reduceSub, Tfld56_1, Tld47]
  repeat refine And.intro (by omega) ?_
  refine callK_told0 he hR ?_
  simp (maxSteps := 2000000) (disch := first | (simp only [E4] <;> omega) | omega | fail) only [↓E2, E3, bare, bareJ, ↓E0, E1, evP, evPlan, env0, envN, evOps, evOp, evQs, evQ, evV, setD, pureOp, ev, upd, updL, gate, binW, eqOp, binV, intOp, shOp, boolOp, unV, convV, nilV, fieldAddrV, indexAddrV, extractV, cellAt, cellsAt, findB, setB, fillL, buildV, Value.cells, lenV, minV, maxV, hav, sliceV, loV, hiV, bslQ, mksQ, appQ, partsOk, partsCells, delB, eqL, SameI, strOp, apzQ, cvtQ, capV, ↓reduceIte, Zj, Zk, Nat.reduceAdd, Nat.reduceLT, Nat.reduceEqDiff, Nat.reduceMul, Nat.reduceLeDiff, if_true, Zn, reduceCtorEq, ZA, eq_self, Int.reduceLE, Int.reduceLT, Int.reduceToNat, ne_eq, Nat.reduceSub, Tfld56_1, Tld47]
  repeat refine And.intro (by omega) ?_
  repeat refine And.intro (by omega) ?_
  intro g
  simp only [List.map_cons, List.map_nil, updL, upd, Nat.reduceEqDiff, if_true, if_false, ↓reduceIte]
  refine hK _ _ ?_; clear hK K
  refine Cd.seq ?_
  refine Cd.rs [1, 10] fun K hK => ?_
  simp (maxSteps := 2000000) (disch := first | (simp only [E4] <;> omega) | omega | fail) only [↓E2, E3, bare, bareJ, ↓E0, E1, evP, evPlan, env0, envN, evOps, evOp, evQs, evQ, evV, setD, pureOp, ev, upd, updL, gate, binW, eqOp, binV, intOp, shOp, boolOp, unV, convV, nilV, fieldAddrV, indexAddrV, extractV, cellAt, cellsAt, findB, setB, fillL, buildV, Value.cells, lenV, minV, maxV, hav, sliceV, loV, hiV, bslQ, mksQ, appQ, partsOk, partsCells, delB, eqL, SameI, strOp, apzQ, cvtQ, capV, ↓reduceIte, Zj, Zk, Nat.reduceAdd, Nat.reduceLT, Nat.reduceEqDiff, Nat.reduceMul, Nat.reduceLeDiff, if_true, Zn, reduceCtorEq, ZA, eq_self, Int.reduceLE, Int.reduceLT, Int.reduceToNat, ne_eq, Nat.reduceSub]
  repeat refine And.intro (by omega) ?_
  repeat refine And.intro (by omega) ?_
  intro g
  simp only [List.map_cons, List.map_nil, updL, upd, Nat.reduceEqDiff, if_true, if_false, ↓reduceIte]
  refine hK _ _ ?_; clear hK K
  refine Cd.condd rfl (fun h1 => absurd h1 (by omega)) (fun h1 => ?_)
  refine Cd.skip ?_
  refine thenN ?_
  refine Cd.rs [4] fun K hK => ?_
  simp (maxSteps := 2000000) (disch := first | (simp only [E4] <;> omega) | omega | fail) only [↓E2, E3, bare, bareJ, ↓E0, E1, evP, evPlan, env0, envN, evOps, evOp, evQs, evQ, evV, setD, pureOp, ev, upd, updL, gate, binW, eqOp, binV, intOp, shOp, boolOp, unV, convV, nilV, fieldAddrV, indexAddrV, extractV, cellAt, cellsAt, findB, setB, fillL, buildV, Value.cells, lenV, minV, maxV, hav, sliceV, loV, hiV, bslQ, mksQ, appQ, partsOk, partsCells, delB, eqL, SameI, strOp, apzQ, cvtQ, capV, ↓reduceIte, Zj, Zk, Nat.reduceAdd, Nat.reduceLT, Nat.reduceEqDiff, Nat.reduceMul, Nat.reduceLeDiff, if_true, Zn, reduceCtorEq, ZA, eq_self, Int.reduceLE, Int.reduceLT, Int.reduceToNat, ne_eq, Nat.reduceSub]
  repeat refine And.intro (by omega) ?_
  repeat refine And.intro (by omega) ?_
  intro g
  simp only [List.map_cons, List.map_nil, updL, upd, Nat.reduceEqDiff, if_true, if_false, ↓reduceIte]
  refine hK _ _ ?_; clear hK K
  refine Cd.ret ?_
  simp (maxSteps := 2000000) (disch := first | (simp only [E4] <;> omega) | omega | fail) only [↓E2, E3, bare, bareJ, ↓E0, E1, evP, evPlan, env0, envN, evOps, evOp, evQs, evQ, evV, setD, pureOp, ev, upd, updL, gate, binW, eqOp, binV, intOp, shOp, boolOp, unV, convV, nilV, fieldAddrV, indexAddrV, extractV, cellAt, cellsAt, findB, setB, fillL, buildV, Value.cells, lenV, minV, maxV, hav, sliceV, loV, hiV, bslQ, mksQ, appQ, partsOk, partsCells, delB, eqL, SameI, strOp, apzQ, cvtQ, capV, ↓reduceIte, Zj, Zk, Nat.reduceAdd, Nat.reduceLT, Nat.reduceEqDiff, Nat.reduceMul, Nat.reduceLeDiff, if_true, Zn, reduceCtorEq, ZA, eq_self, Int.reduceLE, Int.reduceLT, Int.reduceToNat, ne_eq, Nat.reduceSub]
  repeat refine And.intro (by omega) ?_

end Go.Proofs

/-
  What the functions of this part hand back: each as a plain function of its arguments. Conditions: none.
-/
namespace Go.Proofs
open Go.W8
set_option linter.unusedVariables false
set_option linter.unusedSimpArgs false
set_option linter.unusedSectionVars false
set_option maxRecDepth 8000
set_option maxHeartbeats 4000000
/-- A number of a row that is told. -/
theorem rd_int {W : List Nat} {w0 : World} {R : Rd} {m cap k : Nat} {l : List Int} {a : Option Addr} (h : RdS R 1 (ints .i64 l) (.slice a m cap)) (ht : W8.Told W w0 R) (hk : k < l.length) : ∃ b, a = some ⟨b, 0, none⟩ ∧ frn W w0 b k = some (.int .i64 (l.getD k 0)) := h.get ht (ints_get hk)
theorem lauLen {l : List Int} {m : Nat} (h : (ints .i64 l).length = m * 1) : m = l.length := by
  rw [ints_length] at h; omega

theorem l04Is_c (low : Int) (l : List Int) (R : Rd) (v : Value) (h : RdS R 1 (ints .i64 l) v) (hb : l.length < 4611686018427387904) (hw : -9223372036854775808 ≤ low ∧ low < 9223372036854775808) :
    GivesR Try.prog 121 #[.agg #[.int .i64 low, v]] R (.bool (lauOk low l)) := by
  obtain ⟨a, m, cap, rfl, hm, _⟩ := id h
  obtain rfl := lauLen hm
  refine GivesR.of (callable_of Try.func121 rfl (by decide)) fun w hR => ?_
  refine acall_of (N := 57) (c := _) (rs := [.tmp 2]) (args := [_]) Try.func121 rfl (by decide) rfl rfl (Nat.le_of_ble_eq_true rfl) ?_
  refine Cd.rs [1] fun K hK => ?_
  simp (maxSteps := 2000000) (disch := first | (simp only [E4] <;> omega) | omega | fail) only [↓E2, E3, bare, bareJ, ↓E0, E1, evP, evPlan, env0, envN, evOps, evOp, evQs, evQ, evV, setD, pureOp, ev, upd, updL, gate, binW, eqOp, binV, intOp, shOp, boolOp, unV, convV, nilV, fieldAddrV, indexAddrV, extractV, cellAt, cellsAt, findB, setB, fillL, buildV, Value.cells, lenV, minV, maxV, hav, sliceV, loV, hiV, bslQ, mksQ, appQ, partsOk, partsCells, delB, eqL, SameI, strOp, apzQ, cvtQ, capV, ↓reduceIte, Zj, Zk, Nat.reduceAdd, Nat.reduceLT, Nat.reduceEqDiff, Nat.reduceMul, Nat.reduceLeDiff, if_true, Zn, reduceCtorEq, ZA, eq_self, Int.reduceLE, Int.reduceLT, Int.reduceToNat, ne_eq, Nat.reduceSub]
  repeat refine And.intro (by omega) ?_
  intro b1 hb1
  try simp (maxSteps := 2000000) (disch := first | (simp only [E4] <;> omega) | omega | fail) only [↓E2, E3, bare, bareJ, ↓E0, E1, evP, evPlan, env0, envN, evOps, evOp, evQs, evQ, evV, setD, pureOp, ev, upd, updL, gate, binW, eqOp, binV, intOp, shOp, boolOp, unV, convV, nilV, fieldAddrV, indexAddrV, extractV, cellAt, cellsAt, findB, setB, fillL, buildV, Value.cells, lenV, minV, maxV, hav, sliceV, loV, hiV, bslQ, mksQ, appQ, partsOk, partsCells, delB, eqL, SameI, strOp, apzQ, cvtQ, capV, ↓reduceIte, Zj, Zk, Nat.reduceAdd, Nat.reduceLT, Nat.reduceEqDiff, Nat.reduceMul, Nat.reduceLeDiff, if_true, Zn, reduceCtorEq, ZA, eq_self, Int.reduceLE, Int.reduceLT, Int.reduceToNat, ne_eq, Nat.reduceSub]
  repeat refine And.intro (by omega) ?_
  repeat refine And.intro (by omega) ?_
  intro g
  simp only [List.map_cons, List.map_nil, updL, upd, Nat.reduceEqDiff, if_true, if_false, ↓reduceIte]
  refine hK _ _ ?_; clear hK K
  refine Cd.rs [1, 3] fun K hK => ?_
  simp (maxSteps := 2000000) (disch := first | (simp only [E4] <;> omega) | omega | fail) only [↓E2, E3, bare, bareJ, ↓E0, E1, evP, evPlan, env0, envN, evOps, evOp, evQs, evQ, evV, setD, pureOp, ev, upd, updL, gate, binW, eqOp, binV, intOp, shOp, boolOp, unV, convV, nilV, fieldAddrV, indexAddrV, extractV, cellAt, cellsAt, findB, setB, fillL, buildV, Value.cells, lenV, minV, maxV, hav, sliceV, loV, hiV, bslQ, mksQ, appQ, partsOk, partsCells, delB, eqL, SameI, strOp, apzQ, cvtQ, capV, ↓reduceIte, Zj, Zk, Nat.reduceAdd, Nat.reduceLT, Nat.reduceEqDiff, Nat.reduceMul, Nat.reduceLeDiff, if_true, Zn, reduceCtorEq, ZA, eq_self, Int.reduceLE, Int.reduceLT, Int.reduceToNat, ne_eq, Nat.reduceSub, Tfld56_1, Tld47, Tslce47]
  repeat refine And.intro (by omega) ?_
  repeat refine And.intro (by omega) ?_
  intro g
  simp only [List.map_cons, List.map_nil, updL, upd, Nat.reduceEqDiff, if_true, if_false, ↓reduceIte]
  refine hK _ _ ?_; clear hK K
  refine Cd.seq ?_
  refine Cd.rs [1, 3, 9] fun K hK => ?_
  simp (maxSteps := 2000000) (disch := first | (simp only [E4] <;> omega) | omega | fail) only [↓E2, E3, bare, bareJ, ↓E0, E1, evP, evPlan, env0, envN, evOps, evOp, evQs, evQ, evV, setD, pureOp, ev, upd, updL, gate, binW, eqOp, binV, intOp, shOp, boolOp, unV, convV, nilV, fieldAddrV, indexAddrV, extractV, cellAt, cellsAt, findB, setB, fillL, buildV, Value.cells, lenV, minV, maxV, hav, sliceV, loV, hiV, bslQ, mksQ, appQ, partsOk, partsCells, delB, eqL, SameI, strOp, apzQ, cvtQ, capV, ↓reduceIte, Zj, Zk, Nat.reduceAdd, Nat.reduceLT, Nat.reduceEqDiff, Nat.reduceMul, Nat.reduceLeDiff, if_true, Zn, reduceCtorEq, ZA, eq_self, Int.reduceLE, Int.reduceLT, Int.reduceToNat, ne_eq, Nat.reduceSub]
  repeat refine And.intro (by omega) ?_
  repeat refine And.intro (by omega) ?_
  intro g
  simp only [List.map_cons, List.map_nil, updL, upd, Nat.reduceEqDiff, if_true, if_false, ↓reduceIte]
  refine hK _ _ ?_; clear hK K
  refine Cd.cond rfl (fun h1 => ?_) (fun h1 => ?_)
  · simp only [decide_eq_true_eq, decide_eq_false_iff_not, beq_iff_eq, beq_eq_false_iff_ne, bne_iff_ne, bne_eq_false_iff_eq, Bool.and_eq_true, Bool.or_eq_true, Bool.or_eq_false_iff, Bool.not_eq_true', Bool.not_eq_false', Bool.and_eq_false_imp, ne_eq, gt_iff_lt, ge_iff_le, Int.not_lt, Int.not_le, Classical.not_not] at h1
    refine Cd.rs [2] fun K hK => ?_
    simp (maxSteps := 2000000) (disch := first | (simp only [E4] <;> omega) | omega | fail) only [↓E2, E3, bare, bareJ, ↓E0, E1, evP, evPlan, env0, envN, evOps, evOp, evQs, evQ, evV, setD, pureOp, ev, upd, updL, gate, binW, eqOp, binV, intOp, shOp, boolOp, unV, convV, nilV, fieldAddrV, indexAddrV, extractV, cellAt, cellsAt, findB, setB, fillL, buildV, Value.cells, lenV, minV, maxV, hav, sliceV, loV, hiV, bslQ, mksQ, appQ, partsOk, partsCells, delB, eqL, SameI, strOp, apzQ, cvtQ, capV, ↓reduceIte, Zj, Zk, Nat.reduceAdd, Nat.reduceLT, Nat.reduceEqDiff, Nat.reduceMul, Nat.reduceLeDiff, if_true, Zn, reduceCtorEq, ZA, eq_self, Int.reduceLE, Int.reduceLT, Int.reduceToNat, ne_eq, Nat.reduceSub, Tfld56_0, Tld2]
    repeat refine And.intro (by omega) ?_
    repeat refine And.intro (by omega) ?_
    intro g
    simp only [List.map_cons, List.map_nil, updL, upd, Nat.reduceEqDiff, if_true, if_false, ↓reduceIte]
    refine hK _ _ ?_; clear hK K
    refine Cd.ret (thenR ?_)
    simp (maxSteps := 2000000) (disch := first | (simp only [E4] <;> omega) | omega | fail) only [↓E2, E3, bare, bareJ, ↓E0, E1, evP, evPlan, env0, envN, evOps, evOp, evQs, evQ, evV, setD, pureOp, ev, upd, updL, gate, binW, eqOp, binV, intOp, shOp, boolOp, unV, convV, nilV, fieldAddrV, indexAddrV, extractV, cellAt, cellsAt, findB, setB, fillL, buildV, Value.cells, lenV, minV, maxV, hav, sliceV, loV, hiV, bslQ, mksQ, appQ, partsOk, partsCells, delB, eqL, SameI, strOp, apzQ, cvtQ, capV, ↓reduceIte, Zj, Zk, Nat.reduceAdd, Nat.reduceLT, Nat.reduceEqDiff, Nat.reduceMul, Nat.reduceLeDiff, if_true, Zn, reduceCtorEq, ZA, eq_self, Int.reduceLE, Int.reduceLT, Int.reduceToNat, ne_eq, Nat.reduceSub]
    repeat refine And.intro (by omega) ?_
    rw [lauOk_zero (by omega)]
    congr 1
  · simp only [decide_eq_true_eq, decide_eq_false_iff_not, beq_iff_eq, beq_eq_false_iff_ne, bne_iff_ne, bne_eq_false_iff_eq, Bool.and_eq_true, Bool.or_eq_true, Bool.or_eq_false_iff, Bool.not_eq_true', Bool.not_eq_false', Bool.and_eq_false_imp, ne_eq, gt_iff_lt, ge_iff_le, Int.not_lt, Int.not_le, Classical.not_not] at h1
    have hlast : l.length - 1 < l.length := by omega
    obtain ⟨b, rfl, q0⟩ := rd_int h hR (k := 0) (by omega)
    obtain ⟨_, e, ql⟩ := rd_int h hR hlast
    cases e
    have n1 := told_ne hb1 q0
    refine Cd.skip ?_
    refine thenN ?_
    refine Cd.seq ?_
    skip
    have e1 : ((l.length : Int) - 1).toNat = l.length - 1 := by omega
    skip
    refine Cd.rs [1, 3, 44] fun K hK => ?_
    simp (maxSteps := 2000000) (disch := first | (simp only [E4, q0, ql, n1, e1] <;> omega) | omega | fail) only [↓E2, E3, bare, bareJ, ↓E0, E1, evP, evPlan, env0, envN, evOps, evOp, evQs, evQ, evV, setD, pureOp, ev, upd, updL, gate, binW, eqOp, binV, intOp, shOp, boolOp, unV, convV, nilV, fieldAddrV, indexAddrV, extractV, cellAt, cellsAt, findB, setB, fillL, buildV, Value.cells, lenV, minV, maxV, hav, sliceV, loV, hiV, bslQ, mksQ, appQ, partsOk, partsCells, delB, eqL, SameI, strOp, apzQ, cvtQ, capV, ↓reduceIte, Zj, Zk, Nat.reduceAdd, Nat.reduceLT, Nat.reduceEqDiff, Nat.reduceMul, Nat.reduceLeDiff, if_true, Zn, reduceCtorEq, ZA, eq_self, Int.reduceLE, Int.reduceLT, Int.reduceToNat, ne_eq, Nat.reduceSub, Tfld56_0, Tfld56_1, Tld2, Tld47, Tslc47, q0, ql, n1, e1]
    repeat refine And.intro (by omega) ?_
    apply guardX_or 4 [16, 17, 18, 19] (j := 2) (d := 15) (tp := 20) (tl := 19) rfl rfl rfl rfl rfl
    · intro hq
      simp (maxSteps := 2000000) (disch := first | (simp only [E4, q0, ql, n1, e1] <;> omega) | omega | fail) only [↓E2, E3, bare, bareJ, ↓E0, E1, evP, evPlan, env0, envN, evOps, evOp, evQs, evQ, evV, setD, pureOp, ev, upd, updL, gate, binW, eqOp, binV, intOp, shOp, boolOp, unV, convV, nilV, fieldAddrV, indexAddrV, extractV, cellAt, cellsAt, findB, setB, fillL, buildV, Value.cells, lenV, minV, maxV, hav, sliceV, loV, hiV, bslQ, mksQ, appQ, partsOk, partsCells, delB, eqL, SameI, strOp, apzQ, cvtQ, capV, ↓reduceIte, Zj, Zk, Nat.reduceAdd, Nat.reduceLT, Nat.reduceEqDiff, Nat.reduceMul, Nat.reduceLeDiff, if_true, Zn, reduceCtorEq, ZA, eq_self, Int.reduceLE, Int.reduceLT, Int.reduceToNat, ne_eq, Nat.reduceSub, Tfld56_0, Tfld56_1, Tld2, Tld47, Tslc47, q0, ql, n1, e1]
      repeat refine And.intro (by omega) ?_
      refine callK_gives (l01In_c _ _ _) ?_
      simp (maxSteps := 2000000) (disch := first | (simp only [E4, q0, ql, n1, e1] <;> omega) | omega | fail) only [↓E2, E3, bare, bareJ, ↓E0, E1, evP, evPlan, env0, envN, evOps, evOp, evQs, evQ, evV, setD, pureOp, ev, upd, updL, gate, binW, eqOp, binV, intOp, shOp, boolOp, unV, convV, nilV, fieldAddrV, indexAddrV, extractV, cellAt, cellsAt, findB, setB, fillL, buildV, Value.cells, lenV, minV, maxV, hav, sliceV, loV, hiV, bslQ, mksQ, appQ, partsOk, partsCells, delB, eqL, SameI, strOp, apzQ, cvtQ, capV, ↓reduceIte, Zj, Zk, Nat.reduceAdd, Nat.reduceLT, Nat.reduceEqDiff, Nat.reduceMul, Nat.reduceLeDiff, if_true, Zn, reduceCtorEq, ZA, eq_self, Int.reduceLE, Int.reduceLT, Int.reduceToNat, ne_eq, Nat.reduceSub, Tfld56_0, Tfld56_1, Tld2, Tld47, Tslc47, q0, ql, n1, e1]
      repeat refine And.intro (by omega) ?_
      exact rfl
    intro g
    simp (maxSteps := 2000000) (disch := first | (simp only [E4, q0, ql, n1, e1] <;> omega) | omega | fail) only [↓E2, E3, bare, bareJ, ↓E0, E1, evP, evPlan, env0, envN, evOps, evOp, evQs, evQ, evV, setD, pureOp, ev, upd, updL, gate, binW, eqOp, binV, intOp, shOp, boolOp, unV, convV, nilV, fieldAddrV, indexAddrV, extractV, cellAt, cellsAt, findB, setB, fillL, buildV, Value.cells, lenV, minV, maxV, hav, sliceV, loV, hiV, bslQ, mksQ, appQ, partsOk, partsCells, delB, eqL, SameI, strOp, apzQ, cvtQ, capV, ↓reduceIte, Zj, Zk, Nat.reduceAdd, Nat.reduceLT, Nat.reduceEqDiff, Nat.reduceMul, Nat.reduceLeDiff, if_true, Zn, reduceCtorEq, ZA, eq_self, Int.reduceLE, Int.reduceLT, Int.reduceToNat, ne_eq, Nat.reduceSub, Tfld56_0, Tfld56_1, Tld2, Tld47, Tslc47, q0, ql, n1, e1]
    repeat refine And.intro (by omega) ?_
    apply guardX_or 6 [22, 23, 24, 25, 26, 27] (j := 8) (d := 21) (tp := 28) (tl := 27) rfl rfl rfl rfl rfl
    · intro hq
      simp only [decide_eq_true_eq, decide_eq_false_iff_not, beq_iff_eq, beq_eq_false_iff_ne, bne_iff_ne, bne_eq_false_iff_eq, Bool.and_eq_true, Bool.or_eq_true, Bool.or_eq_false_iff, Bool.not_eq_true', Bool.not_eq_false', Bool.and_eq_false_imp, ne_eq, gt_iff_lt, ge_iff_le, Int.not_lt, Int.not_le, Classical.not_not] at hq
      simp (maxSteps := 2000000) (disch := first | (simp only [E4, q0, ql, n1, e1] <;> omega) | omega | fail) only [↓E2, E3, bare, bareJ, ↓E0, E1, evP, evPlan, env0, envN, evOps, evOp, evQs, evQ, evV, setD, pureOp, ev, upd, updL, gate, binW, eqOp, binV, intOp, shOp, boolOp, unV, convV, nilV, fieldAddrV, indexAddrV, extractV, cellAt, cellsAt, findB, setB, fillL, buildV, Value.cells, lenV, minV, maxV, hav, sliceV, loV, hiV, bslQ, mksQ, appQ, partsOk, partsCells, delB, eqL, SameI, strOp, apzQ, cvtQ, capV, ↓reduceIte, Zj, Zk, Nat.reduceAdd, Nat.reduceLT, Nat.reduceEqDiff, Nat.reduceMul, Nat.reduceLeDiff, if_true, Zn, reduceCtorEq, ZA, eq_self, Int.reduceLE, Int.reduceLT, Int.reduceToNat, ne_eq, Nat.reduceSub, Tfld56_0, Tfld56_1, Tld2, Tld47, Tslc47, q0, ql, n1, e1]
      repeat refine And.intro (by omega) ?_
      exact rfl
    intro g
    simp (maxSteps := 2000000) (disch := first | (simp only [E4, q0, ql, n1, e1] <;> omega) | omega | fail) only [↓E2, E3, bare, bareJ, ↓E0, E1, evP, evPlan, env0, envN, evOps, evOp, evQs, evQ, evV, setD, pureOp, ev, upd, updL, gate, binW, eqOp, binV, intOp, shOp, boolOp, unV, convV, nilV, fieldAddrV, indexAddrV, extractV, cellAt, cellsAt, findB, setB, fillL, buildV, Value.cells, lenV, minV, maxV, hav, sliceV, loV, hiV, bslQ, mksQ, appQ, partsOk, partsCells, delB, eqL, SameI, strOp, apzQ, cvtQ, capV, ↓reduceIte, Zj, Zk, Nat.reduceAdd, Nat.reduceLT, Nat.reduceEqDiff, Nat.reduceMul, Nat.reduceLeDiff, if_true, Zn, reduceCtorEq, ZA, eq_self, Int.reduceLE, Int.reduceLT, Int.reduceToNat, ne_eq, Nat.reduceSub, Tfld56_0, Tfld56_1, Tld2, Tld47, Tslc47, q0, ql, n1, e1]
    repeat refine And.intro (by omega) ?_
    apply guardX_or 5 [30, 31, 32, 33, 34] (j := 16) (d := 29) (tp := 35) (tl := 34) rfl rfl rfl rfl rfl
    · intro hq
      simp (maxSteps := 2000000) (disch := first | (simp only [E4, q0, ql, n1, e1] <;> omega) | omega | fail) only [↓E2, E3, bare, bareJ, ↓E0, E1, evP, evPlan, env0, envN, evOps, evOp, evQs, evQ, evV, setD, pureOp, ev, upd, updL, gate, binW, eqOp, binV, intOp, shOp, boolOp, unV, convV, nilV, fieldAddrV, indexAddrV, extractV, cellAt, cellsAt, findB, setB, fillL, buildV, Value.cells, lenV, minV, maxV, hav, sliceV, loV, hiV, bslQ, mksQ, appQ, partsOk, partsCells, delB, eqL, SameI, strOp, apzQ, cvtQ, capV, ↓reduceIte, Zj, Zk, Nat.reduceAdd, Nat.reduceLT, Nat.reduceEqDiff, Nat.reduceMul, Nat.reduceLeDiff, if_true, Zn, reduceCtorEq, ZA, eq_self, Int.reduceLE, Int.reduceLT, Int.reduceToNat, ne_eq, Nat.reduceSub, Tfld56_0, Tfld56_1, Tld2, Tld47, Tslc47, q0, ql, n1, e1]
      repeat refine And.intro (by omega) ?_
      exact rfl
    intro g
    simp (maxSteps := 2000000) (disch := first | (simp only [E4, q0, ql, n1, e1] <;> omega) | omega | fail) only [↓E2, E3, bare, bareJ, ↓E0, E1, evP, evPlan, env0, envN, evOps, evOp, evQs, evQ, evV, setD, pureOp, ev, upd, updL, gate, binW, eqOp, binV, intOp, shOp, boolOp, unV, convV, nilV, fieldAddrV, indexAddrV, extractV, cellAt, cellsAt, findB, setB, fillL, buildV, Value.cells, lenV, minV, maxV, hav, sliceV, loV, hiV, bslQ, mksQ, appQ, partsOk, partsCells, delB, eqL, SameI, strOp, apzQ, cvtQ, capV, ↓reduceIte, Zj, Zk, Nat.reduceAdd, Nat.reduceLT, Nat.reduceEqDiff, Nat.reduceMul, Nat.reduceLeDiff, if_true, Zn, reduceCtorEq, ZA, eq_self, Int.reduceLE, Int.reduceLT, Int.reduceToNat, ne_eq, Nat.reduceSub, Tfld56_0, Tfld56_1, Tld2, Tld47, Tslc47, q0, ql, n1, e1]
    repeat refine And.intro (by omega) ?_
    apply guardX_or 7 [37, 38, 39, 40, 41, 42, 43] (j := 23) (d := 36) (tp := 44) (tl := 43) rfl rfl rfl rfl rfl
    · intro hq
      simp (maxSteps := 2000000) (disch := first | (simp only [E4, q0, ql, n1, e1] <;> omega) | omega | fail) only [↓E2, E3, bare, bareJ, ↓E0, E1, evP, evPlan, env0, envN, evOps, evOp, evQs, evQ, evV, setD, pureOp, ev, upd, updL, gate, binW, eqOp, binV, intOp, shOp, boolOp, unV, convV, nilV, fieldAddrV, indexAddrV, extractV, cellAt, cellsAt, findB, setB, fillL, buildV, Value.cells, lenV, minV, maxV, hav, sliceV, loV, hiV, bslQ, mksQ, appQ, partsOk, partsCells, delB, eqL, SameI, strOp, apzQ, cvtQ, capV, ↓reduceIte, Zj, Zk, Nat.reduceAdd, Nat.reduceLT, Nat.reduceEqDiff, Nat.reduceMul, Nat.reduceLeDiff, if_true, Zn, reduceCtorEq, ZA, eq_self, Int.reduceLE, Int.reduceLT, Int.reduceToNat, ne_eq, Nat.reduceSub, Tfld56_0, Tfld56_1, Tld2, Tld47, Tslc47, q0, ql, n1, e1]
      repeat refine And.intro (by omega) ?_
      exact rfl
    intro g
    simp (maxSteps := 2000000) (disch := first | (simp only [E4, q0, ql, n1, e1] <;> omega) | omega | fail) only [↓E2, E3, bare, bareJ, ↓E0, E1, evP, evPlan, env0, envN, evOps, evOp, evQs, evQ, evV, setD, pureOp, ev, upd, updL, gate, binW, eqOp, binV, intOp, shOp, boolOp, unV, convV, nilV, fieldAddrV, indexAddrV, extractV, cellAt, cellsAt, findB, setB, fillL, buildV, Value.cells, lenV, minV, maxV, hav, sliceV, loV, hiV, bslQ, mksQ, appQ, partsOk, partsCells, delB, eqL, SameI, strOp, apzQ, cvtQ, capV, ↓reduceIte, Zj, Zk, Nat.reduceAdd, Nat.reduceLT, Nat.reduceEqDiff, Nat.reduceMul, Nat.reduceLeDiff, if_true, Zn, reduceCtorEq, ZA, eq_self, Int.reduceLE, Int.reduceLT, Int.reduceToNat, ne_eq, Nat.reduceSub, Tfld56_0, Tfld56_1, Tld2, Tld47, Tslc47, q0, ql, n1, e1]
    repeat refine And.intro (by omega) ?_
    repeat refine And.intro (by omega) ?_
    intro g
    simp only [List.map_cons, List.map_nil, updL, upd, Nat.reduceEqDiff, if_true, if_false, ↓reduceIte]
    refine hK _ _ ?_; clear hK K
    refine Cd.cond rfl (fun h2 => ?_) (fun h2 => ?_)
    · refine Cd.rs [2] fun K hK => ?_
      simp (maxSteps := 2000000) (disch := first | (simp only [E4, q0, ql, n1, e1] <;> omega) | omega | fail) only [↓E2, E3, bare, bareJ, ↓E0, E1, evP, evPlan, env0, envN, evOps, evOp, evQs, evQ, evV, setD, pureOp, ev, upd, updL, gate, binW, eqOp, binV, intOp, shOp, boolOp, unV, convV, nilV, fieldAddrV, indexAddrV, extractV, cellAt, cellsAt, findB, setB, fillL, buildV, Value.cells, lenV, minV, maxV, hav, sliceV, loV, hiV, bslQ, mksQ, appQ, partsOk, partsCells, delB, eqL, SameI, strOp, apzQ, cvtQ, capV, ↓reduceIte, Zj, Zk, Nat.reduceAdd, Nat.reduceLT, Nat.reduceEqDiff, Nat.reduceMul, Nat.reduceLeDiff, if_true, Zn, reduceCtorEq, ZA, eq_self, Int.reduceLE, Int.reduceLT, Int.reduceToNat, ne_eq, Nat.reduceSub, q0, ql, n1, e1]
      repeat refine And.intro (by omega) ?_
      repeat refine And.intro (by omega) ?_
      intro g
      simp only [List.map_cons, List.map_nil, updL, upd, Nat.reduceEqDiff, if_true, if_false, ↓reduceIte]
      refine hK _ _ ?_; clear hK K
      refine Cd.ret (thenR ?_)
      simp (maxSteps := 2000000) (disch := first | (simp only [E4, q0, ql, n1, e1] <;> omega) | omega | fail) only [↓E2, E3, bare, bareJ, ↓E0, E1, evP, evPlan, env0, envN, evOps, evOp, evQs, evQ, evV, setD, pureOp, ev, upd, updL, gate, binW, eqOp, binV, intOp, shOp, boolOp, unV, convV, nilV, fieldAddrV, indexAddrV, extractV, cellAt, cellsAt, findB, setB, fillL, buildV, Value.cells, lenV, minV, maxV, hav, sliceV, loV, hiV, bslQ, mksQ, appQ, partsOk, partsCells, delB, eqL, SameI, strOp, apzQ, cvtQ, capV, ↓reduceIte, Zj, Zk, Nat.reduceAdd, Nat.reduceLT, Nat.reduceEqDiff, Nat.reduceMul, Nat.reduceLeDiff, if_true, Zn, reduceCtorEq, ZA, eq_self, Int.reduceLE, Int.reduceLT, Int.reduceToNat, ne_eq, Nat.reduceSub, q0, ql, n1, e1]
      repeat refine And.intro (by omega) ?_
      rw [lauOk_pre (by omega), h2]
      rfl
    · refine Cd.skip ?_
      refine thenN ?_
      refine Cd.seq ?_
      refine Cd.rs [1, 3, 4] fun K hK => ?_
      simp (maxSteps := 2000000) (disch := first | (simp only [E4, q0, ql, n1, e1] <;> omega) | omega | fail) only [↓E2, E3, bare, bareJ, ↓E0, E1, evP, evPlan, env0, envN, evOps, evOp, evQs, evQ, evV, setD, pureOp, ev, upd, updL, gate, binW, eqOp, binV, intOp, shOp, boolOp, unV, convV, nilV, fieldAddrV, indexAddrV, extractV, cellAt, cellsAt, findB, setB, fillL, buildV, Value.cells, lenV, minV, maxV, hav, sliceV, loV, hiV, bslQ, mksQ, appQ, partsOk, partsCells, delB, eqL, SameI, strOp, apzQ, cvtQ, capV, ↓reduceIte, Zj, Zk, Nat.reduceAdd, Nat.reduceLT, Nat.reduceEqDiff, Nat.reduceMul, Nat.reduceLeDiff, if_true, Zn, reduceCtorEq, ZA, eq_self, Int.reduceLE, Int.reduceLT, Int.reduceToNat, ne_eq, Nat.reduceSub, q0, ql, n1, e1]
      repeat refine And.intro (by omega) ?_
      repeat refine And.intro (by omega) ?_
      intro g
      simp only [List.map_cons, List.map_nil, updL, upd, Nat.reduceEqDiff, if_true, if_false, ↓reduceIte]
      refine hK _ _ ?_; clear hK K
      refine Cd.block ?_
      refine Cd.loop (fun q ρ M => ∃ g k, k + q = l.length ∧ (l.take k).all coOk = true ∧ ρ = updL [(1, .pointer (some ⟨b1, 0, none⟩)), (3, .int .i64 (l.length : Int)), (4, .int .i64 (k : Int))] g ∧ M = [(b1, [.int .i64 low, .slice (some ⟨b, 0, none⟩) l.length cap])]) l.length ⟨_, 0, Nat.zero_add _, rfl, rfl, rfl⟩ ?_
      rintro q ρ M ⟨g, k, hk, hall, rfl, rfl⟩
      refine Cd.seq ?_
      refine Cd.rs [1, 3, 4, 47] fun K hK => ?_
      simp (maxSteps := 2000000) (disch := first | (simp only [E4, q0, ql, n1, e1] <;> omega) | omega | fail) only [↓E2, E3, bare, bareJ, ↓E0, E1, evP, evPlan, env0, envN, evOps, evOp, evQs, evQ, evV, setD, pureOp, ev, upd, updL, gate, binW, eqOp, binV, intOp, shOp, boolOp, unV, convV, nilV, fieldAddrV, indexAddrV, extractV, cellAt, cellsAt, findB, setB, fillL, buildV, Value.cells, lenV, minV, maxV, hav, sliceV, loV, hiV, bslQ, mksQ, appQ, partsOk, partsCells, delB, eqL, SameI, strOp, apzQ, cvtQ, capV, ↓reduceIte, Zj, Zk, Nat.reduceAdd, Nat.reduceLT, Nat.reduceEqDiff, Nat.reduceMul, Nat.reduceLeDiff, if_true, Zn, reduceCtorEq, ZA, eq_self, Int.reduceLE, Int.reduceLT, Int.reduceToNat, ne_eq, Nat.reduceSub, q0, ql, n1, e1]
      repeat refine And.intro (by omega) ?_
      repeat refine And.intro (by omega) ?_
      intro g
      simp only [List.map_cons, List.map_nil, updL, upd, Nat.reduceEqDiff, if_true, if_false, ↓reduceIte]
      refine hK _ _ ?_; clear hK K
      refine Cd.condd rfl (fun h3 => ?_) (fun h3 => ?_)
      · obtain ⟨_, e, qk⟩ := rd_int h hR (k := k) (by omega)
        cases e
        refine Cd.skip ?_
        refine thenN ?_
        refine Cd.seq ?_
        refine Cd.block ?_
        skip
        refine Cd.rs [1, 3, 4, 56] fun K hK => ?_
        simp (maxSteps := 2000000) (disch := first | (simp only [E4, q0, ql, n1, e1, qk] <;> omega) | omega | fail) only [↓E2, E3, bare, bareJ, ↓E0, E1, evP, evPlan, env0, envN, evOps, evOp, evQs, evQ, evV, setD, pureOp, ev, upd, updL, gate, binW, eqOp, binV, intOp, shOp, boolOp, unV, convV, nilV, fieldAddrV, indexAddrV, extractV, cellAt, cellsAt, findB, setB, fillL, buildV, Value.cells, lenV, minV, maxV, hav, sliceV, loV, hiV, bslQ, mksQ, appQ, partsOk, partsCells, delB, eqL, SameI, strOp, apzQ, cvtQ, capV, ↓reduceIte, Zj, Zk, Nat.reduceAdd, Nat.reduceLT, Nat.reduceEqDiff, Nat.reduceMul, Nat.reduceLeDiff, if_true, Zn, reduceCtorEq, ZA, eq_self, Int.reduceLE, Int.reduceLT, Int.reduceToNat, ne_eq, Nat.reduceSub, Tfld56_1, Tld2, Tld47, Tslc47, q0, ql, n1, e1, qk]
        repeat refine And.intro (by omega) ?_
        refine callK_gives (l01In_c _ _ _) ?_
        simp (maxSteps := 2000000) (disch := first | (simp only [E4, q0, ql, n1, e1, qk] <;> omega) | omega | fail) only [↓E2, E3, bare, bareJ, ↓E0, E1, evP, evPlan, env0, envN, evOps, evOp, evQs, evQ, evV, setD, pureOp, ev, upd, updL, gate, binW, eqOp, binV, intOp, shOp, boolOp, unV, convV, nilV, fieldAddrV, indexAddrV, extractV, cellAt, cellsAt, findB, setB, fillL, buildV, Value.cells, lenV, minV, maxV, hav, sliceV, loV, hiV, bslQ, mksQ, appQ, partsOk, partsCells, delB, eqL, SameI, strOp, apzQ, cvtQ, capV, ↓reduceIte, Zj, Zk, Nat.reduceAdd, Nat.reduceLT, Nat.reduceEqDiff, Nat.reduceMul, Nat.reduceLeDiff, if_true, Zn, reduceCtorEq, ZA, eq_self, Int.reduceLE, Int.reduceLT, Int.reduceToNat, ne_eq, Nat.reduceSub, Tfld56_1, Tld2, Tld47, Tslc47, q0, ql, n1, e1, qk]
        repeat refine And.intro (by omega) ?_
        repeat refine And.intro (by omega) ?_
        intro g
        simp only [List.map_cons, List.map_nil, updL, upd, Nat.reduceEqDiff, if_true, if_false, ↓reduceIte]
        refine hK _ _ ?_; clear hK K
        refine Cd.cond rfl (fun h4 => ?_) (fun h4 => ?_)
        · refine Cd.rs [2] fun K hK => ?_
          simp (maxSteps := 2000000) (disch := first | (simp only [E4, q0, ql, n1, e1, qk] <;> omega) | omega | fail) only [↓E2, E3, bare, bareJ, ↓E0, E1, evP, evPlan, env0, envN, evOps, evOp, evQs, evQ, evV, setD, pureOp, ev, upd, updL, gate, binW, eqOp, binV, intOp, shOp, boolOp, unV, convV, nilV, fieldAddrV, indexAddrV, extractV, cellAt, cellsAt, findB, setB, fillL, buildV, Value.cells, lenV, minV, maxV, hav, sliceV, loV, hiV, bslQ, mksQ, appQ, partsOk, partsCells, delB, eqL, SameI, strOp, apzQ, cvtQ, capV, ↓reduceIte, Zj, Zk, Nat.reduceAdd, Nat.reduceLT, Nat.reduceEqDiff, Nat.reduceMul, Nat.reduceLeDiff, if_true, Zn, reduceCtorEq, ZA, eq_self, Int.reduceLE, Int.reduceLT, Int.reduceToNat, ne_eq, Nat.reduceSub, q0, ql, n1, e1, qk]
          repeat refine And.intro (by omega) ?_
          repeat refine And.intro (by omega) ?_
          intro g
          simp only [List.map_cons, List.map_nil, updL, upd, Nat.reduceEqDiff, if_true, if_false, ↓reduceIte]
          refine hK _ _ ?_; clear hK K
          refine Cd.ret (inBR (thenR (roundR (inBR (thenR ?_)))))
          simp (maxSteps := 2000000) (disch := first | (simp only [E4, q0, ql, n1, e1, qk] <;> omega) | omega | fail) only [↓E2, E3, bare, bareJ, ↓E0, E1, evP, evPlan, env0, envN, evOps, evOp, evQs, evQ, evV, setD, pureOp, ev, upd, updL, gate, binW, eqOp, binV, intOp, shOp, boolOp, unV, convV, nilV, fieldAddrV, indexAddrV, extractV, cellAt, cellsAt, findB, setB, fillL, buildV, Value.cells, lenV, minV, maxV, hav, sliceV, loV, hiV, bslQ, mksQ, appQ, partsOk, partsCells, delB, eqL, SameI, strOp, apzQ, cvtQ, capV, ↓reduceIte, Zj, Zk, Nat.reduceAdd, Nat.reduceLT, Nat.reduceEqDiff, Nat.reduceMul, Nat.reduceLeDiff, if_true, Zn, reduceCtorEq, ZA, eq_self, Int.reduceLE, Int.reduceLT, Int.reduceToNat, ne_eq, Nat.reduceSub, q0, ql, n1, e1, qk]
          repeat refine And.intro (by omega) ?_
          rw [lauOk_pre (by omega), all_false (k := k) (p := coOk) (by have h5 : (!coOk (l.getD k 0)) = true := h4; simpa using h5) (by omega), Bool.and_false]
        · refine Cd.skip ?_
          refine inBN ?_
          refine thenN ?_
          refine Cd.rr [1, 3, 4] fun K hK => ?_
          simp (maxSteps := 2000000) (disch := first | (simp only [E4, q0, ql, n1, e1, qk] <;> omega) | omega | fail) only [↓E2, E3, bare, bareJ, ↓E0, E1, evP, evPlan, env0, envN, evOps, evOp, evQs, evQ, evV, setD, pureOp, ev, upd, updL, gate, binW, eqOp, binV, intOp, shOp, boolOp, unV, convV, nilV, fieldAddrV, indexAddrV, extractV, cellAt, cellsAt, findB, setB, fillL, buildV, Value.cells, lenV, minV, maxV, hav, sliceV, loV, hiV, bslQ, mksQ, appQ, partsOk, partsCells, delB, eqL, SameI, strOp, apzQ, cvtQ, capV, ↓reduceIte, Zj, Zk, Nat.reduceAdd, Nat.reduceLT, Nat.reduceEqDiff, Nat.reduceMul, Nat.reduceLeDiff, if_true, Zn, reduceCtorEq, ZA, eq_self, Int.reduceLE, Int.reduceLT, Int.reduceToNat, ne_eq, Nat.reduceSub, q0, ql, n1, e1, qk]
          repeat refine And.intro (by omega) ?_
          repeat refine And.intro (by omega) ?_
          intro g
          simp only [List.map_cons, List.map_nil, updL, upd, Nat.reduceEqDiff, if_true, if_false, ↓reduceIte]
          refine hK _ _ ?_; clear hK K
          exact roundN (m := q - 1) (by omega) ⟨_, k + 1, by omega, by rw [all_upto hall (by omega)]; have h5 : (!coOk (l.getD k 0)) = false := h4; simpa using h5, rfl, rfl⟩
      · refine Cd.exit (thenX (roundX (inBX ?_)))
        refine thenN ?_
        refine Cd.rs [2] fun K hK => ?_
        simp (maxSteps := 2000000) (disch := first | (simp only [E4, q0, ql, n1, e1] <;> omega) | omega | fail) only [↓E2, E3, bare, bareJ, ↓E0, E1, evP, evPlan, env0, envN, evOps, evOp, evQs, evQ, evV, setD, pureOp, ev, upd, updL, gate, binW, eqOp, binV, intOp, shOp, boolOp, unV, convV, nilV, fieldAddrV, indexAddrV, extractV, cellAt, cellsAt, findB, setB, fillL, buildV, Value.cells, lenV, minV, maxV, hav, sliceV, loV, hiV, bslQ, mksQ, appQ, partsOk, partsCells, delB, eqL, SameI, strOp, apzQ, cvtQ, capV, ↓reduceIte, Zj, Zk, Nat.reduceAdd, Nat.reduceLT, Nat.reduceEqDiff, Nat.reduceMul, Nat.reduceLeDiff, if_true, Zn, reduceCtorEq, ZA, eq_self, Int.reduceLE, Int.reduceLT, Int.reduceToNat, ne_eq, Nat.reduceSub, q0, ql, n1, e1]
        repeat refine And.intro (by omega) ?_
        repeat refine And.intro (by omega) ?_
        intro g
        simp only [List.map_cons, List.map_nil, updL, upd, Nat.reduceEqDiff, if_true, if_false, ↓reduceIte]
        refine hK _ _ ?_; clear hK K
        refine Cd.ret ?_
        simp (maxSteps := 2000000) (disch := first | (simp only [E4, q0, ql, n1, e1] <;> omega) | omega | fail) only [↓E2, E3, bare, bareJ, ↓E0, E1, evP, evPlan, env0, envN, evOps, evOp, evQs, evQ, evV, setD, pureOp, ev, upd, updL, gate, binW, eqOp, binV, intOp, shOp, boolOp, unV, convV, nilV, fieldAddrV, indexAddrV, extractV, cellAt, cellsAt, findB, setB, fillL, buildV, Value.cells, lenV, minV, maxV, hav, sliceV, loV, hiV, bslQ, mksQ, appQ, partsOk, partsCells, delB, eqL, SameI, strOp, apzQ, cvtQ, capV, ↓reduceIte, Zj, Zk, Nat.reduceAdd, Nat.reduceLT, Nat.reduceEqDiff, Nat.reduceMul, Nat.reduceLeDiff, if_true, Zn, reduceCtorEq, ZA, eq_self, Int.reduceLE, Int.reduceLT, Int.reduceToNat, ne_eq, Nat.reduceSub, q0, ql, n1, e1]
        repeat refine And.intro (by omega) ?_
        rw [List.take_of_length_le (by omega)] at hall
        rw [lauOk_pre (by omega), h2, hall]
        rfl

theorem RdL.form {R : Rd} {low : Int} {l : List Int} {v : Value} (h : RdL R low l v) : ∃ a cap, v = .agg #[.int .i64 low, .slice a l.length cap] ∧ RdS R 1 (ints .i64 l) (.slice a l.length cap) := by
  obtain ⟨s, rfl, h⟩ := h
  obtain ⟨a, m, cap, rfl, hm, _⟩ := id h
  obtain rfl := lauLen hm
  exact ⟨a, cap, rfl, h⟩
end Go.Proofs

/-
  What the functions of this part hand back: each as a plain function of its arguments. Conditions: none.
-/
namespace Go.Proofs
open Go.W8
set_option linter.unusedVariables false
set_option linter.unusedSimpArgs false
set_option linter.unusedSectionVars false
set_option maxRecDepth 8000
set_option maxHeartbeats 4000000
theorem sub_zero_len {l cs : List Value} {n : Nat} (h : l.length = n) (hr : ∃ rest, cs = l ++ rest) : cs.take n = l := by
  obtain ⟨rest, rfl⟩ := hr
  rw [← h, List.take_left]
theorem l01Own_c (l : List Int) (R : Rd) (v : Value) (h : RdO R l v) (hb : l.length ≤ 100000000) : GivesX Try.prog 190 #[v] [] R (SlN 1 (ints .i64 l)) := by
  refine GivesX.part ?_
  rcases h with ⟨rfl, cap, rfl⟩ | ⟨b, o, cap, rfl, h0, h1⟩
  · refine GivesX.of (callable_of Try.func190 rfl (by decide)) ?_ fun w hnd hlt hR => ?_
    · simp
    refine acall_of (N := 6) (c := _) (rs := [.tmp 2]) (args := [_]) Try.func190 rfl (by decide) rfl rfl (Nat.le_of_ble_eq_true rfl) ?_
    refine Cd.rs [0] fun K hK => ?_
    simp (maxSteps := 2000000) (disch := first | (simp only [E4] <;> omega) | omega | fail) only [↓E2, E3, bare, bareJ, ↓E0, E1, evP, evPlan, env0, envN, evOps, evOp, evQs, evQ, evV, setD, pureOp, ev, upd, updL, gate, binW, eqOp, binV, intOp, shOp, boolOp, unV, convV, nilV, fieldAddrV, indexAddrV, extractV, cellAt, cellsAt, findB, setB, fillL, buildV, Value.cells, lenV, minV, maxV, hav, sliceV, loV, hiV, bslQ, mksQ, appQ, partsOk, partsCells, delB, eqL, SameI, strOp, apzQ, cvtQ, capV, ↓reduceIte, Zj, Zk, Nat.reduceAdd, Nat.reduceLT, Nat.reduceEqDiff, Nat.reduceMul, Nat.reduceLeDiff, if_true, Zn, reduceCtorEq, ZA, eq_self, Int.reduceLE, Int.reduceLT, Int.reduceToNat, ne_eq, Nat.reduceSub]
    repeat refine And.intro (by omega) ?_
    repeat refine And.intro (by omega) ?_
    intro g
    simp only [List.map_cons, List.map_nil, updL, upd, Nat.reduceEqDiff, if_true, if_false, ↓reduceIte]
    refine hK _ _ ?_; clear hK K
    refine Cd.rs [2] fun K hK => ?_
    simp (maxSteps := 2000000) (disch := first | (simp only [E4] <;> omega) | omega | fail) only [↓E2, E3, bare, bareJ, ↓E0, E1, evP, evPlan, env0, envN, evOps, evOp, evQs, evQ, evV, setD, pureOp, ev, upd, updL, gate, binW, eqOp, binV, intOp, shOp, boolOp, unV, convV, nilV, fieldAddrV, indexAddrV, extractV, cellAt, cellsAt, findB, setB, fillL, buildV, Value.cells, lenV, minV, maxV, hav, sliceV, loV, hiV, bslQ, mksQ, appQ, partsOk, partsCells, delB, eqL, SameI, strOp, apzQ, cvtQ, capV, ↓reduceIte, Zj, Zk, Nat.reduceAdd, Nat.reduceLT, Nat.reduceEqDiff, Nat.reduceMul, Nat.reduceLeDiff, if_true, Zn, reduceCtorEq, ZA, eq_self, Int.reduceLE, Int.reduceLT, Int.reduceToNat, ne_eq, Nat.reduceSub, Tby2, Tslc47, Tslce47, Tzero2]
    repeat refine And.intro (by omega) ?_
    intro b1 hb1
    try simp (maxSteps := 2000000) (disch := first | (simp only [E4] <;> omega) | omega | fail) only [↓E2, E3, bare, bareJ, ↓E0, E1, evP, evPlan, env0, envN, evOps, evOp, evQs, evQ, evV, setD, pureOp, ev, upd, updL, gate, binW, eqOp, binV, intOp, shOp, boolOp, unV, convV, nilV, fieldAddrV, indexAddrV, extractV, cellAt, cellsAt, findB, setB, fillL, buildV, Value.cells, lenV, minV, maxV, hav, sliceV, loV, hiV, bslQ, mksQ, appQ, partsOk, partsCells, delB, eqL, SameI, strOp, apzQ, cvtQ, capV, ↓reduceIte, Zj, Zk, Nat.reduceAdd, Nat.reduceLT, Nat.reduceEqDiff, Nat.reduceMul, Nat.reduceLeDiff, if_true, Zn, reduceCtorEq, ZA, eq_self, Int.reduceLE, Int.reduceLT, Int.reduceToNat, ne_eq, Nat.reduceSub, Tby2, Tslc47, Tslce47, Tzero2]
    repeat refine And.intro (by omega) ?_
    repeat refine And.intro (by omega) ?_
    intro g
    simp only [List.map_cons, List.map_nil, updL, upd, Nat.reduceEqDiff, if_true, if_false, ↓reduceIte]
    refine hK _ _ ?_; clear hK K
    refine Cd.ret ?_
    simp (maxSteps := 2000000) (disch := first | (simp only [E4] <;> omega) | omega | fail) only [↓E2, E3, bare, bareJ, ↓E0, E1, evP, evPlan, env0, envN, evOps, evOp, evQs, evQ, evV, setD, pureOp, ev, upd, updL, gate, binW, eqOp, binV, intOp, shOp, boolOp, unV, convV, nilV, fieldAddrV, indexAddrV, extractV, cellAt, cellsAt, findB, setB, fillL, buildV, Value.cells, lenV, minV, maxV, hav, sliceV, loV, hiV, bslQ, mksQ, appQ, partsOk, partsCells, delB, eqL, SameI, strOp, apzQ, cvtQ, capV, ↓reduceIte, Zj, Zk, Nat.reduceAdd, Nat.reduceLT, Nat.reduceEqDiff, Nat.reduceMul, Nat.reduceLeDiff, if_true, Zn, reduceCtorEq, ZA, eq_self, Int.reduceLE, Int.reduceLT, Int.reduceToNat, ne_eq, Nat.reduceSub]
    repeat refine And.intro (by omega) ?_
    exact ⟨_, SubP.refl _, SlN.row (Row.nil 1)⟩
  · refine GivesX.of (callable_of Try.func190 rfl (by decide)) ?_ fun w hnd hlt hR => ?_
    · simp
    refine acall_of (N := 6) (c := _) (rs := [.tmp 2]) (args := [_]) Try.func190 rfl (by decide) rfl rfl (Nat.le_of_ble_eq_true rfl) ?_
    have hR : W8.Told [] w R := hR
    refine Cd.rs [0] fun K hK => ?_
    simp (maxSteps := 2000000) (disch := first | (simp only [E4] <;> omega) | omega | fail) only [↓E2, E3, bare, bareJ, ↓E0, E1, evP, evPlan, env0, envN, evOps, evOp, evQs, evQ, evV, setD, pureOp, ev, upd, updL, gate, binW, eqOp, binV, intOp, shOp, boolOp, unV, convV, nilV, fieldAddrV, indexAddrV, extractV, cellAt, cellsAt, findB, setB, fillL, buildV, Value.cells, lenV, minV, maxV, hav, sliceV, loV, hiV, bslQ, mksQ, appQ, partsOk, partsCells, delB, eqL, SameI, strOp, apzQ, cvtQ, capV, ↓reduceIte, Zj, Zk, Nat.reduceAdd, Nat.reduceLT, Nat.reduceEqDiff, Nat.reduceMul, Nat.reduceLeDiff, if_true, Zn, reduceCtorEq, ZA, eq_self, Int.reduceLE, Int.reduceLT, Int.reduceToNat, ne_eq, Nat.reduceSub]
    repeat refine And.intro (by omega) ?_
    repeat refine And.intro (by omega) ?_
    intro g
    simp only [List.map_cons, List.map_nil, updL, upd, Nat.reduceEqDiff, if_true, if_false, ↓reduceIte]
    refine hK _ _ ?_; clear hK K
    refine Cd.rs [2] fun K hK => ?_
    by_cases hn : l = []
    · subst hn
      obtain rfl := h0 rfl
      have mz : ∀ f : Nat → Option Value, (List.range 0).mapM f = some [] := fun _ => rfl
      have sz : subL [] 0 0 = [] := rfl
      skip
      simp (maxSteps := 2000000) (disch := first | (simp only [E4, mz, sz] <;> omega) | omega | fail) only [↓E2, E3, bare, bareJ, ↓E0, E1, evP, evPlan, env0, envN, evOps, evOp, evQs, evQ, evV, setD, pureOp, ev, upd, updL, gate, binW, eqOp, binV, intOp, shOp, boolOp, unV, convV, nilV, fieldAddrV, indexAddrV, extractV, cellAt, cellsAt, findB, setB, fillL, buildV, Value.cells, lenV, minV, maxV, hav, sliceV, loV, hiV, bslQ, mksQ, appQ, partsOk, partsCells, delB, eqL, SameI, strOp, apzQ, cvtQ, capV, ↓reduceIte, Zj, Zk, Nat.reduceAdd, Nat.reduceLT, Nat.reduceEqDiff, Nat.reduceMul, Nat.reduceLeDiff, if_true, Zn, reduceCtorEq, ZA, eq_self, Int.reduceLE, Int.reduceLT, Int.reduceToNat, ne_eq, Nat.reduceSub, Tby2, Tslc47, Tslce47, Tzero2, mz, sz]
      repeat refine And.intro (by omega) ?_
      intro b1 hb1
      by_cases e : b1 = b
      all_goals
        skip
        simp (maxSteps := 2000000) (disch := first | (simp only [E4, mz, sz, e] <;> omega) | omega | fail) only [↓E2, E3, bare, bareJ, ↓E0, E1, evP, evPlan, env0, envN, evOps, evOp, evQs, evQ, evV, setD, pureOp, ev, upd, updL, gate, binW, eqOp, binV, intOp, shOp, boolOp, unV, convV, nilV, fieldAddrV, indexAddrV, extractV, cellAt, cellsAt, findB, setB, fillL, buildV, Value.cells, lenV, minV, maxV, hav, sliceV, loV, hiV, bslQ, mksQ, appQ, partsOk, partsCells, delB, eqL, SameI, strOp, apzQ, cvtQ, capV, ↓reduceIte, Zj, Zk, Nat.reduceAdd, Nat.reduceLT, Nat.reduceEqDiff, Nat.reduceMul, Nat.reduceLeDiff, if_true, Zn, reduceCtorEq, ZA, eq_self, Int.reduceLE, Int.reduceLT, Int.reduceToNat, ne_eq, Nat.reduceSub, Tby2, Tslc47, Tslce47, Tzero2, mz, sz, e]
        repeat refine And.intro (by omega) ?_
        intro b' cap' rest' hf hr'
        repeat refine And.intro (by omega) ?_
        intro g
        simp only [List.map_cons, List.map_nil, updL, upd, Nat.reduceEqDiff, if_true, if_false, ↓reduceIte]
        refine hK _ _ ?_; clear hK K
        refine Cd.ret ?_
        simp (maxSteps := 2000000) (disch := first | (simp only [E4, mz, sz, e] <;> omega) | omega | fail) only [↓E2, E3, bare, bareJ, ↓E0, E1, evP, evPlan, env0, envN, evOps, evOp, evQs, evQ, evV, setD, pureOp, ev, upd, updL, gate, binW, eqOp, binV, intOp, shOp, boolOp, unV, convV, nilV, fieldAddrV, indexAddrV, extractV, cellAt, cellsAt, findB, setB, fillL, buildV, Value.cells, lenV, minV, maxV, hav, sliceV, loV, hiV, bslQ, mksQ, appQ, partsOk, partsCells, delB, eqL, SameI, strOp, apzQ, cvtQ, capV, ↓reduceIte, Zj, Zk, Nat.reduceAdd, Nat.reduceLT, Nat.reduceEqDiff, Nat.reduceMul, Nat.reduceLeDiff, if_true, Zn, reduceCtorEq, ZA, eq_self, Int.reduceLE, Int.reduceLT, Int.reduceToNat, ne_eq, Nat.reduceSub, mz, sz, e]
        repeat refine And.intro (by omega) ?_
        exact ⟨_, SubP.refl _, SlN.row ⟨rfl, Nat.zero_le _, by simpa using hr', rest', rfl⟩⟩
    · have tr := told_range (h1 hn) hR
      have hb0 := hR _ (h1 hn) 0 (.int .i64 (l.getD 0 0)) (ints_get (by cases l with | nil => exact absurd rfl hn | cons a l => simp))
      skip
      simp (maxSteps := 2000000) (disch := first | (simp only [E4, tr] <;> omega) | omega | fail) only [↓E2, E3, bare, bareJ, ↓E0, E1, evP, evPlan, env0, envN, evOps, evOp, evQs, evQ, evV, setD, pureOp, ev, upd, updL, gate, binW, eqOp, binV, intOp, shOp, boolOp, unV, convV, nilV, fieldAddrV, indexAddrV, extractV, cellAt, cellsAt, findB, setB, fillL, buildV, Value.cells, lenV, minV, maxV, hav, sliceV, loV, hiV, bslQ, mksQ, appQ, partsOk, partsCells, delB, eqL, SameI, strOp, apzQ, cvtQ, capV, ↓reduceIte, Zj, Zk, Nat.reduceAdd, Nat.reduceLT, Nat.reduceEqDiff, Nat.reduceMul, Nat.reduceLeDiff, if_true, Zn, reduceCtorEq, ZA, eq_self, Int.reduceLE, Int.reduceLT, Int.reduceToNat, ne_eq, Nat.reduceSub, Tby2, Tslc47, Tslce47, Tzero2, tr]
      repeat refine And.intro (by omega) ?_
      intro b1 hb1
      have n1 : ¬ b1 = b := told_ne hb1 hb0
      skip
      simp (maxSteps := 2000000) (disch := first | (simp only [E4, tr, n1] <;> omega) | omega | fail) only [↓E2, E3, bare, bareJ, ↓E0, E1, evP, evPlan, env0, envN, evOps, evOp, evQs, evQ, evV, setD, pureOp, ev, upd, updL, gate, binW, eqOp, binV, intOp, shOp, boolOp, unV, convV, nilV, fieldAddrV, indexAddrV, extractV, cellAt, cellsAt, findB, setB, fillL, buildV, Value.cells, lenV, minV, maxV, hav, sliceV, loV, hiV, bslQ, mksQ, appQ, partsOk, partsCells, delB, eqL, SameI, strOp, apzQ, cvtQ, capV, ↓reduceIte, Zj, Zk, Nat.reduceAdd, Nat.reduceLT, Nat.reduceEqDiff, Nat.reduceMul, Nat.reduceLeDiff, if_true, Zn, reduceCtorEq, ZA, eq_self, Int.reduceLE, Int.reduceLT, Int.reduceToNat, ne_eq, Nat.reduceSub, Tby2, Tslc47, Tslce47, Tzero2, tr, n1]
      repeat refine And.intro (by omega) ?_
      intro b' cap' rest' hf hc hr'
      repeat refine And.intro (by omega) ?_
      intro g
      simp only [List.map_cons, List.map_nil, updL, upd, Nat.reduceEqDiff, if_true, if_false, ↓reduceIte]
      refine hK _ _ ?_; clear hK K
      refine Cd.drop (M' := [(b', ints .i64 l ++ rest')]) (List.Sublist.cons_cons _ (List.nil_sublist _)) ?_
      refine Cd.ret ?_
      simp (maxSteps := 2000000) (disch := first | (simp only [E4, tr, n1] <;> omega) | omega | fail) only [↓E2, E3, bare, bareJ, ↓E0, E1, evP, evPlan, env0, envN, evOps, evOp, evQs, evQ, evV, setD, pureOp, ev, upd, updL, gate, binW, eqOp, binV, intOp, shOp, boolOp, unV, convV, nilV, fieldAddrV, indexAddrV, extractV, cellAt, cellsAt, findB, setB, fillL, buildV, Value.cells, lenV, minV, maxV, hav, sliceV, loV, hiV, bslQ, mksQ, appQ, partsOk, partsCells, delB, eqL, SameI, strOp, apzQ, cvtQ, capV, ↓reduceIte, Zj, Zk, Nat.reduceAdd, Nat.reduceLT, Nat.reduceEqDiff, Nat.reduceMul, Nat.reduceLeDiff, if_true, Zn, reduceCtorEq, ZA, eq_self, Int.reduceLE, Int.reduceLT, Int.reduceToNat, ne_eq, Nat.reduceSub, tr, n1]
      repeat refine And.intro (by omega) ?_
      exact ⟨_, SubP.refl _, SlN.row (Row.first (by rw [ints_length, Nat.mul_one]) hc (by omega))⟩

theorem Clone_c (l : List Int) (R : Rd) (v : Value) (h : RdO R l v) (hb : l.length ≤ 100000000) : GivesX Try.prog 130 #[v] [] R (SlN 1 (ints .i64 l)) := by
  refine GivesX.part ?_
  rcases h with ⟨rfl, cap, rfl⟩ | ⟨b, o, cap, rfl, h0, h1⟩
  · refine GivesX.of (callable_of Try.func130 rfl (by decide)) ?_ fun w hnd hlt hR => ?_
    · simp
    refine acall_of (N := 8) (c := _) (rs := [.tmp 2]) (args := [_]) Try.func130 rfl (by decide) rfl rfl (Nat.le_of_ble_eq_true rfl) ?_
    refine Cd.rs [0] fun K hK => ?_
    simp (maxSteps := 2000000) (disch := first | (simp only [E4] <;> omega) | omega | fail) only [↓E2, E3, bare, bareJ, ↓E0, E1, evP, evPlan, env0, envN, evOps, evOp, evQs, evQ, evV, setD, pureOp, ev, upd, updL, gate, binW, eqOp, binV, intOp, shOp, boolOp, unV, convV, nilV, fieldAddrV, indexAddrV, extractV, cellAt, cellsAt, findB, setB, fillL, buildV, Value.cells, lenV, minV, maxV, hav, sliceV, loV, hiV, bslQ, mksQ, appQ, partsOk, partsCells, delB, eqL, SameI, strOp, apzQ, cvtQ, capV, ↓reduceIte, Zj, Zk, Nat.reduceAdd, Nat.reduceLT, Nat.reduceEqDiff, Nat.reduceMul, Nat.reduceLeDiff, if_true, Zn, reduceCtorEq, ZA, eq_self, Int.reduceLE, Int.reduceLT, Int.reduceToNat, ne_eq, Nat.reduceSub]
    repeat refine And.intro (by omega) ?_
    repeat refine And.intro (by omega) ?_
    intro g
    simp only [List.map_cons, List.map_nil, updL, upd, Nat.reduceEqDiff, if_true, if_false, ↓reduceIte]
    refine hK _ _ ?_; clear hK K
    refine Cd.seq ?_
    refine Cd.rs [0, 4] fun K hK => ?_
    simp (maxSteps := 2000000) (disch := first | (simp only [E4] <;> omega) | omega | fail) only [↓E2, E3, bare, bareJ, ↓E0, E1, evP, evPlan, env0, envN, evOps, evOp, evQs, evQ, evV, setD, pureOp, ev, upd, updL, gate, binW, eqOp, binV, intOp, shOp, boolOp, unV, convV, nilV, fieldAddrV, indexAddrV, extractV, cellAt, cellsAt, findB, setB, fillL, buildV, Value.cells, lenV, minV, maxV, hav, sliceV, loV, hiV, bslQ, mksQ, appQ, partsOk, partsCells, delB, eqL, SameI, strOp, apzQ, cvtQ, capV, ↓reduceIte, Zj, Zk, Nat.reduceAdd, Nat.reduceLT, Nat.reduceEqDiff, Nat.reduceMul, Nat.reduceLeDiff, if_true, Zn, reduceCtorEq, ZA, eq_self, Int.reduceLE, Int.reduceLT, Int.reduceToNat, ne_eq, Nat.reduceSub, Tslce47]
    repeat refine And.intro (by omega) ?_
    repeat refine And.intro (by omega) ?_
    intro g
    simp only [List.map_cons, List.map_nil, updL, upd, Nat.reduceEqDiff, if_true, if_false, ↓reduceIte]
    refine hK _ _ ?_; clear hK K
    refine Cd.yes rfl ?_
    refine Cd.rs [2] fun K hK => ?_
    simp (maxSteps := 2000000) (disch := first | (simp only [E4] <;> omega) | omega | fail) only [↓E2, E3, bare, bareJ, ↓E0, E1, evP, evPlan, env0, envN, evOps, evOp, evQs, evQ, evV, setD, pureOp, ev, upd, updL, gate, binW, eqOp, binV, intOp, shOp, boolOp, unV, convV, nilV, fieldAddrV, indexAddrV, extractV, cellAt, cellsAt, findB, setB, fillL, buildV, Value.cells, lenV, minV, maxV, hav, sliceV, loV, hiV, bslQ, mksQ, appQ, partsOk, partsCells, delB, eqL, SameI, strOp, apzQ, cvtQ, capV, ↓reduceIte, Zj, Zk, Nat.reduceAdd, Nat.reduceLT, Nat.reduceEqDiff, Nat.reduceMul, Nat.reduceLeDiff, if_true, Zn, reduceCtorEq, ZA, eq_self, Int.reduceLE, Int.reduceLT, Int.reduceToNat, ne_eq, Nat.reduceSub]
    repeat refine And.intro (by omega) ?_
    repeat refine And.intro (by omega) ?_
    intro g
    simp only [List.map_cons, List.map_nil, updL, upd, Nat.reduceEqDiff, if_true, if_false, ↓reduceIte]
    refine hK _ _ ?_; clear hK K
    refine Cd.ret (thenR ?_)
    simp (maxSteps := 2000000) (disch := first | (simp only [E4] <;> omega) | omega | fail) only [↓E2, E3, bare, bareJ, ↓E0, E1, evP, evPlan, env0, envN, evOps, evOp, evQs, evQ, evV, setD, pureOp, ev, upd, updL, gate, binW, eqOp, binV, intOp, shOp, boolOp, unV, convV, nilV, fieldAddrV, indexAddrV, extractV, cellAt, cellsAt, findB, setB, fillL, buildV, Value.cells, lenV, minV, maxV, hav, sliceV, loV, hiV, bslQ, mksQ, appQ, partsOk, partsCells, delB, eqL, SameI, strOp, apzQ, cvtQ, capV, ↓reduceIte, Zj, Zk, Nat.reduceAdd, Nat.reduceLT, Nat.reduceEqDiff, Nat.reduceMul, Nat.reduceLeDiff, if_true, Zn, reduceCtorEq, ZA, eq_self, Int.reduceLE, Int.reduceLT, Int.reduceToNat, ne_eq, Nat.reduceSub]
    repeat refine And.intro (by omega) ?_
    exact ⟨_, SubP.refl _, SlN.nil 1⟩
  · refine GivesX.of (callable_of Try.func130 rfl (by decide)) ?_ fun w hnd hlt hR => ?_
    · simp
    refine acall_of (N := 8) (c := _) (rs := [.tmp 2]) (args := [_]) Try.func130 rfl (by decide) rfl rfl (Nat.le_of_ble_eq_true rfl) ?_
    have hR : W8.Told [] w R := hR
    refine Cd.rs [0] fun K hK => ?_
    simp (maxSteps := 2000000) (disch := first | (simp only [E4] <;> omega) | omega | fail) only [↓E2, E3, bare, bareJ, ↓E0, E1, evP, evPlan, env0, envN, evOps, evOp, evQs, evQ, evV, setD, pureOp, ev, upd, updL, gate, binW, eqOp, binV, intOp, shOp, boolOp, unV, convV, nilV, fieldAddrV, indexAddrV, extractV, cellAt, cellsAt, findB, setB, fillL, buildV, Value.cells, lenV, minV, maxV, hav, sliceV, loV, hiV, bslQ, mksQ, appQ, partsOk, partsCells, delB, eqL, SameI, strOp, apzQ, cvtQ, capV, ↓reduceIte, Zj, Zk, Nat.reduceAdd, Nat.reduceLT, Nat.reduceEqDiff, Nat.reduceMul, Nat.reduceLeDiff, if_true, Zn, reduceCtorEq, ZA, eq_self, Int.reduceLE, Int.reduceLT, Int.reduceToNat, ne_eq, Nat.reduceSub]
    repeat refine And.intro (by omega) ?_
    repeat refine And.intro (by omega) ?_
    intro g
    simp only [List.map_cons, List.map_nil, updL, upd, Nat.reduceEqDiff, if_true, if_false, ↓reduceIte]
    refine hK _ _ ?_; clear hK K
    refine Cd.seq ?_
    refine Cd.rs [0, 4] fun K hK => ?_
    simp (maxSteps := 2000000) (disch := first | (simp only [E4] <;> omega) | omega | fail) only [↓E2, E3, bare, bareJ, ↓E0, E1, evP, evPlan, env0, envN, evOps, evOp, evQs, evQ, evV, setD, pureOp, ev, upd, updL, gate, binW, eqOp, binV, intOp, shOp, boolOp, unV, convV, nilV, fieldAddrV, indexAddrV, extractV, cellAt, cellsAt, findB, setB, fillL, buildV, Value.cells, lenV, minV, maxV, hav, sliceV, loV, hiV, bslQ, mksQ, appQ, partsOk, partsCells, delB, eqL, SameI, strOp, apzQ, cvtQ, capV, ↓reduceIte, Zj, Zk, Nat.reduceAdd, Nat.reduceLT, Nat.reduceEqDiff, Nat.reduceMul, Nat.reduceLeDiff, if_true, Zn, reduceCtorEq, ZA, eq_self, Int.reduceLE, Int.reduceLT, Int.reduceToNat, ne_eq, Nat.reduceSub, Tslce47]
    repeat refine And.intro (by omega) ?_
    repeat refine And.intro (by omega) ?_
    intro g
    simp only [List.map_cons, List.map_nil, updL, upd, Nat.reduceEqDiff, if_true, if_false, ↓reduceIte]
    refine hK _ _ ?_; clear hK K
    refine Cd.no rfl ?_
    refine Cd.skip ?_
    refine thenN ?_
    refine Cd.rs [2] fun K hK => ?_
    by_cases hn : l = []
    · subst hn
      obtain rfl := h0 rfl
      have mz : ∀ f : Nat → Option Value, (List.range 0).mapM f = some [] := fun _ => rfl
      have sz : subL [] 0 0 = [] := rfl
      skip
      simp (maxSteps := 2000000) (disch := first | (simp only [E4, mz, sz] <;> omega) | omega | fail) only [↓E2, E3, bare, bareJ, ↓E0, E1, evP, evPlan, env0, envN, evOps, evOp, evQs, evQ, evV, setD, pureOp, ev, upd, updL, gate, binW, eqOp, binV, intOp, shOp, boolOp, unV, convV, nilV, fieldAddrV, indexAddrV, extractV, cellAt, cellsAt, findB, setB, fillL, buildV, Value.cells, lenV, minV, maxV, hav, sliceV, loV, hiV, bslQ, mksQ, appQ, partsOk, partsCells, delB, eqL, SameI, strOp, apzQ, cvtQ, capV, ↓reduceIte, Zj, Zk, Nat.reduceAdd, Nat.reduceLT, Nat.reduceEqDiff, Nat.reduceMul, Nat.reduceLeDiff, if_true, Zn, reduceCtorEq, ZA, eq_self, Int.reduceLE, Int.reduceLT, Int.reduceToNat, ne_eq, Nat.reduceSub, Tby2, Tslc47, Tslce47, Tzero2, mz, sz]
      repeat refine And.intro (by omega) ?_
      intro b1 hb1
      by_cases e : b1 = b
      all_goals
        skip
        simp (maxSteps := 2000000) (disch := first | (simp only [E4, mz, sz, e] <;> omega) | omega | fail) only [↓E2, E3, bare, bareJ, ↓E0, E1, evP, evPlan, env0, envN, evOps, evOp, evQs, evQ, evV, setD, pureOp, ev, upd, updL, gate, binW, eqOp, binV, intOp, shOp, boolOp, unV, convV, nilV, fieldAddrV, indexAddrV, extractV, cellAt, cellsAt, findB, setB, fillL, buildV, Value.cells, lenV, minV, maxV, hav, sliceV, loV, hiV, bslQ, mksQ, appQ, partsOk, partsCells, delB, eqL, SameI, strOp, apzQ, cvtQ, capV, ↓reduceIte, Zj, Zk, Nat.reduceAdd, Nat.reduceLT, Nat.reduceEqDiff, Nat.reduceMul, Nat.reduceLeDiff, if_true, Zn, reduceCtorEq, ZA, eq_self, Int.reduceLE, Int.reduceLT, Int.reduceToNat, ne_eq, Nat.reduceSub, Tby2, Tslc47, Tslce47, Tzero2, mz, sz, e]
        repeat refine And.intro (by omega) ?_
        intro b' cap' rest' hf hr'
        repeat refine And.intro (by omega) ?_
        intro g
        simp only [List.map_cons, List.map_nil, updL, upd, Nat.reduceEqDiff, if_true, if_false, ↓reduceIte]
        refine hK _ _ ?_; clear hK K
        refine Cd.ret ?_
        simp (maxSteps := 2000000) (disch := first | (simp only [E4, mz, sz, e] <;> omega) | omega | fail) only [↓E2, E3, bare, bareJ, ↓E0, E1, evP, evPlan, env0, envN, evOps, evOp, evQs, evQ, evV, setD, pureOp, ev, upd, updL, gate, binW, eqOp, binV, intOp, shOp, boolOp, unV, convV, nilV, fieldAddrV, indexAddrV, extractV, cellAt, cellsAt, findB, setB, fillL, buildV, Value.cells, lenV, minV, maxV, hav, sliceV, loV, hiV, bslQ, mksQ, appQ, partsOk, partsCells, delB, eqL, SameI, strOp, apzQ, cvtQ, capV, ↓reduceIte, Zj, Zk, Nat.reduceAdd, Nat.reduceLT, Nat.reduceEqDiff, Nat.reduceMul, Nat.reduceLeDiff, if_true, Zn, reduceCtorEq, ZA, eq_self, Int.reduceLE, Int.reduceLT, Int.reduceToNat, ne_eq, Nat.reduceSub, mz, sz, e]
        repeat refine And.intro (by omega) ?_
        exact ⟨_, SubP.refl _, SlN.row ⟨rfl, Nat.zero_le _, by simpa using hr', rest', rfl⟩⟩
    · have tr := told_range (h1 hn) hR
      have hb0 := hR _ (h1 hn) 0 (.int .i64 (l.getD 0 0)) (ints_get (by cases l with | nil => exact absurd rfl hn | cons a l => simp))
      skip
      simp (maxSteps := 2000000) (disch := first | (simp only [E4, tr] <;> omega) | omega | fail) only [↓E2, E3, bare, bareJ, ↓E0, E1, evP, evPlan, env0, envN, evOps, evOp, evQs, evQ, evV, setD, pureOp, ev, upd, updL, gate, binW, eqOp, binV, intOp, shOp, boolOp, unV, convV, nilV, fieldAddrV, indexAddrV, extractV, cellAt, cellsAt, findB, setB, fillL, buildV, Value.cells, lenV, minV, maxV, hav, sliceV, loV, hiV, bslQ, mksQ, appQ, partsOk, partsCells, delB, eqL, SameI, strOp, apzQ, cvtQ, capV, ↓reduceIte, Zj, Zk, Nat.reduceAdd, Nat.reduceLT, Nat.reduceEqDiff, Nat.reduceMul, Nat.reduceLeDiff, if_true, Zn, reduceCtorEq, ZA, eq_self, Int.reduceLE, Int.reduceLT, Int.reduceToNat, ne_eq, Nat.reduceSub, Tby2, Tslc47, Tslce47, Tzero2, tr]
      repeat refine And.intro (by omega) ?_
      intro b1 hb1
      have n1 : ¬ b1 = b := told_ne hb1 hb0
      skip
      simp (maxSteps := 2000000) (disch := first | (simp only [E4, tr, n1] <;> omega) | omega | fail) only [↓E2, E3, bare, bareJ, ↓E0, E1, evP, evPlan, env0, envN, evOps, evOp, evQs, evQ, evV, setD, pureOp, ev, upd, updL, gate, binW, eqOp, binV, intOp, shOp, boolOp, unV, convV, nilV, fieldAddrV, indexAddrV, extractV, cellAt, cellsAt, findB, setB, fillL, buildV, Value.cells, lenV, minV, maxV, hav, sliceV, loV, hiV, bslQ, mksQ, appQ, partsOk, partsCells, delB, eqL, SameI, strOp, apzQ, cvtQ, capV, ↓reduceIte, Zj, Zk, Nat.reduceAdd, Nat.reduceLT, Nat.reduceEqDiff, Nat.reduceMul, Nat.reduceLeDiff, if_true, Zn, reduceCtorEq, ZA, eq_self, Int.reduceLE, Int.reduceLT, Int.reduceToNat, ne_eq, Nat.reduceSub, Tby2, Tslc47, Tslce47, Tzero2, tr, n1]
      repeat refine And.intro (by omega) ?_
      intro b' cap' rest' hf hc hr'
      repeat refine And.intro (by omega) ?_
      intro g
      simp only [List.map_cons, List.map_nil, updL, upd, Nat.reduceEqDiff, if_true, if_false, ↓reduceIte]
      refine hK _ _ ?_; clear hK K
      refine Cd.drop (M' := [(b', ints .i64 l ++ rest')]) (List.Sublist.cons_cons _ (List.nil_sublist _)) ?_
      refine Cd.ret ?_
      simp (maxSteps := 2000000) (disch := first | (simp only [E4, tr, n1] <;> omega) | omega | fail) only [↓E2, E3, bare, bareJ, ↓E0, E1, evP, evPlan, env0, envN, evOps, evOp, evQs, evQ, evV, setD, pureOp, ev, upd, updL, gate, binW, eqOp, binV, intOp, shOp, boolOp, unV, convV, nilV, fieldAddrV, indexAddrV, extractV, cellAt, cellsAt, findB, setB, fillL, buildV, Value.cells, lenV, minV, maxV, hav, sliceV, loV, hiV, bslQ, mksQ, appQ, partsOk, partsCells, delB, eqL, SameI, strOp, apzQ, cvtQ, capV, ↓reduceIte, Zj, Zk, Nat.reduceAdd, Nat.reduceLT, Nat.reduceEqDiff, Nat.reduceMul, Nat.reduceLeDiff, if_true, Zn, reduceCtorEq, ZA, eq_self, Int.reduceLE, Int.reduceLT, Int.reduceToNat, ne_eq, Nat.reduceSub, tr, n1]
      repeat refine And.intro (by omega) ?_
      exact ⟨_, SubP.refl _, SlN.row (Row.first (by rw [ints_length, Nat.mul_one]) hc (by omega))⟩
section
variable (low : Int) (l : List Int) (R : Rd) (v : Value) (h : RdS R 1 (ints .i64 l) v) (hb : l.length ≤ 1000000) (wl : -1000000 ≤ low ∧ low ≤ 1000000)
include h hb wl
theorem l04Trim_c : GivesX Try.prog 168 #[.int .i64 low, v] [] R (LauV (trimLow low l) (trimL l)) := by
  obtain ⟨a, m, cap, rfl, hm, _⟩ := id h
  obtain rfl := lauLen hm
  refine GivesX.part ?_
  refine GivesX.of (callable_of Try.func168 rfl (by decide)) ?_ fun w hnd hlt hR => ?_
  · simp
  refine acall_of (N := 46) (c := _) (rs := [.cell 4 56]) (args := [_, _]) Try.func168 rfl (by decide) rfl rfl (Nat.le_of_ble_eq_true rfl) ?_
  have hR : W8.Told [] w R := hR
  refine Cd.rs [0, 1, 4] fun K hK => ?_
  simp (maxSteps := 2000000) (disch := first | (simp only [E4] <;> omega) | omega | fail) only [↓E2, E3, bare, bareJ, ↓E0, E1, evP, evPlan, env0, envN, evOps, evOp, evQs, evQ, evV, setD, pureOp, ev, upd, updL, gate, binW, eqOp, binV, intOp, shOp, boolOp, unV, convV, nilV, fieldAddrV, indexAddrV, extractV, cellAt, cellsAt, findB, setB, fillL, buildV, Value.cells, lenV, minV, maxV, hav, sliceV, loV, hiV, bslQ, mksQ, appQ, partsOk, partsCells, delB, eqL, SameI, strOp, apzQ, cvtQ, capV, ↓reduceIte, Zj, Zk, Nat.reduceAdd, Nat.reduceLT, Nat.reduceEqDiff, Nat.reduceMul, Nat.reduceLeDiff, if_true, Zn, reduceCtorEq, ZA, eq_self, Int.reduceLE, Int.reduceLT, Int.reduceToNat, ne_eq, Nat.reduceSub, Tzero56]
  repeat refine And.intro (by omega) ?_
  intro b1 hb1
  try simp (maxSteps := 2000000) (disch := first | (simp only [E4] <;> omega) | omega | fail) only [↓E2, E3, bare, bareJ, ↓E0, E1, evP, evPlan, env0, envN, evOps, evOp, evQs, evQ, evV, setD, pureOp, ev, upd, updL, gate, binW, eqOp, binV, intOp, shOp, boolOp, unV, convV, nilV, fieldAddrV, indexAddrV, extractV, cellAt, cellsAt, findB, setB, fillL, buildV, Value.cells, lenV, minV, maxV, hav, sliceV, loV, hiV, bslQ, mksQ, appQ, partsOk, partsCells, delB, eqL, SameI, strOp, apzQ, cvtQ, capV, ↓reduceIte, Zj, Zk, Nat.reduceAdd, Nat.reduceLT, Nat.reduceEqDiff, Nat.reduceMul, Nat.reduceLeDiff, if_true, Zn, reduceCtorEq, ZA, eq_self, Int.reduceLE, Int.reduceLT, Int.reduceToNat, ne_eq, Nat.reduceSub, Tzero56]
  repeat refine And.intro (by omega) ?_
  repeat refine And.intro (by omega) ?_
  intro g
  simp only [List.map_cons, List.map_nil, updL, upd, Nat.reduceEqDiff, if_true, if_false, ↓reduceIte]
  refine hK _ _ ?_; clear hK K
  refine Cd.rs [0, 1, 4, 5, 6] fun K hK => ?_
  simp (maxSteps := 2000000) (disch := first | (simp only [E4] <;> omega) | omega | fail) only [↓E2, E3, bare, bareJ, ↓E0, E1, evP, evPlan, env0, envN, evOps, evOp, evQs, evQ, evV, setD, pureOp, ev, upd, updL, gate, binW, eqOp, binV, intOp, shOp, boolOp, unV, convV, nilV, fieldAddrV, indexAddrV, extractV, cellAt, cellsAt, findB, setB, fillL, buildV, Value.cells, lenV, minV, maxV, hav, sliceV, loV, hiV, bslQ, mksQ, appQ, partsOk, partsCells, delB, eqL, SameI, strOp, apzQ, cvtQ, capV, ↓reduceIte, Zj, Zk, Nat.reduceAdd, Nat.reduceLT, Nat.reduceEqDiff, Nat.reduceMul, Nat.reduceLeDiff, if_true, Zn, reduceCtorEq, ZA, eq_self, Int.reduceLE, Int.reduceLT, Int.reduceToNat, ne_eq, Nat.reduceSub, Tslce47]
  repeat refine And.intro (by omega) ?_
  repeat refine And.intro (by omega) ?_
  intro g
  simp only [List.map_cons, List.map_nil, updL, upd, Nat.reduceEqDiff, if_true, if_false, ↓reduceIte]
  refine hK _ _ ?_; clear hK K
  refine Cd.seq ?_
  refine Cd.block ?_
  refine Cd.loop (fun t ρ M => ∃ g, t ≤ l.length ∧ trEnd l t = trE l ∧ ρ = updL [(0, .int .i64 low), (1, .slice a l.length cap), (4, .pointer (some ⟨b1, 0, none⟩)), (5, .int .i64 0), (6, .int .i64 (t : Int))] g ∧ M = [(b1, [.int .i64 0, .slice none 0 0])]) l.length ⟨_, Nat.le_refl _, rfl, rfl, rfl⟩ ?_
  rintro t ρ M ⟨g, ht, he, rfl, rfl⟩
  refine Cd.seq ?_
  refine Cd.rs [0, 1, 4, 5, 6, 18] fun K hK => ?_
  simp (maxSteps := 2000000) (disch := first | (simp only [E4] <;> omega) | omega | fail) only [↓E2, E3, bare, bareJ, ↓E0, E1, evP, evPlan, env0, envN, evOps, evOp, evQs, evQ, evV, setD, pureOp, ev, upd, updL, gate, binW, eqOp, binV, intOp, shOp, boolOp, unV, convV, nilV, fieldAddrV, indexAddrV, extractV, cellAt, cellsAt, findB, setB, fillL, buildV, Value.cells, lenV, minV, maxV, hav, sliceV, loV, hiV, bslQ, mksQ, appQ, partsOk, partsCells, delB, eqL, SameI, strOp, apzQ, cvtQ, capV, ↓reduceIte, Zj, Zk, Nat.reduceAdd, Nat.reduceLT, Nat.reduceEqDiff, Nat.reduceMul, Nat.reduceLeDiff, if_true, Zn, reduceCtorEq, ZA, eq_self, Int.reduceLE, Int.reduceLT, Int.reduceToNat, ne_eq, Nat.reduceSub, Tld2, Tslc47]
  repeat refine And.intro (by omega) ?_
  apply guardX_and 6 [12, 13, 14, 15, 16, 17] (j := 2) (d := 11) (tp := 18) (tl := 17) (x := l.getD (t - 1) 0 == 0) rfl rfl rfl rfl rfl
  · intro hq
    simp only [decide_eq_true_eq, decide_eq_false_iff_not, beq_iff_eq, beq_eq_false_iff_ne, bne_iff_ne, bne_eq_false_iff_eq, Bool.and_eq_true, Bool.or_eq_true, Bool.or_eq_false_iff, Bool.not_eq_true', Bool.not_eq_false', Bool.and_eq_false_imp, ne_eq, gt_iff_lt, ge_iff_le, Int.not_lt, Int.not_le, Classical.not_not] at hq
    obtain ⟨b, rfl, q1⟩ := rd_int h hR (k := t - 1) (by omega)
    have n1 := told_ne hb1 q1
    have e1 : ((t : Int) - 1).toNat = t - 1 := by omega
    skip
    simp (maxSteps := 2000000) (disch := first | (simp only [E4, q1, n1, e1] <;> omega) | omega | fail) only [↓E2, E3, bare, bareJ, ↓E0, E1, evP, evPlan, env0, envN, evOps, evOp, evQs, evQ, evV, setD, pureOp, ev, upd, updL, gate, binW, eqOp, binV, intOp, shOp, boolOp, unV, convV, nilV, fieldAddrV, indexAddrV, extractV, cellAt, cellsAt, findB, setB, fillL, buildV, Value.cells, lenV, minV, maxV, hav, sliceV, loV, hiV, bslQ, mksQ, appQ, partsOk, partsCells, delB, eqL, SameI, strOp, apzQ, cvtQ, capV, ↓reduceIte, Zj, Zk, Nat.reduceAdd, Nat.reduceLT, Nat.reduceEqDiff, Nat.reduceMul, Nat.reduceLeDiff, if_true, Zn, reduceCtorEq, ZA, eq_self, Int.reduceLE, Int.reduceLT, Int.reduceToNat, ne_eq, Nat.reduceSub, Tld2, Tslc47, q1, n1, e1]
    repeat refine And.intro (by omega) ?_
    first | omega | exact rfl
  intro g
  simp (maxSteps := 2000000) (disch := first | (simp only [E4] <;> omega) | omega | fail) only [↓E2, E3, bare, bareJ, ↓E0, E1, evP, evPlan, env0, envN, evOps, evOp, evQs, evQ, evV, setD, pureOp, ev, upd, updL, gate, binW, eqOp, binV, intOp, shOp, boolOp, unV, convV, nilV, fieldAddrV, indexAddrV, extractV, cellAt, cellsAt, findB, setB, fillL, buildV, Value.cells, lenV, minV, maxV, hav, sliceV, loV, hiV, bslQ, mksQ, appQ, partsOk, partsCells, delB, eqL, SameI, strOp, apzQ, cvtQ, capV, ↓reduceIte, Zj, Zk, Nat.reduceAdd, Nat.reduceLT, Nat.reduceEqDiff, Nat.reduceMul, Nat.reduceLeDiff, if_true, Zn, reduceCtorEq, ZA, eq_self, Int.reduceLE, Int.reduceLT, Int.reduceToNat, ne_eq, Nat.reduceSub, Tld2, Tslc47]
  repeat refine And.intro (by omega) ?_
  repeat refine And.intro (by omega) ?_
  intro g
  simp only [List.map_cons, List.map_nil, updL, upd, Nat.reduceEqDiff, if_true, if_false, ↓reduceIte]
  refine hK _ _ ?_; clear hK K
  refine Cd.cond rfl (fun h1 => ?_) (fun h1 => ?_)
  · simp only [decide_eq_true_eq, decide_eq_false_iff_not, beq_iff_eq, beq_eq_false_iff_ne, bne_iff_ne, bne_eq_false_iff_eq, Bool.and_eq_true, Bool.or_eq_true, Bool.or_eq_false_iff, Bool.not_eq_true', Bool.not_eq_false', Bool.and_eq_false_imp, ne_eq, gt_iff_lt, ge_iff_le, Int.not_lt, Int.not_le, Classical.not_not] at h1
    refine Cd.skip ?_
    refine thenN ?_
    refine Cd.block ?_
    refine Cd.rr [0, 1, 4, 5, 6] fun K hK => ?_
    simp (maxSteps := 2000000) (disch := first | (simp only [E4] <;> omega) | omega | fail) only [↓E2, E3, bare, bareJ, ↓E0, E1, evP, evPlan, env0, envN, evOps, evOp, evQs, evQ, evV, setD, pureOp, ev, upd, updL, gate, binW, eqOp, binV, intOp, shOp, boolOp, unV, convV, nilV, fieldAddrV, indexAddrV, extractV, cellAt, cellsAt, findB, setB, fillL, buildV, Value.cells, lenV, minV, maxV, hav, sliceV, loV, hiV, bslQ, mksQ, appQ, partsOk, partsCells, delB, eqL, SameI, strOp, apzQ, cvtQ, capV, ↓reduceIte, Zj, Zk, Nat.reduceAdd, Nat.reduceLT, Nat.reduceEqDiff, Nat.reduceMul, Nat.reduceLeDiff, if_true, Zn, reduceCtorEq, ZA, eq_self, Int.reduceLE, Int.reduceLT, Int.reduceToNat, ne_eq, Nat.reduceSub]
    repeat refine And.intro (by omega) ?_
    repeat refine And.intro (by omega) ?_
    intro g
    simp only [List.map_cons, List.map_nil, updL, upd, Nat.reduceEqDiff, if_true, if_false, ↓reduceIte]
    refine hK _ _ ?_; clear hK K
    refine inBN ?_
    have e0 : ((t : Int) - 1) = ((t - 1 : Nat) : Int) := by omega
    rw [e0]
    refine roundN (m := t - 1) (by omega) ⟨_, by omega, ?_, rfl, rfl⟩
    rw [← he]
    have := trEnd_zero h1.2
    rw [show t - 1 + 1 = t by omega] at this
    exact this.symm
  · have hE : trE l = t := by
      rw [← he]
      rcases Nat.eq_zero_or_pos t with h0 | h0
      · subst h0; rfl
      · have hne : ¬ l.getD (t - 1) 0 = 0 := fun e => by
          rw [e, decide_eq_true (by omega)] at h1
          cases h1
        have := trEnd_one hne
        rw [show t - 1 + 1 = t by omega] at this
        exact this
    clear h1 he
    refine Cd.exit (thenX (roundX (inBX ?_)))
    refine thenN ?_
    refine Cd.seq ?_
    refine Cd.block ?_
    refine Cd.loop (fun d ρ M => ∃ g, d ≤ t ∧ trBeg l t d = trF l ∧ ρ = updL [(0, .int .i64 low), (1, .slice a l.length cap), (4, .pointer (some ⟨b1, 0, none⟩)), (5, .int .i64 ((t - d : Nat) : Int)), (6, .int .i64 (t : Int))] g ∧ M = [(b1, [.int .i64 0, .slice none 0 0])]) t ⟨_, Nat.le_refl _, by unfold trF; rw [hE], by rw [Nat.sub_self]; rfl, rfl⟩ ?_
    rintro d ρ M ⟨g, hd, he, rfl, rfl⟩
    refine Cd.seq ?_
    refine Cd.rs [0, 1, 4, 5, 6, 30] fun K hK => ?_
    simp (maxSteps := 2000000) (disch := first | (simp only [E4] <;> omega) | omega | fail) only [↓E2, E3, bare, bareJ, ↓E0, E1, evP, evPlan, env0, envN, evOps, evOp, evQs, evQ, evV, setD, pureOp, ev, upd, updL, gate, binW, eqOp, binV, intOp, shOp, boolOp, unV, convV, nilV, fieldAddrV, indexAddrV, extractV, cellAt, cellsAt, findB, setB, fillL, buildV, Value.cells, lenV, minV, maxV, hav, sliceV, loV, hiV, bslQ, mksQ, appQ, partsOk, partsCells, delB, eqL, SameI, strOp, apzQ, cvtQ, capV, ↓reduceIte, Zj, Zk, Nat.reduceAdd, Nat.reduceLT, Nat.reduceEqDiff, Nat.reduceMul, Nat.reduceLeDiff, if_true, Zn, reduceCtorEq, ZA, eq_self, Int.reduceLE, Int.reduceLT, Int.reduceToNat, ne_eq, Nat.reduceSub, Tld2, Tslc47]
    repeat refine And.intro (by omega) ?_
    apply guardX_and 5 [25, 26, 27, 28, 29] (j := 3) (d := 24) (tp := 30) (tl := 29) (x := l.getD (t - d) 0 == 0) rfl rfl rfl rfl rfl
    · intro hq
      simp only [decide_eq_true_eq, decide_eq_false_iff_not, beq_iff_eq, beq_eq_false_iff_ne, bne_iff_ne, bne_eq_false_iff_eq, Bool.and_eq_true, Bool.or_eq_true, Bool.or_eq_false_iff, Bool.not_eq_true', Bool.not_eq_false', Bool.and_eq_false_imp, ne_eq, gt_iff_lt, ge_iff_le, Int.not_lt, Int.not_le, Classical.not_not] at hq
      obtain ⟨b, rfl, q1⟩ := rd_int h hR (k := t - d) (by omega)
      have n1 := told_ne hb1 q1
      skip
      simp (maxSteps := 2000000) (disch := first | (simp only [E4, q1, n1] <;> omega) | omega | fail) only [↓E2, E3, bare, bareJ, ↓E0, E1, evP, evPlan, env0, envN, evOps, evOp, evQs, evQ, evV, setD, pureOp, ev, upd, updL, gate, binW, eqOp, binV, intOp, shOp, boolOp, unV, convV, nilV, fieldAddrV, indexAddrV, extractV, cellAt, cellsAt, findB, setB, fillL, buildV, Value.cells, lenV, minV, maxV, hav, sliceV, loV, hiV, bslQ, mksQ, appQ, partsOk, partsCells, delB, eqL, SameI, strOp, apzQ, cvtQ, capV, ↓reduceIte, Zj, Zk, Nat.reduceAdd, Nat.reduceLT, Nat.reduceEqDiff, Nat.reduceMul, Nat.reduceLeDiff, if_true, Zn, reduceCtorEq, ZA, eq_self, Int.reduceLE, Int.reduceLT, Int.reduceToNat, ne_eq, Nat.reduceSub, Tld2, Tslc47, q1, n1]
      repeat refine And.intro (by omega) ?_
      first | omega | exact rfl
    intro g
    simp (maxSteps := 2000000) (disch := first | (simp only [E4] <;> omega) | omega | fail) only [↓E2, E3, bare, bareJ, ↓E0, E1, evP, evPlan, env0, envN, evOps, evOp, evQs, evQ, evV, setD, pureOp, ev, upd, updL, gate, binW, eqOp, binV, intOp, shOp, boolOp, unV, convV, nilV, fieldAddrV, indexAddrV, extractV, cellAt, cellsAt, findB, setB, fillL, buildV, Value.cells, lenV, minV, maxV, hav, sliceV, loV, hiV, bslQ, mksQ, appQ, partsOk, partsCells, delB, eqL, SameI, strOp, apzQ, cvtQ, capV, ↓reduceIte, Zj, Zk, Nat.reduceAdd, Nat.reduceLT, Nat.reduceEqDiff, Nat.reduceMul, Nat.reduceLeDiff, if_true, Zn, reduceCtorEq, ZA, eq_self, Int.reduceLE, Int.reduceLT, Int.reduceToNat, ne_eq, Nat.reduceSub, Tld2, Tslc47]
    repeat refine And.intro (by omega) ?_
    repeat refine And.intro (by omega) ?_
    intro g
    simp only [List.map_cons, List.map_nil, updL, upd, Nat.reduceEqDiff, if_true, if_false, ↓reduceIte]
    refine hK _ _ ?_; clear hK K
    refine Cd.cond rfl (fun h1 => ?_) (fun h1 => ?_)
    · simp only [decide_eq_true_eq, decide_eq_false_iff_not, beq_iff_eq, beq_eq_false_iff_ne, bne_iff_ne, bne_eq_false_iff_eq, Bool.and_eq_true, Bool.or_eq_true, Bool.or_eq_false_iff, Bool.not_eq_true', Bool.not_eq_false', Bool.and_eq_false_imp, ne_eq, gt_iff_lt, ge_iff_le, Int.not_lt, Int.not_le, Classical.not_not] at h1
      refine Cd.skip ?_
      refine thenN ?_
      refine Cd.block ?_
      refine Cd.rr [0, 1, 4, 5, 6] fun K hK => ?_
      simp (maxSteps := 2000000) (disch := first | (simp only [E4] <;> omega) | omega | fail) only [↓E2, E3, bare, bareJ, ↓E0, E1, evP, evPlan, env0, envN, evOps, evOp, evQs, evQ, evV, setD, pureOp, ev, upd, updL, gate, binW, eqOp, binV, intOp, shOp, boolOp, unV, convV, nilV, fieldAddrV, indexAddrV, extractV, cellAt, cellsAt, findB, setB, fillL, buildV, Value.cells, lenV, minV, maxV, hav, sliceV, loV, hiV, bslQ, mksQ, appQ, partsOk, partsCells, delB, eqL, SameI, strOp, apzQ, cvtQ, capV, ↓reduceIte, Zj, Zk, Nat.reduceAdd, Nat.reduceLT, Nat.reduceEqDiff, Nat.reduceMul, Nat.reduceLeDiff, if_true, Zn, reduceCtorEq, ZA, eq_self, Int.reduceLE, Int.reduceLT, Int.reduceToNat, ne_eq, Nat.reduceSub]
      repeat refine And.intro (by omega) ?_
      repeat refine And.intro (by omega) ?_
      intro g
      simp only [List.map_cons, List.map_nil, updL, upd, Nat.reduceEqDiff, if_true, if_false, ↓reduceIte]
      refine hK _ _ ?_; clear hK K
      refine inBN ?_
      have e0 : ((t - d : Nat) : Int) + 1 = ((t - (d - 1) : Nat) : Int) := by omega
      rw [e0]
      refine roundN (m := d - 1) (by omega) ⟨_, by omega, ?_, rfl, rfl⟩
      rw [← he]
      have := trBeg_zero (t := t) (d := d - 1) (l := l) (by rw [show t - (d - 1 + 1) = t - d by omega]; exact h1.2)
      rw [show d - 1 + 1 = d by omega] at this
      exact this.symm
    · have hF : trF l = t - d := by
        rw [← he]
        rcases Nat.eq_zero_or_pos d with h0 | h0
        · subst h0; rfl
        · have hne : ¬ l.getD (t - d) 0 = 0 := fun e => by
            rw [e, decide_eq_true (by omega)] at h1
            cases h1
          have := trBeg_one (t := t) (d := d - 1) (l := l) (by rw [show t - (d - 1 + 1) = t - d by omega]; exact hne)
          rw [show d - 1 + 1 = d by omega] at this
          exact this
      clear h1 he
      refine Cd.exit (thenX (roundX (inBX ?_)))
      refine thenN ?_
      refine Cd.seq ?_
      refine Cd.rs [0, 1, 4, 5, 6, 35] fun K hK => ?_
      simp (maxSteps := 2000000) (disch := first | (simp only [E4] <;> omega) | omega | fail) only [↓E2, E3, bare, bareJ, ↓E0, E1, evP, evPlan, env0, envN, evOps, evOp, evQs, evQ, evV, setD, pureOp, ev, upd, updL, gate, binW, eqOp, binV, intOp, shOp, boolOp, unV, convV, nilV, fieldAddrV, indexAddrV, extractV, cellAt, cellsAt, findB, setB, fillL, buildV, Value.cells, lenV, minV, maxV, hav, sliceV, loV, hiV, bslQ, mksQ, appQ, partsOk, partsCells, delB, eqL, SameI, strOp, apzQ, cvtQ, capV, ↓reduceIte, Zj, Zk, Nat.reduceAdd, Nat.reduceLT, Nat.reduceEqDiff, Nat.reduceMul, Nat.reduceLeDiff, if_true, Zn, reduceCtorEq, ZA, eq_self, Int.reduceLE, Int.reduceLT, Int.reduceToNat, ne_eq, Nat.reduceSub]
      repeat refine And.intro (by omega) ?_
      repeat refine And.intro (by omega) ?_
      intro g
      simp only [List.map_cons, List.map_nil, updL, upd, Nat.reduceEqDiff, if_true, if_false, ↓reduceIte]
      refine hK _ _ ?_; clear hK K
      refine Cd.cond rfl (fun h2 => ?_) (fun h2 => ?_)
      · simp only [decide_eq_true_eq, decide_eq_false_iff_not, beq_iff_eq, beq_eq_false_iff_ne, bne_iff_ne, bne_eq_false_iff_eq, Bool.and_eq_true, Bool.or_eq_true, Bool.or_eq_false_iff, Bool.not_eq_true', Bool.not_eq_false', Bool.and_eq_false_imp, ne_eq, gt_iff_lt, ge_iff_le, Int.not_lt, Int.not_le, Classical.not_not] at h2
        have ez : trF l = trE l := by omega
        refine Cd.rs [4] fun K hK => ?_
        simp (maxSteps := 2000000) (disch := first | (simp only [E4] <;> omega) | omega | fail) only [↓E2, E3, bare, bareJ, ↓E0, E1, evP, evPlan, env0, envN, evOps, evOp, evQs, evQ, evV, setD, pureOp, ev, upd, updL, gate, binW, eqOp, binV, intOp, shOp, boolOp, unV, convV, nilV, fieldAddrV, indexAddrV, extractV, cellAt, cellsAt, findB, setB, fillL, buildV, Value.cells, lenV, minV, maxV, hav, sliceV, loV, hiV, bslQ, mksQ, appQ, partsOk, partsCells, delB, eqL, SameI, strOp, apzQ, cvtQ, capV, ↓reduceIte, Zj, Zk, Nat.reduceAdd, Nat.reduceLT, Nat.reduceEqDiff, Nat.reduceMul, Nat.reduceLeDiff, if_true, Zn, reduceCtorEq, ZA, eq_self, Int.reduceLE, Int.reduceLT, Int.reduceToNat, ne_eq, Nat.reduceSub, Tbld56, Tst56]
        repeat refine And.intro (by omega) ?_
        repeat refine And.intro (by omega) ?_
        intro g
        simp only [List.map_cons, List.map_nil, updL, upd, Nat.reduceEqDiff, if_true, if_false, ↓reduceIte]
        refine hK _ _ ?_; clear hK K
        refine Cd.ret (thenR ?_)
        simp (maxSteps := 2000000) (disch := first | (simp only [E4] <;> omega) | omega | fail) only [↓E2, E3, bare, bareJ, ↓E0, E1, evP, evPlan, env0, envN, evOps, evOp, evQs, evQ, evV, setD, pureOp, ev, upd, updL, gate, binW, eqOp, binV, intOp, shOp, boolOp, unV, convV, nilV, fieldAddrV, indexAddrV, extractV, cellAt, cellsAt, findB, setB, fillL, buildV, Value.cells, lenV, minV, maxV, hav, sliceV, loV, hiV, bslQ, mksQ, appQ, partsOk, partsCells, delB, eqL, SameI, strOp, apzQ, cvtQ, capV, ↓reduceIte, Zj, Zk, Nat.reduceAdd, Nat.reduceLT, Nat.reduceEqDiff, Nat.reduceMul, Nat.reduceLeDiff, if_true, Zn, reduceCtorEq, ZA, eq_self, Int.reduceLE, Int.reduceLT, Int.reduceToNat, ne_eq, Nat.reduceSub, Tld56]
        repeat refine And.intro (by omega) ?_
        refine ⟨[], SubP.of (List.nil_sublist _), .slice none 0 0, ?_, ?_⟩
        · unfold trimLow; rw [if_pos ez]
        · unfold trimL; rw [if_pos ez]; exact SlN.nil 1
      · simp only [decide_eq_true_eq, decide_eq_false_iff_not, beq_iff_eq, beq_eq_false_iff_ne, bne_iff_ne, bne_eq_false_iff_eq, Bool.and_eq_true, Bool.or_eq_true, Bool.or_eq_false_iff, Bool.not_eq_true', Bool.not_eq_false', Bool.and_eq_false_imp, ne_eq, gt_iff_lt, ge_iff_le, Int.not_lt, Int.not_le, Classical.not_not] at h2
        have ez : ¬ trF l = trE l := by omega
        have h3 : t ≤ l.length := ht
        obtain ⟨b, rfl, q1⟩ := rd_int h hR (k := 0) (by omega)
        have hcap : l.length ≤ cap := by obtain ⟨_, _, _, e, _, _, _, hc⟩ := h; cases e; exact hc
        have ec : (cap = t - d) = False := eq_false (by omega)
        have n1 := told_ne hb1 q1
        have eL : trimL l = (l.drop (t - d)).take (t - (t - d)) := by unfold trimL; rw [if_neg ez, hE, hF]
        have eW : trimLow low l = low + ((t - d : Nat) : Int) := by unfold trimLow; rw [if_neg ez, hF]
        have tp := told_part (f := t - d) (n := t - (t - d)) h hR (by omega)
        rw [← eL] at tp
        have tlen := trimL_len l
        rw [hE, hF] at tlen
        have hO : RdO [(b, t - d, ints .i64 (trimL l))] (trimL l) (.slice (some ⟨b, t - d, none⟩) (t - (t - d)) (cap - (t - d))) := .inr ⟨b, t - d, cap - (t - d), by rw [tlen], fun e => by rw [e] at tlen; simp at tlen; omega, fun _ => List.mem_singleton.2 rfl⟩
        refine Cd.skip ?_
        refine thenN ?_
        skip
        refine Cd.rs [4] fun K hK => ?_
        simp (maxSteps := 2000000) (disch := first | (simp only [E4, ec] <;> omega) | omega | fail) only [↓E2, E3, bare, bareJ, ↓E0, E1, evP, evPlan, env0, envN, evOps, evOp, evQs, evQ, evV, setD, pureOp, ev, upd, updL, gate, binW, eqOp, binV, intOp, shOp, boolOp, unV, convV, nilV, fieldAddrV, indexAddrV, extractV, cellAt, cellsAt, findB, setB, fillL, buildV, Value.cells, lenV, minV, maxV, hav, sliceV, loV, hiV, bslQ, mksQ, appQ, partsOk, partsCells, delB, eqL, SameI, strOp, apzQ, cvtQ, capV, ↓reduceIte, Zj, Zk, Nat.reduceAdd, Nat.reduceLT, Nat.reduceEqDiff, Nat.reduceMul, Nat.reduceLeDiff, if_true, Zn, reduceCtorEq, ZA, eq_self, Int.reduceLE, Int.reduceLT, Int.reduceToNat, ne_eq, Nat.reduceSub, Tbld56, Tslc47, Tst56, ec]
        repeat refine And.intro (by omega) ?_
        refine callK_newR0 (l01Own_c _ _ _ hO (by rw [tlen]; omega)) (Told.toldW tp) ?_
        intro v5 M5 hv5 _ _
        obtain ⟨a5, m5, c5, rfl⟩ := hv5.form
        simp only [List.cons_append, List.nil_append]
        simp (maxSteps := 2000000) (disch := first | (simp only [E4, ec] <;> omega) | omega | fail) only [↓E2, E3, bare, bareJ, ↓E0, E1, evP, evPlan, env0, envN, evOps, evOp, evQs, evQ, evV, setD, pureOp, ev, upd, updL, gate, binW, eqOp, binV, intOp, shOp, boolOp, unV, convV, nilV, fieldAddrV, indexAddrV, extractV, cellAt, cellsAt, findB, setB, fillL, buildV, Value.cells, lenV, minV, maxV, hav, sliceV, loV, hiV, bslQ, mksQ, appQ, partsOk, partsCells, delB, eqL, SameI, strOp, apzQ, cvtQ, capV, ↓reduceIte, Zj, Zk, Nat.reduceAdd, Nat.reduceLT, Nat.reduceEqDiff, Nat.reduceMul, Nat.reduceLeDiff, if_true, Zn, reduceCtorEq, ZA, eq_self, Int.reduceLE, Int.reduceLT, Int.reduceToNat, ne_eq, Nat.reduceSub, Tbld56, Tslc47, Tst56, ec]
        repeat refine And.intro (by omega) ?_
        repeat refine And.intro (by omega) ?_
        intro g
        simp only [List.map_cons, List.map_nil, updL, upd, Nat.reduceEqDiff, if_true, if_false, ↓reduceIte]
        refine hK _ _ ?_; clear hK K
        refine Cd.ret ?_
        simp (maxSteps := 2000000) (disch := first | (simp only [E4, ec] <;> omega) | omega | fail) only [↓E2, E3, bare, bareJ, ↓E0, E1, evP, evPlan, env0, envN, evOps, evOp, evQs, evQ, evV, setD, pureOp, ev, upd, updL, gate, binW, eqOp, binV, intOp, shOp, boolOp, unV, convV, nilV, fieldAddrV, indexAddrV, extractV, cellAt, cellsAt, findB, setB, fillL, buildV, Value.cells, lenV, minV, maxV, hav, sliceV, loV, hiV, bslQ, mksQ, appQ, partsOk, partsCells, delB, eqL, SameI, strOp, apzQ, cvtQ, capV, ↓reduceIte, Zj, Zk, Nat.reduceAdd, Nat.reduceLT, Nat.reduceEqDiff, Nat.reduceMul, Nat.reduceLeDiff, if_true, Zn, reduceCtorEq, ZA, eq_self, Int.reduceLE, Int.reduceLT, Int.reduceToNat, ne_eq, Nat.reduceSub, Tld56, ec]
        repeat refine And.intro (by omega) ?_
        refine ⟨M5, SubP.of (List.Sublist.cons _ (List.Sublist.refl _)), _, ?_, hv5⟩
        rw [eW]

theorem trimmed_c : GivesX Try.prog 177 #[.int .i64 low, v] [] R (LauV (trimLow low l) (trimL l)) := by
  obtain ⟨a, m, cap, rfl, hm, _, _, hcap⟩ := id h
  obtain rfl := lauLen hm
  refine GivesX.part ?_
  refine GivesX.of (callable_of Try.func177 rfl (by decide)) ?_ fun w hnd hlt hR => ?_
  · simp
  refine acall_of (N := 43) (c := _) (rs := [.cell 4 56]) (args := [_, _]) Try.func177 rfl (by decide) rfl rfl (Nat.le_of_ble_eq_true rfl) ?_
  have hR : W8.Told [] w R := hR
  refine Cd.rs [0, 1, 4] fun K hK => ?_
  simp (maxSteps := 2000000) (disch := first | (simp only [E4] <;> omega) | omega | fail) only [↓E2, E3, bare, bareJ, ↓E0, E1, evP, evPlan, env0, envN, evOps, evOp, evQs, evQ, evV, setD, pureOp, ev, upd, updL, gate, binW, eqOp, binV, intOp, shOp, boolOp, unV, convV, nilV, fieldAddrV, indexAddrV, extractV, cellAt, cellsAt, findB, setB, fillL, buildV, Value.cells, lenV, minV, maxV, hav, sliceV, loV, hiV, bslQ, mksQ, appQ, partsOk, partsCells, delB, eqL, SameI, strOp, apzQ, cvtQ, capV, ↓reduceIte, Zj, Zk, Nat.reduceAdd, Nat.reduceLT, Nat.reduceEqDiff, Nat.reduceMul, Nat.reduceLeDiff, if_true, Zn, reduceCtorEq, ZA, eq_self, Int.reduceLE, Int.reduceLT, Int.reduceToNat, ne_eq, Nat.reduceSub, Tzero56]
  repeat refine And.intro (by omega) ?_
  intro b1 hb1
  try simp (maxSteps := 2000000) (disch := first | (simp only [E4] <;> omega) | omega | fail) only [↓E2, E3, bare, bareJ, ↓E0, E1, evP, evPlan, env0, envN, evOps, evOp, evQs, evQ, evV, setD, pureOp, ev, upd, updL, gate, binW, eqOp, binV, intOp, shOp, boolOp, unV, convV, nilV, fieldAddrV, indexAddrV, extractV, cellAt, cellsAt, findB, setB, fillL, buildV, Value.cells, lenV, minV, maxV, hav, sliceV, loV, hiV, bslQ, mksQ, appQ, partsOk, partsCells, delB, eqL, SameI, strOp, apzQ, cvtQ, capV, ↓reduceIte, Zj, Zk, Nat.reduceAdd, Nat.reduceLT, Nat.reduceEqDiff, Nat.reduceMul, Nat.reduceLeDiff, if_true, Zn, reduceCtorEq, ZA, eq_self, Int.reduceLE, Int.reduceLT, Int.reduceToNat, ne_eq, Nat.reduceSub, Tzero56]
  repeat refine And.intro (by omega) ?_
  repeat refine And.intro (by omega) ?_
  intro g
  simp only [List.map_cons, List.map_nil, updL, upd, Nat.reduceEqDiff, if_true, if_false, ↓reduceIte]
  refine hK _ _ ?_; clear hK K
  refine Cd.seq ?_
  refine Cd.block ?_
  refine Cd.loop (fun t ρ M => ∃ g, t ≤ l.length ∧ trEnd l t = trE l ∧ ρ = updL [(0, .int .i64 low), (1, .slice a t cap), (4, .pointer (some ⟨b1, 0, none⟩))] g ∧ M = [(b1, [.int .i64 0, .slice none 0 0])]) l.length ⟨_, Nat.le_refl _, rfl, rfl, rfl⟩ ?_
  rintro t ρ M ⟨g, ht, he, rfl, rfl⟩
  refine Cd.seq ?_
  refine Cd.rs [0, 1, 4, 16] fun K hK => ?_
  simp (maxSteps := 2000000) (disch := first | (simp only [E4] <;> omega) | omega | fail) only [↓E2, E3, bare, bareJ, ↓E0, E1, evP, evPlan, env0, envN, evOps, evOp, evQs, evQ, evV, setD, pureOp, ev, upd, updL, gate, binW, eqOp, binV, intOp, shOp, boolOp, unV, convV, nilV, fieldAddrV, indexAddrV, extractV, cellAt, cellsAt, findB, setB, fillL, buildV, Value.cells, lenV, minV, maxV, hav, sliceV, loV, hiV, bslQ, mksQ, appQ, partsOk, partsCells, delB, eqL, SameI, strOp, apzQ, cvtQ, capV, ↓reduceIte, Zj, Zk, Nat.reduceAdd, Nat.reduceLT, Nat.reduceEqDiff, Nat.reduceMul, Nat.reduceLeDiff, if_true, Zn, reduceCtorEq, ZA, eq_self, Int.reduceLE, Int.reduceLT, Int.reduceToNat, ne_eq, Nat.reduceSub, Tld2, Tslc47, Tslce47]
  repeat refine And.intro (by omega) ?_
  apply guardX_and 7 [9, 10, 11, 12, 13, 14, 15] (j := 3) (d := 8) (tp := 16) (tl := 15) (x := l.getD (t - 1) 0 == 0) rfl rfl rfl rfl rfl
  · intro hq
    simp only [decide_eq_true_eq, decide_eq_false_iff_not, beq_iff_eq, beq_eq_false_iff_ne, bne_iff_ne, bne_eq_false_iff_eq, Bool.and_eq_true, Bool.or_eq_true, Bool.or_eq_false_iff, Bool.not_eq_true', Bool.not_eq_false', Bool.and_eq_false_imp, ne_eq, gt_iff_lt, ge_iff_le, Int.not_lt, Int.not_le, Classical.not_not] at hq
    obtain ⟨b, rfl, q1⟩ := rd_int h hR (k := t - 1) (by omega)
    have n1 := told_ne hb1 q1
    have e1 : ((t : Int) - 1).toNat = t - 1 := by omega
    skip
    simp (maxSteps := 2000000) (disch := first | (simp only [E4, q1, n1, e1] <;> omega) | omega | fail) only [↓E2, E3, bare, bareJ, ↓E0, E1, evP, evPlan, env0, envN, evOps, evOp, evQs, evQ, evV, setD, pureOp, ev, upd, updL, gate, binW, eqOp, binV, intOp, shOp, boolOp, unV, convV, nilV, fieldAddrV, indexAddrV, extractV, cellAt, cellsAt, findB, setB, fillL, buildV, Value.cells, lenV, minV, maxV, hav, sliceV, loV, hiV, bslQ, mksQ, appQ, partsOk, partsCells, delB, eqL, SameI, strOp, apzQ, cvtQ, capV, ↓reduceIte, Zj, Zk, Nat.reduceAdd, Nat.reduceLT, Nat.reduceEqDiff, Nat.reduceMul, Nat.reduceLeDiff, if_true, Zn, reduceCtorEq, ZA, eq_self, Int.reduceLE, Int.reduceLT, Int.reduceToNat, ne_eq, Nat.reduceSub, Tld2, Tslc47, Tslce47, q1, n1, e1]
    repeat refine And.intro (by omega) ?_
    first | omega | exact rfl
  intro g
  simp (maxSteps := 2000000) (disch := first | (simp only [E4] <;> omega) | omega | fail) only [↓E2, E3, bare, bareJ, ↓E0, E1, evP, evPlan, env0, envN, evOps, evOp, evQs, evQ, evV, setD, pureOp, ev, upd, updL, gate, binW, eqOp, binV, intOp, shOp, boolOp, unV, convV, nilV, fieldAddrV, indexAddrV, extractV, cellAt, cellsAt, findB, setB, fillL, buildV, Value.cells, lenV, minV, maxV, hav, sliceV, loV, hiV, bslQ, mksQ, appQ, partsOk, partsCells, delB, eqL, SameI, strOp, apzQ, cvtQ, capV, ↓reduceIte, Zj, Zk, Nat.reduceAdd, Nat.reduceLT, Nat.reduceEqDiff, Nat.reduceMul, Nat.reduceLeDiff, if_true, Zn, reduceCtorEq, ZA, eq_self, Int.reduceLE, Int.reduceLT, Int.reduceToNat, ne_eq, Nat.reduceSub, Tld2, Tslc47, Tslce47]
  repeat refine And.intro (by omega) ?_
  repeat refine And.intro (by omega) ?_
  intro g
  simp only [List.map_cons, List.map_nil, updL, upd, Nat.reduceEqDiff, if_true, if_false, ↓reduceIte]
  refine hK _ _ ?_; clear hK K
  refine Cd.cond rfl (fun h1 => ?_) (fun h1 => ?_)
  · simp only [decide_eq_true_eq, decide_eq_false_iff_not, beq_iff_eq, beq_eq_false_iff_ne, bne_iff_ne, bne_eq_false_iff_eq, Bool.and_eq_true, Bool.or_eq_true, Bool.or_eq_false_iff, Bool.not_eq_true', Bool.not_eq_false', Bool.and_eq_false_imp, ne_eq, gt_iff_lt, ge_iff_le, Int.not_lt, Int.not_le, Classical.not_not] at h1
    obtain ⟨b, rfl, q1⟩ := rd_int h hR (k := t - 1) (by omega)
    have ec : (cap = 0) = False := eq_false (by omega)
    have e1 : ((t : Int) - 1).toNat = t - 1 := by omega
    skip
    refine Cd.skip ?_
    refine thenN ?_
    refine Cd.block ?_
    refine Cd.rr [0, 1, 4] fun K hK => ?_
    simp (maxSteps := 2000000) (disch := first | (simp only [E4, ec, e1] <;> omega) | omega | fail) only [↓E2, E3, bare, bareJ, ↓E0, E1, evP, evPlan, env0, envN, evOps, evOp, evQs, evQ, evV, setD, pureOp, ev, upd, updL, gate, binW, eqOp, binV, intOp, shOp, boolOp, unV, convV, nilV, fieldAddrV, indexAddrV, extractV, cellAt, cellsAt, findB, setB, fillL, buildV, Value.cells, lenV, minV, maxV, hav, sliceV, loV, hiV, bslQ, mksQ, appQ, partsOk, partsCells, delB, eqL, SameI, strOp, apzQ, cvtQ, capV, ↓reduceIte, Zj, Zk, Nat.reduceAdd, Nat.reduceLT, Nat.reduceEqDiff, Nat.reduceMul, Nat.reduceLeDiff, if_true, Zn, reduceCtorEq, ZA, eq_self, Int.reduceLE, Int.reduceLT, Int.reduceToNat, ne_eq, Nat.reduceSub, Tslc47, Tslce47, ec, e1]
    repeat refine And.intro (by omega) ?_
    repeat refine And.intro (by omega) ?_
    intro g
    simp only [List.map_cons, List.map_nil, updL, upd, Nat.reduceEqDiff, if_true, if_false, ↓reduceIte]
    refine hK _ _ ?_; clear hK K
    refine inBN ?_
    refine roundN (m := t - 1) (by omega) ⟨_, by omega, ?_, rfl, rfl⟩
    rw [← he]
    have := trEnd_zero h1.2
    rw [show t - 1 + 1 = t by omega] at this
    exact this.symm
  · have hE : trE l = t := by
      rw [← he]
      rcases Nat.eq_zero_or_pos t with h0 | h0
      · subst h0; rfl
      · have hne : ¬ l.getD (t - 1) 0 = 0 := fun e => by
          rw [e, decide_eq_true (by omega)] at h1
          cases h1
        have := trEnd_one hne
        rw [show t - 1 + 1 = t by omega] at this
        exact this
    clear h1 he
    refine Cd.exit (thenX (roundX (inBX ?_)))
    refine thenN ?_
    refine Cd.seq ?_
    refine Cd.block ?_
    refine Cd.loop (fun d ρ M => ∃ g a' c', d ≤ t ∧ trBeg l t d = trF l ∧ d ≤ c' ∧ (d ≠ 0 → ∀ b, a = some ⟨b, 0, none⟩ → a' = some ⟨b, t - d, none⟩) ∧ ρ = updL [(0, .int .i64 (low + ((t - d : Nat) : Int))), (1, .slice a' d c'), (4, .pointer (some ⟨b1, 0, none⟩))] g ∧ M = [(b1, [.int .i64 0, .slice none 0 0])]) t ⟨_, a, cap, Nat.le_refl _, by unfold trF; rw [hE], by omega, fun _ b e => by rw [e, Nat.sub_self], norm_of ⟨show Value.int .i64 low = _ from congrArg (Value.int .i64) (by omega), rfl, rfl, trivial⟩, rfl⟩ ?_
    rintro d ρ M ⟨g, a', c', hd, he, hdc, haa, rfl, rfl⟩
    refine Cd.seq ?_
    refine Cd.rs [0, 1, 4, 30] fun K hK => ?_
    simp (maxSteps := 2000000) (disch := first | (simp only [E4] <;> omega) | omega | fail) only [↓E2, E3, bare, bareJ, ↓E0, E1, evP, evPlan, env0, envN, evOps, evOp, evQs, evQ, evV, setD, pureOp, ev, upd, updL, gate, binW, eqOp, binV, intOp, shOp, boolOp, unV, convV, nilV, fieldAddrV, indexAddrV, extractV, cellAt, cellsAt, findB, setB, fillL, buildV, Value.cells, lenV, minV, maxV, hav, sliceV, loV, hiV, bslQ, mksQ, appQ, partsOk, partsCells, delB, eqL, SameI, strOp, apzQ, cvtQ, capV, ↓reduceIte, Zj, Zk, Nat.reduceAdd, Nat.reduceLT, Nat.reduceEqDiff, Nat.reduceMul, Nat.reduceLeDiff, if_true, Zn, reduceCtorEq, ZA, eq_self, Int.reduceLE, Int.reduceLT, Int.reduceToNat, ne_eq, Nat.reduceSub, Tld2, Tslc47, Tslce47]
    repeat refine And.intro (by omega) ?_
    apply guardX_and 4 [26, 27, 28, 29] (j := 3) (d := 25) (tp := 30) (tl := 29) (x := l.getD (t - d) 0 == 0) rfl rfl rfl rfl rfl
    · intro hq
      simp only [decide_eq_true_eq, decide_eq_false_iff_not, beq_iff_eq, beq_eq_false_iff_ne, bne_iff_ne, bne_eq_false_iff_eq, Bool.and_eq_true, Bool.or_eq_true, Bool.or_eq_false_iff, Bool.not_eq_true', Bool.not_eq_false', Bool.and_eq_false_imp, ne_eq, gt_iff_lt, ge_iff_le, Int.not_lt, Int.not_le, Classical.not_not] at hq
      obtain ⟨b, rfl, q1⟩ := rd_int h hR (k := t - d) (by omega)
      obtain rfl := haa (by omega) b rfl
      have n1 := told_ne hb1 q1
      skip
      simp (maxSteps := 2000000) (disch := first | (simp only [E4, q1, n1] <;> omega) | omega | fail) only [↓E2, E3, bare, bareJ, ↓E0, E1, evP, evPlan, env0, envN, evOps, evOp, evQs, evQ, evV, setD, pureOp, ev, upd, updL, gate, binW, eqOp, binV, intOp, shOp, boolOp, unV, convV, nilV, fieldAddrV, indexAddrV, extractV, cellAt, cellsAt, findB, setB, fillL, buildV, Value.cells, lenV, minV, maxV, hav, sliceV, loV, hiV, bslQ, mksQ, appQ, partsOk, partsCells, delB, eqL, SameI, strOp, apzQ, cvtQ, capV, ↓reduceIte, Zj, Zk, Nat.reduceAdd, Nat.reduceLT, Nat.reduceEqDiff, Nat.reduceMul, Nat.reduceLeDiff, if_true, Zn, reduceCtorEq, ZA, eq_self, Int.reduceLE, Int.reduceLT, Int.reduceToNat, ne_eq, Nat.reduceSub, Tld2, Tslc47, Tslce47, q1, n1]
      repeat refine And.intro (by omega) ?_
      first | omega | exact rfl
    intro g
    simp (maxSteps := 2000000) (disch := first | (simp only [E4] <;> omega) | omega | fail) only [↓E2, E3, bare, bareJ, ↓E0, E1, evP, evPlan, env0, envN, evOps, evOp, evQs, evQ, evV, setD, pureOp, ev, upd, updL, gate, binW, eqOp, binV, intOp, shOp, boolOp, unV, convV, nilV, fieldAddrV, indexAddrV, extractV, cellAt, cellsAt, findB, setB, fillL, buildV, Value.cells, lenV, minV, maxV, hav, sliceV, loV, hiV, bslQ, mksQ, appQ, partsOk, partsCells, delB, eqL, SameI, strOp, apzQ, cvtQ, capV, ↓reduceIte, Zj, Zk, Nat.reduceAdd, Nat.reduceLT, Nat.reduceEqDiff, Nat.reduceMul, Nat.reduceLeDiff, if_true, Zn, reduceCtorEq, ZA, eq_self, Int.reduceLE, Int.reduceLT, Int.reduceToNat, ne_eq, Nat.reduceSub, Tld2, Tslc47, Tslce47]
    repeat refine And.intro (by omega) ?_
    repeat refine And.intro (by omega) ?_
    intro g
    simp only [List.map_cons, List.map_nil, updL, upd, Nat.reduceEqDiff, if_true, if_false, ↓reduceIte]
    refine hK _ _ ?_; clear hK K
    refine Cd.cond rfl (fun h1 => ?_) (fun h1 => ?_)
    · simp only [decide_eq_true_eq, decide_eq_false_iff_not, beq_iff_eq, beq_eq_false_iff_ne, bne_iff_ne, bne_eq_false_iff_eq, Bool.and_eq_true, Bool.or_eq_true, Bool.or_eq_false_iff, Bool.not_eq_true', Bool.not_eq_false', Bool.and_eq_false_imp, ne_eq, gt_iff_lt, ge_iff_le, Int.not_lt, Int.not_le, Classical.not_not] at h1
      obtain ⟨b, rfl, q1⟩ := rd_int h hR (k := t - d) (by omega)
      obtain rfl := haa (by omega) b rfl
      refine Cd.skip ?_
      refine thenN ?_
      refine Cd.block ?_
      refine Cd.rs [0, 1, 4] fun K hK => ?_
      simp (maxSteps := 2000000) (disch := first | (simp only [E4] <;> omega) | omega | fail) only [↓E2, E3, bare, bareJ, ↓E0, E1, evP, evPlan, env0, envN, evOps, evOp, evQs, evQ, evV, setD, pureOp, ev, upd, updL, gate, binW, eqOp, binV, intOp, shOp, boolOp, unV, convV, nilV, fieldAddrV, indexAddrV, extractV, cellAt, cellsAt, findB, setB, fillL, buildV, Value.cells, lenV, minV, maxV, hav, sliceV, loV, hiV, bslQ, mksQ, appQ, partsOk, partsCells, delB, eqL, SameI, strOp, apzQ, cvtQ, capV, ↓reduceIte, Zj, Zk, Nat.reduceAdd, Nat.reduceLT, Nat.reduceEqDiff, Nat.reduceMul, Nat.reduceLeDiff, if_true, Zn, reduceCtorEq, ZA, eq_self, Int.reduceLE, Int.reduceLT, Int.reduceToNat, ne_eq, Nat.reduceSub, Tslc47]
      repeat refine And.intro (by omega) ?_
      repeat refine And.intro (by omega) ?_
      intro g
      simp only [List.map_cons, List.map_nil, updL, upd, Nat.reduceEqDiff, if_true, if_false, ↓reduceIte]
      refine hK _ _ ?_; clear hK K
      refine Cd.rr [0, 1, 4] fun K hK => ?_
      simp (maxSteps := 2000000) (disch := first | (simp only [E4] <;> omega) | omega | fail) only [↓E2, E3, bare, bareJ, ↓E0, E1, evP, evPlan, env0, envN, evOps, evOp, evQs, evQ, evV, setD, pureOp, ev, upd, updL, gate, binW, eqOp, binV, intOp, shOp, boolOp, unV, convV, nilV, fieldAddrV, indexAddrV, extractV, cellAt, cellsAt, findB, setB, fillL, buildV, Value.cells, lenV, minV, maxV, hav, sliceV, loV, hiV, bslQ, mksQ, appQ, partsOk, partsCells, delB, eqL, SameI, strOp, apzQ, cvtQ, capV, ↓reduceIte, Zj, Zk, Nat.reduceAdd, Nat.reduceLT, Nat.reduceEqDiff, Nat.reduceMul, Nat.reduceLeDiff, if_true, Zn, reduceCtorEq, ZA, eq_self, Int.reduceLE, Int.reduceLT, Int.reduceToNat, ne_eq, Nat.reduceSub]
      repeat refine And.intro (by omega) ?_
      repeat refine And.intro (by omega) ?_
      intro g
      simp only [List.map_cons, List.map_nil, updL, upd, Nat.reduceEqDiff, if_true, if_false, ↓reduceIte]
      refine hK _ _ ?_; clear hK K
      refine inBN ?_
      have e0 : low + ((t - d : Nat) : Int) + 1 = low + ((t - (d - 1) : Nat) : Int) := by omega
      rw [e0]
      refine roundN (m := d - 1) (by omega) ⟨_, _, c' - 1, by omega, ?_, by omega, ?_, rfl, rfl⟩
      · rw [← he]
        have := trBeg_zero (t := t) (d := d - 1) (l := l) (by rw [show t - (d - 1 + 1) = t - d by omega]; exact h1.2)
        rw [show d - 1 + 1 = d by omega] at this
        exact this.symm
      · intro hd1 b2 e2
        cases e2
        rw [if_neg (by omega), show t - d + 1 = t - (d - 1) by omega]
    · have hF : trF l = t - d := by
        rw [← he]
        rcases Nat.eq_zero_or_pos d with h0 | h0
        · subst h0; rfl
        · have hne : ¬ l.getD (t - d) 0 = 0 := fun e => by
            rw [e, decide_eq_true (by omega)] at h1
            cases h1
          have := trBeg_one (t := t) (d := d - 1) (l := l) (by rw [show t - (d - 1 + 1) = t - d by omega]; exact hne)
          rw [show d - 1 + 1 = d by omega] at this
          exact this
      clear h1 he
      refine Cd.exit (thenX (roundX (inBX ?_)))
      refine thenN ?_
      refine Cd.seq ?_
      refine Cd.rs [0, 1, 4, 37] fun K hK => ?_
      simp (maxSteps := 2000000) (disch := first | (simp only [E4] <;> omega) | omega | fail) only [↓E2, E3, bare, bareJ, ↓E0, E1, evP, evPlan, env0, envN, evOps, evOp, evQs, evQ, evV, setD, pureOp, ev, upd, updL, gate, binW, eqOp, binV, intOp, shOp, boolOp, unV, convV, nilV, fieldAddrV, indexAddrV, extractV, cellAt, cellsAt, findB, setB, fillL, buildV, Value.cells, lenV, minV, maxV, hav, sliceV, loV, hiV, bslQ, mksQ, appQ, partsOk, partsCells, delB, eqL, SameI, strOp, apzQ, cvtQ, capV, ↓reduceIte, Zj, Zk, Nat.reduceAdd, Nat.reduceLT, Nat.reduceEqDiff, Nat.reduceMul, Nat.reduceLeDiff, if_true, Zn, reduceCtorEq, ZA, eq_self, Int.reduceLE, Int.reduceLT, Int.reduceToNat, ne_eq, Nat.reduceSub, Tslce47]
      repeat refine And.intro (by omega) ?_
      repeat refine And.intro (by omega) ?_
      intro g
      simp only [List.map_cons, List.map_nil, updL, upd, Nat.reduceEqDiff, if_true, if_false, ↓reduceIte]
      refine hK _ _ ?_; clear hK K
      refine Cd.cond rfl (fun h2 => ?_) (fun h2 => ?_)
      · simp only [decide_eq_true_eq, decide_eq_false_iff_not, beq_iff_eq, beq_eq_false_iff_ne, bne_iff_ne, bne_eq_false_iff_eq, Bool.and_eq_true, Bool.or_eq_true, Bool.or_eq_false_iff, Bool.not_eq_true', Bool.not_eq_false', Bool.and_eq_false_imp, ne_eq, gt_iff_lt, ge_iff_le, Int.not_lt, Int.not_le, Classical.not_not] at h2
        have ez : trF l = trE l := by omega
        refine Cd.rs [4] fun K hK => ?_
        simp (maxSteps := 2000000) (disch := first | (simp only [E4] <;> omega) | omega | fail) only [↓E2, E3, bare, bareJ, ↓E0, E1, evP, evPlan, env0, envN, evOps, evOp, evQs, evQ, evV, setD, pureOp, ev, upd, updL, gate, binW, eqOp, binV, intOp, shOp, boolOp, unV, convV, nilV, fieldAddrV, indexAddrV, extractV, cellAt, cellsAt, findB, setB, fillL, buildV, Value.cells, lenV, minV, maxV, hav, sliceV, loV, hiV, bslQ, mksQ, appQ, partsOk, partsCells, delB, eqL, SameI, strOp, apzQ, cvtQ, capV, ↓reduceIte, Zj, Zk, Nat.reduceAdd, Nat.reduceLT, Nat.reduceEqDiff, Nat.reduceMul, Nat.reduceLeDiff, if_true, Zn, reduceCtorEq, ZA, eq_self, Int.reduceLE, Int.reduceLT, Int.reduceToNat, ne_eq, Nat.reduceSub, Tbld56, Tst56]
        repeat refine And.intro (by omega) ?_
        repeat refine And.intro (by omega) ?_
        intro g
        simp only [List.map_cons, List.map_nil, updL, upd, Nat.reduceEqDiff, if_true, if_false, ↓reduceIte]
        refine hK _ _ ?_; clear hK K
        refine Cd.ret (thenR ?_)
        simp (maxSteps := 2000000) (disch := first | (simp only [E4] <;> omega) | omega | fail) only [↓E2, E3, bare, bareJ, ↓E0, E1, evP, evPlan, env0, envN, evOps, evOp, evQs, evQ, evV, setD, pureOp, ev, upd, updL, gate, binW, eqOp, binV, intOp, shOp, boolOp, unV, convV, nilV, fieldAddrV, indexAddrV, extractV, cellAt, cellsAt, findB, setB, fillL, buildV, Value.cells, lenV, minV, maxV, hav, sliceV, loV, hiV, bslQ, mksQ, appQ, partsOk, partsCells, delB, eqL, SameI, strOp, apzQ, cvtQ, capV, ↓reduceIte, Zj, Zk, Nat.reduceAdd, Nat.reduceLT, Nat.reduceEqDiff, Nat.reduceMul, Nat.reduceLeDiff, if_true, Zn, reduceCtorEq, ZA, eq_self, Int.reduceLE, Int.reduceLT, Int.reduceToNat, ne_eq, Nat.reduceSub, Tld56]
        repeat refine And.intro (by omega) ?_
        refine ⟨[], SubP.of (List.nil_sublist _), .slice none 0 0, ?_, ?_⟩
        · unfold trimLow; rw [if_pos ez]
        · unfold trimL; rw [if_pos ez]; exact SlN.nil 1
      · simp only [decide_eq_true_eq, decide_eq_false_iff_not, beq_iff_eq, beq_eq_false_iff_ne, bne_iff_ne, bne_eq_false_iff_eq, Bool.and_eq_true, Bool.or_eq_true, Bool.or_eq_false_iff, Bool.not_eq_true', Bool.not_eq_false', Bool.and_eq_false_imp, ne_eq, gt_iff_lt, ge_iff_le, Int.not_lt, Int.not_le, Classical.not_not] at h2
        have ez : ¬ trF l = trE l := by omega
        have h3 : t ≤ l.length := ht
        obtain ⟨b, rfl, q1⟩ := rd_int h hR (k := 0) (by omega)
        obtain rfl := haa (by omega) b rfl
        have n1 := told_ne hb1 q1
        have eL : trimL l = (l.drop (t - d)).take (t - (t - d)) := by unfold trimL; rw [if_neg ez, hE, hF]
        have eW : trimLow low l = low + ((t - d : Nat) : Int) := by unfold trimLow; rw [if_neg ez, hF]
        have tp := told_part (f := t - d) (n := t - (t - d)) h hR (by omega)
        rw [← eL] at tp
        have tlen := trimL_len l
        rw [hE, hF, show t - (t - d) = d by omega] at tlen
        have hO : RdO [(b, t - d, ints .i64 (trimL l))] (trimL l) (.slice (some ⟨b, t - d, none⟩) d c') := .inr ⟨b, t - d, c', by rw [tlen], fun e => by rw [e] at tlen; simp at tlen; omega, fun _ => List.mem_singleton.2 rfl⟩
        refine Cd.skip ?_
        refine thenN ?_
        refine Cd.rs [4] fun K hK => ?_
        simp (maxSteps := 2000000) (disch := first | (simp only [E4] <;> omega) | omega | fail) only [↓E2, E3, bare, bareJ, ↓E0, E1, evP, evPlan, env0, envN, evOps, evOp, evQs, evQ, evV, setD, pureOp, ev, upd, updL, gate, binW, eqOp, binV, intOp, shOp, boolOp, unV, convV, nilV, fieldAddrV, indexAddrV, extractV, cellAt, cellsAt, findB, setB, fillL, buildV, Value.cells, lenV, minV, maxV, hav, sliceV, loV, hiV, bslQ, mksQ, appQ, partsOk, partsCells, delB, eqL, SameI, strOp, apzQ, cvtQ, capV, ↓reduceIte, Zj, Zk, Nat.reduceAdd, Nat.reduceLT, Nat.reduceEqDiff, Nat.reduceMul, Nat.reduceLeDiff, if_true, Zn, reduceCtorEq, ZA, eq_self, Int.reduceLE, Int.reduceLT, Int.reduceToNat, ne_eq, Nat.reduceSub, Tbld56, Tst56]
        repeat refine And.intro (by omega) ?_
        refine callK_newR0 (Clone_c _ _ _ hO (by rw [tlen]; omega)) (Told.toldW tp) ?_
        intro v5 M5 hv5 _ _
        obtain ⟨a5, m5, c5, rfl⟩ := hv5.form
        simp only [List.cons_append, List.nil_append]
        simp (maxSteps := 2000000) (disch := first | (simp only [E4] <;> omega) | omega | fail) only [↓E2, E3, bare, bareJ, ↓E0, E1, evP, evPlan, env0, envN, evOps, evOp, evQs, evQ, evV, setD, pureOp, ev, upd, updL, gate, binW, eqOp, binV, intOp, shOp, boolOp, unV, convV, nilV, fieldAddrV, indexAddrV, extractV, cellAt, cellsAt, findB, setB, fillL, buildV, Value.cells, lenV, minV, maxV, hav, sliceV, loV, hiV, bslQ, mksQ, appQ, partsOk, partsCells, delB, eqL, SameI, strOp, apzQ, cvtQ, capV, ↓reduceIte, Zj, Zk, Nat.reduceAdd, Nat.reduceLT, Nat.reduceEqDiff, Nat.reduceMul, Nat.reduceLeDiff, if_true, Zn, reduceCtorEq, ZA, eq_self, Int.reduceLE, Int.reduceLT, Int.reduceToNat, ne_eq, Nat.reduceSub, Tbld56, Tst56]
        repeat refine And.intro (by omega) ?_
        repeat refine And.intro (by omega) ?_
        intro g
        simp only [List.map_cons, List.map_nil, updL, upd, Nat.reduceEqDiff, if_true, if_false, ↓reduceIte]
        refine hK _ _ ?_; clear hK K
        refine Cd.ret ?_
        simp (maxSteps := 2000000) (disch := first | (simp only [E4] <;> omega) | omega | fail) only [↓E2, E3, bare, bareJ, ↓E0, E1, evP, evPlan, env0, envN, evOps, evOp, evQs, evQ, evV, setD, pureOp, ev, upd, updL, gate, binW, eqOp, binV, intOp, shOp, boolOp, unV, convV, nilV, fieldAddrV, indexAddrV, extractV, cellAt, cellsAt, findB, setB, fillL, buildV, Value.cells, lenV, minV, maxV, hav, sliceV, loV, hiV, bslQ, mksQ, appQ, partsOk, partsCells, delB, eqL, SameI, strOp, apzQ, cvtQ, capV, ↓reduceIte, Zj, Zk, Nat.reduceAdd, Nat.reduceLT, Nat.reduceEqDiff, Nat.reduceMul, Nat.reduceLeDiff, if_true, Zn, reduceCtorEq, ZA, eq_self, Int.reduceLE, Int.reduceLT, Int.reduceToNat, ne_eq, Nat.reduceSub, Tld56]
        repeat refine And.intro (by omega) ?_
        refine ⟨M5, SubP.of (List.Sublist.cons _ (List.Sublist.refl _)), _, ?_, hv5⟩
        rw [eW]
end

end Go.Proofs

/-
  What the functions of this part hand back: each as a plain function of its arguments. Conditions: none.
-/
namespace Go.Proofs
open Go.W8
set_option linter.unusedVariables false
set_option linter.unusedSimpArgs false
set_option linter.unusedSectionVars false
set_option maxRecDepth 8000
set_option maxHeartbeats 4000000
def wtG (x o : List Int) (r a : Nat) : Int := wnd x o (r : Int) a
theorem wtG_bound (x o : List Int) (r a : Nat) (h : a ≤ 8) : -8 ≤ wtG x o r a ∧ wtG x o r a ≤ 8 := by
  have := wnd_bound x o (r : Int) a
  unfold wtG
  omega
/-- The table of powers, of which rows and columns are filled up to a place. -/
def dtab (n : Nat) (x o : List Int) (b a : Nat) : List Int := (List.range 64).map fun i => if i % 8 < n ∧ (i / 8 < b ∨ (i / 8 = b ∧ i % 8 < a)) then 8 - wtG x o (i / 8) (i % 8) else 0
section
variable {n : Nat} {x o : List Int} {b a : Nat}
theorem dtab_len : (dtab n x o b a).length = 64 := by simp [dtab]
theorem dtab_get {i : Nat} (h : i < 64) : (dtab n x o b a).getD i 0 = if i % 8 < n ∧ (i / 8 < b ∨ (i / 8 = b ∧ i % 8 < a)) then 8 - wtG x o (i / 8) (i % 8) else 0 := by
  unfold dtab
  rw [List.getD_eq_getElem?_getD, List.getElem?_map, List.getElem?_range h]; rfl
theorem dtab_zero : dtab n x o 0 0 = List.replicate 64 0 := by
  refine ext0 (by simp [dtab_len]) fun i hi => ?_
  rw [dtab_len] at hi
  rw [dtab_get hi, if_neg (by omega), List.getD_eq_getElem?_getD, List.getElem?_replicate, if_pos hi]
  rfl
theorem dtab_row : dtab n x o b n = dtab n x o (b + 1) 0 := by
  refine ext0 (by simp [dtab_len]) fun i hi => ?_
  rw [dtab_len] at hi
  rw [dtab_get hi, dtab_get hi]
  by_cases h : i % 8 < n ∧ (i / 8 < b ∨ (i / 8 = b ∧ i % 8 < n))
  · rw [if_pos h, if_pos (by omega)]
  · rw [if_neg h, if_neg (by omega)]
theorem dtab_set (hb : b < 8) (ha : a < n) (hn : n ≤ 8) : (dtab n x o b a).set (b * 8 + a) (8 - wtG x o b a) = dtab n x o b (a + 1) := by
  refine ext0 (by simp [dtab_len]) fun i hi => ?_
  rw [List.length_set, dtab_len] at hi
  rw [getD_set (by rw [dtab_len]; omega), dtab_get hi, dtab_get hi]
  by_cases e : b * 8 + a = i
  · subst e
    have e1 : (b * 8 + a) / 8 = b := by omega
    have e2 : (b * 8 + a) % 8 = a := by omega
    rw [if_pos rfl, e1, e2, if_pos (by omega)]
  · rw [if_neg e]
    by_cases h : i % 8 < n ∧ (i / 8 < b ∨ (i / 8 = b ∧ i % 8 < a))
    · rw [if_pos h, if_pos (by omega)]
    · rw [if_neg h, if_neg (by omega)]
end
/-- The numbers of the determinant polynomial, at the powers from -8 n on. -/
def detC (n : Nat) (x o : List Int) : List Int := cntL n (wtG x o) (List.replicate (16 * n + 1) 0) 0 1 n 0 (freeS (List.replicate 8 false))
theorem detC_len (n : Nat) (x o : List Int) : (detC n x o).length = 16 * n + 1 := by unfold detC; rw [cntL_len, List.length_replicate]
def detLow (n : Nat) (x o : List Int) : Int := trimLow (-8 * (n : Int)) (detC n x o)
def detL (n : Nat) (x o : List Int) : List Int := trimL (detC n x o)
section
variable (n : Nat) (x o : List Int) (hx : Bytes8 x) (ho : Bytes8 o) (hn : n ≤ 8) (hn2 : 2 ≤ n)
include hx ho hn hn2
theorem l04Determinant_c : GivesX Try.prog 117 #[.agg (gc (n : Int) x o).toArray] [] [] (LauV (detLow n x o) (detL n x o)) := by
  have hl := hx.len
  have hm := ho.len
  refine GivesX.part ?_
  skip
  refine GivesX.of (callable_of Try.func117 rfl (by decide)) ?_ fun w hnd hlt hR => ?_
  · simp
  refine acall_of (N := 43) (c := _) (rs := [.cell 2 56]) (args := [_]) Try.func117 rfl (by decide) rfl rfl (Nat.le_of_ble_eq_true rfl) ?_
  refine Cd.rs [1, 2] fun K hK => ?_
  simp (maxSteps := 2000000) (disch := first | (simp only [E4, hl, hm] <;> omega) | omega | fail) only [↓E2, E3, bare, bareJ, ↓E0, E1, evP, evPlan, env0, envN, evOps, evOp, evQs, evQ, evV, setD, pureOp, ev, upd, updL, gate, binW, eqOp, binV, intOp, shOp, boolOp, unV, convV, nilV, fieldAddrV, indexAddrV, extractV, cellAt, cellsAt, findB, setB, fillL, buildV, Value.cells, lenV, minV, maxV, hav, sliceV, loV, hiV, bslQ, mksQ, appQ, partsOk, partsCells, delB, eqL, SameI, strOp, apzQ, cvtQ, capV, ↓reduceIte, Zj, Zk, Nat.reduceAdd, Nat.reduceLT, Nat.reduceEqDiff, Nat.reduceMul, Nat.reduceLeDiff, if_true, Zn, reduceCtorEq, ZA, eq_self, Int.reduceLE, Int.reduceLT, Int.reduceToNat, ne_eq, Nat.reduceSub, Tzero56, hl, hm]
  repeat refine And.intro (by omega) ?_
  intro b1 hb1
  intro b2 hb2
  have nb2_b1 := hb2.ne
  try simp (maxSteps := 2000000) (disch := first | (simp only [E4, hl, hm, nb2_b1] <;> omega) | omega | fail) only [↓E2, E3, bare, bareJ, ↓E0, E1, evP, evPlan, env0, envN, evOps, evOp, evQs, evQ, evV, setD, pureOp, ev, upd, updL, gate, binW, eqOp, binV, intOp, shOp, boolOp, unV, convV, nilV, fieldAddrV, indexAddrV, extractV, cellAt, cellsAt, findB, setB, fillL, buildV, Value.cells, lenV, minV, maxV, hav, sliceV, loV, hiV, bslQ, mksQ, appQ, partsOk, partsCells, delB, eqL, SameI, strOp, apzQ, cvtQ, capV, ↓reduceIte, Zj, Zk, Nat.reduceAdd, Nat.reduceLT, Nat.reduceEqDiff, Nat.reduceMul, Nat.reduceLeDiff, if_true, Zn, reduceCtorEq, ZA, eq_self, Int.reduceLE, Int.reduceLT, Int.reduceToNat, ne_eq, Nat.reduceSub, Tzero56, hl, hm, nb2_b1]
  repeat refine And.intro (by omega) ?_
  repeat refine And.intro (by omega) ?_
  intro g
  simp only [List.map_cons, List.map_nil, updL, upd, Nat.reduceEqDiff, if_true, if_false, ↓reduceIte]
  refine hK _ _ ?_; clear hK K
  have n2 : ¬ b2 = b1 := hb2.2 (b1, gc (n : Int) x o) (by simp)
  skip
  refine Cd.ps [1, 2, 3, 4] (Plan.take 0 (Plan.take 1 (Plan.more 2 (Plan.one 3 (Plan.one 4 (Plan.take 5 (Plan.done)))) (Plan.one 3 (Plan.more 2 (Plan.one 4 (Plan.take 5 (Plan.done))) (Plan.one 4 (Plan.take 2 (Plan.take 5 (Plan.done))))))))) fol (by kernel_rfl) (Nat.le_of_ble_eq_true rfl) fun K hK => ?_
  have J : ∀ g b3, ¬ b3 = b1 → ¬ b3 = b2 → K (updL [(1, .pointer (some ⟨b1, 0, none⟩)), (2, .pointer (some ⟨b2, 0, none⟩)), (3, .pointer (some ⟨b3, 0, none⟩)), (4, .int .i64 (n : Int))] g) [(b3, ints .i64 (List.replicate 64 0)), (b2, [.int .i64 0, .slice none 0 0]), (b1, gc (n : Int) x o)] := by
    intro g b3 n31 n32
    refine hK _ _ ?_
    clear hK K
    rw [← dtab_zero (n := n) (x := x) (o := o)]
    skip
    skip
    refine Cd.seq ?_
    refine Cd.rs [1, 2, 3, 4, 5] fun K hK => ?_
    simp (maxSteps := 2000000) (disch := first | (simp only [E4, hl, hm, nb2_b1, n2, n31, n32] <;> omega) | omega | fail) only [↓E2, E3, bare, bareJ, ↓E0, E1, evP, evPlan, env0, envN, evOps, evOp, evQs, evQ, evV, setD, pureOp, ev, upd, updL, gate, binW, eqOp, binV, intOp, shOp, boolOp, unV, convV, nilV, fieldAddrV, indexAddrV, extractV, cellAt, cellsAt, findB, setB, fillL, buildV, Value.cells, lenV, minV, maxV, hav, sliceV, loV, hiV, bslQ, mksQ, appQ, partsOk, partsCells, delB, eqL, SameI, strOp, apzQ, cvtQ, capV, ↓reduceIte, Zj, Zk, Nat.reduceAdd, Nat.reduceLT, Nat.reduceEqDiff, Nat.reduceMul, Nat.reduceLeDiff, if_true, Zn, reduceCtorEq, ZA, eq_self, Int.reduceLE, Int.reduceLT, Int.reduceToNat, ne_eq, Nat.reduceSub, hl, hm, nb2_b1, n2, n31, n32]
    repeat refine And.intro (by omega) ?_
    repeat refine And.intro (by omega) ?_
    intro g
    simp only [List.map_cons, List.map_nil, updL, upd, Nat.reduceEqDiff, if_true, if_false, ↓reduceIte]
    refine hK _ _ ?_; clear hK K
    refine Cd.block ?_
    refine Cd.loop (fun q ρ M => ∃ g b, b + q = n ∧ ρ = updL [(1, .pointer (some ⟨b1, 0, none⟩)), (2, .pointer (some ⟨b2, 0, none⟩)), (3, .pointer (some ⟨b3, 0, none⟩)), (4, .int .i64 (n : Int)), (5, .int .i64 (b : Int))] g ∧ M = [(b3, ints .i64 (dtab n x o b 0)), (b2, [.int .i64 0, .slice none 0 0]), (b1, gc (n : Int) x o)]) n ⟨_, 0, Nat.zero_add _, rfl, rfl⟩ ?_
    rintro q ρ M ⟨g, b, hb, rfl, rfl⟩
    refine Cd.seq ?_
    refine Cd.rs [1, 2, 3, 4, 5, 13] fun K hK => ?_
    simp (maxSteps := 2000000) (disch := first | (simp only [E4, hl, hm, nb2_b1, n2, n31, n32] <;> omega) | omega | fail) only [↓E2, E3, bare, bareJ, ↓E0, E1, evP, evPlan, env0, envN, evOps, evOp, evQs, evQ, evV, setD, pureOp, ev, upd, updL, gate, binW, eqOp, binV, intOp, shOp, boolOp, unV, convV, nilV, fieldAddrV, indexAddrV, extractV, cellAt, cellsAt, findB, setB, fillL, buildV, Value.cells, lenV, minV, maxV, hav, sliceV, loV, hiV, bslQ, mksQ, appQ, partsOk, partsCells, delB, eqL, SameI, strOp, apzQ, cvtQ, capV, ↓reduceIte, Zj, Zk, Nat.reduceAdd, Nat.reduceLT, Nat.reduceEqDiff, Nat.reduceMul, Nat.reduceLeDiff, if_true, Zn, reduceCtorEq, ZA, eq_self, Int.reduceLE, Int.reduceLT, Int.reduceToNat, ne_eq, Nat.reduceSub, hl, hm, nb2_b1, n2, n31, n32]
    repeat refine And.intro (by omega) ?_
    repeat refine And.intro (by omega) ?_
    intro g
    simp only [List.map_cons, List.map_nil, updL, upd, Nat.reduceEqDiff, if_true, if_false, ↓reduceIte]
    refine hK _ _ ?_; clear hK K
    refine Cd.condd rfl (fun h1 => ?_) (fun h1 => ?_)
    · refine Cd.skip ?_
      refine thenN ?_
      refine Cd.seq ?_
      refine Cd.block ?_
      refine Cd.rs [1, 2, 3, 4, 5, 6] fun K hK => ?_
      simp (maxSteps := 2000000) (disch := first | (simp only [E4, hl, hm, nb2_b1, n2, n31, n32] <;> omega) | omega | fail) only [↓E2, E3, bare, bareJ, ↓E0, E1, evP, evPlan, env0, envN, evOps, evOp, evQs, evQ, evV, setD, pureOp, ev, upd, updL, gate, binW, eqOp, binV, intOp, shOp, boolOp, unV, convV, nilV, fieldAddrV, indexAddrV, extractV, cellAt, cellsAt, findB, setB, fillL, buildV, Value.cells, lenV, minV, maxV, hav, sliceV, loV, hiV, bslQ, mksQ, appQ, partsOk, partsCells, delB, eqL, SameI, strOp, apzQ, cvtQ, capV, ↓reduceIte, Zj, Zk, Nat.reduceAdd, Nat.reduceLT, Nat.reduceEqDiff, Nat.reduceMul, Nat.reduceLeDiff, if_true, Zn, reduceCtorEq, ZA, eq_self, Int.reduceLE, Int.reduceLT, Int.reduceToNat, ne_eq, Nat.reduceSub, hl, hm, nb2_b1, n2, n31, n32]
      repeat refine And.intro (by omega) ?_
      repeat refine And.intro (by omega) ?_
      intro g
      simp only [List.map_cons, List.map_nil, updL, upd, Nat.reduceEqDiff, if_true, if_false, ↓reduceIte]
      refine hK _ _ ?_; clear hK K
      refine Cd.block ?_
      refine Cd.loop (fun q ρ M => ∃ g a, a + q = n ∧ ρ = updL [(1, .pointer (some ⟨b1, 0, none⟩)), (2, .pointer (some ⟨b2, 0, none⟩)), (3, .pointer (some ⟨b3, 0, none⟩)), (4, .int .i64 (n : Int)), (5, .int .i64 (b : Int)), (6, .int .i64 (a : Int))] g ∧ M = [(b3, ints .i64 (dtab n x o b a)), (b2, [.int .i64 0, .slice none 0 0]), (b1, gc (n : Int) x o)]) n ⟨_, 0, Nat.zero_add _, rfl, rfl⟩ ?_
      rintro q2 ρ M ⟨g, a, ha, rfl, rfl⟩
      refine Cd.seq ?_
      refine Cd.rs [1, 2, 3, 4, 5, 6, 18] fun K hK => ?_
      simp (maxSteps := 2000000) (disch := first | (simp only [E4, hl, hm, nb2_b1, n2, n31, n32] <;> omega) | omega | fail) only [↓E2, E3, bare, bareJ, ↓E0, E1, evP, evPlan, env0, envN, evOps, evOp, evQs, evQ, evV, setD, pureOp, ev, upd, updL, gate, binW, eqOp, binV, intOp, shOp, boolOp, unV, convV, nilV, fieldAddrV, indexAddrV, extractV, cellAt, cellsAt, findB, setB, fillL, buildV, Value.cells, lenV, minV, maxV, hav, sliceV, loV, hiV, bslQ, mksQ, appQ, partsOk, partsCells, delB, eqL, SameI, strOp, apzQ, cvtQ, capV, ↓reduceIte, Zj, Zk, Nat.reduceAdd, Nat.reduceLT, Nat.reduceEqDiff, Nat.reduceMul, Nat.reduceLeDiff, if_true, Zn, reduceCtorEq, ZA, eq_self, Int.reduceLE, Int.reduceLT, Int.reduceToNat, ne_eq, Nat.reduceSub, hl, hm, nb2_b1, n2, n31, n32]
      repeat refine And.intro (by omega) ?_
      repeat refine And.intro (by omega) ?_
      intro g
      simp only [List.map_cons, List.map_nil, updL, upd, Nat.reduceEqDiff, if_true, if_false, ↓reduceIte]
      refine hK _ _ ?_; clear hK K
      refine Cd.condd rfl (fun h2 => ?_) (fun h2 => ?_)
      · have dl : (dtab n x o b a).length = 64 := dtab_len
        have hw := wtG_bound x o b a (by omega)
        have e1 : wnd x o (b : Int) a = wtG x o b a := rfl
        have ds := dtab_set (n := n) (x := x) (o := o) (b := b) (a := a) (by omega) (by omega) hn
        skip
        refine Cd.skip ?_
        refine thenN ?_
        refine Cd.seq ?_
        refine Cd.block ?_
        refine Cd.pr [1, 2, 3, 4, 5, 6] (Plan.take 0 (Plan.take 1 (Plan.take 2 (Plan.take 3 (Plan.take 4 (Plan.take 5 (Plan.take 6 (Plan.take 7 (Plan.take 8 (Plan.one 9 (Plan.done))))))))))) fol (by kernel_rfl) (Nat.le_of_ble_eq_true rfl) fun K hK => ?_
        simp (maxSteps := 2000000) (disch := first | (simp only [E4, hl, hm, nb2_b1, n2, n31, n32, dl] <;> omega) | omega | fail) only [↓E2, E3, bare, bareJ, ↓E0, E1, evP, evPlan, env0, envN, evOps, evOp, evQs, evQ, evV, setD, pureOp, ev, upd, updL, gate, binW, eqOp, binV, intOp, shOp, boolOp, unV, convV, nilV, fieldAddrV, indexAddrV, extractV, cellAt, cellsAt, findB, setB, fillL, buildV, Value.cells, lenV, minV, maxV, hav, sliceV, loV, hiV, bslQ, mksQ, appQ, partsOk, partsCells, delB, eqL, SameI, strOp, apzQ, cvtQ, capV, ↓reduceIte, Zj, Zk, Nat.reduceAdd, Nat.reduceLT, Nat.reduceEqDiff, Nat.reduceMul, Nat.reduceLeDiff, if_true, Zn, reduceCtorEq, ZA, eq_self, Int.reduceLE, Int.reduceLT, Int.reduceToNat, ne_eq, Nat.reduceSub, Tarr110, Tarr113, Tld32, Tst2, hl, hm, nb2_b1, n2, n31, n32, dl]
        repeat refine And.intro (by omega) ?_
        refine callP_gives (l04Winding_c _ x o hx ho _ _ (by omega)) ?_
        rw [Int.toNat_natCast, e1]
        simp (maxSteps := 2000000) (disch := first | (simp only [E4, hl, hm, nb2_b1, n2, n31, n32, dl] <;> omega) | omega | fail) only [↓E2, E3, bare, bareJ, ↓E0, E1, evP, evPlan, env0, envN, evOps, evOp, evQs, evQ, evV, setD, pureOp, ev, upd, updL, gate, binW, eqOp, binV, intOp, shOp, boolOp, unV, convV, nilV, fieldAddrV, indexAddrV, extractV, cellAt, cellsAt, findB, setB, fillL, buildV, Value.cells, lenV, minV, maxV, hav, sliceV, loV, hiV, bslQ, mksQ, appQ, partsOk, partsCells, delB, eqL, SameI, strOp, apzQ, cvtQ, capV, ↓reduceIte, Zj, Zk, Nat.reduceAdd, Nat.reduceLT, Nat.reduceEqDiff, Nat.reduceMul, Nat.reduceLeDiff, if_true, Zn, reduceCtorEq, ZA, eq_self, Int.reduceLE, Int.reduceLT, Int.reduceToNat, ne_eq, Nat.reduceSub, Tarr110, Tarr113, Tld32, Tst2, hl, hm, nb2_b1, n2, n31, n32, dl]
        repeat refine And.intro (by omega) ?_
        rw [ds]
        repeat refine And.intro (by omega) ?_
        intro g
        simp only [List.map_cons, List.map_nil, updL, upd, Nat.reduceEqDiff, if_true, if_false, ↓reduceIte]
        refine hK _ _ ?_; clear hK K
        refine inBN ?_
        refine thenN ?_
        refine Cd.rr [1, 2, 3, 4, 5, 6] fun K hK => ?_
        simp (maxSteps := 2000000) (disch := first | (simp only [E4, hl, hm, nb2_b1, n2, n31, n32, dl] <;> omega) | omega | fail) only [↓E2, E3, bare, bareJ, ↓E0, E1, evP, evPlan, env0, envN, evOps, evOp, evQs, evQ, evV, setD, pureOp, ev, upd, updL, gate, binW, eqOp, binV, intOp, shOp, boolOp, unV, convV, nilV, fieldAddrV, indexAddrV, extractV, cellAt, cellsAt, findB, setB, fillL, buildV, Value.cells, lenV, minV, maxV, hav, sliceV, loV, hiV, bslQ, mksQ, appQ, partsOk, partsCells, delB, eqL, SameI, strOp, apzQ, cvtQ, capV, ↓reduceIte, Zj, Zk, Nat.reduceAdd, Nat.reduceLT, Nat.reduceEqDiff, Nat.reduceMul, Nat.reduceLeDiff, if_true, Zn, reduceCtorEq, ZA, eq_self, Int.reduceLE, Int.reduceLT, Int.reduceToNat, ne_eq, Nat.reduceSub, hl, hm, nb2_b1, n2, n31, n32, dl]
        repeat refine And.intro (by omega) ?_
        repeat refine And.intro (by omega) ?_
        intro g
        simp only [List.map_cons, List.map_nil, updL, upd, Nat.reduceEqDiff, if_true, if_false, ↓reduceIte]
        refine hK _ _ ?_; clear hK K
        exact roundN (m := q2 - 1) (by omega) ⟨_, a + 1, by omega, rfl, rfl⟩
      · obtain rfl : a = n := by omega
        refine Cd.exit (thenX (roundX (inBX ?_)))
        refine inBN ?_
        refine thenN ?_
        rw [dtab_row]
        refine Cd.rr [1, 2, 3, 4, 5] fun K hK => ?_
        simp (maxSteps := 2000000) (disch := first | (simp only [E4, hl, hm, nb2_b1, n2, n31, n32] <;> omega) | omega | fail) only [↓E2, E3, bare, bareJ, ↓E0, E1, evP, evPlan, env0, envN, evOps, evOp, evQs, evQ, evV, setD, pureOp, ev, upd, updL, gate, binW, eqOp, binV, intOp, shOp, boolOp, unV, convV, nilV, fieldAddrV, indexAddrV, extractV, cellAt, cellsAt, findB, setB, fillL, buildV, Value.cells, lenV, minV, maxV, hav, sliceV, loV, hiV, bslQ, mksQ, appQ, partsOk, partsCells, delB, eqL, SameI, strOp, apzQ, cvtQ, capV, ↓reduceIte, Zj, Zk, Nat.reduceAdd, Nat.reduceLT, Nat.reduceEqDiff, Nat.reduceMul, Nat.reduceLeDiff, if_true, Zn, reduceCtorEq, ZA, eq_self, Int.reduceLE, Int.reduceLT, Int.reduceToNat, ne_eq, Nat.reduceSub, hl, hm, nb2_b1, n2, n31, n32]
        repeat refine And.intro (by omega) ?_
        repeat refine And.intro (by omega) ?_
        intro g
        simp only [List.map_cons, List.map_nil, updL, upd, Nat.reduceEqDiff, if_true, if_false, ↓reduceIte]
        refine hK _ _ ?_; clear hK K
        exact roundN (m := q - 1) (by omega) ⟨_, b + 1, by omega, rfl, rfl⟩
    · obtain rfl : b = n := by omega
      have dl : (dtab b x o b 0).length = 64 := dtab_len
      skip
      refine Cd.exit (thenX (roundX (inBX ?_)))
      refine thenN ?_
      refine Cd.rs [2, 3, 4, 7] fun K hK => ?_
      simp (maxSteps := 2000000) (disch := first | (simp only [E4, hl, hm, nb2_b1, n2, n31, n32, dl] <;> omega) | omega | fail) only [↓E2, E3, bare, bareJ, ↓E0, E1, evP, evPlan, env0, envN, evOps, evOp, evQs, evQ, evV, setD, pureOp, ev, upd, updL, gate, binW, eqOp, binV, intOp, shOp, boolOp, unV, convV, nilV, fieldAddrV, indexAddrV, extractV, cellAt, cellsAt, findB, setB, fillL, buildV, Value.cells, lenV, minV, maxV, hav, sliceV, loV, hiV, bslQ, mksQ, appQ, partsOk, partsCells, delB, eqL, SameI, strOp, apzQ, cvtQ, capV, ↓reduceIte, Zj, Zk, Nat.reduceAdd, Nat.reduceLT, Nat.reduceEqDiff, Nat.reduceMul, Nat.reduceLeDiff, if_true, Zn, reduceCtorEq, ZA, eq_self, Int.reduceLE, Int.reduceLT, Int.reduceToNat, ne_eq, Nat.reduceSub, Tby2, Tslc47, Tslce47, Tzero2, hl, hm, nb2_b1, n2, n31, n32, dl]
      repeat refine And.intro (by omega) ?_
      intro b4 hb4
      have nb4_b3 := hb4.ne
      have nb4_b2 := hb4.tail.ne
      have nb4_b1 := hb4.tail.tail.ne
      try simp (maxSteps := 2000000) (disch := first | (simp only [E4, hl, hm, nb2_b1, n2, n31, n32, dl, nb4_b3, nb4_b2, nb4_b1] <;> omega) | omega | fail) only [↓E2, E3, bare, bareJ, ↓E0, E1, evP, evPlan, env0, envN, evOps, evOp, evQs, evQ, evV, setD, pureOp, ev, upd, updL, gate, binW, eqOp, binV, intOp, shOp, boolOp, unV, convV, nilV, fieldAddrV, indexAddrV, extractV, cellAt, cellsAt, findB, setB, fillL, buildV, Value.cells, lenV, minV, maxV, hav, sliceV, loV, hiV, bslQ, mksQ, appQ, partsOk, partsCells, delB, eqL, SameI, strOp, apzQ, cvtQ, capV, ↓reduceIte, Zj, Zk, Nat.reduceAdd, Nat.reduceLT, Nat.reduceEqDiff, Nat.reduceMul, Nat.reduceLeDiff, if_true, Zn, reduceCtorEq, ZA, eq_self, Int.reduceLE, Int.reduceLT, Int.reduceToNat, ne_eq, Nat.reduceSub, Tby2, Tslc47, Tslce47, Tzero2, hl, hm, nb2_b1, n2, n31, n32, dl, nb4_b3, nb4_b2, nb4_b1]
      repeat refine And.intro (by omega) ?_
      have e16 : (16 * (b : Int) + 1).toNat = 16 * b + 1 := by omega
      have hrep : List.replicate (16 * b + 1) (Value.int .i64 0) = ints .i64 (List.replicate (16 * b + 1) 0) := by simp [ints]
      rw [e16, hrep]
      repeat refine And.intro (by omega) ?_
      intro g
      simp only [List.map_cons, List.map_nil, updL, upd, Nat.reduceEqDiff, if_true, if_false, ↓reduceIte]
      refine hK _ _ ?_; clear hK K
      refine Cd.nodup fun hnd4 => ?_
      have p8 : (b : Int) ^ b ≤ 16777216 := by
        have h9 : b = 2 ∨ b = 3 ∨ b = 4 ∨ b = 5 ∨ b = 6 ∨ b = 7 ∨ b = 8 := by omega
        rcases h9 with rfl | rfl | rfl | rfl | rfl | rfl | rfl <;> decide
      have hc := l04Count_c b hn (wtG x o) (dtab b x o b 0) dl (fun r a hr ha => ⟨by rw [dtab_get (by omega), if_pos (by omega), show (r * 8 + a) / 8 = r by omega, show (r * 8 + a) % 8 = a by omega], wtG_bound x o r a (by omega)⟩)
        b4 (16 * b + 1) b 0 0 1 0 (List.replicate 8 false) (List.replicate (16 * b + 1) 0) (by omega) List.length_replicate List.length_replicate (by omega) (by omega) (.inl rfl) (by omega) (by omega)
        (fun j => by rw [List.getD_eq_getElem?_getD, List.getElem?_replicate]; split <;> simp)
      refine Cd.rs [2, 4, 7] fun K hK => ?_
      simp (maxSteps := 2000000) (disch := first | (simp only [E4, hl, hm, nb2_b1, n2, n31, n32, dl, nb4_b3, nb4_b2, nb4_b1] <;> omega) | omega | fail) only [↓E2, E3, bare, bareJ, ↓E0, E1, evP, evPlan, env0, envN, evOps, evOp, evQs, evQ, evV, setD, pureOp, ev, upd, updL, gate, binW, eqOp, binV, intOp, shOp, boolOp, unV, convV, nilV, fieldAddrV, indexAddrV, extractV, cellAt, cellsAt, findB, setB, fillL, buildV, Value.cells, lenV, minV, maxV, hav, sliceV, loV, hiV, bslQ, mksQ, appQ, partsOk, partsCells, delB, eqL, SameI, strOp, apzQ, cvtQ, capV, ↓reduceIte, Zj, Zk, Nat.reduceAdd, Nat.reduceLT, Nat.reduceEqDiff, Nat.reduceMul, Nat.reduceLeDiff, if_true, Zn, reduceCtorEq, ZA, eq_self, Int.reduceLE, Int.reduceLT, Int.reduceToNat, ne_eq, Nat.reduceSub, Tbld163, Tld113, hl, hm, nb2_b1, n2, n31, n32, dl, nb4_b3, nb4_b2, nb4_b1]
      repeat refine And.intro (by omega) ?_
      refine callK_lend hc (by simp [findB]) hnd4 (fun _ _ => toldW_nil) ?_
      rintro v' M' rfl _ _
      rw [show cntL b (wtG x o) (List.replicate (16 * b + 1) 0) 0 1 b 0 (freeS (List.replicate 8 false)) = detC b x o from rfl]
      simp only [List.cons_append, List.nil_append]
      have dcl := detC_len b x o
      skip
      simp (maxSteps := 2000000) (disch := first | (simp only [E4, hl, hm, nb2_b1, n2, n31, n32, dl, nb4_b3, nb4_b2, nb4_b1, dcl] <;> omega) | omega | fail) only [↓E2, E3, bare, bareJ, ↓E0, E1, evP, evPlan, env0, envN, evOps, evOp, evQs, evQ, evV, setD, pureOp, ev, upd, updL, gate, binW, eqOp, binV, intOp, shOp, boolOp, unV, convV, nilV, fieldAddrV, indexAddrV, extractV, cellAt, cellsAt, findB, setB, fillL, buildV, Value.cells, lenV, minV, maxV, hav, sliceV, loV, hiV, bslQ, mksQ, appQ, partsOk, partsCells, delB, eqL, SameI, strOp, apzQ, cvtQ, capV, ↓reduceIte, Zj, Zk, Nat.reduceAdd, Nat.reduceLT, Nat.reduceEqDiff, Nat.reduceMul, Nat.reduceLeDiff, if_true, Zn, reduceCtorEq, ZA, eq_self, Int.reduceLE, Int.reduceLT, Int.reduceToNat, ne_eq, Nat.reduceSub, Tbld163, Tld113, hl, hm, nb2_b1, n2, n31, n32, dl, nb4_b3, nb4_b2, nb4_b1, dcl]
      repeat refine And.intro (by omega) ?_
      repeat refine And.intro (by omega) ?_
      intro g
      simp only [List.map_cons, List.map_nil, updL, upd, Nat.reduceEqDiff, if_true, if_false, ↓reduceIte]
      refine hK _ _ ?_; clear hK K
      refine Cd.nodup fun hnd5 => ?_
      have hrd : RdS (toldOf [(b4, ints .i64 (detC b x o))]) 1 (ints .i64 (detC b x o)) (.slice (some ⟨b4, 0, none⟩) (16 * b + 1) (16 * b + 1)) := (SlN.row (Row.full (w := 1) (by rw [ints_length, dcl, Nat.mul_one]))).reads fun p hp => mem_toldOf hp
      refine Cd.rs [2] fun K hK => ?_
      simp (maxSteps := 2000000) (disch := first | (simp only [E4, hl, hm, nb2_b1, n2, n31, n32, dl, nb4_b3, nb4_b2, nb4_b1, dcl] <;> omega) | omega | fail) only [↓E2, E3, bare, bareJ, ↓E0, E1, evP, evPlan, env0, envN, evOps, evOp, evQs, evQ, evV, setD, pureOp, ev, upd, updL, gate, binW, eqOp, binV, intOp, shOp, boolOp, unV, convV, nilV, fieldAddrV, indexAddrV, extractV, cellAt, cellsAt, findB, setB, fillL, buildV, Value.cells, lenV, minV, maxV, hav, sliceV, loV, hiV, bslQ, mksQ, appQ, partsOk, partsCells, delB, eqL, SameI, strOp, apzQ, cvtQ, capV, ↓reduceIte, Zj, Zk, Nat.reduceAdd, Nat.reduceLT, Nat.reduceEqDiff, Nat.reduceMul, Nat.reduceLeDiff, if_true, Zn, reduceCtorEq, ZA, eq_self, Int.reduceLE, Int.reduceLT, Int.reduceToNat, ne_eq, Nat.reduceSub, Tst56, hl, hm, nb2_b1, n2, n31, n32, dl, nb4_b3, nb4_b2, nb4_b1, dcl]
      repeat refine And.intro (by omega) ?_
      refine callK_newR0 (l04Trim_c (-8 * (b : Int)) (detC b x o) _ _ hrd (by omega) (by omega)) (HoldsAll.toldW (holds_mem hnd5 fun p hp => by rw [List.mem_singleton.1 hp]; exact List.mem_cons_self)) ?_
      intro v' M' hs' nd' _
      obtain ⟨s', rfl, hs'⟩ := hs'
      obtain ⟨a', m', c', rfl⟩ := hs'.form
      simp only [List.cons_append, List.nil_append] at nd' ⊢
      simp (maxSteps := 2000000) (disch := first | (simp only [E4, hl, hm, nb2_b1, n2, n31, n32, dl, nb4_b3, nb4_b2, nb4_b1, dcl] <;> omega) | omega | fail) only [↓E2, E3, bare, bareJ, ↓E0, E1, evP, evPlan, env0, envN, evOps, evOp, evQs, evQ, evV, setD, pureOp, ev, upd, updL, gate, binW, eqOp, binV, intOp, shOp, boolOp, unV, convV, nilV, fieldAddrV, indexAddrV, extractV, cellAt, cellsAt, findB, setB, fillL, buildV, Value.cells, lenV, minV, maxV, hav, sliceV, loV, hiV, bslQ, mksQ, appQ, partsOk, partsCells, delB, eqL, SameI, strOp, apzQ, cvtQ, capV, ↓reduceIte, Zj, Zk, Nat.reduceAdd, Nat.reduceLT, Nat.reduceEqDiff, Nat.reduceMul, Nat.reduceLeDiff, if_true, Zn, reduceCtorEq, ZA, eq_self, Int.reduceLE, Int.reduceLT, Int.reduceToNat, ne_eq, Nat.reduceSub, Tst56, hl, hm, nb2_b1, n2, n31, n32, dl, nb4_b3, nb4_b2, nb4_b1, dcl]
      repeat refine And.intro (by omega) ?_
      repeat refine And.intro (by omega) ?_
      intro g
      simp only [List.map_cons, List.map_nil, updL, upd, Nat.reduceEqDiff, if_true, if_false, ↓reduceIte]
      refine hK _ _ ?_; clear hK K
      refine Cd.ret ?_
      simp (maxSteps := 2000000) (disch := first | (simp only [E4, hl, hm, nb2_b1, n2, n31, n32, dl, nb4_b3, nb4_b2, nb4_b1, dcl] <;> omega) | omega | fail) only [↓E2, E3, bare, bareJ, ↓E0, E1, evP, evPlan, env0, envN, evOps, evOp, evQs, evQ, evV, setD, pureOp, ev, upd, updL, gate, binW, eqOp, binV, intOp, shOp, boolOp, unV, convV, nilV, fieldAddrV, indexAddrV, extractV, cellAt, cellsAt, findB, setB, fillL, buildV, Value.cells, lenV, minV, maxV, hav, sliceV, loV, hiV, bslQ, mksQ, appQ, partsOk, partsCells, delB, eqL, SameI, strOp, apzQ, cvtQ, capV, ↓reduceIte, Zj, Zk, Nat.reduceAdd, Nat.reduceLT, Nat.reduceEqDiff, Nat.reduceMul, Nat.reduceLeDiff, if_true, Zn, reduceCtorEq, ZA, eq_self, Int.reduceLE, Int.reduceLT, Int.reduceToNat, ne_eq, Nat.reduceSub, Tld56, hl, hm, nb2_b1, n2, n31, n32, dl, nb4_b3, nb4_b2, nb4_b1, dcl]
      repeat refine And.intro (by omega) ?_
      unfold detLow detL
      exact ⟨M', SubP.of (List.Sublist.cons _ (List.Sublist.cons _ (List.Sublist.cons _ (List.Sublist.cons _ (List.Sublist.refl _))))), _, rfl, hs'⟩
  clear hK
  simp (maxSteps := 2000000) (disch := first | (simp only [E4, hl, hm, nb2_b1] <;> omega) | omega | fail) only [↓E2, E3, bare, bareJ, ↓E0, E1, evP, evPlan, env0, envN, evOps, evOp, evQs, evQ, evV, setD, pureOp, ev, upd, updL, gate, binW, eqOp, binV, intOp, shOp, boolOp, unV, convV, nilV, fieldAddrV, indexAddrV, extractV, cellAt, cellsAt, findB, setB, fillL, buildV, Value.cells, lenV, minV, maxV, hav, sliceV, loV, hiV, bslQ, mksQ, appQ, partsOk, partsCells, delB, eqL, SameI, strOp, apzQ, cvtQ, capV, ↓reduceIte, Zj, Zk, Nat.reduceAdd, Nat.reduceLT, Nat.reduceEqDiff, Nat.reduceMul, Nat.reduceLeDiff, if_true, Zn, reduceCtorEq, ZA, eq_self, Int.reduceLE, Int.reduceLT, Int.reduceToNat, ne_eq, Nat.reduceSub, Tbld113, Tfld32_0, Tld2, Tst113, Tzero113, ↓YR, hl, hm, nb2_b1]
  repeat' first
      | omega
      | refine moreX_go ?_ ?_
      | with_reducible refine And.intro ?_ ?_
      | (with_reducible intro (b : Nat) (hb : Fresh _ _ b); have hb := hb.all; simp only [List.mem_cons, List.not_mem_nil, forall_eq_or_imp, or_false, forall_eq, false_implies, implies_true, and_true] at hb)
      | (with_reducible intro (b' : Nat) (cap' : Nat) (rest' : List Value) (hf' : Fresh _ _ b') (hc' : _ ≤ cap') (hr' : rest'.length = _); have hfa := hf'.all; simp only [List.mem_cons, List.not_mem_nil, forall_eq_or_imp, or_false, forall_eq, false_implies, implies_true, and_true] at hfa)
      | simp (maxSteps := 2000000) (disch := first | (simp only [E4, hl, hm, nb2_b1] <;> omega) | omega | fail) only [↓E2, E3, bare, bareJ, ↓E0, E1, evP, evPlan, env0, envN, evOps, evOp, evQs, evQ, evV, setD, pureOp, ev, upd, updL, gate, binW, eqOp, binV, intOp, shOp, boolOp, unV, convV, nilV, fieldAddrV, indexAddrV, extractV, cellAt, cellsAt, findB, setB, fillL, buildV, Value.cells, lenV, minV, maxV, hav, sliceV, loV, hiV, bslQ, mksQ, appQ, partsOk, partsCells, delB, eqL, SameI, strOp, apzQ, cvtQ, capV, ↓reduceIte, Zj, Zk, Nat.reduceAdd, Nat.reduceLT, Nat.reduceEqDiff, Nat.reduceMul, Nat.reduceLeDiff, if_true, Zn, reduceCtorEq, ZA, eq_self, Int.reduceLE, Int.reduceLT, Int.reduceToNat, ne_eq, Nat.reduceSub, Tbld113, Tfld32_0, Tld2, Tst113, Tzero113, ↓YR, hl, hm, nb2_b1, *]
  all_goals
    repeat refine And.intro (by omega) ?_
    intro g
    simp only [List.map_cons, List.map_nil, updL, upd, Nat.reduceEqDiff, if_true, if_false, ↓reduceIte]
    exact J g _ hb.2 hb.1
end

end Go.Proofs

/-
  What the functions of this part hand back: each as a plain function of its arguments. Conditions: none.
-/
namespace Go.Proofs
open Go.W8
set_option linter.unusedVariables false
set_option linter.unusedSimpArgs false
set_option linter.unusedSectionVars false
set_option maxRecDepth 8000
set_option maxHeartbeats 4000000
--@plain
/-- A set of columns as the bits of a number. -/
def bitsS (s : Nat) : Nat → Bool := fun a => s.testBit a
theorem bitB : ∀ s : Nat, s < 256 → ∀ a : Nat, a < 8 → s.testBit a = true → (2 ^ a ≤ s ∧ ∀ c : Nat, c < 8 → (s - 2 ^ a).testBit c = (s.testBit c && !(c == a))) := by decide +kernel
theorem pow8 {c : Nat} (h : 8 ≤ c) : 256 ≤ 2 ^ c := Nat.pow_le_pow_right (n := 2) (by decide) h
theorem bitsS_rem {s a : Nat} (hs : s < 256) (ha : a < 8) (h : bitsS s a = true) : bitsS (s - 2 ^ a) = rem (bitsS s) a := by
  funext c
  have hb := bitB s hs a ha h
  by_cases hc : c < 8
  · exact hb.2 c hc
  · have h1 : bitsS s c = false := Nat.testBit_lt_two_pow (Nat.lt_of_lt_of_le hs (pow8 (by omega)))
    have h2 : bitsS (s - 2 ^ a) c = false := Nat.testBit_lt_two_pow (Nat.lt_of_le_of_lt (Nat.sub_le _ _) (Nat.lt_of_lt_of_le hs (pow8 (by omega))))
    rw [rem_at, h1, h2]; rfl
theorem bitsS_pos {s a : Nat} (hs : s < 256) (ha : a < 8) (h : bitsS s a = true) : s - 2 ^ a < s := by
  have h1 := (bitB s hs a ha h).1
  have h2 : 0 < 2 ^ a := Nat.pow_pos (by decide)
  omega
theorem bitN : ∀ s : Nat, s < 256 → ∀ a : Nat, a < 8 → s.testBit a = true → IntKind.i64.wrap ((BitVec.ofInt IntKind.i64.bits (s : Int) &&& ~~~ BitVec.ofInt IntKind.i64.bits ((2 ^ a : Nat) : Int)).toNat : Int) = ((s - 2 ^ a : Nat) : Int) := by decide +kernel
theorem bitV : ∀ s : Nat, s < 256 → ∀ a : Nat, a < 8 → IntKind.i64.wrap ((BitVec.ofInt IntKind.i64.bits ((s : Int).fdiv (2 ^ min a IntKind.i64.bits)) &&& BitVec.ofInt IntKind.i64.bits 1).toNat : Int) = if s.testBit a then 1 else 0 := by decide +kernel
theorem bitW : ∀ a : Nat, a < 9 → IntKind.i64.wrap (1 * 2 ^ min a IntKind.i64.bits) = ((2 ^ a : Nat) : Int) := by decide +kernel
theorem cb_all {S : Nat → Bool} : ∀ {k : Nat}, (∀ a, a < k → S a = true) → cb S k = k
  | 0, _ => rfl
  | k + 1, h => by
    show cb S k + (if S k = true then 1 else 0) = k + 1
    rw [cb_all fun a ha => h a (Nat.lt_succ_of_lt ha), if_pos (h k (Nat.lt_succ_self k))]
theorem cb_congr {S S' : Nat → Bool} : ∀ {k : Nat}, (∀ a, a < k → S a = S' a) → cb S k = cb S' k
  | 0, _ => rfl
  | k + 1, h => by
    show cb S k + (if S k = true then 1 else 0) = cb S' k + (if S' k = true then 1 else 0)
    rw [cb_congr fun a ha => h a (Nat.lt_succ_of_lt ha), h k (Nat.lt_succ_self k)]
theorem dA_congr {n : Nat} {w : Nat → Nat → Int} : ∀ (m r : Nat) (S S' : Nat → Bool) (e : Int), (∀ a, a < n → S a = S' a) → dA n w m r S e = dA n w m r S' e
  | 0, _, _, _, _, _ => rfl
  | m + 1, r, S, S', e, h => by
    show sumN _ n = sumN _ n
    refine sumN_congr fun a ha => ?_
    rw [h a ha, cb_congr fun c hc => h c (Nat.lt_trans hc ha), dA_congr m (r + 1) (rem S a) (rem S' a) _ fun c hc => by rw [rem_at, rem_at, h c hc]]
theorem cb_pos {S : Nat → Bool} {n a : Nat} (h : S a = true) (ha : a < n) : 0 < cb S n := by
  have := cb_mono S (show a + 1 ≤ n from ha)
  have e : cb S (a + 1) = cb S a + 1 := by show cb S a + _ = _; rw [if_pos h]
  omega
/-- A table of 129 numbers for each set. -/
def mtab (N : Nat) (F : Nat → Nat → Int) : List Int := (List.range (N * 129)).map fun i => F (i / 129) (i % 129)
def prow (f : Nat → Int) : List Int := (List.range 129).map f
theorem prow_len (f : Nat → Int) : (prow f).length = 129 := by simp [prow]
theorem prow_get {f : Nat → Int} {k : Nat} (h : k < 129) : (prow f).getD k 0 = f k := by
  unfold prow
  rw [List.getD_eq_getElem?_getD, List.getElem?_map, List.getElem?_range h]; rfl
section
variable {N : Nat} {F G : Nat → Nat → Int}
theorem mtab_len : (mtab N F).length = N * 129 := by simp [mtab]
theorem mtab_at {i : Nat} (h : i < N * 129) : (mtab N F).getD i 0 = F (i / 129) (i % 129) := by
  unfold mtab
  rw [List.getD_eq_getElem?_getD, List.getElem?_map, List.getElem?_range h]; rfl
theorem mtab_get {s k : Nat} (hs : s < N) (hk : k < 129) : (mtab N F).getD (s * 129 + k) 0 = F s k := by
  rw [mtab_at (by have := Nat.mul_le_mul_right 129 (show s + 1 ≤ N from hs); omega), show (s * 129 + k) / 129 = s by omega, show (s * 129 + k) % 129 = k by omega]
theorem mext {A B : List Int} (h : A.length = B.length) (hg : ∀ i, i < A.length → A.getD i 0 = B.getD i 0) : A = B := by
  apply List.ext_getElem h
  intro i h1 h2
  have := hg i h1
  rw [List.getD_eq_getElem?_getD, List.getD_eq_getElem?_getD, List.getElem?_eq_getElem h1, List.getElem?_eq_getElem h2] at this
  simpa using this
theorem mtab_congr (h : ∀ s, s < N → ∀ k, k < 129 → F s k = G s k) : mtab N F = mtab N G := by
  unfold mtab
  refine List.map_congr_left fun i hi => ?_
  rw [List.mem_range] at hi
  exact h _ (by omega) _ (by omega)
theorem mtab_set {s k : Nat} {v : Int} (hs : s < N) (hk : k < 129) : (mtab N F).set (s * 129 + k) v = mtab N (fun s' k' => if s' = s ∧ k' = k then v else F s' k') := by
  have hb : s * 129 + k < N * 129 := by have := Nat.mul_le_mul_right 129 (show s + 1 ≤ N from hs); omega
  refine mext (by rw [List.length_set, mtab_len, mtab_len]) fun i hi => ?_
  rw [List.length_set, mtab_len] at hi
  rw [mtab_at hi]
  rw [List.getD_eq_getElem?_getD, List.getElem?_set]
  by_cases e : s * 129 + k = i
  · subst e
    rw [if_pos rfl, if_pos (by rw [mtab_len]; exact hb), if_pos ⟨by omega, by omega⟩]
    rfl
  · rw [if_neg e, if_neg (by omega), ← List.getD_eq_getElem?_getD, mtab_at hi]
theorem mtab_sub {s : Nat} (hs : s < N) : ((mtab N F).drop (s * 129)).take 129 = prow (F s) := by
  have hb := Nat.mul_le_mul_right 129 (show s + 1 ≤ N from hs)
  refine mext (by rw [List.length_take, List.length_drop, mtab_len, prow_len]; omega) fun i hi => ?_
  rw [List.length_take, List.length_drop, mtab_len] at hi
  rw [prow_get (by omega), ← mtab_get (F := F) hs (show i < 129 by omega), List.getD_eq_getElem?_getD, List.getElem?_take, if_pos (by omega), List.getElem?_drop, List.getD_eq_getElem?_getD]
theorem mtab_zero : mtab N (fun _ _ => 0) = List.replicate (N * 129) 0 := by
  refine mext (by rw [mtab_len, List.length_replicate]) fun i hi => ?_
  rw [mtab_len] at hi
  rw [mtab_at hi, List.getD_eq_getElem?_getD, List.getElem?_replicate, if_pos hi]
  rfl
end
section
variable (n : Nat) (w : Nat → Nat → Int)
def dBs (s k : Nat) : Int := dB n w (cb (bitsS s) n) 0 (bitsS s) ((k : Int) - 64)
/-- The sets before s are done; of s a part P is there. -/
def mF (s : Nat) (P : Nat → Int) : Nat → Nat → Int := fun s' k => if s' < s then dBs n w s' k else if s' = s then P k else 0
def fS (S : Nat → Bool) (m k a : Nat) : Int := if S a then sg (ab S n a) * dB n w m 0 (rem S a) ((k : Int) - 64 + w (0 + m) a) else 0
def pS (S : Nat → Bool) (m j k : Nat) : Int := sumN (fS n w S m k) n - sumN (fS n w S m k) j
def pK (S : Nat → Bool) (m a kk k : Nat) : Int := pS n w S m (a + 1) k + if (k : Int) + w m a < kk then sg (ab S n a) * dB n w m 0 (rem S a) ((k : Int) - 64 + w m a) else 0
end
section
variable {n : Nat} {w : Nat → Nat → Int} {S : Nat → Bool} {m a j k kk s : Nat}
theorem pS_top : pS n w S m n = fun _ => 0 := by
  funext k; unfold pS; omega
theorem pS_end (hc : cb S n = m + 1) : pS n w S m 0 k = dB n w (cb S n) 0 S ((k : Int) - 64) := by
  rw [hc]
  show sumN (fS n w S m k) n - 0 = sumN _ n
  rw [Int.sub_zero]
  rfl
theorem pS_skip (h : S a = false) : pS n w S m (a + 1) = pS n w S m a := by
  funext k
  show _ - (sumN (fS n w S m k) a + fS n w S m k a) = _ - sumN (fS n w S m k) a
  have : fS n w S m k a = 0 := by unfold fS; rw [h]; rfl
  omega
theorem pS_step (h : S a = true) : pS n w S m a k = pS n w S m (a + 1) k + sg (ab S n a) * dB n w m 0 (rem S a) ((k : Int) - 64 + w m a) := by
  show _ - sumN (fS n w S m k) a = _ - (sumN (fS n w S m k) a + fS n w S m k a) + _
  have : fS n w S m k a = sg (ab S n a) * dB n w m 0 (rem S a) ((k : Int) - 64 + w m a) := by unfold fS; rw [if_pos h, Nat.zero_add]
  omega
theorem dB_far8 (hw : ∀ r a, a < n → -8 ≤ w r a ∧ w r a ≤ 8) (m : Nat) {S : Nat → Bool} {e : Int} (h : e < -(8 * (m : Int)) ∨ 8 * (m : Int) < e) : dB n w m 0 S e = 0 := by
  rcases Decidable.em (dB n w m 0 S e = 0) with h1 | h1
  · exact h1
  · have := dB_far hw m 0 S e h1
    omega
theorem pK_zero (hw : ∀ r a, a < n → -8 ≤ w r a ∧ w r a ≤ 8) (hm : m ≤ 7) : pK n w S m a 0 = pS n w S m (a + 1) := by
  funext k
  unfold pK
  by_cases h : (k : Int) + w m a < (0 : Nat)
  · rw [if_pos h, dB_far8 hw m (.inl (by omega)), Int.mul_zero, Int.add_zero]
  · rw [if_neg h, Int.add_zero]
theorem pK_full (hw : ∀ r a, a < n → -8 ≤ w r a ∧ w r a ≤ 8) (hm : m ≤ 7) (h : S a = true) : pK n w S m a 129 = pS n w S m a := by
  funext k
  unfold pK
  rw [pS_step h]
  by_cases h : (k : Int) + w m a < (129 : Nat)
  · rw [if_pos h]
  · rw [if_neg h, dB_far8 hw m (.inr (by omega)), Int.mul_zero]
theorem pK_same (hd : dB n w m 0 (rem S a) ((kk : Int) - 64) = 0) : pK n w S m a (kk + 1) = pK n w S m a kk := by
  funext k
  unfold pK
  by_cases e : (k : Int) + w m a = kk
  · rw [if_pos (by omega), if_neg (by omega), show (k : Int) - 64 + w m a = (kk : Int) - 64 by omega, hd, Int.mul_zero]
  · by_cases h : (k : Int) + w m a < kk
    · rw [if_pos (by omega), if_pos h]
    · rw [if_neg (by omega), if_neg h]
theorem pK_step (h0 : (k : Int) + w m a = kk) : pK n w S m a (kk + 1) = fun k' => if k' = k then pK n w S m a kk k + sg (ab S n a) * dB n w m 0 (rem S a) ((kk : Int) - 64) else pK n w S m a kk k' := by
  funext k'
  unfold pK
  by_cases e : k' = k
  · subst e
    rw [if_pos rfl, if_pos (by omega), if_neg (by omega), show (k' : Int) - 64 + w m a = (kk : Int) - 64 by omega, Int.add_zero]
  · rw [if_neg e]
    by_cases h : (k' : Int) + w m a < kk
    · rw [if_pos (by omega), if_pos h]
    · rw [if_neg (by omega), if_neg h]
theorem mF_self {P : Nat → Int} : mF n w s P s k = P k := by
  unfold mF; rw [if_neg (Nat.lt_irrefl _), if_pos rfl]
theorem mF_less {P : Nat → Int} {s' : Nat} (h : s' < s) : mF n w s P s' k = dBs n w s' k := by
  unfold mF; rw [if_pos h]
theorem mF_set {P : Nat → Int} {v : Int} : (fun s' k' => if s' = s ∧ k' = k then v else mF n w s P s' k') = mF n w s (fun k' => if k' = k then v else P k') := by
  funext s' k'
  unfold mF
  by_cases h : s' = s
  · subst h
    rw [if_neg (Nat.lt_irrefl _), if_neg (Nat.lt_irrefl _), if_pos rfl, if_pos rfl]
    show _ = if k' = k then v else P k'
    by_cases hk : k' = k
    · rw [if_pos ⟨rfl, hk⟩, if_pos hk]
    · rw [if_neg (fun h => hk h.2), if_neg hk]
  · rw [if_neg (fun hh => h hh.1), if_neg h, if_neg h]
theorem mF_next (h : ∀ k, pS n w S m 0 k = dBs n w s k) : mF n w s (pS n w S m 0) = mF n w (s + 1) (fun _ => 0) := by
  funext s' k
  unfold mF
  by_cases h1 : s' < s
  · rw [if_pos h1, if_pos (by omega)]
  · rw [if_neg h1]
    by_cases h2 : s' = s
    · subst h2
      rw [if_pos rfl, if_pos (by omega), h]
    · rw [if_neg h2, if_neg (by omega)]
      split <;> rfl
theorem pK_small (hn : n ≤ 8) (hm : m ≤ 7) (ha : a < n) : -100000000 ≤ pK n w S m a kk k ∧ pK n w S m a kk k ≤ 100000000 := by
  have hp : (n : Int) ^ m ≤ 2097152 := by
    have h1 : n ^ m ≤ 8 ^ 7 := Nat.le_trans (Nat.pow_le_pow_left hn m) (Nat.pow_le_pow_right (by decide) hm)
    have h2 : ((n ^ m : Nat) : Int) = (n : Int) ^ m := Int.natCast_pow n m
    omega
  have hd : ∀ (S : Nat → Bool) (e : Int), -2097152 ≤ dB n w m 0 S e ∧ dB n w m 0 S e ≤ 2097152 := fun S e => by
    have := dB_bound n w m 0 S e
    omega
  have hf : ∀ i, -2097152 ≤ fS n w S m k i ∧ fS n w S m k i ≤ 2097152 := fun i => by
    unfold fS
    cases S i with
    | false => simp only [Bool.false_eq_true, if_false]; omega
    | true =>
      have := hd (rem S i) ((k : Int) - 64 + w (0 + m) i)
      rcases sg_cases (ab S n i) with h | h <;> rw [if_pos rfl, h] <;> omega
  have h1 := sumN_bound hf n
  have h4 : pK n w S m a kk k = sumN (fS n w S m k) n - sumN (fS n w S m k) (a + 1) + if (k : Int) + w m a < kk then sg (ab S n a) * dB n w m 0 (rem S a) ((k : Int) - 64 + w m a) else 0 := rfl
  have h2 := sumN_bound hf (a + 1)
  have h3 : -2097152 ≤ (if (k : Int) + w m a < kk then sg (ab S n a) * dB n w m 0 (rem S a) ((k : Int) - 64 + w m a) else 0) ∧ (if (k : Int) + w m a < kk then sg (ab S n a) * dB n w m 0 (rem S a) ((k : Int) - 64 + w m a) else 0) ≤ 2097152 := by
    have := hd (rem S a) ((k : Int) - 64 + w m a)
    split
    · rcases sg_cases (ab S n a) with h | h <;> rw [h] <;> omega
    · omega
  omega
end

end Go.Proofs

