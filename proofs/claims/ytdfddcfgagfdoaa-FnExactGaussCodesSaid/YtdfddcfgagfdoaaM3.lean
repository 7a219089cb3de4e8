/-
  What the functions of this part hand back: each as a plain function of its arguments. Conditions: none.
-/
import Derived.ProofKit
import Derived.OpenShut
import Derived.Below
import Derived.ChangeSame
import Derived.Test.YtdfddcfgagfdoaaM1
import Derived.Test.YtdfddcfgagfdoaaM2
namespace Go.Proofs
open Go.W8
set_option linter.unusedVariables false
set_option linter.unusedSimpArgs false
set_option linter.unusedSectionVars false
set_option maxRecDepth 8000
set_option maxHeartbeats 4000000
theorem toByteA8_c (x : List Int) (hx : x.length = 8) : Gives Try.prog 108 #[.agg (ints .u8 x).toArray] (.agg (ints .u8 x).toArray) := by
  refine Gives.of fun w => ?_
  refine acall_of (N := 15) (c := _) (rs := [.cell 2 30]) (args := [_]) Try.func108 rfl (by decide) rfl rfl (Nat.le_of_ble_eq_true rfl) ?_
  refine Cd.rs [1, 2] fun K hK => ?_
  simp (maxSteps := 2000000) (disch := first | omega | (simp only [E4, *] <;> omega) | fail) only [↓E0, E1, evP, evPlan, env0, envN, evOps, evOp, evQs, evQ, evV, setD, pureOp, ev, upd, updL, gate, binW, eqOp, binV, intOp, shOp, boolOp, unV, convV, nilV, fieldAddrV, indexAddrV, extractV, cellAt, cellsAt, findB, setB, fillL, buildV, Value.cells, lenV, minV, maxV, hav, sliceV, loV, hiV, bslQ, mksQ, appQ, partsOk, partsCells, delB, eqL, SameI, strOp, apzQ, cvtQ, capV, ↓reduceIte, Zj, Zk, Nat.reduceAdd, Nat.reduceLT, Nat.reduceEqDiff, Nat.reduceMul, Nat.reduceLeDiff, if_true, Zn, reduceCtorEq, ZA, eq_self, Int.reduceLE, Int.reduceLT, Int.reduceToNat, ne_eq, Nat.reduceSub, Tzero30]
  intro b1 hb1 b2 hb2
  have n21 := hb2.ne
  repeat refine And.intro (by omega) ?_
  intro g
  simp only [List.map_cons, List.map_nil, updL, upd, Nat.reduceEqDiff, if_true, if_false, ↓reduceIte]
  refine hK _ _ ?_; clear hK K
  refine Cd.rs [1, 2, 3] fun K hK => ?_
  simp (maxSteps := 2000000) (disch := first | omega | (simp only [E4, *] <;> omega) | fail) only [↓E0, E1, evP, evPlan, env0, envN, evOps, evOp, evQs, evQ, evV, setD, pureOp, ev, upd, updL, gate, binW, eqOp, binV, intOp, shOp, boolOp, unV, convV, nilV, fieldAddrV, indexAddrV, extractV, cellAt, cellsAt, findB, setB, fillL, buildV, Value.cells, lenV, minV, maxV, hav, sliceV, loV, hiV, bslQ, mksQ, appQ, partsOk, partsCells, delB, eqL, SameI, strOp, apzQ, cvtQ, capV, ↓reduceIte, Zj, Zk, Nat.reduceAdd, Nat.reduceLT, Nat.reduceEqDiff, Nat.reduceMul, Nat.reduceLeDiff, if_true, Zn, reduceCtorEq, ZA, eq_self, Int.reduceLE, Int.reduceLT, Int.reduceToNat, ne_eq, Nat.reduceSub, Tzero30]
  intro b3 hb3
  have n32 := hb3.ne
  have n31 := hb3.tail.ne
  repeat refine And.intro (by omega) ?_
  intro g
  simp only [List.map_cons, List.map_nil, updL, upd, Nat.reduceEqDiff, if_true, if_false, ↓reduceIte]
  refine hK _ _ ?_; clear hK K
  refine Cd.seq ?_
  refine Cd.rs [1, 2, 3, 4] fun K hK => ?_
  simp (maxSteps := 2000000) (disch := first | omega | (simp only [E4, *] <;> omega) | fail) only [↓E0, E1, evP, evPlan, env0, envN, evOps, evOp, evQs, evQ, evV, setD, pureOp, ev, upd, updL, gate, binW, eqOp, binV, intOp, shOp, boolOp, unV, convV, nilV, fieldAddrV, indexAddrV, extractV, cellAt, cellsAt, findB, setB, fillL, buildV, Value.cells, lenV, minV, maxV, hav, sliceV, loV, hiV, bslQ, mksQ, appQ, partsOk, partsCells, delB, eqL, SameI, strOp, apzQ, cvtQ, capV, ↓reduceIte, Zj, Zk, Nat.reduceAdd, Nat.reduceLT, Nat.reduceEqDiff, Nat.reduceMul, Nat.reduceLeDiff, if_true, Zn, reduceCtorEq, ZA, eq_self, Int.reduceLE, Int.reduceLT, Int.reduceToNat, ne_eq, Nat.reduceSub]
  repeat refine And.intro (by omega) ?_
  intro g
  simp only [List.map_cons, List.map_nil, updL, upd, Nat.reduceEqDiff, if_true, if_false, ↓reduceIte]
  refine hK _ _ ?_; clear hK K
  refine Cd.block ?_
  refine Cd.loop (fun n ρ M => ∃ g k, k + n = 8 ∧ ρ = updL [(1, .pointer (some ⟨b1, 0, none⟩)), (2, .pointer (some ⟨b2, 0, none⟩)), (3, .pointer (some ⟨b3, 0, none⟩)), (4, .int .i64 (k : Int))] g ∧
    M = [(b3, ints .u8 (upto 8 (fun i => x.getD i 0) 0 k)), (b2, ints .u8 z8), (b1, ints .u8 x)]) 8 ⟨_, 0, Nat.zero_add _, rfl, rfl⟩ ?_
  rintro n ρ M ⟨g, k, hk, rfl, rfl⟩
  refine Cd.seq ?_
  refine Cd.rs [1, 2, 3, 4, 6] fun K hK => ?_
  simp (maxSteps := 2000000) (disch := first | omega | (simp only [E4, *] <;> omega) | fail) only [↓E0, E1, evP, evPlan, env0, envN, evOps, evOp, evQs, evQ, evV, setD, pureOp, ev, upd, updL, gate, binW, eqOp, binV, intOp, shOp, boolOp, unV, convV, nilV, fieldAddrV, indexAddrV, extractV, cellAt, cellsAt, findB, setB, fillL, buildV, Value.cells, lenV, minV, maxV, hav, sliceV, loV, hiV, bslQ, mksQ, appQ, partsOk, partsCells, delB, eqL, SameI, strOp, apzQ, cvtQ, capV, ↓reduceIte, Zj, Zk, Nat.reduceAdd, Nat.reduceLT, Nat.reduceEqDiff, Nat.reduceMul, Nat.reduceLeDiff, if_true, Zn, reduceCtorEq, ZA, eq_self, Int.reduceLE, Int.reduceLT, Int.reduceToNat, ne_eq, Nat.reduceSub]
  repeat refine And.intro (by omega) ?_
  intro g
  simp only [List.map_cons, List.map_nil, updL, upd, Nat.reduceEqDiff, if_true, if_false, ↓reduceIte]
  refine hK _ _ ?_; clear hK K
  refine Cd.condd rfl (fun h1 => ?_) (fun h1 => ?_)
  · refine Cd.skip ?_
    refine thenN ?_
    refine Cd.seq ?_
    refine Cd.block ?_
    refine Cd.rr [1, 2, 3, 4] fun K hK => ?_
    simp (maxSteps := 2000000) (disch := first | omega | (simp only [E4, n21, n32, n31, hx, *] <;> omega) | fail) only [↓E0, E1, evP, evPlan, env0, envN, evOps, evOp, evQs, evQ, evV, setD, pureOp, ev, upd, updL, gate, binW, eqOp, binV, intOp, shOp, boolOp, unV, convV, nilV, fieldAddrV, indexAddrV, extractV, cellAt, cellsAt, findB, setB, fillL, buildV, Value.cells, lenV, minV, maxV, hav, sliceV, loV, hiV, bslQ, mksQ, appQ, partsOk, partsCells, delB, eqL, SameI, strOp, apzQ, cvtQ, capV, ↓reduceIte, Zj, Zk, Nat.reduceAdd, Nat.reduceLT, Nat.reduceEqDiff, Nat.reduceMul, Nat.reduceLeDiff, if_true, Zn, reduceCtorEq, ZA, eq_self, Int.reduceLE, Int.reduceLT, Int.reduceToNat, ne_eq, Nat.reduceSub, Tarr30, Tld5, Tst5, n21, n32, n31, hx]
    repeat refine And.intro (by omega) ?_
    rw [upto_set rfl]
    repeat refine And.intro (by omega) ?_
    intro g
    simp only [List.map_cons, List.map_nil, updL, upd, Nat.reduceEqDiff, if_true, if_false, ↓reduceIte]
    refine hK _ _ ?_; clear hK K
    refine inBN ?_
    refine thenN ?_
    refine Cd.rr [1, 2, 3, 4] fun K hK => ?_
    simp (maxSteps := 2000000) (disch := first | omega | (simp only [E4, *] <;> omega) | fail) only [↓E0, E1, evP, evPlan, env0, envN, evOps, evOp, evQs, evQ, evV, setD, pureOp, ev, upd, updL, gate, binW, eqOp, binV, intOp, shOp, boolOp, unV, convV, nilV, fieldAddrV, indexAddrV, extractV, cellAt, cellsAt, findB, setB, fillL, buildV, Value.cells, lenV, minV, maxV, hav, sliceV, loV, hiV, bslQ, mksQ, appQ, partsOk, partsCells, delB, eqL, SameI, strOp, apzQ, cvtQ, capV, ↓reduceIte, Zj, Zk, Nat.reduceAdd, Nat.reduceLT, Nat.reduceEqDiff, Nat.reduceMul, Nat.reduceLeDiff, if_true, Zn, reduceCtorEq, ZA, eq_self, Int.reduceLE, Int.reduceLT, Int.reduceToNat, ne_eq, Nat.reduceSub]
    repeat refine And.intro (by omega) ?_
    intro g
    simp only [List.map_cons, List.map_nil, updL, upd, Nat.reduceEqDiff, if_true, if_false, ↓reduceIte]
    refine hK _ _ ?_; clear hK K
    exact roundN (m := n - 1) (by omega) ⟨_, k + 1, by omega, rfl, rfl⟩
  · refine Cd.exit (thenX (roundX (inBX ?_)))
    refine thenN ?_
    obtain rfl : k = 8 := by omega
    rw [upto_full hx]
    refine Cd.rs [2] fun K hK => ?_
    simp (maxSteps := 2000000) (disch := first | omega | (simp only [E4, n21, n32, n31, hx, *] <;> omega) | fail) only [↓E0, E1, evP, evPlan, env0, envN, evOps, evOp, evQs, evQ, evV, setD, pureOp, ev, upd, updL, gate, binW, eqOp, binV, intOp, shOp, boolOp, unV, convV, nilV, fieldAddrV, indexAddrV, extractV, cellAt, cellsAt, findB, setB, fillL, buildV, Value.cells, lenV, minV, maxV, hav, sliceV, loV, hiV, bslQ, mksQ, appQ, partsOk, partsCells, delB, eqL, SameI, strOp, apzQ, cvtQ, capV, ↓reduceIte, Zj, Zk, Nat.reduceAdd, Nat.reduceLT, Nat.reduceEqDiff, Nat.reduceMul, Nat.reduceLeDiff, if_true, Zn, reduceCtorEq, ZA, eq_self, Int.reduceLE, Int.reduceLT, Int.reduceToNat, ne_eq, Nat.reduceSub, Tld30, Tst30, n21, n32, n31, hx]
    repeat refine And.intro (by omega) ?_
    intro g
    simp only [List.map_cons, List.map_nil, updL, upd, Nat.reduceEqDiff, if_true, if_false, ↓reduceIte]
    refine hK _ _ ?_; clear hK K
    refine Cd.ret ?_
    simp (maxSteps := 2000000) (disch := first | omega | (simp only [E4, n21, n32, n31, hx, *] <;> omega) | fail) only [↓E0, E1, evP, evPlan, env0, envN, evOps, evOp, evQs, evQ, evV, setD, pureOp, ev, upd, updL, gate, binW, eqOp, binV, intOp, shOp, boolOp, unV, convV, nilV, fieldAddrV, indexAddrV, extractV, cellAt, cellsAt, findB, setB, fillL, buildV, Value.cells, lenV, minV, maxV, hav, sliceV, loV, hiV, bslQ, mksQ, appQ, partsOk, partsCells, delB, eqL, SameI, strOp, apzQ, cvtQ, capV, ↓reduceIte, Zj, Zk, Nat.reduceAdd, Nat.reduceLT, Nat.reduceEqDiff, Nat.reduceMul, Nat.reduceLeDiff, if_true, Zn, reduceCtorEq, ZA, eq_self, Int.reduceLE, Int.reduceLT, Int.reduceToNat, ne_eq, Nat.reduceSub, Tld30, n21, n32, n31, hx]

theorem toGrid_c (s : Int) (x o : List Int) (hx : x.length = 8) (ho : o.length = 8) : Gives Try.prog 36 #[.agg (gc s x o).toArray] (.agg (gc s x o).toArray) := by
  refine Gives.of fun w => ?_
  refine acall_of (N := 16) (c := _) (rs := [.cell 2 32]) (args := [_]) Try.func36 rfl (by decide) rfl rfl (Nat.le_of_ble_eq_true rfl) ?_
  refine Cd.rs [1, 2] fun K hK => ?_
  simp (maxSteps := 2000000) (disch := first | omega | (simp only [E4, *] <;> omega) | fail) only [↓E0, E1, evP, evPlan, env0, envN, evOps, evOp, evQs, evQ, evV, setD, pureOp, ev, upd, updL, gate, binW, eqOp, binV, intOp, shOp, boolOp, unV, convV, nilV, fieldAddrV, indexAddrV, extractV, cellAt, cellsAt, findB, setB, fillL, buildV, Value.cells, lenV, minV, maxV, hav, sliceV, loV, hiV, bslQ, mksQ, appQ, partsOk, partsCells, delB, eqL, SameI, strOp, apzQ, cvtQ, capV, ↓reduceIte, Zj, Zk, Nat.reduceAdd, Nat.reduceLT, Nat.reduceEqDiff, Nat.reduceMul, Nat.reduceLeDiff, if_true, Zn, reduceCtorEq, ZA, eq_self, Int.reduceLE, Int.reduceLT, Int.reduceToNat, ne_eq, Nat.reduceSub, Tzero32]
  intro b1 hb1 b2 hb2
  have n21 := hb2.ne
  repeat refine And.intro (by omega) ?_
  intro g
  simp only [List.map_cons, List.map_nil, updL, upd, Nat.reduceEqDiff, if_true, if_false, ↓reduceIte]
  refine hK _ _ ?_; clear hK K
  refine Cd.rs [1, 2, 3] fun K hK => ?_
  simp (maxSteps := 2000000) (disch := first | omega | (simp only [E4, *] <;> omega) | fail) only [↓E0, E1, evP, evPlan, env0, envN, evOps, evOp, evQs, evQ, evV, setD, pureOp, ev, upd, updL, gate, binW, eqOp, binV, intOp, shOp, boolOp, unV, convV, nilV, fieldAddrV, indexAddrV, extractV, cellAt, cellsAt, findB, setB, fillL, buildV, Value.cells, lenV, minV, maxV, hav, sliceV, loV, hiV, bslQ, mksQ, appQ, partsOk, partsCells, delB, eqL, SameI, strOp, apzQ, cvtQ, capV, ↓reduceIte, Zj, Zk, Nat.reduceAdd, Nat.reduceLT, Nat.reduceEqDiff, Nat.reduceMul, Nat.reduceLeDiff, if_true, Zn, reduceCtorEq, ZA, eq_self, Int.reduceLE, Int.reduceLT, Int.reduceToNat, ne_eq, Nat.reduceSub, Tzero32]
  intro b3 hb3
  have n32 := hb3.ne
  have n31 := hb3.tail.ne
  repeat refine And.intro (by omega) ?_
  intro g
  simp only [List.map_cons, List.map_nil, updL, upd, Nat.reduceEqDiff, if_true, if_false, ↓reduceIte]
  refine hK _ _ ?_; clear hK K
  refine Cd.rs [1, 2, 3] fun K hK => ?_
  simp (maxSteps := 2000000) (disch := first | omega | (simp only [E4, n21, n32, n31, hx, ho, *] <;> omega) | fail) only [↓E0, E1, evP, evPlan, env0, envN, evOps, evOp, evQs, evQ, evV, setD, pureOp, ev, upd, updL, gate, binW, eqOp, binV, intOp, shOp, boolOp, unV, convV, nilV, fieldAddrV, indexAddrV, extractV, cellAt, cellsAt, findB, setB, fillL, buildV, Value.cells, lenV, minV, maxV, hav, sliceV, loV, hiV, bslQ, mksQ, appQ, partsOk, partsCells, delB, eqL, SameI, strOp, apzQ, cvtQ, capV, ↓reduceIte, Zj, Zk, Nat.reduceAdd, Nat.reduceLT, Nat.reduceEqDiff, Nat.reduceMul, Nat.reduceLeDiff, if_true, Zn, reduceCtorEq, ZA, eq_self, Int.reduceLE, Int.reduceLT, Int.reduceToNat, ne_eq, Nat.reduceSub, Tfld32_0, Tfld49_0, Tld2, Tst2, n21, n32, n31, hx, ho]
  repeat refine And.intro (by omega) ?_
  intro g
  simp only [List.map_cons, List.map_nil, updL, upd, Nat.reduceEqDiff, if_true, if_false, ↓reduceIte]
  refine hK _ _ ?_; clear hK K
  refine Cd.rs [1, 2, 3] fun K hK => ?_
  simp (maxSteps := 2000000) (disch := first | omega | (simp only [E4, n21, n32, n31, hx, ho, *] <;> omega) | fail) only [↓E0, E1, evP, evPlan, env0, envN, evOps, evOp, evQs, evQ, evV, setD, pureOp, ev, upd, updL, gate, binW, eqOp, binV, intOp, shOp, boolOp, unV, convV, nilV, fieldAddrV, indexAddrV, extractV, cellAt, cellsAt, findB, setB, fillL, buildV, Value.cells, lenV, minV, maxV, hav, sliceV, loV, hiV, bslQ, mksQ, appQ, partsOk, partsCells, delB, eqL, SameI, strOp, apzQ, cvtQ, capV, ↓reduceIte, Zj, Zk, Nat.reduceAdd, Nat.reduceLT, Nat.reduceEqDiff, Nat.reduceMul, Nat.reduceLeDiff, if_true, Zn, reduceCtorEq, ZA, eq_self, Int.reduceLE, Int.reduceLT, Int.reduceToNat, ne_eq, Nat.reduceSub, Tfld32_1, Tfld49_1, Tld30, Tst30, n21, n32, n31, hx, ho]
  refine callK_gives (toByteA8_c _ hx) ?_
  simp (maxSteps := 2000000) (disch := first | omega | (simp only [E4, n21, n32, n31, hx, ho, *] <;> omega) | fail) only [↓E0, E1, evP, evPlan, env0, envN, evOps, evOp, evQs, evQ, evV, setD, pureOp, ev, upd, updL, gate, binW, eqOp, binV, intOp, shOp, boolOp, unV, convV, nilV, fieldAddrV, indexAddrV, extractV, cellAt, cellsAt, findB, setB, fillL, buildV, Value.cells, lenV, minV, maxV, hav, sliceV, loV, hiV, bslQ, mksQ, appQ, partsOk, partsCells, delB, eqL, SameI, strOp, apzQ, cvtQ, capV, ↓reduceIte, Zj, Zk, Nat.reduceAdd, Nat.reduceLT, Nat.reduceEqDiff, Nat.reduceMul, Nat.reduceLeDiff, if_true, Zn, reduceCtorEq, ZA, eq_self, Int.reduceLE, Int.reduceLT, Int.reduceToNat, ne_eq, Nat.reduceSub, Tfld32_1, Tfld49_1, Tld30, Tst30, n21, n32, n31, hx, ho]
  repeat refine And.intro (by omega) ?_
  intro g
  simp only [List.map_cons, List.map_nil, updL, upd, Nat.reduceEqDiff, if_true, if_false, ↓reduceIte]
  refine hK _ _ ?_; clear hK K
  refine Cd.rs [2, 3] fun K hK => ?_
  simp (maxSteps := 2000000) (disch := first | omega | (simp only [E4, n21, n32, n31, hx, ho, *] <;> omega) | fail) only [↓E0, E1, evP, evPlan, env0, envN, evOps, evOp, evQs, evQ, evV, setD, pureOp, ev, upd, updL, gate, binW, eqOp, binV, intOp, shOp, boolOp, unV, convV, nilV, fieldAddrV, indexAddrV, extractV, cellAt, cellsAt, findB, setB, fillL, buildV, Value.cells, lenV, minV, maxV, hav, sliceV, loV, hiV, bslQ, mksQ, appQ, partsOk, partsCells, delB, eqL, SameI, strOp, apzQ, cvtQ, capV, ↓reduceIte, Zj, Zk, Nat.reduceAdd, Nat.reduceLT, Nat.reduceEqDiff, Nat.reduceMul, Nat.reduceLeDiff, if_true, Zn, reduceCtorEq, ZA, eq_self, Int.reduceLE, Int.reduceLT, Int.reduceToNat, ne_eq, Nat.reduceSub, Tfld32_2, Tfld49_2, Tld30, Tst30, n21, n32, n31, hx, ho]
  refine callK_gives (toByteA8_c _ ho) ?_
  simp (maxSteps := 2000000) (disch := first | omega | (simp only [E4, n21, n32, n31, hx, ho, *] <;> omega) | fail) only [↓E0, E1, evP, evPlan, env0, envN, evOps, evOp, evQs, evQ, evV, setD, pureOp, ev, upd, updL, gate, binW, eqOp, binV, intOp, shOp, boolOp, unV, convV, nilV, fieldAddrV, indexAddrV, extractV, cellAt, cellsAt, findB, setB, fillL, buildV, Value.cells, lenV, minV, maxV, hav, sliceV, loV, hiV, bslQ, mksQ, appQ, partsOk, partsCells, delB, eqL, SameI, strOp, apzQ, cvtQ, capV, ↓reduceIte, Zj, Zk, Nat.reduceAdd, Nat.reduceLT, Nat.reduceEqDiff, Nat.reduceMul, Nat.reduceLeDiff, if_true, Zn, reduceCtorEq, ZA, eq_self, Int.reduceLE, Int.reduceLT, Int.reduceToNat, ne_eq, Nat.reduceSub, Tfld32_2, Tfld49_2, Tld30, Tst30, n21, n32, n31, hx, ho]
  repeat refine And.intro (by omega) ?_
  intro g
  simp only [List.map_cons, List.map_nil, updL, upd, Nat.reduceEqDiff, if_true, if_false, ↓reduceIte]
  refine hK _ _ ?_; clear hK K
  refine Cd.rs [2] fun K hK => ?_
  simp (maxSteps := 2000000) (disch := first | omega | (simp only [E4, n21, n32, n31, hx, ho, *] <;> omega) | fail) only [↓E0, E1, evP, evPlan, env0, envN, evOps, evOp, evQs, evQ, evV, setD, pureOp, ev, upd, updL, gate, binW, eqOp, binV, intOp, shOp, boolOp, unV, convV, nilV, fieldAddrV, indexAddrV, extractV, cellAt, cellsAt, findB, setB, fillL, buildV, Value.cells, lenV, minV, maxV, hav, sliceV, loV, hiV, bslQ, mksQ, appQ, partsOk, partsCells, delB, eqL, SameI, strOp, apzQ, cvtQ, capV, ↓reduceIte, Zj, Zk, Nat.reduceAdd, Nat.reduceLT, Nat.reduceEqDiff, Nat.reduceMul, Nat.reduceLeDiff, if_true, Zn, reduceCtorEq, ZA, eq_self, Int.reduceLE, Int.reduceLT, Int.reduceToNat, ne_eq, Nat.reduceSub, Tld32, Tst32, n21, n32, n31, hx, ho]
  repeat refine And.intro (by omega) ?_
  intro g
  simp only [List.map_cons, List.map_nil, updL, upd, Nat.reduceEqDiff, if_true, if_false, ↓reduceIte]
  refine hK _ _ ?_; clear hK K
  refine Cd.ret ?_
  simp (maxSteps := 2000000) (disch := first | omega | (simp only [E4, n21, n32, n31, hx, ho, *] <;> omega) | fail) only [↓E0, E1, evP, evPlan, env0, envN, evOps, evOp, evQs, evQ, evV, setD, pureOp, ev, upd, updL, gate, binW, eqOp, binV, intOp, shOp, boolOp, unV, convV, nilV, fieldAddrV, indexAddrV, extractV, cellAt, cellsAt, findB, setB, fillL, buildV, Value.cells, lenV, minV, maxV, hav, sliceV, loV, hiV, bslQ, mksQ, appQ, partsOk, partsCells, delB, eqL, SameI, strOp, apzQ, cvtQ, capV, ↓reduceIte, Zj, Zk, Nat.reduceAdd, Nat.reduceLT, Nat.reduceEqDiff, Nat.reduceMul, Nat.reduceLeDiff, if_true, Zn, reduceCtorEq, ZA, eq_self, Int.reduceLE, Int.reduceLT, Int.reduceToNat, ne_eq, Nat.reduceSub, Tld32, n21, n32, n31, hx, ho]

end Go.Proofs

/-
  What the functions of this part hand back: each as a plain function of its arguments. Conditions: none.
-/
namespace Go.Proofs
open Go.W8
set_option linter.unusedVariables false
set_option linter.unusedSimpArgs false
set_option linter.unusedSectionVars false
set_option maxRecDepth 8000
set_option maxHeartbeats 4000000
def crL (s : Int) (x o : List Int) : List Int := if gridB s x o then crTo s.toNat x o s.toNat else []
def crR (s : Int) (x o : List Int) : Value → Blks → Prop := ResS (SlN 3 (ints .i64 (crL s x o))) (codeG s x o)
end Go.Proofs

/-
  What the functions of this part hand back: each as a plain function of its arguments. Conditions: none.
-/
namespace Go.Proofs
open Go.W8
set_option linter.unusedVariables false
set_option linter.unusedSimpArgs false
set_option linter.unusedSectionVars false
set_option maxRecDepth 8000
set_option maxHeartbeats 4000000
theorem l01Follow_c (n : Nat) (x o : List Int) (hx : Bytes8 x) (ho : Bytes8 o) (hn : n ≤ 8) (k : Nat) (hk : k < 8) : Gives Try.prog 145 #[.agg (gc (n : Int) x o).toArray, .int .i64 (k : Int)] (.int .i64 (nextOf n x o k : Int)) := by
  have hl := hx.len
  have hm := ho.len
  have c1 := bytes_get ho hk
  skip
  refine Gives.of fun w => ?_
  refine acall_of (N := 15) (c := _) (rs := [.tmp 4]) (args := [_, _]) Try.func145 rfl (by decide) rfl rfl (Nat.le_of_ble_eq_true rfl) ?_
  refine Cd.rs [1, 2] fun K hK => ?_
  simp (maxSteps := 2000000) (disch := first | (simp only [E4, hl, hm] <;> omega) | omega | fail) only [↓E2, E3, bare, bareJ, ↓E0, E1, evP, evPlan, env0, envN, evOps, evOp, evQs, evQ, evV, setD, pureOp, ev, upd, updL, gate, binW, eqOp, binV, intOp, shOp, boolOp, unV, convV, nilV, fieldAddrV, indexAddrV, extractV, cellAt, cellsAt, findB, setB, fillL, buildV, Value.cells, lenV, minV, maxV, hav, sliceV, loV, hiV, bslQ, mksQ, appQ, partsOk, partsCells, delB, eqL, SameI, strOp, apzQ, cvtQ, capV, ↓reduceIte, Zj, Zk, Nat.reduceAdd, Nat.reduceLT, Nat.reduceEqDiff, Nat.reduceMul, Nat.reduceLeDiff, if_true, Zn, reduceCtorEq, ZA, eq_self, Int.reduceLE, Int.reduceLT, Int.reduceToNat, ne_eq, Nat.reduceSub, hl, hm]
  repeat refine And.intro (by omega) ?_
  intro b1 hb1
  try simp (maxSteps := 2000000) (disch := first | (simp only [E4, hl, hm] <;> omega) | omega | fail) only [↓E2, E3, bare, bareJ, ↓E0, E1, evP, evPlan, env0, envN, evOps, evOp, evQs, evQ, evV, setD, pureOp, ev, upd, updL, gate, binW, eqOp, binV, intOp, shOp, boolOp, unV, convV, nilV, fieldAddrV, indexAddrV, extractV, cellAt, cellsAt, findB, setB, fillL, buildV, Value.cells, lenV, minV, maxV, hav, sliceV, loV, hiV, bslQ, mksQ, appQ, partsOk, partsCells, delB, eqL, SameI, strOp, apzQ, cvtQ, capV, ↓reduceIte, Zj, Zk, Nat.reduceAdd, Nat.reduceLT, Nat.reduceEqDiff, Nat.reduceMul, Nat.reduceLeDiff, if_true, Zn, reduceCtorEq, ZA, eq_self, Int.reduceLE, Int.reduceLT, Int.reduceToNat, ne_eq, Nat.reduceSub, hl, hm]
  repeat refine And.intro (by omega) ?_
  intro g
  simp only [List.map_cons, List.map_nil, updL, upd, Nat.reduceEqDiff, if_true, if_false, ↓reduceIte]
  refine hK _ _ ?_; clear hK K
  refine Cd.qs [4] fol (by kernel_rfl) fun K hK => ?_
  simp (maxSteps := 2000000) (disch := first | (simp only [E4, hl, hm] <;> omega) | omega | fail) only [↓E2, E3, bare, bareJ, ↓E0, E1, evP, evPlan, env0, envN, evOps, evOp, evQs, evQ, evV, setD, pureOp, ev, upd, updL, gate, binW, eqOp, binV, intOp, shOp, boolOp, unV, convV, nilV, fieldAddrV, indexAddrV, extractV, cellAt, cellsAt, findB, setB, fillL, buildV, Value.cells, lenV, minV, maxV, hav, sliceV, loV, hiV, bslQ, mksQ, appQ, partsOk, partsCells, delB, eqL, SameI, strOp, apzQ, cvtQ, capV, ↓reduceIte, Zj, Zk, Nat.reduceAdd, Nat.reduceLT, Nat.reduceEqDiff, Nat.reduceMul, Nat.reduceLeDiff, if_true, Zn, reduceCtorEq, ZA, eq_self, Int.reduceLE, Int.reduceLT, Int.reduceToNat, ne_eq, Nat.reduceSub, Tarr30, Tfld32_0, Tfld32_1, Tfld32_2, Tint2, Tld2, Tld30, Tld5, Tpar5, hl, hm]
  repeat refine And.intro (by omega) ?_
  refine callQ_gives (l01Row_c _ hx _ hn _) ?_
  simp (maxSteps := 2000000) (disch := first | (simp only [E4, hl, hm] <;> omega) | omega | fail) only [↓E2, E3, bare, bareJ, ↓E0, E1, evP, evPlan, env0, envN, evOps, evOp, evQs, evQ, evV, setD, pureOp, ev, upd, updL, gate, binW, eqOp, binV, intOp, shOp, boolOp, unV, convV, nilV, fieldAddrV, indexAddrV, extractV, cellAt, cellsAt, findB, setB, fillL, buildV, Value.cells, lenV, minV, maxV, hav, sliceV, loV, hiV, bslQ, mksQ, appQ, partsOk, partsCells, delB, eqL, SameI, strOp, apzQ, cvtQ, capV, ↓reduceIte, Zj, Zk, Nat.reduceAdd, Nat.reduceLT, Nat.reduceEqDiff, Nat.reduceMul, Nat.reduceLeDiff, if_true, Zn, reduceCtorEq, ZA, eq_self, Int.reduceLE, Int.reduceLT, Int.reduceToNat, ne_eq, Nat.reduceSub, Tarr30, Tfld32_0, Tfld32_1, Tfld32_2, Tint2, Tld2, Tld30, Tld5, Tpar5, hl, hm]
  repeat refine And.intro (by omega) ?_
  intro g
  simp only [List.map_cons, List.map_nil, updL, upd, Nat.reduceEqDiff, if_true, if_false, ↓reduceIte]
  refine hK _ ?_; clear hK K
  refine Cd.ret ?_
  simp (maxSteps := 2000000) (disch := first | (simp only [E4, hl, hm] <;> omega) | omega | fail) only [↓E2, E3, bare, bareJ, ↓E0, E1, evP, evPlan, env0, envN, evOps, evOp, evQs, evQ, evV, setD, pureOp, ev, upd, updL, gate, binW, eqOp, binV, intOp, shOp, boolOp, unV, convV, nilV, fieldAddrV, indexAddrV, extractV, cellAt, cellsAt, findB, setB, fillL, buildV, Value.cells, lenV, minV, maxV, hav, sliceV, loV, hiV, bslQ, mksQ, appQ, partsOk, partsCells, delB, eqL, SameI, strOp, apzQ, cvtQ, capV, ↓reduceIte, Zj, Zk, Nat.reduceAdd, Nat.reduceLT, Nat.reduceEqDiff, Nat.reduceMul, Nat.reduceLeDiff, if_true, Zn, reduceCtorEq, ZA, eq_self, Int.reduceLE, Int.reduceLT, Int.reduceToNat, ne_eq, Nat.reduceSub, hl, hm]
  rfl

theorem l01Components_c (n : Nat) (x o : List Int) (hx : Bytes8 x) (ho : Bytes8 o) (hn : n ≤ 8) (hp : IsPerm x n) (hq : IsPerm o n) : Gives Try.prog 112 #[.agg (gc (n : Int) x o).toArray] (.tuple #[.agg (ints .i64 (comps n x o).1).toArray, .int .i64 ((comps n x o).2 : Int)]) := by
  have hl := hx.len
  have hm := ho.len
  skip
  refine Gives.of fun w => ?_
  refine acall_of (N := 41) (c := _) (rs := [.cell 2 110, .tmp 3]) (args := [_]) Try.func112 rfl (by decide) rfl rfl (Nat.le_of_ble_eq_true rfl) ?_
  refine Cd.rs [1, 2] fun K hK => ?_
  simp (maxSteps := 2000000) (disch := first | (simp only [E4, hl, hm] <;> omega) | omega | fail) only [↓E2, E3, bare, bareJ, ↓E0, E1, evP, evPlan, env0, envN, evOps, evOp, evQs, evQ, evV, setD, pureOp, ev, upd, updL, gate, binW, eqOp, binV, intOp, shOp, boolOp, unV, convV, nilV, fieldAddrV, indexAddrV, extractV, cellAt, cellsAt, findB, setB, fillL, buildV, Value.cells, lenV, minV, maxV, hav, sliceV, loV, hiV, bslQ, mksQ, appQ, partsOk, partsCells, delB, eqL, SameI, strOp, apzQ, cvtQ, capV, ↓reduceIte, Zj, Zk, Nat.reduceAdd, Nat.reduceLT, Nat.reduceEqDiff, Nat.reduceMul, Nat.reduceLeDiff, if_true, Zn, reduceCtorEq, ZA, eq_self, Int.reduceLE, Int.reduceLT, Int.reduceToNat, ne_eq, Nat.reduceSub, Tzero110, hl, hm]
  repeat refine And.intro (by omega) ?_
  intro b1 hb1
  intro b2 hb2
  have nb2_b1 := hb2.ne
  try simp (maxSteps := 2000000) (disch := first | (simp only [E4, hl, hm, nb2_b1] <;> omega) | omega | fail) only [↓E2, E3, bare, bareJ, ↓E0, E1, evP, evPlan, env0, envN, evOps, evOp, evQs, evQ, evV, setD, pureOp, ev, upd, updL, gate, binW, eqOp, binV, intOp, shOp, boolOp, unV, convV, nilV, fieldAddrV, indexAddrV, extractV, cellAt, cellsAt, findB, setB, fillL, buildV, Value.cells, lenV, minV, maxV, hav, sliceV, loV, hiV, bslQ, mksQ, appQ, partsOk, partsCells, delB, eqL, SameI, strOp, apzQ, cvtQ, capV, ↓reduceIte, Zj, Zk, Nat.reduceAdd, Nat.reduceLT, Nat.reduceEqDiff, Nat.reduceMul, Nat.reduceLeDiff, if_true, Zn, reduceCtorEq, ZA, eq_self, Int.reduceLE, Int.reduceLT, Int.reduceToNat, ne_eq, Nat.reduceSub, Tzero110, hl, hm, nb2_b1]
  repeat refine And.intro (by omega) ?_
  intro g
  simp only [List.map_cons, List.map_nil, updL, upd, Nat.reduceEqDiff, if_true, if_false, ↓reduceIte]
  refine hK _ _ ?_; clear hK K
  refine Cd.rs [1, 2, 4, 5] fun K hK => ?_
  simp (maxSteps := 2000000) (disch := first | (simp only [E4, hl, hm, nb2_b1] <;> omega) | omega | fail) only [↓E2, E3, bare, bareJ, ↓E0, E1, evP, evPlan, env0, envN, evOps, evOp, evQs, evQ, evV, setD, pureOp, ev, upd, updL, gate, binW, eqOp, binV, intOp, shOp, boolOp, unV, convV, nilV, fieldAddrV, indexAddrV, extractV, cellAt, cellsAt, findB, setB, fillL, buildV, Value.cells, lenV, minV, maxV, hav, sliceV, loV, hiV, bslQ, mksQ, appQ, partsOk, partsCells, delB, eqL, SameI, strOp, apzQ, cvtQ, capV, ↓reduceIte, Zj, Zk, Nat.reduceAdd, Nat.reduceLT, Nat.reduceEqDiff, Nat.reduceMul, Nat.reduceLeDiff, if_true, Zn, reduceCtorEq, ZA, eq_self, Int.reduceLE, Int.reduceLT, Int.reduceToNat, ne_eq, Nat.reduceSub, Tbld110, Tst110, Tzero110, hl, hm, nb2_b1]
  repeat refine And.intro (by omega) ?_
  intro b3 hb3
  have nb3_b2 := hb3.ne
  have nb3_b1 := hb3.tail.ne
  try simp (maxSteps := 2000000) (disch := first | (simp only [E4, hl, hm, nb2_b1, nb3_b2, nb3_b1] <;> omega) | omega | fail) only [↓E2, E3, bare, bareJ, ↓E0, E1, evP, evPlan, env0, envN, evOps, evOp, evQs, evQ, evV, setD, pureOp, ev, upd, updL, gate, binW, eqOp, binV, intOp, shOp, boolOp, unV, convV, nilV, fieldAddrV, indexAddrV, extractV, cellAt, cellsAt, findB, setB, fillL, buildV, Value.cells, lenV, minV, maxV, hav, sliceV, loV, hiV, bslQ, mksQ, appQ, partsOk, partsCells, delB, eqL, SameI, strOp, apzQ, cvtQ, capV, ↓reduceIte, Zj, Zk, Nat.reduceAdd, Nat.reduceLT, Nat.reduceEqDiff, Nat.reduceMul, Nat.reduceLeDiff, if_true, Zn, reduceCtorEq, ZA, eq_self, Int.reduceLE, Int.reduceLT, Int.reduceToNat, ne_eq, Nat.reduceSub, Tbld110, Tst110, Tzero110, hl, hm, nb2_b1, nb3_b2, nb3_b1]
  repeat refine And.intro (by omega) ?_
  intro g
  simp only [List.map_cons, List.map_nil, updL, upd, Nat.reduceEqDiff, if_true, if_false, ↓reduceIte]
  refine hK _ _ ?_; clear hK K
  refine Cd.seq ?_
  refine Cd.rs [1, 2, 4, 5, 6] fun K hK => ?_
  simp (maxSteps := 2000000) (disch := first | (simp only [E4, hl, hm, nb2_b1, nb3_b2, nb3_b1] <;> omega) | omega | fail) only [↓E2, E3, bare, bareJ, ↓E0, E1, evP, evPlan, env0, envN, evOps, evOp, evQs, evQ, evV, setD, pureOp, ev, upd, updL, gate, binW, eqOp, binV, intOp, shOp, boolOp, unV, convV, nilV, fieldAddrV, indexAddrV, extractV, cellAt, cellsAt, findB, setB, fillL, buildV, Value.cells, lenV, minV, maxV, hav, sliceV, loV, hiV, bslQ, mksQ, appQ, partsOk, partsCells, delB, eqL, SameI, strOp, apzQ, cvtQ, capV, ↓reduceIte, Zj, Zk, Nat.reduceAdd, Nat.reduceLT, Nat.reduceEqDiff, Nat.reduceMul, Nat.reduceLeDiff, if_true, Zn, reduceCtorEq, ZA, eq_self, Int.reduceLE, Int.reduceLT, Int.reduceToNat, ne_eq, Nat.reduceSub, hl, hm, nb2_b1, nb3_b2, nb3_b1]
  repeat refine And.intro (by omega) ?_
  intro g
  simp only [List.map_cons, List.map_nil, updL, upd, Nat.reduceEqDiff, if_true, if_false, ↓reduceIte]
  refine hK _ _ ?_; clear hK K
  refine Cd.block ?_
  refine Cd.loop (fun m ρ M => ∃ g k, k + m = 8 ∧ ρ = updL ([(1, .pointer (some ⟨b1, 0, none⟩)), (2, .pointer (some ⟨b2, 0, none⟩)), (4, .pointer (some ⟨b3, 0, none⟩)), (5, .int .i64 0), (6, .int .i64 (k : Int))]) g ∧ M = [(b3, ints .i64 (upto 8 (fun _ => -1) 0 k)), (b2, ints .i64 z8), (b1, gc (n : Int) x o)]) 8 ⟨_, 0, Nat.zero_add _, rfl, rfl⟩ ?_
  rintro m ρ M ⟨g, k, hk, rfl, rfl⟩
  refine Cd.seq ?_
  refine Cd.rs [1, 2, 4, 5, 6, 11] fun K hK => ?_
  simp (maxSteps := 2000000) (disch := first | (simp only [E4, hl, hm, nb2_b1, nb3_b2, nb3_b1] <;> omega) | omega | fail) only [↓E2, E3, bare, bareJ, ↓E0, E1, evP, evPlan, env0, envN, evOps, evOp, evQs, evQ, evV, setD, pureOp, ev, upd, updL, gate, binW, eqOp, binV, intOp, shOp, boolOp, unV, convV, nilV, fieldAddrV, indexAddrV, extractV, cellAt, cellsAt, findB, setB, fillL, buildV, Value.cells, lenV, minV, maxV, hav, sliceV, loV, hiV, bslQ, mksQ, appQ, partsOk, partsCells, delB, eqL, SameI, strOp, apzQ, cvtQ, capV, ↓reduceIte, Zj, Zk, Nat.reduceAdd, Nat.reduceLT, Nat.reduceEqDiff, Nat.reduceMul, Nat.reduceLeDiff, if_true, Zn, reduceCtorEq, ZA, eq_self, Int.reduceLE, Int.reduceLT, Int.reduceToNat, ne_eq, Nat.reduceSub, hl, hm, nb2_b1, nb3_b2, nb3_b1]
  repeat refine And.intro (by omega) ?_
  intro g
  simp only [List.map_cons, List.map_nil, updL, upd, Nat.reduceEqDiff, if_true, if_false, ↓reduceIte]
  refine hK _ _ ?_; clear hK K
  refine Cd.condd rfl (fun h1 => ?_) (fun h1 => ?_)
  · refine Cd.skip ?_
    refine thenN ?_
    refine Cd.seq ?_
    refine Cd.block ?_
    refine Cd.rr [1, 2, 4, 5, 6] fun K hK => ?_
    simp (maxSteps := 2000000) (disch := first | (simp only [E4, hl, hm, nb2_b1, nb3_b2, nb3_b1] <;> omega) | omega | fail) only [↓E2, E3, bare, bareJ, ↓E0, E1, evP, evPlan, env0, envN, evOps, evOp, evQs, evQ, evV, setD, pureOp, ev, upd, updL, gate, binW, eqOp, binV, intOp, shOp, boolOp, unV, convV, nilV, fieldAddrV, indexAddrV, extractV, cellAt, cellsAt, findB, setB, fillL, buildV, Value.cells, lenV, minV, maxV, hav, sliceV, loV, hiV, bslQ, mksQ, appQ, partsOk, partsCells, delB, eqL, SameI, strOp, apzQ, cvtQ, capV, ↓reduceIte, Zj, Zk, Nat.reduceAdd, Nat.reduceLT, Nat.reduceEqDiff, Nat.reduceMul, Nat.reduceLeDiff, if_true, Zn, reduceCtorEq, ZA, eq_self, Int.reduceLE, Int.reduceLT, Int.reduceToNat, ne_eq, Nat.reduceSub, Tarr110, Tst2, hl, hm, nb2_b1, nb3_b2, nb3_b1]
    repeat refine And.intro (by omega) ?_
    rw [fillTo_set k (by omega)]
    repeat refine And.intro (by omega) ?_
    intro g
    simp only [List.map_cons, List.map_nil, updL, upd, Nat.reduceEqDiff, if_true, if_false, ↓reduceIte]
    refine hK _ _ ?_; clear hK K
    refine inBN ?_
    refine thenN ?_
    refine Cd.rr [1, 2, 4, 5, 6] fun K hK => ?_
    simp (maxSteps := 2000000) (disch := first | (simp only [E4, hl, hm, nb2_b1, nb3_b2, nb3_b1] <;> omega) | omega | fail) only [↓E2, E3, bare, bareJ, ↓E0, E1, evP, evPlan, env0, envN, evOps, evOp, evQs, evQ, evV, setD, pureOp, ev, upd, updL, gate, binW, eqOp, binV, intOp, shOp, boolOp, unV, convV, nilV, fieldAddrV, indexAddrV, extractV, cellAt, cellsAt, findB, setB, fillL, buildV, Value.cells, lenV, minV, maxV, hav, sliceV, loV, hiV, bslQ, mksQ, appQ, partsOk, partsCells, delB, eqL, SameI, strOp, apzQ, cvtQ, capV, ↓reduceIte, Zj, Zk, Nat.reduceAdd, Nat.reduceLT, Nat.reduceEqDiff, Nat.reduceMul, Nat.reduceLeDiff, if_true, Zn, reduceCtorEq, ZA, eq_self, Int.reduceLE, Int.reduceLT, Int.reduceToNat, ne_eq, Nat.reduceSub, hl, hm, nb2_b1, nb3_b2, nb3_b1]
    repeat refine And.intro (by omega) ?_
    intro g
    simp only [List.map_cons, List.map_nil, updL, upd, Nat.reduceEqDiff, if_true, if_false, ↓reduceIte]
    refine hK _ _ ?_; clear hK K
    refine roundN (m := m - 1) (by omega) ⟨_, k + 1, by omega, rfl, rfl⟩
  · refine Cd.exit (thenX (roundX (inBX ?_)))
    refine thenN ?_
    obtain rfl : k = 8 := by omega
    rw [fillTo_full]
    refine Cd.seq ?_
    refine Cd.rs [1, 2, 4, 5, 7] fun K hK => ?_
    simp (maxSteps := 2000000) (disch := first | (simp only [E4, hl, hm, nb2_b1, nb3_b2, nb3_b1] <;> omega) | omega | fail) only [↓E2, E3, bare, bareJ, ↓E0, E1, evP, evPlan, env0, envN, evOps, evOp, evQs, evQ, evV, setD, pureOp, ev, upd, updL, gate, binW, eqOp, binV, intOp, shOp, boolOp, unV, convV, nilV, fieldAddrV, indexAddrV, extractV, cellAt, cellsAt, findB, setB, fillL, buildV, Value.cells, lenV, minV, maxV, hav, sliceV, loV, hiV, bslQ, mksQ, appQ, partsOk, partsCells, delB, eqL, SameI, strOp, apzQ, cvtQ, capV, ↓reduceIte, Zj, Zk, Nat.reduceAdd, Nat.reduceLT, Nat.reduceEqDiff, Nat.reduceMul, Nat.reduceLeDiff, if_true, Zn, reduceCtorEq, ZA, eq_self, Int.reduceLE, Int.reduceLT, Int.reduceToNat, ne_eq, Nat.reduceSub, hl, hm, nb2_b1, nb3_b2, nb3_b1]
    repeat refine And.intro (by omega) ?_
    intro g
    simp only [List.map_cons, List.map_nil, updL, upd, Nat.reduceEqDiff, if_true, if_false, ↓reduceIte]
    refine hK _ _ ?_; clear hK K
    refine Cd.block ?_
    refine Cd.loop (fun m ρ M => ∃ g k, k + m = n ∧ ρ = updL ([(1, .pointer (some ⟨b1, 0, none⟩)), (2, .pointer (some ⟨b2, 0, none⟩)), (4, .pointer (some ⟨b3, 0, none⟩)), (5, .int .i64 ((compTo (nextOf n x o) k).2 : Int)), (7, .int .i64 (k : Int))]) g ∧ M = [(b3, ints .i64 (compTo (nextOf n x o) k).1), (b2, ints .i64 z8), (b1, gc (n : Int) x o)]) n ⟨_, 0, Nat.zero_add _, rfl, rfl⟩ ?_
    rintro m ρ M ⟨g, k, hk, rfl, rfl⟩
    have cl := compTo_len (nextOf n x o) k
    have cc := compTo_count (nextOf n x o) k
    skip
    refine Cd.seq ?_
    refine Cd.rs [1, 2, 4, 5, 7, 19] fun K hK => ?_
    simp (maxSteps := 2000000) (disch := first | (simp only [E4, hl, hm, nb2_b1, nb3_b2, nb3_b1, cl] <;> omega) | omega | fail) only [↓E2, E3, bare, bareJ, ↓E0, E1, evP, evPlan, env0, envN, evOps, evOp, evQs, evQ, evV, setD, pureOp, ev, upd, updL, gate, binW, eqOp, binV, intOp, shOp, boolOp, unV, convV, nilV, fieldAddrV, indexAddrV, extractV, cellAt, cellsAt, findB, setB, fillL, buildV, Value.cells, lenV, minV, maxV, hav, sliceV, loV, hiV, bslQ, mksQ, appQ, partsOk, partsCells, delB, eqL, SameI, strOp, apzQ, cvtQ, capV, ↓reduceIte, Zj, Zk, Nat.reduceAdd, Nat.reduceLT, Nat.reduceEqDiff, Nat.reduceMul, Nat.reduceLeDiff, if_true, Zn, reduceCtorEq, ZA, eq_self, Int.reduceLE, Int.reduceLT, Int.reduceToNat, ne_eq, Nat.reduceSub, Tfld32_0, Tld2, hl, hm, nb2_b1, nb3_b2, nb3_b1, cl]
    repeat refine And.intro (by omega) ?_
    intro g
    simp only [List.map_cons, List.map_nil, updL, upd, Nat.reduceEqDiff, if_true, if_false, ↓reduceIte]
    refine hK _ _ ?_; clear hK K
    refine Cd.condd rfl (fun h2 => ?_) (fun h2 => ?_)
    · refine Cd.skip ?_
      refine thenN ?_
      refine Cd.seq ?_
      refine Cd.block ?_
      refine Cd.seq ?_
      refine Cd.rs [1, 2, 4, 5, 7, 25] fun K hK => ?_
      simp (maxSteps := 2000000) (disch := first | (simp only [E4, hl, hm, nb2_b1, nb3_b2, nb3_b1, cl] <;> omega) | omega | fail) only [↓E2, E3, bare, bareJ, ↓E0, E1, evP, evPlan, env0, envN, evOps, evOp, evQs, evQ, evV, setD, pureOp, ev, upd, updL, gate, binW, eqOp, binV, intOp, shOp, boolOp, unV, convV, nilV, fieldAddrV, indexAddrV, extractV, cellAt, cellsAt, findB, setB, fillL, buildV, Value.cells, lenV, minV, maxV, hav, sliceV, loV, hiV, bslQ, mksQ, appQ, partsOk, partsCells, delB, eqL, SameI, strOp, apzQ, cvtQ, capV, ↓reduceIte, Zj, Zk, Nat.reduceAdd, Nat.reduceLT, Nat.reduceEqDiff, Nat.reduceMul, Nat.reduceLeDiff, if_true, Zn, reduceCtorEq, ZA, eq_self, Int.reduceLE, Int.reduceLT, Int.reduceToNat, ne_eq, Nat.reduceSub, Tarr110, Tld2, hl, hm, nb2_b1, nb3_b2, nb3_b1, cl]
      repeat refine And.intro (by omega) ?_
      repeat refine And.intro (by omega) ?_
      intro g
      simp only [List.map_cons, List.map_nil, updL, upd, Nat.reduceEqDiff, if_true, if_false, ↓reduceIte]
      refine hK _ _ ?_; clear hK K
      refine Cd.cond rfl (fun h3 => ?_) (fun h3 => ?_)
      · refine Cd.exit (thenX (inBX ?_))
        refine thenN ?_
        refine Cd.rr [1, 2, 4, 5, 7] fun K hK => ?_
        simp (maxSteps := 2000000) (disch := first | (simp only [E4, hl, hm, nb2_b1, nb3_b2, nb3_b1, cl] <;> omega) | omega | fail) only [↓E2, E3, bare, bareJ, ↓E0, E1, evP, evPlan, env0, envN, evOps, evOp, evQs, evQ, evV, setD, pureOp, ev, upd, updL, gate, binW, eqOp, binV, intOp, shOp, boolOp, unV, convV, nilV, fieldAddrV, indexAddrV, extractV, cellAt, cellsAt, findB, setB, fillL, buildV, Value.cells, lenV, minV, maxV, hav, sliceV, loV, hiV, bslQ, mksQ, appQ, partsOk, partsCells, delB, eqL, SameI, strOp, apzQ, cvtQ, capV, ↓reduceIte, Zj, Zk, Nat.reduceAdd, Nat.reduceLT, Nat.reduceEqDiff, Nat.reduceMul, Nat.reduceLeDiff, if_true, Zn, reduceCtorEq, ZA, eq_self, Int.reduceLE, Int.reduceLT, Int.reduceToNat, ne_eq, Nat.reduceSub, hl, hm, nb2_b1, nb3_b2, nb3_b1, cl]
        repeat refine And.intro (by omega) ?_
        intro g
        simp only [List.map_cons, List.map_nil, updL, upd, Nat.reduceEqDiff, if_true, if_false, ↓reduceIte]
        refine hK _ _ ?_; clear hK K
        rw [← compTo_same (nx := nextOf n x o) (i := k) (by simpa using h3)]
        exact roundN (m := m - 1) (by omega) ⟨_, k + 1, by omega, rfl, rfl⟩
      · have h3 : ¬ 0 ≤ (compTo (nextOf n x o) k).1.getD k 0 := by simpa using h3
        refine Cd.skip ?_
        refine thenN ?_
        refine Cd.seq ?_
        refine Cd.rs [1, 2, 4, 5, 7, 8] fun K hK => ?_
        simp (maxSteps := 2000000) (disch := first | (simp only [E4, hl, hm, nb2_b1, nb3_b2, nb3_b1, cl] <;> omega) | omega | fail) only [↓E2, E3, bare, bareJ, ↓E0, E1, evP, evPlan, env0, envN, evOps, evOp, evQs, evQ, evV, setD, pureOp, ev, upd, updL, gate, binW, eqOp, binV, intOp, shOp, boolOp, unV, convV, nilV, fieldAddrV, indexAddrV, extractV, cellAt, cellsAt, findB, setB, fillL, buildV, Value.cells, lenV, minV, maxV, hav, sliceV, loV, hiV, bslQ, mksQ, appQ, partsOk, partsCells, delB, eqL, SameI, strOp, apzQ, cvtQ, capV, ↓reduceIte, Zj, Zk, Nat.reduceAdd, Nat.reduceLT, Nat.reduceEqDiff, Nat.reduceMul, Nat.reduceLeDiff, if_true, Zn, reduceCtorEq, ZA, eq_self, Int.reduceLE, Int.reduceLT, Int.reduceToNat, ne_eq, Nat.reduceSub, hl, hm, nb2_b1, nb3_b2, nb3_b1, cl]
        repeat refine And.intro (by omega) ?_
        intro g
        simp only [List.map_cons, List.map_nil, updL, upd, Nat.reduceEqDiff, if_true, if_false, ↓reduceIte]
        refine hK _ _ ?_; clear hK K
        refine Cd.block ?_
        refine Cd.loop (fun f ρ M => ∃ g j l, j < n ∧ l.length = 8 ∧ negs l ≤ f ∧ walkC (nextOf n x o) (compTo (nextOf n x o) k).2 f j l = walkC (nextOf n x o) (compTo (nextOf n x o) k).2 8 k (compTo (nextOf n x o) k).1 ∧
          ρ = updL ([(1, .pointer (some ⟨b1, 0, none⟩)), (2, .pointer (some ⟨b2, 0, none⟩)), (4, .pointer (some ⟨b3, 0, none⟩)), (5, .int .i64 ((compTo (nextOf n x o) k).2 : Int)), (7, .int .i64 (k : Int)), (8, .int .i64 (j : Int))]) g ∧ M = [(b3, ints .i64 l), (b2, ints .i64 z8), (b1, gc (n : Int) x o)]) 8
          ⟨_, k, _, by omega, cl, negs_le cl, rfl, rfl, rfl⟩ ?_
        rintro f ρ M ⟨g, j, l, hj, hll, hng, hw, rfl, rfl⟩
        skip
        refine Cd.seq ?_
        refine Cd.rs [1, 2, 4, 5, 7, 8, 30] fun K hK => ?_
        simp (maxSteps := 2000000) (disch := first | (simp only [E4, hl, hm, nb2_b1, nb3_b2, nb3_b1, cl, hll] <;> omega) | omega | fail) only [↓E2, E3, bare, bareJ, ↓E0, E1, evP, evPlan, env0, envN, evOps, evOp, evQs, evQ, evV, setD, pureOp, ev, upd, updL, gate, binW, eqOp, binV, intOp, shOp, boolOp, unV, convV, nilV, fieldAddrV, indexAddrV, extractV, cellAt, cellsAt, findB, setB, fillL, buildV, Value.cells, lenV, minV, maxV, hav, sliceV, loV, hiV, bslQ, mksQ, appQ, partsOk, partsCells, delB, eqL, SameI, strOp, apzQ, cvtQ, capV, ↓reduceIte, Zj, Zk, Nat.reduceAdd, Nat.reduceLT, Nat.reduceEqDiff, Nat.reduceMul, Nat.reduceLeDiff, if_true, Zn, reduceCtorEq, ZA, eq_self, Int.reduceLE, Int.reduceLT, Int.reduceToNat, ne_eq, Nat.reduceSub, Tarr110, Tld2, hl, hm, nb2_b1, nb3_b2, nb3_b1, cl, hll]
        repeat refine And.intro (by omega) ?_
        repeat refine And.intro (by omega) ?_
        intro g
        simp only [List.map_cons, List.map_nil, updL, upd, Nat.reduceEqDiff, if_true, if_false, ↓reduceIte]
        refine hK _ _ ?_; clear hK K
        refine Cd.condd rfl (fun h4 => ?_) (fun h4 => ?_)
        · have hpos := negs_pos (l := l) (k := j) (by omega) h4
          obtain ⟨f', rfl⟩ : ∃ f', f = f' + 1 := ⟨f - 1, by omega⟩
          have hs := negs_set (c := ((compTo (nextOf n x o) k).2 : Int)) (by omega) l j (by omega) h4
          rw [walkC_step h4] at hw
          refine Cd.skip ?_
          refine thenN ?_
          refine Cd.seq ?_
          refine Cd.block ?_
          refine Cd.rr [1, 2, 4, 5, 7, 8] fun K hK => ?_
          simp (maxSteps := 2000000) (disch := first | (simp only [E4, hl, hm, nb2_b1, nb3_b2, nb3_b1, cl, hll] <;> omega) | omega | fail) only [↓E2, E3, bare, bareJ, ↓E0, E1, evP, evPlan, env0, envN, evOps, evOp, evQs, evQ, evV, setD, pureOp, ev, upd, updL, gate, binW, eqOp, binV, intOp, shOp, boolOp, unV, convV, nilV, fieldAddrV, indexAddrV, extractV, cellAt, cellsAt, findB, setB, fillL, buildV, Value.cells, lenV, minV, maxV, hav, sliceV, loV, hiV, bslQ, mksQ, appQ, partsOk, partsCells, delB, eqL, SameI, strOp, apzQ, cvtQ, capV, ↓reduceIte, Zj, Zk, Nat.reduceAdd, Nat.reduceLT, Nat.reduceEqDiff, Nat.reduceMul, Nat.reduceLeDiff, if_true, Zn, reduceCtorEq, ZA, eq_self, Int.reduceLE, Int.reduceLT, Int.reduceToNat, ne_eq, Nat.reduceSub, Tarr110, Tst2, hl, hm, nb2_b1, nb3_b2, nb3_b1, cl, hll]
          repeat refine And.intro (by omega) ?_
          repeat refine And.intro (by omega) ?_
          intro g
          simp only [List.map_cons, List.map_nil, updL, upd, Nat.reduceEqDiff, if_true, if_false, ↓reduceIte]
          refine hK _ _ ?_; clear hK K
          refine inBN ?_
          refine thenN ?_
          refine Cd.rr [1, 2, 4, 5, 7, 8] fun K hK => ?_
          simp (maxSteps := 2000000) (disch := first | (simp only [E4, hl, hm, nb2_b1, nb3_b2, nb3_b1, cl, hll] <;> omega) | omega | fail) only [↓E2, E3, bare, bareJ, ↓E0, E1, evP, evPlan, env0, envN, evOps, evOp, evQs, evQ, evV, setD, pureOp, ev, upd, updL, gate, binW, eqOp, binV, intOp, shOp, boolOp, unV, convV, nilV, fieldAddrV, indexAddrV, extractV, cellAt, cellsAt, findB, setB, fillL, buildV, Value.cells, lenV, minV, maxV, hav, sliceV, loV, hiV, bslQ, mksQ, appQ, partsOk, partsCells, delB, eqL, SameI, strOp, apzQ, cvtQ, capV, ↓reduceIte, Zj, Zk, Nat.reduceAdd, Nat.reduceLT, Nat.reduceEqDiff, Nat.reduceMul, Nat.reduceLeDiff, if_true, Zn, reduceCtorEq, ZA, eq_self, Int.reduceLE, Int.reduceLT, Int.reduceToNat, ne_eq, Nat.reduceSub, Tld32, hl, hm, nb2_b1, nb3_b2, nb3_b1, cl, hll]
          refine callK_gives (l01Follow_c n x o hx ho hn j (by omega)) ?_
          simp (maxSteps := 2000000) (disch := first | (simp only [E4, hl, hm, nb2_b1, nb3_b2, nb3_b1, cl, hll] <;> omega) | omega | fail) only [↓E2, E3, bare, bareJ, ↓E0, E1, evP, evPlan, env0, envN, evOps, evOp, evQs, evQ, evV, setD, pureOp, ev, upd, updL, gate, binW, eqOp, binV, intOp, shOp, boolOp, unV, convV, nilV, fieldAddrV, indexAddrV, extractV, cellAt, cellsAt, findB, setB, fillL, buildV, Value.cells, lenV, minV, maxV, hav, sliceV, loV, hiV, bslQ, mksQ, appQ, partsOk, partsCells, delB, eqL, SameI, strOp, apzQ, cvtQ, capV, ↓reduceIte, Zj, Zk, Nat.reduceAdd, Nat.reduceLT, Nat.reduceEqDiff, Nat.reduceMul, Nat.reduceLeDiff, if_true, Zn, reduceCtorEq, ZA, eq_self, Int.reduceLE, Int.reduceLT, Int.reduceToNat, ne_eq, Nat.reduceSub, Tld32, hl, hm, nb2_b1, nb3_b2, nb3_b1, cl, hll]
          repeat refine And.intro (by omega) ?_
          intro g
          simp only [List.map_cons, List.map_nil, updL, upd, Nat.reduceEqDiff, if_true, if_false, ↓reduceIte]
          refine hK _ _ ?_; clear hK K
          have c2 := hq.1 j hj
          have c3 := bytes_get ho (i := j) (by omega)
          refine roundN (m := f') (by omega) ⟨_, nextOf n x o j, _, (rowOf_lt (fun i hi => (bytes_get hx (by omega)).1) hp c3.1 c2).1, by rw [List.length_set]; exact hll, by omega, hw, rfl, rfl⟩
        · refine Cd.exit (thenX (roundX (inBX ?_)))
          refine thenN ?_
          rw [walkC_end h4] at hw
          refine Cd.rr [1, 2, 4, 5, 7] fun K hK => ?_
          simp (maxSteps := 2000000) (disch := first | (simp only [E4, hl, hm, nb2_b1, nb3_b2, nb3_b1, cl, hll] <;> omega) | omega | fail) only [↓E2, E3, bare, bareJ, ↓E0, E1, evP, evPlan, env0, envN, evOps, evOp, evQs, evQ, evV, setD, pureOp, ev, upd, updL, gate, binW, eqOp, binV, intOp, shOp, boolOp, unV, convV, nilV, fieldAddrV, indexAddrV, extractV, cellAt, cellsAt, findB, setB, fillL, buildV, Value.cells, lenV, minV, maxV, hav, sliceV, loV, hiV, bslQ, mksQ, appQ, partsOk, partsCells, delB, eqL, SameI, strOp, apzQ, cvtQ, capV, ↓reduceIte, Zj, Zk, Nat.reduceAdd, Nat.reduceLT, Nat.reduceEqDiff, Nat.reduceMul, Nat.reduceLeDiff, if_true, Zn, reduceCtorEq, ZA, eq_self, Int.reduceLE, Int.reduceLT, Int.reduceToNat, ne_eq, Nat.reduceSub, hl, hm, nb2_b1, nb3_b2, nb3_b1, cl, hll]
          repeat refine And.intro (by omega) ?_
          repeat refine And.intro (by omega) ?_
          intro g
          simp only [List.map_cons, List.map_nil, updL, upd, Nat.reduceEqDiff, if_true, if_false, ↓reduceIte]
          refine hK _ _ ?_; clear hK K
          refine inBN ?_
          refine thenN ?_
          refine Cd.rr [1, 2, 4, 5, 7] fun K hK => ?_
          simp (maxSteps := 2000000) (disch := first | (simp only [E4, hl, hm, nb2_b1, nb3_b2, nb3_b1, cl, hll] <;> omega) | omega | fail) only [↓E2, E3, bare, bareJ, ↓E0, E1, evP, evPlan, env0, envN, evOps, evOp, evQs, evQ, evV, setD, pureOp, ev, upd, updL, gate, binW, eqOp, binV, intOp, shOp, boolOp, unV, convV, nilV, fieldAddrV, indexAddrV, extractV, cellAt, cellsAt, findB, setB, fillL, buildV, Value.cells, lenV, minV, maxV, hav, sliceV, loV, hiV, bslQ, mksQ, appQ, partsOk, partsCells, delB, eqL, SameI, strOp, apzQ, cvtQ, capV, ↓reduceIte, Zj, Zk, Nat.reduceAdd, Nat.reduceLT, Nat.reduceEqDiff, Nat.reduceMul, Nat.reduceLeDiff, if_true, Zn, reduceCtorEq, ZA, eq_self, Int.reduceLE, Int.reduceLT, Int.reduceToNat, ne_eq, Nat.reduceSub, hl, hm, nb2_b1, nb3_b2, nb3_b1, cl, hll]
          repeat refine And.intro (by omega) ?_
          intro g
          simp only [List.map_cons, List.map_nil, updL, upd, Nat.reduceEqDiff, if_true, if_false, ↓reduceIte]
          refine hK _ _ ?_; clear hK K
          have e1 : ((compTo (nextOf n x o) k).2 : Int) + 1 = ((compTo (nextOf n x o) (k + 1)).2 : Int) := by rw [compTo_more h3]; rfl
          have e2 : l = (compTo (nextOf n x o) (k + 1)).1 := by rw [compTo_more h3]; exact hw
          rw [e1, e2]
          exact roundN (m := m - 1) (by omega) ⟨_, k + 1, by omega, rfl, rfl⟩
    · refine Cd.exit (thenX (roundX (inBX ?_)))
      refine thenN ?_
      obtain rfl : k = n := by omega
      refine Cd.rs [2, 3] fun K hK => ?_
      simp (maxSteps := 2000000) (disch := first | (simp only [E4, hl, hm, nb2_b1, nb3_b2, nb3_b1, cl] <;> omega) | omega | fail) only [↓E2, E3, bare, bareJ, ↓E0, E1, evP, evPlan, env0, envN, evOps, evOp, evQs, evQ, evV, setD, pureOp, ev, upd, updL, gate, binW, eqOp, binV, intOp, shOp, boolOp, unV, convV, nilV, fieldAddrV, indexAddrV, extractV, cellAt, cellsAt, findB, setB, fillL, buildV, Value.cells, lenV, minV, maxV, hav, sliceV, loV, hiV, bslQ, mksQ, appQ, partsOk, partsCells, delB, eqL, SameI, strOp, apzQ, cvtQ, capV, ↓reduceIte, Zj, Zk, Nat.reduceAdd, Nat.reduceLT, Nat.reduceEqDiff, Nat.reduceMul, Nat.reduceLeDiff, if_true, Zn, reduceCtorEq, ZA, eq_self, Int.reduceLE, Int.reduceLT, Int.reduceToNat, ne_eq, Nat.reduceSub, Tld110, Tst110, hl, hm, nb2_b1, nb3_b2, nb3_b1, cl]
      repeat refine And.intro (by omega) ?_
      intro g
      simp only [List.map_cons, List.map_nil, updL, upd, Nat.reduceEqDiff, if_true, if_false, ↓reduceIte]
      refine hK _ _ ?_; clear hK K
      refine Cd.ret ?_
      simp (maxSteps := 2000000) (disch := first | (simp only [E4, hl, hm, nb2_b1, nb3_b2, nb3_b1, cl] <;> omega) | omega | fail) only [↓E2, E3, bare, bareJ, ↓E0, E1, evP, evPlan, env0, envN, evOps, evOp, evQs, evQ, evV, setD, pureOp, ev, upd, updL, gate, binW, eqOp, binV, intOp, shOp, boolOp, unV, convV, nilV, fieldAddrV, indexAddrV, extractV, cellAt, cellsAt, findB, setB, fillL, buildV, Value.cells, lenV, minV, maxV, hav, sliceV, loV, hiV, bslQ, mksQ, appQ, partsOk, partsCells, delB, eqL, SameI, strOp, apzQ, cvtQ, capV, ↓reduceIte, Zj, Zk, Nat.reduceAdd, Nat.reduceLT, Nat.reduceEqDiff, Nat.reduceMul, Nat.reduceLeDiff, if_true, Zn, reduceCtorEq, ZA, eq_self, Int.reduceLE, Int.reduceLT, Int.reduceToNat, ne_eq, Nat.reduceSub, Tld110, hl, hm, nb2_b1, nb3_b2, nb3_b1, cl]
      rfl

end Go.Proofs

/-
  What the functions of this part hand back: each as a plain function of its arguments. Conditions: none.
-/
namespace Go.Proofs
open Go.W8
set_option linter.unusedVariables false
set_option linter.unusedSimpArgs false
set_option linter.unusedSectionVars false
set_option maxRecDepth 8000
set_option maxHeartbeats 4000000
theorem wholeSS_c (s : Int) (x o : List Int) (hx : Bytes8 x) (ho : Bytes8 o) (n : Nat) (fs cs : Array Value) (Post : Value → Blks → Prop)
    (h : gridB s x o = true → GivesX Try.prog n (fs.toList ++ ([Value.agg (gc s x o).toArray] ++ cs.toList)).toArray [] [] Post) :
    GivesX Try.prog 97 #[.agg (gc s x o).toArray, .func (.func n) fs cs] [] [] (wrapP s x o Post (.slice none 0 0)) := by
  have hl := hx.len
  have hm := ho.len
  skip
  refine GivesX.of (callable_of Try.func97 rfl (by decide)) ?_ fun w hnd hlt hR => ?_
  · simp
  refine acall_of (N := 14) (c := _) (rs := [.tmp 4, .tmp 5]) (args := [_, _]) Try.func97 rfl (by decide) rfl rfl (Nat.le_of_ble_eq_true rfl) ?_
  refine Cd.rs [1, 2] fun K hK => ?_
  simp (maxSteps := 2000000) (disch := first | (simp only [E4, hl, hm] <;> omega) | omega | fail) only [↓E2, E3, bare, bareJ, ↓E0, E1, evP, evPlan, env0, envN, evOps, evOp, evQs, evQ, evV, setD, pureOp, ev, upd, updL, gate, binW, eqOp, binV, intOp, shOp, boolOp, unV, convV, nilV, fieldAddrV, indexAddrV, extractV, cellAt, cellsAt, findB, setB, fillL, buildV, Value.cells, lenV, minV, maxV, hav, sliceV, loV, hiV, bslQ, mksQ, appQ, partsOk, partsCells, delB, eqL, SameI, strOp, apzQ, cvtQ, capV, ↓reduceIte, Zj, Zk, Nat.reduceAdd, Nat.reduceLT, Nat.reduceEqDiff, Nat.reduceMul, Nat.reduceLeDiff, if_true, Zn, reduceCtorEq, ZA, eq_self, Int.reduceLE, Int.reduceLT, Int.reduceToNat, ne_eq, Nat.reduceSub, hl, hm]
  repeat refine And.intro (by omega) ?_
  intro b1 hb1
  try simp (maxSteps := 2000000) (disch := first | (simp only [E4, hl, hm] <;> omega) | omega | fail) only [↓E2, E3, bare, bareJ, ↓E0, E1, evP, evPlan, env0, envN, evOps, evOp, evQs, evQ, evV, setD, pureOp, ev, upd, updL, gate, binW, eqOp, binV, intOp, shOp, boolOp, unV, convV, nilV, fieldAddrV, indexAddrV, extractV, cellAt, cellsAt, findB, setB, fillL, buildV, Value.cells, lenV, minV, maxV, hav, sliceV, loV, hiV, bslQ, mksQ, appQ, partsOk, partsCells, delB, eqL, SameI, strOp, apzQ, cvtQ, capV, ↓reduceIte, Zj, Zk, Nat.reduceAdd, Nat.reduceLT, Nat.reduceEqDiff, Nat.reduceMul, Nat.reduceLeDiff, if_true, Zn, reduceCtorEq, ZA, eq_self, Int.reduceLE, Int.reduceLT, Int.reduceToNat, ne_eq, Nat.reduceSub, hl, hm]
  repeat refine And.intro (by omega) ?_
  repeat refine And.intro (by omega) ?_
  intro g
  simp only [List.map_cons, List.map_nil, updL, upd, Nat.reduceEqDiff, if_true, if_false, ↓reduceIte]
  refine hK _ _ ?_; clear hK K
  refine Cd.seq ?_
  refine Cd.rs [1, 2, 9] fun K hK => ?_
  simp (maxSteps := 2000000) (disch := first | (simp only [E4, hl, hm] <;> omega) | omega | fail) only [↓E2, E3, bare, bareJ, ↓E0, E1, evP, evPlan, env0, envN, evOps, evOp, evQs, evQ, evV, setD, pureOp, ev, upd, updL, gate, binW, eqOp, binV, intOp, shOp, boolOp, unV, convV, nilV, fieldAddrV, indexAddrV, extractV, cellAt, cellsAt, findB, setB, fillL, buildV, Value.cells, lenV, minV, maxV, hav, sliceV, loV, hiV, bslQ, mksQ, appQ, partsOk, partsCells, delB, eqL, SameI, strOp, apzQ, cvtQ, capV, ↓reduceIte, Zj, Zk, Nat.reduceAdd, Nat.reduceLT, Nat.reduceEqDiff, Nat.reduceMul, Nat.reduceLeDiff, if_true, Zn, reduceCtorEq, ZA, eq_self, Int.reduceLE, Int.reduceLT, Int.reduceToNat, ne_eq, Nat.reduceSub, Tld32, hl, hm]
  repeat refine And.intro (by omega) ?_
  refine callK_gives (IsGrid_c _ _ _ hx ho) ?_
  simp (maxSteps := 2000000) (disch := first | (simp only [E4, hl, hm] <;> omega) | omega | fail) only [↓E2, E3, bare, bareJ, ↓E0, E1, evP, evPlan, env0, envN, evOps, evOp, evQs, evQ, evV, setD, pureOp, ev, upd, updL, gate, binW, eqOp, binV, intOp, shOp, boolOp, unV, convV, nilV, fieldAddrV, indexAddrV, extractV, cellAt, cellsAt, findB, setB, fillL, buildV, Value.cells, lenV, minV, maxV, hav, sliceV, loV, hiV, bslQ, mksQ, appQ, partsOk, partsCells, delB, eqL, SameI, strOp, apzQ, cvtQ, capV, ↓reduceIte, Zj, Zk, Nat.reduceAdd, Nat.reduceLT, Nat.reduceEqDiff, Nat.reduceMul, Nat.reduceLeDiff, if_true, Zn, reduceCtorEq, ZA, eq_self, Int.reduceLE, Int.reduceLT, Int.reduceToNat, ne_eq, Nat.reduceSub, Tld32, hl, hm]
  repeat refine And.intro (by omega) ?_
  repeat refine And.intro (by omega) ?_
  intro g
  simp only [List.map_cons, List.map_nil, updL, upd, Nat.reduceEqDiff, if_true, if_false, ↓reduceIte]
  refine hK _ _ ?_; clear hK K
  refine Cd.cond rfl (fun h1 => ?_) (fun h1 => ?_)
  · refine Cd.rs [6] fun K hK => ?_
    simp (maxSteps := 2000000) (disch := first | (simp only [E4, hl, hm] <;> omega) | omega | fail) only [↓E2, E3, bare, bareJ, ↓E0, E1, evP, evPlan, env0, envN, evOps, evOp, evQs, evQ, evV, setD, pureOp, ev, upd, updL, gate, binW, eqOp, binV, intOp, shOp, boolOp, unV, convV, nilV, fieldAddrV, indexAddrV, extractV, cellAt, cellsAt, findB, setB, fillL, buildV, Value.cells, lenV, minV, maxV, hav, sliceV, loV, hiV, bslQ, mksQ, appQ, partsOk, partsCells, delB, eqL, SameI, strOp, apzQ, cvtQ, capV, ↓reduceIte, Zj, Zk, Nat.reduceAdd, Nat.reduceLT, Nat.reduceEqDiff, Nat.reduceMul, Nat.reduceLeDiff, if_true, Zn, reduceCtorEq, ZA, eq_self, Int.reduceLE, Int.reduceLT, Int.reduceToNat, ne_eq, Nat.reduceSub, hl, hm]
    repeat refine And.intro (by omega) ?_
    repeat refine And.intro (by omega) ?_
    intro g
    simp only [List.map_cons, List.map_nil, updL, upd, Nat.reduceEqDiff, if_true, if_false, ↓reduceIte]
    refine hK _ _ ?_; clear hK K
    refine Cd.rs [4, 5] fun K hK => ?_
    simp (maxSteps := 2000000) (disch := first | (simp only [E4, hl, hm] <;> omega) | omega | fail) only [↓E2, E3, bare, bareJ, ↓E0, E1, evP, evPlan, env0, envN, evOps, evOp, evQs, evQ, evV, setD, pureOp, ev, upd, updL, gate, binW, eqOp, binV, intOp, shOp, boolOp, unV, convV, nilV, fieldAddrV, indexAddrV, extractV, cellAt, cellsAt, findB, setB, fillL, buildV, Value.cells, lenV, minV, maxV, hav, sliceV, loV, hiV, bslQ, mksQ, appQ, partsOk, partsCells, delB, eqL, SameI, strOp, apzQ, cvtQ, capV, ↓reduceIte, Zj, Zk, Nat.reduceAdd, Nat.reduceLT, Nat.reduceEqDiff, Nat.reduceMul, Nat.reduceLeDiff, if_true, Zn, reduceCtorEq, ZA, eq_self, Int.reduceLE, Int.reduceLT, Int.reduceToNat, ne_eq, Nat.reduceSub, hl, hm]
    repeat refine And.intro (by omega) ?_
    repeat refine And.intro (by omega) ?_
    intro g
    simp only [List.map_cons, List.map_nil, updL, upd, Nat.reduceEqDiff, if_true, if_false, ↓reduceIte]
    refine hK _ _ ?_; clear hK K
    refine Cd.drop (List.nil_sublist _) ?_
    refine Cd.ret (thenR ?_)
    simp (maxSteps := 2000000) (disch := first | (simp only [E4, hl, hm] <;> omega) | omega | fail) only [↓E2, E3, bare, bareJ, ↓E0, E1, evP, evPlan, env0, envN, evOps, evOp, evQs, evQ, evV, setD, pureOp, ev, upd, updL, gate, binW, eqOp, binV, intOp, shOp, boolOp, unV, convV, nilV, fieldAddrV, indexAddrV, extractV, cellAt, cellsAt, findB, setB, fillL, buildV, Value.cells, lenV, minV, maxV, hav, sliceV, loV, hiV, bslQ, mksQ, appQ, partsOk, partsCells, delB, eqL, SameI, strOp, apzQ, cvtQ, capV, ↓reduceIte, Zj, Zk, Nat.reduceAdd, Nat.reduceLT, Nat.reduceEqDiff, Nat.reduceMul, Nat.reduceLeDiff, if_true, Zn, reduceCtorEq, ZA, eq_self, Int.reduceLE, Int.reduceLT, Int.reduceToNat, ne_eq, Nat.reduceSub, hl, hm]
    repeat refine And.intro (by omega) ?_
    exact wrapP_no (by simpa using h1)
  · have h2 : gridB s x o = true := by simpa using h1
    refine Cd.skip ?_
    refine thenN ?_
    refine Cd.rs [4, 5] fun K hK => ?_
    simp (maxSteps := 2000000) (disch := first | (simp only [E4, hl, hm] <;> omega) | omega | fail) only [↓E2, E3, bare, bareJ, ↓E0, E1, evP, evPlan, env0, envN, evOps, evOp, evQs, evQ, evV, setD, pureOp, ev, upd, updL, gate, binW, eqOp, binV, intOp, shOp, boolOp, unV, convV, nilV, fieldAddrV, indexAddrV, extractV, cellAt, cellsAt, findB, setB, fillL, buildV, Value.cells, lenV, minV, maxV, hav, sliceV, loV, hiV, bslQ, mksQ, appQ, partsOk, partsCells, delB, eqL, SameI, strOp, apzQ, cvtQ, capV, ↓reduceIte, Zj, Zk, Nat.reduceAdd, Nat.reduceLT, Nat.reduceEqDiff, Nat.reduceMul, Nat.reduceLeDiff, if_true, Zn, reduceCtorEq, ZA, eq_self, Int.reduceLE, Int.reduceLT, Int.reduceToNat, ne_eq, Nat.reduceSub, Tld32, hl, hm]
    repeat refine And.intro (by omega) ?_
    refine callK_new (h h2) (fun _ _ => toldW_nil) ?_
    intro v M' hP _ _
    simp (maxSteps := 2000000) (disch := first | (simp only [E4, hl, hm] <;> omega) | omega | fail) only [↓E2, E3, bare, bareJ, ↓E0, E1, evP, evPlan, env0, envN, evOps, evOp, evQs, evQ, evV, setD, pureOp, ev, upd, updL, gate, binW, eqOp, binV, intOp, shOp, boolOp, unV, convV, nilV, fieldAddrV, indexAddrV, extractV, cellAt, cellsAt, findB, setB, fillL, buildV, Value.cells, lenV, minV, maxV, hav, sliceV, loV, hiV, bslQ, mksQ, appQ, partsOk, partsCells, delB, eqL, SameI, strOp, apzQ, cvtQ, capV, ↓reduceIte, Zj, Zk, Nat.reduceAdd, Nat.reduceLT, Nat.reduceEqDiff, Nat.reduceMul, Nat.reduceLeDiff, if_true, Zn, reduceCtorEq, ZA, eq_self, Int.reduceLE, Int.reduceLT, Int.reduceToNat, ne_eq, Nat.reduceSub, Tld32, hl, hm]
    repeat refine And.intro (by omega) ?_
    repeat refine And.intro (by omega) ?_
    intro g
    simp only [List.map_cons, List.map_nil, updL, upd, Nat.reduceEqDiff, if_true, if_false, ↓reduceIte]
    refine hK _ _ ?_; clear hK K
    refine Cd.drop (List.sublist_append_left _ _) ?_
    refine Cd.ret ?_
    simp (maxSteps := 2000000) (disch := first | (simp only [E4, hl, hm] <;> omega) | omega | fail) only [↓E2, E3, bare, bareJ, ↓E0, E1, evP, evPlan, env0, envN, evOps, evOp, evQs, evQ, evV, setD, pureOp, ev, upd, updL, gate, binW, eqOp, binV, intOp, shOp, boolOp, unV, convV, nilV, fieldAddrV, indexAddrV, extractV, cellAt, cellsAt, findB, setB, fillL, buildV, Value.cells, lenV, minV, maxV, hav, sliceV, loV, hiV, bslQ, mksQ, appQ, partsOk, partsCells, delB, eqL, SameI, strOp, apzQ, cvtQ, capV, ↓reduceIte, Zj, Zk, Nat.reduceAdd, Nat.reduceLT, Nat.reduceEqDiff, Nat.reduceMul, Nat.reduceLeDiff, if_true, Zn, reduceCtorEq, ZA, eq_self, Int.reduceLE, Int.reduceLT, Int.reduceToNat, ne_eq, Nat.reduceSub, hl, hm]
    repeat refine And.intro (by omega) ?_
    exact wrapP_yes h2 hP


end Go.Proofs

/-
  What the functions of this part hand back: each as a plain function of its arguments. Conditions: none.
-/
namespace Go.Proofs
open Go.W8
set_option linter.unusedVariables false
set_option linter.unusedSimpArgs false
set_option linter.unusedSectionVars false
set_option maxRecDepth 8000
set_option maxHeartbeats 4000000
def sumL : List (List Int) → Nat
  | [] => 0
  | l :: ls => l.length + sumL ls
/-- The rows marked one behind the other. -/
def markSS (k : Int) : List (List Int) → List (List Int)
  | [] => []
  | l :: ls => upK k l.length :: markSS (k + (l.length : Int)) ls
theorem markSS_len : ∀ (k : Int) (ll : List (List Int)), (markSS k ll).length = ll.length
  | _, [] => rfl
  | k, l :: ls => by simp [markSS, markSS_len _ ls]
theorem markSS_get : ∀ (k : Int) (ll : List (List Int)) (j : Nat) (l : List Int), ll[j]? = some l → (markSS k ll)[j]? = some (upK (k + (sumL (ll.take j) : Nat)) l.length)
  | _, [], j, l, h => by simp at h
  | k, l0 :: ls, 0, l, h => by
    have h : l0 = l := by simpa using h
    subst h
    simp [markSS, sumL]
  | k, l0 :: ls, j + 1, l, h => by
    have := markSS_get (k + (l0.length : Int)) ls j l (by simpa using h)
    simp only [markSS, List.getElem?_cons_succ, this, List.take_succ_cons, sumL]
    rw [show k + (l0.length : Int) + ((sumL (ls.take j) : Nat) : Int) = k + ((l0.length + sumL (ls.take j) : Nat) : Int) by omega]
theorem sumL_take {ll : List (List Int)} : ∀ {j : Nat} {l : List Int}, ll[j]? = some l → sumL (ll.take (j + 1)) = sumL (ll.take j) + l.length := by
  induction ll with
  | nil => intro j l h; simp at h
  | cons l0 ls ih =>
    intro j l h
    cases j with
    | zero => simp at h; subst h; simp [sumL]
    | succ j =>
      have := ih (j := j) (l := l) (by simpa using h)
      rw [List.take_succ_cons, List.take_succ_cons]
      show _ + sumL _ = _ + sumL _ + _
      omega
theorem sumL_le (ll : List (List Int)) (j : Nat) : sumL (ll.take j) ≤ sumL ll := by
  induction ll generalizing j with
  | nil => simp [sumL]
  | cons l ls ih =>
    cases j with
    | zero => simp [sumL]
    | succ j => have := ih j; simp only [List.take_succ_cons, sumL]; omega
theorem len_le_sumL {ll : List (List Int)} {j : Nat} {l : List Int} (h : ll[j]? = some l) : l.length ≤ sumL ll := by
  have h1 := sumL_take h
  have h2 := sumL_le ll (j + 1)
  omega
def mixSS (k : Int) (ll : List (List Int)) (j : Nat) : List (List Int) := (markSS k ll).take j ++ ll.drop j
theorem mixSS_len {k : Int} {ll : List (List Int)} {j : Nat} (h : j ≤ ll.length) : (mixSS k ll j).length = ll.length := by
  unfold mixSS
  rw [List.length_append, List.length_take, List.length_drop, markSS_len]; omega
theorem mixSS_get {k : Int} {ll : List (List Int)} {j : Nat} (h : j < ll.length) : (mixSS k ll j)[j]? = ll[j]? := by
  unfold mixSS
  rw [List.getElem?_append_right (by rw [List.length_take, markSS_len]; omega), List.length_take, markSS_len, List.getElem?_drop]
  congr 1
  omega
theorem mixSS_set {k : Int} {ll : List (List Int)} {j : Nat} {l : List Int} (h : ll[j]? = some l) : (mixSS k ll j).set j (upK (k + (sumL (ll.take j) : Nat)) l.length) = mixSS k ll (j + 1) := by
  have hj : j < ll.length := by
    rcases Nat.lt_or_ge j ll.length with h1 | h1
    · exact h1
    · rw [List.getElem?_eq_none h1] at h; cases h
  apply List.ext_getElem?
  intro i
  by_cases e : j = i
  · subst e
    rw [List.getElem?_set_self (by rw [mixSS_len (by omega)]; exact hj)]
    unfold mixSS
    rw [List.getElem?_append_left (by rw [List.length_take, markSS_len]; omega), List.getElem?_take, if_pos (by omega), markSS_get k ll j l h]
  · rw [List.getElem?_set_ne e]
    unfold mixSS
    by_cases hi : i < j
    · rw [List.getElem?_append_left (by rw [List.length_take, markSS_len]; omega), List.getElem?_append_left (by rw [List.length_take, markSS_len]; omega), List.getElem?_take, List.getElem?_take, if_pos hi, if_pos (by omega)]
    · rw [List.getElem?_append_right (by rw [List.length_take, markSS_len]; omega), List.getElem?_append_right (by rw [List.length_take, markSS_len]; omega), List.length_take, List.length_take, markSS_len, List.getElem?_drop, List.getElem?_drop]
      congr 1
      omega
theorem mixSS_full (k : Int) (ll : List (List Int)) : mixSS k ll ll.length = markSS k ll := by
  unfold mixSS
  rw [List.drop_of_length_le (Nat.le_refl _), List.append_nil, List.take_of_length_le (by rw [markSS_len]; exact Nat.le_refl _)]

theorem eqInt64SS_c (ll : List (List Int)) (R : Rd) (v v' : Value) (h : RdSS R ll v) (h' : RdSS R ll v') (hb : ll.length < 4611686018427387904) (hs : sumL ll < 4611686018427387904) : GivesR Try.prog 40 #[v, v'] R (.bool true) := by
  obtain ⟨vs, h, hv, hg⟩ := h
  obtain ⟨vs', h', hv', hg'⟩ := h'
  obtain ⟨a, m, cap, rfl, hm, _⟩ := id h
  obtain ⟨a', m', cap', rfl, hm', _⟩ := id h'
  obtain rfl : m = ll.length := by omega
  obtain rfl : m' = ll.length := by omega
  refine GivesR.of (callable_of Try.func40 rfl (by decide)) fun w hR => ?_
  refine acall_of (N := 27) (c := _) (rs := [.tmp 4]) (args := [_, _]) Try.func40 rfl (by decide) rfl rfl (Nat.le_of_ble_eq_true rfl) ?_
  refine Cd.rs [0, 1] fun K hK => ?_
  simp (maxSteps := 2000000) (disch := first | (simp only [E4] <;> omega) | omega | fail) only [↓E2, E3, bare, bareJ, ↓E0, E1, evP, evPlan, env0, envN, evOps, evOp, evQs, evQ, evV, setD, pureOp, ev, upd, updL, gate, binW, eqOp, binV, intOp, shOp, boolOp, unV, convV, nilV, fieldAddrV, indexAddrV, extractV, cellAt, cellsAt, findB, setB, fillL, buildV, Value.cells, lenV, minV, maxV, hav, sliceV, loV, hiV, bslQ, mksQ, appQ, partsOk, partsCells, delB, eqL, SameI, strOp, apzQ, cvtQ, capV, ↓reduceIte, Zj, Zk, Nat.reduceAdd, Nat.reduceLT, Nat.reduceEqDiff, Nat.reduceMul, Nat.reduceLeDiff, if_true, Zn, reduceCtorEq, ZA, eq_self, Int.reduceLE, Int.reduceLT, Int.reduceToNat, ne_eq, Nat.reduceSub]
  repeat refine And.intro (by omega) ?_
  intro g
  simp only [List.map_cons, List.map_nil, updL, upd, Nat.reduceEqDiff, if_true, if_false, ↓reduceIte]
  refine hK _ _ ?_; clear hK K
  refine Cd.seq ?_
  refine Cd.rs [0, 1, 10] fun K hK => ?_
  simp (maxSteps := 2000000) (disch := first | (simp only [E4] <;> omega) | omega | fail) only [↓E2, E3, bare, bareJ, ↓E0, E1, evP, evPlan, env0, envN, evOps, evOp, evQs, evQ, evV, setD, pureOp, ev, upd, updL, gate, binW, eqOp, binV, intOp, shOp, boolOp, unV, convV, nilV, fieldAddrV, indexAddrV, extractV, cellAt, cellsAt, findB, setB, fillL, buildV, Value.cells, lenV, minV, maxV, hav, sliceV, loV, hiV, bslQ, mksQ, appQ, partsOk, partsCells, delB, eqL, SameI, strOp, apzQ, cvtQ, capV, ↓reduceIte, Zj, Zk, Nat.reduceAdd, Nat.reduceLT, Nat.reduceEqDiff, Nat.reduceMul, Nat.reduceLeDiff, if_true, Zn, reduceCtorEq, ZA, eq_self, Int.reduceLE, Int.reduceLT, Int.reduceToNat, ne_eq, Nat.reduceSub, Tslce43]
  repeat refine And.intro (by omega) ?_
  intro g
  simp only [List.map_cons, List.map_nil, updL, upd, Nat.reduceEqDiff, if_true, if_false, ↓reduceIte]
  refine hK _ _ ?_; clear hK K
  refine Cd.no rfl ?_
  refine Cd.skip ?_
  refine thenN ?_
  refine Cd.seq ?_
  refine Cd.rs [0, 1, 5] fun K hK => ?_
  simp (maxSteps := 2000000) (disch := first | (simp only [E4] <;> omega) | omega | fail) only [↓E2, E3, bare, bareJ, ↓E0, E1, evP, evPlan, env0, envN, evOps, evOp, evQs, evQ, evV, setD, pureOp, ev, upd, updL, gate, binW, eqOp, binV, intOp, shOp, boolOp, unV, convV, nilV, fieldAddrV, indexAddrV, extractV, cellAt, cellsAt, findB, setB, fillL, buildV, Value.cells, lenV, minV, maxV, hav, sliceV, loV, hiV, bslQ, mksQ, appQ, partsOk, partsCells, delB, eqL, SameI, strOp, apzQ, cvtQ, capV, ↓reduceIte, Zj, Zk, Nat.reduceAdd, Nat.reduceLT, Nat.reduceEqDiff, Nat.reduceMul, Nat.reduceLeDiff, if_true, Zn, reduceCtorEq, ZA, eq_self, Int.reduceLE, Int.reduceLT, Int.reduceToNat, ne_eq, Nat.reduceSub]
  repeat refine And.intro (by omega) ?_
  intro g
  simp only [List.map_cons, List.map_nil, updL, upd, Nat.reduceEqDiff, if_true, if_false, ↓reduceIte]
  refine hK _ _ ?_; clear hK K
  refine Cd.block ?_
  refine Cd.loop (fun n ρ M => ∃ g k, k + n = ll.length ∧ ρ = updL [(0, .slice a ll.length cap), (1, .slice a' ll.length cap'), (5, .int .i64 (k : Int))] g ∧ M = []) ll.length ⟨_, 0, Nat.zero_add _, rfl, rfl⟩ ?_
  rintro n ρ M ⟨g, k, hk, rfl, rfl⟩
  refine Cd.seq ?_
  refine Cd.rs [0, 1, 5, 14] fun K hK => ?_
  simp (maxSteps := 2000000) (disch := first | (simp only [E4] <;> omega) | omega | fail) only [↓E2, E3, bare, bareJ, ↓E0, E1, evP, evPlan, env0, envN, evOps, evOp, evQs, evQ, evV, setD, pureOp, ev, upd, updL, gate, binW, eqOp, binV, intOp, shOp, boolOp, unV, convV, nilV, fieldAddrV, indexAddrV, extractV, cellAt, cellsAt, findB, setB, fillL, buildV, Value.cells, lenV, minV, maxV, hav, sliceV, loV, hiV, bslQ, mksQ, appQ, partsOk, partsCells, delB, eqL, SameI, strOp, apzQ, cvtQ, capV, ↓reduceIte, Zj, Zk, Nat.reduceAdd, Nat.reduceLT, Nat.reduceEqDiff, Nat.reduceMul, Nat.reduceLeDiff, if_true, Zn, reduceCtorEq, ZA, eq_self, Int.reduceLE, Int.reduceLT, Int.reduceToNat, ne_eq, Nat.reduceSub, Tslce43]
  repeat refine And.intro (by omega) ?_
  intro g
  simp only [List.map_cons, List.map_nil, updL, upd, Nat.reduceEqDiff, if_true, if_false, ↓reduceIte]
  refine hK _ _ ?_; clear hK K
  refine Cd.condd rfl (fun h2 => ?_) (fun h2 => ?_)
  · have hlk : ll[k]? = some (ll[k]'(by omega)) := List.getElem?_eq_getElem _
    have huk : vs[k]? = some (vs[k]'(by omega)) := List.getElem?_eq_getElem _
    have huk' : vs'[k]? = some (vs'[k]'(by omega)) := List.getElem?_eq_getElem _
    obtain ⟨b, rfl, q⟩ := h.get hR huk
    obtain ⟨b', rfl, q'⟩ := h'.get hR huk'
    have he := eqInt64S_c _ R _ _ (hg k _ _ hlk huk) (hg' k _ _ hlk huk') (by have := len_le_sumL hlk; omega)
    generalize vs[k]'(by omega) = u at q he
    generalize vs'[k]'(by omega) = u' at q' he
    refine Cd.skip ?_
    refine thenN ?_
    refine Cd.seq ?_
    refine Cd.block ?_
    skip
    refine Cd.qs [0, 1, 5, 26] fol (by kernel_rfl) fun K hK => ?_
    simp (maxSteps := 2000000) (disch := first | (simp only [E4, q, q'] <;> omega) | omega | fail) only [↓E2, E3, bare, bareJ, ↓E0, E1, evP, evPlan, env0, envN, evOps, evOp, evQs, evQ, evV, setD, pureOp, ev, upd, updL, gate, binW, eqOp, binV, intOp, shOp, boolOp, unV, convV, nilV, fieldAddrV, indexAddrV, extractV, cellAt, cellsAt, findB, setB, fillL, buildV, Value.cells, lenV, minV, maxV, hav, sliceV, loV, hiV, bslQ, mksQ, appQ, partsOk, partsCells, delB, eqL, SameI, strOp, apzQ, cvtQ, capV, ↓reduceIte, Zj, Zk, Nat.reduceAdd, Nat.reduceLT, Nat.reduceEqDiff, Nat.reduceMul, Nat.reduceLeDiff, if_true, Zn, reduceCtorEq, ZA, eq_self, Int.reduceLE, Int.reduceLT, Int.reduceToNat, ne_eq, Nat.reduceSub, Tld47, Tslc43, q, q']
    repeat refine And.intro (by omega) ?_
    refine callQ_told0 he hR ?_
    simp (maxSteps := 2000000) (disch := first | (simp only [E4, q, q'] <;> omega) | omega | fail) only [↓E2, E3, bare, bareJ, ↓E0, E1, evP, evPlan, env0, envN, evOps, evOp, evQs, evQ, evV, setD, pureOp, ev, upd, updL, gate, binW, eqOp, binV, intOp, shOp, boolOp, unV, convV, nilV, fieldAddrV, indexAddrV, extractV, cellAt, cellsAt, findB, setB, fillL, buildV, Value.cells, lenV, minV, maxV, hav, sliceV, loV, hiV, bslQ, mksQ, appQ, partsOk, partsCells, delB, eqL, SameI, strOp, apzQ, cvtQ, capV, ↓reduceIte, Zj, Zk, Nat.reduceAdd, Nat.reduceLT, Nat.reduceEqDiff, Nat.reduceMul, Nat.reduceLeDiff, if_true, Zn, reduceCtorEq, ZA, eq_self, Int.reduceLE, Int.reduceLT, Int.reduceToNat, ne_eq, Nat.reduceSub, Tld47, Tslc43, q, q']
    repeat refine And.intro (by omega) ?_
    intro g
    simp only [List.map_cons, List.map_nil, updL, upd, Nat.reduceEqDiff, if_true, if_false, ↓reduceIte]
    refine hK _ ?_; clear hK K
    refine Cd.no rfl ?_
    refine Cd.skip ?_
    refine inBN ?_
    refine thenN ?_
    refine Cd.rr [0, 1, 5] fun K hK => ?_
    simp (maxSteps := 2000000) (disch := first | (simp only [E4, q, q'] <;> omega) | omega | fail) only [↓E2, E3, bare, bareJ, ↓E0, E1, evP, evPlan, env0, envN, evOps, evOp, evQs, evQ, evV, setD, pureOp, ev, upd, updL, gate, binW, eqOp, binV, intOp, shOp, boolOp, unV, convV, nilV, fieldAddrV, indexAddrV, extractV, cellAt, cellsAt, findB, setB, fillL, buildV, Value.cells, lenV, minV, maxV, hav, sliceV, loV, hiV, bslQ, mksQ, appQ, partsOk, partsCells, delB, eqL, SameI, strOp, apzQ, cvtQ, capV, ↓reduceIte, Zj, Zk, Nat.reduceAdd, Nat.reduceLT, Nat.reduceEqDiff, Nat.reduceMul, Nat.reduceLeDiff, if_true, Zn, reduceCtorEq, ZA, eq_self, Int.reduceLE, Int.reduceLT, Int.reduceToNat, ne_eq, Nat.reduceSub, q, q']
    repeat refine And.intro (by omega) ?_
    intro g
    simp only [List.map_cons, List.map_nil, updL, upd, Nat.reduceEqDiff, if_true, if_false, ↓reduceIte]
    refine hK _ _ ?_; clear hK K
    exact roundN (m := n - 1) (by omega) ⟨_, k + 1, by omega, rfl, rfl⟩
  · refine Cd.exit (thenX (roundX (inBX ?_)))
    refine thenN ?_
    refine Cd.rs [4] fun K hK => ?_
    simp (maxSteps := 2000000) (disch := first | (simp only [E4] <;> omega) | omega | fail) only [↓E2, E3, bare, bareJ, ↓E0, E1, evP, evPlan, env0, envN, evOps, evOp, evQs, evQ, evV, setD, pureOp, ev, upd, updL, gate, binW, eqOp, binV, intOp, shOp, boolOp, unV, convV, nilV, fieldAddrV, indexAddrV, extractV, cellAt, cellsAt, findB, setB, fillL, buildV, Value.cells, lenV, minV, maxV, hav, sliceV, loV, hiV, bslQ, mksQ, appQ, partsOk, partsCells, delB, eqL, SameI, strOp, apzQ, cvtQ, capV, ↓reduceIte, Zj, Zk, Nat.reduceAdd, Nat.reduceLT, Nat.reduceEqDiff, Nat.reduceMul, Nat.reduceLeDiff, if_true, Zn, reduceCtorEq, ZA, eq_self, Int.reduceLE, Int.reduceLT, Int.reduceToNat, ne_eq, Nat.reduceSub]
    repeat refine And.intro (by omega) ?_
    intro g
    simp only [List.map_cons, List.map_nil, updL, upd, Nat.reduceEqDiff, if_true, if_false, ↓reduceIte]
    refine hK _ _ ?_; clear hK K
    refine Cd.ret ?_
    simp (maxSteps := 2000000) (disch := first | (simp only [E4] <;> omega) | omega | fail) only [↓E2, E3, bare, bareJ, ↓E0, E1, evP, evPlan, env0, envN, evOps, evOp, evQs, evQ, evV, setD, pureOp, ev, upd, updL, gate, binW, eqOp, binV, intOp, shOp, boolOp, unV, convV, nilV, fieldAddrV, indexAddrV, extractV, cellAt, cellsAt, findB, setB, fillL, buildV, Value.cells, lenV, minV, maxV, hav, sliceV, loV, hiV, bslQ, mksQ, appQ, partsOk, partsCells, delB, eqL, SameI, strOp, apzQ, cvtQ, capV, ↓reduceIte, Zj, Zk, Nat.reduceAdd, Nat.reduceLT, Nat.reduceEqDiff, Nat.reduceMul, Nat.reduceLeDiff, if_true, Zn, reduceCtorEq, ZA, eq_self, Int.reduceLE, Int.reduceLT, Int.reduceToNat, ne_eq, Nat.reduceSub]

theorem markInt64SS_c (ll : List (List Int)) (v : Value) (L : Blks) (h : SlSl ll v L) (k : Nat) (hb : k + sumL ll < 4611686018427387904) (hc : ll.length < 4611686018427387904) :
    GivesX Try.prog 41 #[v, .int .i64 (k : Int)] L [] (fun r M' => r = .int .i64 ((k + sumL ll : Nat) : Int) ∧ SlSl (markSS k ll) v M') := by
  obtain ⟨a, cap, rfl⟩ : ∃ a cap, v = .slice a ll.length cap := by
    rcases h with ⟨rfl, rfl, rfl⟩ | ⟨b, m, cap, cs, vs, Mi, h1, h2, h3, h4⟩
    · exact ⟨_, _, rfl⟩
    · have := h3.len
      have := h4.len
      obtain rfl : m = ll.length := by omega
      exact ⟨_, _, h1⟩
  refine GivesX.of (callable_of Try.func41 rfl (by decide)) ?_ fun w hnd hlt hR => ?_
  · simp
  refine acall_of (N := 19) (c := _) (rs := [.tmp 4]) (args := [_, _]) Try.func41 rfl (by decide) rfl rfl (Nat.le_of_ble_eq_true rfl) ?_
  refine Cd.rs [0, 1] fun K hK => ?_
  simp (maxSteps := 2000000) (disch := first | (simp only [E4] <;> omega) | omega | fail) only [↓E2, E3, bare, bareJ, ↓E0, E1, evP, evPlan, env0, envN, evOps, evOp, evQs, evQ, evV, setD, pureOp, ev, upd, updL, gate, binW, eqOp, binV, intOp, shOp, boolOp, unV, convV, nilV, fieldAddrV, indexAddrV, extractV, cellAt, cellsAt, findB, setB, fillL, buildV, Value.cells, lenV, minV, maxV, hav, sliceV, loV, hiV, bslQ, mksQ, appQ, partsOk, partsCells, delB, eqL, SameI, strOp, apzQ, cvtQ, capV, ↓reduceIte, Zj, Zk, Nat.reduceAdd, Nat.reduceLT, Nat.reduceEqDiff, Nat.reduceMul, Nat.reduceLeDiff, if_true, Zn, reduceCtorEq, ZA, eq_self, Int.reduceLE, Int.reduceLT, Int.reduceToNat, ne_eq, Nat.reduceSub]
  repeat refine And.intro (by omega) ?_
  intro g
  simp only [List.map_cons, List.map_nil, updL, upd, Nat.reduceEqDiff, if_true, if_false, ↓reduceIte]
  refine hK _ _ ?_; clear hK K
  refine Cd.seq ?_
  refine Cd.rs [0, 1, 5] fun K hK => ?_
  simp (maxSteps := 2000000) (disch := first | (simp only [E4] <;> omega) | omega | fail) only [↓E2, E3, bare, bareJ, ↓E0, E1, evP, evPlan, env0, envN, evOps, evOp, evQs, evQ, evV, setD, pureOp, ev, upd, updL, gate, binW, eqOp, binV, intOp, shOp, boolOp, unV, convV, nilV, fieldAddrV, indexAddrV, extractV, cellAt, cellsAt, findB, setB, fillL, buildV, Value.cells, lenV, minV, maxV, hav, sliceV, loV, hiV, bslQ, mksQ, appQ, partsOk, partsCells, delB, eqL, SameI, strOp, apzQ, cvtQ, capV, ↓reduceIte, Zj, Zk, Nat.reduceAdd, Nat.reduceLT, Nat.reduceEqDiff, Nat.reduceMul, Nat.reduceLeDiff, if_true, Zn, reduceCtorEq, ZA, eq_self, Int.reduceLE, Int.reduceLT, Int.reduceToNat, ne_eq, Nat.reduceSub]
  repeat refine And.intro (by omega) ?_
  intro g
  simp only [List.map_cons, List.map_nil, updL, upd, Nat.reduceEqDiff, if_true, if_false, ↓reduceIte]
  refine hK _ _ ?_; clear hK K
  refine Cd.block ?_
  refine Cd.loop (fun n ρ M => ∃ g i M0, i + n = ll.length ∧ ρ = updL [(0, .slice a ll.length cap), (1, .int .i64 ((k + sumL (ll.take i) : Nat) : Int)), (5, .int .i64 (i : Int))] g ∧ M0.Perm M ∧ SlSl (mixSS k ll i) (.slice a ll.length cap) M0) ll.length ⟨_, 0, _, Nat.zero_add _, rfl, .refl _, h⟩ ?_
  rintro n ρ M ⟨g, i, M0, hi, rfl, hP, hM⟩
  refine Cd.turn hP ?_
  clear hP M
  refine Cd.seq ?_
  refine Cd.rs [0, 1, 5, 9] fun K hK => ?_
  simp (maxSteps := 2000000) (disch := first | (simp only [E4] <;> omega) | omega | fail) only [↓E2, E3, bare, bareJ, ↓E0, E1, evP, evPlan, env0, envN, evOps, evOp, evQs, evQ, evV, setD, pureOp, ev, upd, updL, gate, binW, eqOp, binV, intOp, shOp, boolOp, unV, convV, nilV, fieldAddrV, indexAddrV, extractV, cellAt, cellsAt, findB, setB, fillL, buildV, Value.cells, lenV, minV, maxV, hav, sliceV, loV, hiV, bslQ, mksQ, appQ, partsOk, partsCells, delB, eqL, SameI, strOp, apzQ, cvtQ, capV, ↓reduceIte, Zj, Zk, Nat.reduceAdd, Nat.reduceLT, Nat.reduceEqDiff, Nat.reduceMul, Nat.reduceLeDiff, if_true, Zn, reduceCtorEq, ZA, eq_self, Int.reduceLE, Int.reduceLT, Int.reduceToNat, ne_eq, Nat.reduceSub, Tslce43]
  repeat refine And.intro (by omega) ?_
  intro g
  simp only [List.map_cons, List.map_nil, updL, upd, Nat.reduceEqDiff, if_true, if_false, ↓reduceIte]
  refine hK _ _ ?_; clear hK K
  refine Cd.condd rfl (fun h1 => ?_) (fun h1 => ?_)
  · rcases hM with ⟨e, _, _⟩ | ⟨b, m, cap', cs, vs, Mi, e, rfl, hr, hrows⟩
    · have := congrArg List.length e
      rw [mixSS_len (by omega)] at this
      simp only [List.length_nil] at this
      omega
    cases e
    refine Cd.nodup fun hnd => ?_
    obtain ⟨l, u, A, Mj, B, g1, g2, rfl, g4, g5⟩ := hrows.split (j := i) (by rw [mixSS_len (by omega)]; omega)
    rw [mixSS_get (by omega)] at g1
    have hst := sumL_take g1
    have hsl := sumL_le ll (i + 1)
    have hu := hr.get g2
    have hset := mixSS_set (k := (k : Int)) g1
    have hmk := markInt64S_c l u Mj g4 (k + sumL (ll.take i)) (by omega)
    have hvs : vs.set i u = vs := set_self g2
    refine Cd.skip ?_
    refine thenN ?_
    refine Cd.seq ?_
    refine Cd.block ?_
    have hp : (Mj ++ ((b, cs) :: (A ++ B))).Perm ((b, cs) :: (A ++ (Mj ++ B))) := by
      refine List.perm_middle.trans (List.Perm.cons _ ?_)
      rw [← List.append_assoc, ← List.append_assoc]
      exact List.Perm.append_right _ List.perm_append_comm
    refine Cd.turn hp ?_
    have hnd2 := (hp.map (·.1)).nodup_iff.2 hnd
    have hf := findB_of hnd2 (b := b) (cs := cs) (by simp)
    skip
    refine Cd.rr [0, 1, 5] fun K hK => ?_
    simp (maxSteps := 2000000) (disch := first | (simp only [E4, hf, hu] <;> omega) | omega | fail) only [↓E2, E3, bare, bareJ, ↓E0, E1, evP, evPlan, env0, envN, evOps, evOp, evQs, evQ, evV, setD, pureOp, ev, upd, updL, gate, binW, eqOp, binV, intOp, shOp, boolOp, unV, convV, nilV, fieldAddrV, indexAddrV, extractV, cellAt, cellsAt, findB, setB, fillL, buildV, Value.cells, lenV, minV, maxV, hav, sliceV, loV, hiV, bslQ, mksQ, appQ, partsOk, partsCells, delB, eqL, SameI, strOp, apzQ, cvtQ, capV, ↓reduceIte, Zj, Zk, Nat.reduceAdd, Nat.reduceLT, Nat.reduceEqDiff, Nat.reduceMul, Nat.reduceLeDiff, if_true, Zn, reduceCtorEq, ZA, eq_self, Int.reduceLE, Int.reduceLT, Int.reduceToNat, ne_eq, Nat.reduceSub, Tld47, Tslc43, hf, hu]
    repeat refine And.intro (by omega) ?_
    refine callK_lent0 hmk (nodup_left hnd2) (fun p hp => List.mem_append_left _ hp) (List.sublist_append_right _ _) (nodup_right hnd2) (fun _ _ => toldW_nil) ?_
    rintro v' Mj' ⟨rfl, hv'⟩ _ _
    simp (maxSteps := 2000000) (disch := first | (simp only [E4, hf, hu] <;> omega) | omega | fail) only [↓E2, E3, bare, bareJ, ↓E0, E1, evP, evPlan, env0, envN, evOps, evOp, evQs, evQ, evV, setD, pureOp, ev, upd, updL, gate, binW, eqOp, binV, intOp, shOp, boolOp, unV, convV, nilV, fieldAddrV, indexAddrV, extractV, cellAt, cellsAt, findB, setB, fillL, buildV, Value.cells, lenV, minV, maxV, hav, sliceV, loV, hiV, bslQ, mksQ, appQ, partsOk, partsCells, delB, eqL, SameI, strOp, apzQ, cvtQ, capV, ↓reduceIte, Zj, Zk, Nat.reduceAdd, Nat.reduceLT, Nat.reduceEqDiff, Nat.reduceMul, Nat.reduceLeDiff, if_true, Zn, reduceCtorEq, ZA, eq_self, Int.reduceLE, Int.reduceLT, Int.reduceToNat, ne_eq, Nat.reduceSub, Tld47, Tslc43, hf, hu]
    repeat refine And.intro (by omega) ?_
    intro g
    simp only [List.map_cons, List.map_nil, updL, upd, Nat.reduceEqDiff, if_true, if_false, ↓reduceIte]
    refine hK _ _ ?_; clear hK K
    refine inBN ?_
    refine thenN ?_
    refine Cd.rr [0, 1, 5] fun K hK => ?_
    simp (maxSteps := 2000000) (disch := first | (simp only [E4, hf, hu] <;> omega) | omega | fail) only [↓E2, E3, bare, bareJ, ↓E0, E1, evP, evPlan, env0, envN, evOps, evOp, evQs, evQ, evV, setD, pureOp, ev, upd, updL, gate, binW, eqOp, binV, intOp, shOp, boolOp, unV, convV, nilV, fieldAddrV, indexAddrV, extractV, cellAt, cellsAt, findB, setB, fillL, buildV, Value.cells, lenV, minV, maxV, hav, sliceV, loV, hiV, bslQ, mksQ, appQ, partsOk, partsCells, delB, eqL, SameI, strOp, apzQ, cvtQ, capV, ↓reduceIte, Zj, Zk, Nat.reduceAdd, Nat.reduceLT, Nat.reduceEqDiff, Nat.reduceMul, Nat.reduceLeDiff, if_true, Zn, reduceCtorEq, ZA, eq_self, Int.reduceLE, Int.reduceLT, Int.reduceToNat, ne_eq, Nat.reduceSub, hf, hu]
    repeat refine And.intro (by omega) ?_
    intro g
    simp only [List.map_cons, List.map_nil, updL, upd, Nat.reduceEqDiff, if_true, if_false, ↓reduceIte]
    refine hK _ _ ?_; clear hK K
    have hp2 : ((b, cs) :: (A ++ (Mj' ++ B))).Perm (Mj' ++ ((b, cs) :: (A ++ B))) := by
      refine List.Perm.symm (List.perm_middle.trans (List.Perm.cons _ ?_))
      rw [← List.append_assoc, ← List.append_assoc]
      exact List.Perm.append_right _ List.perm_append_comm
    have h5 := g5 _ u Mj' hv'
    rw [show (((k + sumL (ll.take i) : Nat) : Int)) = (k : Int) + (sumL (ll.take i) : Nat) by omega, hset, hvs] at h5
    exact roundN (m := n - 1) (by omega) ⟨_, i + 1, _, by omega, by rw [hst, ← Nat.add_assoc]; rfl, hp2, .inr ⟨b, _, _, cs, vs, _, rfl, rfl, hr, h5⟩⟩
  · obtain rfl : i = ll.length := by omega
    refine Cd.exit (thenX (roundX (inBX ?_)))
    refine thenN ?_
    refine Cd.rs [4] fun K hK => ?_
    simp (maxSteps := 2000000) (disch := first | (simp only [E4] <;> omega) | omega | fail) only [↓E2, E3, bare, bareJ, ↓E0, E1, evP, evPlan, env0, envN, evOps, evOp, evQs, evQ, evV, setD, pureOp, ev, upd, updL, gate, binW, eqOp, binV, intOp, shOp, boolOp, unV, convV, nilV, fieldAddrV, indexAddrV, extractV, cellAt, cellsAt, findB, setB, fillL, buildV, Value.cells, lenV, minV, maxV, hav, sliceV, loV, hiV, bslQ, mksQ, appQ, partsOk, partsCells, delB, eqL, SameI, strOp, apzQ, cvtQ, capV, ↓reduceIte, Zj, Zk, Nat.reduceAdd, Nat.reduceLT, Nat.reduceEqDiff, Nat.reduceMul, Nat.reduceLeDiff, if_true, Zn, reduceCtorEq, ZA, eq_self, Int.reduceLE, Int.reduceLT, Int.reduceToNat, ne_eq, Nat.reduceSub]
    repeat refine And.intro (by omega) ?_
    intro g
    simp only [List.map_cons, List.map_nil, updL, upd, Nat.reduceEqDiff, if_true, if_false, ↓reduceIte]
    refine hK _ _ ?_; clear hK K
    refine Cd.ret ?_
    simp (maxSteps := 2000000) (disch := first | (simp only [E4] <;> omega) | omega | fail) only [↓E2, E3, bare, bareJ, ↓E0, E1, evP, evPlan, env0, envN, evOps, evOp, evQs, evQ, evV, setD, pureOp, ev, upd, updL, gate, binW, eqOp, binV, intOp, shOp, boolOp, unV, convV, nilV, fieldAddrV, indexAddrV, extractV, cellAt, cellsAt, findB, setB, fillL, buildV, Value.cells, lenV, minV, maxV, hav, sliceV, loV, hiV, bslQ, mksQ, appQ, partsOk, partsCells, delB, eqL, SameI, strOp, apzQ, cvtQ, capV, ↓reduceIte, Zj, Zk, Nat.reduceAdd, Nat.reduceLT, Nat.reduceEqDiff, Nat.reduceMul, Nat.reduceLeDiff, if_true, Zn, reduceCtorEq, ZA, eq_self, Int.reduceLE, Int.reduceLT, Int.reduceToNat, ne_eq, Nat.reduceSub]
    rw [mixSS_full, List.take_of_length_le (Nat.le_refl _)] at *
    exact ⟨rfl, hM⟩

theorem heldInt64SS_c (ll : List (List Int)) (k : Nat) (v : Value) (R : Rd) (h : RdSS R (markSS k ll) v) (hb : k + sumL ll < 4611686018427387904) (hc : ll.length < 4611686018427387904) :
    GivesR Try.prog 42 #[v, .int .i64 (k : Int)] R (.int .i64 ((k + sumL ll : Nat) : Int)) := by
  obtain ⟨vs, h, hv, hg⟩ := h
  obtain ⟨a, m, cap, rfl, hm, _⟩ := id h
  rw [markSS_len] at hv
  obtain rfl : m = ll.length := by omega
  refine GivesR.of (callable_of Try.func42 rfl (by decide)) fun w hR => ?_
  refine acall_of (N := 21) (c := _) (rs := [.tmp 4]) (args := [_, _]) Try.func42 rfl (by decide) rfl rfl (Nat.le_of_ble_eq_true rfl) ?_
  refine Cd.rs [0, 1] fun K hK => ?_
  simp (maxSteps := 2000000) (disch := first | (simp only [E4] <;> omega) | omega | fail) only [↓E2, E3, bare, bareJ, ↓E0, E1, evP, evPlan, env0, envN, evOps, evOp, evQs, evQ, evV, setD, pureOp, ev, upd, updL, gate, binW, eqOp, binV, intOp, shOp, boolOp, unV, convV, nilV, fieldAddrV, indexAddrV, extractV, cellAt, cellsAt, findB, setB, fillL, buildV, Value.cells, lenV, minV, maxV, hav, sliceV, loV, hiV, bslQ, mksQ, appQ, partsOk, partsCells, delB, eqL, SameI, strOp, apzQ, cvtQ, capV, ↓reduceIte, Zj, Zk, Nat.reduceAdd, Nat.reduceLT, Nat.reduceEqDiff, Nat.reduceMul, Nat.reduceLeDiff, if_true, Zn, reduceCtorEq, ZA, eq_self, Int.reduceLE, Int.reduceLT, Int.reduceToNat, ne_eq, Nat.reduceSub]
  repeat refine And.intro (by omega) ?_
  intro g
  simp only [List.map_cons, List.map_nil, updL, upd, Nat.reduceEqDiff, if_true, if_false, ↓reduceIte]
  refine hK _ _ ?_; clear hK K
  refine Cd.seq ?_
  refine Cd.rs [0, 1, 5] fun K hK => ?_
  simp (maxSteps := 2000000) (disch := first | (simp only [E4] <;> omega) | omega | fail) only [↓E2, E3, bare, bareJ, ↓E0, E1, evP, evPlan, env0, envN, evOps, evOp, evQs, evQ, evV, setD, pureOp, ev, upd, updL, gate, binW, eqOp, binV, intOp, shOp, boolOp, unV, convV, nilV, fieldAddrV, indexAddrV, extractV, cellAt, cellsAt, findB, setB, fillL, buildV, Value.cells, lenV, minV, maxV, hav, sliceV, loV, hiV, bslQ, mksQ, appQ, partsOk, partsCells, delB, eqL, SameI, strOp, apzQ, cvtQ, capV, ↓reduceIte, Zj, Zk, Nat.reduceAdd, Nat.reduceLT, Nat.reduceEqDiff, Nat.reduceMul, Nat.reduceLeDiff, if_true, Zn, reduceCtorEq, ZA, eq_self, Int.reduceLE, Int.reduceLT, Int.reduceToNat, ne_eq, Nat.reduceSub]
  repeat refine And.intro (by omega) ?_
  intro g
  simp only [List.map_cons, List.map_nil, updL, upd, Nat.reduceEqDiff, if_true, if_false, ↓reduceIte]
  refine hK _ _ ?_; clear hK K
  refine Cd.block ?_
  refine Cd.loop (fun n ρ M => ∃ g i, i + n = ll.length ∧ ρ = updL [(0, .slice a ll.length cap), (1, .int .i64 ((k + sumL (ll.take i) : Nat) : Int)), (5, .int .i64 (i : Int))] g ∧ M = []) ll.length ⟨_, 0, Nat.zero_add _, rfl, rfl⟩ ?_
  rintro n ρ M ⟨g, i, hi, rfl, rfl⟩
  refine Cd.seq ?_
  refine Cd.rs [0, 1, 5, 9] fun K hK => ?_
  simp (maxSteps := 2000000) (disch := first | (simp only [E4] <;> omega) | omega | fail) only [↓E2, E3, bare, bareJ, ↓E0, E1, evP, evPlan, env0, envN, evOps, evOp, evQs, evQ, evV, setD, pureOp, ev, upd, updL, gate, binW, eqOp, binV, intOp, shOp, boolOp, unV, convV, nilV, fieldAddrV, indexAddrV, extractV, cellAt, cellsAt, findB, setB, fillL, buildV, Value.cells, lenV, minV, maxV, hav, sliceV, loV, hiV, bslQ, mksQ, appQ, partsOk, partsCells, delB, eqL, SameI, strOp, apzQ, cvtQ, capV, ↓reduceIte, Zj, Zk, Nat.reduceAdd, Nat.reduceLT, Nat.reduceEqDiff, Nat.reduceMul, Nat.reduceLeDiff, if_true, Zn, reduceCtorEq, ZA, eq_self, Int.reduceLE, Int.reduceLT, Int.reduceToNat, ne_eq, Nat.reduceSub, Tslce43]
  repeat refine And.intro (by omega) ?_
  intro g
  simp only [List.map_cons, List.map_nil, updL, upd, Nat.reduceEqDiff, if_true, if_false, ↓reduceIte]
  refine hK _ _ ?_; clear hK K
  refine Cd.condd rfl (fun h2 => ?_) (fun h2 => ?_)
  · have hlk : ll[i]? = some (ll[i]'(by omega)) := List.getElem?_eq_getElem _
    have huk : vs[i]? = some (vs[i]'(by omega)) := List.getElem?_eq_getElem _
    obtain ⟨b, rfl, q⟩ := h.get hR huk
    have hst := sumL_take hlk
    have hsl := sumL_le ll (i + 1)
    have hmg := hg i _ _ (markSS_get (k : Int) ll i _ hlk) huk
    rw [show (k : Int) + ((sumL (ll.take i) : Nat) : Int) = ((k + sumL (ll.take i) : Nat) : Int) by omega] at hmg
    have he := heldInt64S_c _ (k + sumL (ll.take i)) _ R hmg (by omega)
    generalize vs[i]'(by omega) = u at q he
    generalize ll[i]'(by omega) = l at hst he
    refine Cd.skip ?_
    refine thenN ?_
    refine Cd.seq ?_
    refine Cd.block ?_
    skip
    refine Cd.rs [0, 1, 5] fun K hK => ?_
    simp (maxSteps := 2000000) (disch := first | (simp only [E4, q] <;> omega) | omega | fail) only [↓E2, E3, bare, bareJ, ↓E0, E1, evP, evPlan, env0, envN, evOps, evOp, evQs, evQ, evV, setD, pureOp, ev, upd, updL, gate, binW, eqOp, binV, intOp, shOp, boolOp, unV, convV, nilV, fieldAddrV, indexAddrV, extractV, cellAt, cellsAt, findB, setB, fillL, buildV, Value.cells, lenV, minV, maxV, hav, sliceV, loV, hiV, bslQ, mksQ, appQ, partsOk, partsCells, delB, eqL, SameI, strOp, apzQ, cvtQ, capV, ↓reduceIte, Zj, Zk, Nat.reduceAdd, Nat.reduceLT, Nat.reduceEqDiff, Nat.reduceMul, Nat.reduceLeDiff, if_true, Zn, reduceCtorEq, ZA, eq_self, Int.reduceLE, Int.reduceLT, Int.reduceToNat, ne_eq, Nat.reduceSub, Tld47, Tslc43, q]
    repeat refine And.intro (by omega) ?_
    refine callK_told0 he hR ?_
    simp (maxSteps := 2000000) (disch := first | (simp only [E4, q] <;> omega) | omega | fail) only [↓E2, E3, bare, bareJ, ↓E0, E1, evP, evPlan, env0, envN, evOps, evOp, evQs, evQ, evV, setD, pureOp, ev, upd, updL, gate, binW, eqOp, binV, intOp, shOp, boolOp, unV, convV, nilV, fieldAddrV, indexAddrV, extractV, cellAt, cellsAt, findB, setB, fillL, buildV, Value.cells, lenV, minV, maxV, hav, sliceV, loV, hiV, bslQ, mksQ, appQ, partsOk, partsCells, delB, eqL, SameI, strOp, apzQ, cvtQ, capV, ↓reduceIte, Zj, Zk, Nat.reduceAdd, Nat.reduceLT, Nat.reduceEqDiff, Nat.reduceMul, Nat.reduceLeDiff, if_true, Zn, reduceCtorEq, ZA, eq_self, Int.reduceLE, Int.reduceLT, Int.reduceToNat, ne_eq, Nat.reduceSub, Tld47, Tslc43, q]
    repeat refine And.intro (by omega) ?_
    intro g
    simp only [List.map_cons, List.map_nil, updL, upd, Nat.reduceEqDiff, if_true, if_false, ↓reduceIte]
    refine hK _ _ ?_; clear hK K
    refine Cd.rs [0, 1, 5, 19] fun K hK => ?_
    simp (maxSteps := 2000000) (disch := first | (simp only [E4, q] <;> omega) | omega | fail) only [↓E2, E3, bare, bareJ, ↓E0, E1, evP, evPlan, env0, envN, evOps, evOp, evQs, evQ, evV, setD, pureOp, ev, upd, updL, gate, binW, eqOp, binV, intOp, shOp, boolOp, unV, convV, nilV, fieldAddrV, indexAddrV, extractV, cellAt, cellsAt, findB, setB, fillL, buildV, Value.cells, lenV, minV, maxV, hav, sliceV, loV, hiV, bslQ, mksQ, appQ, partsOk, partsCells, delB, eqL, SameI, strOp, apzQ, cvtQ, capV, ↓reduceIte, Zj, Zk, Nat.reduceAdd, Nat.reduceLT, Nat.reduceEqDiff, Nat.reduceMul, Nat.reduceLeDiff, if_true, Zn, reduceCtorEq, ZA, eq_self, Int.reduceLE, Int.reduceLT, Int.reduceToNat, ne_eq, Nat.reduceSub, q]
    repeat refine And.intro (by omega) ?_
    intro g
    simp only [List.map_cons, List.map_nil, updL, upd, Nat.reduceEqDiff, if_true, if_false, ↓reduceIte]
    refine hK _ _ ?_; clear hK K
    refine Cd.condd rfl (fun h3 => ?_) (fun h3 => ?_)
    · exact absurd h3 (by omega)
    refine Cd.skip ?_
    refine inBN ?_
    refine thenN ?_
    refine Cd.rr [0, 1, 5] fun K hK => ?_
    simp (maxSteps := 2000000) (disch := first | (simp only [E4, q] <;> omega) | omega | fail) only [↓E2, E3, bare, bareJ, ↓E0, E1, evP, evPlan, env0, envN, evOps, evOp, evQs, evQ, evV, setD, pureOp, ev, upd, updL, gate, binW, eqOp, binV, intOp, shOp, boolOp, unV, convV, nilV, fieldAddrV, indexAddrV, extractV, cellAt, cellsAt, findB, setB, fillL, buildV, Value.cells, lenV, minV, maxV, hav, sliceV, loV, hiV, bslQ, mksQ, appQ, partsOk, partsCells, delB, eqL, SameI, strOp, apzQ, cvtQ, capV, ↓reduceIte, Zj, Zk, Nat.reduceAdd, Nat.reduceLT, Nat.reduceEqDiff, Nat.reduceMul, Nat.reduceLeDiff, if_true, Zn, reduceCtorEq, ZA, eq_self, Int.reduceLE, Int.reduceLT, Int.reduceToNat, ne_eq, Nat.reduceSub, q]
    repeat refine And.intro (by omega) ?_
    intro g
    simp only [List.map_cons, List.map_nil, updL, upd, Nat.reduceEqDiff, if_true, if_false, ↓reduceIte]
    refine hK _ _ ?_; clear hK K
    exact roundN (m := n - 1) (by omega) ⟨_, i + 1, by omega, by rw [hst, ← Nat.add_assoc]; rfl, rfl⟩
  · obtain rfl : i = ll.length := by omega
    refine Cd.exit (thenX (roundX (inBX ?_)))
    refine thenN ?_
    refine Cd.rs [4] fun K hK => ?_
    simp (maxSteps := 2000000) (disch := first | (simp only [E4] <;> omega) | omega | fail) only [↓E2, E3, bare, bareJ, ↓E0, E1, evP, evPlan, env0, envN, evOps, evOp, evQs, evQ, evV, setD, pureOp, ev, upd, updL, gate, binW, eqOp, binV, intOp, shOp, boolOp, unV, convV, nilV, fieldAddrV, indexAddrV, extractV, cellAt, cellsAt, findB, setB, fillL, buildV, Value.cells, lenV, minV, maxV, hav, sliceV, loV, hiV, bslQ, mksQ, appQ, partsOk, partsCells, delB, eqL, SameI, strOp, apzQ, cvtQ, capV, ↓reduceIte, Zj, Zk, Nat.reduceAdd, Nat.reduceLT, Nat.reduceEqDiff, Nat.reduceMul, Nat.reduceLeDiff, if_true, Zn, reduceCtorEq, ZA, eq_self, Int.reduceLE, Int.reduceLT, Int.reduceToNat, ne_eq, Nat.reduceSub]
    repeat refine And.intro (by omega) ?_
    intro g
    simp only [List.map_cons, List.map_nil, updL, upd, Nat.reduceEqDiff, if_true, if_false, ↓reduceIte]
    refine hK _ _ ?_; clear hK K
    refine Cd.ret ?_
    simp (maxSteps := 2000000) (disch := first | (simp only [E4] <;> omega) | omega | fail) only [↓E2, E3, bare, bareJ, ↓E0, E1, evP, evPlan, env0, envN, evOps, evOp, evQs, evQ, evV, setD, pureOp, ev, upd, updL, gate, binW, eqOp, binV, intOp, shOp, boolOp, unV, convV, nilV, fieldAddrV, indexAddrV, extractV, cellAt, cellsAt, findB, setB, fillL, buildV, Value.cells, lenV, minV, maxV, hav, sliceV, loV, hiV, bslQ, mksQ, appQ, partsOk, partsCells, delB, eqL, SameI, strOp, apzQ, cvtQ, capV, ↓reduceIte, Zj, Zk, Nat.reduceAdd, Nat.reduceLT, Nat.reduceEqDiff, Nat.reduceMul, Nat.reduceLeDiff, if_true, Zn, reduceCtorEq, ZA, eq_self, Int.reduceLE, Int.reduceLT, Int.reduceToNat, ne_eq, Nat.reduceSub]
    rw [List.take_of_length_le (Nat.le_refl _)]

end Go.Proofs

/-
  What the functions of this part hand back: each as a plain function of its arguments. Conditions: none.
-/
namespace Go.Proofs
open Go.W8
set_option linter.unusedVariables false
set_option linter.unusedSimpArgs false
set_option linter.unusedSectionVars false
set_option maxRecDepth 8000
set_option maxHeartbeats 4000000
/-- Rows of three: a column, a row and a sign each. -/
def Trip (n : Nat) (l : List Int) (m : Nat) : Prop := l.length = m * 3 ∧ ∀ k, k < m → ∃ i r : Nat, i < n ∧ r < n ∧ l.getD (k * 3) 0 = (i : Int) ∧ l.getD (k * 3 + 1) 0 = (r : Int) ∧ (l.getD (k * 3 + 2) 0 = 1 ∨ l.getD (k * 3 + 2) 0 = -1)
theorem getD_app {l l' : List Int} {i : Nat} : (l ++ l').getD i 0 = if i < l.length then l.getD i 0 else l'.getD (i - l.length) 0 := by
  rw [List.getD_eq_getElem?_getD]
  split
  · rename_i h
    rw [List.getElem?_append_left h, ← List.getD_eq_getElem?_getD]
  · rename_i h
    rw [List.getElem?_append_right (by omega), ← List.getD_eq_getElem?_getD]
theorem Trip.append {n : Nat} {l l' : List Int} {m m' : Nat} (h : Trip n l m) (h' : Trip n l' m') : Trip n (l ++ l') (m + m') := by
  refine ⟨by rw [List.length_append, h.1, h'.1]; omega, fun k hk => ?_⟩
  rw [getD_app, getD_app, getD_app, h.1]
  by_cases hkm : k < m
  · rw [if_pos (by omega), if_pos (by omega), if_pos (by omega)]
    exact h.2 k hkm
  · rw [if_neg (by omega), if_neg (by omega), if_neg (by omega)]
    have := h'.2 (k - m) (by omega)
    rw [show k * 3 - m * 3 = (k - m) * 3 by omega, show k * 3 + 1 - m * 3 = (k - m) * 3 + 1 by omega, show k * 3 + 2 - m * 3 = (k - m) * 3 + 2 by omega]
    exact this
theorem crRow_trip (n : Nat) (x o : List Int) (i : Nat) (hi : i < n) : ∀ r, r ≤ n → ∃ m, m ≤ r ∧ Trip n (crRow n x o i r) m
  | 0, _ => ⟨0, Nat.le_refl _, rfl, fun k hk => absurd hk (Nat.not_lt_zero _)⟩
  | r + 1, hr => by
    obtain ⟨m, h1, h2⟩ := crRow_trip n x o i hi r (by omega)
    by_cases h : crossS n x o i r = 0
    · refine ⟨m, by omega, ?_⟩
      show Trip n (crRow n x o i r ++ if crossS n x o i r = 0 then [] else _) m
      rw [if_pos h, List.append_nil]
      exact h2
    · refine ⟨m + 1, by omega, ?_⟩
      show Trip n (crRow n x o i r ++ if crossS n x o i r = 0 then [] else _) (m + 1)
      rw [if_neg h]
      refine h2.append ⟨rfl, fun k hk => ⟨i, r, hi, by omega, ?_, ?_, ?_⟩⟩
      · obtain rfl : k = 0 := by omega
        rfl
      · obtain rfl : k = 0 := by omega
        rfl
      · obtain rfl : k = 0 := by omega
        exact (crossS_cases n x o i r).resolve_left h
theorem crTo_trip (n : Nat) (x o : List Int) : ∀ i, i ≤ n → ∃ m, m ≤ n * i ∧ Trip n (crTo n x o i) m
  | 0, _ => ⟨0, Nat.zero_le _, rfl, fun k hk => absurd hk (Nat.not_lt_zero _)⟩
  | i + 1, hi => by
    obtain ⟨m, h1, h2⟩ := crTo_trip n x o i (by omega)
    obtain ⟨m', h3, h4⟩ := crRow_trip n x o i (by omega) n (Nat.le_refl _)
    exact ⟨m + m', by rw [Nat.mul_succ]; omega, h2.append h4⟩
/-- The sums of the signs of the first k crossings, by two numbers of each. -/
def lkS (A B : Nat → Nat) (l : List Int) : Nat → Nat → Nat → Int
  | 0, _, _ => 0
  | k + 1, a, b => lkS A B l k a b + if A k = a ∧ B k = b then l.getD (k * 3 + 2) 0 else 0
def lkE (A B : Nat → Nat) (l : List Int) (k a b : Nat) : Int := if a = b then lkS A B l k a b else lkS A B l k a b + lkS A B l k b a
def lkF (A B : Nat → Nat) (l : List Int) (k a b : Nat) : Int := if a = b then lkS A B l k a b else (lkS A B l k a b + lkS A B l k b a).tdiv 2
/-- A square table. -/
def gtab (c : Nat) (F : Nat → Nat → Int) : List (List Int) := (List.range c).map fun a => (List.range c).map fun b => F a b
def grow (c : Nat) (F : Nat → Nat → Int) (a : Nat) : List Int := (List.range c).map fun b => F a b
section
variable {c a b : Nat} {F G : Nat → Nat → Int}
end
section
variable {A B : Nat → Nat} {l : List Int} {k c : Nat}
/-- Halved up to a place. -/
def lkH (A B : Nat → Nat) (l : List Int) (m p q : Nat) : Nat → Nat → Int := fun a b => if a < p ∨ (a = p ∧ b < q) then lkF A B l m a b else lkE A B l m a b
end
/-- The components of a crossing's column and of its row's X. -/
def lkA (n : Nat) (x o : List Int) (k : Nat) : Nat := ((comps n x o).1.getD ((crTo n x o n).getD (k * 3) 0).toNat 0).toNat
def lkB (n : Nat) (x o : List Int) (k : Nat) : Nat := ((comps n x o).1.getD (rowOf x n ((crTo n x o n).getD (k * 3 + 1) 0)) 0).toNat
def lkTab (n : Nat) (x o : List Int) : List (List Int) := gtab (comps n x o).2 (lkF (lkA n x o) (lkB n x o) (crTo n x o n) ((crTo n x o n).length / 3))

end Go.Proofs

/-
  What the functions of this part hand back: each as a plain function of its arguments. Conditions: none.
-/
namespace Go.Proofs
open Go.W8
set_option linter.unusedVariables false
set_option linter.unusedSimpArgs false
set_option linter.unusedSectionVars false
set_option maxRecDepth 8000
set_option maxHeartbeats 4000000
/-- The numbers other than 0 among the first ones. -/
def fz (F : Nat → Int) : Nat → List Int
  | 0 => []
  | k + 1 => fz F k ++ if F k = 0 then [] else [F k]
/-- The same from the last one down. -/
def fzr (F : Nat → Int) (n : Nat) : Nat → List Int
  | 0 => []
  | d + 1 => fzr F n d ++ if F (n - d - 1) = 0 then [] else [F (n - d - 1)]
theorem fz_nil {F : Nat → Int} : ∀ k, (∀ j, j < k → F j = 0) → fz F k = []
  | 0, _ => rfl
  | k + 1, h => by
    show fz F k ++ (if F k = 0 then [] else [F k]) = []
    rw [fz_nil k fun j hj => h j (by omega), if_pos (h k (by omega))]; rfl
theorem fz_end {F : Nat → Int} {b : Nat} : ∀ n, b ≤ n → (∀ j, b ≤ j → j < n → F j = 0) → fz F n = fz F b
  | 0, hb, _ => by rw [show b = 0 by omega]
  | n + 1, hb, h => by
    rcases Nat.lt_or_ge n b with h1 | h1
    · rw [show b = n + 1 by omega]
    · show fz F n ++ (if F n = 0 then [] else [F n]) = _
      rw [if_pos (h n h1 (by omega)), List.append_nil]
      exact fz_end n h1 fun j hj hj' => h j hj (by omega)
theorem fzr_rev {F : Nat → Int} {n : Nat} : ∀ d, d ≤ n → fzr F n d ++ (fz F (n - d)).reverse = (fz F n).reverse
  | 0, _ => rfl
  | d + 1, h => by
    rw [← fzr_rev (F := F) (n := n) d (by omega), show n - d = (n - (d + 1)) + 1 by omega]
    show (fzr F n d ++ (if F (n - d - 1) = 0 then [] else [F (n - d - 1)])) ++ _ = fzr F n d ++ (fz F (n - (d + 1)) ++ if F (n - (d + 1)) = 0 then [] else [F (n - (d + 1))]).reverse
    rw [show n - d - 1 = n - (d + 1) by omega]
    split <;> simp
theorem fzr_nil {F : Nat → Int} {n : Nat} : ∀ d, (∀ j, n - d ≤ j → j < n → F j = 0) → d ≤ n → fzr F n d = []
  | 0, _, _ => rfl
  | d + 1, h, hd => by
    show fzr F n d ++ (if F (n - d - 1) = 0 then [] else [F (n - d - 1)]) = []
    rw [fzr_nil d (fun j hj hj' => h j (by omega) hj') (by omega), if_pos (h (n - d - 1) (by omega) (by omega))]; rfl
theorem fz_len {F : Nat → Int} : ∀ k, (fz F k).length ≤ k
  | 0 => Nat.le_refl _
  | k + 1 => by
    show (fz F k ++ (if F k = 0 then [] else [F k])).length ≤ _
    have := fz_len (F := F) k
    split <;> simp <;> omega
/-- The number of the first crossing in a column and a row. -/
def numT (T : List Int) (i r : Int) : Nat → Int
  | 0 => 0
  | k + 1 => if numT T i r k = 0 then (if T.getD (k * 3) 0 = i ∧ T.getD (k * 3 + 1) 0 = r then (k : Int) + 1 else 0) else numT T i r k
def dnT (T : List Int) (i : Int) : Nat → List Int
  | 0 => []
  | k + 1 => dnT T i k ++ if T.getD (k * 3) 0 = i then [(k : Int) + 1] else []
def acT (T : List Int) (r : Int) : Nat → List Int
  | 0 => []
  | k + 1 => acT T r k ++ if T.getD (k * 3 + 1) 0 = r then [-((k : Int) + 1)] else []
section
variable (n : Nat) (x o : List Int)
def cR (i : Nat) : Nat → Nat
  | 0 => 0
  | r + 1 => cR i r + if crossS n x o i r = 0 then 0 else 1
def cC : Nat → Nat
  | 0 => 0
  | i + 1 => cC i + cR n x o i n
def nm (i r : Nat) : Int := if crossS n x o i r = 0 then 0 else ((cC n x o i + cR n x o i r : Nat) : Int) + 1
theorem cR_len (i : Nat) : ∀ r, (crRow n x o i r).length = cR n x o i r * 3
  | 0 => rfl
  | r + 1 => by
    show (crRow n x o i r ++ if crossS n x o i r = 0 then [] else [(i : Int), (r : Int), crossS n x o i r]).length = (cR n x o i r + if crossS n x o i r = 0 then 0 else 1) * 3
    rw [List.length_append, cR_len i r]
    split <;> simp <;> omega
theorem cC_len : ∀ i, (crTo n x o i).length = cC n x o i * 3
  | 0 => rfl
  | i + 1 => by
    show (crTo n x o i ++ crRow n x o i n).length = (cC n x o i + cR n x o i n) * 3
    rw [List.length_append, cC_len i, cR_len]; omega
theorem crRow_pre (i : Nat) {r : Nat} : ∀ s, r ≤ s → crRow n x o i r <+: crRow n x o i s
  | 0, h => by rw [show r = 0 by omega]; exact List.prefix_refl _
  | s + 1, h => by
    rcases Nat.lt_or_ge s r with h1 | h1
    · rw [show r = s + 1 by omega]; exact List.prefix_refl _
    · exact (crRow_pre i s h1).trans (List.prefix_append _ _)
theorem crTo_pre {i : Nat} : ∀ j, i ≤ j → crTo n x o i <+: crTo n x o j
  | 0, h => by rw [show i = 0 by omega]; exact List.prefix_refl _
  | j + 1, h => by
    rcases Nat.lt_or_ge j i with h1 | h1
    · rw [show i = j + 1 by omega]; exact List.prefix_refl _
    · exact (crTo_pre j h1).trans (List.prefix_append _ _)
theorem pre_get {P T : List Int} (h : P <+: T) {k : Nat} (hk : k < P.length) : T.getD k 0 = P.getD k 0 := by
  obtain ⟨t, rfl⟩ := h
  rw [getD_app, if_pos hk]
theorem crTo_at {i r : Nat} (hi : i < n) (hr : r < n) (h : ¬ crossS n x o i r = 0) :
    (crTo n x o n).getD ((cC n x o i + cR n x o i r) * 3) 0 = (i : Int) ∧ (crTo n x o n).getD ((cC n x o i + cR n x o i r) * 3 + 1) 0 = (r : Int) := by
  have hp : (crTo n x o i ++ crRow n x o i (r + 1)) <+: crTo n x o n := by
    refine List.IsPrefix.trans ?_ (crTo_pre n x o (i := i + 1) n (by omega))
    show _ <+: crTo n x o i ++ crRow n x o i n
    exact (List.prefix_append_right_inj _).2 (crRow_pre n x o i n (by omega))
  have e : crTo n x o i ++ crRow n x o i (r + 1) = (crTo n x o i ++ crRow n x o i r) ++ [(i : Int), (r : Int), crossS n x o i r] := by
    show crTo n x o i ++ (crRow n x o i r ++ if crossS n x o i r = 0 then [] else _) = _
    rw [if_neg h, List.append_assoc]
  have hl : (crTo n x o i ++ crRow n x o i r).length = (cC n x o i + cR n x o i r) * 3 := by
    rw [List.length_append, cC_len, cR_len]; omega
  rw [e] at hp
  have hl2 : ((crTo n x o i ++ crRow n x o i r) ++ [(i : Int), (r : Int), crossS n x o i r]).length = (cC n x o i + cR n x o i r) * 3 + 3 := by
    rw [List.length_append, hl]; rfl
  constructor
  · rw [pre_get hp (by omega), getD_app, hl, if_neg (by omega), Nat.sub_self]; rfl
  · rw [pre_get hp (by omega), getD_app, hl, if_neg (by omega), Nat.add_sub_cancel_left]; rfl
theorem num_stage (i0 r0 : Nat) (h0 : r0 < n) : ∀ i, i < n → ∀ r, r ≤ n → numT (crTo n x o n) i0 r0 (cC n x o i + cR n x o i r) = if (i0 < i ∨ i0 = i ∧ r0 < r) then nm n x o i0 r0 else 0 := by
  intro i
  induction i with
  | zero =>
    intro hi r
    induction r with
    | zero => intro _; rw [if_neg (by omega)]; rfl
    | succ r ih =>
      intro hr
      exact num_step i0 r0 0 r hi (by omega) (ih (by omega))
  | succ i ihi =>
    intro hi r
    induction r with
    | zero =>
      intro _
      have := ihi (by omega) n (Nat.le_refl _)
      show numT _ _ _ (cC n x o i + cR n x o i n + 0) = _
      rw [Nat.add_zero, this]
      by_cases hc : i0 < i ∨ i0 = i ∧ r0 < n
      · rw [if_pos hc, if_pos (by omega)]
      · rw [if_neg hc, if_neg (by omega)]
    | succ r ih =>
      intro hr
      exact num_step i0 r0 (i + 1) r hi (by omega) (ih (by omega))
where
  num_step (i0 r0 i r : Nat) (hi : i < n) (hr : r < n) (ih : numT (crTo n x o n) i0 r0 (cC n x o i + cR n x o i r) = if (i0 < i ∨ i0 = i ∧ r0 < r) then nm n x o i0 r0 else 0) :
      numT (crTo n x o n) i0 r0 (cC n x o i + cR n x o i (r + 1)) = if (i0 < i ∨ i0 = i ∧ r0 < r + 1) then nm n x o i0 r0 else 0 := by
    show numT _ _ _ (cC n x o i + (cR n x o i r + if crossS n x o i r = 0 then 0 else 1)) = _
    by_cases h : crossS n x o i r = 0
    · rw [if_pos h, Nat.add_zero, ih]
      by_cases e : i0 = i ∧ r0 = r
      · obtain ⟨rfl, rfl⟩ := e
        rw [if_neg (show ¬ (i0 < i0 ∨ i0 = i0 ∧ r0 < r0) by omega), if_pos (show i0 < i0 ∨ i0 = i0 ∧ r0 < r0 + 1 by omega)]
        unfold nm
        rw [if_pos h]
      · by_cases hc : i0 < i ∨ i0 = i ∧ r0 < r
        · rw [if_pos hc, if_pos (by omega)]
        · rw [if_neg hc, if_neg (by omega)]
    · rw [if_neg h, ← Nat.add_assoc]
      obtain ⟨a1, a2⟩ := crTo_at n x o hi hr h
      show (if numT _ _ _ (cC n x o i + cR n x o i r) = 0 then _ else _) = _
      rw [a1, a2, ih]
      by_cases e : i0 = i ∧ r0 = r
      · obtain ⟨rfl, rfl⟩ := e
        rw [if_neg (show ¬ (i0 < i0 ∨ i0 = i0 ∧ r0 < r0) by omega), if_pos rfl, if_pos ⟨rfl, rfl⟩, if_pos (show i0 < i0 ∨ i0 = i0 ∧ r0 < r0 + 1 by omega)]
        unfold nm
        rw [if_neg h]
      · by_cases hc : i0 < i ∨ i0 = i ∧ r0 < r
        · rw [if_pos hc, if_pos (by omega : i0 < i ∨ i0 = i ∧ r0 < r + 1)]
          by_cases hz : nm n x o i0 r0 = 0
          · rw [if_pos hz, if_neg (by omega), hz]
          · rw [if_neg hz]
        · rw [if_neg hc, if_pos rfl, if_neg (by omega), if_neg (by omega)]
theorem dn_stage (i0 : Nat) : ∀ i, i < n → ∀ r, r ≤ n → dnT (crTo n x o n) i0 (cC n x o i + cR n x o i r) = if i0 < i then fz (nm n x o i0) n else if i0 = i then fz (nm n x o i0) r else [] := by
  have step : ∀ i r, i < n → r < n → dnT (crTo n x o n) i0 (cC n x o i + cR n x o i r) = (if i0 < i then fz (nm n x o i0) n else if i0 = i then fz (nm n x o i0) r else []) →
      dnT (crTo n x o n) i0 (cC n x o i + cR n x o i (r + 1)) = if i0 < i then fz (nm n x o i0) n else if i0 = i then fz (nm n x o i0) (r + 1) else [] := by
    intro i r hi hr ih
    show dnT _ _ (cC n x o i + (cR n x o i r + if crossS n x o i r = 0 then 0 else 1)) = if _ then _ else if _ then fz (nm n x o i0) r ++ (if nm n x o i0 r = 0 then [] else [nm n x o i0 r]) else _
    by_cases h : crossS n x o i r = 0
    · rw [if_pos h, Nat.add_zero, ih]
      by_cases h1 : i0 < i
      · rw [if_pos h1, if_pos h1]
      · rw [if_neg h1, if_neg h1]
        by_cases e : i0 = i
        · subst e
          rw [if_pos rfl, if_pos rfl, if_pos (show nm n x o i0 r = 0 by unfold nm; rw [if_pos h]), List.append_nil]
        · rw [if_neg e, if_neg e]
    · rw [if_neg h, ← Nat.add_assoc]
      obtain ⟨a1, a2⟩ := crTo_at n x o hi hr h
      show dnT _ _ (cC n x o i + cR n x o i r) ++ _ = _
      rw [a1, ih]
      by_cases h1 : i0 < i
      · rw [if_pos h1, if_pos h1, if_neg (by omega), List.append_nil]
      · rw [if_neg h1, if_neg h1]
        by_cases e : i0 = i
        · subst e
          have hn0 : nm n x o i0 r = ((cC n x o i0 + cR n x o i0 r : Nat) : Int) + 1 := by unfold nm; rw [if_neg h]
          rw [if_pos rfl, if_pos rfl, if_pos rfl, hn0, if_neg (by omega)]
        · rw [if_neg e, if_neg e, if_neg (by omega)]; rfl
  intro i
  induction i with
  | zero =>
    intro hi r
    induction r with
    | zero =>
      intro _
      rw [if_neg (by omega)]
      show [] = _
      split <;> rfl
    | succ r ih => intro hr; exact step 0 r hi (by omega) (ih (by omega))
  | succ i ihi =>
    intro hi r
    induction r with
    | zero =>
      intro _
      have := ihi (by omega) n (Nat.le_refl _)
      show dnT _ _ (cC n x o i + cR n x o i n + 0) = _
      rw [Nat.add_zero, this]
      by_cases h1 : i0 < i
      · rw [if_pos h1, if_pos (by omega)]
      · rw [if_neg h1]
        by_cases e : i0 = i
        · rw [if_pos e, if_pos (by omega)]
        · rw [if_neg e, if_neg (by omega)]
          split <;> rfl
    | succ r ih => intro hr; exact step (i + 1) r hi (by omega) (ih (by omega))
theorem ac_stage (r0 : Nat) (h0 : r0 < n) : ∀ i, i < n → ∀ r, r ≤ n → acT (crTo n x o n) r0 (cC n x o i + cR n x o i r) = fz (fun j => -nm n x o j r0) (if r0 < r then i + 1 else i) := by
  have step : ∀ i r, i < n → r < n → acT (crTo n x o n) r0 (cC n x o i + cR n x o i r) = fz (fun j => -nm n x o j r0) (if r0 < r then i + 1 else i) →
      acT (crTo n x o n) r0 (cC n x o i + cR n x o i (r + 1)) = fz (fun j => -nm n x o j r0) (if r0 < r + 1 then i + 1 else i) := by
    intro i r hi hr ih
    show acT _ _ (cC n x o i + (cR n x o i r + if crossS n x o i r = 0 then 0 else 1)) = _
    by_cases h : crossS n x o i r = 0
    · rw [if_pos h, Nat.add_zero, ih]
      by_cases e : r0 = r
      · subst e
        rw [if_neg (show ¬ r0 < r0 by omega), if_pos (show r0 < r0 + 1 by omega)]
        show _ = fz _ i ++ (if -nm n x o i r0 = 0 then [] else _)
        rw [if_pos (show -nm n x o i r0 = 0 by unfold nm; rw [if_pos h]; rfl), List.append_nil]
      · by_cases hc : r0 < r
        · rw [if_pos hc, if_pos (by omega)]
        · rw [if_neg hc, if_neg (by omega)]
    · rw [if_neg h, ← Nat.add_assoc]
      obtain ⟨a1, a2⟩ := crTo_at n x o hi hr h
      show acT _ _ (cC n x o i + cR n x o i r) ++ _ = _
      rw [a2, ih]
      by_cases e : r0 = r
      · subst e
        have hn0 : nm n x o i r0 = ((cC n x o i + cR n x o i r0 : Nat) : Int) + 1 := by unfold nm; rw [if_neg h]
        rw [if_neg (show ¬ r0 < r0 by omega), if_pos rfl, if_pos (show r0 < r0 + 1 by omega)]
        show _ = fz _ i ++ (if -nm n x o i r0 = 0 then [] else [-nm n x o i r0])
        rw [hn0, if_neg (by omega)]
      · rw [if_neg (show ¬ ((r : Int) = (r0 : Int)) by omega), List.append_nil]
        by_cases hc : r0 < r
        · rw [if_pos hc, if_pos (by omega)]
        · rw [if_neg hc, if_neg (by omega)]
  intro i
  induction i with
  | zero =>
    intro hi r
    induction r with
    | zero => intro _; rfl
    | succ r ih => intro hr; exact step 0 r hi (by omega) (ih (by omega))
  | succ i ihi =>
    intro hi r
    induction r with
    | zero =>
      intro _
      have := ihi (by omega) n (Nat.le_refl _)
      show acT _ _ (cC n x o i + cR n x o i n + 0) = _
      rw [Nat.add_zero, this, if_pos h0, if_neg (by omega)]
    | succ r ih => intro hr; exact step (i + 1) r hi (by omega) (ih (by omega))
end
section
variable {n : Nat} {x o : List Int}
theorem num_all {i0 r0 : Nat} (hi : i0 < n) (hr : r0 < n) : numT (crTo n x o n) i0 r0 (cC n x o n) = nm n x o i0 r0 := by
  obtain ⟨m, rfl⟩ : ∃ m, n = m + 1 := ⟨n - 1, by omega⟩
  have := num_stage (m + 1) x o i0 r0 hr m (by omega) (m + 1) (Nat.le_refl _)
  rw [if_pos (by omega)] at this
  exact this
theorem dn_all {i0 : Nat} (hi : i0 < n) : dnT (crTo n x o n) i0 (cC n x o n) = fz (nm n x o i0) n := by
  obtain ⟨m, rfl⟩ : ∃ m, n = m + 1 := ⟨n - 1, by omega⟩
  have := dn_stage (m + 1) x o i0 m (by omega) (m + 1) (Nat.le_refl _)
  by_cases h : i0 < m
  · rw [if_pos h] at this; exact this
  · rw [if_neg h, if_pos (by omega)] at this; exact this
theorem ac_all {r0 : Nat} (hr : r0 < n) : acT (crTo n x o n) r0 (cC n x o n) = fz (fun j => -nm n x o j r0) n := by
  obtain ⟨m, rfl⟩ : ∃ m, n = m + 1 := ⟨n - 1, by omega⟩
  have := ac_stage (m + 1) x o r0 hr m (by omega) (m + 1) (Nat.le_refl _)
  rw [if_pos hr] at this
  exact this
theorem nm_zero {i r : Nat} (h : betw (r : Int) (x.getD i 0) (o.getD i 0) = false) : nm n x o i r = 0 := by
  unfold nm crossS
  rw [h]; rfl
theorem nm_zero' {i r : Nat} (h : betw (i : Int) (rowOf x n (r : Int)) (rowOf o n (r : Int)) = false) : nm n x o i r = 0 := by
  unfold nm crossS
  rw [h, Bool.and_false]; rfl
end

end Go.Proofs

/-
  What the functions of this part hand back: each as a plain function of its arguments. Conditions: none.
-/
namespace Go.Proofs
open Go.W8
set_option linter.unusedVariables false
set_option linter.unusedSimpArgs false
set_option linter.unusedSectionVars false
set_option maxRecDepth 8000
set_option maxHeartbeats 4000000
/-- The columns that a walk labels. -/
def walkL (nx : Nat → Nat) (c : Int) : Nat → Nat → List Int → List Nat
  | 0, _, _ => []
  | f + 1, k, l => if l.getD k 0 < 0 then k :: walkL nx c f (nx k) (l.set k c) else []
/-- The walks from the columns ahead of i. -/
def wTo (nx : Nat → Nat) : Nat → List (List Nat)
  | 0 => []
  | i + 1 => if 0 ≤ (compTo nx i).1.getD i 0 then wTo nx i else wTo nx i ++ [walkL nx (compTo nx i).2 8 i (compTo nx i).1]
/-- A walk that ends where i0 is met again. -/
def Ch (nx : Nat → Nat) (n i0 : Nat) : Nat → List Nat → Prop
  | k, [] => k = i0
  | k, a :: W => a = k ∧ k < n ∧ (W ≠ [] → nx k ≠ i0) ∧ Ch nx n i0 (nx k) W
theorem walkL_nil {nx : Nat → Nat} {c : Int} {k : Nat} {l : List Int} (h : ¬ l.getD k 0 < 0) : ∀ f, walkL nx c f k l = []
  | 0 => rfl
  | f + 1 => by unfold walkL; rw [if_neg h]
theorem walkL_step {nx : Nat → Nat} {c : Int} {k f : Nat} {l : List Int} (h : l.getD k 0 < 0) : walkL nx c (f + 1) k l = k :: walkL nx c f (nx k) (l.set k c) := by
  show (if _ then _ else _) = _
  rw [if_pos h]
theorem walkL_len {nx : Nat → Nat} {c : Int} : ∀ (f k : Nat) (l : List Int), (walkL nx c f k l).length ≤ f
  | 0, _, _ => Nat.le_refl _
  | f + 1, k, l => by
    unfold walkL
    split
    · have := walkL_len (nx := nx) (c := c) f (nx k) (l.set k c)
      simp; omega
    · exact Nat.zero_le _
theorem wTo_same {nx : Nat → Nat} {i : Nat} (h : 0 ≤ (compTo nx i).1.getD i 0) : wTo nx (i + 1) = wTo nx i := by
  show (if _ then _ else _) = _
  rw [if_pos h]
theorem wTo_more {nx : Nat → Nat} {i : Nat} (h : ¬ 0 ≤ (compTo nx i).1.getD i 0) : wTo nx (i + 1) = wTo nx i ++ [walkL nx (compTo nx i).2 8 i (compTo nx i).1] := by
  show (if _ then _ else _) = _
  rw [if_neg h]
theorem wTo_len (nx : Nat → Nat) : ∀ i, (wTo nx i).length = (compTo nx i).2
  | 0 => rfl
  | i + 1 => by
    by_cases h : 0 ≤ (compTo nx i).1.getD i 0
    · rw [wTo_same h, compTo_same h]; exact wTo_len nx i
    · rw [wTo_more h, compTo_more h, List.length_append, wTo_len nx i]; rfl
section
variable {nx : Nat → Nat} {n : Nat} (hlt : ∀ j, j < n → nx j < n) (hinj : ∀ j, j < n → ∀ k, k < n → nx j = nx k → j = k)
include hlt hinj
/-- A walk along columns of which none is labelled without the one ahead of it closes where it began. -/
theorem walk_ch {c : Int} (hc : 0 ≤ c) {i0 : Nat} : ∀ (f k : Nat) (l : List Int), negs l ≤ f → l.length = 8 → n ≤ 8 → k < n → (∀ j, j < n → 0 ≤ l.getD (nx j) 0 → 0 ≤ l.getD j 0 ∨ nx j = i0) →
    ((k = i0 ∧ l.getD k 0 < 0) ∨ (0 ≤ l.getD i0 0 ∧ (l.getD k 0 < 0 ∨ k = i0) ∧ ∃ p, p < n ∧ nx p = k ∧ 0 ≤ l.getD p 0)) →
    Ch nx n i0 k (walkL nx c f k l) ∧ (∀ j, j < n → 0 ≤ (walkC nx c f k l).getD (nx j) 0 → 0 ≤ (walkC nx c f k l).getD j 0) := by
  intro f
  induction f with
  | zero =>
    intro k l hng hl hn hk hcl hd
    have hng0 : negs l = 0 := by omega
    have hk0 : ¬ l.getD k 0 < 0 := fun h => by
      have := negs_pos (l := l) (k := k) (by omega) h
      omega
    rcases hd with ⟨_, h⟩ | ⟨h1, h2, p, hp, hpk, hpl⟩
    · exact absurd h hk0
    · have e : k = i0 := h2.resolve_left hk0
      refine ⟨e, fun j hj h => ?_⟩
      rcases hcl j hj h with h3 | h3
      · exact h3
      · have : j = p := hinj j hj p hp (by rw [h3, hpk, e])
        rw [this]; exact hpl
  | succ f ih =>
    intro k l hng hl hn hk hcl hd
    by_cases h : l.getD k 0 < 0
    · have hs := negs_set hc l k (by omega) h
      rw [walkL_step h, walkC_step h]
      have hset : ∀ j, (l.set k c).getD j 0 = if k = j then c else l.getD j 0 := fun j => cgetD_set (by omega)
      have hpre : k ≠ i0 → ∃ p, p < n ∧ nx p = k ∧ 0 ≤ l.getD p 0 := fun he => by
        rcases hd with ⟨h1, _⟩ | ⟨_, _, hp⟩
        · exact absurd h1 he
        · exact hp
      have hi0 : 0 ≤ (l.set k c).getD i0 0 := by
        rw [hset]
        split
        · exact hc
        · rename_i he
          rcases hd with ⟨h1, _⟩ | ⟨h1, _⟩
          · exact absurd h1 he
          · exact h1
      have hend : 0 ≤ (l.set k c).getD (nx k) 0 → nx k = i0 := fun h1 => by
        rw [hset] at h1
        by_cases e : k = nx k
        · by_cases e0 : k = i0
          · omega
          · obtain ⟨p, hp, hpk, hpl⟩ := hpre e0
            have := hinj p hp k hk (by rw [hpk]; exact e)
            rw [this] at hpl
            omega
        · rw [if_neg e] at h1
          rcases hcl k hk h1 with h2 | h2
          · omega
          · exact h2
      have hst : (l.set k c).getD (nx k) 0 < 0 ∨ nx k = i0 := by
        by_cases h1 : 0 ≤ (l.set k c).getD (nx k) 0
        · exact .inr (hend h1)
        · exact .inl (by omega)
      have := ih (nx k) (l.set k c) (by omega) (by rw [List.length_set]; exact hl) hn (hlt k hk) (fun j hj h1 => by
          rw [hset] at h1
          rw [hset]
          by_cases e : k = nx j
          · by_cases e0 : k = i0
            · right; omega
            · left
              obtain ⟨p, hp, hpk, hpl⟩ := hpre e0
              have := hinj p hp j hj (by rw [hpk]; exact e)
              subst this
              split
              · exact hc
              · exact hpl
          · rw [if_neg e] at h1
            rcases hcl j hj h1 with h2 | h2
            · left
              split
              · exact hc
              · exact h2
            · right; exact h2) (.inr ⟨hi0, hst, k, hk, rfl, by rw [hset, if_pos rfl]; exact hc⟩)
      refine ⟨⟨rfl, hk, fun hW he => hW ?_, this.1⟩, this.2⟩
      refine walkL_nil ?_ f
      rw [he]; omega
    · rw [walkL_nil h, walkC_end h]
      rcases hd with ⟨_, h1⟩ | ⟨h1, h2, p, hp, hpk, hpl⟩
      · exact absurd h1 h
      · have e : k = i0 := h2.resolve_left h
        refine ⟨e, fun j hj h => ?_⟩
        rcases hcl j hj h with h3 | h3
        · exact h3
        · have : j = p := hinj j hj p hp (by rw [h3, hpk, e])
          rw [this]; exact hpl
theorem compTo_closed (hn : n ≤ 8) : ∀ i, i ≤ n → ∀ j, j < n → 0 ≤ (compTo nx i).1.getD (nx j) 0 → 0 ≤ (compTo nx i).1.getD j 0
  | 0, _, j, hj, h => by
    have hb := hlt j hj
    have : (compTo nx 0).1.getD (nx j) 0 = -1 := by
      show (List.replicate 8 (-1 : Int)).getD (nx j) 0 = -1
      rw [List.getD_eq_getElem?_getD, List.getElem?_replicate_of_lt (by omega)]; rfl
    omega
  | i + 1, hi, j, hj, h => by
    have ih := compTo_closed hn i (by omega)
    by_cases h0 : 0 ≤ (compTo nx i).1.getD i 0
    · rw [compTo_same h0] at h ⊢
      exact ih j hj h
    · rw [compTo_more h0] at h ⊢
      exact (walk_ch hlt hinj (c := ((compTo nx i).2 : Int)) (by omega) (i0 := i) 8 i (compTo nx i).1 (negs_le (compTo_len nx i)) (compTo_len nx i) hn (by omega) (fun j hj h => .inl (ih j hj h)) (.inl ⟨rfl, by omega⟩)).2 j hj h
theorem walk_at (hn : n ≤ 8) {i : Nat} (hi : i < n) (h0 : ¬ 0 ≤ (compTo nx i).1.getD i 0) : ∃ W, walkL nx (compTo nx i).2 8 i (compTo nx i).1 = i :: W ∧ Ch nx n i i (i :: W) := by
  have h := (walk_ch hlt hinj (c := ((compTo nx i).2 : Int)) (by omega) (i0 := i) 8 i (compTo nx i).1 (negs_le (compTo_len nx i)) (compTo_len nx i) hn hi (fun j hj h => .inl (compTo_closed hlt hinj hn i (by omega) j hj h)) (.inl ⟨rfl, by omega⟩)).1
  rw [walkL_step (by omega)] at h ⊢
  exact ⟨_, rfl, h⟩
/-- The reference's way to a component: the first column with its label. -/
theorem comp_start (hn : n ≤ 8) : ∀ m, m ≤ n → ∀ c, c < (compTo nx m).2 → ∃ i, i < m ∧ (compTo nx m).1.getD i 0 = (c : Int) ∧ (∀ j, j < i → (compTo nx m).1.getD j 0 ≠ (c : Int)) ∧ ∃ W, (wTo nx m)[c]? = some (i :: W) ∧ Ch nx n i i (i :: W)
  | 0, _, c, hc => absurd hc (Nat.not_lt_zero _)
  | m + 1, hm, c, hc => by
    have ih := comp_start hn m (by omega)
    by_cases h0 : 0 ≤ (compTo nx m).1.getD m 0
    · rw [compTo_same h0] at hc ⊢
      rw [wTo_same h0]
      obtain ⟨i, h1, h2⟩ := ih c hc
      exact ⟨i, by omega, h2⟩
    · have hold : ∀ j, j < m → (compTo nx (m + 1)).1.getD j 0 = (compTo nx m).1.getD j 0 := fun j hj => by
        rw [compTo_more h0]
        rcases walkC_get (nx := nx) (c := ((compTo nx m).2 : Int)) (by omega) 8 m (compTo nx m).1 j with h | ⟨_, h⟩
        · exact h
        · have := compTo_done nx m (by omega) j hj
          omega
      have hself : (compTo nx (m + 1)).1.getD m 0 = ((compTo nx m).2 : Int) := by
        rw [compTo_more h0]
        exact walkC_self (by omega) (by rw [compTo_len]; omega) (by omega)
      have hcnt : (compTo nx (m + 1)).2 = (compTo nx m).2 + 1 := by rw [compTo_more h0]
      rw [wTo_more h0]
      by_cases hcm : c < (compTo nx m).2
      · obtain ⟨i, h1, h2, h3, W, h4, h5⟩ := ih c hcm
        refine ⟨i, by omega, by rw [hold i h1]; exact h2, fun j hj => by rw [hold j (by omega)]; exact h3 j hj, W, ?_, h5⟩
        rw [List.getElem?_append_left (by rw [wTo_len]; exact hcm)]
        exact h4
      · have e : c = (compTo nx m).2 := by omega
        subst e
        obtain ⟨W, hW, hCh⟩ := walk_at hlt hinj hn (i := m) (by omega) h0
        refine ⟨m, by omega, hself, fun j hj => ?_, W, ?_, hCh⟩
        · rw [hold j hj]
          have := compTo_bound nx m j (by omega)
          omega
        · rw [List.getElem?_append_right (by rw [wTo_len]; exact Nat.le_refl _), wTo_len, Nat.sub_self, hW]
          rfl
end
section
variable {n : Nat} {x o : List Int} (hx : Bytes8 x) (ho : Bytes8 o) (hn : n ≤ 8) (hp : IsPerm x n) (hq : IsPerm o n)
include hx ho hn hp hq
theorem nextOf_lt : ∀ j, j < n → nextOf n x o j < n := fun j hj => by
  have c2 := hq.1 j hj
  have c3 := bytes_get ho (i := j) (by omega)
  exact (rowOf_lt (fun i hi => (bytes_get hx (by omega)).1) hp c3.1 c2).1
theorem nextOf_inj : ∀ j, j < n → ∀ k, k < n → nextOf n x o j = nextOf n x o k → j = k := fun j hj k hk h => by
  have c2 := hq.1 j hj
  have c3 := bytes_get ho (i := j) (by omega)
  have d2 := hq.1 k hk
  have d3 := bytes_get ho (i := k) (by omega)
  have := rowOf_inj (fun i hi => (bytes_get hx (by omega)).1) hp c3.1 c2 d3.1 d2 h
  rcases Nat.lt_trichotomy j k with h2 | h2 | h2
  · exact absurd this (hq.2.1 k hk j h2)
  · exact h2
  · exact absurd this.symm (hq.2.1 j hj k h2)
end
/-- The numbers that a walk meets in a column and in the row of its O. -/
def cdL (n : Nat) (x o : List Int) (i : Nat) : List Int :=
  (if o.getD i 0 < x.getD i 0 then (fz (nm n x o i) n).reverse else fz (nm n x o i) n) ++
  (if nextOf n x o i < i then (fz (fun j => -nm n x o j (o.getD i 0).toNat) n).reverse else fz (fun j => -nm n x o j (o.getD i 0).toNat) n)
def cdW (n : Nat) (x o : List Int) : List Nat → List Int
  | [] => []
  | a :: W => cdL n x o a ++ cdW n x o W
def gaussL (n : Nat) (x o : List Int) : List (List Int) := (wTo (nextOf n x o) n).map (cdW n x o)
theorem cdL_len (n : Nat) (x o : List Int) (i : Nat) : (cdL n x o i).length ≤ 2 * n := by
  unfold cdL
  have h1 := fz_len (F := nm n x o i) n
  have h2 := fz_len (F := fun j => -nm n x o j (o.getD i 0).toNat) n
  rw [List.length_append]
  split <;> split <;> first | omega | (simp only [List.length_reverse]; omega)
theorem cdW_len (n : Nat) (x o : List Int) : ∀ W : List Nat, (cdW n x o W).length ≤ 2 * n * W.length
  | [] => Nat.le_refl _
  | a :: W => by
    have h1 := cdL_len n x o a
    have h2 := cdW_len n x o W
    show (cdL n x o a ++ cdW n x o W).length ≤ 2 * n * (W.length + 1)
    rw [List.length_append, Nat.mul_succ]
    omega
theorem cdW_app (n : Nat) (x o : List Int) : ∀ W V : List Nat, cdW n x o (W ++ V) = cdW n x o W ++ cdW n x o V
  | [], _ => rfl
  | a :: W, V => by
    show cdL n x o a ++ cdW n x o (W ++ V) = (cdL n x o a ++ cdW n x o W) ++ _
    rw [cdW_app n x o W V, List.append_assoc]
theorem wTo_each {nx : Nat → Nat} : ∀ i W, W ∈ wTo nx i → W.length ≤ 8
  | 0, _, h => by cases h
  | i + 1, W, h => by
    by_cases h0 : 0 ≤ (compTo nx i).1.getD i 0
    · rw [wTo_same h0] at h; exact wTo_each i W h
    · rw [wTo_more h0, List.mem_append] at h
      rcases h with h | h
      · exact wTo_each i W h
      · rw [List.mem_singleton] at h
        rw [h]; exact walkL_len 8 _ _

end Go.Proofs

/-
  What the functions of this part hand back: each as a plain function of its arguments. Conditions: none.
-/
namespace Go.Proofs
open Go.W8
set_option linter.unusedVariables false
set_option linter.unusedSimpArgs false
set_option linter.unusedSectionVars false
set_option maxRecDepth 8000
set_option maxHeartbeats 4000000
--@plain
/-- A coefficient that is allowed. -/
def coOk (c : Int) : Bool := decide (-1000000000000 ≤ c) && decide (c ≤ 1000000000000)
def lauOk (low : Int) (l : List Int) : Bool :=
  if l.length = 0 then decide (low = 0) else
    decide (l.length ≤ 2001) && (decide (-1000 ≤ low) && decide (low ≤ 1000)) && decide (low + l.length - 1 ≤ 1000) && !(l.getD 0 0 == 0) && !(l.getD (l.length - 1) 0 == 0) && l.all coOk
end Go.Proofs

/-
  What the functions of this part hand back: each as a plain function of its arguments. Conditions: none.
-/
namespace Go.Proofs
open Go.W8
set_option linter.unusedVariables false
set_option linter.unusedSimpArgs false
set_option linter.unusedSectionVars false
set_option maxRecDepth 8000
set_option maxHeartbeats 4000000
--@plain
/-- A row of numbers that is handed in. -/
def InS (R : Rd) (l : List Int) (v : Value) : Prop := ∃ a cap, v = .slice a l.length cap ∧ (l.length ≠ 0 → ∃ b o, a = some ⟨b, o, none⟩ ∧ (b, o, ints .i64 l) ∈ R)
theorem InS.get {W : List Nat} {w0 : World} {R : Rd} {l : List Int} {a : Option Addr} {m cap k : Nat} (h : InS R l (.slice a m cap)) (ht : W8.Told W w0 R) (hk : k < l.length) : ∃ b o, a = some ⟨b, o, none⟩ ∧ frn W w0 b (o + k) = some (.int .i64 (l.getD k 0)) := by
  obtain ⟨a', cap', e, h⟩ := h
  cases e
  obtain ⟨b, o, rfl, hm⟩ := h (by omega)
  exact ⟨b, o, rfl, ht _ hm k _ (ints_get hk)⟩
theorem InS.more {R R' : Rd} {l : List Int} {v : Value} (h : InS R l v) (hs : ∀ r ∈ R, r ∈ R') : InS R' l v := by
  obtain ⟨a, cap, rfl, h⟩ := h
  exact ⟨a, cap, rfl, fun hn => let ⟨b, o, e, hm⟩ := h hn; ⟨b, o, e, hs _ hm⟩⟩
theorem _root_.Go.W8.RdS.more {R R' : Rd} {w : Nat} {l : List Value} {v : Value} (h : RdS R w l v) (hs : ∀ r ∈ R, r ∈ R') : RdS R' w l v := by
  obtain ⟨a, m, cap, rfl, hl, h, h2⟩ := h
  exact ⟨a, m, cap, rfl, hl, (fun hn => let ⟨b, cs, e, hm, hr⟩ := h hn; ⟨b, cs, e, hs _ hm, hr⟩), h2⟩
theorem _root_.Go.W8.SlN.form {w : Nat} {l : List Value} {v : Value} {M : Blks} (h : SlN w l v M) : ∃ a m cap, v = .slice a m cap := by
  rcases h with ⟨_, rfl, _⟩ | ⟨b, m, cap, cs, rfl, _, _⟩
  · exact ⟨_, _, _, rfl⟩
  · exact ⟨_, _, _, rfl⟩
/-- A polynomial and the memory that it has for its own. -/
def LauV (low : Int) (l : List Int) (v : Value) (M : Blks) : Prop := ∃ s, v = .agg #[.int .i64 low, s] ∧ SlN 1 (ints .i64 l) s M
/-- A polynomial whose numbers stand in what is told. -/
def RdL (R : Rd) (low : Int) (l : List Int) (v : Value) : Prop := ∃ s, v = .agg #[.int .i64 low, s] ∧ RdS R 1 (ints .i64 l) s
theorem LauV.reads {low : Int} {l : List Int} {v : Value} {M : Blks} {R : Rd} (h : LauV low l v M) (hR : ∀ p ∈ M, (p.1, 0, p.2) ∈ R) : RdL R low l v := by
  obtain ⟨s, rfl, h⟩ := h
  exact ⟨s, rfl, h.reads hR⟩
theorem RdL.more {R R' : Rd} {low : Int} {l : List Int} {v : Value} (h : RdL R low l v) (hs : ∀ r ∈ R, r ∈ R') : RdL R' low l v := by
  obtain ⟨s, rfl, h⟩ := h
  exact ⟨s, rfl, h.more hs⟩
theorem told_ne {W : List Nat} {w0 : World} {M : Blks} {b1 b k : Nat} {v : Value} (h : Fresh w0 M b1) (g : frn W w0 b k = some v) : ¬ b1 = b := fun e => by
  have h1 := frn_lt g
  have h2 := h.1
  omega
/-- A row of numbers, from some place on. -/
def RdO (R : Rd) (l : List Int) (v : Value) : Prop :=
  (l = [] ∧ ∃ cap, v = .slice none 0 cap) ∨ ∃ b o cap, v = .slice (some ⟨b, o, none⟩) l.length cap ∧ (l = [] → o = 0) ∧ (l ≠ [] → (b, o, ints .i64 l) ∈ R)
end Go.Proofs

/-
  What the functions of this part hand back: each as a plain function of its arguments. Conditions: none.
-/
namespace Go.Proofs
open Go.W8
set_option linter.unusedVariables false
set_option linter.unusedSimpArgs false
set_option linter.unusedSectionVars false
set_option maxRecDepth 8000
set_option maxHeartbeats 4000000
--@plain
section
variable {P : Program} {N : Nat} {W : List Nat} {w0 : World} {ρ : Env} {M M' : Blks}
/-- A function that is lent L, hands it back as it was, and beside it new memory. -/
def keepQ (L : Blks) (rep : Value → Blks → Prop) (v : Value) (M' : Blks) : Prop := ∃ M1, (∀ p ∈ L, p ∈ M') ∧ (∀ p ∈ M1, p ∈ M') ∧ ((L ++ M1).map (·.1)).Nodup ∧ rep v M1
def GivesK (P : Program) (f : FuncId) (args : Array Value) (L : Blks) (rep : Value → Blks → Prop) : Prop := GivesX P f args L [] (keepQ L rep)
theorem keepQ.none {L : Blks} {rep : Value → Blks → Prop} {v : Value} {M' : Blks} (hL : (L.map (·.1)).Nodup) (h : ∀ p ∈ L, p ∈ M') (hr : rep v []) : keepQ L rep v M' := ⟨[], h, (fun _ hp => nomatch hp), by simpa using hL, hr⟩
theorem keepQ.behind {L A B : Blks} {rep : Value → Blks → Prop} {v : Value} {M' : Blks} (hL : (L.map (·.1)).Nodup) (hn : ((A ++ B).map (·.1)).Nodup) (h : ∀ p ∈ L, p ∈ A) (hM : M' = A ++ B) (hr : rep v B) : keepQ L rep v M' := by
  subst hM
  refine ⟨B, fun p hp => List.mem_append_left _ (h p hp), fun p hp => List.mem_append_right _ hp, ?_, hr⟩
  rw [List.map_append, List.nodup_append] at hn ⊢
  refine ⟨hL, hn.2.1, fun a ha b hb => hn.2.2 a ?_ b hb⟩
  obtain ⟨p, hp, rfl⟩ := List.mem_map.1 ha
  exact List.mem_map_of_mem (h p hp)
theorem mem_keys {p : Nat × List Value} (h : p ∈ M) : p.1 ∈ M.map (·.1) := List.mem_map_of_mem h
theorem key_eq {p q : Nat × List Value} (hn : (M.map (·.1)).Nodup) (hp : p ∈ M) (hq : q ∈ M) (e : p.1 = q.1) : p = q := by
  have h1 := findB_of (b := p.1) (cs := p.2) hn hp
  have h2 := findB_of (b := q.1) (cs := q.2) hn hq
  rw [e, h2] at h1
  exact Prod.ext e (Option.some.inj h1).symm
theorem GivesK.acall {f : FuncId} {args : Array Value} {L : Blks} {rep R' : Value → Blks → Prop} (h : GivesK P f args L rep) (hM : (M.map (·.1)).Nodup) (hL : ∀ p ∈ L, p ∈ M) (hn : (L.map (·.1)).Nodup)
    (hk : ∀ v M1, rep v M1 → ((M ++ M1).map (·.1)).Nodup → (∀ p ∈ M1, Fresh w0 M p.1) → R' v (M ++ M1)) : ACall P W w0 f args M R' := by
  refine ⟨h.1, fun w hw => (h.2 w hn (fun p hp => hw.blk p (hL p hp)) toldW_nil).mono ?_⟩
  rintro e w' ⟨v, M', rfl, hw', M1, h1, h2, h3, h4⟩
  have hs : (M.filter fun p => decide (p.1 ∉ L.map (·.1))).Sublist M := List.filter_sublist
  have ho := hw.thenL hL hs (fun p hp => by simpa using (List.mem_filter.1 hp).2) hw'
  have hf : ∀ p ∈ M1, Fresh w0 M p.1 := by
    intro p hp
    have hpL : p.1 ∉ L.map (·.1) := by
      intro hm
      rw [List.map_append, List.nodup_append] at h3
      exact h3.2.2 _ hm _ (mem_keys hp) rfl
    rcases hw'.own p (h2 p hp) with h5 | h5
    · exact absurd h5 hpL
    · exact ⟨Nat.le_trans hw.size h5, fun q hq => by have := hw.lt hq; omega⟩
  have hnn : ((M ++ M1).map (·.1)).Nodup := by
    rw [List.map_append, List.nodup_append] at h3 ⊢
    refine ⟨hM, h3.2.1, ?_⟩
    intro a ha b hb e
    subst e
    obtain ⟨p, hp, rfl⟩ := List.mem_map.1 hb
    obtain ⟨q, hq, e⟩ := List.mem_map.1 ha
    exact (hf p hp).2 q hq e.symm
  refine ⟨v, M ++ M1, rfl, ho.turn (fun p hp => ?_) hnn, hk v M1 h4 hnn hf⟩
  rcases List.mem_append.1 hp with hp | hp
  · by_cases hpL : p.1 ∈ L.map (·.1)
    · obtain ⟨q, hq, e⟩ := List.mem_map.1 hpL
      rw [← key_eq hM (hL q hq) hp e]
      exact List.mem_append_left _ (h1 q hq)
    · exact List.mem_append_right _ (List.mem_filter.2 ⟨hp, by simpa using hpL⟩)
  · exact List.mem_append_left _ (h2 p hp)
/-- A call that is lent something: what it hands back is told behind the rest. -/
theorem callK_lentB0 {n : FuncId} {args : List Value} {d : Option Tmp} {ops : Array Oper} {rest : List Oper} {L Mr : Blks} {R : Rd} {Post : Value → Blks → Prop} {K : Env → Blks → Prop} (h : GivesX P n args.toArray L R Post) (hM : ((Mr ++ L).map (·.1)).Nodup) (e : M = Mr ++ L)
    (hR : ∀ w, Own W w0 M w → ToldW w R)
    (hk : ∀ v M', Post v M' → ((Mr ++ M').map (·.1)).Nodup → (∀ p ∈ M', p.1 ∉ L.map (·.1) → Fresh w0 M p.1) → setD N ρ d v fun ρ' => evOps P N W w0 ops rest ρ' (Mr ++ M') K) : callK P N W w0 (.func (.func n) #[] #[]) args M d ρ ops rest K := by
  subst e
  unfold callK
  simp only [List.append_nil, List.nil_append]
  have hn := hM
  rw [List.map_append, List.nodup_append] at hn
  refine ⟨h.1, fun w hw => (h.2 w hn.2.1 (fun p hp => hw.blk p (List.mem_append_right _ hp)) (hR w hw)).mono ?_⟩
  rintro e w' ⟨v, M', rfl, hw', hp⟩
  have ho := hw.thenL (L := L) (Mr := Mr) (fun p hp => List.mem_append_right _ hp) (List.sublist_append_left _ _) (fun p hp hm => hn.2.2 _ (mem_keys hp) _ hm rfl) hw'
  have hper : (Mr ++ M').Perm (M' ++ Mr) := List.perm_append_comm
  have hnn := (hper.map (·.1)).nodup_iff.2 ho.nodup
  refine ⟨v, Mr ++ M', rfl, ho.turn (fun p hp => hper.subset hp) hnn, hk v M' hp hnn fun p hp hne => ?_⟩
  rcases hw'.own p hp with h1 | h1
  · exact absurd h1 hne
  · exact ⟨Nat.le_trans hw.size h1, fun q hq => by have := hw.lt hq; omega⟩
theorem Cd.newer {Q : Exit → Env → Blks → Prop} {c : Code} (h : (∀ p ∈ M, p.1 ∈ W ∨ w0.heap.size ≤ p.1) → Cd P N W w0 c Q ρ M) : Cd P N W w0 c Q ρ M := fun a w ha hw => h hw.own a w ha hw
theorem new_ne {bl bq j : Nat} {u : Value} (h : bl ∈ W ∨ w0.heap.size ≤ bl) (hW : ¬ bl ∈ W) (hg : frn W w0 bq j = some u) : ¬ bl = bq := by
  rcases h with h | h
  · exact absurd h hW
  · exact told_ne (M := []) ⟨h, fun _ hp => nomatch hp⟩ hg
theorem GivesX.acallB {f : FuncId} {args : Array Value} {L Mr : Blks} {R : Rd} {Post R' : Value → Blks → Prop} (h : GivesX P f args L R Post) (hM : ((Mr ++ L).map (·.1)).Nodup) (e : M = Mr ++ L)
    (hR : ∀ w, Own W w0 M w → ToldW w R)
    (hk : ∀ v M', Post v M' → ((Mr ++ M').map (·.1)).Nodup → (∀ p ∈ M', p.1 ∉ L.map (·.1) → Fresh w0 M p.1) → R' v (Mr ++ M')) : ACall P W w0 f args M R' := by
  subst e
  have hn := hM
  rw [List.map_append, List.nodup_append] at hn
  refine ⟨h.1, fun w hw => (h.2 w hn.2.1 (fun p hp => hw.blk p (List.mem_append_right _ hp)) (hR w hw)).mono ?_⟩
  rintro e w' ⟨v, M', rfl, hw', hp⟩
  have ho := hw.thenL (L := L) (Mr := Mr) (fun p hp => List.mem_append_right _ hp) (List.sublist_append_left _ _) (fun p hp hm => hn.2.2 _ (mem_keys hp) _ hm rfl) hw'
  have hper : (Mr ++ M').Perm (M' ++ Mr) := List.perm_append_comm
  have hnn := (hper.map (·.1)).nodup_iff.2 ho.nodup
  refine ⟨v, Mr ++ M', rfl, ho.turn (fun p hp => hper.subset hp) hnn, hk v M' hp hnn fun p hp hne => ?_⟩
  rcases hw'.own p hp with h1 | h1
  · exact absurd h1 hne
  · exact ⟨Nat.le_trans hw.size h1, fun q hq => by have := hw.lt hq; omega⟩
/-- .. of a function with captured places. -/
theorem callO_lentC {n : FuncId} {args cs : List Value} {d : Option Tmp} {ops : Array Oper} {p : Plan} {L Mr : Blks} {R : Rd} {Post : Value → Blks → Prop} {K : Env → Blks → Prop} (h : GivesX P n (args ++ cs).toArray L R Post) (hM : ((Mr ++ L).map (·.1)).Nodup) (e : M = Mr ++ L)
    (hR : ∀ w, Own W w0 M w → ToldW w R)
    (hk : ∀ v M', Post v M' → ((Mr ++ M').map (·.1)).Nodup → (∀ q ∈ M', q.1 ∉ L.map (·.1) → Fresh w0 M q.1) → setD N ρ d v fun ρ' => evPlan P N W w0 ops p ρ' (Mr ++ M') K) : callO P N W w0 (.func (.func n) #[] cs.toArray) args M d ρ ops p K := by
  unfold callO
  simp only [List.nil_append]
  exact GivesX.acallB h hM e hR hk
end

end Go.Proofs

/-
  What the functions of this part hand back: each as a plain function of its arguments. Conditions: none.
-/
namespace Go.Proofs
open Go.W8
set_option linter.unusedVariables false
set_option linter.unusedSimpArgs false
set_option linter.unusedSectionVars false
set_option maxRecDepth 8000
set_option maxHeartbeats 4000000
theorem numT_bound {T : List Int} {i r : Int} : ∀ k, 0 ≤ numT T i r k ∧ numT T i r k ≤ (k : Int)
  | 0 => by unfold numT; omega
  | k + 1 => by
    have := numT_bound (T := T) (i := i) (r := r) k
    unfold numT
    split
    · split <;> omega
    · omega
theorem numT_keep {T : List Int} {i r : Int} {k : Nat} (h : ¬ numT T i r k = 0) : ∀ m, k ≤ m → numT T i r m = numT T i r k
  | 0, hm => by rw [show k = 0 by omega]
  | m + 1, hm => by
    rcases Nat.lt_or_ge m k with h1 | h1
    · rw [show k = m + 1 by omega]
    · have := numT_keep h m h1
      show (if numT T i r m = 0 then _ else numT T i r m) = _
      rw [this, if_neg h]
theorem slN1 {l : List Int} {v : Value} {L : Blks} (h : SlN 1 (ints .i64 l) v L) : (l = [] ∧ v = .slice none 0 0 ∧ L = []) ∨ ∃ b cap cs, v = .slice (some ⟨b, 0, none⟩) l.length cap ∧ L = [(b, cs)] ∧ Row 1 (ints .i64 l) l.length cap cs := by
  rcases h with ⟨e, rfl, rfl⟩ | ⟨b, m, cap, cs, rfl, rfl, hr⟩
  · have := congrArg List.length e
    rw [ints_length] at this
    exact .inl ⟨List.eq_nil_of_length_eq_zero (by simpa using this), rfl, rfl⟩
  · have := hr.len1
    rw [ints_length] at this
    subst this
    exact .inr ⟨b, cap, cs, rfl, rfl, hr⟩
section
variable (T : List Int) (m : Nat) (hT : T.length = m * 3) (hm : m ≤ 64) (R : Rd) (v : Value) (h : RdS R 3 (ints .i64 T) v)
include hT hm h
theorem l03Number_c (i r : Int) (hi : 0 ≤ i ∧ i < 256) (hr : 0 ≤ r ∧ r < 256) : GivesR Try.prog 182 #[v, .int .i64 i, .int .i64 r] R (.int .i64 (numT T i r m)) := by
  obtain ⟨a, mm, cap, rfl, hl, _⟩ := id h
  obtain rfl : mm = m := by rw [ints_length] at hl; omega
  refine GivesR.of (callable_of Try.func182 rfl (by decide)) fun w hR => ?_
  refine acall_of (N := 32) (c := _) (rs := [.tmp 6]) (args := [_, _, _]) Try.func182 rfl (by decide) rfl rfl (Nat.le_of_ble_eq_true rfl) ?_
  refine Cd.rs [0, 1, 2] fun K hK => ?_
  simp (maxSteps := 2000000) (disch := first | (simp only [E4] <;> omega) | omega | fail) only [↓E2, E3, bare, bareJ, ↓E0, E1, evP, evPlan, env0, envN, evOps, evOp, evQs, evQ, evV, setD, pureOp, ev, upd, updL, gate, binW, eqOp, binV, intOp, shOp, boolOp, unV, convV, nilV, fieldAddrV, indexAddrV, extractV, cellAt, cellsAt, findB, setB, fillL, buildV, Value.cells, lenV, minV, maxV, hav, sliceV, loV, hiV, bslQ, mksQ, appQ, partsOk, partsCells, delB, eqL, SameI, strOp, apzQ, cvtQ, capV, ↓reduceIte, Zj, Zk, Nat.reduceAdd, Nat.reduceLT, Nat.reduceEqDiff, Nat.reduceMul, Nat.reduceLeDiff, if_true, Zn, reduceCtorEq, ZA, eq_self, Int.reduceLE, Int.reduceLT, Int.reduceToNat, ne_eq, Nat.reduceSub]
  repeat refine And.intro (by omega) ?_
  repeat refine And.intro (by omega) ?_
  intro g
  simp only [List.map_cons, List.map_nil, updL, upd, Nat.reduceEqDiff, if_true, if_false, ↓reduceIte]
  refine hK _ _ ?_; clear hK K
  refine Cd.seq ?_
  refine Cd.rs [0, 1, 2, 7] fun K hK => ?_
  simp (maxSteps := 2000000) (disch := first | (simp only [E4] <;> omega) | omega | fail) only [↓E2, E3, bare, bareJ, ↓E0, E1, evP, evPlan, env0, envN, evOps, evOp, evQs, evQ, evV, setD, pureOp, ev, upd, updL, gate, binW, eqOp, binV, intOp, shOp, boolOp, unV, convV, nilV, fieldAddrV, indexAddrV, extractV, cellAt, cellsAt, findB, setB, fillL, buildV, Value.cells, lenV, minV, maxV, hav, sliceV, loV, hiV, bslQ, mksQ, appQ, partsOk, partsCells, delB, eqL, SameI, strOp, apzQ, cvtQ, capV, ↓reduceIte, Zj, Zk, Nat.reduceAdd, Nat.reduceLT, Nat.reduceEqDiff, Nat.reduceMul, Nat.reduceLeDiff, if_true, Zn, reduceCtorEq, ZA, eq_self, Int.reduceLE, Int.reduceLT, Int.reduceToNat, ne_eq, Nat.reduceSub]
  repeat refine And.intro (by omega) ?_
  repeat refine And.intro (by omega) ?_
  intro g
  simp only [List.map_cons, List.map_nil, updL, upd, Nat.reduceEqDiff, if_true, if_false, ↓reduceIte]
  refine hK _ _ ?_; clear hK K
  refine Cd.block ?_
  refine Cd.loop (fun n ρ M => ∃ g k, k + n = mm ∧ numT T i r k = 0 ∧ ρ = updL [(0, .slice a mm cap), (1, .int .i64 i), (2, .int .i64 r), (7, .int .i64 (k : Int))] g ∧ M = []) mm ⟨_, 0, Nat.zero_add _, rfl, rfl, rfl⟩ ?_
  rintro n ρ M ⟨g, k, hk, hnum, rfl, rfl⟩
  refine Cd.seq ?_
  refine Cd.rs [0, 1, 2, 7, 11] fun K hK => ?_
  simp (maxSteps := 2000000) (disch := first | (simp only [E4] <;> omega) | omega | fail) only [↓E2, E3, bare, bareJ, ↓E0, E1, evP, evPlan, env0, envN, evOps, evOp, evQs, evQ, evV, setD, pureOp, ev, upd, updL, gate, binW, eqOp, binV, intOp, shOp, boolOp, unV, convV, nilV, fieldAddrV, indexAddrV, extractV, cellAt, cellsAt, findB, setB, fillL, buildV, Value.cells, lenV, minV, maxV, hav, sliceV, loV, hiV, bslQ, mksQ, appQ, partsOk, partsCells, delB, eqL, SameI, strOp, apzQ, cvtQ, capV, ↓reduceIte, Zj, Zk, Nat.reduceAdd, Nat.reduceLT, Nat.reduceEqDiff, Nat.reduceMul, Nat.reduceLeDiff, if_true, Zn, reduceCtorEq, ZA, eq_self, Int.reduceLE, Int.reduceLT, Int.reduceToNat, ne_eq, Nat.reduceSub, Tslce114]
  repeat refine And.intro (by omega) ?_
  repeat refine And.intro (by omega) ?_
  intro g
  simp only [List.map_cons, List.map_nil, updL, upd, Nat.reduceEqDiff, if_true, if_false, ↓reduceIte]
  refine hK _ _ ?_; clear hK K
  refine Cd.condd rfl (fun h1 => ?_) (fun h1 => ?_)
  · obtain ⟨b, rfl, q0⟩ := h.get hR (ints_get (l := T) (i := k * 3) (by omega))
    obtain ⟨b', e, q1⟩ := h.get hR (ints_get (l := T) (i := k * 3 + 1) (by omega))
    cases e
    have hs : numT T i r (k + 1) = if T.getD (k * 3) 0 = i ∧ T.getD (k * 3 + 1) 0 = r then (k : Int) + 1 else 0 := by
      show (if numT T i r k = 0 then _ else _) = _
      rw [if_pos hnum]
    generalize T.getD (k * 3) 0 = t0 at *
    generalize T.getD (k * 3 + 1) 0 = t1 at *
    refine Cd.skip ?_
    refine thenN ?_
    refine Cd.seq ?_
    refine Cd.block ?_
    skip
    refine Cd.rs [0, 1, 2, 7, 29] fun K hK => ?_
    simp (maxSteps := 2000000) (disch := first | (simp only [E4, q0, q1] <;> omega) | omega | fail) only [↓E2, E3, bare, bareJ, ↓E0, E1, evP, evPlan, env0, envN, evOps, evOp, evQs, evQ, evV, setD, pureOp, ev, upd, updL, gate, binW, eqOp, binV, intOp, shOp, boolOp, unV, convV, nilV, fieldAddrV, indexAddrV, extractV, cellAt, cellsAt, findB, setB, fillL, buildV, Value.cells, lenV, minV, maxV, hav, sliceV, loV, hiV, bslQ, mksQ, appQ, partsOk, partsCells, delB, eqL, SameI, strOp, apzQ, cvtQ, capV, ↓reduceIte, Zj, Zk, Nat.reduceAdd, Nat.reduceLT, Nat.reduceEqDiff, Nat.reduceMul, Nat.reduceLeDiff, if_true, Zn, reduceCtorEq, ZA, eq_self, Int.reduceLE, Int.reduceLT, Int.reduceToNat, ne_eq, Nat.reduceSub, Tfld117_0, Tfld117_1, Tld2, Tslc114, q0, q1]
    repeat refine And.intro (by omega) ?_
    apply guardX_and 7 [22, 23, 24, 25, 26, 27, 28] (j := 7) (d := 21) (tp := 29) (tl := 28) rfl rfl rfl rfl rfl
    · intro hq
      simp (maxSteps := 2000000) (disch := first | (simp only [E4, q0, q1] <;> omega) | omega | fail) only [↓E2, E3, bare, bareJ, ↓E0, E1, evP, evPlan, env0, envN, evOps, evOp, evQs, evQ, evV, setD, pureOp, ev, upd, updL, gate, binW, eqOp, binV, intOp, shOp, boolOp, unV, convV, nilV, fieldAddrV, indexAddrV, extractV, cellAt, cellsAt, findB, setB, fillL, buildV, Value.cells, lenV, minV, maxV, hav, sliceV, loV, hiV, bslQ, mksQ, appQ, partsOk, partsCells, delB, eqL, SameI, strOp, apzQ, cvtQ, capV, ↓reduceIte, Zj, Zk, Nat.reduceAdd, Nat.reduceLT, Nat.reduceEqDiff, Nat.reduceMul, Nat.reduceLeDiff, if_true, Zn, reduceCtorEq, ZA, eq_self, Int.reduceLE, Int.reduceLT, Int.reduceToNat, ne_eq, Nat.reduceSub, Tfld117_0, Tfld117_1, Tld2, Tslc114, q0, q1]
      repeat refine And.intro (by omega) ?_
      exact rfl
    intro g
    simp (maxSteps := 2000000) (disch := first | (simp only [E4, q0, q1] <;> omega) | omega | fail) only [↓E2, E3, bare, bareJ, ↓E0, E1, evP, evPlan, env0, envN, evOps, evOp, evQs, evQ, evV, setD, pureOp, ev, upd, updL, gate, binW, eqOp, binV, intOp, shOp, boolOp, unV, convV, nilV, fieldAddrV, indexAddrV, extractV, cellAt, cellsAt, findB, setB, fillL, buildV, Value.cells, lenV, minV, maxV, hav, sliceV, loV, hiV, bslQ, mksQ, appQ, partsOk, partsCells, delB, eqL, SameI, strOp, apzQ, cvtQ, capV, ↓reduceIte, Zj, Zk, Nat.reduceAdd, Nat.reduceLT, Nat.reduceEqDiff, Nat.reduceMul, Nat.reduceLeDiff, if_true, Zn, reduceCtorEq, ZA, eq_self, Int.reduceLE, Int.reduceLT, Int.reduceToNat, ne_eq, Nat.reduceSub, Tfld117_0, Tfld117_1, Tld2, Tslc114, q0, q1]
    repeat refine And.intro (by omega) ?_
    repeat refine And.intro (by omega) ?_
    intro g
    simp only [List.map_cons, List.map_nil, updL, upd, Nat.reduceEqDiff, if_true, if_false, ↓reduceIte]
    refine hK _ _ ?_; clear hK K
    refine Cd.cond rfl (fun h2 => ?_) (fun h2 => ?_)
    · simp only [decide_eq_true_eq, decide_eq_false_iff_not, beq_iff_eq, beq_eq_false_iff_ne, bne_iff_ne, bne_eq_false_iff_eq, Bool.and_eq_true, Bool.or_eq_true, Bool.or_eq_false_iff, Bool.not_eq_true', Bool.not_eq_false', Bool.and_eq_false_imp, ne_eq, gt_iff_lt, ge_iff_le, Int.not_lt, Int.not_le, Classical.not_not] at h2
      rw [if_pos h2] at hs
      have hz := numT_keep (T := T) (i := i) (r := r) (k := k + 1) (by omega) mm (by omega)
      refine Cd.rs [6] fun K hK => ?_
      simp (maxSteps := 2000000) (disch := first | (simp only [E4, q0, q1] <;> omega) | omega | fail) only [↓E2, E3, bare, bareJ, ↓E0, E1, evP, evPlan, env0, envN, evOps, evOp, evQs, evQ, evV, setD, pureOp, ev, upd, updL, gate, binW, eqOp, binV, intOp, shOp, boolOp, unV, convV, nilV, fieldAddrV, indexAddrV, extractV, cellAt, cellsAt, findB, setB, fillL, buildV, Value.cells, lenV, minV, maxV, hav, sliceV, loV, hiV, bslQ, mksQ, appQ, partsOk, partsCells, delB, eqL, SameI, strOp, apzQ, cvtQ, capV, ↓reduceIte, Zj, Zk, Nat.reduceAdd, Nat.reduceLT, Nat.reduceEqDiff, Nat.reduceMul, Nat.reduceLeDiff, if_true, Zn, reduceCtorEq, ZA, eq_self, Int.reduceLE, Int.reduceLT, Int.reduceToNat, ne_eq, Nat.reduceSub, q0, q1]
      repeat refine And.intro (by omega) ?_
      repeat refine And.intro (by omega) ?_
      intro g
      simp only [List.map_cons, List.map_nil, updL, upd, Nat.reduceEqDiff, if_true, if_false, ↓reduceIte]
      refine hK _ _ ?_; clear hK K
      refine Cd.ret (inBR (thenR (roundR (inBR (thenR ?_)))))
      simp (maxSteps := 2000000) (disch := first | (simp only [E4, q0, q1] <;> omega) | omega | fail) only [↓E2, E3, bare, bareJ, ↓E0, E1, evP, evPlan, env0, envN, evOps, evOp, evQs, evQ, evV, setD, pureOp, ev, upd, updL, gate, binW, eqOp, binV, intOp, shOp, boolOp, unV, convV, nilV, fieldAddrV, indexAddrV, extractV, cellAt, cellsAt, findB, setB, fillL, buildV, Value.cells, lenV, minV, maxV, hav, sliceV, loV, hiV, bslQ, mksQ, appQ, partsOk, partsCells, delB, eqL, SameI, strOp, apzQ, cvtQ, capV, ↓reduceIte, Zj, Zk, Nat.reduceAdd, Nat.reduceLT, Nat.reduceEqDiff, Nat.reduceMul, Nat.reduceLeDiff, if_true, Zn, reduceCtorEq, ZA, eq_self, Int.reduceLE, Int.reduceLT, Int.reduceToNat, ne_eq, Nat.reduceSub, q0, q1]
      repeat refine And.intro (by omega) ?_
      rw [hz, hs]
    · simp only [decide_eq_true_eq, decide_eq_false_iff_not, beq_iff_eq, beq_eq_false_iff_ne, bne_iff_ne, bne_eq_false_iff_eq, Bool.and_eq_true, Bool.or_eq_true, Bool.or_eq_false_iff, Bool.not_eq_true', Bool.not_eq_false', Bool.and_eq_false_imp, ne_eq, gt_iff_lt, ge_iff_le, Int.not_lt, Int.not_le, Classical.not_not] at h2
      rw [if_neg (fun e => h2 e.1 e.2)] at hs
      refine Cd.skip ?_
      refine inBN ?_
      refine thenN ?_
      refine Cd.rr [0, 1, 2, 7] fun K hK => ?_
      simp (maxSteps := 2000000) (disch := first | (simp only [E4, q0, q1] <;> omega) | omega | fail) only [↓E2, E3, bare, bareJ, ↓E0, E1, evP, evPlan, env0, envN, evOps, evOp, evQs, evQ, evV, setD, pureOp, ev, upd, updL, gate, binW, eqOp, binV, intOp, shOp, boolOp, unV, convV, nilV, fieldAddrV, indexAddrV, extractV, cellAt, cellsAt, findB, setB, fillL, buildV, Value.cells, lenV, minV, maxV, hav, sliceV, loV, hiV, bslQ, mksQ, appQ, partsOk, partsCells, delB, eqL, SameI, strOp, apzQ, cvtQ, capV, ↓reduceIte, Zj, Zk, Nat.reduceAdd, Nat.reduceLT, Nat.reduceEqDiff, Nat.reduceMul, Nat.reduceLeDiff, if_true, Zn, reduceCtorEq, ZA, eq_self, Int.reduceLE, Int.reduceLT, Int.reduceToNat, ne_eq, Nat.reduceSub, q0, q1]
      repeat refine And.intro (by omega) ?_
      repeat refine And.intro (by omega) ?_
      intro g
      simp only [List.map_cons, List.map_nil, updL, upd, Nat.reduceEqDiff, if_true, if_false, ↓reduceIte]
      refine hK _ _ ?_; clear hK K
      refine roundN (m := n - 1) (by omega) ⟨_, k + 1, by omega, hs, rfl, rfl⟩
  · refine Cd.exit (thenX (roundX (inBX ?_)))
    refine thenN ?_
    obtain rfl : k = mm := by omega
    rw [hnum]
    refine Cd.rs [6] fun K hK => ?_
    simp (maxSteps := 2000000) (disch := first | (simp only [E4] <;> omega) | omega | fail) only [↓E2, E3, bare, bareJ, ↓E0, E1, evP, evPlan, env0, envN, evOps, evOp, evQs, evQ, evV, setD, pureOp, ev, upd, updL, gate, binW, eqOp, binV, intOp, shOp, boolOp, unV, convV, nilV, fieldAddrV, indexAddrV, extractV, cellAt, cellsAt, findB, setB, fillL, buildV, Value.cells, lenV, minV, maxV, hav, sliceV, loV, hiV, bslQ, mksQ, appQ, partsOk, partsCells, delB, eqL, SameI, strOp, apzQ, cvtQ, capV, ↓reduceIte, Zj, Zk, Nat.reduceAdd, Nat.reduceLT, Nat.reduceEqDiff, Nat.reduceMul, Nat.reduceLeDiff, if_true, Zn, reduceCtorEq, ZA, eq_self, Int.reduceLE, Int.reduceLT, Int.reduceToNat, ne_eq, Nat.reduceSub]
    repeat refine And.intro (by omega) ?_
    repeat refine And.intro (by omega) ?_
    intro g
    simp only [List.map_cons, List.map_nil, updL, upd, Nat.reduceEqDiff, if_true, if_false, ↓reduceIte]
    refine hK _ _ ?_; clear hK K
    refine Cd.ret ?_
    simp (maxSteps := 2000000) (disch := first | (simp only [E4] <;> omega) | omega | fail) only [↓E2, E3, bare, bareJ, ↓E0, E1, evP, evPlan, env0, envN, evOps, evOp, evQs, evQ, evV, setD, pureOp, ev, upd, updL, gate, binW, eqOp, binV, intOp, shOp, boolOp, unV, convV, nilV, fieldAddrV, indexAddrV, extractV, cellAt, cellsAt, findB, setB, fillL, buildV, Value.cells, lenV, minV, maxV, hav, sliceV, loV, hiV, bslQ, mksQ, appQ, partsOk, partsCells, delB, eqL, SameI, strOp, apzQ, cvtQ, capV, ↓reduceIte, Zj, Zk, Nat.reduceAdd, Nat.reduceLT, Nat.reduceEqDiff, Nat.reduceMul, Nat.reduceLeDiff, if_true, Zn, reduceCtorEq, ZA, eq_self, Int.reduceLE, Int.reduceLT, Int.reduceToNat, ne_eq, Nat.reduceSub]
    repeat refine And.intro (by omega) ?_
end
theorem fzr_len {F : Nat → Int} {n : Nat} : ∀ d, (fzr F n d).length ≤ d
  | 0 => Nat.le_refl _
  | d + 1 => by
    show (fzr F n d ++ (if F (n - d - 1) = 0 then [] else [F (n - d - 1)])).length ≤ _
    have := fzr_len (F := F) (n := n) d
    split <;> simp <;> omega
/-- The way of a walk along a line, up or down. -/
theorem met_way {F : Nat → Int} {n a b : Nat} (hn : n ≤ 8) (ha : a < n) (hb : b < n) (hab : a ≠ b) (hz : ∀ j, j < n → (j ≤ min a b ∨ max a b ≤ j) → F j = 0) :
    ∃ (st : Int) (κ : Nat → Nat) (G : Nat → List Int) (N : Nat), (b < a → st = -1) ∧ (¬ b < a → st = 1) ∧ ((a : Int) + st = (κ 0 : Int)) ∧
      (∀ d, d < N → ((κ d : Int) + st = (κ (d + 1) : Int)) ∧ κ d < n ∧ κ d ≠ b ∧ (G (d + 1) = G d ++ if F (κ d) = 0 then [] else [F (κ d)]) ∧ (G d).length ≤ 16) ∧ κ N = b ∧ N ≤ 8 ∧ G 0 = [] ∧ (G N = if b < a then (fz F n).reverse else fz F n) := by
  by_cases hd : b < a
  · refine ⟨-1, fun d => a - 1 - d, fun d => fzr F n (n - a + d), a - 1 - b, fun _ => rfl, fun h => absurd hd h, ?_, fun d h => ⟨?_, ?_, ?_, ?_, ?_⟩, ?_, ?_, ?_, ?_⟩
    · show (a : Int) + -1 = ((a - 1 - 0 : Nat) : Int)
      omega
    · show ((a - 1 - d : Nat) : Int) + -1 = ((a - 1 - (d + 1) : Nat) : Int)
      omega
    · show a - 1 - d < n
      omega
    · show a - 1 - d ≠ b
      omega
    · show fzr F n (n - a + d) ++ (if F (n - (n - a + d) - 1) = 0 then [] else [F (n - (n - a + d) - 1)]) = fzr F n (n - a + d) ++ if F (a - 1 - d) = 0 then [] else [F (a - 1 - d)]
      rw [show n - (n - a + d) - 1 = a - 1 - d by omega]
    · have := fzr_len (F := F) (n := n) (n - a + d)
      show (fzr F n (n - a + d)).length ≤ 16
      omega
    · show a - 1 - (a - 1 - b) = b
      omega
    · omega
    · exact fzr_nil (n - a + 0) (fun j hj hj' => hz j hj' (.inr (by omega))) (by omega)
    · rw [if_pos hd]
      show fzr F n (n - a + (a - 1 - b)) = _
      rw [← fzr_rev (F := F) (n := n) (n - a + (a - 1 - b)) (by omega), fz_nil (n - (n - a + (a - 1 - b))) (fun j hj => hz j (by omega) (.inl (by omega)))]
      simp
  · refine ⟨1, fun d => a + 1 + d, fun d => fz F (a + 1 + d), b - a - 1, fun h => absurd h hd, fun _ => rfl, ?_, fun d h => ⟨?_, ?_, ?_, ?_, ?_⟩, ?_, ?_, ?_, ?_⟩
    · show (a : Int) + 1 = ((a + 1 + 0 : Nat) : Int)
      omega
    · show ((a + 1 + d : Nat) : Int) + 1 = ((a + 1 + (d + 1) : Nat) : Int)
      omega
    · show a + 1 + d < n
      omega
    · show a + 1 + d ≠ b
      omega
    · rfl
    · have := fz_len (F := F) (a + 1 + d)
      show (fz F (a + 1 + d)).length ≤ 16
      omega
    · show a + 1 + (b - a - 1) = b
      omega
    · omega
    · exact fz_nil (a + 1 + 0) (fun j hj => hz j (by omega) (.inl (by omega)))
    · rw [if_neg hd]
      show fz F (a + 1 + (b - a - 1)) = _
      rw [show a + 1 + (b - a - 1) = b by omega]
      exact (fz_end (F := F) n (by omega) (fun j hj hj' => hz j hj' (.inr (by omega)))).symm
section
variable (T : List Int) (m : Nat) (hT : T.length = m * 3) (hm : m ≤ 64) (R : Rd) (vT : Value) (h : RdS R 3 (ints .i64 T) vT)
include hT hm h
theorem l03Met_c (n : Nat) (hn : n ≤ 8) (line a b : Nat) (hli : line < n) (ha : a < n) (hb : b < n) (hab : a ≠ b) (vert : Bool) (F : Nat → Int) (hF : ∀ k : Nat, k < n → F k = if vert = true then numT T (line : Int) (k : Int) m else -numT T (k : Int) (line : Int) m)
    (hz : ∀ j, j < n → (j ≤ min a b ∨ max a b ≤ j) → F j = 0) (out : List Int) (v : Value) (L : Blks) (hv : SlN 1 (ints .i64 out) v L) (hlen : out.length ≤ 1000) (hRL : ∀ (a c : Nat) (b : List Value), (a, c, b) ∈ R → ∀ (x : List Value), ¬(a, x) ∈ L) :
    GivesX Try.prog 146 #[v, vT, .int .i64 (line : Int), .int .i64 (a : Int), .int .i64 (b : Int), .bool vert] L R (SlN 1 (ints .i64 (out ++ if b < a then (fz F n).reverse else fz F n))) := by
  obtain ⟨aT, mT, capT, rfl, _⟩ := id h
  obtain ⟨av, mv, capv, rfl⟩ := hv.form
  have hFb : ∀ k, k < n → -64 ≤ F k ∧ F k ≤ 64 := fun k hk => by
    rw [hF k hk]
    have h1 := numT_bound (T := T) (i := (line : Int)) (r := (k : Int)) m
    have h2 := numT_bound (T := T) (i := (k : Int)) (r := (line : Int)) m
    split <;> omega
  obtain ⟨st, κ, G, N, s1, s2, hk0, hstep, hkN, hN, hG0, hGN⟩ := met_way hn ha hb hab hz
  rw [← hGN]
  have hst : st = 1 ∨ st = -1 := by
    rcases Nat.lt_or_ge b a with hd | hd
    · exact .inr (s1 hd)
    · exact .inl (s2 (by omega))
  refine GivesX.part ?_
  refine GivesX.of (callable_of Try.func146 rfl (by decide)) ?_ fun w hnd hlt hR => ?_
  · simpa using hRL
  refine acall_of (N := 45) (c := _) (rs := [.tmp 12]) (args := [_, _, _, _, _, _]) Try.func146 rfl (by decide) rfl rfl (Nat.le_of_ble_eq_true rfl) ?_
  refine Cd.rs [0, 1, 2, 3, 4, 5] fun K hK => ?_
  simp (maxSteps := 2000000) (disch := first | (simp only [E4] <;> omega) | omega | fail) only [↓E2, E3, bare, bareJ, ↓E0, E1, evP, evPlan, env0, envN, evOps, evOp, evQs, evQ, evV, setD, pureOp, ev, upd, updL, gate, binW, eqOp, binV, intOp, shOp, boolOp, unV, convV, nilV, fieldAddrV, indexAddrV, extractV, cellAt, cellsAt, findB, setB, fillL, buildV, Value.cells, lenV, minV, maxV, hav, sliceV, loV, hiV, bslQ, mksQ, appQ, partsOk, partsCells, delB, eqL, SameI, strOp, apzQ, cvtQ, capV, ↓reduceIte, Zj, Zk, Nat.reduceAdd, Nat.reduceLT, Nat.reduceEqDiff, Nat.reduceMul, Nat.reduceLeDiff, if_true, Zn, reduceCtorEq, ZA, eq_self, Int.reduceLE, Int.reduceLT, Int.reduceToNat, ne_eq, Nat.reduceSub]
  repeat refine And.intro (by omega) ?_
  repeat refine And.intro (by omega) ?_
  intro g
  simp only [List.map_cons, List.map_nil, updL, upd, Nat.reduceEqDiff, if_true, if_false, ↓reduceIte]
  refine hK _ _ ?_; clear hK K
  refine Cd.rs [0, 1, 2, 3, 4, 5, 13] fun K hK => ?_
  simp (maxSteps := 2000000) (disch := first | (simp only [E4] <;> omega) | omega | fail) only [↓E2, E3, bare, bareJ, ↓E0, E1, evP, evPlan, env0, envN, evOps, evOp, evQs, evQ, evV, setD, pureOp, ev, upd, updL, gate, binW, eqOp, binV, intOp, shOp, boolOp, unV, convV, nilV, fieldAddrV, indexAddrV, extractV, cellAt, cellsAt, findB, setB, fillL, buildV, Value.cells, lenV, minV, maxV, hav, sliceV, loV, hiV, bslQ, mksQ, appQ, partsOk, partsCells, delB, eqL, SameI, strOp, apzQ, cvtQ, capV, ↓reduceIte, Zj, Zk, Nat.reduceAdd, Nat.reduceLT, Nat.reduceEqDiff, Nat.reduceMul, Nat.reduceLeDiff, if_true, Zn, reduceCtorEq, ZA, eq_self, Int.reduceLE, Int.reduceLT, Int.reduceToNat, ne_eq, Nat.reduceSub]
  repeat refine And.intro (by omega) ?_
  repeat refine And.intro (by omega) ?_
  intro g
  simp only [List.map_cons, List.map_nil, updL, upd, Nat.reduceEqDiff, if_true, if_false, ↓reduceIte]
  refine hK _ _ ?_; clear hK K
  refine Cd.midq (fun ρ M => ∃ g, ρ = updL [(0, .slice av mv capv), (1, .slice aT mT capT), (2, .int .i64 (line : Int)), (3, .int .i64 (a : Int)), (4, .int .i64 (b : Int)), (5, .bool vert), (13, .int .i64 st)] g ∧ M = L) ?_ ?_
  · refine Cd.rs [0, 1, 2, 3, 4, 5, 13, 18] fun K hK => ?_
    simp (maxSteps := 2000000) (disch := first | (simp only [E4] <;> omega) | omega | fail) only [↓E2, E3, bare, bareJ, ↓E0, E1, evP, evPlan, env0, envN, evOps, evOp, evQs, evQ, evV, setD, pureOp, ev, upd, updL, gate, binW, eqOp, binV, intOp, shOp, boolOp, unV, convV, nilV, fieldAddrV, indexAddrV, extractV, cellAt, cellsAt, findB, setB, fillL, buildV, Value.cells, lenV, minV, maxV, hav, sliceV, loV, hiV, bslQ, mksQ, appQ, partsOk, partsCells, delB, eqL, SameI, strOp, apzQ, cvtQ, capV, ↓reduceIte, Zj, Zk, Nat.reduceAdd, Nat.reduceLT, Nat.reduceEqDiff, Nat.reduceMul, Nat.reduceLeDiff, if_true, Zn, reduceCtorEq, ZA, eq_self, Int.reduceLE, Int.reduceLT, Int.reduceToNat, ne_eq, Nat.reduceSub]
    repeat refine And.intro (by omega) ?_
    repeat refine And.intro (by omega) ?_
    intro g
    simp only [List.map_cons, List.map_nil, updL, upd, Nat.reduceEqDiff, if_true, if_false, ↓reduceIte]
    refine hK _ _ ?_; clear hK K
    refine Cd.cond rfl (fun h1 => ?_) (fun h1 => ?_)
    · simp only [decide_eq_true_eq, decide_eq_false_iff_not, beq_iff_eq, beq_eq_false_iff_ne, bne_iff_ne, bne_eq_false_iff_eq, Bool.and_eq_true, Bool.or_eq_true, Bool.or_eq_false_iff, Bool.not_eq_true', Bool.not_eq_false', Bool.and_eq_false_imp, ne_eq, gt_iff_lt, ge_iff_le, Int.not_lt, Int.not_le, Classical.not_not] at h1
      rw [s1 (by omega)]
      refine Cd.rr [0, 1, 2, 3, 4, 5, 13] fun K hK => ?_
      simp (maxSteps := 2000000) (disch := first | (simp only [E4] <;> omega) | omega | fail) only [↓E2, E3, bare, bareJ, ↓E0, E1, evP, evPlan, env0, envN, evOps, evOp, evQs, evQ, evV, setD, pureOp, ev, upd, updL, gate, binW, eqOp, binV, intOp, shOp, boolOp, unV, convV, nilV, fieldAddrV, indexAddrV, extractV, cellAt, cellsAt, findB, setB, fillL, buildV, Value.cells, lenV, minV, maxV, hav, sliceV, loV, hiV, bslQ, mksQ, appQ, partsOk, partsCells, delB, eqL, SameI, strOp, apzQ, cvtQ, capV, ↓reduceIte, Zj, Zk, Nat.reduceAdd, Nat.reduceLT, Nat.reduceEqDiff, Nat.reduceMul, Nat.reduceLeDiff, if_true, Zn, reduceCtorEq, ZA, eq_self, Int.reduceLE, Int.reduceLT, Int.reduceToNat, ne_eq, Nat.reduceSub]
      repeat refine And.intro (by omega) ?_
      repeat refine And.intro (by omega) ?_
      intro g
      simp only [List.map_cons, List.map_nil, updL, upd, Nat.reduceEqDiff, if_true, if_false, ↓reduceIte]
      refine hK _ _ ?_; clear hK K
      exact midN ⟨_, rfl, rfl⟩
    · simp only [decide_eq_true_eq, decide_eq_false_iff_not, beq_iff_eq, beq_eq_false_iff_ne, bne_iff_ne, bne_eq_false_iff_eq, Bool.and_eq_true, Bool.or_eq_true, Bool.or_eq_false_iff, Bool.not_eq_true', Bool.not_eq_false', Bool.and_eq_false_imp, ne_eq, gt_iff_lt, ge_iff_le, Int.not_lt, Int.not_le, Classical.not_not] at h1
      rw [s2 (by omega)]
      refine Cd.skip ?_
      exact midN ⟨_, rfl, rfl⟩
  · rintro ρ M ⟨g, rfl, rfl⟩
    refine Cd.seq ?_
    skip
    refine Cd.rs [0, 1, 2, 4, 5, 13, 14] fun K hK => ?_
    simp (maxSteps := 2000000) (disch := first | (simp only [E4, hk0] <;> omega) | omega | fail) only [↓E2, E3, bare, bareJ, ↓E0, E1, evP, evPlan, env0, envN, evOps, evOp, evQs, evQ, evV, setD, pureOp, ev, upd, updL, gate, binW, eqOp, binV, intOp, shOp, boolOp, unV, convV, nilV, fieldAddrV, indexAddrV, extractV, cellAt, cellsAt, findB, setB, fillL, buildV, Value.cells, lenV, minV, maxV, hav, sliceV, loV, hiV, bslQ, mksQ, appQ, partsOk, partsCells, delB, eqL, SameI, strOp, apzQ, cvtQ, capV, ↓reduceIte, Zj, Zk, Nat.reduceAdd, Nat.reduceLT, Nat.reduceEqDiff, Nat.reduceMul, Nat.reduceLeDiff, if_true, Zn, reduceCtorEq, ZA, eq_self, Int.reduceLE, Int.reduceLT, Int.reduceToNat, ne_eq, Nat.reduceSub, hk0]
    repeat refine And.intro (by omega) ?_
    repeat refine And.intro (by omega) ?_
    intro g
    simp only [List.map_cons, List.map_nil, updL, upd, Nat.reduceEqDiff, if_true, if_false, ↓reduceIte]
    refine hK _ _ ?_; clear hK K
    refine Cd.block ?_
    refine Cd.loop (fun q ρ M => ∃ g d v2 L2, d + q = N ∧ SlN 1 (ints .i64 (out ++ G d)) v2 L2 ∧ SubP L2 M ∧ ρ = updL [(0, v2), (1, .slice aT mT capT), (2, .int .i64 (line : Int)), (4, .int .i64 (b : Int)), (5, .bool vert), (13, .int .i64 st), (14, .int .i64 (κ d : Int))] g) N ⟨_, 0, _, _, Nat.zero_add _, by rw [hG0, List.append_nil]; exact hv, SubP.of (List.Sublist.refl _), rfl⟩ ?_
    rintro q ρ M ⟨g, d, v2, L2, hd, hv2, hM, rfl⟩
    refine Cd.sub hM ?_
    clear hM M
    obtain ⟨a2, m2, cap2, rfl⟩ := id hv2.form
    refine Cd.seq ?_
    refine Cd.rs [0, 1, 2, 4, 5, 13, 14, 24] fun K hK => ?_
    simp (maxSteps := 2000000) (disch := first | (simp only [E4, hk0] <;> omega) | omega | fail) only [↓E2, E3, bare, bareJ, ↓E0, E1, evP, evPlan, env0, envN, evOps, evOp, evQs, evQ, evV, setD, pureOp, ev, upd, updL, gate, binW, eqOp, binV, intOp, shOp, boolOp, unV, convV, nilV, fieldAddrV, indexAddrV, extractV, cellAt, cellsAt, findB, setB, fillL, buildV, Value.cells, lenV, minV, maxV, hav, sliceV, loV, hiV, bslQ, mksQ, appQ, partsOk, partsCells, delB, eqL, SameI, strOp, apzQ, cvtQ, capV, ↓reduceIte, Zj, Zk, Nat.reduceAdd, Nat.reduceLT, Nat.reduceEqDiff, Nat.reduceMul, Nat.reduceLeDiff, if_true, Zn, reduceCtorEq, ZA, eq_self, Int.reduceLE, Int.reduceLT, Int.reduceToNat, ne_eq, Nat.reduceSub, hk0]
    repeat refine And.intro (by omega) ?_
    repeat refine And.intro (by omega) ?_
    intro g
    simp only [List.map_cons, List.map_nil, updL, upd, Nat.reduceEqDiff, if_true, if_false, ↓reduceIte]
    refine hK _ _ ?_; clear hK K
    refine Cd.cond rfl (fun h2 => ?_) (fun h2 => ?_)
    · simp only [decide_eq_true_eq, decide_eq_false_iff_not, beq_iff_eq, beq_eq_false_iff_ne, bne_iff_ne, bne_eq_false_iff_eq, Bool.and_eq_true, Bool.or_eq_true, Bool.or_eq_false_iff, Bool.not_eq_true', Bool.not_eq_false', Bool.and_eq_false_imp, ne_eq, gt_iff_lt, ge_iff_le, Int.not_lt, Int.not_le, Classical.not_not] at h2
      have hdN : d < N := by
        rcases Nat.lt_or_ge d N with h3 | h3
        · exact h3
        · rw [show d = N by omega, hkN] at h2
          exact absurd rfl h2
      obtain ⟨e1, e2, e3, e4, e5⟩ := hstep d hdN
      have hFk := hF (κ d) e2
      have hFbk := hFb (κ d) e2
      have hnum1 := l03Number_c T m hT hm R _ h (line : Int) (κ d : Int) (by omega) (by omega)
      have hnum2 := l03Number_c T m hT hm R _ h (κ d : Int) (line : Int) (by omega) (by omega)
      have hnb1 := numT_bound (T := T) (i := (line : Int)) (r := (κ d : Int)) m
      have hnb2 := numT_bound (T := T) (i := (κ d : Int)) (r := (line : Int)) m
      generalize hkd : κ d = kd at *
      generalize F kd = Fk at *
      refine Cd.skip ?_
      refine thenN ?_
      refine Cd.midq (fun ρ M => ∃ g v2 L2, SlN 1 (ints .i64 (out ++ G (d + 1))) v2 L2 ∧ SubP L2 M ∧ ρ = updL [(0, v2), (1, .slice aT mT capT), (2, .int .i64 (line : Int)), (4, .int .i64 (b : Int)), (5, .bool vert), (13, .int .i64 st), (14, .int .i64 (kd : Int))] g) ?_ ?_
      · refine Cd.block ?_
        refine Cd.rs [0, 1, 2, 4, 5, 13, 14] fun K hK => ?_
        simp (maxSteps := 2000000) (disch := first | (simp only [E4, hk0] <;> omega) | omega | fail) only [↓E2, E3, bare, bareJ, ↓E0, E1, evP, evPlan, env0, envN, evOps, evOp, evQs, evQ, evV, setD, pureOp, ev, upd, updL, gate, binW, eqOp, binV, intOp, shOp, boolOp, unV, convV, nilV, fieldAddrV, indexAddrV, extractV, cellAt, cellsAt, findB, setB, fillL, buildV, Value.cells, lenV, minV, maxV, hav, sliceV, loV, hiV, bslQ, mksQ, appQ, partsOk, partsCells, delB, eqL, SameI, strOp, apzQ, cvtQ, capV, ↓reduceIte, Zj, Zk, Nat.reduceAdd, Nat.reduceLT, Nat.reduceEqDiff, Nat.reduceMul, Nat.reduceLeDiff, if_true, Zn, reduceCtorEq, ZA, eq_self, Int.reduceLE, Int.reduceLT, Int.reduceToNat, ne_eq, Nat.reduceSub, hk0]
        repeat refine And.intro (by omega) ?_
        repeat refine And.intro (by omega) ?_
        intro g
        simp only [List.map_cons, List.map_nil, updL, upd, Nat.reduceEqDiff, if_true, if_false, ↓reduceIte]
        refine hK _ _ ?_; clear hK K
        refine Cd.midq (fun ρ M => ∃ g, ρ = updL [(0, .slice a2 m2 cap2), (1, .slice aT mT capT), (2, .int .i64 (line : Int)), (4, .int .i64 (b : Int)), (5, .bool vert), (13, .int .i64 st), (14, .int .i64 (kd : Int)), (15, .int .i64 Fk)] g ∧ M = L2) ?_ ?_
        · refine Cd.rs [0, 1, 2, 4, 5, 13, 14, 28] fun K hK => ?_
          simp (maxSteps := 2000000) (disch := first | (simp only [E4, hk0] <;> omega) | omega | fail) only [↓E2, E3, bare, bareJ, ↓E0, E1, evP, evPlan, env0, envN, evOps, evOp, evQs, evQ, evV, setD, pureOp, ev, upd, updL, gate, binW, eqOp, binV, intOp, shOp, boolOp, unV, convV, nilV, fieldAddrV, indexAddrV, extractV, cellAt, cellsAt, findB, setB, fillL, buildV, Value.cells, lenV, minV, maxV, hav, sliceV, loV, hiV, bslQ, mksQ, appQ, partsOk, partsCells, delB, eqL, SameI, strOp, apzQ, cvtQ, capV, ↓reduceIte, Zj, Zk, Nat.reduceAdd, Nat.reduceLT, Nat.reduceEqDiff, Nat.reduceMul, Nat.reduceLeDiff, if_true, Zn, reduceCtorEq, ZA, eq_self, Int.reduceLE, Int.reduceLT, Int.reduceToNat, ne_eq, Nat.reduceSub, hk0]
          repeat refine And.intro (by omega) ?_
          repeat refine And.intro (by omega) ?_
          intro g
          simp only [List.map_cons, List.map_nil, updL, upd, Nat.reduceEqDiff, if_true, if_false, ↓reduceIte]
          refine hK _ _ ?_; clear hK K
          refine Cd.cond rfl (fun h3 => ?_) (fun h3 => ?_)
          · rw [if_pos h3] at hFk
            rw [hFk]
            refine Cd.rr [0, 1, 2, 4, 5, 13, 14, 15] fun K hK => ?_
            simp (maxSteps := 2000000) (disch := first | (simp only [E4, hk0] <;> omega) | omega | fail) only [↓E2, E3, bare, bareJ, ↓E0, E1, evP, evPlan, env0, envN, evOps, evOp, evQs, evQ, evV, setD, pureOp, ev, upd, updL, gate, binW, eqOp, binV, intOp, shOp, boolOp, unV, convV, nilV, fieldAddrV, indexAddrV, extractV, cellAt, cellsAt, findB, setB, fillL, buildV, Value.cells, lenV, minV, maxV, hav, sliceV, loV, hiV, bslQ, mksQ, appQ, partsOk, partsCells, delB, eqL, SameI, strOp, apzQ, cvtQ, capV, ↓reduceIte, Zj, Zk, Nat.reduceAdd, Nat.reduceLT, Nat.reduceEqDiff, Nat.reduceMul, Nat.reduceLeDiff, if_true, Zn, reduceCtorEq, ZA, eq_self, Int.reduceLE, Int.reduceLT, Int.reduceToNat, ne_eq, Nat.reduceSub, hk0]
            repeat refine And.intro (by omega) ?_
            refine callK_told0 hnum1 hR ?_
            simp (maxSteps := 2000000) (disch := first | (simp only [E4, hk0] <;> omega) | omega | fail) only [↓E2, E3, bare, bareJ, ↓E0, E1, evP, evPlan, env0, envN, evOps, evOp, evQs, evQ, evV, setD, pureOp, ev, upd, updL, gate, binW, eqOp, binV, intOp, shOp, boolOp, unV, convV, nilV, fieldAddrV, indexAddrV, extractV, cellAt, cellsAt, findB, setB, fillL, buildV, Value.cells, lenV, minV, maxV, hav, sliceV, loV, hiV, bslQ, mksQ, appQ, partsOk, partsCells, delB, eqL, SameI, strOp, apzQ, cvtQ, capV, ↓reduceIte, Zj, Zk, Nat.reduceAdd, Nat.reduceLT, Nat.reduceEqDiff, Nat.reduceMul, Nat.reduceLeDiff, if_true, Zn, reduceCtorEq, ZA, eq_self, Int.reduceLE, Int.reduceLT, Int.reduceToNat, ne_eq, Nat.reduceSub, hk0]
            repeat refine And.intro (by omega) ?_
            repeat refine And.intro (by omega) ?_
            intro g
            simp only [List.map_cons, List.map_nil, updL, upd, Nat.reduceEqDiff, if_true, if_false, ↓reduceIte]
            refine hK _ _ ?_; clear hK K
            exact midN ⟨_, rfl, rfl⟩
          · rw [if_neg (by rw [h3]; decide)] at hFk
            rw [hFk]
            refine Cd.rr [0, 1, 2, 4, 5, 13, 14, 15] fun K hK => ?_
            simp (maxSteps := 2000000) (disch := first | (simp only [E4, hk0] <;> omega) | omega | fail) only [↓E2, E3, bare, bareJ, ↓E0, E1, evP, evPlan, env0, envN, evOps, evOp, evQs, evQ, evV, setD, pureOp, ev, upd, updL, gate, binW, eqOp, binV, intOp, shOp, boolOp, unV, convV, nilV, fieldAddrV, indexAddrV, extractV, cellAt, cellsAt, findB, setB, fillL, buildV, Value.cells, lenV, minV, maxV, hav, sliceV, loV, hiV, bslQ, mksQ, appQ, partsOk, partsCells, delB, eqL, SameI, strOp, apzQ, cvtQ, capV, ↓reduceIte, Zj, Zk, Nat.reduceAdd, Nat.reduceLT, Nat.reduceEqDiff, Nat.reduceMul, Nat.reduceLeDiff, if_true, Zn, reduceCtorEq, ZA, eq_self, Int.reduceLE, Int.reduceLT, Int.reduceToNat, ne_eq, Nat.reduceSub, hk0]
            repeat refine And.intro (by omega) ?_
            refine callK_told0 hnum2 hR ?_
            simp (maxSteps := 2000000) (disch := first | (simp only [E4, hk0] <;> omega) | omega | fail) only [↓E2, E3, bare, bareJ, ↓E0, E1, evP, evPlan, env0, envN, evOps, evOp, evQs, evQ, evV, setD, pureOp, ev, upd, updL, gate, binW, eqOp, binV, intOp, shOp, boolOp, unV, convV, nilV, fieldAddrV, indexAddrV, extractV, cellAt, cellsAt, findB, setB, fillL, buildV, Value.cells, lenV, minV, maxV, hav, sliceV, loV, hiV, bslQ, mksQ, appQ, partsOk, partsCells, delB, eqL, SameI, strOp, apzQ, cvtQ, capV, ↓reduceIte, Zj, Zk, Nat.reduceAdd, Nat.reduceLT, Nat.reduceEqDiff, Nat.reduceMul, Nat.reduceLeDiff, if_true, Zn, reduceCtorEq, ZA, eq_self, Int.reduceLE, Int.reduceLT, Int.reduceToNat, ne_eq, Nat.reduceSub, hk0]
            repeat refine And.intro (by omega) ?_
            repeat refine And.intro (by omega) ?_
            intro g
            simp only [List.map_cons, List.map_nil, updL, upd, Nat.reduceEqDiff, if_true, if_false, ↓reduceIte]
            refine hK _ _ ?_; clear hK K
            exact midN ⟨_, by rw [← Int.zero_sub (numT T _ _ m)]; rfl, rfl⟩
        · rintro ρ M ⟨g, rfl, rfl⟩
          refine Cd.rs [0, 1, 2, 4, 5, 13, 14, 15, 39] fun K hK => ?_
          simp (maxSteps := 2000000) (disch := first | (simp only [E4, hk0] <;> omega) | omega | fail) only [↓E2, E3, bare, bareJ, ↓E0, E1, evP, evPlan, env0, envN, evOps, evOp, evQs, evQ, evV, setD, pureOp, ev, upd, updL, gate, binW, eqOp, binV, intOp, shOp, boolOp, unV, convV, nilV, fieldAddrV, indexAddrV, extractV, cellAt, cellsAt, findB, setB, fillL, buildV, Value.cells, lenV, minV, maxV, hav, sliceV, loV, hiV, bslQ, mksQ, appQ, partsOk, partsCells, delB, eqL, SameI, strOp, apzQ, cvtQ, capV, ↓reduceIte, Zj, Zk, Nat.reduceAdd, Nat.reduceLT, Nat.reduceEqDiff, Nat.reduceMul, Nat.reduceLeDiff, if_true, Zn, reduceCtorEq, ZA, eq_self, Int.reduceLE, Int.reduceLT, Int.reduceToNat, ne_eq, Nat.reduceSub, hk0]
          repeat refine And.intro (by omega) ?_
          repeat refine And.intro (by omega) ?_
          intro g
          simp only [List.map_cons, List.map_nil, updL, upd, Nat.reduceEqDiff, if_true, if_false, ↓reduceIte]
          refine hK _ _ ?_; clear hK K
          refine Cd.cond rfl (fun h4 => ?_) (fun h4 => ?_)
          · simp only [decide_eq_true_eq, decide_eq_false_iff_not, beq_iff_eq, beq_eq_false_iff_ne, bne_iff_ne, bne_eq_false_iff_eq, Bool.and_eq_true, Bool.or_eq_true, Bool.or_eq_false_iff, Bool.not_eq_true', Bool.not_eq_false', Bool.and_eq_false_imp, ne_eq, gt_iff_lt, ge_iff_le, Int.not_lt, Int.not_le, Classical.not_not] at h4
            rw [if_neg h4] at e4
            refine Cd.rr [0, 1, 2, 4, 5, 13, 14] fun K hK => ?_
            rcases slN1 hv2 with ⟨hnil, hvv, rfl⟩ | ⟨bo, capo, cso, hvv, rfl, hrow⟩
            · cases hvv
              simp (maxSteps := 2000000) (disch := first | (simp only [E4, hk0] <;> omega) | omega | fail) only [↓E2, E3, bare, bareJ, ↓E0, E1, evP, evPlan, env0, envN, evOps, evOp, evQs, evQ, evV, setD, pureOp, ev, upd, updL, gate, binW, eqOp, binV, intOp, shOp, boolOp, unV, convV, nilV, fieldAddrV, indexAddrV, extractV, cellAt, cellsAt, findB, setB, fillL, buildV, Value.cells, lenV, minV, maxV, hav, sliceV, loV, hiV, bslQ, mksQ, appQ, partsOk, partsCells, delB, eqL, SameI, strOp, apzQ, cvtQ, capV, ↓reduceIte, Zj, Zk, Nat.reduceAdd, Nat.reduceLT, Nat.reduceEqDiff, Nat.reduceMul, Nat.reduceLeDiff, if_true, Zn, reduceCtorEq, ZA, eq_self, Int.reduceLE, Int.reduceLT, Int.reduceToNat, ne_eq, Nat.reduceSub, Tby2, Tslc47, Tslce47, Tzero2, hk0]
              repeat refine And.intro (by omega) ?_
              intro b1 hb1
              try simp (maxSteps := 2000000) (disch := first | (simp only [E4, hk0] <;> omega) | omega | fail) only [↓E2, E3, bare, bareJ, ↓E0, E1, evP, evPlan, env0, envN, evOps, evOp, evQs, evQ, evV, setD, pureOp, ev, upd, updL, gate, binW, eqOp, binV, intOp, shOp, boolOp, unV, convV, nilV, fieldAddrV, indexAddrV, extractV, cellAt, cellsAt, findB, setB, fillL, buildV, Value.cells, lenV, minV, maxV, hav, sliceV, loV, hiV, bslQ, mksQ, appQ, partsOk, partsCells, delB, eqL, SameI, strOp, apzQ, cvtQ, capV, ↓reduceIte, Zj, Zk, Nat.reduceAdd, Nat.reduceLT, Nat.reduceEqDiff, Nat.reduceMul, Nat.reduceLeDiff, if_true, Zn, reduceCtorEq, ZA, eq_self, Int.reduceLE, Int.reduceLT, Int.reduceToNat, ne_eq, Nat.reduceSub, Tby2, Tslc47, Tslce47, Tzero2, hk0]
              repeat refine And.intro (by omega) ?_
              intro b' cap' rest' hf hc hr'
              repeat refine And.intro (by omega) ?_
              intro g
              simp only [List.map_cons, List.map_nil, updL, upd, Nat.reduceEqDiff, if_true, if_false, ↓reduceIte]
              refine hK _ _ ?_; clear hK K
              refine inBN ?_
              refine midN ⟨_, _, _, ?_, SubP.of (List.Sublist.cons_cons _ (List.nil_sublist _)), rfl⟩
              rw [e4, ← List.append_assoc, hnil]
              exact SlN.row (Row.first (by simp [ints]) hc (by omega))
            · cases hvv
              have s1 := hrow.size
              have s2 := hrow.le
              have s3 : (out ++ G d).length ≤ 1016 := by rw [List.length_append]; omega
              simp (maxSteps := 2000000) (disch := first | (simp only [E4, hk0] <;> omega) | omega | fail) only [↓E2, E3, bare, bareJ, ↓E0, E1, evP, evPlan, env0, envN, evOps, evOp, evQs, evQ, evV, setD, pureOp, ev, upd, updL, gate, binW, eqOp, binV, intOp, shOp, boolOp, unV, convV, nilV, fieldAddrV, indexAddrV, extractV, cellAt, cellsAt, findB, setB, fillL, buildV, Value.cells, lenV, minV, maxV, hav, sliceV, loV, hiV, bslQ, mksQ, appQ, partsOk, partsCells, delB, eqL, SameI, strOp, apzQ, cvtQ, capV, ↓reduceIte, Zj, Zk, Nat.reduceAdd, Nat.reduceLT, Nat.reduceEqDiff, Nat.reduceMul, Nat.reduceLeDiff, if_true, Zn, reduceCtorEq, ZA, eq_self, Int.reduceLE, Int.reduceLT, Int.reduceToNat, ne_eq, Nat.reduceSub, Tby2, Tslc47, Tslce47, Tzero2, hk0]
              repeat refine And.intro (by omega) ?_
              intro b1 hb1
              try simp (maxSteps := 2000000) (disch := first | (simp only [E4, hk0] <;> omega) | omega | fail) only [↓E2, E3, bare, bareJ, ↓E0, E1, evP, evPlan, env0, envN, evOps, evOp, evQs, evQ, evV, setD, pureOp, ev, upd, updL, gate, binW, eqOp, binV, intOp, shOp, boolOp, unV, convV, nilV, fieldAddrV, indexAddrV, extractV, cellAt, cellsAt, findB, setB, fillL, buildV, Value.cells, lenV, minV, maxV, hav, sliceV, loV, hiV, bslQ, mksQ, appQ, partsOk, partsCells, delB, eqL, SameI, strOp, apzQ, cvtQ, capV, ↓reduceIte, Zj, Zk, Nat.reduceAdd, Nat.reduceLT, Nat.reduceEqDiff, Nat.reduceMul, Nat.reduceLeDiff, if_true, Zn, reduceCtorEq, ZA, eq_self, Int.reduceLE, Int.reduceLT, Int.reduceToNat, ne_eq, Nat.reduceSub, Tby2, Tslc47, Tslce47, Tzero2, hk0]
              repeat refine And.intro (by omega) ?_
              have n1 : ¬ b1 = bo := hb1.2 (bo, cso) (by simp)
              skip
              simp (maxSteps := 2000000) (disch := first | (simp only [E4, hk0, n1] <;> omega) | omega | fail) only [↓E2, E3, bare, bareJ, ↓E0, E1, evP, evPlan, env0, envN, evOps, evOp, evQs, evQ, evV, setD, pureOp, ev, upd, updL, gate, binW, eqOp, binV, intOp, shOp, boolOp, unV, convV, nilV, fieldAddrV, indexAddrV, extractV, cellAt, cellsAt, findB, setB, fillL, buildV, Value.cells, lenV, minV, maxV, hav, sliceV, loV, hiV, bslQ, mksQ, appQ, partsOk, partsCells, delB, eqL, SameI, strOp, apzQ, cvtQ, capV, ↓reduceIte, Zj, Zk, Nat.reduceAdd, Nat.reduceLT, Nat.reduceEqDiff, Nat.reduceMul, Nat.reduceLeDiff, if_true, Zn, reduceCtorEq, ZA, eq_self, Int.reduceLE, Int.reduceLT, Int.reduceToNat, ne_eq, Nat.reduceSub, Tby2, Tslc47, Tslce47, Tzero2, hk0, n1]
              repeat refine And.intro (by omega) ?_
              intro b' cap' rest' hf hc hr'
              repeat refine And.intro (by omega) ?_
              intro g
              simp only [List.map_cons, List.map_nil, updL, upd, Nat.reduceEqDiff, if_true, if_false, ↓reduceIte]
              refine hK _ _ ?_; clear hK K
              refine inBN ?_
              refine midN ⟨_, _, _, ?_, SubP.of (List.Sublist.cons_cons _ (List.nil_sublist _)), rfl⟩
              rw [e4, ← List.append_assoc]
              have := hrow.snoc (news := ints .i64 [Fk]) (m' := 1) (by simp [ints]) hc (by rw [Nat.mul_one]; exact hr')
              rw [← ints_append, Nat.mul_one] at this
              exact SlN.row this
          · simp only [decide_eq_true_eq, decide_eq_false_iff_not, beq_iff_eq, beq_eq_false_iff_ne, bne_iff_ne, bne_eq_false_iff_eq, Bool.and_eq_true, Bool.or_eq_true, Bool.or_eq_false_iff, Bool.not_eq_true', Bool.not_eq_false', Bool.and_eq_false_imp, ne_eq, gt_iff_lt, ge_iff_le, Int.not_lt, Int.not_le, Classical.not_not] at h4
            rw [if_pos h4, List.append_nil] at e4
            refine Cd.skip ?_
            refine inBN ?_
            refine midN ⟨_, _, _, ?_, SubP.of (List.Sublist.refl _), rfl⟩
            rw [e4]
            exact hv2
      · rintro ρ M ⟨g, v3, L3, hv3, hM3, rfl⟩
        refine Cd.sub hM3 ?_
        obtain ⟨a3, m3, cap3, rfl⟩ := id hv3.form
        skip
        refine Cd.rr [0, 1, 2, 4, 5, 13, 14] fun K hK => ?_
        simp (maxSteps := 2000000) (disch := first | (simp only [E4, hk0, e1] <;> omega) | omega | fail) only [↓E2, E3, bare, bareJ, ↓E0, E1, evP, evPlan, env0, envN, evOps, evOp, evQs, evQ, evV, setD, pureOp, ev, upd, updL, gate, binW, eqOp, binV, intOp, shOp, boolOp, unV, convV, nilV, fieldAddrV, indexAddrV, extractV, cellAt, cellsAt, findB, setB, fillL, buildV, Value.cells, lenV, minV, maxV, hav, sliceV, loV, hiV, bslQ, mksQ, appQ, partsOk, partsCells, delB, eqL, SameI, strOp, apzQ, cvtQ, capV, ↓reduceIte, Zj, Zk, Nat.reduceAdd, Nat.reduceLT, Nat.reduceEqDiff, Nat.reduceMul, Nat.reduceLeDiff, if_true, Zn, reduceCtorEq, ZA, eq_self, Int.reduceLE, Int.reduceLT, Int.reduceToNat, ne_eq, Nat.reduceSub, hk0, e1]
        repeat refine And.intro (by omega) ?_
        repeat refine And.intro (by omega) ?_
        intro g
        simp only [List.map_cons, List.map_nil, updL, upd, Nat.reduceEqDiff, if_true, if_false, ↓reduceIte]
        refine hK _ _ ?_; clear hK K
        refine roundN (m := q - 1) (by omega) ⟨_, d + 1, _, _, by omega, hv3, SubP.of (List.Sublist.refl _), rfl⟩
    · simp only [decide_eq_true_eq, decide_eq_false_iff_not, beq_iff_eq, beq_eq_false_iff_ne, bne_iff_ne, bne_eq_false_iff_eq, Bool.and_eq_true, Bool.or_eq_true, Bool.or_eq_false_iff, Bool.not_eq_true', Bool.not_eq_false', Bool.and_eq_false_imp, ne_eq, gt_iff_lt, ge_iff_le, Int.not_lt, Int.not_le, Classical.not_not] at h2
      have hdN : d = N := by
        rcases Nat.lt_or_ge d N with h3 | h3
        · have := (hstep d h3).2.2.1
          omega
        · omega
      refine Cd.exit (thenX (roundX (inBX ?_)))
      refine thenN ?_
      refine Cd.rs [12] fun K hK => ?_
      simp (maxSteps := 2000000) (disch := first | (simp only [E4, hk0] <;> omega) | omega | fail) only [↓E2, E3, bare, bareJ, ↓E0, E1, evP, evPlan, env0, envN, evOps, evOp, evQs, evQ, evV, setD, pureOp, ev, upd, updL, gate, binW, eqOp, binV, intOp, shOp, boolOp, unV, convV, nilV, fieldAddrV, indexAddrV, extractV, cellAt, cellsAt, findB, setB, fillL, buildV, Value.cells, lenV, minV, maxV, hav, sliceV, loV, hiV, bslQ, mksQ, appQ, partsOk, partsCells, delB, eqL, SameI, strOp, apzQ, cvtQ, capV, ↓reduceIte, Zj, Zk, Nat.reduceAdd, Nat.reduceLT, Nat.reduceEqDiff, Nat.reduceMul, Nat.reduceLeDiff, if_true, Zn, reduceCtorEq, ZA, eq_self, Int.reduceLE, Int.reduceLT, Int.reduceToNat, ne_eq, Nat.reduceSub, hk0]
      repeat refine And.intro (by omega) ?_
      repeat refine And.intro (by omega) ?_
      intro g
      simp only [List.map_cons, List.map_nil, updL, upd, Nat.reduceEqDiff, if_true, if_false, ↓reduceIte]
      refine hK _ _ ?_; clear hK K
      refine Cd.ret ?_
      simp (maxSteps := 2000000) (disch := first | (simp only [E4, hk0] <;> omega) | omega | fail) only [↓E2, E3, bare, bareJ, ↓E0, E1, evP, evPlan, env0, envN, evOps, evOp, evQs, evQ, evV, setD, pureOp, ev, upd, updL, gate, binW, eqOp, binV, intOp, shOp, boolOp, unV, convV, nilV, fieldAddrV, indexAddrV, extractV, cellAt, cellsAt, findB, setB, fillL, buildV, Value.cells, lenV, minV, maxV, hav, sliceV, loV, hiV, bslQ, mksQ, appQ, partsOk, partsCells, delB, eqL, SameI, strOp, apzQ, cvtQ, capV, ↓reduceIte, Zj, Zk, Nat.reduceAdd, Nat.reduceLT, Nat.reduceEqDiff, Nat.reduceMul, Nat.reduceLeDiff, if_true, Zn, reduceCtorEq, ZA, eq_self, Int.reduceLE, Int.reduceLT, Int.reduceToNat, ne_eq, Nat.reduceSub, hk0]
      repeat refine And.intro (by omega) ?_
      rw [hdN] at hv2
      exact ⟨_, SubP.of (List.Sublist.refl _), hv2⟩
end

end Go.Proofs

/-
  What the functions of this part hand back: each as a plain function of its arguments. Conditions: none.
-/
namespace Go.Proofs
open Go.W8
set_option linter.unusedVariables false
set_option linter.unusedSimpArgs false
set_option linter.unusedSectionVars false
set_option maxRecDepth 8000
set_option maxHeartbeats 4000000
def lk64 (A B : Nat → Nat) (l : List Int) (k : Nat) : List Int := (List.range 64).map fun i => lkS A B l k (i / 8) (i % 8)
def ptab (c : Nat) (F : Nat → Nat → Int) (p : Nat) : List (List Int) := (List.range p).map fun a => grow c F a
section
variable {A B : Nat → Nat} {l : List Int} {k a b : Nat}
end
section
variable (s : Int) (x o : List Int) (hx : Bytes8 x) (ho : Bytes8 o)
include hx ho
end

end Go.Proofs

/-
  What the functions of this part hand back: each as a plain function of its arguments. Conditions: none.
-/
namespace Go.Proofs
open Go.W8
set_option linter.unusedVariables false
set_option linter.unusedSimpArgs false
set_option linter.unusedSectionVars false
set_option maxRecDepth 8000
set_option maxHeartbeats 4000000
theorem gridB_diff {s : Int} {x o : List Int} (h : gridB s x o = true) : ∀ c, c < s.toNat → x.getD c 0 ≠ o.getD c 0 := (of_decide_eq_true h).2.2.2.2
theorem nat_at {l : List Int} (hl : Bytes8 l) {n k : Nat} (hn : n ≤ 8) (hk : k < n) (hp : IsPerm l n) : ∃ a : Nat, l.getD k 0 = (a : Int) ∧ a < n := by
  have c1 := bytes_get hl (i := k) (by omega)
  have c2 := hp.1 k hk
  exact ⟨(l.getD k 0).toNat, by omega, by omega⟩
theorem zero_v {n : Nat} {x o : List Int} {k a b : Nat} (ea : x.getD k 0 = (a : Int)) (eb : o.getD k 0 = (b : Int)) (j : Nat) (h : j ≤ min a b ∨ max a b ≤ j) : nm n x o k j = 0 := by
  refine nm_zero ?_
  unfold betw
  rw [ea, eb]
  rcases h with h | h
  · rw [decide_eq_false (by omega)]; rfl
  · rw [Bool.and_eq_false_iff]
    right
    exact decide_eq_false (by omega)
theorem zero_h {n : Nat} {x o : List Int} (hq : IsPerm o n) {k b : Nat} (hk : k < n) (eb : o.getD k 0 = (b : Int)) (j : Nat) (h : j ≤ min k (nextOf n x o k) ∨ max k (nextOf n x o k) ≤ j) : -nm n x o j b = 0 := by
  have e1 : rowOf x n (b : Int) = nextOf n x o k := by unfold nextOf; rw [eb]
  have e2 : rowOf o n (b : Int) = k := by rw [← eb]; exact rowOf_perm hq hk
  have := nm_zero' (n := n) (x := x) (o := o) (i := j) (r := b) (by
    unfold betw
    rw [e1, e2]
    rcases h with h | h
    · rw [decide_eq_false (by omega)]; rfl
    · rw [Bool.and_eq_false_iff]
      right
      exact decide_eq_false (by omega))
  omega
theorem cdL_eq {n : Nat} {x o : List Int} {k a b : Nat} (ea : x.getD k 0 = (a : Int)) (eb : o.getD k 0 = (b : Int)) :
    cdL n x o k = (if b < a then (fz (nm n x o k) n).reverse else fz (nm n x o k) n) ++ (if nextOf n x o k < k then (fz (fun j => -nm n x o j b) n).reverse else fz (fun j => -nm n x o j b) n) := by
  unfold cdL
  rw [ea, eb, Int.toNat_natCast]
  by_cases h : b < a
  · rw [if_pos h, if_pos (by omega)]
  · rw [if_neg h, if_neg (by omega)]
theorem next_ne {n : Nat} {x o : List Int} (hx : Bytes8 x) (ho : Bytes8 o) (hn : n ≤ 8) (hp : IsPerm x n) (hq : IsPerm o n) (hd : ∀ i, i < n → x.getD i 0 ≠ o.getD i 0) {k : Nat} (hk : k < n) : k ≠ nextOf n x o k := fun e => by
  have c2 := hq.1 k hk
  have c3 := bytes_get ho (i := k) (by omega)
  have := (rowOf_lt (n := n) (fun i hi => (bytes_get hx (i := i) (by omega)).1) hp c3.1 c2).2
  have e2 : rowOf x n (o.getD k 0) = k := e.symm
  rw [e2] at this
  exact hd k hk this
theorem gauss_row {n : Nat} {x o : List Int} {c i : Nat} {W : List Nat} (h : (wTo (nextOf n x o) n)[c]? = some (i :: W)) : (gaussL n x o).take (c + 1) = (gaussL n x o).take c ++ [cdW n x o (i :: W)] := by
  have h2 : (gaussL n x o)[c]? = some (cdW n x o (i :: W)) := by
    unfold gaussL
    rw [List.getElem?_map, h]; rfl
  rw [List.take_add_one, h2]; rfl
section
variable (s : Int) (x o : List Int) (hx : Bytes8 x) (ho : Bytes8 o)
include hx ho
theorem sGaussCodes_c : GivesX Try.prog 68 #[.agg (gc s x o).toArray] [] [] (wrapP s x o (SlSl (gaussL s.toNat x o)) (.slice none 0 0)) := by
  have hl := hx.len
  have hm := ho.len
  refine GivesX.part ?_
  skip
  refine GivesX.of (callable_of Try.func68 rfl (by decide)) ?_ fun w hnd hlt hR => ?_
  · simp
  refine acall_of (N := 74) (c := _) (rs := [.tmp 2, .tmp 3]) (args := [_]) Try.func68 rfl (by decide) rfl rfl (Nat.le_of_ble_eq_true rfl) ?_
  refine Cd.rs [1] fun K hK => ?_
  simp (maxSteps := 2000000) (disch := first | (simp only [E4, hl, hm] <;> omega) | omega | fail) only [↓E2, E3, bare, bareJ, ↓E0, E1, evP, evPlan, env0, envN, evOps, evOp, evQs, evQ, evV, setD, pureOp, ev, upd, updL, gate, binW, eqOp, binV, intOp, shOp, boolOp, unV, convV, nilV, fieldAddrV, indexAddrV, extractV, cellAt, cellsAt, findB, setB, fillL, buildV, Value.cells, lenV, minV, maxV, hav, sliceV, loV, hiV, bslQ, mksQ, appQ, partsOk, partsCells, delB, eqL, SameI, strOp, apzQ, cvtQ, capV, ↓reduceIte, Zj, Zk, Nat.reduceAdd, Nat.reduceLT, Nat.reduceEqDiff, Nat.reduceMul, Nat.reduceLeDiff, if_true, Zn, reduceCtorEq, ZA, eq_self, Int.reduceLE, Int.reduceLT, Int.reduceToNat, ne_eq, Nat.reduceSub, hl, hm]
  repeat refine And.intro (by omega) ?_
  intro b1 hb1
  try simp (maxSteps := 2000000) (disch := first | (simp only [E4, hl, hm] <;> omega) | omega | fail) only [↓E2, E3, bare, bareJ, ↓E0, E1, evP, evPlan, env0, envN, evOps, evOp, evQs, evQ, evV, setD, pureOp, ev, upd, updL, gate, binW, eqOp, binV, intOp, shOp, boolOp, unV, convV, nilV, fieldAddrV, indexAddrV, extractV, cellAt, cellsAt, findB, setB, fillL, buildV, Value.cells, lenV, minV, maxV, hav, sliceV, loV, hiV, bslQ, mksQ, appQ, partsOk, partsCells, delB, eqL, SameI, strOp, apzQ, cvtQ, capV, ↓reduceIte, Zj, Zk, Nat.reduceAdd, Nat.reduceLT, Nat.reduceEqDiff, Nat.reduceMul, Nat.reduceLeDiff, if_true, Zn, reduceCtorEq, ZA, eq_self, Int.reduceLE, Int.reduceLT, Int.reduceToNat, ne_eq, Nat.reduceSub, hl, hm]
  repeat refine And.intro (by omega) ?_
  repeat refine And.intro (by omega) ?_
  intro g
  simp only [List.map_cons, List.map_nil, updL, upd, Nat.reduceEqDiff, if_true, if_false, ↓reduceIte]
  refine hK _ _ ?_; clear hK K
  refine Cd.seq ?_
  refine Cd.rs [1, 15] fun K hK => ?_
  simp (maxSteps := 2000000) (disch := first | (simp only [E4, hl, hm] <;> omega) | omega | fail) only [↓E2, E3, bare, bareJ, ↓E0, E1, evP, evPlan, env0, envN, evOps, evOp, evQs, evQ, evV, setD, pureOp, ev, upd, updL, gate, binW, eqOp, binV, intOp, shOp, boolOp, unV, convV, nilV, fieldAddrV, indexAddrV, extractV, cellAt, cellsAt, findB, setB, fillL, buildV, Value.cells, lenV, minV, maxV, hav, sliceV, loV, hiV, bslQ, mksQ, appQ, partsOk, partsCells, delB, eqL, SameI, strOp, apzQ, cvtQ, capV, ↓reduceIte, Zj, Zk, Nat.reduceAdd, Nat.reduceLT, Nat.reduceEqDiff, Nat.reduceMul, Nat.reduceLeDiff, if_true, Zn, reduceCtorEq, ZA, eq_self, Int.reduceLE, Int.reduceLT, Int.reduceToNat, ne_eq, Nat.reduceSub, Tld32, hl, hm]
  repeat refine And.intro (by omega) ?_
  refine callK_gives (l01Is_c _ _ _ hx ho) ?_
  simp (maxSteps := 2000000) (disch := first | (simp only [E4, hl, hm] <;> omega) | omega | fail) only [↓E2, E3, bare, bareJ, ↓E0, E1, evP, evPlan, env0, envN, evOps, evOp, evQs, evQ, evV, setD, pureOp, ev, upd, updL, gate, binW, eqOp, binV, intOp, shOp, boolOp, unV, convV, nilV, fieldAddrV, indexAddrV, extractV, cellAt, cellsAt, findB, setB, fillL, buildV, Value.cells, lenV, minV, maxV, hav, sliceV, loV, hiV, bslQ, mksQ, appQ, partsOk, partsCells, delB, eqL, SameI, strOp, apzQ, cvtQ, capV, ↓reduceIte, Zj, Zk, Nat.reduceAdd, Nat.reduceLT, Nat.reduceEqDiff, Nat.reduceMul, Nat.reduceLeDiff, if_true, Zn, reduceCtorEq, ZA, eq_self, Int.reduceLE, Int.reduceLT, Int.reduceToNat, ne_eq, Nat.reduceSub, Tld32, hl, hm]
  repeat refine And.intro (by omega) ?_
  repeat refine And.intro (by omega) ?_
  intro g
  simp only [List.map_cons, List.map_nil, updL, upd, Nat.reduceEqDiff, if_true, if_false, ↓reduceIte]
  refine hK _ _ ?_; clear hK K
  refine Cd.cond rfl (fun h1 => ?_) (fun h1 => ?_)
  · refine Cd.rs [2, 3] fun K hK => ?_
    simp (maxSteps := 2000000) (disch := first | (simp only [E4, hl, hm] <;> omega) | omega | fail) only [↓E2, E3, bare, bareJ, ↓E0, E1, evP, evPlan, env0, envN, evOps, evOp, evQs, evQ, evV, setD, pureOp, ev, upd, updL, gate, binW, eqOp, binV, intOp, shOp, boolOp, unV, convV, nilV, fieldAddrV, indexAddrV, extractV, cellAt, cellsAt, findB, setB, fillL, buildV, Value.cells, lenV, minV, maxV, hav, sliceV, loV, hiV, bslQ, mksQ, appQ, partsOk, partsCells, delB, eqL, SameI, strOp, apzQ, cvtQ, capV, ↓reduceIte, Zj, Zk, Nat.reduceAdd, Nat.reduceLT, Nat.reduceEqDiff, Nat.reduceMul, Nat.reduceLeDiff, if_true, Zn, reduceCtorEq, ZA, eq_self, Int.reduceLE, Int.reduceLT, Int.reduceToNat, ne_eq, Nat.reduceSub, hl, hm]
    repeat refine And.intro (by omega) ?_
    repeat refine And.intro (by omega) ?_
    intro g
    simp only [List.map_cons, List.map_nil, updL, upd, Nat.reduceEqDiff, if_true, if_false, ↓reduceIte]
    refine hK _ _ ?_; clear hK K
    refine Cd.ret (thenR ?_)
    simp (maxSteps := 2000000) (disch := first | (simp only [E4, hl, hm] <;> omega) | omega | fail) only [↓E2, E3, bare, bareJ, ↓E0, E1, evP, evPlan, env0, envN, evOps, evOp, evQs, evQ, evV, setD, pureOp, ev, upd, updL, gate, binW, eqOp, binV, intOp, shOp, boolOp, unV, convV, nilV, fieldAddrV, indexAddrV, extractV, cellAt, cellsAt, findB, setB, fillL, buildV, Value.cells, lenV, minV, maxV, hav, sliceV, loV, hiV, bslQ, mksQ, appQ, partsOk, partsCells, delB, eqL, SameI, strOp, apzQ, cvtQ, capV, ↓reduceIte, Zj, Zk, Nat.reduceAdd, Nat.reduceLT, Nat.reduceEqDiff, Nat.reduceMul, Nat.reduceLeDiff, if_true, Zn, reduceCtorEq, ZA, eq_self, Int.reduceLE, Int.reduceLT, Int.reduceToNat, ne_eq, Nat.reduceSub, hl, hm]
    repeat refine And.intro (by omega) ?_
    exact ⟨[], SubP.of (List.nil_sublist _), wrapP_no (by simpa using h1)⟩
  · have hg : gridB s x o = true := by simpa using h1
    have hdiff := gridB_diff hg
    obtain ⟨n, rfl, hn2, hn, hp, hq⟩ := gridB_perm hg
    clear h1
    rw [Int.toNat_natCast] at hdiff ⊢
    have wl : (comps n x o).1.length = 8 := compTo_len (nextOf n x o) n
    have cb : (comps n x o).2 ≤ n := compTo_count (nextOf n x o) n
    have hst := comp_start (nextOf_lt hx ho hn hp hq) (nextOf_inj hx ho hn hp hq) hn n (Nat.le_refl _)
    have hgl : (gaussL n x o).length = (comps n x o).2 := by unfold gaussL; rw [List.length_map, wTo_len]; rfl
    obtain ⟨m, hm64, htr⟩ := crTo_trip n x o n (Nat.le_refl _)
    have hm64' : m ≤ 64 := by have := Nat.mul_le_mul hn hn; omega
    have hcC : cC n x o n = m := by have := cC_len n x o n; have := htr.1; omega
    have hcr := l03Crossings_c n x o hx ho hn
    have hnum : ∀ i r, i < n → r < n → numT (crTo n x o n) (i : Int) (r : Int) m = nm n x o i r := fun i r hi hr => by rw [← hcC]; exact num_all hi hr
    have hTl := htr.1
    have hWl : ∀ c i W, (wTo (nextOf n x o) n)[c]? = some (i :: W) → (cdW n x o (i :: W)).length ≤ 128 := fun c i W h => by
      have h1 := cdW_len n x o (i :: W)
      have h2 := wTo_each n _ (List.mem_of_getElem? h)
      have h3 := Nat.mul_le_mul (Nat.mul_le_mul (Nat.le_refl 2) hn) h2
      omega
    have hst : ∀ c, c < (comps n x o).2 → ∃ i, i < n ∧ (comps n x o).1.getD i 0 = (c : Int) ∧ (∀ j, j < i → (comps n x o).1.getD j 0 ≠ (c : Int)) ∧ ∃ W, (wTo (nextOf n x o) n)[c]? = some (i :: W) ∧ Ch (nextOf n x o) n i i (i :: W) := hst
    skip
    refine Cd.skip ?_
    refine thenN ?_
    refine Cd.rs [1, 4, 5] fun K hK => ?_
    simp (maxSteps := 2000000) (disch := first | (simp only [E4, hl, hm, wl] <;> omega) | omega | fail) only [↓E2, E3, bare, bareJ, ↓E0, E1, evP, evPlan, env0, envN, evOps, evOp, evQs, evQ, evV, setD, pureOp, ev, upd, updL, gate, binW, eqOp, binV, intOp, shOp, boolOp, unV, convV, nilV, fieldAddrV, indexAddrV, extractV, cellAt, cellsAt, findB, setB, fillL, buildV, Value.cells, lenV, minV, maxV, hav, sliceV, loV, hiV, bslQ, mksQ, appQ, partsOk, partsCells, delB, eqL, SameI, strOp, apzQ, cvtQ, capV, ↓reduceIte, Zj, Zk, Nat.reduceAdd, Nat.reduceLT, Nat.reduceEqDiff, Nat.reduceMul, Nat.reduceLeDiff, if_true, Zn, reduceCtorEq, ZA, eq_self, Int.reduceLE, Int.reduceLT, Int.reduceToNat, ne_eq, Nat.reduceSub, Tld32, Tst110, Tzero110, hl, hm, wl]
    repeat refine And.intro (by omega) ?_
    refine callK_gives (l01Components_c n x o hx ho hn hp hq) ?_
    simp (maxSteps := 2000000) (disch := first | (simp only [E4, hl, hm, wl] <;> omega) | omega | fail) only [↓E2, E3, bare, bareJ, ↓E0, E1, evP, evPlan, env0, envN, evOps, evOp, evQs, evQ, evV, setD, pureOp, ev, upd, updL, gate, binW, eqOp, binV, intOp, shOp, boolOp, unV, convV, nilV, fieldAddrV, indexAddrV, extractV, cellAt, cellsAt, findB, setB, fillL, buildV, Value.cells, lenV, minV, maxV, hav, sliceV, loV, hiV, bslQ, mksQ, appQ, partsOk, partsCells, delB, eqL, SameI, strOp, apzQ, cvtQ, capV, ↓reduceIte, Zj, Zk, Nat.reduceAdd, Nat.reduceLT, Nat.reduceEqDiff, Nat.reduceMul, Nat.reduceLeDiff, if_true, Zn, reduceCtorEq, ZA, eq_self, Int.reduceLE, Int.reduceLT, Int.reduceToNat, ne_eq, Nat.reduceSub, Tld32, Tst110, Tzero110, hl, hm, wl]
    repeat refine And.intro (by omega) ?_
    intro b2 hb2
    have nb2_b1 := hb2.ne
    try simp (maxSteps := 2000000) (disch := first | (simp only [E4, hl, hm, wl, nb2_b1] <;> omega) | omega | fail) only [↓E2, E3, bare, bareJ, ↓E0, E1, evP, evPlan, env0, envN, evOps, evOp, evQs, evQ, evV, setD, pureOp, ev, upd, updL, gate, binW, eqOp, binV, intOp, shOp, boolOp, unV, convV, nilV, fieldAddrV, indexAddrV, extractV, cellAt, cellsAt, findB, setB, fillL, buildV, Value.cells, lenV, minV, maxV, hav, sliceV, loV, hiV, bslQ, mksQ, appQ, partsOk, partsCells, delB, eqL, SameI, strOp, apzQ, cvtQ, capV, ↓reduceIte, Zj, Zk, Nat.reduceAdd, Nat.reduceLT, Nat.reduceEqDiff, Nat.reduceMul, Nat.reduceLeDiff, if_true, Zn, reduceCtorEq, ZA, eq_self, Int.reduceLE, Int.reduceLT, Int.reduceToNat, ne_eq, Nat.reduceSub, Tld32, Tst110, Tzero110, hl, hm, wl, nb2_b1]
    repeat refine And.intro (by omega) ?_
    repeat refine And.intro (by omega) ?_
    intro g
    simp only [List.map_cons, List.map_nil, updL, upd, Nat.reduceEqDiff, if_true, if_false, ↓reduceIte]
    refine hK _ _ ?_; clear hK K
    refine Cd.rs [1, 4, 5, 6, 7] fun K hK => ?_
    simp (maxSteps := 2000000) (disch := first | (simp only [E4, hl, hm, wl, nb2_b1] <;> omega) | omega | fail) only [↓E2, E3, bare, bareJ, ↓E0, E1, evP, evPlan, env0, envN, evOps, evOp, evQs, evQ, evV, setD, pureOp, ev, upd, updL, gate, binW, eqOp, binV, intOp, shOp, boolOp, unV, convV, nilV, fieldAddrV, indexAddrV, extractV, cellAt, cellsAt, findB, setB, fillL, buildV, Value.cells, lenV, minV, maxV, hav, sliceV, loV, hiV, bslQ, mksQ, appQ, partsOk, partsCells, delB, eqL, SameI, strOp, apzQ, cvtQ, capV, ↓reduceIte, Zj, Zk, Nat.reduceAdd, Nat.reduceLT, Nat.reduceEqDiff, Nat.reduceMul, Nat.reduceLeDiff, if_true, Zn, reduceCtorEq, ZA, eq_self, Int.reduceLE, Int.reduceLT, Int.reduceToNat, ne_eq, Nat.reduceSub, Tby47, Tld32, Tslc43, Tslce43, Tzero47, hl, hm, wl, nb2_b1]
    repeat refine And.intro (by omega) ?_
    refine callK_newR0 hcr (fun _ _ => toldW_nil) ?_
    rintro v' M' ⟨bc, mc, capc, restc, rfl, r1, r2, r3, rfl⟩ nd1 _
    obtain rfl : mc = m := by omega
    have hrc : SlN 3 (ints .i64 (crTo n x o n)) (.slice (some ⟨bc, 0, none⟩) mc capc) [(bc, ints .i64 (crTo n x o n) ++ restc)] := SlN.row ⟨by rw [ints_length]; exact r1, r2, r3, restc, rfl⟩
    generalize ints .i64 (crTo n x o n) ++ restc = csc at *
    have hrd := hrc.reads (R := toldOf [(bc, csc)]) fun p hp => mem_toldOf hp
    generalize (comps n x o).1 = w1 at *
    generalize (comps n x o).2 = c at *
    generalize crTo n x o n = l at *
    simp only [List.cons_append, List.nil_append]
    simp (maxSteps := 2000000) (disch := first | (simp only [E4, hl, hm, wl, nb2_b1] <;> omega) | omega | fail) only [↓E2, E3, bare, bareJ, ↓E0, E1, evP, evPlan, env0, envN, evOps, evOp, evQs, evQ, evV, setD, pureOp, ev, upd, updL, gate, binW, eqOp, binV, intOp, shOp, boolOp, unV, convV, nilV, fieldAddrV, indexAddrV, extractV, cellAt, cellsAt, findB, setB, fillL, buildV, Value.cells, lenV, minV, maxV, hav, sliceV, loV, hiV, bslQ, mksQ, appQ, partsOk, partsCells, delB, eqL, SameI, strOp, apzQ, cvtQ, capV, ↓reduceIte, Zj, Zk, Nat.reduceAdd, Nat.reduceLT, Nat.reduceEqDiff, Nat.reduceMul, Nat.reduceLeDiff, if_true, Zn, reduceCtorEq, ZA, eq_self, Int.reduceLE, Int.reduceLT, Int.reduceToNat, ne_eq, Nat.reduceSub, Tby47, Tld32, Tslc43, Tslce43, Tzero47, hl, hm, wl, nb2_b1]
    repeat refine And.intro (by omega) ?_
    intro b3 hb3
    have nb3_b2 := hb3.ne
    have nb3_b1 := hb3.tail.ne
    try simp (maxSteps := 2000000) (disch := first | (simp only [E4, hl, hm, wl, nb2_b1, nb3_b2, nb3_b1] <;> omega) | omega | fail) only [↓E2, E3, bare, bareJ, ↓E0, E1, evP, evPlan, env0, envN, evOps, evOp, evQs, evQ, evV, setD, pureOp, ev, upd, updL, gate, binW, eqOp, binV, intOp, shOp, boolOp, unV, convV, nilV, fieldAddrV, indexAddrV, extractV, cellAt, cellsAt, findB, setB, fillL, buildV, Value.cells, lenV, minV, maxV, hav, sliceV, loV, hiV, bslQ, mksQ, appQ, partsOk, partsCells, delB, eqL, SameI, strOp, apzQ, cvtQ, capV, ↓reduceIte, Zj, Zk, Nat.reduceAdd, Nat.reduceLT, Nat.reduceEqDiff, Nat.reduceMul, Nat.reduceLeDiff, if_true, Zn, reduceCtorEq, ZA, eq_self, Int.reduceLE, Int.reduceLT, Int.reduceToNat, ne_eq, Nat.reduceSub, Tby47, Tld32, Tslc43, Tslce43, Tzero47, hl, hm, wl, nb2_b1, nb3_b2, nb3_b1]
    repeat refine And.intro (by omega) ?_
    repeat refine And.intro (by omega) ?_
    intro g
    simp only [List.map_cons, List.map_nil, updL, upd, Nat.reduceEqDiff, if_true, if_false, ↓reduceIte]
    refine hK _ _ ?_; clear hK K
    refine Cd.seq ?_
    refine Cd.rs [1, 4, 5, 6, 7, 8] fun K hK => ?_
    simp (maxSteps := 2000000) (disch := first | (simp only [E4, hl, hm, wl, nb2_b1, nb3_b2, nb3_b1] <;> omega) | omega | fail) only [↓E2, E3, bare, bareJ, ↓E0, E1, evP, evPlan, env0, envN, evOps, evOp, evQs, evQ, evV, setD, pureOp, ev, upd, updL, gate, binW, eqOp, binV, intOp, shOp, boolOp, unV, convV, nilV, fieldAddrV, indexAddrV, extractV, cellAt, cellsAt, findB, setB, fillL, buildV, Value.cells, lenV, minV, maxV, hav, sliceV, loV, hiV, bslQ, mksQ, appQ, partsOk, partsCells, delB, eqL, SameI, strOp, apzQ, cvtQ, capV, ↓reduceIte, Zj, Zk, Nat.reduceAdd, Nat.reduceLT, Nat.reduceEqDiff, Nat.reduceMul, Nat.reduceLeDiff, if_true, Zn, reduceCtorEq, ZA, eq_self, Int.reduceLE, Int.reduceLT, Int.reduceToNat, ne_eq, Nat.reduceSub, hl, hm, wl, nb2_b1, nb3_b2, nb3_b1]
    repeat refine And.intro (by omega) ?_
    repeat refine And.intro (by omega) ?_
    intro g
    simp only [List.map_cons, List.map_nil, updL, upd, Nat.reduceEqDiff, if_true, if_false, ↓reduceIte]
    refine hK _ _ ?_; clear hK K
    refine Cd.block ?_
    refine Cd.loop (fun q ρ M => ∃ g p bo cap cs vs Mi, p + q = c ∧ Row 1 vs p cap cs ∧ RowsI ((gaussL n x o).take p) vs Mi ∧ ρ = updL [(1, .pointer (some ⟨b1, 0, none⟩)), (4, .pointer (some ⟨b2, 0, none⟩)), (5, .int .i64 (c : Int)), (6, .slice (some ⟨bc, 0, none⟩) mc capc), (7, .slice (some ⟨bo, 0, none⟩) p cap), (8, .int .i64 (p : Int))] g ∧
      SubP ((bo, cs) :: (b2, ints .i64 w1) :: (b1, gc (n : Int) x o) :: (bc, csc) :: Mi) M) c ⟨_, 0, b3, 0, [], [], [], Nat.zero_add _, Row.nil 1, RowsI.nil, rfl, SubP.refl _⟩ ?_
    rintro qo ρ M ⟨g, p, bo, cap, cs, vs, Mi, hpq, hrow, hrows, rfl, hM⟩
    refine Cd.sub hM ?_
    clear hM M
    refine Cd.seq ?_
    refine Cd.rs [1, 4, 5, 6, 7, 8, 26] fun K hK => ?_
    simp (maxSteps := 2000000) (disch := first | (simp only [E4, hl, hm, wl, nb2_b1, nb3_b2, nb3_b1] <;> omega) | omega | fail) only [↓E2, E3, bare, bareJ, ↓E0, E1, evP, evPlan, env0, envN, evOps, evOp, evQs, evQ, evV, setD, pureOp, ev, upd, updL, gate, binW, eqOp, binV, intOp, shOp, boolOp, unV, convV, nilV, fieldAddrV, indexAddrV, extractV, cellAt, cellsAt, findB, setB, fillL, buildV, Value.cells, lenV, minV, maxV, hav, sliceV, loV, hiV, bslQ, mksQ, appQ, partsOk, partsCells, delB, eqL, SameI, strOp, apzQ, cvtQ, capV, ↓reduceIte, Zj, Zk, Nat.reduceAdd, Nat.reduceLT, Nat.reduceEqDiff, Nat.reduceMul, Nat.reduceLeDiff, if_true, Zn, reduceCtorEq, ZA, eq_self, Int.reduceLE, Int.reduceLT, Int.reduceToNat, ne_eq, Nat.reduceSub, hl, hm, wl, nb2_b1, nb3_b2, nb3_b1]
    repeat refine And.intro (by omega) ?_
    repeat refine And.intro (by omega) ?_
    intro g
    simp only [List.map_cons, List.map_nil, updL, upd, Nat.reduceEqDiff, if_true, if_false, ↓reduceIte]
    refine hK _ _ ?_; clear hK K
    refine Cd.condd rfl (fun h3 => ?_) (fun h3 => ?_)
    · obtain ⟨i, hi, hwi, hwj, W, hW, hCh⟩ := hst p (by omega)
      have hWl2 := hWl p i W hW
      refine Cd.skip ?_
      refine thenN ?_
      refine Cd.seq ?_
      refine Cd.block ?_
      refine Cd.rs [1, 4, 5, 6, 7, 8, 9] fun K hK => ?_
      simp (maxSteps := 2000000) (disch := first | (simp only [E4, hl, hm, wl, nb2_b1, nb3_b2, nb3_b1] <;> omega) | omega | fail) only [↓E2, E3, bare, bareJ, ↓E0, E1, evP, evPlan, env0, envN, evOps, evOp, evQs, evQ, evV, setD, pureOp, ev, upd, updL, gate, binW, eqOp, binV, intOp, shOp, boolOp, unV, convV, nilV, fieldAddrV, indexAddrV, extractV, cellAt, cellsAt, findB, setB, fillL, buildV, Value.cells, lenV, minV, maxV, hav, sliceV, loV, hiV, bslQ, mksQ, appQ, partsOk, partsCells, delB, eqL, SameI, strOp, apzQ, cvtQ, capV, ↓reduceIte, Zj, Zk, Nat.reduceAdd, Nat.reduceLT, Nat.reduceEqDiff, Nat.reduceMul, Nat.reduceLeDiff, if_true, Zn, reduceCtorEq, ZA, eq_self, Int.reduceLE, Int.reduceLT, Int.reduceToNat, ne_eq, Nat.reduceSub, hl, hm, wl, nb2_b1, nb3_b2, nb3_b1]
      repeat refine And.intro (by omega) ?_
      repeat refine And.intro (by omega) ?_
      intro g
      simp only [List.map_cons, List.map_nil, updL, upd, Nat.reduceEqDiff, if_true, if_false, ↓reduceIte]
      refine hK _ _ ?_; clear hK K
      refine Cd.nodup fun hnd2 => ?_
      have d1 : (bo = b2) = False := eq_false ((nodup_cases hnd2).1 (b2, ints .i64 w1) (by simp))
      have d2 : (bo = b1) = False := eq_false ((nodup_cases hnd2).1 (b1, gc (n : Int) x o) (by simp))
      have d3 : (bo = bc) = False := eq_false ((nodup_cases hnd2).1 (bc, csc) (by simp))
      have d4 : (b2 = b1) = False := eq_false ((nodup_cases (nodup_cases hnd2).2).1 (b1, gc (n : Int) x o) (by simp))
      have d5 : (b2 = bc) = False := eq_false ((nodup_cases (nodup_cases hnd2).2).1 (bc, csc) (by simp))
      have d6 : (b1 = bc) = False := eq_false ((nodup_cases (nodup_cases (nodup_cases hnd2).2).2).1 (bc, csc) (by simp))
      skip
      skip
      clear hnd2
      refine Cd.seq ?_
      refine Cd.block ?_
      refine Cd.loop (fun q ρ M => ∃ g j, j + q = i ∧ ρ = updL [(1, .pointer (some ⟨b1, 0, none⟩)), (4, .pointer (some ⟨b2, 0, none⟩)), (5, .int .i64 (c : Int)), (6, .slice (some ⟨bc, 0, none⟩) mc capc), (7, .slice (some ⟨bo, 0, none⟩) p cap), (8, .int .i64 (p : Int)), (9, .int .i64 (j : Int))] g ∧
        M = (bo, cs) :: (b2, ints .i64 w1) :: (b1, gc (n : Int) x o) :: (bc, csc) :: Mi) i ⟨_, 0, Nat.zero_add _, rfl, rfl⟩ ?_
      rintro q ρ M ⟨g, j, hj, rfl, rfl⟩
      refine Cd.seq ?_
      refine Cd.rs [1, 4, 5, 6, 7, 8, 9, 33] fun K hK => ?_
      simp (maxSteps := 2000000) (disch := first | (simp only [E4, hl, hm, wl, nb2_b1, nb3_b2, nb3_b1, d1, d2, d3, d4, d5, d6] <;> omega) | omega | fail) only [↓E2, E3, bare, bareJ, ↓E0, E1, evP, evPlan, env0, envN, evOps, evOp, evQs, evQ, evV, setD, pureOp, ev, upd, updL, gate, binW, eqOp, binV, intOp, shOp, boolOp, unV, convV, nilV, fieldAddrV, indexAddrV, extractV, cellAt, cellsAt, findB, setB, fillL, buildV, Value.cells, lenV, minV, maxV, hav, sliceV, loV, hiV, bslQ, mksQ, appQ, partsOk, partsCells, delB, eqL, SameI, strOp, apzQ, cvtQ, capV, ↓reduceIte, Zj, Zk, Nat.reduceAdd, Nat.reduceLT, Nat.reduceEqDiff, Nat.reduceMul, Nat.reduceLeDiff, if_true, Zn, reduceCtorEq, ZA, eq_self, Int.reduceLE, Int.reduceLT, Int.reduceToNat, ne_eq, Nat.reduceSub, Tarr110, Tld2, hl, hm, wl, nb2_b1, nb3_b2, nb3_b1, d1, d2, d3, d4, d5, d6]
      repeat refine And.intro (by omega) ?_
      repeat refine And.intro (by omega) ?_
      intro g
      simp only [List.map_cons, List.map_nil, updL, upd, Nat.reduceEqDiff, if_true, if_false, ↓reduceIte]
      refine hK _ _ ?_; clear hK K
      refine Cd.cond rfl (fun h4 => ?_) (fun h4 => ?_)
      · simp only [decide_eq_true_eq, decide_eq_false_iff_not, beq_iff_eq, beq_eq_false_iff_ne, bne_iff_ne, bne_eq_false_iff_eq, Bool.and_eq_true, Bool.or_eq_true, Bool.or_eq_false_iff, Bool.not_eq_true', Bool.not_eq_false', Bool.and_eq_false_imp, ne_eq, gt_iff_lt, ge_iff_le, Int.not_lt, Int.not_le, Classical.not_not] at h4
        have hji : j < i := by
          rcases Nat.lt_or_ge j i with h5 | h5
          · exact h5
          · rw [show j = i by omega] at h4
            exact absurd hwi h4
        refine Cd.skip ?_
        refine thenN ?_
        refine Cd.block ?_
        refine Cd.rr [1, 4, 5, 6, 7, 8, 9] fun K hK => ?_
        simp (maxSteps := 2000000) (disch := first | (simp only [E4, hl, hm, wl, nb2_b1, nb3_b2, nb3_b1, d1, d2, d3, d4, d5, d6] <;> omega) | omega | fail) only [↓E2, E3, bare, bareJ, ↓E0, E1, evP, evPlan, env0, envN, evOps, evOp, evQs, evQ, evV, setD, pureOp, ev, upd, updL, gate, binW, eqOp, binV, intOp, shOp, boolOp, unV, convV, nilV, fieldAddrV, indexAddrV, extractV, cellAt, cellsAt, findB, setB, fillL, buildV, Value.cells, lenV, minV, maxV, hav, sliceV, loV, hiV, bslQ, mksQ, appQ, partsOk, partsCells, delB, eqL, SameI, strOp, apzQ, cvtQ, capV, ↓reduceIte, Zj, Zk, Nat.reduceAdd, Nat.reduceLT, Nat.reduceEqDiff, Nat.reduceMul, Nat.reduceLeDiff, if_true, Zn, reduceCtorEq, ZA, eq_self, Int.reduceLE, Int.reduceLT, Int.reduceToNat, ne_eq, Nat.reduceSub, hl, hm, wl, nb2_b1, nb3_b2, nb3_b1, d1, d2, d3, d4, d5, d6]
        repeat refine And.intro (by omega) ?_
        repeat refine And.intro (by omega) ?_
        intro g
        simp only [List.map_cons, List.map_nil, updL, upd, Nat.reduceEqDiff, if_true, if_false, ↓reduceIte]
        refine hK _ _ ?_; clear hK K
        refine inBN ?_
        exact roundN (m := q - 1) (by omega) ⟨_, j + 1, by omega, rfl, rfl⟩
      · simp only [decide_eq_true_eq, decide_eq_false_iff_not, beq_iff_eq, beq_eq_false_iff_ne, bne_iff_ne, bne_eq_false_iff_eq, Bool.and_eq_true, Bool.or_eq_true, Bool.or_eq_false_iff, Bool.not_eq_true', Bool.not_eq_false', Bool.and_eq_false_imp, ne_eq, gt_iff_lt, ge_iff_le, Int.not_lt, Int.not_le, Classical.not_not] at h4
        have hji : j = i := by
          rcases Nat.lt_or_ge j i with h5 | h5
          · exact absurd h4 (hwj j h5)
          · omega
        subst hji
        refine Cd.exit (thenX (roundX (inBX ?_)))
        refine thenN ?_
        refine Cd.rs [1, 4, 5, 6, 7, 8, 9, 10, 11] fun K hK => ?_
        simp (maxSteps := 2000000) (disch := first | (simp only [E4, hl, hm, wl, nb2_b1, nb3_b2, nb3_b1, d1, d2, d3, d4, d5, d6] <;> omega) | omega | fail) only [↓E2, E3, bare, bareJ, ↓E0, E1, evP, evPlan, env0, envN, evOps, evOp, evQs, evQ, evV, setD, pureOp, ev, upd, updL, gate, binW, eqOp, binV, intOp, shOp, boolOp, unV, convV, nilV, fieldAddrV, indexAddrV, extractV, cellAt, cellsAt, findB, setB, fillL, buildV, Value.cells, lenV, minV, maxV, hav, sliceV, loV, hiV, bslQ, mksQ, appQ, partsOk, partsCells, delB, eqL, SameI, strOp, apzQ, cvtQ, capV, ↓reduceIte, Zj, Zk, Nat.reduceAdd, Nat.reduceLT, Nat.reduceEqDiff, Nat.reduceMul, Nat.reduceLeDiff, if_true, Zn, reduceCtorEq, ZA, eq_self, Int.reduceLE, Int.reduceLT, Int.reduceToNat, ne_eq, Nat.reduceSub, Tby2, Tslc47, Tslce47, Tzero2, hl, hm, wl, nb2_b1, nb3_b2, nb3_b1, d1, d2, d3, d4, d5, d6]
        repeat refine And.intro (by omega) ?_
        intro b4 hb4
        have nb4_bc := hb4.ne
        have nb4_b1 := hb4.tail.ne
        have nb4_b2 := hb4.tail.tail.ne
        have nb4_bo := hb4.tail.tail.tail.ne
        try simp (maxSteps := 2000000) (disch := first | (simp only [E4, hl, hm, wl, nb2_b1, nb3_b2, nb3_b1, d1, d2, d3, d4, d5, d6, nb4_bc, nb4_b1, nb4_b2, nb4_bo] <;> omega) | omega | fail) only [↓E2, E3, bare, bareJ, ↓E0, E1, evP, evPlan, env0, envN, evOps, evOp, evQs, evQ, evV, setD, pureOp, ev, upd, updL, gate, binW, eqOp, binV, intOp, shOp, boolOp, unV, convV, nilV, fieldAddrV, indexAddrV, extractV, cellAt, cellsAt, findB, setB, fillL, buildV, Value.cells, lenV, minV, maxV, hav, sliceV, loV, hiV, bslQ, mksQ, appQ, partsOk, partsCells, delB, eqL, SameI, strOp, apzQ, cvtQ, capV, ↓reduceIte, Zj, Zk, Nat.reduceAdd, Nat.reduceLT, Nat.reduceEqDiff, Nat.reduceMul, Nat.reduceLeDiff, if_true, Zn, reduceCtorEq, ZA, eq_self, Int.reduceLE, Int.reduceLT, Int.reduceToNat, ne_eq, Nat.reduceSub, Tby2, Tslc47, Tslce47, Tzero2, hl, hm, wl, nb2_b1, nb3_b2, nb3_b1, d1, d2, d3, d4, d5, d6, nb4_bc, nb4_b1, nb4_b2, nb4_bo]
        repeat refine And.intro (by omega) ?_
        repeat refine And.intro (by omega) ?_
        intro g
        simp only [List.map_cons, List.map_nil, updL, upd, Nat.reduceEqDiff, if_true, if_false, ↓reduceIte]
        refine hK _ _ ?_; clear hK K
        refine Cd.seq ?_
        refine Cd.block ?_
        refine Cd.loop (fun q ρ M => ∃ g k V own v1 L1, q = V.length ∧ Ch (nextOf n x o) n j k (k :: V) ∧ own ++ cdW n x o (k :: V) = cdW n x o (j :: W) ∧ SlN 1 (ints .i64 own) v1 L1 ∧ ρ = updL [(1, .pointer (some ⟨b1, 0, none⟩)), (4, .pointer (some ⟨b2, 0, none⟩)), (5, .int .i64 (c : Int)), (6, .slice (some ⟨bc, 0, none⟩) mc capc), (7, .slice (some ⟨bo, 0, none⟩) p cap), (8, .int .i64 (p : Int)), (9, .int .i64 (j : Int)), (10, v1), (11, .int .i64 (k : Int))] g ∧
          SubP ((bo, cs) :: (b2, ints .i64 w1) :: (b1, gc (n : Int) x o) :: (bc, csc) :: (Mi ++ L1)) M) W.length ⟨_, j, W, [], _, [(b4, [])], rfl, hCh, rfl, SlN.row (Row.nil 1), rfl, ?_⟩ ?_
        · exact .perm (M1 := (b4, []) :: (bo, cs) :: (b2, ints .i64 w1) :: (b1, gc (n : Int) x o) :: (bc, csc) :: Mi) (List.perm_append_comm (l₁ := (bo, cs) :: (b2, ints .i64 w1) :: (b1, gc (n : Int) x o) :: (bc, csc) :: Mi) (l₂ := [(b4, [])])) (List.Sublist.refl _)
        rintro q ρ M ⟨g, k, V, own, v1, L1, rfl, ⟨_, hk, hVne, hChV⟩, hown, hv1, rfl, hM⟩
        refine Cd.sub hM ?_
        clear hM M
        skip
        have hol : own.length ≤ 128 := by
          have := congrArg List.length hown
          rw [List.length_append] at this
          omega
        obtain ⟨a, ea, ha⟩ := nat_at hx hn hk hp
        obtain ⟨b, eb, hb⟩ := nat_at ho hn hk hq
        have hab : a ≠ b := fun e => hdiff k hk (by rw [ea, eb, e])
        have hnx := nextOf_lt hx ho hn hp hq k hk
        have hnk := next_ne hx ho hn hp hq hdiff hk
        have hcd := cdL_eq (n := n) (x := x) (o := o) ea eb
        have hzv := fun j hj => zero_v (n := n) (x := x) (o := o) ea eb j hj
        have hzh := fun j hj => zero_h (n := n) (x := x) (o := o) hq hk eb j hj
        have hfol := l01Follow_c n x o hx ho hn k (by omega)
        generalize nextOf n x o k = k2 at *
        refine Cd.block ?_
        refine Cd.rs [1, 4, 5, 6, 7, 8, 9, 10, 11, 12] fun K hK => ?_
        simp (maxSteps := 2000000) (disch := first | (simp only [E4, hl, hm, wl, nb2_b1, nb3_b2, nb3_b1, d1, d2, d3, d4, d5, d6, nb4_bc, nb4_b1, nb4_b2, nb4_bo] <;> omega) | omega | fail) only [↓E2, E3, bare, bareJ, ↓E0, E1, evP, evPlan, env0, envN, evOps, evOp, evQs, evQ, evV, setD, pureOp, ev, upd, updL, gate, binW, eqOp, binV, intOp, shOp, boolOp, unV, convV, nilV, fieldAddrV, indexAddrV, extractV, cellAt, cellsAt, findB, setB, fillL, buildV, Value.cells, lenV, minV, maxV, hav, sliceV, loV, hiV, bslQ, mksQ, appQ, partsOk, partsCells, delB, eqL, SameI, strOp, apzQ, cvtQ, capV, ↓reduceIte, Zj, Zk, Nat.reduceAdd, Nat.reduceLT, Nat.reduceEqDiff, Nat.reduceMul, Nat.reduceLeDiff, if_true, Zn, reduceCtorEq, ZA, eq_self, Int.reduceLE, Int.reduceLT, Int.reduceToNat, ne_eq, Nat.reduceSub, Tld32, hl, hm, wl, nb2_b1, nb3_b2, nb3_b1, d1, d2, d3, d4, d5, d6, nb4_bc, nb4_b1, nb4_b2, nb4_bo]
        repeat refine And.intro (by omega) ?_
        refine callK_gives hfol ?_
        simp (maxSteps := 2000000) (disch := first | (simp only [E4, hl, hm, wl, nb2_b1, nb3_b2, nb3_b1, d1, d2, d3, d4, d5, d6, nb4_bc, nb4_b1, nb4_b2, nb4_bo] <;> omega) | omega | fail) only [↓E2, E3, bare, bareJ, ↓E0, E1, evP, evPlan, env0, envN, evOps, evOp, evQs, evQ, evV, setD, pureOp, ev, upd, updL, gate, binW, eqOp, binV, intOp, shOp, boolOp, unV, convV, nilV, fieldAddrV, indexAddrV, extractV, cellAt, cellsAt, findB, setB, fillL, buildV, Value.cells, lenV, minV, maxV, hav, sliceV, loV, hiV, bslQ, mksQ, appQ, partsOk, partsCells, delB, eqL, SameI, strOp, apzQ, cvtQ, capV, ↓reduceIte, Zj, Zk, Nat.reduceAdd, Nat.reduceLT, Nat.reduceEqDiff, Nat.reduceMul, Nat.reduceLeDiff, if_true, Zn, reduceCtorEq, ZA, eq_self, Int.reduceLE, Int.reduceLT, Int.reduceToNat, ne_eq, Nat.reduceSub, Tld32, hl, hm, wl, nb2_b1, nb3_b2, nb3_b1, d1, d2, d3, d4, d5, d6, nb4_bc, nb4_b1, nb4_b2, nb4_bo]
        repeat refine And.intro (by omega) ?_
        repeat refine And.intro (by omega) ?_
        intro g
        simp only [List.map_cons, List.map_nil, updL, upd, Nat.reduceEqDiff, if_true, if_false, ↓reduceIte]
        refine hK _ _ ?_; clear hK K
        refine Cd.nodup fun hnd5 => ?_
        have hnotL : ∀ v, (bc, v) ∉ L1 := fun v hv => by
          have h1 := (nodup_cases (nodup_cases (nodup_cases (nodup_cases hnd5).2).2).2).1 (bc, v) (List.mem_append_right _ hv)
          exact h1 rfl
        have hc1 := l03Met_c l mc hTl hm64' (toldOf [(bc, csc)]) _ hrd n hn k a b hk ha hb hab true (nm n x o k) (fun r hr => by rw [if_pos rfl]; exact (hnum k r hk hr).symm) (fun r hr h => hzv r h) own v1 L1 hv1 (by omega) (fun a c b hm v hv => by
          simp only [toldOf, List.map_cons, List.map_nil, List.mem_singleton, Prod.mk.injEq] at hm
          obtain ⟨rfl, _⟩ := hm
          exact hnotL v hv)
        have hxa : x[k]? = some (a : Int) := by
          rw [← ea, List.getD_eq_getElem?_getD, List.getElem?_eq_getElem (by omega)]; rfl
        have hoa : o[k]? = some (b : Int) := by
          rw [← eb, List.getD_eq_getElem?_getD, List.getElem?_eq_getElem (by omega)]; rfl
        skip
        refine Cd.ps [1, 4, 5, 6, 7, 8, 9, 10, 11, 12] (Plan.take 0 (Plan.take 1 (Plan.take 2 (Plan.take 3 (Plan.take 4 (Plan.take 5 (Plan.take 6 (Plan.take 7 (Plan.take 8 (Plan.take 9 (Plan.take 10 (Plan.take 11 (Plan.take 12 (Plan.one 13 (Plan.take 14 (Plan.done)))))))))))))))) fol (by kernel_rfl) (Nat.le_of_ble_eq_true rfl) fun K hK => ?_
        simp (maxSteps := 2000000) (disch := first | (simp only [E4, hl, hm, wl, nb2_b1, nb3_b2, nb3_b1, d1, d2, d3, d4, d5, d6, nb4_bc, nb4_b1, nb4_b2, nb4_bo, ea, eb] <;> omega) | omega | fail) only [↓E2, E3, bare, bareJ, ↓E0, E1, evP, evPlan, env0, envN, evOps, evOp, evQs, evQ, evV, setD, pureOp, ev, upd, updL, gate, binW, eqOp, binV, intOp, shOp, boolOp, unV, convV, nilV, fieldAddrV, indexAddrV, extractV, cellAt, cellsAt, findB, setB, fillL, buildV, Value.cells, lenV, minV, maxV, hav, sliceV, loV, hiV, bslQ, mksQ, appQ, partsOk, partsCells, delB, eqL, SameI, strOp, apzQ, cvtQ, capV, ↓reduceIte, Zj, Zk, Nat.reduceAdd, Nat.reduceLT, Nat.reduceEqDiff, Nat.reduceMul, Nat.reduceLeDiff, if_true, Zn, reduceCtorEq, ZA, eq_self, Int.reduceLE, Int.reduceLT, Int.reduceToNat, ne_eq, Nat.reduceSub, Tarr30, Tfld32_1, Tfld32_2, Tint2, Tld5, Tpar5, ↓YR, hl, hm, wl, nb2_b1, nb3_b2, nb3_b1, d1, d2, d3, d4, d5, d6, nb4_bc, nb4_b1, nb4_b2, nb4_bo, ea, eb]
        refine ⟨by omega, by omega, ?_⟩
        refine callO_lentC (cs := []) (Mr := (bo, cs) :: (b2, ints .i64 w1) :: (b1, gc (n : Int) x o) :: (bc, csc) :: Mi) hc1 (by simpa using hnd5) rfl (toldW_mem (fun p hp => by simp only [List.mem_singleton] at hp; simp [hp])) ?_
        intro v2 M2 hv2 nd2 _
        obtain ⟨a2, m2, cap2, rfl⟩ := id hv2.form
        try simp only [List.cons_append] at nd2 ⊢
        simp (maxSteps := 2000000) (disch := first | (simp only [E4, hl, hm, wl, nb2_b1, nb3_b2, nb3_b1, d1, d2, d3, d4, d5, d6, nb4_bc, nb4_b1, nb4_b2, nb4_bo, ea, eb] <;> omega) | omega | fail) only [↓E2, E3, bare, bareJ, ↓E0, E1, evP, evPlan, env0, envN, evOps, evOp, evQs, evQ, evV, setD, pureOp, ev, upd, updL, gate, binW, eqOp, binV, intOp, shOp, boolOp, unV, convV, nilV, fieldAddrV, indexAddrV, extractV, cellAt, cellsAt, findB, setB, fillL, buildV, Value.cells, lenV, minV, maxV, hav, sliceV, loV, hiV, bslQ, mksQ, appQ, partsOk, partsCells, delB, eqL, SameI, strOp, apzQ, cvtQ, capV, ↓reduceIte, Zj, Zk, Nat.reduceAdd, Nat.reduceLT, Nat.reduceEqDiff, Nat.reduceMul, Nat.reduceLeDiff, if_true, Zn, reduceCtorEq, ZA, eq_self, Int.reduceLE, Int.reduceLT, Int.reduceToNat, ne_eq, Nat.reduceSub, Tarr30, Tfld32_1, Tfld32_2, Tint2, Tld5, Tpar5, ↓YR, hl, hm, wl, nb2_b1, nb3_b2, nb3_b1, d1, d2, d3, d4, d5, d6, nb4_bc, nb4_b1, nb4_b2, nb4_bo, ea, eb]
        repeat refine And.intro (by omega) ?_
        intro g
        simp only [List.map_cons, List.map_nil, updL, upd, Nat.reduceEqDiff, if_true, if_false, ↓reduceIte]
        refine hK _ _ ?_; clear hK K
        have hl2 : (own ++ if b < a then (fz (nm n x o k) n).reverse else fz (nm n x o k) n).length ≤ 200 := by
          have := fz_len (F := nm n x o k) n
          rw [List.length_append]
          split <;> first | omega | (simp only [List.length_reverse]; omega)
        have hnotL2 : ∀ v, (bc, v) ∉ M2 := fun v hv => by
          have h1 := (nodup_cases (nodup_cases (nodup_cases (nodup_cases nd2).2).2).2).1 (bc, v) (List.mem_append_right _ hv)
          exact h1 rfl
        have hc2 := l03Met_c l mc hTl hm64' (toldOf [(bc, csc)]) _ hrd n hn b k k2 hb hk hnx hnk false (fun j => -nm n x o j b) (fun r hr => by rw [if_neg (by decide)]; exact congrArg Neg.neg (hnum r b hr hb).symm) (fun r hr h => hzh r h) _ _ M2 hv2 (by omega) (fun a c b hm v hv => by
          simp only [toldOf, List.map_cons, List.map_nil, List.mem_singleton, Prod.mk.injEq] at hm
          obtain ⟨rfl, _⟩ := hm
          exact hnotL2 v hv)
        rw [List.append_assoc, ← hcd] at hc2
        refine Cd.rs [1, 4, 5, 6, 7, 8, 9, 10, 12] fun K hK => ?_
        simp (maxSteps := 2000000) (disch := first | (simp only [E4, hl, hm, wl, nb2_b1, nb3_b2, nb3_b1, d1, d2, d3, d4, d5, d6, nb4_bc, nb4_b1, nb4_b2, nb4_bo, ea, eb] <;> omega) | omega | fail) only [↓E2, E3, bare, bareJ, ↓E0, E1, evP, evPlan, env0, envN, evOps, evOp, evQs, evQ, evV, setD, pureOp, ev, upd, updL, gate, binW, eqOp, binV, intOp, shOp, boolOp, unV, convV, nilV, fieldAddrV, indexAddrV, extractV, cellAt, cellsAt, findB, setB, fillL, buildV, Value.cells, lenV, minV, maxV, hav, sliceV, loV, hiV, bslQ, mksQ, appQ, partsOk, partsCells, delB, eqL, SameI, strOp, apzQ, cvtQ, capV, ↓reduceIte, Zj, Zk, Nat.reduceAdd, Nat.reduceLT, Nat.reduceEqDiff, Nat.reduceMul, Nat.reduceLeDiff, if_true, Zn, reduceCtorEq, ZA, eq_self, Int.reduceLE, Int.reduceLT, Int.reduceToNat, ne_eq, Nat.reduceSub, Tarr30, Tfld32_2, Tint2, Tld5, Tpar5, hl, hm, wl, nb2_b1, nb3_b2, nb3_b1, d1, d2, d3, d4, d5, d6, nb4_bc, nb4_b1, nb4_b2, nb4_bo, ea, eb]
        repeat refine And.intro (by omega) ?_
        refine callK_lentB0 (Mr := (bo, cs) :: (b2, ints .i64 w1) :: (b1, gc (n : Int) x o) :: (bc, csc) :: Mi) hc2 (by simpa using nd2) rfl (toldW_mem (fun p hp => by simp only [List.mem_singleton] at hp; simp [hp])) ?_
        intro v3 M3 hv3 nd3 _
        obtain ⟨a3, m3, cap3, rfl⟩ := id hv3.form
        try simp only [List.cons_append] at nd3 ⊢
        simp (maxSteps := 2000000) (disch := first | (simp only [E4, hl, hm, wl, nb2_b1, nb3_b2, nb3_b1, d1, d2, d3, d4, d5, d6, nb4_bc, nb4_b1, nb4_b2, nb4_bo, ea, eb] <;> omega) | omega | fail) only [↓E2, E3, bare, bareJ, ↓E0, E1, evP, evPlan, env0, envN, evOps, evOp, evQs, evQ, evV, setD, pureOp, ev, upd, updL, gate, binW, eqOp, binV, intOp, shOp, boolOp, unV, convV, nilV, fieldAddrV, indexAddrV, extractV, cellAt, cellsAt, findB, setB, fillL, buildV, Value.cells, lenV, minV, maxV, hav, sliceV, loV, hiV, bslQ, mksQ, appQ, partsOk, partsCells, delB, eqL, SameI, strOp, apzQ, cvtQ, capV, ↓reduceIte, Zj, Zk, Nat.reduceAdd, Nat.reduceLT, Nat.reduceEqDiff, Nat.reduceMul, Nat.reduceLeDiff, if_true, Zn, reduceCtorEq, ZA, eq_self, Int.reduceLE, Int.reduceLT, Int.reduceToNat, ne_eq, Nat.reduceSub, Tarr30, Tfld32_2, Tint2, Tld5, Tpar5, hl, hm, wl, nb2_b1, nb3_b2, nb3_b1, d1, d2, d3, d4, d5, d6, nb4_bc, nb4_b1, nb4_b2, nb4_bo, ea, eb]
        repeat refine And.intro (by omega) ?_
        repeat refine And.intro (by omega) ?_
        intro g
        simp only [List.map_cons, List.map_nil, updL, upd, Nat.reduceEqDiff, if_true, if_false, ↓reduceIte]
        refine hK _ _ ?_; clear hK K
        refine Cd.rs [1, 4, 5, 6, 7, 8, 9, 10, 11] fun K hK => ?_
        simp (maxSteps := 2000000) (disch := first | (simp only [E4, hl, hm, wl, nb2_b1, nb3_b2, nb3_b1, d1, d2, d3, d4, d5, d6, nb4_bc, nb4_b1, nb4_b2, nb4_bo, ea, eb] <;> omega) | omega | fail) only [↓E2, E3, bare, bareJ, ↓E0, E1, evP, evPlan, env0, envN, evOps, evOp, evQs, evQ, evV, setD, pureOp, ev, upd, updL, gate, binW, eqOp, binV, intOp, shOp, boolOp, unV, convV, nilV, fieldAddrV, indexAddrV, extractV, cellAt, cellsAt, findB, setB, fillL, buildV, Value.cells, lenV, minV, maxV, hav, sliceV, loV, hiV, bslQ, mksQ, appQ, partsOk, partsCells, delB, eqL, SameI, strOp, apzQ, cvtQ, capV, ↓reduceIte, Zj, Zk, Nat.reduceAdd, Nat.reduceLT, Nat.reduceEqDiff, Nat.reduceMul, Nat.reduceLeDiff, if_true, Zn, reduceCtorEq, ZA, eq_self, Int.reduceLE, Int.reduceLT, Int.reduceToNat, ne_eq, Nat.reduceSub, hl, hm, wl, nb2_b1, nb3_b2, nb3_b1, d1, d2, d3, d4, d5, d6, nb4_bc, nb4_b1, nb4_b2, nb4_bo, ea, eb]
        repeat refine And.intro (by omega) ?_
        repeat refine And.intro (by omega) ?_
        intro g
        simp only [List.map_cons, List.map_nil, updL, upd, Nat.reduceEqDiff, if_true, if_false, ↓reduceIte]
        refine hK _ _ ?_; clear hK K
        refine Cd.rs [1, 4, 5, 6, 7, 8, 9, 10, 11, 68] fun K hK => ?_
        simp (maxSteps := 2000000) (disch := first | (simp only [E4, hl, hm, wl, nb2_b1, nb3_b2, nb3_b1, d1, d2, d3, d4, d5, d6, nb4_bc, nb4_b1, nb4_b2, nb4_bo, ea, eb] <;> omega) | omega | fail) only [↓E2, E3, bare, bareJ, ↓E0, E1, evP, evPlan, env0, envN, evOps, evOp, evQs, evQ, evV, setD, pureOp, ev, upd, updL, gate, binW, eqOp, binV, intOp, shOp, boolOp, unV, convV, nilV, fieldAddrV, indexAddrV, extractV, cellAt, cellsAt, findB, setB, fillL, buildV, Value.cells, lenV, minV, maxV, hav, sliceV, loV, hiV, bslQ, mksQ, appQ, partsOk, partsCells, delB, eqL, SameI, strOp, apzQ, cvtQ, capV, ↓reduceIte, Zj, Zk, Nat.reduceAdd, Nat.reduceLT, Nat.reduceEqDiff, Nat.reduceMul, Nat.reduceLeDiff, if_true, Zn, reduceCtorEq, ZA, eq_self, Int.reduceLE, Int.reduceLT, Int.reduceToNat, ne_eq, Nat.reduceSub, hl, hm, wl, nb2_b1, nb3_b2, nb3_b1, d1, d2, d3, d4, d5, d6, nb4_bc, nb4_b1, nb4_b2, nb4_bo, ea, eb]
        repeat refine And.intro (by omega) ?_
        repeat refine And.intro (by omega) ?_
        intro g
        simp only [List.map_cons, List.map_nil, updL, upd, Nat.reduceEqDiff, if_true, if_false, ↓reduceIte]
        refine hK _ _ ?_; clear hK K
        refine Cd.cond rfl (fun h6 => ?_) (fun h6 => ?_)
        · simp only [decide_eq_true_eq, decide_eq_false_iff_not, beq_iff_eq, beq_eq_false_iff_ne, bne_iff_ne, bne_eq_false_iff_eq, Bool.and_eq_true, Bool.or_eq_true, Bool.or_eq_false_iff, Bool.not_eq_true', Bool.not_eq_false', Bool.and_eq_false_imp, ne_eq, gt_iff_lt, ge_iff_le, Int.not_lt, Int.not_le, Classical.not_not] at h6
          have hV : V = [] := by
            rcases V with _ | ⟨a9, V⟩
            · rfl
            · exact absurd (by omega) (hVne (by simp))
          subst hV
          refine Cd.exit (inBY rfl (roundX (inBX ?_)))
          refine thenN ?_
          have hfull : own ++ cdL n x o k = cdW n x o (j :: W) := by
            rw [← hown]
            show _ = own ++ (cdL n x o k ++ [])
            rw [List.append_nil]
          rw [hfull] at hv3
          have t1 := hrow.size1
          have t2 := hrow.le
          refine Cd.rr [1, 4, 5, 6, 7, 8] fun K hK => ?_
          simp (maxSteps := 2000000) (disch := first | (simp only [E4, hl, hm, wl, nb2_b1, nb3_b2, nb3_b1, d1, d2, d3, d4, d5, d6, nb4_bc, nb4_b1, nb4_b2, nb4_bo, ea, eb] <;> omega) | omega | fail) only [↓E2, E3, bare, bareJ, ↓E0, E1, evP, evPlan, env0, envN, evOps, evOp, evQs, evQ, evV, setD, pureOp, ev, upd, updL, gate, binW, eqOp, binV, intOp, shOp, boolOp, unV, convV, nilV, fieldAddrV, indexAddrV, extractV, cellAt, cellsAt, findB, setB, fillL, buildV, Value.cells, lenV, minV, maxV, hav, sliceV, loV, hiV, bslQ, mksQ, appQ, partsOk, partsCells, delB, eqL, SameI, strOp, apzQ, cvtQ, capV, ↓reduceIte, Zj, Zk, Nat.reduceAdd, Nat.reduceLT, Nat.reduceEqDiff, Nat.reduceMul, Nat.reduceLeDiff, if_true, Zn, reduceCtorEq, ZA, eq_self, Int.reduceLE, Int.reduceLT, Int.reduceToNat, ne_eq, Nat.reduceSub, Tby47, Tslc43, Tslce43, Tzero47, hl, hm, wl, nb2_b1, nb3_b2, nb3_b1, d1, d2, d3, d4, d5, d6, nb4_bc, nb4_b1, nb4_b2, nb4_bo, ea, eb]
          repeat refine And.intro (by omega) ?_
          intro b8 hb8
          have nb8_bc := hb8.ne
          have nb8_b1 := hb8.tail.ne
          have nb8_b2 := hb8.tail.tail.ne
          have nb8_bo := hb8.tail.tail.tail.ne
          try simp (maxSteps := 2000000) (disch := first | (simp only [E4, hl, hm, wl, nb2_b1, nb3_b2, nb3_b1, d1, d2, d3, d4, d5, d6, nb4_bc, nb4_b1, nb4_b2, nb4_bo, ea, eb, nb8_bc, nb8_b1, nb8_b2, nb8_bo] <;> omega) | omega | fail) only [↓E2, E3, bare, bareJ, ↓E0, E1, evP, evPlan, env0, envN, evOps, evOp, evQs, evQ, evV, setD, pureOp, ev, upd, updL, gate, binW, eqOp, binV, intOp, shOp, boolOp, unV, convV, nilV, fieldAddrV, indexAddrV, extractV, cellAt, cellsAt, findB, setB, fillL, buildV, Value.cells, lenV, minV, maxV, hav, sliceV, loV, hiV, bslQ, mksQ, appQ, partsOk, partsCells, delB, eqL, SameI, strOp, apzQ, cvtQ, capV, ↓reduceIte, Zj, Zk, Nat.reduceAdd, Nat.reduceLT, Nat.reduceEqDiff, Nat.reduceMul, Nat.reduceLeDiff, if_true, Zn, reduceCtorEq, ZA, eq_self, Int.reduceLE, Int.reduceLT, Int.reduceToNat, ne_eq, Nat.reduceSub, Tby47, Tslc43, Tslce43, Tzero47, hl, hm, wl, nb2_b1, nb3_b2, nb3_b1, d1, d2, d3, d4, d5, d6, nb4_bc, nb4_b1, nb4_b2, nb4_bo, ea, eb, nb8_bc, nb8_b1, nb8_b2, nb8_bo]
          repeat refine And.intro (by omega) ?_
          intro b' cap' rest' hf hc hr'
          have hr2 := hrow.snoc1 (news := [.slice a3 m3 cap3]) rfl hc hr'
          repeat refine And.intro (by omega) ?_
          intro g
          simp only [List.map_cons, List.map_nil, updL, upd, Nat.reduceEqDiff, if_true, if_false, ↓reduceIte]
          refine hK _ _ ?_; clear hK K
          refine inBN ?_
          refine thenN ?_
          refine Cd.rr [1, 4, 5, 6, 7, 8] fun K hK => ?_
          simp (maxSteps := 2000000) (disch := first | (simp only [E4, hl, hm, wl, nb2_b1, nb3_b2, nb3_b1, d1, d2, d3, d4, d5, d6, nb4_bc, nb4_b1, nb4_b2, nb4_bo, ea, eb, nb8_bc, nb8_b1, nb8_b2, nb8_bo] <;> omega) | omega | fail) only [↓E2, E3, bare, bareJ, ↓E0, E1, evP, evPlan, env0, envN, evOps, evOp, evQs, evQ, evV, setD, pureOp, ev, upd, updL, gate, binW, eqOp, binV, intOp, shOp, boolOp, unV, convV, nilV, fieldAddrV, indexAddrV, extractV, cellAt, cellsAt, findB, setB, fillL, buildV, Value.cells, lenV, minV, maxV, hav, sliceV, loV, hiV, bslQ, mksQ, appQ, partsOk, partsCells, delB, eqL, SameI, strOp, apzQ, cvtQ, capV, ↓reduceIte, Zj, Zk, Nat.reduceAdd, Nat.reduceLT, Nat.reduceEqDiff, Nat.reduceMul, Nat.reduceLeDiff, if_true, Zn, reduceCtorEq, ZA, eq_self, Int.reduceLE, Int.reduceLT, Int.reduceToNat, ne_eq, Nat.reduceSub, hl, hm, wl, nb2_b1, nb3_b2, nb3_b1, d1, d2, d3, d4, d5, d6, nb4_bc, nb4_b1, nb4_b2, nb4_bo, ea, eb, nb8_bc, nb8_b1, nb8_b2, nb8_bo]
          repeat refine And.intro (by omega) ?_
          repeat refine And.intro (by omega) ?_
          intro g
          simp only [List.map_cons, List.map_nil, updL, upd, Nat.reduceEqDiff, if_true, if_false, ↓reduceIte]
          refine hK _ _ ?_; clear hK K
          refine roundN (m := qo - 1) (by omega) ⟨_, p + 1, b', cap', _, _, M3 ++ Mi, by omega, hr2, ?_, rfl, ?_⟩
          · rw [gauss_row hW]
            exact .snoc hrows hv3
          · exact .perm (M1 := (b', _) :: (b2, ints .i64 w1) :: (b1, gc (n : Int) x o) :: (bc, csc) :: (Mi ++ M3)) (.cons _ (.cons _ (.cons _ (.cons _ List.perm_append_comm)))) (List.Sublist.cons_cons _ (List.Sublist.cons _ (List.Sublist.refl _)))
        · simp only [decide_eq_true_eq, decide_eq_false_iff_not, beq_iff_eq, beq_eq_false_iff_ne, bne_iff_ne, bne_eq_false_iff_eq, Bool.and_eq_true, Bool.or_eq_true, Bool.or_eq_false_iff, Bool.not_eq_true', Bool.not_eq_false', Bool.and_eq_false_imp, ne_eq, gt_iff_lt, ge_iff_le, Int.not_lt, Int.not_le, Classical.not_not] at h6
          refine Cd.skip ?_
          refine inBN ?_
          rcases V with _ | ⟨a9, V⟩
          · exact absurd hChV (by show ¬ k2 = j; omega)
          · obtain ⟨rfl, hC2⟩ := id hChV
            refine roundN (m := V.length) (by simp) ⟨_, a9, V, own ++ cdL n x o k, _, M3, rfl, hChV, ?_, hv3, rfl, SubP.refl _⟩
            rw [← hown, List.append_assoc]
            rfl
    · refine Cd.exit (thenX (roundX (inBX ?_)))
      refine thenN ?_
      obtain rfl : p = c := by omega
      rw [List.take_of_length_le (by omega)] at hrows
      refine Cd.rs [2, 3] fun K hK => ?_
      simp (maxSteps := 2000000) (disch := first | (simp only [E4, hl, hm, wl, nb2_b1, nb3_b2, nb3_b1] <;> omega) | omega | fail) only [↓E2, E3, bare, bareJ, ↓E0, E1, evP, evPlan, env0, envN, evOps, evOp, evQs, evQ, evV, setD, pureOp, ev, upd, updL, gate, binW, eqOp, binV, intOp, shOp, boolOp, unV, convV, nilV, fieldAddrV, indexAddrV, extractV, cellAt, cellsAt, findB, setB, fillL, buildV, Value.cells, lenV, minV, maxV, hav, sliceV, loV, hiV, bslQ, mksQ, appQ, partsOk, partsCells, delB, eqL, SameI, strOp, apzQ, cvtQ, capV, ↓reduceIte, Zj, Zk, Nat.reduceAdd, Nat.reduceLT, Nat.reduceEqDiff, Nat.reduceMul, Nat.reduceLeDiff, if_true, Zn, reduceCtorEq, ZA, eq_self, Int.reduceLE, Int.reduceLT, Int.reduceToNat, ne_eq, Nat.reduceSub, hl, hm, wl, nb2_b1, nb3_b2, nb3_b1]
      repeat refine And.intro (by omega) ?_
      repeat refine And.intro (by omega) ?_
      intro g
      simp only [List.map_cons, List.map_nil, updL, upd, Nat.reduceEqDiff, if_true, if_false, ↓reduceIte]
      refine hK _ _ ?_; clear hK K
      refine Cd.ret ?_
      simp (maxSteps := 2000000) (disch := first | (simp only [E4, hl, hm, wl, nb2_b1, nb3_b2, nb3_b1] <;> omega) | omega | fail) only [↓E2, E3, bare, bareJ, ↓E0, E1, evP, evPlan, env0, envN, evOps, evOp, evQs, evQ, evV, setD, pureOp, ev, upd, updL, gate, binW, eqOp, binV, intOp, shOp, boolOp, unV, convV, nilV, fieldAddrV, indexAddrV, extractV, cellAt, cellsAt, findB, setB, fillL, buildV, Value.cells, lenV, minV, maxV, hav, sliceV, loV, hiV, bslQ, mksQ, appQ, partsOk, partsCells, delB, eqL, SameI, strOp, apzQ, cvtQ, capV, ↓reduceIte, Zj, Zk, Nat.reduceAdd, Nat.reduceLT, Nat.reduceEqDiff, Nat.reduceMul, Nat.reduceLeDiff, if_true, Zn, reduceCtorEq, ZA, eq_self, Int.reduceLE, Int.reduceLT, Int.reduceToNat, ne_eq, Nat.reduceSub, hl, hm, wl, nb2_b1, nb3_b2, nb3_b1]
      repeat refine And.intro (by omega) ?_
      exact ⟨(bo, cs) :: Mi, SubP.of (List.Sublist.cons_cons _ (List.Sublist.cons _ (List.Sublist.cons _ (List.Sublist.cons _ (List.Sublist.refl _))))), wrapP_yes hg (by exact .inr ⟨bo, p, cap, cs, vs, Mi, rfl, rfl, hrow, hrows⟩)⟩
end

end Go.Proofs

/-
  What the functions of this part hand back: each as a plain function of its arguments. Conditions: none.
-/
namespace Go.Proofs
open Go.W8
set_option linter.unusedVariables false
set_option linter.unusedSimpArgs false
set_option linter.unusedSectionVars false
set_option maxRecDepth 8000
set_option maxHeartbeats 4000000
def natL (W : List Nat) : List Int := W.map fun (k : Nat) => (k : Int)
def seenL (l : List Int) : List Bool := l.map fun e => decide (0 ≤ e)
theorem seenL_len (l : List Int) : (seenL l).length = l.length := by simp [seenL]
theorem seenL_get {l : List Int} {k : Nat} (h : k < l.length) : (seenL l).getD k false = decide (0 ≤ l.getD k 0) := by
  unfold seenL
  rw [List.getD_eq_getElem?_getD, List.getElem?_map, List.getD_eq_getElem?_getD, List.getElem?_eq_getElem h]
  rfl
theorem seenL_set {l : List Int} {k : Nat} {c : Int} (hc : 0 ≤ c) : (seenL l).set k true = seenL (l.set k c) := by
  unfold seenL
  rw [List.map_set, decide_eq_true hc]
theorem natL_snoc (W : List Nat) (k : Nat) : natL (W ++ [k]) = natL W ++ [(k : Int)] := by simp [natL]
theorem natL_len (W : List Nat) : (natL W).length = W.length := by simp [natL]
section
variable (n : Nat) (x o : List Int) (hx : Bytes8 x) (ho : Bytes8 o) (hn : n ≤ 8) (hp : IsPerm x n) (hq : IsPerm o n)
include hx ho hn hp hq
theorem walks_c : GivesX Try.prog 183 #[.agg (gc (n : Int) x o).toArray] [] [] (SlSl ((wTo (nextOf n x o) n).map natL)) := by
  have hl := hx.len
  have hm := ho.len
  have pl := plc_len x n
  have hnl := nextOf_lt hx ho hn hp hq
  refine GivesX.part ?_
  skip
  refine GivesX.of (callable_of Try.func183 rfl (by decide)) ?_ fun w hnd hlt hR => ?_
  · simp
  refine acall_of (N := 47) (c := _) (rs := [.tmp 2]) (args := [_]) Try.func183 rfl (by decide) rfl rfl (Nat.le_of_ble_eq_true rfl) ?_
  refine Cd.rs [1] fun K hK => ?_
  simp (maxSteps := 2000000) (disch := first | (simp only [E4, hl, hm, pl] <;> omega) | omega | fail) only [↓E2, E3, bare, bareJ, ↓E0, E1, evP, evPlan, env0, envN, evOps, evOp, evQs, evQ, evV, setD, pureOp, ev, upd, updL, gate, binW, eqOp, binV, intOp, shOp, boolOp, unV, convV, nilV, fieldAddrV, indexAddrV, extractV, cellAt, cellsAt, findB, setB, fillL, buildV, Value.cells, lenV, minV, maxV, hav, sliceV, loV, hiV, bslQ, mksQ, appQ, partsOk, partsCells, delB, eqL, SameI, strOp, apzQ, cvtQ, capV, ↓reduceIte, Zj, Zk, Nat.reduceAdd, Nat.reduceLT, Nat.reduceEqDiff, Nat.reduceMul, Nat.reduceLeDiff, if_true, Zn, reduceCtorEq, ZA, eq_self, Int.reduceLE, Int.reduceLT, Int.reduceToNat, ne_eq, Nat.reduceSub, hl, hm, pl]
  repeat refine And.intro (by omega) ?_
  intro b1 hb1
  try simp (maxSteps := 2000000) (disch := first | (simp only [E4, hl, hm, pl] <;> omega) | omega | fail) only [↓E2, E3, bare, bareJ, ↓E0, E1, evP, evPlan, env0, envN, evOps, evOp, evQs, evQ, evV, setD, pureOp, ev, upd, updL, gate, binW, eqOp, binV, intOp, shOp, boolOp, unV, convV, nilV, fieldAddrV, indexAddrV, extractV, cellAt, cellsAt, findB, setB, fillL, buildV, Value.cells, lenV, minV, maxV, hav, sliceV, loV, hiV, bslQ, mksQ, appQ, partsOk, partsCells, delB, eqL, SameI, strOp, apzQ, cvtQ, capV, ↓reduceIte, Zj, Zk, Nat.reduceAdd, Nat.reduceLT, Nat.reduceEqDiff, Nat.reduceMul, Nat.reduceLeDiff, if_true, Zn, reduceCtorEq, ZA, eq_self, Int.reduceLE, Int.reduceLT, Int.reduceToNat, ne_eq, Nat.reduceSub, hl, hm, pl]
  repeat refine And.intro (by omega) ?_
  repeat refine And.intro (by omega) ?_
  intro g
  simp only [List.map_cons, List.map_nil, updL, upd, Nat.reduceEqDiff, if_true, if_false, ↓reduceIte]
  refine hK _ _ ?_; clear hK K
  refine Cd.rs [1, 3, 4, 5] fun K hK => ?_
  simp (maxSteps := 2000000) (disch := first | (simp only [E4, hl, hm, pl] <;> omega) | omega | fail) only [↓E2, E3, bare, bareJ, ↓E0, E1, evP, evPlan, env0, envN, evOps, evOp, evQs, evQ, evV, setD, pureOp, ev, upd, updL, gate, binW, eqOp, binV, intOp, shOp, boolOp, unV, convV, nilV, fieldAddrV, indexAddrV, extractV, cellAt, cellsAt, findB, setB, fillL, buildV, Value.cells, lenV, minV, maxV, hav, sliceV, loV, hiV, bslQ, mksQ, appQ, partsOk, partsCells, delB, eqL, SameI, strOp, apzQ, cvtQ, capV, ↓reduceIte, Zj, Zk, Nat.reduceAdd, Nat.reduceLT, Nat.reduceEqDiff, Nat.reduceMul, Nat.reduceLeDiff, if_true, Zn, reduceCtorEq, ZA, eq_self, Int.reduceLE, Int.reduceLT, Int.reduceToNat, ne_eq, Nat.reduceSub, Tbld163, Tby132, Tfld32_1, Tld30, Tld32, Tslc171, Tslce171, Tst100, Tst163, Tzero100, Tzero132, Tzero163, hl, hm, pl]
  repeat refine And.intro (by omega) ?_
  refine callK_gives (places_c n x o x hx ho hx hn hp) ?_
  simp (maxSteps := 2000000) (disch := first | (simp only [E4, hl, hm, pl] <;> omega) | omega | fail) only [↓E2, E3, bare, bareJ, ↓E0, E1, evP, evPlan, env0, envN, evOps, evOp, evQs, evQ, evV, setD, pureOp, ev, upd, updL, gate, binW, eqOp, binV, intOp, shOp, boolOp, unV, convV, nilV, fieldAddrV, indexAddrV, extractV, cellAt, cellsAt, findB, setB, fillL, buildV, Value.cells, lenV, minV, maxV, hav, sliceV, loV, hiV, bslQ, mksQ, appQ, partsOk, partsCells, delB, eqL, SameI, strOp, apzQ, cvtQ, capV, ↓reduceIte, Zj, Zk, Nat.reduceAdd, Nat.reduceLT, Nat.reduceEqDiff, Nat.reduceMul, Nat.reduceLeDiff, if_true, Zn, reduceCtorEq, ZA, eq_self, Int.reduceLE, Int.reduceLT, Int.reduceToNat, ne_eq, Nat.reduceSub, Tbld163, Tby132, Tfld32_1, Tld30, Tld32, Tslc171, Tslce171, Tst100, Tst163, Tzero100, Tzero132, Tzero163, hl, hm, pl]
  repeat refine And.intro (by omega) ?_
  intro b2 hb2
  have nb2_b1 := hb2.ne
  intro b3 hb3
  have nb3_b2 := hb3.ne
  have nb3_b1 := hb3.tail.ne
  intro b4 hb4
  have nb4_b3 := hb4.ne
  have nb4_b2 := hb4.tail.ne
  have nb4_b1 := hb4.tail.tail.ne
  try simp (maxSteps := 2000000) (disch := first | (simp only [E4, hl, hm, pl, nb2_b1, nb3_b2, nb3_b1, nb4_b3, nb4_b2, nb4_b1] <;> omega) | omega | fail) only [↓E2, E3, bare, bareJ, ↓E0, E1, evP, evPlan, env0, envN, evOps, evOp, evQs, evQ, evV, setD, pureOp, ev, upd, updL, gate, binW, eqOp, binV, intOp, shOp, boolOp, unV, convV, nilV, fieldAddrV, indexAddrV, extractV, cellAt, cellsAt, findB, setB, fillL, buildV, Value.cells, lenV, minV, maxV, hav, sliceV, loV, hiV, bslQ, mksQ, appQ, partsOk, partsCells, delB, eqL, SameI, strOp, apzQ, cvtQ, capV, ↓reduceIte, Zj, Zk, Nat.reduceAdd, Nat.reduceLT, Nat.reduceEqDiff, Nat.reduceMul, Nat.reduceLeDiff, if_true, Zn, reduceCtorEq, ZA, eq_self, Int.reduceLE, Int.reduceLT, Int.reduceToNat, ne_eq, Nat.reduceSub, Tbld163, Tby132, Tfld32_1, Tld30, Tld32, Tslc171, Tslce171, Tst100, Tst163, Tzero100, Tzero132, Tzero163, hl, hm, pl, nb2_b1, nb3_b2, nb3_b1, nb4_b3, nb4_b2, nb4_b1]
  repeat refine And.intro (by omega) ?_
  repeat refine And.intro (by omega) ?_
  intro g
  simp only [List.map_cons, List.map_nil, updL, upd, Nat.reduceEqDiff, if_true, if_false, ↓reduceIte]
  refine hK _ _ ?_; clear hK K
  refine Cd.seq ?_
  refine Cd.rs [1, 3, 4, 5, 16, 17] fun K hK => ?_
  simp (maxSteps := 2000000) (disch := first | (simp only [E4, hl, hm, pl, nb2_b1, nb3_b2, nb3_b1, nb4_b3, nb4_b2, nb4_b1] <;> omega) | omega | fail) only [↓E2, E3, bare, bareJ, ↓E0, E1, evP, evPlan, env0, envN, evOps, evOp, evQs, evQ, evV, setD, pureOp, ev, upd, updL, gate, binW, eqOp, binV, intOp, shOp, boolOp, unV, convV, nilV, fieldAddrV, indexAddrV, extractV, cellAt, cellsAt, findB, setB, fillL, buildV, Value.cells, lenV, minV, maxV, hav, sliceV, loV, hiV, bslQ, mksQ, appQ, partsOk, partsCells, delB, eqL, SameI, strOp, apzQ, cvtQ, capV, ↓reduceIte, Zj, Zk, Nat.reduceAdd, Nat.reduceLT, Nat.reduceEqDiff, Nat.reduceMul, Nat.reduceLeDiff, if_true, Zn, reduceCtorEq, ZA, eq_self, Int.reduceLE, Int.reduceLT, Int.reduceToNat, ne_eq, Nat.reduceSub, Tld32, hl, hm, pl, nb2_b1, nb3_b2, nb3_b1, nb4_b3, nb4_b2, nb4_b1]
  repeat refine And.intro (by omega) ?_
  refine callK_gives (n_c _ _ _ hl hm) ?_
  simp (maxSteps := 2000000) (disch := first | (simp only [E4, hl, hm, pl, nb2_b1, nb3_b2, nb3_b1, nb4_b3, nb4_b2, nb4_b1] <;> omega) | omega | fail) only [↓E2, E3, bare, bareJ, ↓E0, E1, evP, evPlan, env0, envN, evOps, evOp, evQs, evQ, evV, setD, pureOp, ev, upd, updL, gate, binW, eqOp, binV, intOp, shOp, boolOp, unV, convV, nilV, fieldAddrV, indexAddrV, extractV, cellAt, cellsAt, findB, setB, fillL, buildV, Value.cells, lenV, minV, maxV, hav, sliceV, loV, hiV, bslQ, mksQ, appQ, partsOk, partsCells, delB, eqL, SameI, strOp, apzQ, cvtQ, capV, ↓reduceIte, Zj, Zk, Nat.reduceAdd, Nat.reduceLT, Nat.reduceEqDiff, Nat.reduceMul, Nat.reduceLeDiff, if_true, Zn, reduceCtorEq, ZA, eq_self, Int.reduceLE, Int.reduceLT, Int.reduceToNat, ne_eq, Nat.reduceSub, Tld32, hl, hm, pl, nb2_b1, nb3_b2, nb3_b1, nb4_b3, nb4_b2, nb4_b1]
  repeat refine And.intro (by omega) ?_
  repeat refine And.intro (by omega) ?_
  intro g
  simp only [List.map_cons, List.map_nil, updL, upd, Nat.reduceEqDiff, if_true, if_false, ↓reduceIte]
  refine hK _ _ ?_; clear hK K
  refine Cd.block ?_
  rw [show List.replicate 8 false = seenL (compTo (nextOf n x o) 0).1 from rfl]
  refine Cd.loop (fun q ρ M => ∃ g i bo cap cs vs Mi, i + q = n ∧ Row 1 vs (compTo (nextOf n x o) i).2 cap cs ∧ RowsI ((wTo (nextOf n x o) i).map natL) vs Mi ∧ ρ = updL [(1, .pointer (some ⟨b1, 0, none⟩)), (3, .pointer (some ⟨b3, 0, none⟩)), (4, .pointer (some ⟨b4, 0, none⟩)), (5, .slice (some ⟨bo, 0, none⟩) (compTo (nextOf n x o) i).2 cap), (16, .int .i64 (n : Int)), (17, .int .i64 (i : Int))] g ∧
    SubP ((bo, cs) :: (b4, bools (seenL (compTo (nextOf n x o) i).1)) :: (b3, ints .i64 (plc x n)) :: (b1, gc (n : Int) x o) :: Mi) M) n ⟨_, 0, b2, 0, [], [], [], Nat.zero_add _, Row.nil 1, RowsI.nil, rfl, ?_⟩ ?_
  · exact .perm (List.perm_middle (l₁ := [(b4, bools (seenL (compTo (nextOf n x o) 0).1)), (b3, ints .i64 (plc x n))]) (a := (b2, [])) (l₂ := [(b1, gc (n : Int) x o)])).symm (List.Sublist.refl _)
  rintro q ρ M ⟨g, i, bo, cap, cs, vs, Mi, hi, hrow, hrows, rfl, hM⟩
  refine Cd.sub hM ?_
  clear hM M
  refine Cd.nodup fun hnd2 => ?_
  have d1 : (bo = b4) = False := eq_false ((nodup_cases hnd2).1 (b4, bools (seenL (compTo (nextOf n x o) i).1)) (by simp))
  have d2 : (bo = b3) = False := eq_false ((nodup_cases hnd2).1 (b3, ints .i64 (plc x n)) (by simp))
  have d3 : (bo = b1) = False := eq_false ((nodup_cases hnd2).1 (b1, gc (n : Int) x o) (by simp))
  have d4 : (b4 = b3) = False := eq_false ((nodup_cases (nodup_cases hnd2).2).1 (b3, ints .i64 (plc x n)) (by simp))
  have d5 : (b4 = b1) = False := eq_false ((nodup_cases (nodup_cases hnd2).2).1 (b1, gc (n : Int) x o) (by simp))
  have d6 : (b3 = b1) = False := eq_false ((nodup_cases (nodup_cases (nodup_cases hnd2).2).2).1 (b1, gc (n : Int) x o) (by simp))
  skip
  skip
  clear hnd2
  have cl := compTo_len (nextOf n x o) i
  have sl : (seenL (compTo (nextOf n x o) i).1).length = 8 := by rw [seenL_len, cl]
  have cc := compTo_count (nextOf n x o) i
  skip
  refine Cd.rs [1, 3, 4, 5, 16, 17, 18] fun K hK => ?_
  simp (maxSteps := 2000000) (disch := first | (simp only [E4, hl, hm, pl, nb2_b1, nb3_b2, nb3_b1, nb4_b3, nb4_b2, nb4_b1, d1, d2, d3, d4, d5, d6, sl] <;> omega) | omega | fail) only [↓E2, E3, bare, bareJ, ↓E0, E1, evP, evPlan, env0, envN, evOps, evOp, evQs, evQ, evV, setD, pureOp, ev, upd, updL, gate, binW, eqOp, binV, intOp, shOp, boolOp, unV, convV, nilV, fieldAddrV, indexAddrV, extractV, cellAt, cellsAt, findB, setB, fillL, buildV, Value.cells, lenV, minV, maxV, hav, sliceV, loV, hiV, bslQ, mksQ, appQ, partsOk, partsCells, delB, eqL, SameI, strOp, apzQ, cvtQ, capV, ↓reduceIte, Zj, Zk, Nat.reduceAdd, Nat.reduceLT, Nat.reduceEqDiff, Nat.reduceMul, Nat.reduceLeDiff, if_true, Zn, reduceCtorEq, ZA, eq_self, Int.reduceLE, Int.reduceLT, Int.reduceToNat, ne_eq, Nat.reduceSub, hl, hm, pl, nb2_b1, nb3_b2, nb3_b1, nb4_b3, nb4_b2, nb4_b1, d1, d2, d3, d4, d5, d6, sl]
  repeat refine And.intro (by omega) ?_
  repeat refine And.intro (by omega) ?_
  intro g
  simp only [List.map_cons, List.map_nil, updL, upd, Nat.reduceEqDiff, if_true, if_false, ↓reduceIte]
  refine hK _ _ ?_; clear hK K
  refine Cd.seq ?_
  refine Cd.condd rfl (fun h1 => ?_) (fun h1 => ?_)
  · have sg := seenL_get (l := (compTo (nextOf n x o) i).1) (k := i) (by omega)
    skip
    refine Cd.skip ?_
    refine thenN ?_
    refine Cd.midq (fun ρ M => ∃ g bo cap cs vs Mi, Row 1 vs (compTo (nextOf n x o) (i + 1)).2 cap cs ∧ RowsI ((wTo (nextOf n x o) (i + 1)).map natL) vs Mi ∧ ρ = updL [(1, .pointer (some ⟨b1, 0, none⟩)), (3, .pointer (some ⟨b3, 0, none⟩)), (4, .pointer (some ⟨b4, 0, none⟩)), (5, .slice (some ⟨bo, 0, none⟩) (compTo (nextOf n x o) (i + 1)).2 cap), (16, .int .i64 (n : Int)), (17, .int .i64 (i : Int))] g ∧
      SubP ((bo, cs) :: (b4, bools (seenL (compTo (nextOf n x o) (i + 1)).1)) :: (b3, ints .i64 (plc x n)) :: (b1, gc (n : Int) x o) :: Mi) M) ?_ ?_
    · refine Cd.block ?_
      refine Cd.rs [1, 3, 4, 5, 6, 16, 17] fun K hK => ?_
      simp (maxSteps := 2000000) (disch := first | (simp only [E4, hl, hm, pl, nb2_b1, nb3_b2, nb3_b1, nb4_b3, nb4_b2, nb4_b1, d1, d2, d3, d4, d5, d6, sl, sg] <;> omega) | omega | fail) only [↓E2, E3, bare, bareJ, ↓E0, E1, evP, evPlan, env0, envN, evOps, evOp, evQs, evQ, evV, setD, pureOp, ev, upd, updL, gate, binW, eqOp, binV, intOp, shOp, boolOp, unV, convV, nilV, fieldAddrV, indexAddrV, extractV, cellAt, cellsAt, findB, setB, fillL, buildV, Value.cells, lenV, minV, maxV, hav, sliceV, loV, hiV, bslQ, mksQ, appQ, partsOk, partsCells, delB, eqL, SameI, strOp, apzQ, cvtQ, capV, ↓reduceIte, Zj, Zk, Nat.reduceAdd, Nat.reduceLT, Nat.reduceEqDiff, Nat.reduceMul, Nat.reduceLeDiff, if_true, Zn, reduceCtorEq, ZA, eq_self, Int.reduceLE, Int.reduceLT, Int.reduceToNat, ne_eq, Nat.reduceSub, hl, hm, pl, nb2_b1, nb3_b2, nb3_b1, nb4_b3, nb4_b2, nb4_b1, d1, d2, d3, d4, d5, d6, sl, sg]
      repeat refine And.intro (by omega) ?_
      repeat refine And.intro (by omega) ?_
      intro g
      simp only [List.map_cons, List.map_nil, updL, upd, Nat.reduceEqDiff, if_true, if_false, ↓reduceIte]
      refine hK _ _ ?_; clear hK K
      refine Cd.seq ?_
      refine Cd.rs [1, 3, 4, 5, 6, 16, 17, 22] fun K hK => ?_
      simp (maxSteps := 2000000) (disch := first | (simp only [E4, hl, hm, pl, nb2_b1, nb3_b2, nb3_b1, nb4_b3, nb4_b2, nb4_b1, d1, d2, d3, d4, d5, d6, sl, sg] <;> omega) | omega | fail) only [↓E2, E3, bare, bareJ, ↓E0, E1, evP, evPlan, env0, envN, evOps, evOp, evQs, evQ, evV, setD, pureOp, ev, upd, updL, gate, binW, eqOp, binV, intOp, shOp, boolOp, unV, convV, nilV, fieldAddrV, indexAddrV, extractV, cellAt, cellsAt, findB, setB, fillL, buildV, Value.cells, lenV, minV, maxV, hav, sliceV, loV, hiV, bslQ, mksQ, appQ, partsOk, partsCells, delB, eqL, SameI, strOp, apzQ, cvtQ, capV, ↓reduceIte, Zj, Zk, Nat.reduceAdd, Nat.reduceLT, Nat.reduceEqDiff, Nat.reduceMul, Nat.reduceLeDiff, if_true, Zn, reduceCtorEq, ZA, eq_self, Int.reduceLE, Int.reduceLT, Int.reduceToNat, ne_eq, Nat.reduceSub, Tarr163, Tld4, hl, hm, pl, nb2_b1, nb3_b2, nb3_b1, nb4_b3, nb4_b2, nb4_b1, d1, d2, d3, d4, d5, d6, sl, sg]
      repeat refine And.intro (by omega) ?_
      repeat refine And.intro (by omega) ?_
      intro g
      simp only [List.map_cons, List.map_nil, updL, upd, Nat.reduceEqDiff, if_true, if_false, ↓reduceIte]
      refine hK _ _ ?_; clear hK K
      refine Cd.condd rfl (fun h2 => ?_) (fun h2 => ?_)
      · refine Cd.exit (thenX (inBX ?_))
        rw [compTo_same h2, wTo_same h2]
        exact midN ⟨_, _, _, _, _, _, hrow, hrows, (norm_of (by repeat (first | exact trivial | refine And.intro rfl ?_))), SubP.refl _⟩
      · rw [compTo_more h2, wTo_more h2]
        have hcc : (0 : Int) ≤ ((compTo (nextOf n x o) i).2 : Int) := by omega
        generalize compTo (nextOf n x o) i = CC at *
        obtain ⟨lab, c⟩ := CC
        simp only at cl cc h2 hcc hrow sg sl ⊢
        refine Cd.skip ?_
        refine thenN ?_
        refine Cd.rs [1, 3, 4, 5, 6, 7, 16, 17] fun K hK => ?_
        simp (maxSteps := 2000000) (disch := first | (simp only [E4, hl, hm, pl, nb2_b1, nb3_b2, nb3_b1, nb4_b3, nb4_b2, nb4_b1, d1, d2, d3, d4, d5, d6, sl, sg] <;> omega) | omega | fail) only [↓E2, E3, bare, bareJ, ↓E0, E1, evP, evPlan, env0, envN, evOps, evOp, evQs, evQ, evV, setD, pureOp, ev, upd, updL, gate, binW, eqOp, binV, intOp, shOp, boolOp, unV, convV, nilV, fieldAddrV, indexAddrV, extractV, cellAt, cellsAt, findB, setB, fillL, buildV, Value.cells, lenV, minV, maxV, hav, sliceV, loV, hiV, bslQ, mksQ, appQ, partsOk, partsCells, delB, eqL, SameI, strOp, apzQ, cvtQ, capV, ↓reduceIte, Zj, Zk, Nat.reduceAdd, Nat.reduceLT, Nat.reduceEqDiff, Nat.reduceMul, Nat.reduceLeDiff, if_true, Zn, reduceCtorEq, ZA, eq_self, Int.reduceLE, Int.reduceLT, Int.reduceToNat, ne_eq, Nat.reduceSub, Tby3, Tslc132, Tslce132, Tzero3, hl, hm, pl, nb2_b1, nb3_b2, nb3_b1, nb4_b3, nb4_b2, nb4_b1, d1, d2, d3, d4, d5, d6, sl, sg]
        repeat refine And.intro (by omega) ?_
        intro b5 hb5
        have nb5_b1 := hb5.ne
        have nb5_b3 := hb5.tail.ne
        have nb5_b4 := hb5.tail.tail.ne
        have nb5_bo := hb5.tail.tail.tail.ne
        try simp (maxSteps := 2000000) (disch := first | (simp only [E4, hl, hm, pl, nb2_b1, nb3_b2, nb3_b1, nb4_b3, nb4_b2, nb4_b1, d1, d2, d3, d4, d5, d6, sl, sg, nb5_b1, nb5_b3, nb5_b4, nb5_bo] <;> omega) | omega | fail) only [↓E2, E3, bare, bareJ, ↓E0, E1, evP, evPlan, env0, envN, evOps, evOp, evQs, evQ, evV, setD, pureOp, ev, upd, updL, gate, binW, eqOp, binV, intOp, shOp, boolOp, unV, convV, nilV, fieldAddrV, indexAddrV, extractV, cellAt, cellsAt, findB, setB, fillL, buildV, Value.cells, lenV, minV, maxV, hav, sliceV, loV, hiV, bslQ, mksQ, appQ, partsOk, partsCells, delB, eqL, SameI, strOp, apzQ, cvtQ, capV, ↓reduceIte, Zj, Zk, Nat.reduceAdd, Nat.reduceLT, Nat.reduceEqDiff, Nat.reduceMul, Nat.reduceLeDiff, if_true, Zn, reduceCtorEq, ZA, eq_self, Int.reduceLE, Int.reduceLT, Int.reduceToNat, ne_eq, Nat.reduceSub, Tby3, Tslc132, Tslce132, Tzero3, hl, hm, pl, nb2_b1, nb3_b2, nb3_b1, nb4_b3, nb4_b2, nb4_b1, d1, d2, d3, d4, d5, d6, sl, sg, nb5_b1, nb5_b3, nb5_b4, nb5_bo]
        repeat refine And.intro (by omega) ?_
        repeat refine And.intro (by omega) ?_
        intro g
        simp only [List.map_cons, List.map_nil, updL, upd, Nat.reduceEqDiff, if_true, if_false, ↓reduceIte]
        refine hK _ _ ?_; clear hK K
        refine Cd.seq ?_
        refine Cd.rs [1, 3, 4, 5, 7, 8, 16, 17] fun K hK => ?_
        simp (maxSteps := 2000000) (disch := first | (simp only [E4, hl, hm, pl, nb2_b1, nb3_b2, nb3_b1, nb4_b3, nb4_b2, nb4_b1, d1, d2, d3, d4, d5, d6, sl, sg, nb5_b1, nb5_b3, nb5_b4, nb5_bo] <;> omega) | omega | fail) only [↓E2, E3, bare, bareJ, ↓E0, E1, evP, evPlan, env0, envN, evOps, evOp, evQs, evQ, evV, setD, pureOp, ev, upd, updL, gate, binW, eqOp, binV, intOp, shOp, boolOp, unV, convV, nilV, fieldAddrV, indexAddrV, extractV, cellAt, cellsAt, findB, setB, fillL, buildV, Value.cells, lenV, minV, maxV, hav, sliceV, loV, hiV, bslQ, mksQ, appQ, partsOk, partsCells, delB, eqL, SameI, strOp, apzQ, cvtQ, capV, ↓reduceIte, Zj, Zk, Nat.reduceAdd, Nat.reduceLT, Nat.reduceEqDiff, Nat.reduceMul, Nat.reduceLeDiff, if_true, Zn, reduceCtorEq, ZA, eq_self, Int.reduceLE, Int.reduceLT, Int.reduceToNat, ne_eq, Nat.reduceSub, hl, hm, pl, nb2_b1, nb3_b2, nb3_b1, nb4_b3, nb4_b2, nb4_b1, d1, d2, d3, d4, d5, d6, sl, sg, nb5_b1, nb5_b3, nb5_b4, nb5_bo]
        repeat refine And.intro (by omega) ?_
        repeat refine And.intro (by omega) ?_
        intro g
        simp only [List.map_cons, List.map_nil, updL, upd, Nat.reduceEqDiff, if_true, if_false, ↓reduceIte]
        refine hK _ _ ?_; clear hK K
        refine Cd.block ?_
        refine Cd.loop (fun f ρ M => ∃ g k l W bw capw csw, k < n ∧ l.length = 8 ∧ negs l ≤ f ∧ walkC (nextOf n x o) c f k l = walkC (nextOf n x o) c 8 i lab ∧ W ++ walkL (nextOf n x o) c f k l = walkL (nextOf n x o) c 8 i lab ∧ Row 1 (ints .i64 (natL W)) W.length capw csw ∧
          ρ = updL [(1, .pointer (some ⟨b1, 0, none⟩)), (3, .pointer (some ⟨b3, 0, none⟩)), (4, .pointer (some ⟨b4, 0, none⟩)), (5, .slice (some ⟨bo, 0, none⟩) c cap), (7, .slice (some ⟨bw, 0, none⟩) W.length capw), (8, .int .i64 (k : Int)), (16, .int .i64 (n : Int)), (17, .int .i64 (i : Int))] g ∧
          List.Sublist ((bw, csw) :: (bo, cs) :: (b4, bools (seenL l)) :: (b3, ints .i64 (plc x n)) :: (b1, gc (n : Int) x o) :: Mi) M) 8 ⟨_, i, lab, [], b5, 0, [], by omega, cl, negs_le cl, rfl, rfl, Row.nil 1, rfl, List.Sublist.refl _⟩ ?_
        rintro f ρ M ⟨g, k, l, W, bw, capw, csw, hk, hll, hng, hwC, hwL, hrw, rfl, hM⟩
        refine Cd.drop hM ?_
        clear hM M
        refine Cd.nodup fun hnd => ?_
        have q1 : (bw = b4) = False := eq_false ((nodup_cases hnd).1 (b4, bools (seenL l)) (by simp))
        have q2 : (bw = b3) = False := eq_false ((nodup_cases hnd).1 (b3, ints .i64 (plc x n)) (by simp))
        have q3 : (bw = b1) = False := eq_false ((nodup_cases hnd).1 (b1, gc (n : Int) x o) (by simp))
        have q4 : (bw = bo) = False := eq_false ((nodup_cases hnd).1 (bo, cs) (by simp))
        have q5 : (bo = bw) = False := eq_false fun e => (nodup_cases hnd).1 (bo, cs) (by simp) e.symm
        have sl2 : (seenL l).length = 8 := by rw [seenL_len, hll]
        have sg2 := seenL_get (l := l) (k := k) (by omega)
        have s1 := hrw.size1
        have s2 := hrw.le
        have c2 := hq.1 k hk
        have c3 := bytes_get ho (i := k) (by omega)
        have hpg := plc_geti (x := x) (n := n) c3.1 (by omega)
        have hwl := walkL_len (nx := nextOf n x o) (c := c) 8 i lab
        rw [← hwL, List.length_append] at hwl
        skip
        skip
        clear hnd
        refine Cd.seq ?_
        refine Cd.rs [1, 3, 4, 5, 7, 8, 16, 17, 28] fun K hK => ?_
        simp (maxSteps := 2000000) (disch := first | (simp only [E4, hl, hm, pl, nb2_b1, nb3_b2, nb3_b1, nb4_b3, nb4_b2, nb4_b1, d1, d2, d3, d4, d5, d6, sl, sg, nb5_b1, nb5_b3, nb5_b4, nb5_bo, q1, q2, q3, q4, q5, sl2, sg2, hpg] <;> omega) | omega | fail) only [↓E2, E3, bare, bareJ, ↓E0, E1, evP, evPlan, env0, envN, evOps, evOp, evQs, evQ, evV, setD, pureOp, ev, upd, updL, gate, binW, eqOp, binV, intOp, shOp, boolOp, unV, convV, nilV, fieldAddrV, indexAddrV, extractV, cellAt, cellsAt, findB, setB, fillL, buildV, Value.cells, lenV, minV, maxV, hav, sliceV, loV, hiV, bslQ, mksQ, appQ, partsOk, partsCells, delB, eqL, SameI, strOp, apzQ, cvtQ, capV, ↓reduceIte, Zj, Zk, Nat.reduceAdd, Nat.reduceLT, Nat.reduceEqDiff, Nat.reduceMul, Nat.reduceLeDiff, if_true, Zn, reduceCtorEq, ZA, eq_self, Int.reduceLE, Int.reduceLT, Int.reduceToNat, ne_eq, Nat.reduceSub, Tarr163, Tld4, hl, hm, pl, nb2_b1, nb3_b2, nb3_b1, nb4_b3, nb4_b2, nb4_b1, d1, d2, d3, d4, d5, d6, sl, sg, nb5_b1, nb5_b3, nb5_b4, nb5_bo, q1, q2, q3, q4, q5, sl2, sg2, hpg]
        repeat refine And.intro (by omega) ?_
        repeat refine And.intro (by omega) ?_
        intro g
        simp only [List.map_cons, List.map_nil, updL, upd, Nat.reduceEqDiff, if_true, if_false, ↓reduceIte]
        refine hK _ _ ?_; clear hK K
        refine Cd.cond rfl (fun h3 => ?_) (fun h3 => ?_)
        · have h3 : l.getD k 0 < 0 := by simp only [decide_eq_true_eq, decide_eq_false_iff_not, beq_iff_eq, beq_eq_false_iff_ne, bne_iff_ne, bne_eq_false_iff_eq, Bool.and_eq_true, Bool.or_eq_true, Bool.or_eq_false_iff, Bool.not_eq_true', Bool.not_eq_false', Bool.and_eq_false_imp, ne_eq, gt_iff_lt, ge_iff_le, Int.not_lt, Int.not_le, Classical.not_not] at h3; omega
          have hpos := negs_pos (l := l) (k := k) (by omega) h3
          obtain ⟨f', rfl⟩ : ∃ f', f = f' + 1 := ⟨f - 1, by omega⟩
          have hs := negs_set hcc l k (by omega) h3
          rw [walkC_step h3] at hwC
          rw [walkL_step h3] at hwL
          refine Cd.skip ?_
          refine thenN ?_
          refine Cd.seq ?_
          refine Cd.block ?_
          refine Cd.rs [1, 3, 4, 5, 7, 8, 16, 17] fun K hK => ?_
          simp (maxSteps := 2000000) (disch := first | (simp only [E4, hl, hm, pl, nb2_b1, nb3_b2, nb3_b1, nb4_b3, nb4_b2, nb4_b1, d1, d2, d3, d4, d5, d6, sl, sg, nb5_b1, nb5_b3, nb5_b4, nb5_bo, q1, q2, q3, q4, q5, sl2, sg2, hpg] <;> omega) | omega | fail) only [↓E2, E3, bare, bareJ, ↓E0, E1, evP, evPlan, env0, envN, evOps, evOp, evQs, evQ, evV, setD, pureOp, ev, upd, updL, gate, binW, eqOp, binV, intOp, shOp, boolOp, unV, convV, nilV, fieldAddrV, indexAddrV, extractV, cellAt, cellsAt, findB, setB, fillL, buildV, Value.cells, lenV, minV, maxV, hav, sliceV, loV, hiV, bslQ, mksQ, appQ, partsOk, partsCells, delB, eqL, SameI, strOp, apzQ, cvtQ, capV, ↓reduceIte, Zj, Zk, Nat.reduceAdd, Nat.reduceLT, Nat.reduceEqDiff, Nat.reduceMul, Nat.reduceLeDiff, if_true, Zn, reduceCtorEq, ZA, eq_self, Int.reduceLE, Int.reduceLT, Int.reduceToNat, ne_eq, Nat.reduceSub, Tarr163, Tst4, hl, hm, pl, nb2_b1, nb3_b2, nb3_b1, nb4_b3, nb4_b2, nb4_b1, d1, d2, d3, d4, d5, d6, sl, sg, nb5_b1, nb5_b3, nb5_b4, nb5_bo, q1, q2, q3, q4, q5, sl2, sg2, hpg]
          repeat refine And.intro (by omega) ?_
          rw [seenL_set (c := (c : Int)) hcc]
          repeat refine And.intro (by omega) ?_
          intro g
          simp only [List.map_cons, List.map_nil, updL, upd, Nat.reduceEqDiff, if_true, if_false, ↓reduceIte]
          refine hK _ _ ?_; clear hK K
          refine Cd.rr [1, 3, 4, 5, 7, 8, 16, 17] fun K hK => ?_
          simp (maxSteps := 2000000) (disch := first | (simp only [E4, hl, hm, pl, nb2_b1, nb3_b2, nb3_b1, nb4_b3, nb4_b2, nb4_b1, d1, d2, d3, d4, d5, d6, sl, sg, nb5_b1, nb5_b3, nb5_b4, nb5_bo, q1, q2, q3, q4, q5, sl2, sg2, hpg] <;> omega) | omega | fail) only [↓E2, E3, bare, bareJ, ↓E0, E1, evP, evPlan, env0, envN, evOps, evOp, evQs, evQ, evV, setD, pureOp, ev, upd, updL, gate, binW, eqOp, binV, intOp, shOp, boolOp, unV, convV, nilV, fieldAddrV, indexAddrV, extractV, cellAt, cellsAt, findB, setB, fillL, buildV, Value.cells, lenV, minV, maxV, hav, sliceV, loV, hiV, bslQ, mksQ, appQ, partsOk, partsCells, delB, eqL, SameI, strOp, apzQ, cvtQ, capV, ↓reduceIte, Zj, Zk, Nat.reduceAdd, Nat.reduceLT, Nat.reduceEqDiff, Nat.reduceMul, Nat.reduceLeDiff, if_true, Zn, reduceCtorEq, ZA, eq_self, Int.reduceLE, Int.reduceLT, Int.reduceToNat, ne_eq, Nat.reduceSub, Tby3, Tslc132, Tslce132, Tzero3, hl, hm, pl, nb2_b1, nb3_b2, nb3_b1, nb4_b3, nb4_b2, nb4_b1, d1, d2, d3, d4, d5, d6, sl, sg, nb5_b1, nb5_b3, nb5_b4, nb5_bo, q1, q2, q3, q4, q5, sl2, sg2, hpg]
          repeat refine And.intro (by omega) ?_
          intro b6 hb6
          have nb6_b1 := hb6.ne
          have nb6_b3 := hb6.tail.ne
          have nb6_b4 := hb6.tail.tail.ne
          have nb6_bo := hb6.tail.tail.tail.ne
          have nb6_bw := hb6.tail.tail.tail.tail.ne
          try simp (maxSteps := 2000000) (disch := first | (simp only [E4, hl, hm, pl, nb2_b1, nb3_b2, nb3_b1, nb4_b3, nb4_b2, nb4_b1, d1, d2, d3, d4, d5, d6, sl, sg, nb5_b1, nb5_b3, nb5_b4, nb5_bo, q1, q2, q3, q4, q5, sl2, sg2, hpg, nb6_b1, nb6_b3, nb6_b4, nb6_bo, nb6_bw] <;> omega) | omega | fail) only [↓E2, E3, bare, bareJ, ↓E0, E1, evP, evPlan, env0, envN, evOps, evOp, evQs, evQ, evV, setD, pureOp, ev, upd, updL, gate, binW, eqOp, binV, intOp, shOp, boolOp, unV, convV, nilV, fieldAddrV, indexAddrV, extractV, cellAt, cellsAt, findB, setB, fillL, buildV, Value.cells, lenV, minV, maxV, hav, sliceV, loV, hiV, bslQ, mksQ, appQ, partsOk, partsCells, delB, eqL, SameI, strOp, apzQ, cvtQ, capV, ↓reduceIte, Zj, Zk, Nat.reduceAdd, Nat.reduceLT, Nat.reduceEqDiff, Nat.reduceMul, Nat.reduceLeDiff, if_true, Zn, reduceCtorEq, ZA, eq_self, Int.reduceLE, Int.reduceLT, Int.reduceToNat, ne_eq, Nat.reduceSub, Tby3, Tslc132, Tslce132, Tzero3, hl, hm, pl, nb2_b1, nb3_b2, nb3_b1, nb4_b3, nb4_b2, nb4_b1, d1, d2, d3, d4, d5, d6, sl, sg, nb5_b1, nb5_b3, nb5_b4, nb5_bo, q1, q2, q3, q4, q5, sl2, sg2, hpg, nb6_b1, nb6_b3, nb6_b4, nb6_bo, nb6_bw]
          repeat refine And.intro (by omega) ?_
          intro b' cap' rest' hf hc hr'
          have hr2 := hrw.snoc1 (m' := 1) (news := [.int .i64 (k : Int)]) rfl hc hr'
          rw [ints_snoc, ← natL_snoc] at hr2
          repeat refine And.intro (by omega) ?_
          intro g
          simp only [List.map_cons, List.map_nil, updL, upd, Nat.reduceEqDiff, if_true, if_false, ↓reduceIte]
          refine hK _ _ ?_; clear hK K
          refine inBN ?_
          refine thenN ?_
          refine Cd.nodup fun hnd9 => ?_
          have q6 : (b' = b3) = False := eq_false ((nodup_cases hnd9).1 (b3, ints .i64 (plc x n)) (by simp))
          have q7 : (b' = b1) = False := eq_false ((nodup_cases hnd9).1 (b1, gc (n : Int) x o) (by simp))
          skip
          refine Cd.rr [1, 3, 4, 5, 7, 8, 16, 17] fun K hK => ?_
          simp (maxSteps := 2000000) (disch := first | (simp only [E4, hl, hm, pl, nb2_b1, nb3_b2, nb3_b1, nb4_b3, nb4_b2, nb4_b1, d1, d2, d3, d4, d5, d6, sl, sg, nb5_b1, nb5_b3, nb5_b4, nb5_bo, q1, q2, q3, q4, q5, sl2, sg2, hpg, nb6_b1, nb6_b3, nb6_b4, nb6_bo, nb6_bw, q6, q7] <;> omega) | omega | fail) only [↓E2, E3, bare, bareJ, ↓E0, E1, evP, evPlan, env0, envN, evOps, evOp, evQs, evQ, evV, setD, pureOp, ev, upd, updL, gate, binW, eqOp, binV, intOp, shOp, boolOp, unV, convV, nilV, fieldAddrV, indexAddrV, extractV, cellAt, cellsAt, findB, setB, fillL, buildV, Value.cells, lenV, minV, maxV, hav, sliceV, loV, hiV, bslQ, mksQ, appQ, partsOk, partsCells, delB, eqL, SameI, strOp, apzQ, cvtQ, capV, ↓reduceIte, Zj, Zk, Nat.reduceAdd, Nat.reduceLT, Nat.reduceEqDiff, Nat.reduceMul, Nat.reduceLeDiff, if_true, Zn, reduceCtorEq, ZA, eq_self, Int.reduceLE, Int.reduceLT, Int.reduceToNat, ne_eq, Nat.reduceSub, Tarr100, Tarr30, Tfld32_2, Tld3, Tld5, hl, hm, pl, nb2_b1, nb3_b2, nb3_b1, nb4_b3, nb4_b2, nb4_b1, d1, d2, d3, d4, d5, d6, sl, sg, nb5_b1, nb5_b3, nb5_b4, nb5_bo, q1, q2, q3, q4, q5, sl2, sg2, hpg, nb6_b1, nb6_b3, nb6_b4, nb6_bo, nb6_bw, q6, q7]
          repeat refine And.intro (by omega) ?_
          repeat refine And.intro (by omega) ?_
          intro g
          simp only [List.map_cons, List.map_nil, updL, upd, Nat.reduceEqDiff, if_true, if_false, ↓reduceIte]
          refine hK _ _ ?_; clear hK K
          have e8 : W.length + 1 = (W ++ [k]).length := by rw [List.length_append]; rfl
          rw [e8] at hr2 ⊢
          exact roundN (m := f') (by omega) ⟨_, nextOf n x o k, l.set k (c : Int), W ++ [k], b', cap', _, hnl k hk, by rw [List.length_set]; exact hll, by omega, hwC, by rw [List.append_assoc]; exact hwL, hr2, rfl, List.Sublist.cons_cons _ (List.Sublist.cons _ (List.Sublist.refl _))⟩
        · have h3 : ¬ l.getD k 0 < 0 := by simp only [decide_eq_true_eq, decide_eq_false_iff_not, beq_iff_eq, beq_eq_false_iff_ne, bne_iff_ne, bne_eq_false_iff_eq, Bool.and_eq_true, Bool.or_eq_true, Bool.or_eq_false_iff, Bool.not_eq_true', Bool.not_eq_false', Bool.and_eq_false_imp, ne_eq, gt_iff_lt, ge_iff_le, Int.not_lt, Int.not_le, Classical.not_not] at h3; omega
          rw [walkC_end h3] at hwC
          rw [walkL_nil h3, List.append_nil] at hwL
          have t1 := hrow.size1
          have t2 := hrow.le
          refine Cd.exit (thenX (roundX (inBX ?_)))
          refine thenN ?_
          refine Cd.rr [1, 3, 4, 5, 16, 17] fun K hK => ?_
          simp (maxSteps := 2000000) (disch := first | (simp only [E4, hl, hm, pl, nb2_b1, nb3_b2, nb3_b1, nb4_b3, nb4_b2, nb4_b1, d1, d2, d3, d4, d5, d6, sl, sg, nb5_b1, nb5_b3, nb5_b4, nb5_bo, q1, q2, q3, q4, q5, sl2, sg2, hpg] <;> omega) | omega | fail) only [↓E2, E3, bare, bareJ, ↓E0, E1, evP, evPlan, env0, envN, evOps, evOp, evQs, evQ, evV, setD, pureOp, ev, upd, updL, gate, binW, eqOp, binV, intOp, shOp, boolOp, unV, convV, nilV, fieldAddrV, indexAddrV, extractV, cellAt, cellsAt, findB, setB, fillL, buildV, Value.cells, lenV, minV, maxV, hav, sliceV, loV, hiV, bslQ, mksQ, appQ, partsOk, partsCells, delB, eqL, SameI, strOp, apzQ, cvtQ, capV, ↓reduceIte, Zj, Zk, Nat.reduceAdd, Nat.reduceLT, Nat.reduceEqDiff, Nat.reduceMul, Nat.reduceLeDiff, if_true, Zn, reduceCtorEq, ZA, eq_self, Int.reduceLE, Int.reduceLT, Int.reduceToNat, ne_eq, Nat.reduceSub, Tby132, Tslc171, Tslce171, Tzero132, hl, hm, pl, nb2_b1, nb3_b2, nb3_b1, nb4_b3, nb4_b2, nb4_b1, d1, d2, d3, d4, d5, d6, sl, sg, nb5_b1, nb5_b3, nb5_b4, nb5_bo, q1, q2, q3, q4, q5, sl2, sg2, hpg]
          repeat refine And.intro (by omega) ?_
          intro b7 hb7
          have nb7_b1 := hb7.ne
          have nb7_b3 := hb7.tail.ne
          have nb7_b4 := hb7.tail.tail.ne
          have nb7_bo := hb7.tail.tail.tail.ne
          have nb7_bw := hb7.tail.tail.tail.tail.ne
          try simp (maxSteps := 2000000) (disch := first | (simp only [E4, hl, hm, pl, nb2_b1, nb3_b2, nb3_b1, nb4_b3, nb4_b2, nb4_b1, d1, d2, d3, d4, d5, d6, sl, sg, nb5_b1, nb5_b3, nb5_b4, nb5_bo, q1, q2, q3, q4, q5, sl2, sg2, hpg, nb7_b1, nb7_b3, nb7_b4, nb7_bo, nb7_bw] <;> omega) | omega | fail) only [↓E2, E3, bare, bareJ, ↓E0, E1, evP, evPlan, env0, envN, evOps, evOp, evQs, evQ, evV, setD, pureOp, ev, upd, updL, gate, binW, eqOp, binV, intOp, shOp, boolOp, unV, convV, nilV, fieldAddrV, indexAddrV, extractV, cellAt, cellsAt, findB, setB, fillL, buildV, Value.cells, lenV, minV, maxV, hav, sliceV, loV, hiV, bslQ, mksQ, appQ, partsOk, partsCells, delB, eqL, SameI, strOp, apzQ, cvtQ, capV, ↓reduceIte, Zj, Zk, Nat.reduceAdd, Nat.reduceLT, Nat.reduceEqDiff, Nat.reduceMul, Nat.reduceLeDiff, if_true, Zn, reduceCtorEq, ZA, eq_self, Int.reduceLE, Int.reduceLT, Int.reduceToNat, ne_eq, Nat.reduceSub, Tby132, Tslc171, Tslce171, Tzero132, hl, hm, pl, nb2_b1, nb3_b2, nb3_b1, nb4_b3, nb4_b2, nb4_b1, d1, d2, d3, d4, d5, d6, sl, sg, nb5_b1, nb5_b3, nb5_b4, nb5_bo, q1, q2, q3, q4, q5, sl2, sg2, hpg, nb7_b1, nb7_b3, nb7_b4, nb7_bo, nb7_bw]
          repeat refine And.intro (by omega) ?_
          intro b' cap' rest' hf hc hr'
          have hr2 := hrow.snoc1 (m' := 1) (news := [.slice (some ⟨bw, 0, none⟩) W.length capw]) rfl hc hr'
          repeat refine And.intro (by omega) ?_
          intro g
          simp only [List.map_cons, List.map_nil, updL, upd, Nat.reduceEqDiff, if_true, if_false, ↓reduceIte]
          refine hK _ _ ?_; clear hK K
          refine inBN ?_
          refine midN ⟨_, b', cap', _, _, (bw, csw) :: Mi, hr2, ?_, rfl, ?_⟩
          · rw [List.map_append, ← hwL]
            exact .snoc hrows (by have := SlN.row (b := bw) hrw; exact this)
          · rw [hwC]
            exact .perm (M1 := (b', _) :: (bw, csw) :: (b4, bools (seenL _)) :: (b3, ints .i64 (plc x n)) :: (b1, gc (n : Int) x o) :: Mi) (.cons _ (List.perm_middle (l₁ := [(b4, bools (seenL _)), (b3, ints .i64 (plc x n)), (b1, gc (n : Int) x o)]) (a := (bw, csw)) (l₂ := Mi))) (List.Sublist.cons_cons _ (List.Sublist.cons _ (List.Sublist.refl _)))
    · rintro ρ M ⟨g, bo, cap, cs, vs, Mi, hrow, hrows, rfl, hM⟩
      refine Cd.sub hM ?_
      refine Cd.rr [1, 3, 4, 5, 16, 17] fun K hK => ?_
      simp (maxSteps := 2000000) (disch := first | (simp only [E4, hl, hm, pl, nb2_b1, nb3_b2, nb3_b1, nb4_b3, nb4_b2, nb4_b1, d1, d2, d3, d4, d5, d6, sl, sg] <;> omega) | omega | fail) only [↓E2, E3, bare, bareJ, ↓E0, E1, evP, evPlan, env0, envN, evOps, evOp, evQs, evQ, evV, setD, pureOp, ev, upd, updL, gate, binW, eqOp, binV, intOp, shOp, boolOp, unV, convV, nilV, fieldAddrV, indexAddrV, extractV, cellAt, cellsAt, findB, setB, fillL, buildV, Value.cells, lenV, minV, maxV, hav, sliceV, loV, hiV, bslQ, mksQ, appQ, partsOk, partsCells, delB, eqL, SameI, strOp, apzQ, cvtQ, capV, ↓reduceIte, Zj, Zk, Nat.reduceAdd, Nat.reduceLT, Nat.reduceEqDiff, Nat.reduceMul, Nat.reduceLeDiff, if_true, Zn, reduceCtorEq, ZA, eq_self, Int.reduceLE, Int.reduceLT, Int.reduceToNat, ne_eq, Nat.reduceSub, hl, hm, pl, nb2_b1, nb3_b2, nb3_b1, nb4_b3, nb4_b2, nb4_b1, d1, d2, d3, d4, d5, d6, sl, sg]
      repeat refine And.intro (by omega) ?_
      repeat refine And.intro (by omega) ?_
      intro g
      simp only [List.map_cons, List.map_nil, updL, upd, Nat.reduceEqDiff, if_true, if_false, ↓reduceIte]
      refine hK _ _ ?_; clear hK K
      refine roundN (m := q - 1) (by omega) ⟨_, i + 1, _, _, _, _, _, by omega, hrow, hrows, rfl, SubP.refl _⟩
  · refine Cd.exit (thenX (roundX (inBX ?_)))
    refine thenN ?_
    obtain rfl : i = n := by omega
    refine Cd.rs [2] fun K hK => ?_
    simp (maxSteps := 2000000) (disch := first | (simp only [E4, hl, hm, pl, nb2_b1, nb3_b2, nb3_b1, nb4_b3, nb4_b2, nb4_b1, d1, d2, d3, d4, d5, d6, sl] <;> omega) | omega | fail) only [↓E2, E3, bare, bareJ, ↓E0, E1, evP, evPlan, env0, envN, evOps, evOp, evQs, evQ, evV, setD, pureOp, ev, upd, updL, gate, binW, eqOp, binV, intOp, shOp, boolOp, unV, convV, nilV, fieldAddrV, indexAddrV, extractV, cellAt, cellsAt, findB, setB, fillL, buildV, Value.cells, lenV, minV, maxV, hav, sliceV, loV, hiV, bslQ, mksQ, appQ, partsOk, partsCells, delB, eqL, SameI, strOp, apzQ, cvtQ, capV, ↓reduceIte, Zj, Zk, Nat.reduceAdd, Nat.reduceLT, Nat.reduceEqDiff, Nat.reduceMul, Nat.reduceLeDiff, if_true, Zn, reduceCtorEq, ZA, eq_self, Int.reduceLE, Int.reduceLT, Int.reduceToNat, ne_eq, Nat.reduceSub, hl, hm, pl, nb2_b1, nb3_b2, nb3_b1, nb4_b3, nb4_b2, nb4_b1, d1, d2, d3, d4, d5, d6, sl]
    repeat refine And.intro (by omega) ?_
    repeat refine And.intro (by omega) ?_
    intro g
    simp only [List.map_cons, List.map_nil, updL, upd, Nat.reduceEqDiff, if_true, if_false, ↓reduceIte]
    refine hK _ _ ?_; clear hK K
    refine Cd.ret ?_
    simp (maxSteps := 2000000) (disch := first | (simp only [E4, hl, hm, pl, nb2_b1, nb3_b2, nb3_b1, nb4_b3, nb4_b2, nb4_b1, d1, d2, d3, d4, d5, d6, sl] <;> omega) | omega | fail) only [↓E2, E3, bare, bareJ, ↓E0, E1, evP, evPlan, env0, envN, evOps, evOp, evQs, evQ, evV, setD, pureOp, ev, upd, updL, gate, binW, eqOp, binV, intOp, shOp, boolOp, unV, convV, nilV, fieldAddrV, indexAddrV, extractV, cellAt, cellsAt, findB, setB, fillL, buildV, Value.cells, lenV, minV, maxV, hav, sliceV, loV, hiV, bslQ, mksQ, appQ, partsOk, partsCells, delB, eqL, SameI, strOp, apzQ, cvtQ, capV, ↓reduceIte, Zj, Zk, Nat.reduceAdd, Nat.reduceLT, Nat.reduceEqDiff, Nat.reduceMul, Nat.reduceLeDiff, if_true, Zn, reduceCtorEq, ZA, eq_self, Int.reduceLE, Int.reduceLT, Int.reduceToNat, ne_eq, Nat.reduceSub, hl, hm, pl, nb2_b1, nb3_b2, nb3_b1, nb4_b3, nb4_b2, nb4_b1, d1, d2, d3, d4, d5, d6, sl]
    repeat refine And.intro (by omega) ?_
    have hc : ((wTo (nextOf i x o) i).map natL).length = (compTo (nextOf i x o) i).2 := by rw [List.length_map, wTo_len]
    exact ⟨(bo, cs) :: Mi, SubP.of (List.Sublist.cons_cons _ (List.Sublist.cons _ (List.Sublist.cons _ (List.Sublist.cons _ (List.Sublist.refl _))))), .inr ⟨bo, _, cap, cs, vs, Mi, rfl, rfl, hrow, hrows⟩⟩
end

end Go.Proofs

/-
  What the functions of this part hand back: each as a plain function of its arguments. Conditions: none.
-/
namespace Go.Proofs
open Go.W8
set_option linter.unusedVariables false
set_option linter.unusedSimpArgs false
set_option linter.unusedSectionVars false
set_option maxRecDepth 8000
set_option maxHeartbeats 4000000
/-- A number of a row that is told. -/
theorem rd_int {W : List Nat} {w0 : World} {R : Rd} {m cap k : Nat} {l : List Int} {a : Option Addr} (h : RdS R 1 (ints .i64 l) (.slice a m cap)) (ht : W8.Told W w0 R) (hk : k < l.length) : ∃ b, a = some ⟨b, 0, none⟩ ∧ frn W w0 b k = some (.int .i64 (l.getD k 0)) := h.get ht (ints_get hk)
theorem lauLen {l : List Int} {m : Nat} (h : (ints .i64 l).length = m * 1) : m = l.length := by
  rw [ints_length] at h; omega

theorem RdL.form {R : Rd} {low : Int} {l : List Int} {v : Value} (h : RdL R low l v) : ∃ a cap, v = .agg #[.int .i64 low, .slice a l.length cap] ∧ RdS R 1 (ints .i64 l) (.slice a l.length cap) := by
  obtain ⟨s, rfl, h⟩ := h
  obtain ⟨a, m, cap, rfl, hm, _⟩ := id h
  obtain rfl := lauLen hm
  exact ⟨a, cap, rfl, h⟩
end Go.Proofs

/-
  What the functions of this part hand back: each as a plain function of its arguments. Conditions: none.
-/
namespace Go.Proofs
open Go.W8
set_option linter.unusedVariables false
set_option linter.unusedSimpArgs false
set_option linter.unusedSectionVars false
set_option maxRecDepth 8000
set_option maxHeartbeats 4000000
--@plain
/-- Where the last number other than 0 ends. -/
def trEnd (l : List Int) : Nat → Nat
  | 0 => 0
  | t + 1 => if l.getD t 0 = 0 then trEnd l t else t + 1
/-- Where the first number other than 0 stands, from t - d on. -/
def trBeg (l : List Int) (t : Nat) : Nat → Nat
  | 0 => t
  | d + 1 => if l.getD (t - (d + 1)) 0 = 0 then trBeg l t d else t - (d + 1)
def trE (l : List Int) : Nat := trEnd l l.length
def trF (l : List Int) : Nat := trBeg l (trE l) (trE l)
def trimLow (low : Int) (l : List Int) : Int := if trF l = trE l then 0 else low + (trF l : Int)
def trimL (l : List Int) : List Int := if trF l = trE l then [] else (l.drop (trF l)).take (trE l - trF l)
end Go.Proofs

/-
  What the functions of this part hand back: each as a plain function of its arguments. Conditions: none.
-/
namespace Go.Proofs
open Go.W8
set_option linter.unusedVariables false
set_option linter.unusedSimpArgs false
set_option linter.unusedSectionVars false
set_option maxRecDepth 8000
set_option maxHeartbeats 4000000
/-- The place of the first number that is not allowed. -/
def badI (l : List Int) : Int := if l.findIdx (fun c => !coOk c) < l.length then (l.findIdx (fun c => !coOk c) : Int) else -1
end Go.Proofs

/-
  What the functions of this part hand back: each as a plain function of its arguments. Conditions: none.
-/
namespace Go.Proofs
open Go.W8
set_option linter.unusedVariables false
set_option linter.unusedSimpArgs false
set_option linter.unusedSectionVars false
set_option maxRecDepth 8000
set_option maxHeartbeats 4000000
--@plain
def psum (l : List Int) : Nat → Int
  | 0 => 0
  | k + 1 => psum l k + l.getD k 0
def sums (l : List Int) (k : Nat) : List Int := (List.range k).map fun i => psum l (i + 1)
/-- One division: the sums, if they come to 0 and are allowed. -/
def qStep (p : Int × List Int) : Option (Int × List Int) :=
  if psum p.2 p.2.length = 0 ∧ (sums p.2 p.2.length).all coOk = true then some (trimLow p.1 (sums p.2 p.2.length), trimL (sums p.2 p.2.length)) else none
def qIter (p : Int × List Int) : Nat → Option (Int × List Int)
  | 0 => some p
  | k + 1 => (qIter p k).bind qStep

end Go.Proofs

/-
  What the functions of this part hand back: each as a plain function of its arguments. Conditions: none.
-/
namespace Go.Proofs
open Go.W8
set_option linter.unusedVariables false
set_option linter.unusedSimpArgs false
set_option linter.unusedSectionVars false
set_option maxRecDepth 8000
set_option maxHeartbeats 4000000
def quotP (low : Int) (l : List Int) (k : Nat) (L : Blks) (r : Value) (M' : Blks) : Prop :=
  (∀ p ∈ L, p ∈ M') ∧ ((∃ q pv Mq, qIter (low, l) k = some q ∧ r = .tuple #[pv, .bool true] ∧ (∀ p ∈ Mq, p ∈ M') ∧ LauV q.1 q.2 pv Mq) ∨ (qIter (low, l) k = none ∧ r = .tuple #[.agg #[.int .i64 0, .slice none 0 0], .bool false]))
section
variable (low : Int) (l : List Int) (v : Value) (L : Blks) (hv : LauV low l v L) (hok : lauOk low l = true) (k : Nat) (hk : k ≤ 1000)
include hv hok hk
end

end Go.Proofs

