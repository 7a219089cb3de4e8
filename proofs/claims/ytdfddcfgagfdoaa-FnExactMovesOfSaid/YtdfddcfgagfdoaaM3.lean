/-
  What the functions of this part hand back: each as a plain function of its arguments. Conditions: none.
-/
import Derived.Test.YtdfddcfgagfdoaaM1
import Derived.Test.YtdfddcfgagfdoaaM2
namespace Go.Proofs
open Go.W8
set_option linter.unusedVariables false
set_option linter.unusedSimpArgs false
set_option linter.unusedSectionVars false
set_option maxRecDepth 8000
set_option maxHeartbeats 4000000
theorem nodup5 {a b c d e : Nat} {x y z u v : List Value} (h : ([(a, x), (b, y), (c, z), (d, u), (e, v)].map (·.1)).Nodup) : (¬ a = b ∧ ¬ a = c ∧ ¬ a = d ∧ ¬ a = e) ∧ (¬ b = c ∧ ¬ b = d ∧ ¬ b = e) ∧ (¬ c = d ∧ ¬ c = e) ∧ ¬ d = e := by
  simp at h
  exact h

theorem rows0_c (b f : Nat) : Gives Try.prog 162 #[.pointer (some ⟨b, f, none⟩), .int .i64 0] (.pointer (some ⟨b, f + 1, none⟩)) := by
  refine Gives.of fun w => ?_
  refine acall_of (N := 13) (c := _) (rs := [.tmp 4]) (args := [_, _]) Try.func162 rfl (by decide) rfl rfl (Nat.le_of_ble_eq_true rfl) ?_
  refine Cd.rs [0, 1] fun K hK => ?_
  simp (maxSteps := 2000000) (disch := first | (simp only [E4] <;> omega) | omega | fail) only [↓E2, E3, bare, bareJ, ↓E0, E1, evP, evPlan, env0, envN, evOps, evOp, evQs, evQ, evV, setD, pureOp, ev, upd, updL, gate, binW, eqOp, binV, intOp, shOp, boolOp, unV, convV, nilV, fieldAddrV, indexAddrV, extractV, cellAt, cellsAt, findB, setB, fillL, buildV, Value.cells, lenV, minV, maxV, hav, sliceV, loV, hiV, bslQ, mksQ, appQ, partsOk, partsCells, delB, eqL, SameI, strOp, apzQ, cvtQ, capV, ↓reduceIte, Zj, Zk, Nat.reduceAdd, Nat.reduceLT, Nat.reduceEqDiff, Nat.reduceMul, Nat.reduceLeDiff, if_true, Zn, reduceCtorEq, ZA, eq_self, Int.reduceLE, Int.reduceLT, Int.reduceToNat, ne_eq, Nat.reduceSub]
  repeat refine And.intro (by omega) ?_
  intro g
  simp only [List.map_cons, List.map_nil, updL, upd, Nat.reduceEqDiff, if_true, if_false, ↓reduceIte]
  refine hK _ _ ?_; clear hK K
  refine Cd.seq ?_
  refine Cd.rs [0, 6] fun K hK => ?_
  simp (maxSteps := 2000000) (disch := first | (simp only [E4] <;> omega) | omega | fail) only [↓E2, E3, bare, bareJ, ↓E0, E1, evP, evPlan, env0, envN, evOps, evOp, evQs, evQ, evV, setD, pureOp, ev, upd, updL, gate, binW, eqOp, binV, intOp, shOp, boolOp, unV, convV, nilV, fieldAddrV, indexAddrV, extractV, cellAt, cellsAt, findB, setB, fillL, buildV, Value.cells, lenV, minV, maxV, hav, sliceV, loV, hiV, bslQ, mksQ, appQ, partsOk, partsCells, delB, eqL, SameI, strOp, apzQ, cvtQ, capV, ↓reduceIte, Zj, Zk, Nat.reduceAdd, Nat.reduceLT, Nat.reduceEqDiff, Nat.reduceMul, Nat.reduceLeDiff, if_true, Zn, reduceCtorEq, ZA, eq_self, Int.reduceLE, Int.reduceLT, Int.reduceToNat, ne_eq, Nat.reduceSub]
  repeat refine And.intro (by omega) ?_
  intro g
  simp only [List.map_cons, List.map_nil, updL, upd, Nat.reduceEqDiff, if_true, if_false, ↓reduceIte]
  refine hK _ _ ?_; clear hK K
  refine Cd.yes rfl ?_
  refine Cd.rs [4] fun K hK => ?_
  simp (maxSteps := 2000000) (disch := first | (simp only [E4] <;> omega) | omega | fail) only [↓E2, E3, bare, bareJ, ↓E0, E1, evP, evPlan, env0, envN, evOps, evOp, evQs, evQ, evV, setD, pureOp, ev, upd, updL, gate, binW, eqOp, binV, intOp, shOp, boolOp, unV, convV, nilV, fieldAddrV, indexAddrV, extractV, cellAt, cellsAt, findB, setB, fillL, buildV, Value.cells, lenV, minV, maxV, hav, sliceV, loV, hiV, bslQ, mksQ, appQ, partsOk, partsCells, delB, eqL, SameI, strOp, apzQ, cvtQ, capV, ↓reduceIte, Zj, Zk, Nat.reduceAdd, Nat.reduceLT, Nat.reduceEqDiff, Nat.reduceMul, Nat.reduceLeDiff, if_true, Zn, reduceCtorEq, ZA, eq_self, Int.reduceLE, Int.reduceLT, Int.reduceToNat, ne_eq, Nat.reduceSub, Tfld32_1]
  repeat refine And.intro (by omega) ?_
  intro g
  simp only [List.map_cons, List.map_nil, updL, upd, Nat.reduceEqDiff, if_true, if_false, ↓reduceIte]
  refine hK _ _ ?_; clear hK K
  refine Cd.ret (thenR ?_)
  simp (maxSteps := 2000000) (disch := first | (simp only [E4] <;> omega) | omega | fail) only [↓E2, E3, bare, bareJ, ↓E0, E1, evP, evPlan, env0, envN, evOps, evOp, evQs, evQ, evV, setD, pureOp, ev, upd, updL, gate, binW, eqOp, binV, intOp, shOp, boolOp, unV, convV, nilV, fieldAddrV, indexAddrV, extractV, cellAt, cellsAt, findB, setB, fillL, buildV, Value.cells, lenV, minV, maxV, hav, sliceV, loV, hiV, bslQ, mksQ, appQ, partsOk, partsCells, delB, eqL, SameI, strOp, apzQ, cvtQ, capV, ↓reduceIte, Zj, Zk, Nat.reduceAdd, Nat.reduceLT, Nat.reduceEqDiff, Nat.reduceMul, Nat.reduceLeDiff, if_true, Zn, reduceCtorEq, ZA, eq_self, Int.reduceLE, Int.reduceLT, Int.reduceToNat, ne_eq, Nat.reduceSub]
theorem rows1_c (b f : Nat) : Gives Try.prog 162 #[.pointer (some ⟨b, f, none⟩), .int .i64 1] (.pointer (some ⟨b, f + 9, none⟩)) := by
  refine Gives.of fun w => ?_
  refine acall_of (N := 13) (c := _) (rs := [.tmp 4]) (args := [_, _]) Try.func162 rfl (by decide) rfl rfl (Nat.le_of_ble_eq_true rfl) ?_
  refine Cd.rs [0, 1] fun K hK => ?_
  simp (maxSteps := 2000000) (disch := first | (simp only [E4] <;> omega) | omega | fail) only [↓E2, E3, bare, bareJ, ↓E0, E1, evP, evPlan, env0, envN, evOps, evOp, evQs, evQ, evV, setD, pureOp, ev, upd, updL, gate, binW, eqOp, binV, intOp, shOp, boolOp, unV, convV, nilV, fieldAddrV, indexAddrV, extractV, cellAt, cellsAt, findB, setB, fillL, buildV, Value.cells, lenV, minV, maxV, hav, sliceV, loV, hiV, bslQ, mksQ, appQ, partsOk, partsCells, delB, eqL, SameI, strOp, apzQ, cvtQ, capV, ↓reduceIte, Zj, Zk, Nat.reduceAdd, Nat.reduceLT, Nat.reduceEqDiff, Nat.reduceMul, Nat.reduceLeDiff, if_true, Zn, reduceCtorEq, ZA, eq_self, Int.reduceLE, Int.reduceLT, Int.reduceToNat, ne_eq, Nat.reduceSub]
  repeat refine And.intro (by omega) ?_
  intro g
  simp only [List.map_cons, List.map_nil, updL, upd, Nat.reduceEqDiff, if_true, if_false, ↓reduceIte]
  refine hK _ _ ?_; clear hK K
  refine Cd.seq ?_
  refine Cd.rs [0, 6] fun K hK => ?_
  simp (maxSteps := 2000000) (disch := first | (simp only [E4] <;> omega) | omega | fail) only [↓E2, E3, bare, bareJ, ↓E0, E1, evP, evPlan, env0, envN, evOps, evOp, evQs, evQ, evV, setD, pureOp, ev, upd, updL, gate, binW, eqOp, binV, intOp, shOp, boolOp, unV, convV, nilV, fieldAddrV, indexAddrV, extractV, cellAt, cellsAt, findB, setB, fillL, buildV, Value.cells, lenV, minV, maxV, hav, sliceV, loV, hiV, bslQ, mksQ, appQ, partsOk, partsCells, delB, eqL, SameI, strOp, apzQ, cvtQ, capV, ↓reduceIte, Zj, Zk, Nat.reduceAdd, Nat.reduceLT, Nat.reduceEqDiff, Nat.reduceMul, Nat.reduceLeDiff, if_true, Zn, reduceCtorEq, ZA, eq_self, Int.reduceLE, Int.reduceLT, Int.reduceToNat, ne_eq, Nat.reduceSub]
  repeat refine And.intro (by omega) ?_
  intro g
  simp only [List.map_cons, List.map_nil, updL, upd, Nat.reduceEqDiff, if_true, if_false, ↓reduceIte]
  refine hK _ _ ?_; clear hK K
  refine Cd.no rfl ?_
  refine Cd.skip ?_
  refine thenN ?_
  refine Cd.rs [4] fun K hK => ?_
  simp (maxSteps := 2000000) (disch := first | (simp only [E4] <;> omega) | omega | fail) only [↓E2, E3, bare, bareJ, ↓E0, E1, evP, evPlan, env0, envN, evOps, evOp, evQs, evQ, evV, setD, pureOp, ev, upd, updL, gate, binW, eqOp, binV, intOp, shOp, boolOp, unV, convV, nilV, fieldAddrV, indexAddrV, extractV, cellAt, cellsAt, findB, setB, fillL, buildV, Value.cells, lenV, minV, maxV, hav, sliceV, loV, hiV, bslQ, mksQ, appQ, partsOk, partsCells, delB, eqL, SameI, strOp, apzQ, cvtQ, capV, ↓reduceIte, Zj, Zk, Nat.reduceAdd, Nat.reduceLT, Nat.reduceEqDiff, Nat.reduceMul, Nat.reduceLeDiff, if_true, Zn, reduceCtorEq, ZA, eq_self, Int.reduceLE, Int.reduceLT, Int.reduceToNat, ne_eq, Nat.reduceSub, Tfld32_2]
  repeat refine And.intro (by omega) ?_
  intro g
  simp only [List.map_cons, List.map_nil, updL, upd, Nat.reduceEqDiff, if_true, if_false, ↓reduceIte]
  refine hK _ _ ?_; clear hK K
  refine Cd.ret ?_
  simp (maxSteps := 2000000) (disch := first | (simp only [E4] <;> omega) | omega | fail) only [↓E2, E3, bare, bareJ, ↓E0, E1, evP, evPlan, env0, envN, evOps, evOp, evQs, evQ, evV, setD, pureOp, ev, upd, updL, gate, binW, eqOp, binV, intOp, shOp, boolOp, unV, convV, nilV, fieldAddrV, indexAddrV, extractV, cellAt, cellsAt, findB, setB, fillL, buildV, Value.cells, lenV, minV, maxV, hav, sliceV, loV, hiV, bslQ, mksQ, appQ, partsOk, partsCells, delB, eqL, SameI, strOp, apzQ, cvtQ, capV, ↓reduceIte, Zj, Zk, Nat.reduceAdd, Nat.reduceLT, Nat.reduceEqDiff, Nat.reduceMul, Nat.reduceLeDiff, if_true, Zn, reduceCtorEq, ZA, eq_self, Int.reduceLE, Int.reduceLT, Int.reduceToNat, ne_eq, Nat.reduceSub]

theorem grown0_c (n : Nat) (x o : List Int) (hx : Bytes8 x) (ho : Bytes8 o) (hn : n ≤ 7) (px : IsPerm x n) (po : IsPerm o n) (i rt u : Nat) (hi : i < n) (hrt : rt ≤ 1) (hu : u ≤ 1) :
    Gives Try.prog 89 #[.agg (gc (n : Int) x o).toArray, .agg #[.int .i64 (i : Int), .int .i64 0, .int .i64 (rt : Int), .int .i64 (u : Int)]] (.agg (gc ((n : Int) + 1) (tab (grA x i rt (u : Int) n)) (tab (grB x o i rt (u : Int) n))).toArray) := by
  have hl := hx.len
  have hm := ho.len
  have cr := bytes_get hx (i := i) (by omega)
  have pr := (px).1 i hi
  have e1 : ((i : Int) + (rt : Int)).toNat = i + rt := by omega
  have e2 : ((i : Int) + 1 - (rt : Int)).toNat = i + 1 - rt := by omega
  have t0 := fun f : Nat → Int => tab_len f
  skip
  refine Gives.of fun w => ?_
  refine acall_of (N := 163) (c := _) (rs := [.cell 4 32]) (args := [_, _]) Try.func89 rfl (by decide) rfl rfl (Nat.le_of_ble_eq_true rfl) ?_
  refine Cd.rs [2, 3, 4] fun K hK => ?_
  simp (maxSteps := 2000000) (disch := first | (simp only [E4, hl, hm, e1, e2, t0] <;> omega) | omega | fail) only [↓E2, E3, bare, bareJ, ↓E0, E1, evP, evPlan, env0, envN, evOps, evOp, evQs, evQ, evV, setD, pureOp, ev, upd, updL, gate, binW, eqOp, binV, intOp, shOp, boolOp, unV, convV, nilV, fieldAddrV, indexAddrV, extractV, cellAt, cellsAt, findB, setB, fillL, buildV, Value.cells, lenV, minV, maxV, hav, sliceV, loV, hiV, bslQ, mksQ, appQ, partsOk, partsCells, delB, eqL, SameI, strOp, apzQ, cvtQ, capV, ↓reduceIte, Zj, Zk, Nat.reduceAdd, Nat.reduceLT, Nat.reduceEqDiff, Nat.reduceMul, Nat.reduceLeDiff, if_true, Zn, reduceCtorEq, ZA, eq_self, Int.reduceLE, Int.reduceLT, Int.reduceToNat, ne_eq, Nat.reduceSub, Tzero32, hl, hm, e1, e2, t0]
  repeat refine And.intro (by omega) ?_
  intro b1 hb1
  intro b2 hb2
  have nb2_b1 := hb2.ne
  intro b3 hb3
  have nb3_b2 := hb3.ne
  have nb3_b1 := hb3.tail.ne
  try simp (maxSteps := 2000000) (disch := first | (simp only [E4, hl, hm, e1, e2, t0, nb2_b1, nb3_b2, nb3_b1] <;> omega) | omega | fail) only [↓E2, E3, bare, bareJ, ↓E0, E1, evP, evPlan, env0, envN, evOps, evOp, evQs, evQ, evV, setD, pureOp, ev, upd, updL, gate, binW, eqOp, binV, intOp, shOp, boolOp, unV, convV, nilV, fieldAddrV, indexAddrV, extractV, cellAt, cellsAt, findB, setB, fillL, buildV, Value.cells, lenV, minV, maxV, hav, sliceV, loV, hiV, bslQ, mksQ, appQ, partsOk, partsCells, delB, eqL, SameI, strOp, apzQ, cvtQ, capV, ↓reduceIte, Zj, Zk, Nat.reduceAdd, Nat.reduceLT, Nat.reduceEqDiff, Nat.reduceMul, Nat.reduceLeDiff, if_true, Zn, reduceCtorEq, ZA, eq_self, Int.reduceLE, Int.reduceLT, Int.reduceToNat, ne_eq, Nat.reduceSub, Tzero32, hl, hm, e1, e2, t0, nb2_b1, nb3_b2, nb3_b1]
  repeat refine And.intro (by omega) ?_
  intro g
  simp only [List.map_cons, List.map_nil, updL, upd, Nat.reduceEqDiff, if_true, if_false, ↓reduceIte]
  refine hK _ _ ?_; clear hK K
  refine Cd.ps [2, 3, 4, 5, 6] (Plan.take 0 (Plan.take 1 (Plan.take 2 (Plan.take 3 (Plan.take 5 (Plan.take 6 (Plan.take 7 (Plan.take 8 (Plan.take 4 (Plan.take 9 (Plan.more 10 (Plan.more 11 (Plan.one 12 (Plan.one 13 (Plan.one 14 (Plan.done)))) (Plan.one 12 (Plan.one 11 (Plan.one 13 (Plan.one 14 (Plan.done)))))) (Plan.more 11 (Plan.more 10 (Plan.one 12 (Plan.one 13 (Plan.one 14 (Plan.done)))) (Plan.one 12 (Plan.more 10 (Plan.one 13 (Plan.one 14 (Plan.done))) (Plan.one 13 (Plan.take 10 (Plan.one 14 (Plan.done))))))) (Plan.one 12 (Plan.more 10 (Plan.one 11 (Plan.one 13 (Plan.one 14 (Plan.done)))) (Plan.one 11 (Plan.more 10 (Plan.one 13 (Plan.one 14 (Plan.done))) (Plan.one 13 (Plan.take 10 (Plan.one 14 (Plan.done)))))))))))))))))))) fol (by kernel_rfl) (Nat.le_of_ble_eq_true rfl) fun K hK => ?_
  have J : ∀ g c1 c2 M, [(c2, ints .u8 o), (c1, ints .u8 x), (b3, gc 0 z8 z8), (b2, [.int .i64 (i : Int), .int .i64 0, .int .i64 (rt : Int), .int .i64 (u : Int)]), (b1, gc (n : Int) x o)].Perm M → K (updL [(2, .pointer (some ⟨b1, 0, none⟩)), (3, .pointer (some ⟨b2, 0, none⟩)), (4, .pointer (some ⟨b3, 0, none⟩)), (5, .pointer (some ⟨c1, 0, none⟩)), (6, .pointer (some ⟨c2, 0, none⟩))] g) M := by
    intro g c1 c2 M hM
    refine hK _ _ (Cd.turn hM (Cd.nodup fun hnd => ?_)); clear hK K
    obtain ⟨⟨d1, d2, d3, d4⟩, ⟨d5, d6, d7⟩, _, _⟩ := nodup5 hnd
    skip
    skip
    refine Cd.rs [2, 3, 4, 5, 6, 7] fun K hK => ?_
    simp (maxSteps := 2000000) (disch := first | (simp only [E4, hl, hm, e1, e2, t0, nb2_b1, nb3_b2, nb3_b1, d1, d2, d3, d4, d5, d6, d7] <;> omega) | omega | fail) only [↓E2, E3, bare, bareJ, ↓E0, E1, evP, evPlan, env0, envN, evOps, evOp, evQs, evQ, evV, setD, pureOp, ev, upd, updL, gate, binW, eqOp, binV, intOp, shOp, boolOp, unV, convV, nilV, fieldAddrV, indexAddrV, extractV, cellAt, cellsAt, findB, setB, fillL, buildV, Value.cells, lenV, minV, maxV, hav, sliceV, loV, hiV, bslQ, mksQ, appQ, partsOk, partsCells, delB, eqL, SameI, strOp, apzQ, cvtQ, capV, ↓reduceIte, Zj, Zk, Nat.reduceAdd, Nat.reduceLT, Nat.reduceEqDiff, Nat.reduceMul, Nat.reduceLeDiff, if_true, Zn, reduceCtorEq, ZA, eq_self, Int.reduceLE, Int.reduceLT, Int.reduceToNat, ne_eq, Nat.reduceSub, Tarr30, Tfld87_0, Tld3, Tld5, hl, hm, e1, e2, t0, nb2_b1, nb3_b2, nb3_b1, d1, d2, d3, d4, d5, d6, d7]
    repeat refine And.intro (by omega) ?_
    intro g
    simp only [List.map_cons, List.map_nil, updL, upd, Nat.reduceEqDiff, if_true, if_false, ↓reduceIte]
    refine hK _ _ ?_; clear hK K
    refine Cd.rs [2, 3, 4, 5, 6, 7, 8] fun K hK => ?_
    simp (maxSteps := 2000000) (disch := first | (simp only [E4, hl, hm, e1, e2, t0, nb2_b1, nb3_b2, nb3_b1, d1, d2, d3, d4, d5, d6, d7] <;> omega) | omega | fail) only [↓E2, E3, bare, bareJ, ↓E0, E1, evP, evPlan, env0, envN, evOps, evOp, evQs, evQ, evV, setD, pureOp, ev, upd, updL, gate, binW, eqOp, binV, intOp, shOp, boolOp, unV, convV, nilV, fieldAddrV, indexAddrV, extractV, cellAt, cellsAt, findB, setB, fillL, buildV, Value.cells, lenV, minV, maxV, hav, sliceV, loV, hiV, bslQ, mksQ, appQ, partsOk, partsCells, delB, eqL, SameI, strOp, apzQ, cvtQ, capV, ↓reduceIte, Zj, Zk, Nat.reduceAdd, Nat.reduceLT, Nat.reduceEqDiff, Nat.reduceMul, Nat.reduceLeDiff, if_true, Zn, reduceCtorEq, ZA, eq_self, Int.reduceLE, Int.reduceLT, Int.reduceToNat, ne_eq, Nat.reduceSub, Tbld32, Tfld32_0, Tld2, Tst32, Tzero32, hl, hm, e1, e2, t0, nb2_b1, nb3_b2, nb3_b1, d1, d2, d3, d4, d5, d6, d7]
    repeat refine And.intro (by omega) ?_
    intro b6 hb6
    have nb6_c2 := hb6.ne
    have nb6_c1 := hb6.tail.ne
    have nb6_b3 := hb6.tail.tail.ne
    have nb6_b2 := hb6.tail.tail.tail.ne
    have nb6_b1 := hb6.tail.tail.tail.tail.ne
    try simp (maxSteps := 2000000) (disch := first | (simp only [E4, hl, hm, e1, e2, t0, nb2_b1, nb3_b2, nb3_b1, d1, d2, d3, d4, d5, d6, d7, nb6_c2, nb6_c1, nb6_b3, nb6_b2, nb6_b1] <;> omega) | omega | fail) only [↓E2, E3, bare, bareJ, ↓E0, E1, evP, evPlan, env0, envN, evOps, evOp, evQs, evQ, evV, setD, pureOp, ev, upd, updL, gate, binW, eqOp, binV, intOp, shOp, boolOp, unV, convV, nilV, fieldAddrV, indexAddrV, extractV, cellAt, cellsAt, findB, setB, fillL, buildV, Value.cells, lenV, minV, maxV, hav, sliceV, loV, hiV, bslQ, mksQ, appQ, partsOk, partsCells, delB, eqL, SameI, strOp, apzQ, cvtQ, capV, ↓reduceIte, Zj, Zk, Nat.reduceAdd, Nat.reduceLT, Nat.reduceEqDiff, Nat.reduceMul, Nat.reduceLeDiff, if_true, Zn, reduceCtorEq, ZA, eq_self, Int.reduceLE, Int.reduceLT, Int.reduceToNat, ne_eq, Nat.reduceSub, Tbld32, Tfld32_0, Tld2, Tst32, Tzero32, hl, hm, e1, e2, t0, nb2_b1, nb3_b2, nb3_b1, d1, d2, d3, d4, d5, d6, d7, nb6_c2, nb6_c1, nb6_b3, nb6_b2, nb6_b1]
    repeat refine And.intro (by omega) ?_
    intro g
    simp only [List.map_cons, List.map_nil, updL, upd, Nat.reduceEqDiff, if_true, if_false, ↓reduceIte]
    refine hK _ _ ?_; clear hK K
    refine Cd.qs [2, 3, 4, 5, 6, 7, 8, 9, 10] fol (by kernel_rfl) fun K hK => ?_
    simp (maxSteps := 2000000) (disch := first | (simp only [E4, hl, hm, e1, e2, t0, nb2_b1, nb3_b2, nb3_b1, d1, d2, d3, d4, d5, d6, d7, nb6_c2, nb6_c1, nb6_b3, nb6_b2, nb6_b1] <;> omega) | omega | fail) only [↓E2, E3, bare, bareJ, ↓E0, E1, evP, evPlan, env0, envN, evOps, evOp, evQs, evQ, evV, setD, pureOp, ev, upd, updL, gate, binW, eqOp, binV, intOp, shOp, boolOp, unV, convV, nilV, fieldAddrV, indexAddrV, extractV, cellAt, cellsAt, findB, setB, fillL, buildV, Value.cells, lenV, minV, maxV, hav, sliceV, loV, hiV, bslQ, mksQ, appQ, partsOk, partsCells, delB, eqL, SameI, strOp, apzQ, cvtQ, capV, ↓reduceIte, Zj, Zk, Nat.reduceAdd, Nat.reduceLT, Nat.reduceEqDiff, Nat.reduceMul, Nat.reduceLeDiff, if_true, Zn, reduceCtorEq, ZA, eq_self, Int.reduceLE, Int.reduceLT, Int.reduceToNat, ne_eq, Nat.reduceSub, Tfld87_1, Tld3, hl, hm, e1, e2, t0, nb2_b1, nb3_b2, nb3_b1, d1, d2, d3, d4, d5, d6, d7, nb6_c2, nb6_c1, nb6_b3, nb6_b2, nb6_b1]
    refine callQ_gives (rows0_c _ _) ?_
    simp (maxSteps := 2000000) (disch := first | (simp only [E4, hl, hm, e1, e2, t0, nb2_b1, nb3_b2, nb3_b1, d1, d2, d3, d4, d5, d6, d7, nb6_c2, nb6_c1, nb6_b3, nb6_b2, nb6_b1] <;> omega) | omega | fail) only [↓E2, E3, bare, bareJ, ↓E0, E1, evP, evPlan, env0, envN, evOps, evOp, evQs, evQ, evV, setD, pureOp, ev, upd, updL, gate, binW, eqOp, binV, intOp, shOp, boolOp, unV, convV, nilV, fieldAddrV, indexAddrV, extractV, cellAt, cellsAt, findB, setB, fillL, buildV, Value.cells, lenV, minV, maxV, hav, sliceV, loV, hiV, bslQ, mksQ, appQ, partsOk, partsCells, delB, eqL, SameI, strOp, apzQ, cvtQ, capV, ↓reduceIte, Zj, Zk, Nat.reduceAdd, Nat.reduceLT, Nat.reduceEqDiff, Nat.reduceMul, Nat.reduceLeDiff, if_true, Zn, reduceCtorEq, ZA, eq_self, Int.reduceLE, Int.reduceLT, Int.reduceToNat, ne_eq, Nat.reduceSub, Tfld87_1, Tld3, hl, hm, e1, e2, t0, nb2_b1, nb3_b2, nb3_b1, d1, d2, d3, d4, d5, d6, d7, nb6_c2, nb6_c1, nb6_b3, nb6_b2, nb6_b1]
    refine callQ_gives (rows1_c _ _) ?_
    simp (maxSteps := 2000000) (disch := first | (simp only [E4, hl, hm, e1, e2, t0, nb2_b1, nb3_b2, nb3_b1, d1, d2, d3, d4, d5, d6, d7, nb6_c2, nb6_c1, nb6_b3, nb6_b2, nb6_b1] <;> omega) | omega | fail) only [↓E2, E3, bare, bareJ, ↓E0, E1, evP, evPlan, env0, envN, evOps, evOp, evQs, evQ, evV, setD, pureOp, ev, upd, updL, gate, binW, eqOp, binV, intOp, shOp, boolOp, unV, convV, nilV, fieldAddrV, indexAddrV, extractV, cellAt, cellsAt, findB, setB, fillL, buildV, Value.cells, lenV, minV, maxV, hav, sliceV, loV, hiV, bslQ, mksQ, appQ, partsOk, partsCells, delB, eqL, SameI, strOp, apzQ, cvtQ, capV, ↓reduceIte, Zj, Zk, Nat.reduceAdd, Nat.reduceLT, Nat.reduceEqDiff, Nat.reduceMul, Nat.reduceLeDiff, if_true, Zn, reduceCtorEq, ZA, eq_self, Int.reduceLE, Int.reduceLT, Int.reduceToNat, ne_eq, Nat.reduceSub, Tfld87_1, Tld3, hl, hm, e1, e2, t0, nb2_b1, nb3_b2, nb3_b1, d1, d2, d3, d4, d5, d6, d7, nb6_c2, nb6_c1, nb6_b3, nb6_b2, nb6_b1]
    repeat refine And.intro (by omega) ?_
    intro g
    simp only [List.map_cons, List.map_nil, updL, upd, Nat.reduceEqDiff, if_true, if_false, ↓reduceIte]
    refine hK _ ?_; clear hK K
    refine Cd.seq ?_
    refine Cd.rs [3, 4, 5, 6, 7, 8, 9, 10, 40, 41] fun K hK => ?_
    simp (maxSteps := 2000000) (disch := first | (simp only [E4, hl, hm, e1, e2, t0, nb2_b1, nb3_b2, nb3_b1, d1, d2, d3, d4, d5, d6, d7, nb6_c2, nb6_c1, nb6_b3, nb6_b2, nb6_b1] <;> omega) | omega | fail) only [↓E2, E3, bare, bareJ, ↓E0, E1, evP, evPlan, env0, envN, evOps, evOp, evQs, evQ, evV, setD, pureOp, ev, upd, updL, gate, binW, eqOp, binV, intOp, shOp, boolOp, unV, convV, nilV, fieldAddrV, indexAddrV, extractV, cellAt, cellsAt, findB, setB, fillL, buildV, Value.cells, lenV, minV, maxV, hav, sliceV, loV, hiV, bslQ, mksQ, appQ, partsOk, partsCells, delB, eqL, SameI, strOp, apzQ, cvtQ, capV, ↓reduceIte, Zj, Zk, Nat.reduceAdd, Nat.reduceLT, Nat.reduceEqDiff, Nat.reduceMul, Nat.reduceLeDiff, if_true, Zn, reduceCtorEq, ZA, eq_self, Int.reduceLE, Int.reduceLT, Int.reduceToNat, ne_eq, Nat.reduceSub, Tld32, hl, hm, e1, e2, t0, nb2_b1, nb3_b2, nb3_b1, d1, d2, d3, d4, d5, d6, d7, nb6_c2, nb6_c1, nb6_b3, nb6_b2, nb6_b1]
    refine callK_gives (n_c _ _ _ hl hm) ?_
    simp (maxSteps := 2000000) (disch := first | (simp only [E4, hl, hm, e1, e2, t0, nb2_b1, nb3_b2, nb3_b1, d1, d2, d3, d4, d5, d6, d7, nb6_c2, nb6_c1, nb6_b3, nb6_b2, nb6_b1] <;> omega) | omega | fail) only [↓E2, E3, bare, bareJ, ↓E0, E1, evP, evPlan, env0, envN, evOps, evOp, evQs, evQ, evV, setD, pureOp, ev, upd, updL, gate, binW, eqOp, binV, intOp, shOp, boolOp, unV, convV, nilV, fieldAddrV, indexAddrV, extractV, cellAt, cellsAt, findB, setB, fillL, buildV, Value.cells, lenV, minV, maxV, hav, sliceV, loV, hiV, bslQ, mksQ, appQ, partsOk, partsCells, delB, eqL, SameI, strOp, apzQ, cvtQ, capV, ↓reduceIte, Zj, Zk, Nat.reduceAdd, Nat.reduceLT, Nat.reduceEqDiff, Nat.reduceMul, Nat.reduceLeDiff, if_true, Zn, reduceCtorEq, ZA, eq_self, Int.reduceLE, Int.reduceLT, Int.reduceToNat, ne_eq, Nat.reduceSub, Tld32, hl, hm, e1, e2, t0, nb2_b1, nb3_b2, nb3_b1, d1, d2, d3, d4, d5, d6, d7, nb6_c2, nb6_c1, nb6_b3, nb6_b2, nb6_b1]
    repeat refine And.intro (by omega) ?_
    intro g
    simp only [List.map_cons, List.map_nil, updL, upd, Nat.reduceEqDiff, if_true, if_false, ↓reduceIte]
    refine hK _ _ ?_; clear hK K
    refine Cd.block ?_
    refine Cd.loop (fun m ρ M => ∃ g k, k + m = n ∧ ρ = updL ([(3, .pointer (some ⟨b2, 0, none⟩)), (4, .pointer (some ⟨b3, 0, none⟩)), (5, .pointer (some ⟨c1, 0, none⟩)), (6, .pointer (some ⟨c2, 0, none⟩)), (7, .int .u8 (x.getD i 0)), (8, .pointer (some ⟨b6, 0, none⟩)), (9, .pointer (some ⟨b6, 1, none⟩)), (10, .pointer (some ⟨b6, 9, none⟩)), (40, .int .i64 (n : Int)), (41, .int .i64 (k : Int))]) g ∧ M = [(b6, gc ((n : Int) + 1) (tab (genK (fun c => liftM (x.getD i 0) (x.getD c 0)) i rt k)) (tab (genK (fun c => liftF (x.getD i 0) (u : Int) (o.getD c 0)) i rt k))), (c2, ints .u8 o), (c1, ints .u8 x), (b3, gc 0 z8 z8), (b2, [.int .i64 (i : Int), .int .i64 0, .int .i64 (rt : Int), .int .i64 (u : Int)]), (b1, gc (n : Int) x o)]) n ⟨_, 0, Nat.zero_add _, rfl, by rw [genK_zero, genK_zero]⟩ ?_
    rintro m ρ M ⟨g, k, hk, rfl, rfl⟩
    refine Cd.rs [3, 4, 5, 6, 7, 8, 9, 10, 40, 41, 42] fun K hK => ?_
    simp (maxSteps := 2000000) (disch := first | (simp only [E4, hl, hm, e1, e2, t0, nb2_b1, nb3_b2, nb3_b1, d1, d2, d3, d4, d5, d6, d7, nb6_c2, nb6_c1, nb6_b3, nb6_b2, nb6_b1] <;> omega) | omega | fail) only [↓E2, E3, bare, bareJ, ↓E0, E1, evP, evPlan, env0, envN, evOps, evOp, evQs, evQ, evV, setD, pureOp, ev, upd, updL, gate, binW, eqOp, binV, intOp, shOp, boolOp, unV, convV, nilV, fieldAddrV, indexAddrV, extractV, cellAt, cellsAt, findB, setB, fillL, buildV, Value.cells, lenV, minV, maxV, hav, sliceV, loV, hiV, bslQ, mksQ, appQ, partsOk, partsCells, delB, eqL, SameI, strOp, apzQ, cvtQ, capV, ↓reduceIte, Zj, Zk, Nat.reduceAdd, Nat.reduceLT, Nat.reduceEqDiff, Nat.reduceMul, Nat.reduceLeDiff, if_true, Zn, reduceCtorEq, ZA, eq_self, Int.reduceLE, Int.reduceLT, Int.reduceToNat, ne_eq, Nat.reduceSub, hl, hm, e1, e2, t0, nb2_b1, nb3_b2, nb3_b1, d1, d2, d3, d4, d5, d6, d7, nb6_c2, nb6_c1, nb6_b3, nb6_b2, nb6_b1]
    repeat refine And.intro (by omega) ?_
    intro g
    simp only [List.map_cons, List.map_nil, updL, upd, Nat.reduceEqDiff, if_true, if_false, ↓reduceIte]
    refine hK _ _ ?_; clear hK K
    refine Cd.seq ?_
    refine Cd.condd rfl (fun h1 => ?_) (fun h1 => ?_)
    · have ck := bytes_get hx (i := k) (by omega)
      have dk := bytes_get ho (i := k) (by omega)
      have pk := (px).1 k (by omega)
      have qk := po.1 k (by omega)
      have qk' := px.1 k (by omega)
      have cc := colK_le hrt hi (k := k) (by omega)
      have s1 := fun v : Int => set_get (l := (tab (genK (fun c => liftM (x.getD i 0) (x.getD c 0)) i rt k))) (i := (colK i rt k)) (v := v) (by rw [tab_len]; omega)
      have s2 := fun v : Int => set_get (l := (tab (genK (fun c => liftF (x.getD i 0) (u : Int) (o.getD c 0)) i rt k))) (i := (colK i rt k)) (v := v) (by rw [tab_len]; omega)
      have s3 := fun (l : List Int) (j : Nat) (v w : Int) => set_set (l := l) (i := j) (v := v) (w := w)
      skip
      refine Cd.skip ?_
      refine thenN ?_
      refine Cd.midq (fun ρ M => ∃ g, ρ = updL ([(3, .pointer (some ⟨b2, 0, none⟩)), (4, .pointer (some ⟨b3, 0, none⟩)), (5, .pointer (some ⟨c1, 0, none⟩)), (6, .pointer (some ⟨c2, 0, none⟩)), (7, .int .u8 (x.getD i 0)), (8, .pointer (some ⟨b6, 0, none⟩)), (9, .pointer (some ⟨b6, 1, none⟩)), (10, .pointer (some ⟨b6, 9, none⟩)), (40, .int .i64 (n : Int)), (41, .int .i64 (k : Int))]) g ∧ M = [(b6, gc ((n : Int) + 1) (tab (genK (fun c => liftM (x.getD i 0) (x.getD c 0)) i rt (k + 1))) (tab (genK (fun c => liftF (x.getD i 0) (u : Int) (o.getD c 0)) i rt (k + 1)))), (c2, ints .u8 o), (c1, ints .u8 x), (b3, gc 0 z8 z8), (b2, [.int .i64 (i : Int), .int .i64 0, .int .i64 (rt : Int), .int .i64 (u : Int)]), (b1, gc (n : Int) x o)]) ?_ ?_
      · refine Cd.block ?_
        refine Cd.rs [3, 4, 5, 6, 7, 8, 9, 10, 11, 40, 41] fun K hK => ?_
        simp (maxSteps := 2000000) (disch := first | (simp only [E4, hl, hm, e1, e2, t0, nb2_b1, nb3_b2, nb3_b1, d1, d2, d3, d4, d5, d6, d7, nb6_c2, nb6_c1, nb6_b3, nb6_b2, nb6_b1, s1, s2, s3] <;> omega) | omega | fail) only [↓E2, E3, bare, bareJ, ↓E0, E1, evP, evPlan, env0, envN, evOps, evOp, evQs, evQ, evV, setD, pureOp, ev, upd, updL, gate, binW, eqOp, binV, intOp, shOp, boolOp, unV, convV, nilV, fieldAddrV, indexAddrV, extractV, cellAt, cellsAt, findB, setB, fillL, buildV, Value.cells, lenV, minV, maxV, hav, sliceV, loV, hiV, bslQ, mksQ, appQ, partsOk, partsCells, delB, eqL, SameI, strOp, apzQ, cvtQ, capV, ↓reduceIte, Zj, Zk, Nat.reduceAdd, Nat.reduceLT, Nat.reduceEqDiff, Nat.reduceMul, Nat.reduceLeDiff, if_true, Zn, reduceCtorEq, ZA, eq_self, Int.reduceLE, Int.reduceLT, Int.reduceToNat, ne_eq, Nat.reduceSub, hl, hm, e1, e2, t0, nb2_b1, nb3_b2, nb3_b1, d1, d2, d3, d4, d5, d6, d7, nb6_c2, nb6_c1, nb6_b3, nb6_b2, nb6_b1, s1, s2, s3]
        repeat refine And.intro (by omega) ?_
        intro g
        simp only [List.map_cons, List.map_nil, updL, upd, Nat.reduceEqDiff, if_true, if_false, ↓reduceIte]
        refine hK _ _ ?_; clear hK K
        refine Cd.rs [3, 4, 5, 6, 7, 8, 9, 10, 11, 12, 40, 41] fun K hK => ?_
        simp (maxSteps := 2000000) (disch := first | (simp only [E4, hl, hm, e1, e2, t0, nb2_b1, nb3_b2, nb3_b1, d1, d2, d3, d4, d5, d6, d7, nb6_c2, nb6_c1, nb6_b3, nb6_b2, nb6_b1, s1, s2, s3] <;> omega) | omega | fail) only [↓E2, E3, bare, bareJ, ↓E0, E1, evP, evPlan, env0, envN, evOps, evOp, evQs, evQ, evV, setD, pureOp, ev, upd, updL, gate, binW, eqOp, binV, intOp, shOp, boolOp, unV, convV, nilV, fieldAddrV, indexAddrV, extractV, cellAt, cellsAt, findB, setB, fillL, buildV, Value.cells, lenV, minV, maxV, hav, sliceV, loV, hiV, bslQ, mksQ, appQ, partsOk, partsCells, delB, eqL, SameI, strOp, apzQ, cvtQ, capV, ↓reduceIte, Zj, Zk, Nat.reduceAdd, Nat.reduceLT, Nat.reduceEqDiff, Nat.reduceMul, Nat.reduceLeDiff, if_true, Zn, reduceCtorEq, ZA, eq_self, Int.reduceLE, Int.reduceLT, Int.reduceToNat, ne_eq, Nat.reduceSub, hl, hm, e1, e2, t0, nb2_b1, nb3_b2, nb3_b1, d1, d2, d3, d4, d5, d6, d7, nb6_c2, nb6_c1, nb6_b3, nb6_b2, nb6_b1, s1, s2, s3]
        repeat refine And.intro (by omega) ?_
        intro g
        simp only [List.map_cons, List.map_nil, updL, upd, Nat.reduceEqDiff, if_true, if_false, ↓reduceIte]
        refine hK _ _ ?_; clear hK K
        refine Cd.midq (fun ρ M => ∃ g, ρ = updL ([(3, .pointer (some ⟨b2, 0, none⟩)), (4, .pointer (some ⟨b3, 0, none⟩)), (5, .pointer (some ⟨c1, 0, none⟩)), (6, .pointer (some ⟨c2, 0, none⟩)), (7, .int .u8 (x.getD i 0)), (8, .pointer (some ⟨b6, 0, none⟩)), (9, .pointer (some ⟨b6, 1, none⟩)), (10, .pointer (some ⟨b6, 9, none⟩)), (11, .int .i64 (k : Int)), (12, .int .i64 (if i < k then (k : Int) + 1 else (k : Int))), (40, .int .i64 (n : Int)), (41, .int .i64 (k : Int))]) g ∧ M = [(b6, gc ((n : Int) + 1) (tab (genK (fun c => liftM (x.getD i 0) (x.getD c 0)) i rt k)) (tab (genK (fun c => liftF (x.getD i 0) (u : Int) (o.getD c 0)) i rt k))), (c2, ints .u8 o), (c1, ints .u8 x), (b3, gc 0 z8 z8), (b2, [.int .i64 (i : Int), .int .i64 0, .int .i64 (rt : Int), .int .i64 (u : Int)]), (b1, gc (n : Int) x o)]) ?_ ?_
        · refine Cd.rs [3, 4, 5, 6, 7, 8, 9, 10, 11, 12, 40, 41, 48] fun K hK => ?_
          simp (maxSteps := 2000000) (disch := first | (simp only [E4, hl, hm, e1, e2, t0, nb2_b1, nb3_b2, nb3_b1, d1, d2, d3, d4, d5, d6, d7, nb6_c2, nb6_c1, nb6_b3, nb6_b2, nb6_b1, s1, s2, s3] <;> omega) | omega | fail) only [↓E2, E3, bare, bareJ, ↓E0, E1, evP, evPlan, env0, envN, evOps, evOp, evQs, evQ, evV, setD, pureOp, ev, upd, updL, gate, binW, eqOp, binV, intOp, shOp, boolOp, unV, convV, nilV, fieldAddrV, indexAddrV, extractV, cellAt, cellsAt, findB, setB, fillL, buildV, Value.cells, lenV, minV, maxV, hav, sliceV, loV, hiV, bslQ, mksQ, appQ, partsOk, partsCells, delB, eqL, SameI, strOp, apzQ, cvtQ, capV, ↓reduceIte, Zj, Zk, Nat.reduceAdd, Nat.reduceLT, Nat.reduceEqDiff, Nat.reduceMul, Nat.reduceLeDiff, if_true, Zn, reduceCtorEq, ZA, eq_self, Int.reduceLE, Int.reduceLT, Int.reduceToNat, ne_eq, Nat.reduceSub, Tfld87_0, Tld3, hl, hm, e1, e2, t0, nb2_b1, nb3_b2, nb3_b1, d1, d2, d3, d4, d5, d6, d7, nb6_c2, nb6_c1, nb6_b3, nb6_b2, nb6_b1, s1, s2, s3]
          repeat refine And.intro (by omega) ?_
          intro g
          simp only [List.map_cons, List.map_nil, updL, upd, Nat.reduceEqDiff, if_true, if_false, ↓reduceIte]
          refine hK _ _ ?_; clear hK K
          refine Cd.condd rfl (fun h2 => ?_) (fun h2 => ?_)
          · rw [if_pos (by omega)]
            refine Cd.rr [3, 4, 5, 6, 7, 8, 9, 10, 11, 12, 40, 41] fun K hK => ?_
            simp (maxSteps := 2000000) (disch := first | (simp only [E4, hl, hm, e1, e2, t0, nb2_b1, nb3_b2, nb3_b1, d1, d2, d3, d4, d5, d6, d7, nb6_c2, nb6_c1, nb6_b3, nb6_b2, nb6_b1, s1, s2, s3] <;> omega) | omega | fail) only [↓E2, E3, bare, bareJ, ↓E0, E1, evP, evPlan, env0, envN, evOps, evOp, evQs, evQ, evV, setD, pureOp, ev, upd, updL, gate, binW, eqOp, binV, intOp, shOp, boolOp, unV, convV, nilV, fieldAddrV, indexAddrV, extractV, cellAt, cellsAt, findB, setB, fillL, buildV, Value.cells, lenV, minV, maxV, hav, sliceV, loV, hiV, bslQ, mksQ, appQ, partsOk, partsCells, delB, eqL, SameI, strOp, apzQ, cvtQ, capV, ↓reduceIte, Zj, Zk, Nat.reduceAdd, Nat.reduceLT, Nat.reduceEqDiff, Nat.reduceMul, Nat.reduceLeDiff, if_true, Zn, reduceCtorEq, ZA, eq_self, Int.reduceLE, Int.reduceLT, Int.reduceToNat, ne_eq, Nat.reduceSub, hl, hm, e1, e2, t0, nb2_b1, nb3_b2, nb3_b1, d1, d2, d3, d4, d5, d6, d7, nb6_c2, nb6_c1, nb6_b3, nb6_b2, nb6_b1, s1, s2, s3]
            repeat refine And.intro (by omega) ?_
            intro g
            simp only [List.map_cons, List.map_nil, updL, upd, Nat.reduceEqDiff, if_true, if_false, ↓reduceIte]
            refine hK _ _ ?_; clear hK K
            exact midN ⟨_, rfl, rfl⟩
          · rw [if_neg (by omega)]
            refine Cd.skip ?_
            exact midN ⟨_, (norm_of (by repeat (first | exact trivial | refine And.intro rfl ?_))), rfl⟩
        · rintro ρ M ⟨g, rfl, rfl⟩
          refine Cd.midq (fun ρ M => ∃ g, ρ = updL ([(3, .pointer (some ⟨b2, 0, none⟩)), (4, .pointer (some ⟨b3, 0, none⟩)), (5, .pointer (some ⟨c1, 0, none⟩)), (6, .pointer (some ⟨c2, 0, none⟩)), (7, .int .u8 (x.getD i 0)), (8, .pointer (some ⟨b6, 0, none⟩)), (9, .pointer (some ⟨b6, 1, none⟩)), (10, .pointer (some ⟨b6, 9, none⟩)), (11, .int .i64 (k : Int)), (12, .int .i64 ((colK i rt k) : Int)), (40, .int .i64 (n : Int)), (41, .int .i64 (k : Int))]) g ∧ M = [(b6, gc ((n : Int) + 1) (tab (genK (fun c => liftM (x.getD i 0) (x.getD c 0)) i rt k)) (tab (genK (fun c => liftF (x.getD i 0) (u : Int) (o.getD c 0)) i rt k))), (c2, ints .u8 o), (c1, ints .u8 x), (b3, gc 0 z8 z8), (b2, [.int .i64 (i : Int), .int .i64 0, .int .i64 (rt : Int), .int .i64 (u : Int)]), (b1, gc (n : Int) x o)]) ?_ ?_
          · refine Cd.rs [3, 4, 5, 6, 7, 8, 9, 10, 11, 12, 40, 41, 54] fun K hK => ?_
            simp (maxSteps := 2000000) (disch := first | (simp only [E4, hl, hm, e1, e2, t0, nb2_b1, nb3_b2, nb3_b1, d1, d2, d3, d4, d5, d6, d7, nb6_c2, nb6_c1, nb6_b3, nb6_b2, nb6_b1, s1, s2, s3] <;> omega) | omega | fail) only [↓E2, E3, bare, bareJ, ↓E0, E1, evP, evPlan, env0, envN, evOps, evOp, evQs, evQ, evV, setD, pureOp, ev, upd, updL, gate, binW, eqOp, binV, intOp, shOp, boolOp, unV, convV, nilV, fieldAddrV, indexAddrV, extractV, cellAt, cellsAt, findB, setB, fillL, buildV, Value.cells, lenV, minV, maxV, hav, sliceV, loV, hiV, bslQ, mksQ, appQ, partsOk, partsCells, delB, eqL, SameI, strOp, apzQ, cvtQ, capV, ↓reduceIte, Zj, Zk, Nat.reduceAdd, Nat.reduceLT, Nat.reduceEqDiff, Nat.reduceMul, Nat.reduceLeDiff, if_true, Zn, reduceCtorEq, ZA, eq_self, Int.reduceLE, Int.reduceLT, Int.reduceToNat, ne_eq, Nat.reduceSub, Tfld87_0, Tld3, hl, hm, e1, e2, t0, nb2_b1, nb3_b2, nb3_b1, d1, d2, d3, d4, d5, d6, d7, nb6_c2, nb6_c1, nb6_b3, nb6_b2, nb6_b1, s1, s2, s3]
            repeat refine And.intro (by omega) ?_
            intro g
            simp only [List.map_cons, List.map_nil, updL, upd, Nat.reduceEqDiff, if_true, if_false, ↓reduceIte]
            refine hK _ _ ?_; clear hK K
            refine Cd.cond rfl (fun h3 => ?_) (fun h3 => ?_)
            · simp only [decide_eq_true_eq, decide_eq_false_iff_not, beq_iff_eq, beq_eq_false_iff_ne, bne_iff_ne, bne_eq_false_iff_eq, Bool.and_eq_true, Bool.or_eq_true, Bool.or_eq_false_iff, Bool.not_eq_true', Bool.not_eq_false', Bool.and_eq_false_imp, ne_eq, gt_iff_lt, ge_iff_le, Int.not_lt, Int.not_le, Classical.not_not] at h3
              refine Cd.rr [3, 4, 5, 6, 7, 8, 9, 10, 11, 12, 40, 41] fun K hK => ?_
              simp (maxSteps := 2000000) (disch := first | (simp only [E4, hl, hm, e1, e2, t0, nb2_b1, nb3_b2, nb3_b1, d1, d2, d3, d4, d5, d6, d7, nb6_c2, nb6_c1, nb6_b3, nb6_b2, nb6_b1, s1, s2, s3] <;> omega) | omega | fail) only [↓E2, E3, bare, bareJ, ↓E0, E1, evP, evPlan, env0, envN, evOps, evOp, evQs, evQ, evV, setD, pureOp, ev, upd, updL, gate, binW, eqOp, binV, intOp, shOp, boolOp, unV, convV, nilV, fieldAddrV, indexAddrV, extractV, cellAt, cellsAt, findB, setB, fillL, buildV, Value.cells, lenV, minV, maxV, hav, sliceV, loV, hiV, bslQ, mksQ, appQ, partsOk, partsCells, delB, eqL, SameI, strOp, apzQ, cvtQ, capV, ↓reduceIte, Zj, Zk, Nat.reduceAdd, Nat.reduceLT, Nat.reduceEqDiff, Nat.reduceMul, Nat.reduceLeDiff, if_true, Zn, reduceCtorEq, ZA, eq_self, Int.reduceLE, Int.reduceLT, Int.reduceToNat, ne_eq, Nat.reduceSub, Tfld87_0, Tfld87_2, Tld3, hl, hm, e1, e2, t0, nb2_b1, nb3_b2, nb3_b1, d1, d2, d3, d4, d5, d6, d7, nb6_c2, nb6_c1, nb6_b3, nb6_b2, nb6_b1, s1, s2, s3]
              rw [show (i : Int) + (rt : Int) = ((colK i rt k) : Int) by unfold colK; grind]
              repeat refine And.intro (by omega) ?_
              intro g
              simp only [List.map_cons, List.map_nil, updL, upd, Nat.reduceEqDiff, if_true, if_false, ↓reduceIte]
              refine hK _ _ ?_; clear hK K
              exact midN ⟨_, rfl, rfl⟩
            · simp only [decide_eq_true_eq, decide_eq_false_iff_not, beq_iff_eq, beq_eq_false_iff_ne, bne_iff_ne, bne_eq_false_iff_eq, Bool.and_eq_true, Bool.or_eq_true, Bool.or_eq_false_iff, Bool.not_eq_true', Bool.not_eq_false', Bool.and_eq_false_imp, ne_eq, gt_iff_lt, ge_iff_le, Int.not_lt, Int.not_le, Classical.not_not] at h3
              rw [show (if i < k then (k : Int) + 1 else (k : Int)) = ((colK i rt k) : Int) by unfold colK; grind]
              refine Cd.skip ?_
              exact midN ⟨_, (norm_of (by repeat (first | exact trivial | refine And.intro rfl ?_))), rfl⟩
          · rintro ρ M ⟨g, rfl, rfl⟩
            refine Cd.ps [3, 4, 5, 6, 7, 8, 9, 10, 11, 12, 40, 41] (Plan.take 0 (Plan.take 1 (Plan.take 2 (Plan.take 3 (Plan.take 4 (Plan.take 5 (Plan.take 6 (Plan.take 7 (Plan.take 8 (Plan.take 10 (Plan.take 11 (Plan.take 13 (Plan.more 9 (Plan.one 12 (Plan.take 14 (Plan.one 15 (Plan.done)))) (Plan.one 12 (Plan.take 9 (Plan.take 14 (Plan.one 15 (Plan.done)))))))))))))))))) fol (by kernel_rfl) (Nat.le_of_ble_eq_true rfl) fun K hK => ?_
            simp (maxSteps := 2000000) (disch := first | (simp only [E4, hl, hm, e1, e2, t0, nb2_b1, nb3_b2, nb3_b1, d1, d2, d3, d4, d5, d6, d7, nb6_c2, nb6_c1, nb6_b3, nb6_b2, nb6_b1, s1, s2, s3] <;> omega) | omega | fail) only [↓E2, E3, bare, bareJ, ↓E0, E1, evP, evPlan, env0, envN, evOps, evOp, evQs, evQ, evV, setD, pureOp, ev, upd, updL, gate, binW, eqOp, binV, intOp, shOp, boolOp, unV, convV, nilV, fieldAddrV, indexAddrV, extractV, cellAt, cellsAt, findB, setB, fillL, buildV, Value.cells, lenV, minV, maxV, hav, sliceV, loV, hiV, bslQ, mksQ, appQ, partsOk, partsCells, delB, eqL, SameI, strOp, apzQ, cvtQ, capV, ↓reduceIte, Zj, Zk, Nat.reduceAdd, Nat.reduceLT, Nat.reduceEqDiff, Nat.reduceMul, Nat.reduceLeDiff, if_true, Zn, reduceCtorEq, ZA, eq_self, Int.reduceLE, Int.reduceLT, Int.reduceToNat, ne_eq, Nat.reduceSub, Tarr30, Tld5, Tst5, hl, hm, e1, e2, t0, nb2_b1, nb3_b2, nb3_b1, d1, d2, d3, d4, d5, d6, d7, nb6_c2, nb6_c1, nb6_b3, nb6_b2, nb6_b1, s1, s2, s3]
            repeat refine And.intro (by omega) ?_
            intro g
            simp only [List.map_cons, List.map_nil, updL, upd, Nat.reduceEqDiff, if_true, if_false, ↓reduceIte]
            refine hK _ _ ?_; clear hK K
            refine Cd.midq (fun ρ M => ∃ g, ρ = updL ([(3, .pointer (some ⟨b2, 0, none⟩)), (4, .pointer (some ⟨b3, 0, none⟩)), (5, .pointer (some ⟨c1, 0, none⟩)), (6, .pointer (some ⟨c2, 0, none⟩)), (7, .int .u8 (x.getD i 0)), (8, .pointer (some ⟨b6, 0, none⟩)), (9, .pointer (some ⟨b6, 1, none⟩)), (10, .pointer (some ⟨b6, 9, none⟩)), (11, .int .i64 (k : Int)), (12, .int .i64 ((colK i rt k) : Int)), (40, .int .i64 (n : Int)), (41, .int .i64 (k : Int))]) g ∧ M = [(b6, gc ((n : Int) + 1) ((tab (genK (fun c => liftM (x.getD i 0) (x.getD c 0)) i rt k)).set (colK i rt k) (liftM (x.getD i 0) (x.getD k 0))) ((tab (genK (fun c => liftF (x.getD i 0) (u : Int) (o.getD c 0)) i rt k)).set (colK i rt k) (o.getD k 0))), (c2, ints .u8 o), (c1, ints .u8 x), (b3, gc 0 z8 z8), (b2, [.int .i64 (i : Int), .int .i64 0, .int .i64 (rt : Int), .int .i64 (u : Int)]), (b1, gc (n : Int) x o)]) ?_ ?_
            · refine Cd.rs [3, 4, 5, 6, 7, 8, 9, 10, 11, 12, 40, 41, 78] fun K hK => ?_
              simp (maxSteps := 2000000) (disch := first | (simp only [E4, hl, hm, e1, e2, t0, nb2_b1, nb3_b2, nb3_b1, d1, d2, d3, d4, d5, d6, d7, nb6_c2, nb6_c1, nb6_b3, nb6_b2, nb6_b1, s1, s2, s3] <;> omega) | omega | fail) only [↓E2, E3, bare, bareJ, ↓E0, E1, evP, evPlan, env0, envN, evOps, evOp, evQs, evQ, evV, setD, pureOp, ev, upd, updL, gate, binW, eqOp, binV, intOp, shOp, boolOp, unV, convV, nilV, fieldAddrV, indexAddrV, extractV, cellAt, cellsAt, findB, setB, fillL, buildV, Value.cells, lenV, minV, maxV, hav, sliceV, loV, hiV, bslQ, mksQ, appQ, partsOk, partsCells, delB, eqL, SameI, strOp, apzQ, cvtQ, capV, ↓reduceIte, Zj, Zk, Nat.reduceAdd, Nat.reduceLT, Nat.reduceEqDiff, Nat.reduceMul, Nat.reduceLeDiff, if_true, Zn, reduceCtorEq, ZA, eq_self, Int.reduceLE, Int.reduceLT, Int.reduceToNat, ne_eq, Nat.reduceSub, Tarr30, Tld5, hl, hm, e1, e2, t0, nb2_b1, nb3_b2, nb3_b1, d1, d2, d3, d4, d5, d6, d7, nb6_c2, nb6_c1, nb6_b3, nb6_b2, nb6_b1, s1, s2, s3]
              repeat refine And.intro (by omega) ?_
              intro g
              simp only [List.map_cons, List.map_nil, updL, upd, Nat.reduceEqDiff, if_true, if_false, ↓reduceIte]
              refine hK _ _ ?_; clear hK K
              refine Cd.condd rfl (fun h4 => ?_) (fun h4 => ?_)
              · rw [show liftM (x.getD i 0) (x.getD k 0) = x.getD k 0 + 1 from if_pos h4]
                refine Cd.pr [3, 4, 5, 6, 7, 8, 9, 10, 11, 12, 40, 41] (Plan.take 0 (Plan.take 1 (Plan.take 2 (Plan.take 3 (Plan.take 4 (Plan.take 5 (Plan.take 6 (Plan.take 7 (Plan.one 8 (Plan.done)))))))))) fol (by kernel_rfl) (Nat.le_of_ble_eq_true rfl) fun K hK => ?_
                simp (maxSteps := 2000000) (disch := first | (simp only [E4, hl, hm, e1, e2, t0, nb2_b1, nb3_b2, nb3_b1, d1, d2, d3, d4, d5, d6, d7, nb6_c2, nb6_c1, nb6_b3, nb6_b2, nb6_b1, s1, s2, s3] <;> omega) | omega | fail) only [↓E2, E3, bare, bareJ, ↓E0, E1, evP, evPlan, env0, envN, evOps, evOp, evQs, evQ, evV, setD, pureOp, ev, upd, updL, gate, binW, eqOp, binV, intOp, shOp, boolOp, unV, convV, nilV, fieldAddrV, indexAddrV, extractV, cellAt, cellsAt, findB, setB, fillL, buildV, Value.cells, lenV, minV, maxV, hav, sliceV, loV, hiV, bslQ, mksQ, appQ, partsOk, partsCells, delB, eqL, SameI, strOp, apzQ, cvtQ, capV, ↓reduceIte, Zj, Zk, Nat.reduceAdd, Nat.reduceLT, Nat.reduceEqDiff, Nat.reduceMul, Nat.reduceLeDiff, if_true, Zn, reduceCtorEq, ZA, eq_self, Int.reduceLE, Int.reduceLT, Int.reduceToNat, ne_eq, Nat.reduceSub, Tarr30, Tld5, Tst5, hl, hm, e1, e2, t0, nb2_b1, nb3_b2, nb3_b1, d1, d2, d3, d4, d5, d6, d7, nb6_c2, nb6_c1, nb6_b3, nb6_b2, nb6_b1, s1, s2, s3]
                repeat refine And.intro (by omega) ?_
                intro g
                simp only [List.map_cons, List.map_nil, updL, upd, Nat.reduceEqDiff, if_true, if_false, ↓reduceIte]
                refine hK _ _ ?_; clear hK K
                exact midN ⟨_, rfl, rfl⟩
              · rw [show liftM (x.getD i 0) (x.getD k 0) = x.getD k 0 from if_neg h4]
                refine Cd.skip ?_
                exact midN ⟨_, (norm_of (by repeat (first | exact trivial | refine And.intro rfl ?_))), rfl⟩
            · rintro ρ M ⟨g, rfl, rfl⟩
              have f1 := genK_set (f := fun c => liftM (x.getD i 0) (x.getD c 0)) (i := i) (k := k) hrt rfl
              have f2 := fun (v : Int) hv => genK_set (f := fun c => liftF (x.getD i 0) (u : Int) (o.getD c 0)) (i := i) (k := k) hrt (v := v) hv
              refine Cd.block ?_
              refine Cd.rs [3, 4, 5, 6, 7, 8, 9, 10, 11, 12, 40, 41, 87] fun K hK => ?_
              simp (maxSteps := 2000000) (disch := first | (simp only [E4, hl, hm, e1, e2, t0, nb2_b1, nb3_b2, nb3_b1, d1, d2, d3, d4, d5, d6, d7, nb6_c2, nb6_c1, nb6_b3, nb6_b2, nb6_b1, s1, s2, s3] <;> omega) | omega | fail) only [↓E2, E3, bare, bareJ, ↓E0, E1, evP, evPlan, env0, envN, evOps, evOp, evQs, evQ, evV, setD, pureOp, ev, upd, updL, gate, binW, eqOp, binV, intOp, shOp, boolOp, unV, convV, nilV, fieldAddrV, indexAddrV, extractV, cellAt, cellsAt, findB, setB, fillL, buildV, Value.cells, lenV, minV, maxV, hav, sliceV, loV, hiV, bslQ, mksQ, appQ, partsOk, partsCells, delB, eqL, SameI, strOp, apzQ, cvtQ, capV, ↓reduceIte, Zj, Zk, Nat.reduceAdd, Nat.reduceLT, Nat.reduceEqDiff, Nat.reduceMul, Nat.reduceLeDiff, if_true, Zn, reduceCtorEq, ZA, eq_self, Int.reduceLE, Int.reduceLT, Int.reduceToNat, ne_eq, Nat.reduceSub, Tarr30, Tld5, hl, hm, e1, e2, t0, nb2_b1, nb3_b2, nb3_b1, d1, d2, d3, d4, d5, d6, d7, nb6_c2, nb6_c1, nb6_b3, nb6_b2, nb6_b1, s1, s2, s3]
              repeat refine And.intro (by omega) ?_
              intro g
              simp only [List.map_cons, List.map_nil, updL, upd, Nat.reduceEqDiff, if_true, if_false, ↓reduceIte]
              refine hK _ _ ?_; clear hK K
              refine Cd.condd rfl (fun h5 => ?_) (fun h5 => ?_)
              · refine Cd.pr [3, 4, 5, 6, 7, 8, 9, 10, 40, 41] (Plan.take 0 (Plan.take 1 (Plan.take 2 (Plan.take 3 (Plan.take 4 (Plan.take 5 (Plan.take 6 (Plan.take 7 (Plan.one 8 (Plan.done)))))))))) fol (by kernel_rfl) (Nat.le_of_ble_eq_true rfl) fun K hK => ?_
                simp (maxSteps := 2000000) (disch := first | (simp only [E4, hl, hm, e1, e2, t0, nb2_b1, nb3_b2, nb3_b1, d1, d2, d3, d4, d5, d6, d7, nb6_c2, nb6_c1, nb6_b3, nb6_b2, nb6_b1, s1, s2, s3] <;> omega) | omega | fail) only [↓E2, E3, bare, bareJ, ↓E0, E1, evP, evPlan, env0, envN, evOps, evOp, evQs, evQ, evV, setD, pureOp, ev, upd, updL, gate, binW, eqOp, binV, intOp, shOp, boolOp, unV, convV, nilV, fieldAddrV, indexAddrV, extractV, cellAt, cellsAt, findB, setB, fillL, buildV, Value.cells, lenV, minV, maxV, hav, sliceV, loV, hiV, bslQ, mksQ, appQ, partsOk, partsCells, delB, eqL, SameI, strOp, apzQ, cvtQ, capV, ↓reduceIte, Zj, Zk, Nat.reduceAdd, Nat.reduceLT, Nat.reduceEqDiff, Nat.reduceMul, Nat.reduceLeDiff, if_true, Zn, reduceCtorEq, ZA, eq_self, Int.reduceLE, Int.reduceLT, Int.reduceToNat, ne_eq, Nat.reduceSub, Tarr30, Tld5, Tst5, hl, hm, e1, e2, t0, nb2_b1, nb3_b2, nb3_b1, d1, d2, d3, d4, d5, d6, d7, nb6_c2, nb6_c1, nb6_b3, nb6_b2, nb6_b1, s1, s2, s3]
                repeat refine And.intro (by omega) ?_
                intro g
                simp only [List.map_cons, List.map_nil, updL, upd, Nat.reduceEqDiff, if_true, if_false, ↓reduceIte]
                refine hK _ _ ?_; clear hK K
                refine inBN ?_
                refine inBN ?_
                rw [f1, f2 _ (by show _ = liftF _ _ _; unfold liftF; rw [if_pos h5])]
                exact midN ⟨_, rfl, rfl⟩
              · refine Cd.rs [3, 4, 5, 6, 7, 8, 9, 10, 12, 40, 41, 101] fun K hK => ?_
                simp (maxSteps := 2000000) (disch := first | (simp only [E4, hl, hm, e1, e2, t0, nb2_b1, nb3_b2, nb3_b1, d1, d2, d3, d4, d5, d6, d7, nb6_c2, nb6_c1, nb6_b3, nb6_b2, nb6_b1, s1, s2, s3] <;> omega) | omega | fail) only [↓E2, E3, bare, bareJ, ↓E0, E1, evP, evPlan, env0, envN, evOps, evOp, evQs, evQ, evV, setD, pureOp, ev, upd, updL, gate, binW, eqOp, binV, intOp, shOp, boolOp, unV, convV, nilV, fieldAddrV, indexAddrV, extractV, cellAt, cellsAt, findB, setB, fillL, buildV, Value.cells, lenV, minV, maxV, hav, sliceV, loV, hiV, bslQ, mksQ, appQ, partsOk, partsCells, delB, eqL, SameI, strOp, apzQ, cvtQ, capV, ↓reduceIte, Zj, Zk, Nat.reduceAdd, Nat.reduceLT, Nat.reduceEqDiff, Nat.reduceMul, Nat.reduceLeDiff, if_true, Zn, reduceCtorEq, ZA, eq_self, Int.reduceLE, Int.reduceLT, Int.reduceToNat, ne_eq, Nat.reduceSub, Tarr30, Tld5, hl, hm, e1, e2, t0, nb2_b1, nb3_b2, nb3_b1, d1, d2, d3, d4, d5, d6, d7, nb6_c2, nb6_c1, nb6_b3, nb6_b2, nb6_b1, s1, s2, s3]
                repeat refine And.intro (by omega) ?_
                intro g
                simp only [List.map_cons, List.map_nil, updL, upd, Nat.reduceEqDiff, if_true, if_false, ↓reduceIte]
                refine hK _ _ ?_; clear hK K
                refine Cd.cond rfl (fun h6 => ?_) (fun h6 => ?_)
                · simp only [decide_eq_true_eq, decide_eq_false_iff_not, beq_iff_eq, beq_eq_false_iff_ne, bne_iff_ne, bne_eq_false_iff_eq, Bool.and_eq_true, Bool.or_eq_true, Bool.or_eq_false_iff, Bool.not_eq_true', Bool.not_eq_false', Bool.and_eq_false_imp, ne_eq, gt_iff_lt, ge_iff_le, Int.not_lt, Int.not_le, Classical.not_not] at h6
                  refine Cd.pr [3, 4, 5, 6, 7, 8, 9, 10, 40, 41] (Plan.take 0 (Plan.take 1 (Plan.take 2 (Plan.take 3 (Plan.take 4 (Plan.take 5 (Plan.take 6 (Plan.take 7 (Plan.take 8 (Plan.take 9 (Plan.take 10 (Plan.one 11 (Plan.done))))))))))))) fol (by kernel_rfl) (Nat.le_of_ble_eq_true rfl) fun K hK => ?_
                  simp (maxSteps := 2000000) (disch := first | (simp only [E4, hl, hm, e1, e2, t0, nb2_b1, nb3_b2, nb3_b1, d1, d2, d3, d4, d5, d6, d7, nb6_c2, nb6_c1, nb6_b3, nb6_b2, nb6_b1, s1, s2, s3] <;> omega) | omega | fail) only [↓E2, E3, bare, bareJ, ↓E0, E1, evP, evPlan, env0, envN, evOps, evOp, evQs, evQ, evV, setD, pureOp, ev, upd, updL, gate, binW, eqOp, binV, intOp, shOp, boolOp, unV, convV, nilV, fieldAddrV, indexAddrV, extractV, cellAt, cellsAt, findB, setB, fillL, buildV, Value.cells, lenV, minV, maxV, hav, sliceV, loV, hiV, bslQ, mksQ, appQ, partsOk, partsCells, delB, eqL, SameI, strOp, apzQ, cvtQ, capV, ↓reduceIte, Zj, Zk, Nat.reduceAdd, Nat.reduceLT, Nat.reduceEqDiff, Nat.reduceMul, Nat.reduceLeDiff, if_true, Zn, reduceCtorEq, ZA, eq_self, Int.reduceLE, Int.reduceLT, Int.reduceToNat, ne_eq, Nat.reduceSub, Tarr30, Tfld87_3, Tint5, Tld3, Tld5, Tpar3, Tst5, hl, hm, e1, e2, t0, nb2_b1, nb3_b2, nb3_b1, d1, d2, d3, d4, d5, d6, d7, nb6_c2, nb6_c1, nb6_b3, nb6_b2, nb6_b1, s1, s2, s3]
                  repeat refine And.intro (by omega) ?_
                  intro g
                  simp only [List.map_cons, List.map_nil, updL, upd, Nat.reduceEqDiff, if_true, if_false, ↓reduceIte]
                  refine hK _ _ ?_; clear hK K
                  refine inBN ?_
                  refine inBN ?_
                  rw [f1, f2 _ (by show _ = liftF _ _ _; unfold liftF; rw [if_neg h5, if_pos h6, h6])]
                  exact midN ⟨_, rfl, rfl⟩
                · simp only [decide_eq_true_eq, decide_eq_false_iff_not, beq_iff_eq, beq_eq_false_iff_ne, bne_iff_ne, bne_eq_false_iff_eq, Bool.and_eq_true, Bool.or_eq_true, Bool.or_eq_false_iff, Bool.not_eq_true', Bool.not_eq_false', Bool.and_eq_false_imp, ne_eq, gt_iff_lt, ge_iff_le, Int.not_lt, Int.not_le, Classical.not_not] at h6
                  refine Cd.skip ?_
                  refine inBN ?_
                  refine inBN ?_
                  rw [f1, f2 _ (by show _ = liftF _ _ _; unfold liftF; rw [if_neg h5, if_neg h6])]
                  exact midN ⟨_, (norm_of (by repeat (first | exact trivial | refine And.intro rfl ?_))), rfl⟩
      · rintro ρ M ⟨g, rfl, rfl⟩
        refine Cd.rr [3, 4, 5, 6, 7, 8, 9, 10, 40, 41] fun K hK => ?_
        simp (maxSteps := 2000000) (disch := first | (simp only [E4, hl, hm, e1, e2, t0, nb2_b1, nb3_b2, nb3_b1, d1, d2, d3, d4, d5, d6, d7, nb6_c2, nb6_c1, nb6_b3, nb6_b2, nb6_b1, s1, s2, s3] <;> omega) | omega | fail) only [↓E2, E3, bare, bareJ, ↓E0, E1, evP, evPlan, env0, envN, evOps, evOp, evQs, evQ, evV, setD, pureOp, ev, upd, updL, gate, binW, eqOp, binV, intOp, shOp, boolOp, unV, convV, nilV, fieldAddrV, indexAddrV, extractV, cellAt, cellsAt, findB, setB, fillL, buildV, Value.cells, lenV, minV, maxV, hav, sliceV, loV, hiV, bslQ, mksQ, appQ, partsOk, partsCells, delB, eqL, SameI, strOp, apzQ, cvtQ, capV, ↓reduceIte, Zj, Zk, Nat.reduceAdd, Nat.reduceLT, Nat.reduceEqDiff, Nat.reduceMul, Nat.reduceLeDiff, if_true, Zn, reduceCtorEq, ZA, eq_self, Int.reduceLE, Int.reduceLT, Int.reduceToNat, ne_eq, Nat.reduceSub, hl, hm, e1, e2, t0, nb2_b1, nb3_b2, nb3_b1, d1, d2, d3, d4, d5, d6, d7, nb6_c2, nb6_c1, nb6_b3, nb6_b2, nb6_b1, s1, s2, s3]
        repeat refine And.intro (by omega) ?_
        intro g
        simp only [List.map_cons, List.map_nil, updL, upd, Nat.reduceEqDiff, if_true, if_false, ↓reduceIte]
        refine hK _ _ ?_; clear hK K
        refine roundN (m := m - 1) (by omega) ⟨_, k + 1, by omega, rfl, rfl⟩
    · refine Cd.exit (thenX (roundX (inBX ?_)))
      refine thenN ?_
      obtain rfl : k = n := by omega
      refine Cd.ps [3, 4, 7, 8, 9, 10] (Plan.take 0 (Plan.take 1 (Plan.take 2 (Plan.take 3 (Plan.take 4 (Plan.take 5 (Plan.take 6 (Plan.take 7 (Plan.take 8 (Plan.take 9 (Plan.take 10 (Plan.take 11 (Plan.take 12 (Plan.take 13 (Plan.one 14 (Plan.done)))))))))))))))) fol (by kernel_rfl) (Nat.le_of_ble_eq_true rfl) fun K hK => ?_
      simp (maxSteps := 2000000) (disch := first | (simp only [E4, hl, hm, e1, e2, t0, nb2_b1, nb3_b2, nb3_b1, d1, d2, d3, d4, d5, d6, d7, nb6_c2, nb6_c1, nb6_b3, nb6_b2, nb6_b1] <;> omega) | omega | fail) only [↓E2, E3, bare, bareJ, ↓E0, E1, evP, evPlan, env0, envN, evOps, evOp, evQs, evQ, evV, setD, pureOp, ev, upd, updL, gate, binW, eqOp, binV, intOp, shOp, boolOp, unV, convV, nilV, fieldAddrV, indexAddrV, extractV, cellAt, cellsAt, findB, setB, fillL, buildV, Value.cells, lenV, minV, maxV, hav, sliceV, loV, hiV, bslQ, mksQ, appQ, partsOk, partsCells, delB, eqL, SameI, strOp, apzQ, cvtQ, capV, ↓reduceIte, Zj, Zk, Nat.reduceAdd, Nat.reduceLT, Nat.reduceEqDiff, Nat.reduceMul, Nat.reduceLeDiff, if_true, Zn, reduceCtorEq, ZA, eq_self, Int.reduceLE, Int.reduceLT, Int.reduceToNat, ne_eq, Nat.reduceSub, Tarr30, Tfld87_0, Tfld87_2, Tfld87_3, Tint5, Tld3, Tpar3, Tst5, hl, hm, e1, e2, t0, nb2_b1, nb3_b2, nb3_b1, d1, d2, d3, d4, d5, d6, d7, nb6_c2, nb6_c1, nb6_b3, nb6_b2, nb6_b1]
      repeat refine And.intro (by omega) ?_
      intro g
      simp only [List.map_cons, List.map_nil, updL, upd, Nat.reduceEqDiff, if_true, if_false, ↓reduceIte]
      refine hK _ _ ?_; clear hK K
      refine Cd.ps [3, 4, 7, 8, 10] (Plan.take 0 (Plan.take 1 (Plan.take 2 (Plan.take 3 (Plan.take 4 (Plan.take 5 (Plan.take 6 (Plan.take 7 (Plan.take 8 (Plan.take 9 (Plan.take 10 (Plan.take 11 (Plan.take 12 (Plan.take 13 (Plan.one 14 (Plan.done)))))))))))))))) fol (by kernel_rfl) (Nat.le_of_ble_eq_true rfl) fun K hK => ?_
      simp (maxSteps := 2000000) (disch := first | (simp only [E4, hl, hm, e1, e2, t0, nb2_b1, nb3_b2, nb3_b1, d1, d2, d3, d4, d5, d6, d7, nb6_c2, nb6_c1, nb6_b3, nb6_b2, nb6_b1] <;> omega) | omega | fail) only [↓E2, E3, bare, bareJ, ↓E0, E1, evP, evPlan, env0, envN, evOps, evOp, evQs, evQ, evV, setD, pureOp, ev, upd, updL, gate, binW, eqOp, binV, intOp, shOp, boolOp, unV, convV, nilV, fieldAddrV, indexAddrV, extractV, cellAt, cellsAt, findB, setB, fillL, buildV, Value.cells, lenV, minV, maxV, hav, sliceV, loV, hiV, bslQ, mksQ, appQ, partsOk, partsCells, delB, eqL, SameI, strOp, apzQ, cvtQ, capV, ↓reduceIte, Zj, Zk, Nat.reduceAdd, Nat.reduceLT, Nat.reduceEqDiff, Nat.reduceMul, Nat.reduceLeDiff, if_true, Zn, reduceCtorEq, ZA, eq_self, Int.reduceLE, Int.reduceLT, Int.reduceToNat, ne_eq, Nat.reduceSub, Tarr30, Tfld87_0, Tfld87_2, Tfld87_3, Tint5, Tld3, Tpar3, Tst5, hl, hm, e1, e2, t0, nb2_b1, nb3_b2, nb3_b1, d1, d2, d3, d4, d5, d6, d7, nb6_c2, nb6_c1, nb6_b3, nb6_b2, nb6_b1]
      repeat refine And.intro (by omega) ?_
      intro g
      simp only [List.map_cons, List.map_nil, updL, upd, Nat.reduceEqDiff, if_true, if_false, ↓reduceIte]
      refine hK _ _ ?_; clear hK K
      refine Cd.ps [4, 8] (Plan.take 0 (Plan.take 1 (Plan.take 2 (Plan.take 3 (Plan.take 4 (Plan.take 5 (Plan.take 6 (Plan.take 7 (Plan.take 8 (Plan.take 9 (Plan.take 10 (Plan.take 11 (Plan.take 12 (Plan.take 13 (Plan.take 14 (Plan.one 15 (Plan.done))))))))))))))))) fol (by kernel_rfl) (Nat.le_of_ble_eq_true rfl) fun K hK => ?_
      simp (maxSteps := 2000000) (disch := first | (simp only [E4, hl, hm, e1, e2, t0, nb2_b1, nb3_b2, nb3_b1, d1, d2, d3, d4, d5, d6, d7, nb6_c2, nb6_c1, nb6_b3, nb6_b2, nb6_b1] <;> omega) | omega | fail) only [↓E2, E3, bare, bareJ, ↓E0, E1, evP, evPlan, env0, envN, evOps, evOp, evQs, evQ, evV, setD, pureOp, ev, upd, updL, gate, binW, eqOp, binV, intOp, shOp, boolOp, unV, convV, nilV, fieldAddrV, indexAddrV, extractV, cellAt, cellsAt, findB, setB, fillL, buildV, Value.cells, lenV, minV, maxV, hav, sliceV, loV, hiV, bslQ, mksQ, appQ, partsOk, partsCells, delB, eqL, SameI, strOp, apzQ, cvtQ, capV, ↓reduceIte, Zj, Zk, Nat.reduceAdd, Nat.reduceLT, Nat.reduceEqDiff, Nat.reduceMul, Nat.reduceLeDiff, if_true, Zn, reduceCtorEq, ZA, eq_self, Int.reduceLE, Int.reduceLT, Int.reduceToNat, ne_eq, Nat.reduceSub, Tarr30, Tfld87_0, Tfld87_2, Tfld87_3, Tint5, Tld3, Tpar3, Tst5, hl, hm, e1, e2, t0, nb2_b1, nb3_b2, nb3_b1, d1, d2, d3, d4, d5, d6, d7, nb6_c2, nb6_c1, nb6_b3, nb6_b2, nb6_b1]
      repeat refine And.intro (by omega) ?_
      intro g
      simp only [List.map_cons, List.map_nil, updL, upd, Nat.reduceEqDiff, if_true, if_false, ↓reduceIte]
      refine hK _ _ ?_; clear hK K
      rw [grA_end hrt hi (fun c hc hne => ?_), grB_end hrt hi]
      · refine Cd.rs [4] fun K hK => ?_
        simp (maxSteps := 2000000) (disch := first | (simp only [E4, hl, hm, e1, e2, t0, nb2_b1, nb3_b2, nb3_b1, d1, d2, d3, d4, d5, d6, d7, nb6_c2, nb6_c1, nb6_b3, nb6_b2, nb6_b1] <;> omega) | omega | fail) only [↓E2, E3, bare, bareJ, ↓E0, E1, evP, evPlan, env0, envN, evOps, evOp, evQs, evQ, evV, setD, pureOp, ev, upd, updL, gate, binW, eqOp, binV, intOp, shOp, boolOp, unV, convV, nilV, fieldAddrV, indexAddrV, extractV, cellAt, cellsAt, findB, setB, fillL, buildV, Value.cells, lenV, minV, maxV, hav, sliceV, loV, hiV, bslQ, mksQ, appQ, partsOk, partsCells, delB, eqL, SameI, strOp, apzQ, cvtQ, capV, ↓reduceIte, Zj, Zk, Nat.reduceAdd, Nat.reduceLT, Nat.reduceEqDiff, Nat.reduceMul, Nat.reduceLeDiff, if_true, Zn, reduceCtorEq, ZA, eq_self, Int.reduceLE, Int.reduceLT, Int.reduceToNat, ne_eq, Nat.reduceSub, Tld32, Tst32, hl, hm, e1, e2, t0, nb2_b1, nb3_b2, nb3_b1, d1, d2, d3, d4, d5, d6, d7, nb6_c2, nb6_c1, nb6_b3, nb6_b2, nb6_b1]
        repeat refine And.intro (by omega) ?_
        intro g
        simp only [List.map_cons, List.map_nil, updL, upd, Nat.reduceEqDiff, if_true, if_false, ↓reduceIte]
        refine hK _ _ ?_; clear hK K
        refine Cd.ret ?_
        simp (maxSteps := 2000000) (disch := first | (simp only [E4, hl, hm, e1, e2, t0, nb2_b1, nb3_b2, nb3_b1, d1, d2, d3, d4, d5, d6, d7, nb6_c2, nb6_c1, nb6_b3, nb6_b2, nb6_b1] <;> omega) | omega | fail) only [↓E2, E3, bare, bareJ, ↓E0, E1, evP, evPlan, env0, envN, evOps, evOp, evQs, evQ, evV, setD, pureOp, ev, upd, updL, gate, binW, eqOp, binV, intOp, shOp, boolOp, unV, convV, nilV, fieldAddrV, indexAddrV, extractV, cellAt, cellsAt, findB, setB, fillL, buildV, Value.cells, lenV, minV, maxV, hav, sliceV, loV, hiV, bslQ, mksQ, appQ, partsOk, partsCells, delB, eqL, SameI, strOp, apzQ, cvtQ, capV, ↓reduceIte, Zj, Zk, Nat.reduceAdd, Nat.reduceLT, Nat.reduceEqDiff, Nat.reduceMul, Nat.reduceLeDiff, if_true, Zn, reduceCtorEq, ZA, eq_self, Int.reduceLE, Int.reduceLT, Int.reduceToNat, ne_eq, Nat.reduceSub, Tld32, hl, hm, e1, e2, t0, nb2_b1, nb3_b2, nb3_b1, d1, d2, d3, d4, d5, d6, d7, nb6_c2, nb6_c1, nb6_b3, nb6_b2, nb6_b1]
      · rcases Nat.lt_or_gt_of_ne hne with h | h
        · exact (px).2.1 i hi c h
        · exact fun e => (px).2.1 c hc i h e.symm
  clear hK
  simp (maxSteps := 2000000) (disch := first | (simp only [E4, hl, hm, e1, e2, t0, nb2_b1, nb3_b2, nb3_b1] <;> omega) | omega | fail) only [↓E2, E3, bare, bareJ, ↓E0, E1, evP, evPlan, env0, envN, evOps, evOp, evQs, evQ, evV, setD, pureOp, ev, upd, updL, gate, binW, eqOp, binV, intOp, shOp, boolOp, unV, convV, nilV, fieldAddrV, indexAddrV, extractV, cellAt, cellsAt, findB, setB, fillL, buildV, Value.cells, lenV, minV, maxV, hav, sliceV, loV, hiV, bslQ, mksQ, appQ, partsOk, partsCells, delB, eqL, SameI, strOp, apzQ, cvtQ, capV, ↓reduceIte, Zj, Zk, Nat.reduceAdd, Nat.reduceLT, Nat.reduceEqDiff, Nat.reduceMul, Nat.reduceLeDiff, if_true, Zn, reduceCtorEq, ZA, eq_self, Int.reduceLE, Int.reduceLT, Int.reduceToNat, ne_eq, Nat.reduceSub, Tfld87_1, Tld3, Tld30, Tst30, Tzero30, ↓YR, hl, hm, e1, e2, t0, nb2_b1, nb3_b2, nb3_b1]
  refine callP_gives (rows0_c _ _) ?_
  simp (maxSteps := 2000000) (disch := first | (simp only [E4, hl, hm, e1, e2, t0, nb2_b1, nb3_b2, nb3_b1] <;> omega) | omega | fail) only [↓E2, E3, bare, bareJ, ↓E0, E1, evP, evPlan, env0, envN, evOps, evOp, evQs, evQ, evV, setD, pureOp, ev, upd, updL, gate, binW, eqOp, binV, intOp, shOp, boolOp, unV, convV, nilV, fieldAddrV, indexAddrV, extractV, cellAt, cellsAt, findB, setB, fillL, buildV, Value.cells, lenV, minV, maxV, hav, sliceV, loV, hiV, bslQ, mksQ, appQ, partsOk, partsCells, delB, eqL, SameI, strOp, apzQ, cvtQ, capV, ↓reduceIte, Zj, Zk, Nat.reduceAdd, Nat.reduceLT, Nat.reduceEqDiff, Nat.reduceMul, Nat.reduceLeDiff, if_true, Zn, reduceCtorEq, ZA, eq_self, Int.reduceLE, Int.reduceLT, Int.reduceToNat, ne_eq, Nat.reduceSub, Tfld87_1, Tld3, Tld30, Tst30, Tzero30, ↓YR, hl, hm, e1, e2, t0, nb2_b1, nb3_b2, nb3_b1]
  refine callP_gives (rows1_c _ _) ?_
  simp (maxSteps := 2000000) (disch := first | (simp only [E4, hl, hm, e1, e2, t0, nb2_b1, nb3_b2, nb3_b1] <;> omega) | omega | fail) only [↓E2, E3, bare, bareJ, ↓E0, E1, evP, evPlan, env0, envN, evOps, evOp, evQs, evQ, evV, setD, pureOp, ev, upd, updL, gate, binW, eqOp, binV, intOp, shOp, boolOp, unV, convV, nilV, fieldAddrV, indexAddrV, extractV, cellAt, cellsAt, findB, setB, fillL, buildV, Value.cells, lenV, minV, maxV, hav, sliceV, loV, hiV, bslQ, mksQ, appQ, partsOk, partsCells, delB, eqL, SameI, strOp, apzQ, cvtQ, capV, ↓reduceIte, Zj, Zk, Nat.reduceAdd, Nat.reduceLT, Nat.reduceEqDiff, Nat.reduceMul, Nat.reduceLeDiff, if_true, Zn, reduceCtorEq, ZA, eq_self, Int.reduceLE, Int.reduceLT, Int.reduceToNat, ne_eq, Nat.reduceSub, Tfld87_1, Tld3, Tld30, Tst30, Tzero30, ↓YR, hl, hm, e1, e2, t0, nb2_b1, nb3_b2, nb3_b1]
  repeat' first
      | omega
      | refine moreX_go ?_ ?_
      | with_reducible refine And.intro ?_ ?_
      | (with_reducible intro (b : Nat) (hb : Fresh _ _ b); have hb := hb.all; simp only [List.mem_cons, List.not_mem_nil, forall_eq_or_imp, or_false, forall_eq, false_implies, implies_true, and_true] at hb)
      | (with_reducible intro (b' : Nat) (cap' : Nat) (rest' : List Value) (hf' : Fresh _ _ b') (hc' : _ ≤ cap') (hr' : rest'.length = _); have hfa := hf'.all; simp only [List.mem_cons, List.not_mem_nil, forall_eq_or_imp, or_false, forall_eq, false_implies, implies_true, and_true] at hfa)
      | simp (maxSteps := 2000000) (disch := first | (simp only [E4, hl, hm, e1, e2, t0, nb2_b1, nb3_b2, nb3_b1] <;> omega) | omega | fail) only [↓E2, E3, bare, bareJ, ↓E0, E1, evP, evPlan, env0, envN, evOps, evOp, evQs, evQ, evV, setD, pureOp, ev, upd, updL, gate, binW, eqOp, binV, intOp, shOp, boolOp, unV, convV, nilV, fieldAddrV, indexAddrV, extractV, cellAt, cellsAt, findB, setB, fillL, buildV, Value.cells, lenV, minV, maxV, hav, sliceV, loV, hiV, bslQ, mksQ, appQ, partsOk, partsCells, delB, eqL, SameI, strOp, apzQ, cvtQ, capV, ↓reduceIte, Zj, Zk, Nat.reduceAdd, Nat.reduceLT, Nat.reduceEqDiff, Nat.reduceMul, Nat.reduceLeDiff, if_true, Zn, reduceCtorEq, ZA, eq_self, Int.reduceLE, Int.reduceLT, Int.reduceToNat, ne_eq, Nat.reduceSub, Tfld87_1, Tld3, Tld30, Tst30, Tzero30, ↓YR, hl, hm, e1, e2, t0, nb2_b1, nb3_b2, nb3_b1, *]
  all_goals
    repeat refine And.intro (by omega) ?_
    intro g
    simp only [List.map_cons, List.map_nil, updL, upd, Nat.reduceEqDiff, if_true, if_false, ↓reduceIte]
    first
    | exact J g _ _ _ (.refl _)
    | exact J g _ _ _ (.swap ..)


theorem grown1_c (n : Nat) (x o : List Int) (hx : Bytes8 x) (ho : Bytes8 o) (hn : n ≤ 7) (px : IsPerm x n) (po : IsPerm o n) (i rt u : Nat) (hi : i < n) (hrt : rt ≤ 1) (hu : u ≤ 1) :
    Gives Try.prog 89 #[.agg (gc (n : Int) x o).toArray, .agg #[.int .i64 (i : Int), .int .i64 1, .int .i64 (rt : Int), .int .i64 (u : Int)]] (.agg (gc ((n : Int) + 1) (tab (grB o x i rt (u : Int) n)) (tab (grA o i rt (u : Int) n))).toArray) := by
  have hl := hx.len
  have hm := ho.len
  have cr := bytes_get ho (i := i) (by omega)
  have pr := (po).1 i hi
  have e1 : ((i : Int) + (rt : Int)).toNat = i + rt := by omega
  have e2 : ((i : Int) + 1 - (rt : Int)).toNat = i + 1 - rt := by omega
  have t0 := fun f : Nat → Int => tab_len f
  skip
  refine Gives.of fun w => ?_
  refine acall_of (N := 163) (c := _) (rs := [.cell 4 32]) (args := [_, _]) Try.func89 rfl (by decide) rfl rfl (Nat.le_of_ble_eq_true rfl) ?_
  refine Cd.rs [2, 3, 4] fun K hK => ?_
  simp (maxSteps := 2000000) (disch := first | (simp only [E4, hl, hm, e1, e2, t0] <;> omega) | omega | fail) only [↓E2, E3, bare, bareJ, ↓E0, E1, evP, evPlan, env0, envN, evOps, evOp, evQs, evQ, evV, setD, pureOp, ev, upd, updL, gate, binW, eqOp, binV, intOp, shOp, boolOp, unV, convV, nilV, fieldAddrV, indexAddrV, extractV, cellAt, cellsAt, findB, setB, fillL, buildV, Value.cells, lenV, minV, maxV, hav, sliceV, loV, hiV, bslQ, mksQ, appQ, partsOk, partsCells, delB, eqL, SameI, strOp, apzQ, cvtQ, capV, ↓reduceIte, Zj, Zk, Nat.reduceAdd, Nat.reduceLT, Nat.reduceEqDiff, Nat.reduceMul, Nat.reduceLeDiff, if_true, Zn, reduceCtorEq, ZA, eq_self, Int.reduceLE, Int.reduceLT, Int.reduceToNat, ne_eq, Nat.reduceSub, Tzero32, hl, hm, e1, e2, t0]
  repeat refine And.intro (by omega) ?_
  intro b1 hb1
  intro b2 hb2
  have nb2_b1 := hb2.ne
  intro b3 hb3
  have nb3_b2 := hb3.ne
  have nb3_b1 := hb3.tail.ne
  try simp (maxSteps := 2000000) (disch := first | (simp only [E4, hl, hm, e1, e2, t0, nb2_b1, nb3_b2, nb3_b1] <;> omega) | omega | fail) only [↓E2, E3, bare, bareJ, ↓E0, E1, evP, evPlan, env0, envN, evOps, evOp, evQs, evQ, evV, setD, pureOp, ev, upd, updL, gate, binW, eqOp, binV, intOp, shOp, boolOp, unV, convV, nilV, fieldAddrV, indexAddrV, extractV, cellAt, cellsAt, findB, setB, fillL, buildV, Value.cells, lenV, minV, maxV, hav, sliceV, loV, hiV, bslQ, mksQ, appQ, partsOk, partsCells, delB, eqL, SameI, strOp, apzQ, cvtQ, capV, ↓reduceIte, Zj, Zk, Nat.reduceAdd, Nat.reduceLT, Nat.reduceEqDiff, Nat.reduceMul, Nat.reduceLeDiff, if_true, Zn, reduceCtorEq, ZA, eq_self, Int.reduceLE, Int.reduceLT, Int.reduceToNat, ne_eq, Nat.reduceSub, Tzero32, hl, hm, e1, e2, t0, nb2_b1, nb3_b2, nb3_b1]
  repeat refine And.intro (by omega) ?_
  intro g
  simp only [List.map_cons, List.map_nil, updL, upd, Nat.reduceEqDiff, if_true, if_false, ↓reduceIte]
  refine hK _ _ ?_; clear hK K
  refine Cd.ps [2, 3, 4, 5, 6] (Plan.take 0 (Plan.take 1 (Plan.take 2 (Plan.take 3 (Plan.take 5 (Plan.take 6 (Plan.take 7 (Plan.take 8 (Plan.take 4 (Plan.take 9 (Plan.more 10 (Plan.more 11 (Plan.one 12 (Plan.one 13 (Plan.one 14 (Plan.done)))) (Plan.one 12 (Plan.one 11 (Plan.one 13 (Plan.one 14 (Plan.done)))))) (Plan.more 11 (Plan.more 10 (Plan.one 12 (Plan.one 13 (Plan.one 14 (Plan.done)))) (Plan.one 12 (Plan.more 10 (Plan.one 13 (Plan.one 14 (Plan.done))) (Plan.one 13 (Plan.take 10 (Plan.one 14 (Plan.done))))))) (Plan.one 12 (Plan.more 10 (Plan.one 11 (Plan.one 13 (Plan.one 14 (Plan.done)))) (Plan.one 11 (Plan.more 10 (Plan.one 13 (Plan.one 14 (Plan.done))) (Plan.one 13 (Plan.take 10 (Plan.one 14 (Plan.done)))))))))))))))))))) fol (by kernel_rfl) (Nat.le_of_ble_eq_true rfl) fun K hK => ?_
  have J : ∀ g c1 c2 M, [(c2, ints .u8 x), (c1, ints .u8 o), (b3, gc 0 z8 z8), (b2, [.int .i64 (i : Int), .int .i64 1, .int .i64 (rt : Int), .int .i64 (u : Int)]), (b1, gc (n : Int) x o)].Perm M → K (updL [(2, .pointer (some ⟨b1, 0, none⟩)), (3, .pointer (some ⟨b2, 0, none⟩)), (4, .pointer (some ⟨b3, 0, none⟩)), (5, .pointer (some ⟨c1, 0, none⟩)), (6, .pointer (some ⟨c2, 0, none⟩))] g) M := by
    intro g c1 c2 M hM
    refine hK _ _ (Cd.turn hM (Cd.nodup fun hnd => ?_)); clear hK K
    obtain ⟨⟨d1, d2, d3, d4⟩, ⟨d5, d6, d7⟩, _, _⟩ := nodup5 hnd
    skip
    skip
    refine Cd.rs [2, 3, 4, 5, 6, 7] fun K hK => ?_
    simp (maxSteps := 2000000) (disch := first | (simp only [E4, hl, hm, e1, e2, t0, nb2_b1, nb3_b2, nb3_b1, d1, d2, d3, d4, d5, d6, d7] <;> omega) | omega | fail) only [↓E2, E3, bare, bareJ, ↓E0, E1, evP, evPlan, env0, envN, evOps, evOp, evQs, evQ, evV, setD, pureOp, ev, upd, updL, gate, binW, eqOp, binV, intOp, shOp, boolOp, unV, convV, nilV, fieldAddrV, indexAddrV, extractV, cellAt, cellsAt, findB, setB, fillL, buildV, Value.cells, lenV, minV, maxV, hav, sliceV, loV, hiV, bslQ, mksQ, appQ, partsOk, partsCells, delB, eqL, SameI, strOp, apzQ, cvtQ, capV, ↓reduceIte, Zj, Zk, Nat.reduceAdd, Nat.reduceLT, Nat.reduceEqDiff, Nat.reduceMul, Nat.reduceLeDiff, if_true, Zn, reduceCtorEq, ZA, eq_self, Int.reduceLE, Int.reduceLT, Int.reduceToNat, ne_eq, Nat.reduceSub, Tarr30, Tfld87_0, Tld3, Tld5, hl, hm, e1, e2, t0, nb2_b1, nb3_b2, nb3_b1, d1, d2, d3, d4, d5, d6, d7]
    repeat refine And.intro (by omega) ?_
    intro g
    simp only [List.map_cons, List.map_nil, updL, upd, Nat.reduceEqDiff, if_true, if_false, ↓reduceIte]
    refine hK _ _ ?_; clear hK K
    refine Cd.rs [2, 3, 4, 5, 6, 7, 8] fun K hK => ?_
    simp (maxSteps := 2000000) (disch := first | (simp only [E4, hl, hm, e1, e2, t0, nb2_b1, nb3_b2, nb3_b1, d1, d2, d3, d4, d5, d6, d7] <;> omega) | omega | fail) only [↓E2, E3, bare, bareJ, ↓E0, E1, evP, evPlan, env0, envN, evOps, evOp, evQs, evQ, evV, setD, pureOp, ev, upd, updL, gate, binW, eqOp, binV, intOp, shOp, boolOp, unV, convV, nilV, fieldAddrV, indexAddrV, extractV, cellAt, cellsAt, findB, setB, fillL, buildV, Value.cells, lenV, minV, maxV, hav, sliceV, loV, hiV, bslQ, mksQ, appQ, partsOk, partsCells, delB, eqL, SameI, strOp, apzQ, cvtQ, capV, ↓reduceIte, Zj, Zk, Nat.reduceAdd, Nat.reduceLT, Nat.reduceEqDiff, Nat.reduceMul, Nat.reduceLeDiff, if_true, Zn, reduceCtorEq, ZA, eq_self, Int.reduceLE, Int.reduceLT, Int.reduceToNat, ne_eq, Nat.reduceSub, Tbld32, Tfld32_0, Tld2, Tst32, Tzero32, hl, hm, e1, e2, t0, nb2_b1, nb3_b2, nb3_b1, d1, d2, d3, d4, d5, d6, d7]
    repeat refine And.intro (by omega) ?_
    intro b6 hb6
    have nb6_c2 := hb6.ne
    have nb6_c1 := hb6.tail.ne
    have nb6_b3 := hb6.tail.tail.ne
    have nb6_b2 := hb6.tail.tail.tail.ne
    have nb6_b1 := hb6.tail.tail.tail.tail.ne
    try simp (maxSteps := 2000000) (disch := first | (simp only [E4, hl, hm, e1, e2, t0, nb2_b1, nb3_b2, nb3_b1, d1, d2, d3, d4, d5, d6, d7, nb6_c2, nb6_c1, nb6_b3, nb6_b2, nb6_b1] <;> omega) | omega | fail) only [↓E2, E3, bare, bareJ, ↓E0, E1, evP, evPlan, env0, envN, evOps, evOp, evQs, evQ, evV, setD, pureOp, ev, upd, updL, gate, binW, eqOp, binV, intOp, shOp, boolOp, unV, convV, nilV, fieldAddrV, indexAddrV, extractV, cellAt, cellsAt, findB, setB, fillL, buildV, Value.cells, lenV, minV, maxV, hav, sliceV, loV, hiV, bslQ, mksQ, appQ, partsOk, partsCells, delB, eqL, SameI, strOp, apzQ, cvtQ, capV, ↓reduceIte, Zj, Zk, Nat.reduceAdd, Nat.reduceLT, Nat.reduceEqDiff, Nat.reduceMul, Nat.reduceLeDiff, if_true, Zn, reduceCtorEq, ZA, eq_self, Int.reduceLE, Int.reduceLT, Int.reduceToNat, ne_eq, Nat.reduceSub, Tbld32, Tfld32_0, Tld2, Tst32, Tzero32, hl, hm, e1, e2, t0, nb2_b1, nb3_b2, nb3_b1, d1, d2, d3, d4, d5, d6, d7, nb6_c2, nb6_c1, nb6_b3, nb6_b2, nb6_b1]
    repeat refine And.intro (by omega) ?_
    intro g
    simp only [List.map_cons, List.map_nil, updL, upd, Nat.reduceEqDiff, if_true, if_false, ↓reduceIte]
    refine hK _ _ ?_; clear hK K
    refine Cd.qs [2, 3, 4, 5, 6, 7, 8, 9, 10] fol (by kernel_rfl) fun K hK => ?_
    simp (maxSteps := 2000000) (disch := first | (simp only [E4, hl, hm, e1, e2, t0, nb2_b1, nb3_b2, nb3_b1, d1, d2, d3, d4, d5, d6, d7, nb6_c2, nb6_c1, nb6_b3, nb6_b2, nb6_b1] <;> omega) | omega | fail) only [↓E2, E3, bare, bareJ, ↓E0, E1, evP, evPlan, env0, envN, evOps, evOp, evQs, evQ, evV, setD, pureOp, ev, upd, updL, gate, binW, eqOp, binV, intOp, shOp, boolOp, unV, convV, nilV, fieldAddrV, indexAddrV, extractV, cellAt, cellsAt, findB, setB, fillL, buildV, Value.cells, lenV, minV, maxV, hav, sliceV, loV, hiV, bslQ, mksQ, appQ, partsOk, partsCells, delB, eqL, SameI, strOp, apzQ, cvtQ, capV, ↓reduceIte, Zj, Zk, Nat.reduceAdd, Nat.reduceLT, Nat.reduceEqDiff, Nat.reduceMul, Nat.reduceLeDiff, if_true, Zn, reduceCtorEq, ZA, eq_self, Int.reduceLE, Int.reduceLT, Int.reduceToNat, ne_eq, Nat.reduceSub, Tfld87_1, Tld3, hl, hm, e1, e2, t0, nb2_b1, nb3_b2, nb3_b1, d1, d2, d3, d4, d5, d6, d7, nb6_c2, nb6_c1, nb6_b3, nb6_b2, nb6_b1]
    refine callQ_gives (rows1_c _ _) ?_
    simp (maxSteps := 2000000) (disch := first | (simp only [E4, hl, hm, e1, e2, t0, nb2_b1, nb3_b2, nb3_b1, d1, d2, d3, d4, d5, d6, d7, nb6_c2, nb6_c1, nb6_b3, nb6_b2, nb6_b1] <;> omega) | omega | fail) only [↓E2, E3, bare, bareJ, ↓E0, E1, evP, evPlan, env0, envN, evOps, evOp, evQs, evQ, evV, setD, pureOp, ev, upd, updL, gate, binW, eqOp, binV, intOp, shOp, boolOp, unV, convV, nilV, fieldAddrV, indexAddrV, extractV, cellAt, cellsAt, findB, setB, fillL, buildV, Value.cells, lenV, minV, maxV, hav, sliceV, loV, hiV, bslQ, mksQ, appQ, partsOk, partsCells, delB, eqL, SameI, strOp, apzQ, cvtQ, capV, ↓reduceIte, Zj, Zk, Nat.reduceAdd, Nat.reduceLT, Nat.reduceEqDiff, Nat.reduceMul, Nat.reduceLeDiff, if_true, Zn, reduceCtorEq, ZA, eq_self, Int.reduceLE, Int.reduceLT, Int.reduceToNat, ne_eq, Nat.reduceSub, Tfld87_1, Tld3, hl, hm, e1, e2, t0, nb2_b1, nb3_b2, nb3_b1, d1, d2, d3, d4, d5, d6, d7, nb6_c2, nb6_c1, nb6_b3, nb6_b2, nb6_b1]
    refine callQ_gives (rows0_c _ _) ?_
    simp (maxSteps := 2000000) (disch := first | (simp only [E4, hl, hm, e1, e2, t0, nb2_b1, nb3_b2, nb3_b1, d1, d2, d3, d4, d5, d6, d7, nb6_c2, nb6_c1, nb6_b3, nb6_b2, nb6_b1] <;> omega) | omega | fail) only [↓E2, E3, bare, bareJ, ↓E0, E1, evP, evPlan, env0, envN, evOps, evOp, evQs, evQ, evV, setD, pureOp, ev, upd, updL, gate, binW, eqOp, binV, intOp, shOp, boolOp, unV, convV, nilV, fieldAddrV, indexAddrV, extractV, cellAt, cellsAt, findB, setB, fillL, buildV, Value.cells, lenV, minV, maxV, hav, sliceV, loV, hiV, bslQ, mksQ, appQ, partsOk, partsCells, delB, eqL, SameI, strOp, apzQ, cvtQ, capV, ↓reduceIte, Zj, Zk, Nat.reduceAdd, Nat.reduceLT, Nat.reduceEqDiff, Nat.reduceMul, Nat.reduceLeDiff, if_true, Zn, reduceCtorEq, ZA, eq_self, Int.reduceLE, Int.reduceLT, Int.reduceToNat, ne_eq, Nat.reduceSub, Tfld87_1, Tld3, hl, hm, e1, e2, t0, nb2_b1, nb3_b2, nb3_b1, d1, d2, d3, d4, d5, d6, d7, nb6_c2, nb6_c1, nb6_b3, nb6_b2, nb6_b1]
    repeat refine And.intro (by omega) ?_
    intro g
    simp only [List.map_cons, List.map_nil, updL, upd, Nat.reduceEqDiff, if_true, if_false, ↓reduceIte]
    refine hK _ ?_; clear hK K
    refine Cd.seq ?_
    refine Cd.rs [3, 4, 5, 6, 7, 8, 9, 10, 40, 41] fun K hK => ?_
    simp (maxSteps := 2000000) (disch := first | (simp only [E4, hl, hm, e1, e2, t0, nb2_b1, nb3_b2, nb3_b1, d1, d2, d3, d4, d5, d6, d7, nb6_c2, nb6_c1, nb6_b3, nb6_b2, nb6_b1] <;> omega) | omega | fail) only [↓E2, E3, bare, bareJ, ↓E0, E1, evP, evPlan, env0, envN, evOps, evOp, evQs, evQ, evV, setD, pureOp, ev, upd, updL, gate, binW, eqOp, binV, intOp, shOp, boolOp, unV, convV, nilV, fieldAddrV, indexAddrV, extractV, cellAt, cellsAt, findB, setB, fillL, buildV, Value.cells, lenV, minV, maxV, hav, sliceV, loV, hiV, bslQ, mksQ, appQ, partsOk, partsCells, delB, eqL, SameI, strOp, apzQ, cvtQ, capV, ↓reduceIte, Zj, Zk, Nat.reduceAdd, Nat.reduceLT, Nat.reduceEqDiff, Nat.reduceMul, Nat.reduceLeDiff, if_true, Zn, reduceCtorEq, ZA, eq_self, Int.reduceLE, Int.reduceLT, Int.reduceToNat, ne_eq, Nat.reduceSub, Tld32, hl, hm, e1, e2, t0, nb2_b1, nb3_b2, nb3_b1, d1, d2, d3, d4, d5, d6, d7, nb6_c2, nb6_c1, nb6_b3, nb6_b2, nb6_b1]
    refine callK_gives (n_c _ _ _ hl hm) ?_
    simp (maxSteps := 2000000) (disch := first | (simp only [E4, hl, hm, e1, e2, t0, nb2_b1, nb3_b2, nb3_b1, d1, d2, d3, d4, d5, d6, d7, nb6_c2, nb6_c1, nb6_b3, nb6_b2, nb6_b1] <;> omega) | omega | fail) only [↓E2, E3, bare, bareJ, ↓E0, E1, evP, evPlan, env0, envN, evOps, evOp, evQs, evQ, evV, setD, pureOp, ev, upd, updL, gate, binW, eqOp, binV, intOp, shOp, boolOp, unV, convV, nilV, fieldAddrV, indexAddrV, extractV, cellAt, cellsAt, findB, setB, fillL, buildV, Value.cells, lenV, minV, maxV, hav, sliceV, loV, hiV, bslQ, mksQ, appQ, partsOk, partsCells, delB, eqL, SameI, strOp, apzQ, cvtQ, capV, ↓reduceIte, Zj, Zk, Nat.reduceAdd, Nat.reduceLT, Nat.reduceEqDiff, Nat.reduceMul, Nat.reduceLeDiff, if_true, Zn, reduceCtorEq, ZA, eq_self, Int.reduceLE, Int.reduceLT, Int.reduceToNat, ne_eq, Nat.reduceSub, Tld32, hl, hm, e1, e2, t0, nb2_b1, nb3_b2, nb3_b1, d1, d2, d3, d4, d5, d6, d7, nb6_c2, nb6_c1, nb6_b3, nb6_b2, nb6_b1]
    repeat refine And.intro (by omega) ?_
    intro g
    simp only [List.map_cons, List.map_nil, updL, upd, Nat.reduceEqDiff, if_true, if_false, ↓reduceIte]
    refine hK _ _ ?_; clear hK K
    refine Cd.block ?_
    refine Cd.loop (fun m ρ M => ∃ g k, k + m = n ∧ ρ = updL ([(3, .pointer (some ⟨b2, 0, none⟩)), (4, .pointer (some ⟨b3, 0, none⟩)), (5, .pointer (some ⟨c1, 0, none⟩)), (6, .pointer (some ⟨c2, 0, none⟩)), (7, .int .u8 (o.getD i 0)), (8, .pointer (some ⟨b6, 0, none⟩)), (9, .pointer (some ⟨b6, 9, none⟩)), (10, .pointer (some ⟨b6, 1, none⟩)), (40, .int .i64 (n : Int)), (41, .int .i64 (k : Int))]) g ∧ M = [(b6, gc ((n : Int) + 1) (tab (genK (fun c => liftF (o.getD i 0) (u : Int) (x.getD c 0)) i rt k)) (tab (genK (fun c => liftM (o.getD i 0) (o.getD c 0)) i rt k))), (c2, ints .u8 x), (c1, ints .u8 o), (b3, gc 0 z8 z8), (b2, [.int .i64 (i : Int), .int .i64 1, .int .i64 (rt : Int), .int .i64 (u : Int)]), (b1, gc (n : Int) x o)]) n ⟨_, 0, Nat.zero_add _, rfl, by rw [genK_zero, genK_zero]⟩ ?_
    rintro m ρ M ⟨g, k, hk, rfl, rfl⟩
    refine Cd.rs [3, 4, 5, 6, 7, 8, 9, 10, 40, 41, 42] fun K hK => ?_
    simp (maxSteps := 2000000) (disch := first | (simp only [E4, hl, hm, e1, e2, t0, nb2_b1, nb3_b2, nb3_b1, d1, d2, d3, d4, d5, d6, d7, nb6_c2, nb6_c1, nb6_b3, nb6_b2, nb6_b1] <;> omega) | omega | fail) only [↓E2, E3, bare, bareJ, ↓E0, E1, evP, evPlan, env0, envN, evOps, evOp, evQs, evQ, evV, setD, pureOp, ev, upd, updL, gate, binW, eqOp, binV, intOp, shOp, boolOp, unV, convV, nilV, fieldAddrV, indexAddrV, extractV, cellAt, cellsAt, findB, setB, fillL, buildV, Value.cells, lenV, minV, maxV, hav, sliceV, loV, hiV, bslQ, mksQ, appQ, partsOk, partsCells, delB, eqL, SameI, strOp, apzQ, cvtQ, capV, ↓reduceIte, Zj, Zk, Nat.reduceAdd, Nat.reduceLT, Nat.reduceEqDiff, Nat.reduceMul, Nat.reduceLeDiff, if_true, Zn, reduceCtorEq, ZA, eq_self, Int.reduceLE, Int.reduceLT, Int.reduceToNat, ne_eq, Nat.reduceSub, hl, hm, e1, e2, t0, nb2_b1, nb3_b2, nb3_b1, d1, d2, d3, d4, d5, d6, d7, nb6_c2, nb6_c1, nb6_b3, nb6_b2, nb6_b1]
    repeat refine And.intro (by omega) ?_
    intro g
    simp only [List.map_cons, List.map_nil, updL, upd, Nat.reduceEqDiff, if_true, if_false, ↓reduceIte]
    refine hK _ _ ?_; clear hK K
    refine Cd.seq ?_
    refine Cd.condd rfl (fun h1 => ?_) (fun h1 => ?_)
    · have ck := bytes_get ho (i := k) (by omega)
      have dk := bytes_get hx (i := k) (by omega)
      have pk := (po).1 k (by omega)
      have qk := po.1 k (by omega)
      have qk' := px.1 k (by omega)
      have cc := colK_le hrt hi (k := k) (by omega)
      have s1 := fun v : Int => set_get (l := (tab (genK (fun c => liftM (o.getD i 0) (o.getD c 0)) i rt k))) (i := (colK i rt k)) (v := v) (by rw [tab_len]; omega)
      have s2 := fun v : Int => set_get (l := (tab (genK (fun c => liftF (o.getD i 0) (u : Int) (x.getD c 0)) i rt k))) (i := (colK i rt k)) (v := v) (by rw [tab_len]; omega)
      have s3 := fun (l : List Int) (j : Nat) (v w : Int) => set_set (l := l) (i := j) (v := v) (w := w)
      skip
      refine Cd.skip ?_
      refine thenN ?_
      refine Cd.midq (fun ρ M => ∃ g, ρ = updL ([(3, .pointer (some ⟨b2, 0, none⟩)), (4, .pointer (some ⟨b3, 0, none⟩)), (5, .pointer (some ⟨c1, 0, none⟩)), (6, .pointer (some ⟨c2, 0, none⟩)), (7, .int .u8 (o.getD i 0)), (8, .pointer (some ⟨b6, 0, none⟩)), (9, .pointer (some ⟨b6, 9, none⟩)), (10, .pointer (some ⟨b6, 1, none⟩)), (40, .int .i64 (n : Int)), (41, .int .i64 (k : Int))]) g ∧ M = [(b6, gc ((n : Int) + 1) (tab (genK (fun c => liftF (o.getD i 0) (u : Int) (x.getD c 0)) i rt (k + 1))) (tab (genK (fun c => liftM (o.getD i 0) (o.getD c 0)) i rt (k + 1)))), (c2, ints .u8 x), (c1, ints .u8 o), (b3, gc 0 z8 z8), (b2, [.int .i64 (i : Int), .int .i64 1, .int .i64 (rt : Int), .int .i64 (u : Int)]), (b1, gc (n : Int) x o)]) ?_ ?_
      · refine Cd.block ?_
        refine Cd.rs [3, 4, 5, 6, 7, 8, 9, 10, 11, 40, 41] fun K hK => ?_
        simp (maxSteps := 2000000) (disch := first | (simp only [E4, hl, hm, e1, e2, t0, nb2_b1, nb3_b2, nb3_b1, d1, d2, d3, d4, d5, d6, d7, nb6_c2, nb6_c1, nb6_b3, nb6_b2, nb6_b1, s1, s2, s3] <;> omega) | omega | fail) only [↓E2, E3, bare, bareJ, ↓E0, E1, evP, evPlan, env0, envN, evOps, evOp, evQs, evQ, evV, setD, pureOp, ev, upd, updL, gate, binW, eqOp, binV, intOp, shOp, boolOp, unV, convV, nilV, fieldAddrV, indexAddrV, extractV, cellAt, cellsAt, findB, setB, fillL, buildV, Value.cells, lenV, minV, maxV, hav, sliceV, loV, hiV, bslQ, mksQ, appQ, partsOk, partsCells, delB, eqL, SameI, strOp, apzQ, cvtQ, capV, ↓reduceIte, Zj, Zk, Nat.reduceAdd, Nat.reduceLT, Nat.reduceEqDiff, Nat.reduceMul, Nat.reduceLeDiff, if_true, Zn, reduceCtorEq, ZA, eq_self, Int.reduceLE, Int.reduceLT, Int.reduceToNat, ne_eq, Nat.reduceSub, hl, hm, e1, e2, t0, nb2_b1, nb3_b2, nb3_b1, d1, d2, d3, d4, d5, d6, d7, nb6_c2, nb6_c1, nb6_b3, nb6_b2, nb6_b1, s1, s2, s3]
        repeat refine And.intro (by omega) ?_
        intro g
        simp only [List.map_cons, List.map_nil, updL, upd, Nat.reduceEqDiff, if_true, if_false, ↓reduceIte]
        refine hK _ _ ?_; clear hK K
        refine Cd.rs [3, 4, 5, 6, 7, 8, 9, 10, 11, 12, 40, 41] fun K hK => ?_
        simp (maxSteps := 2000000) (disch := first | (simp only [E4, hl, hm, e1, e2, t0, nb2_b1, nb3_b2, nb3_b1, d1, d2, d3, d4, d5, d6, d7, nb6_c2, nb6_c1, nb6_b3, nb6_b2, nb6_b1, s1, s2, s3] <;> omega) | omega | fail) only [↓E2, E3, bare, bareJ, ↓E0, E1, evP, evPlan, env0, envN, evOps, evOp, evQs, evQ, evV, setD, pureOp, ev, upd, updL, gate, binW, eqOp, binV, intOp, shOp, boolOp, unV, convV, nilV, fieldAddrV, indexAddrV, extractV, cellAt, cellsAt, findB, setB, fillL, buildV, Value.cells, lenV, minV, maxV, hav, sliceV, loV, hiV, bslQ, mksQ, appQ, partsOk, partsCells, delB, eqL, SameI, strOp, apzQ, cvtQ, capV, ↓reduceIte, Zj, Zk, Nat.reduceAdd, Nat.reduceLT, Nat.reduceEqDiff, Nat.reduceMul, Nat.reduceLeDiff, if_true, Zn, reduceCtorEq, ZA, eq_self, Int.reduceLE, Int.reduceLT, Int.reduceToNat, ne_eq, Nat.reduceSub, hl, hm, e1, e2, t0, nb2_b1, nb3_b2, nb3_b1, d1, d2, d3, d4, d5, d6, d7, nb6_c2, nb6_c1, nb6_b3, nb6_b2, nb6_b1, s1, s2, s3]
        repeat refine And.intro (by omega) ?_
        intro g
        simp only [List.map_cons, List.map_nil, updL, upd, Nat.reduceEqDiff, if_true, if_false, ↓reduceIte]
        refine hK _ _ ?_; clear hK K
        refine Cd.midq (fun ρ M => ∃ g, ρ = updL ([(3, .pointer (some ⟨b2, 0, none⟩)), (4, .pointer (some ⟨b3, 0, none⟩)), (5, .pointer (some ⟨c1, 0, none⟩)), (6, .pointer (some ⟨c2, 0, none⟩)), (7, .int .u8 (o.getD i 0)), (8, .pointer (some ⟨b6, 0, none⟩)), (9, .pointer (some ⟨b6, 9, none⟩)), (10, .pointer (some ⟨b6, 1, none⟩)), (11, .int .i64 (k : Int)), (12, .int .i64 (if i < k then (k : Int) + 1 else (k : Int))), (40, .int .i64 (n : Int)), (41, .int .i64 (k : Int))]) g ∧ M = [(b6, gc ((n : Int) + 1) (tab (genK (fun c => liftF (o.getD i 0) (u : Int) (x.getD c 0)) i rt k)) (tab (genK (fun c => liftM (o.getD i 0) (o.getD c 0)) i rt k))), (c2, ints .u8 x), (c1, ints .u8 o), (b3, gc 0 z8 z8), (b2, [.int .i64 (i : Int), .int .i64 1, .int .i64 (rt : Int), .int .i64 (u : Int)]), (b1, gc (n : Int) x o)]) ?_ ?_
        · refine Cd.rs [3, 4, 5, 6, 7, 8, 9, 10, 11, 12, 40, 41, 48] fun K hK => ?_
          simp (maxSteps := 2000000) (disch := first | (simp only [E4, hl, hm, e1, e2, t0, nb2_b1, nb3_b2, nb3_b1, d1, d2, d3, d4, d5, d6, d7, nb6_c2, nb6_c1, nb6_b3, nb6_b2, nb6_b1, s1, s2, s3] <;> omega) | omega | fail) only [↓E2, E3, bare, bareJ, ↓E0, E1, evP, evPlan, env0, envN, evOps, evOp, evQs, evQ, evV, setD, pureOp, ev, upd, updL, gate, binW, eqOp, binV, intOp, shOp, boolOp, unV, convV, nilV, fieldAddrV, indexAddrV, extractV, cellAt, cellsAt, findB, setB, fillL, buildV, Value.cells, lenV, minV, maxV, hav, sliceV, loV, hiV, bslQ, mksQ, appQ, partsOk, partsCells, delB, eqL, SameI, strOp, apzQ, cvtQ, capV, ↓reduceIte, Zj, Zk, Nat.reduceAdd, Nat.reduceLT, Nat.reduceEqDiff, Nat.reduceMul, Nat.reduceLeDiff, if_true, Zn, reduceCtorEq, ZA, eq_self, Int.reduceLE, Int.reduceLT, Int.reduceToNat, ne_eq, Nat.reduceSub, Tfld87_0, Tld3, hl, hm, e1, e2, t0, nb2_b1, nb3_b2, nb3_b1, d1, d2, d3, d4, d5, d6, d7, nb6_c2, nb6_c1, nb6_b3, nb6_b2, nb6_b1, s1, s2, s3]
          repeat refine And.intro (by omega) ?_
          intro g
          simp only [List.map_cons, List.map_nil, updL, upd, Nat.reduceEqDiff, if_true, if_false, ↓reduceIte]
          refine hK _ _ ?_; clear hK K
          refine Cd.condd rfl (fun h2 => ?_) (fun h2 => ?_)
          · rw [if_pos (by omega)]
            refine Cd.rr [3, 4, 5, 6, 7, 8, 9, 10, 11, 12, 40, 41] fun K hK => ?_
            simp (maxSteps := 2000000) (disch := first | (simp only [E4, hl, hm, e1, e2, t0, nb2_b1, nb3_b2, nb3_b1, d1, d2, d3, d4, d5, d6, d7, nb6_c2, nb6_c1, nb6_b3, nb6_b2, nb6_b1, s1, s2, s3] <;> omega) | omega | fail) only [↓E2, E3, bare, bareJ, ↓E0, E1, evP, evPlan, env0, envN, evOps, evOp, evQs, evQ, evV, setD, pureOp, ev, upd, updL, gate, binW, eqOp, binV, intOp, shOp, boolOp, unV, convV, nilV, fieldAddrV, indexAddrV, extractV, cellAt, cellsAt, findB, setB, fillL, buildV, Value.cells, lenV, minV, maxV, hav, sliceV, loV, hiV, bslQ, mksQ, appQ, partsOk, partsCells, delB, eqL, SameI, strOp, apzQ, cvtQ, capV, ↓reduceIte, Zj, Zk, Nat.reduceAdd, Nat.reduceLT, Nat.reduceEqDiff, Nat.reduceMul, Nat.reduceLeDiff, if_true, Zn, reduceCtorEq, ZA, eq_self, Int.reduceLE, Int.reduceLT, Int.reduceToNat, ne_eq, Nat.reduceSub, hl, hm, e1, e2, t0, nb2_b1, nb3_b2, nb3_b1, d1, d2, d3, d4, d5, d6, d7, nb6_c2, nb6_c1, nb6_b3, nb6_b2, nb6_b1, s1, s2, s3]
            repeat refine And.intro (by omega) ?_
            intro g
            simp only [List.map_cons, List.map_nil, updL, upd, Nat.reduceEqDiff, if_true, if_false, ↓reduceIte]
            refine hK _ _ ?_; clear hK K
            exact midN ⟨_, rfl, rfl⟩
          · rw [if_neg (by omega)]
            refine Cd.skip ?_
            exact midN ⟨_, (norm_of (by repeat (first | exact trivial | refine And.intro rfl ?_))), rfl⟩
        · rintro ρ M ⟨g, rfl, rfl⟩
          refine Cd.midq (fun ρ M => ∃ g, ρ = updL ([(3, .pointer (some ⟨b2, 0, none⟩)), (4, .pointer (some ⟨b3, 0, none⟩)), (5, .pointer (some ⟨c1, 0, none⟩)), (6, .pointer (some ⟨c2, 0, none⟩)), (7, .int .u8 (o.getD i 0)), (8, .pointer (some ⟨b6, 0, none⟩)), (9, .pointer (some ⟨b6, 9, none⟩)), (10, .pointer (some ⟨b6, 1, none⟩)), (11, .int .i64 (k : Int)), (12, .int .i64 ((colK i rt k) : Int)), (40, .int .i64 (n : Int)), (41, .int .i64 (k : Int))]) g ∧ M = [(b6, gc ((n : Int) + 1) (tab (genK (fun c => liftF (o.getD i 0) (u : Int) (x.getD c 0)) i rt k)) (tab (genK (fun c => liftM (o.getD i 0) (o.getD c 0)) i rt k))), (c2, ints .u8 x), (c1, ints .u8 o), (b3, gc 0 z8 z8), (b2, [.int .i64 (i : Int), .int .i64 1, .int .i64 (rt : Int), .int .i64 (u : Int)]), (b1, gc (n : Int) x o)]) ?_ ?_
          · refine Cd.rs [3, 4, 5, 6, 7, 8, 9, 10, 11, 12, 40, 41, 54] fun K hK => ?_
            simp (maxSteps := 2000000) (disch := first | (simp only [E4, hl, hm, e1, e2, t0, nb2_b1, nb3_b2, nb3_b1, d1, d2, d3, d4, d5, d6, d7, nb6_c2, nb6_c1, nb6_b3, nb6_b2, nb6_b1, s1, s2, s3] <;> omega) | omega | fail) only [↓E2, E3, bare, bareJ, ↓E0, E1, evP, evPlan, env0, envN, evOps, evOp, evQs, evQ, evV, setD, pureOp, ev, upd, updL, gate, binW, eqOp, binV, intOp, shOp, boolOp, unV, convV, nilV, fieldAddrV, indexAddrV, extractV, cellAt, cellsAt, findB, setB, fillL, buildV, Value.cells, lenV, minV, maxV, hav, sliceV, loV, hiV, bslQ, mksQ, appQ, partsOk, partsCells, delB, eqL, SameI, strOp, apzQ, cvtQ, capV, ↓reduceIte, Zj, Zk, Nat.reduceAdd, Nat.reduceLT, Nat.reduceEqDiff, Nat.reduceMul, Nat.reduceLeDiff, if_true, Zn, reduceCtorEq, ZA, eq_self, Int.reduceLE, Int.reduceLT, Int.reduceToNat, ne_eq, Nat.reduceSub, Tfld87_0, Tld3, hl, hm, e1, e2, t0, nb2_b1, nb3_b2, nb3_b1, d1, d2, d3, d4, d5, d6, d7, nb6_c2, nb6_c1, nb6_b3, nb6_b2, nb6_b1, s1, s2, s3]
            repeat refine And.intro (by omega) ?_
            intro g
            simp only [List.map_cons, List.map_nil, updL, upd, Nat.reduceEqDiff, if_true, if_false, ↓reduceIte]
            refine hK _ _ ?_; clear hK K
            refine Cd.cond rfl (fun h3 => ?_) (fun h3 => ?_)
            · simp only [decide_eq_true_eq, decide_eq_false_iff_not, beq_iff_eq, beq_eq_false_iff_ne, bne_iff_ne, bne_eq_false_iff_eq, Bool.and_eq_true, Bool.or_eq_true, Bool.or_eq_false_iff, Bool.not_eq_true', Bool.not_eq_false', Bool.and_eq_false_imp, ne_eq, gt_iff_lt, ge_iff_le, Int.not_lt, Int.not_le, Classical.not_not] at h3
              refine Cd.rr [3, 4, 5, 6, 7, 8, 9, 10, 11, 12, 40, 41] fun K hK => ?_
              simp (maxSteps := 2000000) (disch := first | (simp only [E4, hl, hm, e1, e2, t0, nb2_b1, nb3_b2, nb3_b1, d1, d2, d3, d4, d5, d6, d7, nb6_c2, nb6_c1, nb6_b3, nb6_b2, nb6_b1, s1, s2, s3] <;> omega) | omega | fail) only [↓E2, E3, bare, bareJ, ↓E0, E1, evP, evPlan, env0, envN, evOps, evOp, evQs, evQ, evV, setD, pureOp, ev, upd, updL, gate, binW, eqOp, binV, intOp, shOp, boolOp, unV, convV, nilV, fieldAddrV, indexAddrV, extractV, cellAt, cellsAt, findB, setB, fillL, buildV, Value.cells, lenV, minV, maxV, hav, sliceV, loV, hiV, bslQ, mksQ, appQ, partsOk, partsCells, delB, eqL, SameI, strOp, apzQ, cvtQ, capV, ↓reduceIte, Zj, Zk, Nat.reduceAdd, Nat.reduceLT, Nat.reduceEqDiff, Nat.reduceMul, Nat.reduceLeDiff, if_true, Zn, reduceCtorEq, ZA, eq_self, Int.reduceLE, Int.reduceLT, Int.reduceToNat, ne_eq, Nat.reduceSub, Tfld87_0, Tfld87_2, Tld3, hl, hm, e1, e2, t0, nb2_b1, nb3_b2, nb3_b1, d1, d2, d3, d4, d5, d6, d7, nb6_c2, nb6_c1, nb6_b3, nb6_b2, nb6_b1, s1, s2, s3]
              rw [show (i : Int) + (rt : Int) = ((colK i rt k) : Int) by unfold colK; grind]
              repeat refine And.intro (by omega) ?_
              intro g
              simp only [List.map_cons, List.map_nil, updL, upd, Nat.reduceEqDiff, if_true, if_false, ↓reduceIte]
              refine hK _ _ ?_; clear hK K
              exact midN ⟨_, rfl, rfl⟩
            · simp only [decide_eq_true_eq, decide_eq_false_iff_not, beq_iff_eq, beq_eq_false_iff_ne, bne_iff_ne, bne_eq_false_iff_eq, Bool.and_eq_true, Bool.or_eq_true, Bool.or_eq_false_iff, Bool.not_eq_true', Bool.not_eq_false', Bool.and_eq_false_imp, ne_eq, gt_iff_lt, ge_iff_le, Int.not_lt, Int.not_le, Classical.not_not] at h3
              rw [show (if i < k then (k : Int) + 1 else (k : Int)) = ((colK i rt k) : Int) by unfold colK; grind]
              refine Cd.skip ?_
              exact midN ⟨_, (norm_of (by repeat (first | exact trivial | refine And.intro rfl ?_))), rfl⟩
          · rintro ρ M ⟨g, rfl, rfl⟩
            refine Cd.ps [3, 4, 5, 6, 7, 8, 9, 10, 11, 12, 40, 41] (Plan.take 0 (Plan.take 1 (Plan.take 2 (Plan.take 3 (Plan.take 4 (Plan.take 5 (Plan.take 6 (Plan.take 7 (Plan.take 8 (Plan.take 10 (Plan.take 11 (Plan.take 13 (Plan.more 9 (Plan.one 12 (Plan.take 14 (Plan.one 15 (Plan.done)))) (Plan.one 12 (Plan.take 9 (Plan.take 14 (Plan.one 15 (Plan.done)))))))))))))))))) fol (by kernel_rfl) (Nat.le_of_ble_eq_true rfl) fun K hK => ?_
            simp (maxSteps := 2000000) (disch := first | (simp only [E4, hl, hm, e1, e2, t0, nb2_b1, nb3_b2, nb3_b1, d1, d2, d3, d4, d5, d6, d7, nb6_c2, nb6_c1, nb6_b3, nb6_b2, nb6_b1, s1, s2, s3] <;> omega) | omega | fail) only [↓E2, E3, bare, bareJ, ↓E0, E1, evP, evPlan, env0, envN, evOps, evOp, evQs, evQ, evV, setD, pureOp, ev, upd, updL, gate, binW, eqOp, binV, intOp, shOp, boolOp, unV, convV, nilV, fieldAddrV, indexAddrV, extractV, cellAt, cellsAt, findB, setB, fillL, buildV, Value.cells, lenV, minV, maxV, hav, sliceV, loV, hiV, bslQ, mksQ, appQ, partsOk, partsCells, delB, eqL, SameI, strOp, apzQ, cvtQ, capV, ↓reduceIte, Zj, Zk, Nat.reduceAdd, Nat.reduceLT, Nat.reduceEqDiff, Nat.reduceMul, Nat.reduceLeDiff, if_true, Zn, reduceCtorEq, ZA, eq_self, Int.reduceLE, Int.reduceLT, Int.reduceToNat, ne_eq, Nat.reduceSub, Tarr30, Tld5, Tst5, hl, hm, e1, e2, t0, nb2_b1, nb3_b2, nb3_b1, d1, d2, d3, d4, d5, d6, d7, nb6_c2, nb6_c1, nb6_b3, nb6_b2, nb6_b1, s1, s2, s3]
            repeat refine And.intro (by omega) ?_
            intro g
            simp only [List.map_cons, List.map_nil, updL, upd, Nat.reduceEqDiff, if_true, if_false, ↓reduceIte]
            refine hK _ _ ?_; clear hK K
            refine Cd.midq (fun ρ M => ∃ g, ρ = updL ([(3, .pointer (some ⟨b2, 0, none⟩)), (4, .pointer (some ⟨b3, 0, none⟩)), (5, .pointer (some ⟨c1, 0, none⟩)), (6, .pointer (some ⟨c2, 0, none⟩)), (7, .int .u8 (o.getD i 0)), (8, .pointer (some ⟨b6, 0, none⟩)), (9, .pointer (some ⟨b6, 9, none⟩)), (10, .pointer (some ⟨b6, 1, none⟩)), (11, .int .i64 (k : Int)), (12, .int .i64 ((colK i rt k) : Int)), (40, .int .i64 (n : Int)), (41, .int .i64 (k : Int))]) g ∧ M = [(b6, gc ((n : Int) + 1) ((tab (genK (fun c => liftF (o.getD i 0) (u : Int) (x.getD c 0)) i rt k)).set (colK i rt k) (x.getD k 0)) ((tab (genK (fun c => liftM (o.getD i 0) (o.getD c 0)) i rt k)).set (colK i rt k) (liftM (o.getD i 0) (o.getD k 0)))), (c2, ints .u8 x), (c1, ints .u8 o), (b3, gc 0 z8 z8), (b2, [.int .i64 (i : Int), .int .i64 1, .int .i64 (rt : Int), .int .i64 (u : Int)]), (b1, gc (n : Int) x o)]) ?_ ?_
            · refine Cd.rs [3, 4, 5, 6, 7, 8, 9, 10, 11, 12, 40, 41, 78] fun K hK => ?_
              simp (maxSteps := 2000000) (disch := first | (simp only [E4, hl, hm, e1, e2, t0, nb2_b1, nb3_b2, nb3_b1, d1, d2, d3, d4, d5, d6, d7, nb6_c2, nb6_c1, nb6_b3, nb6_b2, nb6_b1, s1, s2, s3] <;> omega) | omega | fail) only [↓E2, E3, bare, bareJ, ↓E0, E1, evP, evPlan, env0, envN, evOps, evOp, evQs, evQ, evV, setD, pureOp, ev, upd, updL, gate, binW, eqOp, binV, intOp, shOp, boolOp, unV, convV, nilV, fieldAddrV, indexAddrV, extractV, cellAt, cellsAt, findB, setB, fillL, buildV, Value.cells, lenV, minV, maxV, hav, sliceV, loV, hiV, bslQ, mksQ, appQ, partsOk, partsCells, delB, eqL, SameI, strOp, apzQ, cvtQ, capV, ↓reduceIte, Zj, Zk, Nat.reduceAdd, Nat.reduceLT, Nat.reduceEqDiff, Nat.reduceMul, Nat.reduceLeDiff, if_true, Zn, reduceCtorEq, ZA, eq_self, Int.reduceLE, Int.reduceLT, Int.reduceToNat, ne_eq, Nat.reduceSub, Tarr30, Tld5, hl, hm, e1, e2, t0, nb2_b1, nb3_b2, nb3_b1, d1, d2, d3, d4, d5, d6, d7, nb6_c2, nb6_c1, nb6_b3, nb6_b2, nb6_b1, s1, s2, s3]
              repeat refine And.intro (by omega) ?_
              intro g
              simp only [List.map_cons, List.map_nil, updL, upd, Nat.reduceEqDiff, if_true, if_false, ↓reduceIte]
              refine hK _ _ ?_; clear hK K
              refine Cd.condd rfl (fun h4 => ?_) (fun h4 => ?_)
              · rw [show liftM (o.getD i 0) (o.getD k 0) = o.getD k 0 + 1 from if_pos h4]
                refine Cd.pr [3, 4, 5, 6, 7, 8, 9, 10, 11, 12, 40, 41] (Plan.take 0 (Plan.take 1 (Plan.take 2 (Plan.take 3 (Plan.take 4 (Plan.take 5 (Plan.take 6 (Plan.take 7 (Plan.one 8 (Plan.done)))))))))) fol (by kernel_rfl) (Nat.le_of_ble_eq_true rfl) fun K hK => ?_
                simp (maxSteps := 2000000) (disch := first | (simp only [E4, hl, hm, e1, e2, t0, nb2_b1, nb3_b2, nb3_b1, d1, d2, d3, d4, d5, d6, d7, nb6_c2, nb6_c1, nb6_b3, nb6_b2, nb6_b1, s1, s2, s3] <;> omega) | omega | fail) only [↓E2, E3, bare, bareJ, ↓E0, E1, evP, evPlan, env0, envN, evOps, evOp, evQs, evQ, evV, setD, pureOp, ev, upd, updL, gate, binW, eqOp, binV, intOp, shOp, boolOp, unV, convV, nilV, fieldAddrV, indexAddrV, extractV, cellAt, cellsAt, findB, setB, fillL, buildV, Value.cells, lenV, minV, maxV, hav, sliceV, loV, hiV, bslQ, mksQ, appQ, partsOk, partsCells, delB, eqL, SameI, strOp, apzQ, cvtQ, capV, ↓reduceIte, Zj, Zk, Nat.reduceAdd, Nat.reduceLT, Nat.reduceEqDiff, Nat.reduceMul, Nat.reduceLeDiff, if_true, Zn, reduceCtorEq, ZA, eq_self, Int.reduceLE, Int.reduceLT, Int.reduceToNat, ne_eq, Nat.reduceSub, Tarr30, Tld5, Tst5, hl, hm, e1, e2, t0, nb2_b1, nb3_b2, nb3_b1, d1, d2, d3, d4, d5, d6, d7, nb6_c2, nb6_c1, nb6_b3, nb6_b2, nb6_b1, s1, s2, s3]
                repeat refine And.intro (by omega) ?_
                intro g
                simp only [List.map_cons, List.map_nil, updL, upd, Nat.reduceEqDiff, if_true, if_false, ↓reduceIte]
                refine hK _ _ ?_; clear hK K
                exact midN ⟨_, rfl, rfl⟩
              · rw [show liftM (o.getD i 0) (o.getD k 0) = o.getD k 0 from if_neg h4]
                refine Cd.skip ?_
                exact midN ⟨_, (norm_of (by repeat (first | exact trivial | refine And.intro rfl ?_))), rfl⟩
            · rintro ρ M ⟨g, rfl, rfl⟩
              have f1 := genK_set (f := fun c => liftM (o.getD i 0) (o.getD c 0)) (i := i) (k := k) hrt rfl
              have f2 := fun (v : Int) hv => genK_set (f := fun c => liftF (o.getD i 0) (u : Int) (x.getD c 0)) (i := i) (k := k) hrt (v := v) hv
              refine Cd.block ?_
              refine Cd.rs [3, 4, 5, 6, 7, 8, 9, 10, 11, 12, 40, 41, 87] fun K hK => ?_
              simp (maxSteps := 2000000) (disch := first | (simp only [E4, hl, hm, e1, e2, t0, nb2_b1, nb3_b2, nb3_b1, d1, d2, d3, d4, d5, d6, d7, nb6_c2, nb6_c1, nb6_b3, nb6_b2, nb6_b1, s1, s2, s3] <;> omega) | omega | fail) only [↓E2, E3, bare, bareJ, ↓E0, E1, evP, evPlan, env0, envN, evOps, evOp, evQs, evQ, evV, setD, pureOp, ev, upd, updL, gate, binW, eqOp, binV, intOp, shOp, boolOp, unV, convV, nilV, fieldAddrV, indexAddrV, extractV, cellAt, cellsAt, findB, setB, fillL, buildV, Value.cells, lenV, minV, maxV, hav, sliceV, loV, hiV, bslQ, mksQ, appQ, partsOk, partsCells, delB, eqL, SameI, strOp, apzQ, cvtQ, capV, ↓reduceIte, Zj, Zk, Nat.reduceAdd, Nat.reduceLT, Nat.reduceEqDiff, Nat.reduceMul, Nat.reduceLeDiff, if_true, Zn, reduceCtorEq, ZA, eq_self, Int.reduceLE, Int.reduceLT, Int.reduceToNat, ne_eq, Nat.reduceSub, Tarr30, Tld5, hl, hm, e1, e2, t0, nb2_b1, nb3_b2, nb3_b1, d1, d2, d3, d4, d5, d6, d7, nb6_c2, nb6_c1, nb6_b3, nb6_b2, nb6_b1, s1, s2, s3]
              repeat refine And.intro (by omega) ?_
              intro g
              simp only [List.map_cons, List.map_nil, updL, upd, Nat.reduceEqDiff, if_true, if_false, ↓reduceIte]
              refine hK _ _ ?_; clear hK K
              refine Cd.condd rfl (fun h5 => ?_) (fun h5 => ?_)
              · refine Cd.pr [3, 4, 5, 6, 7, 8, 9, 10, 40, 41] (Plan.take 0 (Plan.take 1 (Plan.take 2 (Plan.take 3 (Plan.take 4 (Plan.take 5 (Plan.take 6 (Plan.take 7 (Plan.one 8 (Plan.done)))))))))) fol (by kernel_rfl) (Nat.le_of_ble_eq_true rfl) fun K hK => ?_
                simp (maxSteps := 2000000) (disch := first | (simp only [E4, hl, hm, e1, e2, t0, nb2_b1, nb3_b2, nb3_b1, d1, d2, d3, d4, d5, d6, d7, nb6_c2, nb6_c1, nb6_b3, nb6_b2, nb6_b1, s1, s2, s3] <;> omega) | omega | fail) only [↓E2, E3, bare, bareJ, ↓E0, E1, evP, evPlan, env0, envN, evOps, evOp, evQs, evQ, evV, setD, pureOp, ev, upd, updL, gate, binW, eqOp, binV, intOp, shOp, boolOp, unV, convV, nilV, fieldAddrV, indexAddrV, extractV, cellAt, cellsAt, findB, setB, fillL, buildV, Value.cells, lenV, minV, maxV, hav, sliceV, loV, hiV, bslQ, mksQ, appQ, partsOk, partsCells, delB, eqL, SameI, strOp, apzQ, cvtQ, capV, ↓reduceIte, Zj, Zk, Nat.reduceAdd, Nat.reduceLT, Nat.reduceEqDiff, Nat.reduceMul, Nat.reduceLeDiff, if_true, Zn, reduceCtorEq, ZA, eq_self, Int.reduceLE, Int.reduceLT, Int.reduceToNat, ne_eq, Nat.reduceSub, Tarr30, Tld5, Tst5, hl, hm, e1, e2, t0, nb2_b1, nb3_b2, nb3_b1, d1, d2, d3, d4, d5, d6, d7, nb6_c2, nb6_c1, nb6_b3, nb6_b2, nb6_b1, s1, s2, s3]
                repeat refine And.intro (by omega) ?_
                intro g
                simp only [List.map_cons, List.map_nil, updL, upd, Nat.reduceEqDiff, if_true, if_false, ↓reduceIte]
                refine hK _ _ ?_; clear hK K
                refine inBN ?_
                refine inBN ?_
                rw [f1, f2 _ (by show _ = liftF _ _ _; unfold liftF; rw [if_pos h5])]
                exact midN ⟨_, rfl, rfl⟩
              · refine Cd.rs [3, 4, 5, 6, 7, 8, 9, 10, 12, 40, 41, 101] fun K hK => ?_
                simp (maxSteps := 2000000) (disch := first | (simp only [E4, hl, hm, e1, e2, t0, nb2_b1, nb3_b2, nb3_b1, d1, d2, d3, d4, d5, d6, d7, nb6_c2, nb6_c1, nb6_b3, nb6_b2, nb6_b1, s1, s2, s3] <;> omega) | omega | fail) only [↓E2, E3, bare, bareJ, ↓E0, E1, evP, evPlan, env0, envN, evOps, evOp, evQs, evQ, evV, setD, pureOp, ev, upd, updL, gate, binW, eqOp, binV, intOp, shOp, boolOp, unV, convV, nilV, fieldAddrV, indexAddrV, extractV, cellAt, cellsAt, findB, setB, fillL, buildV, Value.cells, lenV, minV, maxV, hav, sliceV, loV, hiV, bslQ, mksQ, appQ, partsOk, partsCells, delB, eqL, SameI, strOp, apzQ, cvtQ, capV, ↓reduceIte, Zj, Zk, Nat.reduceAdd, Nat.reduceLT, Nat.reduceEqDiff, Nat.reduceMul, Nat.reduceLeDiff, if_true, Zn, reduceCtorEq, ZA, eq_self, Int.reduceLE, Int.reduceLT, Int.reduceToNat, ne_eq, Nat.reduceSub, Tarr30, Tld5, hl, hm, e1, e2, t0, nb2_b1, nb3_b2, nb3_b1, d1, d2, d3, d4, d5, d6, d7, nb6_c2, nb6_c1, nb6_b3, nb6_b2, nb6_b1, s1, s2, s3]
                repeat refine And.intro (by omega) ?_
                intro g
                simp only [List.map_cons, List.map_nil, updL, upd, Nat.reduceEqDiff, if_true, if_false, ↓reduceIte]
                refine hK _ _ ?_; clear hK K
                refine Cd.cond rfl (fun h6 => ?_) (fun h6 => ?_)
                · simp only [decide_eq_true_eq, decide_eq_false_iff_not, beq_iff_eq, beq_eq_false_iff_ne, bne_iff_ne, bne_eq_false_iff_eq, Bool.and_eq_true, Bool.or_eq_true, Bool.or_eq_false_iff, Bool.not_eq_true', Bool.not_eq_false', Bool.and_eq_false_imp, ne_eq, gt_iff_lt, ge_iff_le, Int.not_lt, Int.not_le, Classical.not_not] at h6
                  refine Cd.pr [3, 4, 5, 6, 7, 8, 9, 10, 40, 41] (Plan.take 0 (Plan.take 1 (Plan.take 2 (Plan.take 3 (Plan.take 4 (Plan.take 5 (Plan.take 6 (Plan.take 7 (Plan.take 8 (Plan.take 9 (Plan.take 10 (Plan.one 11 (Plan.done))))))))))))) fol (by kernel_rfl) (Nat.le_of_ble_eq_true rfl) fun K hK => ?_
                  simp (maxSteps := 2000000) (disch := first | (simp only [E4, hl, hm, e1, e2, t0, nb2_b1, nb3_b2, nb3_b1, d1, d2, d3, d4, d5, d6, d7, nb6_c2, nb6_c1, nb6_b3, nb6_b2, nb6_b1, s1, s2, s3] <;> omega) | omega | fail) only [↓E2, E3, bare, bareJ, ↓E0, E1, evP, evPlan, env0, envN, evOps, evOp, evQs, evQ, evV, setD, pureOp, ev, upd, updL, gate, binW, eqOp, binV, intOp, shOp, boolOp, unV, convV, nilV, fieldAddrV, indexAddrV, extractV, cellAt, cellsAt, findB, setB, fillL, buildV, Value.cells, lenV, minV, maxV, hav, sliceV, loV, hiV, bslQ, mksQ, appQ, partsOk, partsCells, delB, eqL, SameI, strOp, apzQ, cvtQ, capV, ↓reduceIte, Zj, Zk, Nat.reduceAdd, Nat.reduceLT, Nat.reduceEqDiff, Nat.reduceMul, Nat.reduceLeDiff, if_true, Zn, reduceCtorEq, ZA, eq_self, Int.reduceLE, Int.reduceLT, Int.reduceToNat, ne_eq, Nat.reduceSub, Tarr30, Tfld87_3, Tint5, Tld3, Tld5, Tpar3, Tst5, hl, hm, e1, e2, t0, nb2_b1, nb3_b2, nb3_b1, d1, d2, d3, d4, d5, d6, d7, nb6_c2, nb6_c1, nb6_b3, nb6_b2, nb6_b1, s1, s2, s3]
                  repeat refine And.intro (by omega) ?_
                  intro g
                  simp only [List.map_cons, List.map_nil, updL, upd, Nat.reduceEqDiff, if_true, if_false, ↓reduceIte]
                  refine hK _ _ ?_; clear hK K
                  refine inBN ?_
                  refine inBN ?_
                  rw [f1, f2 _ (by show _ = liftF _ _ _; unfold liftF; rw [if_neg h5, if_pos h6, h6])]
                  exact midN ⟨_, rfl, rfl⟩
                · simp only [decide_eq_true_eq, decide_eq_false_iff_not, beq_iff_eq, beq_eq_false_iff_ne, bne_iff_ne, bne_eq_false_iff_eq, Bool.and_eq_true, Bool.or_eq_true, Bool.or_eq_false_iff, Bool.not_eq_true', Bool.not_eq_false', Bool.and_eq_false_imp, ne_eq, gt_iff_lt, ge_iff_le, Int.not_lt, Int.not_le, Classical.not_not] at h6
                  refine Cd.skip ?_
                  refine inBN ?_
                  refine inBN ?_
                  rw [f1, f2 _ (by show _ = liftF _ _ _; unfold liftF; rw [if_neg h5, if_neg h6])]
                  exact midN ⟨_, (norm_of (by repeat (first | exact trivial | refine And.intro rfl ?_))), rfl⟩
      · rintro ρ M ⟨g, rfl, rfl⟩
        refine Cd.rr [3, 4, 5, 6, 7, 8, 9, 10, 40, 41] fun K hK => ?_
        simp (maxSteps := 2000000) (disch := first | (simp only [E4, hl, hm, e1, e2, t0, nb2_b1, nb3_b2, nb3_b1, d1, d2, d3, d4, d5, d6, d7, nb6_c2, nb6_c1, nb6_b3, nb6_b2, nb6_b1, s1, s2, s3] <;> omega) | omega | fail) only [↓E2, E3, bare, bareJ, ↓E0, E1, evP, evPlan, env0, envN, evOps, evOp, evQs, evQ, evV, setD, pureOp, ev, upd, updL, gate, binW, eqOp, binV, intOp, shOp, boolOp, unV, convV, nilV, fieldAddrV, indexAddrV, extractV, cellAt, cellsAt, findB, setB, fillL, buildV, Value.cells, lenV, minV, maxV, hav, sliceV, loV, hiV, bslQ, mksQ, appQ, partsOk, partsCells, delB, eqL, SameI, strOp, apzQ, cvtQ, capV, ↓reduceIte, Zj, Zk, Nat.reduceAdd, Nat.reduceLT, Nat.reduceEqDiff, Nat.reduceMul, Nat.reduceLeDiff, if_true, Zn, reduceCtorEq, ZA, eq_self, Int.reduceLE, Int.reduceLT, Int.reduceToNat, ne_eq, Nat.reduceSub, hl, hm, e1, e2, t0, nb2_b1, nb3_b2, nb3_b1, d1, d2, d3, d4, d5, d6, d7, nb6_c2, nb6_c1, nb6_b3, nb6_b2, nb6_b1, s1, s2, s3]
        repeat refine And.intro (by omega) ?_
        intro g
        simp only [List.map_cons, List.map_nil, updL, upd, Nat.reduceEqDiff, if_true, if_false, ↓reduceIte]
        refine hK _ _ ?_; clear hK K
        refine roundN (m := m - 1) (by omega) ⟨_, k + 1, by omega, rfl, rfl⟩
    · refine Cd.exit (thenX (roundX (inBX ?_)))
      refine thenN ?_
      obtain rfl : k = n := by omega
      refine Cd.ps [3, 4, 7, 8, 9, 10] (Plan.take 0 (Plan.take 1 (Plan.take 2 (Plan.take 3 (Plan.take 4 (Plan.take 5 (Plan.take 6 (Plan.take 7 (Plan.take 8 (Plan.take 9 (Plan.take 10 (Plan.take 11 (Plan.take 12 (Plan.take 13 (Plan.one 14 (Plan.done)))))))))))))))) fol (by kernel_rfl) (Nat.le_of_ble_eq_true rfl) fun K hK => ?_
      simp (maxSteps := 2000000) (disch := first | (simp only [E4, hl, hm, e1, e2, t0, nb2_b1, nb3_b2, nb3_b1, d1, d2, d3, d4, d5, d6, d7, nb6_c2, nb6_c1, nb6_b3, nb6_b2, nb6_b1] <;> omega) | omega | fail) only [↓E2, E3, bare, bareJ, ↓E0, E1, evP, evPlan, env0, envN, evOps, evOp, evQs, evQ, evV, setD, pureOp, ev, upd, updL, gate, binW, eqOp, binV, intOp, shOp, boolOp, unV, convV, nilV, fieldAddrV, indexAddrV, extractV, cellAt, cellsAt, findB, setB, fillL, buildV, Value.cells, lenV, minV, maxV, hav, sliceV, loV, hiV, bslQ, mksQ, appQ, partsOk, partsCells, delB, eqL, SameI, strOp, apzQ, cvtQ, capV, ↓reduceIte, Zj, Zk, Nat.reduceAdd, Nat.reduceLT, Nat.reduceEqDiff, Nat.reduceMul, Nat.reduceLeDiff, if_true, Zn, reduceCtorEq, ZA, eq_self, Int.reduceLE, Int.reduceLT, Int.reduceToNat, ne_eq, Nat.reduceSub, Tarr30, Tfld87_0, Tfld87_2, Tfld87_3, Tint5, Tld3, Tpar3, Tst5, hl, hm, e1, e2, t0, nb2_b1, nb3_b2, nb3_b1, d1, d2, d3, d4, d5, d6, d7, nb6_c2, nb6_c1, nb6_b3, nb6_b2, nb6_b1]
      repeat refine And.intro (by omega) ?_
      intro g
      simp only [List.map_cons, List.map_nil, updL, upd, Nat.reduceEqDiff, if_true, if_false, ↓reduceIte]
      refine hK _ _ ?_; clear hK K
      refine Cd.ps [3, 4, 7, 8, 10] (Plan.take 0 (Plan.take 1 (Plan.take 2 (Plan.take 3 (Plan.take 4 (Plan.take 5 (Plan.take 6 (Plan.take 7 (Plan.take 8 (Plan.take 9 (Plan.take 10 (Plan.take 11 (Plan.take 12 (Plan.take 13 (Plan.one 14 (Plan.done)))))))))))))))) fol (by kernel_rfl) (Nat.le_of_ble_eq_true rfl) fun K hK => ?_
      simp (maxSteps := 2000000) (disch := first | (simp only [E4, hl, hm, e1, e2, t0, nb2_b1, nb3_b2, nb3_b1, d1, d2, d3, d4, d5, d6, d7, nb6_c2, nb6_c1, nb6_b3, nb6_b2, nb6_b1] <;> omega) | omega | fail) only [↓E2, E3, bare, bareJ, ↓E0, E1, evP, evPlan, env0, envN, evOps, evOp, evQs, evQ, evV, setD, pureOp, ev, upd, updL, gate, binW, eqOp, binV, intOp, shOp, boolOp, unV, convV, nilV, fieldAddrV, indexAddrV, extractV, cellAt, cellsAt, findB, setB, fillL, buildV, Value.cells, lenV, minV, maxV, hav, sliceV, loV, hiV, bslQ, mksQ, appQ, partsOk, partsCells, delB, eqL, SameI, strOp, apzQ, cvtQ, capV, ↓reduceIte, Zj, Zk, Nat.reduceAdd, Nat.reduceLT, Nat.reduceEqDiff, Nat.reduceMul, Nat.reduceLeDiff, if_true, Zn, reduceCtorEq, ZA, eq_self, Int.reduceLE, Int.reduceLT, Int.reduceToNat, ne_eq, Nat.reduceSub, Tarr30, Tfld87_0, Tfld87_2, Tfld87_3, Tint5, Tld3, Tpar3, Tst5, hl, hm, e1, e2, t0, nb2_b1, nb3_b2, nb3_b1, d1, d2, d3, d4, d5, d6, d7, nb6_c2, nb6_c1, nb6_b3, nb6_b2, nb6_b1]
      repeat refine And.intro (by omega) ?_
      intro g
      simp only [List.map_cons, List.map_nil, updL, upd, Nat.reduceEqDiff, if_true, if_false, ↓reduceIte]
      refine hK _ _ ?_; clear hK K
      refine Cd.ps [4, 8] (Plan.take 0 (Plan.take 1 (Plan.take 2 (Plan.take 3 (Plan.take 4 (Plan.take 5 (Plan.take 6 (Plan.take 7 (Plan.take 8 (Plan.take 9 (Plan.take 10 (Plan.take 11 (Plan.take 12 (Plan.take 13 (Plan.take 14 (Plan.one 15 (Plan.done))))))))))))))))) fol (by kernel_rfl) (Nat.le_of_ble_eq_true rfl) fun K hK => ?_
      simp (maxSteps := 2000000) (disch := first | (simp only [E4, hl, hm, e1, e2, t0, nb2_b1, nb3_b2, nb3_b1, d1, d2, d3, d4, d5, d6, d7, nb6_c2, nb6_c1, nb6_b3, nb6_b2, nb6_b1] <;> omega) | omega | fail) only [↓E2, E3, bare, bareJ, ↓E0, E1, evP, evPlan, env0, envN, evOps, evOp, evQs, evQ, evV, setD, pureOp, ev, upd, updL, gate, binW, eqOp, binV, intOp, shOp, boolOp, unV, convV, nilV, fieldAddrV, indexAddrV, extractV, cellAt, cellsAt, findB, setB, fillL, buildV, Value.cells, lenV, minV, maxV, hav, sliceV, loV, hiV, bslQ, mksQ, appQ, partsOk, partsCells, delB, eqL, SameI, strOp, apzQ, cvtQ, capV, ↓reduceIte, Zj, Zk, Nat.reduceAdd, Nat.reduceLT, Nat.reduceEqDiff, Nat.reduceMul, Nat.reduceLeDiff, if_true, Zn, reduceCtorEq, ZA, eq_self, Int.reduceLE, Int.reduceLT, Int.reduceToNat, ne_eq, Nat.reduceSub, Tarr30, Tfld87_0, Tfld87_2, Tfld87_3, Tint5, Tld3, Tpar3, Tst5, hl, hm, e1, e2, t0, nb2_b1, nb3_b2, nb3_b1, d1, d2, d3, d4, d5, d6, d7, nb6_c2, nb6_c1, nb6_b3, nb6_b2, nb6_b1]
      repeat refine And.intro (by omega) ?_
      intro g
      simp only [List.map_cons, List.map_nil, updL, upd, Nat.reduceEqDiff, if_true, if_false, ↓reduceIte]
      refine hK _ _ ?_; clear hK K
      rw [grA_end hrt hi (fun c hc hne => ?_), grB_end hrt hi]
      · refine Cd.rs [4] fun K hK => ?_
        simp (maxSteps := 2000000) (disch := first | (simp only [E4, hl, hm, e1, e2, t0, nb2_b1, nb3_b2, nb3_b1, d1, d2, d3, d4, d5, d6, d7, nb6_c2, nb6_c1, nb6_b3, nb6_b2, nb6_b1] <;> omega) | omega | fail) only [↓E2, E3, bare, bareJ, ↓E0, E1, evP, evPlan, env0, envN, evOps, evOp, evQs, evQ, evV, setD, pureOp, ev, upd, updL, gate, binW, eqOp, binV, intOp, shOp, boolOp, unV, convV, nilV, fieldAddrV, indexAddrV, extractV, cellAt, cellsAt, findB, setB, fillL, buildV, Value.cells, lenV, minV, maxV, hav, sliceV, loV, hiV, bslQ, mksQ, appQ, partsOk, partsCells, delB, eqL, SameI, strOp, apzQ, cvtQ, capV, ↓reduceIte, Zj, Zk, Nat.reduceAdd, Nat.reduceLT, Nat.reduceEqDiff, Nat.reduceMul, Nat.reduceLeDiff, if_true, Zn, reduceCtorEq, ZA, eq_self, Int.reduceLE, Int.reduceLT, Int.reduceToNat, ne_eq, Nat.reduceSub, Tld32, Tst32, hl, hm, e1, e2, t0, nb2_b1, nb3_b2, nb3_b1, d1, d2, d3, d4, d5, d6, d7, nb6_c2, nb6_c1, nb6_b3, nb6_b2, nb6_b1]
        repeat refine And.intro (by omega) ?_
        intro g
        simp only [List.map_cons, List.map_nil, updL, upd, Nat.reduceEqDiff, if_true, if_false, ↓reduceIte]
        refine hK _ _ ?_; clear hK K
        refine Cd.ret ?_
        simp (maxSteps := 2000000) (disch := first | (simp only [E4, hl, hm, e1, e2, t0, nb2_b1, nb3_b2, nb3_b1, d1, d2, d3, d4, d5, d6, d7, nb6_c2, nb6_c1, nb6_b3, nb6_b2, nb6_b1] <;> omega) | omega | fail) only [↓E2, E3, bare, bareJ, ↓E0, E1, evP, evPlan, env0, envN, evOps, evOp, evQs, evQ, evV, setD, pureOp, ev, upd, updL, gate, binW, eqOp, binV, intOp, shOp, boolOp, unV, convV, nilV, fieldAddrV, indexAddrV, extractV, cellAt, cellsAt, findB, setB, fillL, buildV, Value.cells, lenV, minV, maxV, hav, sliceV, loV, hiV, bslQ, mksQ, appQ, partsOk, partsCells, delB, eqL, SameI, strOp, apzQ, cvtQ, capV, ↓reduceIte, Zj, Zk, Nat.reduceAdd, Nat.reduceLT, Nat.reduceEqDiff, Nat.reduceMul, Nat.reduceLeDiff, if_true, Zn, reduceCtorEq, ZA, eq_self, Int.reduceLE, Int.reduceLT, Int.reduceToNat, ne_eq, Nat.reduceSub, Tld32, hl, hm, e1, e2, t0, nb2_b1, nb3_b2, nb3_b1, d1, d2, d3, d4, d5, d6, d7, nb6_c2, nb6_c1, nb6_b3, nb6_b2, nb6_b1]
      · rcases Nat.lt_or_gt_of_ne hne with h | h
        · exact (po).2.1 i hi c h
        · exact fun e => (po).2.1 c hc i h e.symm
  clear hK
  simp (maxSteps := 2000000) (disch := first | (simp only [E4, hl, hm, e1, e2, t0, nb2_b1, nb3_b2, nb3_b1] <;> omega) | omega | fail) only [↓E2, E3, bare, bareJ, ↓E0, E1, evP, evPlan, env0, envN, evOps, evOp, evQs, evQ, evV, setD, pureOp, ev, upd, updL, gate, binW, eqOp, binV, intOp, shOp, boolOp, unV, convV, nilV, fieldAddrV, indexAddrV, extractV, cellAt, cellsAt, findB, setB, fillL, buildV, Value.cells, lenV, minV, maxV, hav, sliceV, loV, hiV, bslQ, mksQ, appQ, partsOk, partsCells, delB, eqL, SameI, strOp, apzQ, cvtQ, capV, ↓reduceIte, Zj, Zk, Nat.reduceAdd, Nat.reduceLT, Nat.reduceEqDiff, Nat.reduceMul, Nat.reduceLeDiff, if_true, Zn, reduceCtorEq, ZA, eq_self, Int.reduceLE, Int.reduceLT, Int.reduceToNat, ne_eq, Nat.reduceSub, Tfld87_1, Tld3, Tld30, Tst30, Tzero30, ↓YR, hl, hm, e1, e2, t0, nb2_b1, nb3_b2, nb3_b1]
  refine callP_gives (rows1_c _ _) ?_
  simp (maxSteps := 2000000) (disch := first | (simp only [E4, hl, hm, e1, e2, t0, nb2_b1, nb3_b2, nb3_b1] <;> omega) | omega | fail) only [↓E2, E3, bare, bareJ, ↓E0, E1, evP, evPlan, env0, envN, evOps, evOp, evQs, evQ, evV, setD, pureOp, ev, upd, updL, gate, binW, eqOp, binV, intOp, shOp, boolOp, unV, convV, nilV, fieldAddrV, indexAddrV, extractV, cellAt, cellsAt, findB, setB, fillL, buildV, Value.cells, lenV, minV, maxV, hav, sliceV, loV, hiV, bslQ, mksQ, appQ, partsOk, partsCells, delB, eqL, SameI, strOp, apzQ, cvtQ, capV, ↓reduceIte, Zj, Zk, Nat.reduceAdd, Nat.reduceLT, Nat.reduceEqDiff, Nat.reduceMul, Nat.reduceLeDiff, if_true, Zn, reduceCtorEq, ZA, eq_self, Int.reduceLE, Int.reduceLT, Int.reduceToNat, ne_eq, Nat.reduceSub, Tfld87_1, Tld3, Tld30, Tst30, Tzero30, ↓YR, hl, hm, e1, e2, t0, nb2_b1, nb3_b2, nb3_b1]
  refine callP_gives (rows0_c _ _) ?_
  simp (maxSteps := 2000000) (disch := first | (simp only [E4, hl, hm, e1, e2, t0, nb2_b1, nb3_b2, nb3_b1] <;> omega) | omega | fail) only [↓E2, E3, bare, bareJ, ↓E0, E1, evP, evPlan, env0, envN, evOps, evOp, evQs, evQ, evV, setD, pureOp, ev, upd, updL, gate, binW, eqOp, binV, intOp, shOp, boolOp, unV, convV, nilV, fieldAddrV, indexAddrV, extractV, cellAt, cellsAt, findB, setB, fillL, buildV, Value.cells, lenV, minV, maxV, hav, sliceV, loV, hiV, bslQ, mksQ, appQ, partsOk, partsCells, delB, eqL, SameI, strOp, apzQ, cvtQ, capV, ↓reduceIte, Zj, Zk, Nat.reduceAdd, Nat.reduceLT, Nat.reduceEqDiff, Nat.reduceMul, Nat.reduceLeDiff, if_true, Zn, reduceCtorEq, ZA, eq_self, Int.reduceLE, Int.reduceLT, Int.reduceToNat, ne_eq, Nat.reduceSub, Tfld87_1, Tld3, Tld30, Tst30, Tzero30, ↓YR, hl, hm, e1, e2, t0, nb2_b1, nb3_b2, nb3_b1]
  repeat' first
      | omega
      | refine moreX_go ?_ ?_
      | with_reducible refine And.intro ?_ ?_
      | (with_reducible intro (b : Nat) (hb : Fresh _ _ b); have hb := hb.all; simp only [List.mem_cons, List.not_mem_nil, forall_eq_or_imp, or_false, forall_eq, false_implies, implies_true, and_true] at hb)
      | (with_reducible intro (b' : Nat) (cap' : Nat) (rest' : List Value) (hf' : Fresh _ _ b') (hc' : _ ≤ cap') (hr' : rest'.length = _); have hfa := hf'.all; simp only [List.mem_cons, List.not_mem_nil, forall_eq_or_imp, or_false, forall_eq, false_implies, implies_true, and_true] at hfa)
      | simp (maxSteps := 2000000) (disch := first | (simp only [E4, hl, hm, e1, e2, t0, nb2_b1, nb3_b2, nb3_b1] <;> omega) | omega | fail) only [↓E2, E3, bare, bareJ, ↓E0, E1, evP, evPlan, env0, envN, evOps, evOp, evQs, evQ, evV, setD, pureOp, ev, upd, updL, gate, binW, eqOp, binV, intOp, shOp, boolOp, unV, convV, nilV, fieldAddrV, indexAddrV, extractV, cellAt, cellsAt, findB, setB, fillL, buildV, Value.cells, lenV, minV, maxV, hav, sliceV, loV, hiV, bslQ, mksQ, appQ, partsOk, partsCells, delB, eqL, SameI, strOp, apzQ, cvtQ, capV, ↓reduceIte, Zj, Zk, Nat.reduceAdd, Nat.reduceLT, Nat.reduceEqDiff, Nat.reduceMul, Nat.reduceLeDiff, if_true, Zn, reduceCtorEq, ZA, eq_self, Int.reduceLE, Int.reduceLT, Int.reduceToNat, ne_eq, Nat.reduceSub, Tfld87_1, Tld3, Tld30, Tst30, Tzero30, ↓YR, hl, hm, e1, e2, t0, nb2_b1, nb3_b2, nb3_b1, *]
  all_goals
    repeat refine And.intro (by omega) ?_
    intro g
    simp only [List.map_cons, List.map_nil, updL, upd, Nat.reduceEqDiff, if_true, if_false, ↓reduceIte]
    first
    | exact J g _ _ _ (.refl _)
    | exact J g _ _ _ (.swap ..)



end Go.Proofs

/-
  What the functions of this part hand back: each as a plain function of its arguments. Conditions: none.
-/
namespace Go.Proofs
open Go.W8
set_option linter.unusedVariables false
set_option linter.unusedSimpArgs false
set_option linter.unusedSectionVars false
set_option maxRecDepth 8000
set_option maxHeartbeats 4000000
theorem and1_i64 : ∀ k : Nat, k < 8 → IntKind.wrap .i64 ((BitVec.ofInt (IntKind.i64.bits) (k : Int) &&& BitVec.ofInt (IntKind.i64.bits) 1).toNat : Int) = ((k % 2 : Nat) : Int) := by decide +kernel
theorem shr_and1_i64 : ∀ k : Nat, k < 8 → IntKind.wrap .i64 ((BitVec.ofInt (IntKind.i64.bits) (Int.fdiv (k : Int) (2 ^ (min 1 (IntKind.i64.bits)))) &&& BitVec.ofInt (IntKind.i64.bits) 1).toNat : Int) = ((k / 2 % 2 : Nat) : Int) := by decide +kernel
theorem shr2_i64 : ∀ k : Nat, k < 8 → Int.fdiv (k : Int) (2 ^ (min 2 (IntKind.i64.bits))) = ((k / 4 : Nat) : Int) := by decide +kernel
def colS (i k : Nat) : Nat := if i < k then k - 1 else k

theorem tab_bytes {f : Nat → Int} (h : ∀ q, q < 8 → 0 ≤ f q ∧ f q < 256) : Bytes8 (tab f) := by
  refine ⟨tab_len f, fun a ha => ?_, fun a ha => ?_⟩
  · obtain ⟨q, hq, rfl⟩ := List.mem_map.1 ha
    exact (h q (List.mem_range.1 hq)).1
  · obtain ⟨q, hq, rfl⟩ := List.mem_map.1 ha
    exact (h q (List.mem_range.1 hq)).2
theorem old_bytes {x : List Int} (hx : Bytes8 x) {n i k : Nat} {r : Int} (hn : n ≤ 8) (hr0 : 0 ≤ r) (hi : i + 1 < n) : Bytes8 (oldX x i r n k) := by
  refine tab_bytes fun q hq => ?_
  have a := fun c (h : c < 8) => bytes_get hx h
  have hrt : k / 2 % 2 ≤ 1 := by omega
  unfold shrK lowF
  split
  · split
    · have := a q (by omega)
      split <;> omega
    · omega
  · split
    · split
      · have := a (i + k / 2 % 2) (by omega)
        split <;> omega
      · omega
    · split
      · have := a (q + 1) (by omega)
        split <;> omega
      · omega
def shrR (n : Nat) (x o : List Int) (i : Nat) (r : Int) : Value :=
  match bkFind x o i r with
  | some k => .tuple #[.agg (gc ((n - 1 : Nat) : Int) (oldX x i r n k) (oldX o i r n k)).toArray, .agg #[.int .i64 (i : Int), .int .i64 ((k % 2 : Nat) : Int), .int .i64 ((k / 2 % 2 : Nat) : Int), .int .i64 ((k / 4 : Nat) : Int)], .bool true]
  | none => .tuple #[.agg (gc 0 z8 z8).toArray, .agg #[.int .i64 0, .int .i64 0, .int .i64 0, .int .i64 0], .bool false]

section
variable (n : Nat) (x o : List Int) (hx : Bytes8 x) (ho : Bytes8 o) (hn : n ≤ 8) (px : IsPerm x n) (po : IsPerm o n) (hd : ∀ c, c < n → x.getD c 0 ≠ o.getD c 0) (i : Nat) (hi : i + 1 < n) (r : Int) (hr0 : 0 ≤ r) (hr : r + 1 < n)
include hx ho hn px po hd hi hr0 hr
theorem shrunk_c : Gives Try.prog 94 #[.agg (gc (n : Int) x o).toArray, .int .i64 (i : Int), .int .i64 r] (shrR n x o i r) := by
  have hl := hx.len
  have hm := ho.len
  have en : (n : Int) - 1 = ((n - 1 : Nat) : Int) := by omega
  have xl : ∀ k, (oldX x i r n k).length = 8 := fun k => tab_len _
  have ol : ∀ k, (oldX o i r n k).length = 8 := fun k => tab_len _
  have h0 : ∀ c, c < n → 0 ≤ x.getD c 0 := fun c hc => (bytes_get hx (by omega)).1
  have h0' : ∀ c, c < n → 0 ≤ o.getD c 0 := fun c hc => (bytes_get ho (by omega)).1
  skip
  refine Gives.of fun w => ?_
  refine acall_of (N := 117) (c := _) (rs := [.cell 6 32, .cell 7 87, .tmp 8]) (args := [_, _, _]) Try.func94 rfl (by decide) rfl rfl (Nat.le_of_ble_eq_true rfl) ?_
  refine Cd.rs [1, 2, 3, 6, 7] fun K hK => ?_
  simp (maxSteps := 2000000) (disch := first | (simp only [E4, hl, hm, en, xl, ol] <;> omega) | omega | fail) only [↓E2, E3, bare, bareJ, ↓E0, E1, evP, evPlan, env0, envN, evOps, evOp, evQs, evQ, evV, setD, pureOp, ev, upd, updL, gate, binW, eqOp, binV, intOp, shOp, boolOp, unV, convV, nilV, fieldAddrV, indexAddrV, extractV, cellAt, cellsAt, findB, setB, fillL, buildV, Value.cells, lenV, minV, maxV, hav, sliceV, loV, hiV, bslQ, mksQ, appQ, partsOk, partsCells, delB, eqL, SameI, strOp, apzQ, cvtQ, capV, ↓reduceIte, Zj, Zk, Nat.reduceAdd, Nat.reduceLT, Nat.reduceEqDiff, Nat.reduceMul, Nat.reduceLeDiff, if_true, Zn, reduceCtorEq, ZA, eq_self, Int.reduceLE, Int.reduceLT, Int.reduceToNat, ne_eq, Nat.reduceSub, Tzero32, Tzero87, hl, hm, en, xl, ol]
  repeat refine And.intro (by omega) ?_
  intro b1 hb1
  intro b2 hb2
  have nb2_b1 := hb2.ne
  intro b3 hb3
  have nb3_b2 := hb3.ne
  have nb3_b1 := hb3.tail.ne
  try simp (maxSteps := 2000000) (disch := first | (simp only [E4, hl, hm, en, xl, ol, nb2_b1, nb3_b2, nb3_b1] <;> omega) | omega | fail) only [↓E2, E3, bare, bareJ, ↓E0, E1, evP, evPlan, env0, envN, evOps, evOp, evQs, evQ, evV, setD, pureOp, ev, upd, updL, gate, binW, eqOp, binV, intOp, shOp, boolOp, unV, convV, nilV, fieldAddrV, indexAddrV, extractV, cellAt, cellsAt, findB, setB, fillL, buildV, Value.cells, lenV, minV, maxV, hav, sliceV, loV, hiV, bslQ, mksQ, appQ, partsOk, partsCells, delB, eqL, SameI, strOp, apzQ, cvtQ, capV, ↓reduceIte, Zj, Zk, Nat.reduceAdd, Nat.reduceLT, Nat.reduceEqDiff, Nat.reduceMul, Nat.reduceLeDiff, if_true, Zn, reduceCtorEq, ZA, eq_self, Int.reduceLE, Int.reduceLT, Int.reduceToNat, ne_eq, Nat.reduceSub, Tzero32, Tzero87, hl, hm, en, xl, ol, nb2_b1, nb3_b2, nb3_b1]
  repeat refine And.intro (by omega) ?_
  intro g
  simp only [List.map_cons, List.map_nil, updL, upd, Nat.reduceEqDiff, if_true, if_false, ↓reduceIte]
  refine hK _ _ ?_; clear hK K
  refine Cd.seq ?_
  refine Cd.rs [1, 2, 3, 6, 7, 14] fun K hK => ?_
  simp (maxSteps := 2000000) (disch := first | (simp only [E4, hl, hm, en, xl, ol, nb2_b1, nb3_b2, nb3_b1] <;> omega) | omega | fail) only [↓E2, E3, bare, bareJ, ↓E0, E1, evP, evPlan, env0, envN, evOps, evOp, evQs, evQ, evV, setD, pureOp, ev, upd, updL, gate, binW, eqOp, binV, intOp, shOp, boolOp, unV, convV, nilV, fieldAddrV, indexAddrV, extractV, cellAt, cellsAt, findB, setB, fillL, buildV, Value.cells, lenV, minV, maxV, hav, sliceV, loV, hiV, bslQ, mksQ, appQ, partsOk, partsCells, delB, eqL, SameI, strOp, apzQ, cvtQ, capV, ↓reduceIte, Zj, Zk, Nat.reduceAdd, Nat.reduceLT, Nat.reduceEqDiff, Nat.reduceMul, Nat.reduceLeDiff, if_true, Zn, reduceCtorEq, ZA, eq_self, Int.reduceLE, Int.reduceLT, Int.reduceToNat, ne_eq, Nat.reduceSub, hl, hm, en, xl, ol, nb2_b1, nb3_b2, nb3_b1]
  repeat refine And.intro (by omega) ?_
  intro g
  simp only [List.map_cons, List.map_nil, updL, upd, Nat.reduceEqDiff, if_true, if_false, ↓reduceIte]
  refine hK _ _ ?_; clear hK K
  refine Cd.block ?_
  refine Cd.loop (fun m ρ M => ∃ g k, k + m = 8 ∧ (∀ j, j < k → bk x o i r j = false) ∧ ρ = updL [(1, .int .i64 (i : Int)), (2, .int .i64 r), (3, .pointer (some ⟨b1, 0, none⟩)), (6, .pointer (some ⟨b2, 0, none⟩)), (7, .pointer (some ⟨b3, 0, none⟩)), (14, .int .i64 (k : Int))] g ∧
    [(b3, [.int .i64 0, .int .i64 0, .int .i64 0, .int .i64 0]), (b2, gc 0 z8 z8), (b1, gc (n : Int) x o)].Sublist M) 8 ⟨_, 0, Nat.zero_add _, (fun _ h => absurd h (Nat.not_lt_zero _)), rfl, List.Sublist.refl _⟩ ?_
  rintro m ρ M ⟨g, k, hk, hno, rfl, hM⟩
  refine Cd.drop hM ?_
  clear hM M
  refine Cd.rs [1, 2, 3, 6, 7, 14, 15] fun K hK => ?_
  simp (maxSteps := 2000000) (disch := first | (simp only [E4, hl, hm, en, xl, ol, nb2_b1, nb3_b2, nb3_b1] <;> omega) | omega | fail) only [↓E2, E3, bare, bareJ, ↓E0, E1, evP, evPlan, env0, envN, evOps, evOp, evQs, evQ, evV, setD, pureOp, ev, upd, updL, gate, binW, eqOp, binV, intOp, shOp, boolOp, unV, convV, nilV, fieldAddrV, indexAddrV, extractV, cellAt, cellsAt, findB, setB, fillL, buildV, Value.cells, lenV, minV, maxV, hav, sliceV, loV, hiV, bslQ, mksQ, appQ, partsOk, partsCells, delB, eqL, SameI, strOp, apzQ, cvtQ, capV, ↓reduceIte, Zj, Zk, Nat.reduceAdd, Nat.reduceLT, Nat.reduceEqDiff, Nat.reduceMul, Nat.reduceLeDiff, if_true, Zn, reduceCtorEq, ZA, eq_self, Int.reduceLE, Int.reduceLT, Int.reduceToNat, ne_eq, Nat.reduceSub, hl, hm, en, xl, ol, nb2_b1, nb3_b2, nb3_b1]
  repeat refine And.intro (by omega) ?_
  intro g
  simp only [List.map_cons, List.map_nil, updL, upd, Nat.reduceEqDiff, if_true, if_false, ↓reduceIte]
  refine hK _ _ ?_; clear hK K
  refine Cd.seq ?_
  refine Cd.condd rfl (fun h1 => ?_) (fun h1 => ?_)
  · have a1 := and1_i64 k (by omega)
    have a2 := shr_and1_i64 k (by omega)
    have a3 := shr2_i64 k (by omega)
    skip
    refine Cd.skip ?_
    refine thenN ?_
    refine Cd.seq ?_
    refine Cd.block ?_
    refine Cd.rs [1, 2, 3, 6, 7, 9, 14] fun K hK => ?_
    simp (maxSteps := 2000000) (disch := first | (simp only [E4, hl, hm, en, xl, ol, nb2_b1, nb3_b2, nb3_b1, a1, a2, a3] <;> omega) | omega | fail) only [↓E2, E3, bare, bareJ, ↓E0, E1, evP, evPlan, env0, envN, evOps, evOp, evQs, evQ, evV, setD, pureOp, ev, upd, updL, gate, binW, eqOp, binV, intOp, shOp, boolOp, unV, convV, nilV, fieldAddrV, indexAddrV, extractV, cellAt, cellsAt, findB, setB, fillL, buildV, Value.cells, lenV, minV, maxV, hav, sliceV, loV, hiV, bslQ, mksQ, appQ, partsOk, partsCells, delB, eqL, SameI, strOp, apzQ, cvtQ, capV, ↓reduceIte, Zj, Zk, Nat.reduceAdd, Nat.reduceLT, Nat.reduceEqDiff, Nat.reduceMul, Nat.reduceLeDiff, if_true, Zn, reduceCtorEq, ZA, eq_self, Int.reduceLE, Int.reduceLT, Int.reduceToNat, ne_eq, Nat.reduceSub, hl, hm, en, xl, ol, nb2_b1, nb3_b2, nb3_b1, a1, a2, a3]
    repeat refine And.intro (by omega) ?_
    intro g
    simp only [List.map_cons, List.map_nil, updL, upd, Nat.reduceEqDiff, if_true, if_false, ↓reduceIte]
    refine hK _ _ ?_; clear hK K
    refine Cd.rs [1, 2, 3, 6, 7, 10, 14] fun K hK => ?_
    simp (maxSteps := 2000000) (disch := first | (simp only [E4, hl, hm, en, xl, ol, nb2_b1, nb3_b2, nb3_b1, a1, a2, a3] <;> omega) | omega | fail) only [↓E2, E3, bare, bareJ, ↓E0, E1, evP, evPlan, env0, envN, evOps, evOp, evQs, evQ, evV, setD, pureOp, ev, upd, updL, gate, binW, eqOp, binV, intOp, shOp, boolOp, unV, convV, nilV, fieldAddrV, indexAddrV, extractV, cellAt, cellsAt, findB, setB, fillL, buildV, Value.cells, lenV, minV, maxV, hav, sliceV, loV, hiV, bslQ, mksQ, appQ, partsOk, partsCells, delB, eqL, SameI, strOp, apzQ, cvtQ, capV, ↓reduceIte, Zj, Zk, Nat.reduceAdd, Nat.reduceLT, Nat.reduceEqDiff, Nat.reduceMul, Nat.reduceLeDiff, if_true, Zn, reduceCtorEq, ZA, eq_self, Int.reduceLE, Int.reduceLT, Int.reduceToNat, ne_eq, Nat.reduceSub, Tbld87, Tst87, Tzero87, hl, hm, en, xl, ol, nb2_b1, nb3_b2, nb3_b1, a1, a2, a3]
    repeat refine And.intro (by omega) ?_
    intro b4 hb4
    have nb4_b3 := hb4.ne
    have nb4_b2 := hb4.tail.ne
    have nb4_b1 := hb4.tail.tail.ne
    try simp (maxSteps := 2000000) (disch := first | (simp only [E4, hl, hm, en, xl, ol, nb2_b1, nb3_b2, nb3_b1, a1, a2, a3, nb4_b3, nb4_b2, nb4_b1] <;> omega) | omega | fail) only [↓E2, E3, bare, bareJ, ↓E0, E1, evP, evPlan, env0, envN, evOps, evOp, evQs, evQ, evV, setD, pureOp, ev, upd, updL, gate, binW, eqOp, binV, intOp, shOp, boolOp, unV, convV, nilV, fieldAddrV, indexAddrV, extractV, cellAt, cellsAt, findB, setB, fillL, buildV, Value.cells, lenV, minV, maxV, hav, sliceV, loV, hiV, bslQ, mksQ, appQ, partsOk, partsCells, delB, eqL, SameI, strOp, apzQ, cvtQ, capV, ↓reduceIte, Zj, Zk, Nat.reduceAdd, Nat.reduceLT, Nat.reduceEqDiff, Nat.reduceMul, Nat.reduceLeDiff, if_true, Zn, reduceCtorEq, ZA, eq_self, Int.reduceLE, Int.reduceLT, Int.reduceToNat, ne_eq, Nat.reduceSub, Tbld87, Tst87, Tzero87, hl, hm, en, xl, ol, nb2_b1, nb3_b2, nb3_b1, a1, a2, a3, nb4_b3, nb4_b2, nb4_b1]
    repeat refine And.intro (by omega) ?_
    intro g
    simp only [List.map_cons, List.map_nil, updL, upd, Nat.reduceEqDiff, if_true, if_false, ↓reduceIte]
    refine hK _ _ ?_; clear hK K
    refine Cd.rs [1, 2, 3, 6, 7, 10, 11, 14] fun K hK => ?_
    simp (maxSteps := 2000000) (disch := first | (simp only [E4, hl, hm, en, xl, ol, nb2_b1, nb3_b2, nb3_b1, a1, a2, a3, nb4_b3, nb4_b2, nb4_b1] <;> omega) | omega | fail) only [↓E2, E3, bare, bareJ, ↓E0, E1, evP, evPlan, env0, envN, evOps, evOp, evQs, evQ, evV, setD, pureOp, ev, upd, updL, gate, binW, eqOp, binV, intOp, shOp, boolOp, unV, convV, nilV, fieldAddrV, indexAddrV, extractV, cellAt, cellsAt, findB, setB, fillL, buildV, Value.cells, lenV, minV, maxV, hav, sliceV, loV, hiV, bslQ, mksQ, appQ, partsOk, partsCells, delB, eqL, SameI, strOp, apzQ, cvtQ, capV, ↓reduceIte, Zj, Zk, Nat.reduceAdd, Nat.reduceLT, Nat.reduceEqDiff, Nat.reduceMul, Nat.reduceLeDiff, if_true, Zn, reduceCtorEq, ZA, eq_self, Int.reduceLE, Int.reduceLT, Int.reduceToNat, ne_eq, Nat.reduceSub, Tbld32, Tfld32_0, Tld2, Tst32, Tzero32, hl, hm, en, xl, ol, nb2_b1, nb3_b2, nb3_b1, a1, a2, a3, nb4_b3, nb4_b2, nb4_b1]
    repeat refine And.intro (by omega) ?_
    intro b5 hb5
    have nb5_b4 := hb5.ne
    have nb5_b3 := hb5.tail.ne
    have nb5_b2 := hb5.tail.tail.ne
    have nb5_b1 := hb5.tail.tail.tail.ne
    try simp (maxSteps := 2000000) (disch := first | (simp only [E4, hl, hm, en, xl, ol, nb2_b1, nb3_b2, nb3_b1, a1, a2, a3, nb4_b3, nb4_b2, nb4_b1, nb5_b4, nb5_b3, nb5_b2, nb5_b1] <;> omega) | omega | fail) only [↓E2, E3, bare, bareJ, ↓E0, E1, evP, evPlan, env0, envN, evOps, evOp, evQs, evQ, evV, setD, pureOp, ev, upd, updL, gate, binW, eqOp, binV, intOp, shOp, boolOp, unV, convV, nilV, fieldAddrV, indexAddrV, extractV, cellAt, cellsAt, findB, setB, fillL, buildV, Value.cells, lenV, minV, maxV, hav, sliceV, loV, hiV, bslQ, mksQ, appQ, partsOk, partsCells, delB, eqL, SameI, strOp, apzQ, cvtQ, capV, ↓reduceIte, Zj, Zk, Nat.reduceAdd, Nat.reduceLT, Nat.reduceEqDiff, Nat.reduceMul, Nat.reduceLeDiff, if_true, Zn, reduceCtorEq, ZA, eq_self, Int.reduceLE, Int.reduceLT, Int.reduceToNat, ne_eq, Nat.reduceSub, Tbld32, Tfld32_0, Tld2, Tst32, Tzero32, hl, hm, en, xl, ol, nb2_b1, nb3_b2, nb3_b1, a1, a2, a3, nb4_b3, nb4_b2, nb4_b1, nb5_b4, nb5_b3, nb5_b2, nb5_b1]
    repeat refine And.intro (by omega) ?_
    intro g
    simp only [List.map_cons, List.map_nil, updL, upd, Nat.reduceEqDiff, if_true, if_false, ↓reduceIte]
    refine hK _ _ ?_; clear hK K
    refine Cd.seq ?_
    refine Cd.rs [1, 2, 3, 6, 7, 10, 11, 14, 31, 32] fun K hK => ?_
    simp (maxSteps := 2000000) (disch := first | (simp only [E4, hl, hm, en, xl, ol, nb2_b1, nb3_b2, nb3_b1, a1, a2, a3, nb4_b3, nb4_b2, nb4_b1, nb5_b4, nb5_b3, nb5_b2, nb5_b1] <;> omega) | omega | fail) only [↓E2, E3, bare, bareJ, ↓E0, E1, evP, evPlan, env0, envN, evOps, evOp, evQs, evQ, evV, setD, pureOp, ev, upd, updL, gate, binW, eqOp, binV, intOp, shOp, boolOp, unV, convV, nilV, fieldAddrV, indexAddrV, extractV, cellAt, cellsAt, findB, setB, fillL, buildV, Value.cells, lenV, minV, maxV, hav, sliceV, loV, hiV, bslQ, mksQ, appQ, partsOk, partsCells, delB, eqL, SameI, strOp, apzQ, cvtQ, capV, ↓reduceIte, Zj, Zk, Nat.reduceAdd, Nat.reduceLT, Nat.reduceEqDiff, Nat.reduceMul, Nat.reduceLeDiff, if_true, Zn, reduceCtorEq, ZA, eq_self, Int.reduceLE, Int.reduceLT, Int.reduceToNat, ne_eq, Nat.reduceSub, Tld32, hl, hm, en, xl, ol, nb2_b1, nb3_b2, nb3_b1, a1, a2, a3, nb4_b3, nb4_b2, nb4_b1, nb5_b4, nb5_b3, nb5_b2, nb5_b1]
    refine callK_gives (n_c _ _ _ hl hm) ?_
    simp (maxSteps := 2000000) (disch := first | (simp only [E4, hl, hm, en, xl, ol, nb2_b1, nb3_b2, nb3_b1, a1, a2, a3, nb4_b3, nb4_b2, nb4_b1, nb5_b4, nb5_b3, nb5_b2, nb5_b1] <;> omega) | omega | fail) only [↓E2, E3, bare, bareJ, ↓E0, E1, evP, evPlan, env0, envN, evOps, evOp, evQs, evQ, evV, setD, pureOp, ev, upd, updL, gate, binW, eqOp, binV, intOp, shOp, boolOp, unV, convV, nilV, fieldAddrV, indexAddrV, extractV, cellAt, cellsAt, findB, setB, fillL, buildV, Value.cells, lenV, minV, maxV, hav, sliceV, loV, hiV, bslQ, mksQ, appQ, partsOk, partsCells, delB, eqL, SameI, strOp, apzQ, cvtQ, capV, ↓reduceIte, Zj, Zk, Nat.reduceAdd, Nat.reduceLT, Nat.reduceEqDiff, Nat.reduceMul, Nat.reduceLeDiff, if_true, Zn, reduceCtorEq, ZA, eq_self, Int.reduceLE, Int.reduceLT, Int.reduceToNat, ne_eq, Nat.reduceSub, Tld32, hl, hm, en, xl, ol, nb2_b1, nb3_b2, nb3_b1, a1, a2, a3, nb4_b3, nb4_b2, nb4_b1, nb5_b4, nb5_b3, nb5_b2, nb5_b1]
    repeat refine And.intro (by omega) ?_
    intro g
    simp only [List.map_cons, List.map_nil, updL, upd, Nat.reduceEqDiff, if_true, if_false, ↓reduceIte]
    refine hK _ _ ?_; clear hK K
    refine Cd.block ?_
    refine Cd.loop (fun m ρ M => ∃ g c, c + m = n ∧ ρ = updL ([(1, .int .i64 (i : Int)), (2, .int .i64 r), (3, .pointer (some ⟨b1, 0, none⟩)), (6, .pointer (some ⟨b2, 0, none⟩)), (7, .pointer (some ⟨b3, 0, none⟩)), (10, .pointer (some ⟨b4, 0, none⟩)), (11, .pointer (some ⟨b5, 0, none⟩)), (14, .int .i64 (k : Int)), (31, .int .i64 (n : Int)), (32, .int .i64 (c : Int))]) g ∧ M = [(b5, gc ((n - 1 : Nat) : Int) (tab (shrK x i (k / 2 % 2) r c)) (tab (shrK o i (k / 2 % 2) r c))), (b4, [.int .i64 (i : Int), .int .i64 ((k % 2 : Nat) : Int), .int .i64 ((k / 2 % 2 : Nat) : Int), .int .i64 ((k / 4 : Nat) : Int)]), (b3, [.int .i64 0, .int .i64 0, .int .i64 0, .int .i64 0]), (b2, gc 0 z8 z8), (b1, gc (n : Int) x o)]) n ⟨_, 0, Nat.zero_add _, rfl, by rw [shrK_zero, shrK_zero]⟩ ?_
    rintro m' ρ M ⟨g, c, hc, rfl, rfl⟩
    refine Cd.rs [1, 2, 3, 6, 7, 10, 11, 14, 31, 32, 33] fun K hK => ?_
    simp (maxSteps := 2000000) (disch := first | (simp only [E4, hl, hm, en, xl, ol, nb2_b1, nb3_b2, nb3_b1, a1, a2, a3, nb4_b3, nb4_b2, nb4_b1, nb5_b4, nb5_b3, nb5_b2, nb5_b1] <;> omega) | omega | fail) only [↓E2, E3, bare, bareJ, ↓E0, E1, evP, evPlan, env0, envN, evOps, evOp, evQs, evQ, evV, setD, pureOp, ev, upd, updL, gate, binW, eqOp, binV, intOp, shOp, boolOp, unV, convV, nilV, fieldAddrV, indexAddrV, extractV, cellAt, cellsAt, findB, setB, fillL, buildV, Value.cells, lenV, minV, maxV, hav, sliceV, loV, hiV, bslQ, mksQ, appQ, partsOk, partsCells, delB, eqL, SameI, strOp, apzQ, cvtQ, capV, ↓reduceIte, Zj, Zk, Nat.reduceAdd, Nat.reduceLT, Nat.reduceEqDiff, Nat.reduceMul, Nat.reduceLeDiff, if_true, Zn, reduceCtorEq, ZA, eq_self, Int.reduceLE, Int.reduceLT, Int.reduceToNat, ne_eq, Nat.reduceSub, hl, hm, en, xl, ol, nb2_b1, nb3_b2, nb3_b1, a1, a2, a3, nb4_b3, nb4_b2, nb4_b1, nb5_b4, nb5_b3, nb5_b2, nb5_b1]
    repeat refine And.intro (by omega) ?_
    intro g
    simp only [List.map_cons, List.map_nil, updL, upd, Nat.reduceEqDiff, if_true, if_false, ↓reduceIte]
    refine hK _ _ ?_; clear hK K
    refine Cd.seq ?_
    refine Cd.condd rfl (fun h2 => ?_) (fun h2 => ?_)
    · have ck := bytes_get hx (i := c) (by omega)
      have dk := bytes_get ho (i := c) (by omega)
      have pk := px.1 c (by omega)
      have qk := po.1 c (by omega)
      have hcs : colS i c ≤ 7 := by unfold colS; split <;> omega
      have s1 := fun v : Int => set_get (l := (tab (shrK x i (k / 2 % 2) r c))) (i := colS i c) (v := v) (by rw [tab_len]; omega)
      have s2 := fun v : Int => set_get (l := (tab (shrK o i (k / 2 % 2) r c))) (i := colS i c) (v := v) (by rw [tab_len]; omega)
      have s3 := fun (l : List Int) (j : Nat) (v w : Int) => set_set (l := l) (i := j) (v := v) (w := w)
      skip
      refine Cd.skip ?_
      refine thenN ?_
      refine Cd.midq (fun ρ M => ∃ g, ρ = updL ([(1, .int .i64 (i : Int)), (2, .int .i64 r), (3, .pointer (some ⟨b1, 0, none⟩)), (6, .pointer (some ⟨b2, 0, none⟩)), (7, .pointer (some ⟨b3, 0, none⟩)), (10, .pointer (some ⟨b4, 0, none⟩)), (11, .pointer (some ⟨b5, 0, none⟩)), (14, .int .i64 (k : Int)), (31, .int .i64 (n : Int)), (32, .int .i64 (c : Int))]) g ∧ M = [(b5, gc ((n - 1 : Nat) : Int) (tab (shrK x i (k / 2 % 2) r (c + 1))) (tab (shrK o i (k / 2 % 2) r (c + 1)))), (b4, [.int .i64 (i : Int), .int .i64 ((k % 2 : Nat) : Int), .int .i64 ((k / 2 % 2 : Nat) : Int), .int .i64 ((k / 4 : Nat) : Int)]), (b3, [.int .i64 0, .int .i64 0, .int .i64 0, .int .i64 0]), (b2, gc 0 z8 z8), (b1, gc (n : Int) x o)]) ?_ ?_
      · refine Cd.block ?_
        refine Cd.rs [1, 2, 3, 6, 7, 10, 11, 12, 14, 31, 32] fun K hK => ?_
        simp (maxSteps := 2000000) (disch := first | (simp only [E4, hl, hm, en, xl, ol, nb2_b1, nb3_b2, nb3_b1, a1, a2, a3, nb4_b3, nb4_b2, nb4_b1, nb5_b4, nb5_b3, nb5_b2, nb5_b1, s1, s2, s3] <;> omega) | omega | fail) only [↓E2, E3, bare, bareJ, ↓E0, E1, evP, evPlan, env0, envN, evOps, evOp, evQs, evQ, evV, setD, pureOp, ev, upd, updL, gate, binW, eqOp, binV, intOp, shOp, boolOp, unV, convV, nilV, fieldAddrV, indexAddrV, extractV, cellAt, cellsAt, findB, setB, fillL, buildV, Value.cells, lenV, minV, maxV, hav, sliceV, loV, hiV, bslQ, mksQ, appQ, partsOk, partsCells, delB, eqL, SameI, strOp, apzQ, cvtQ, capV, ↓reduceIte, Zj, Zk, Nat.reduceAdd, Nat.reduceLT, Nat.reduceEqDiff, Nat.reduceMul, Nat.reduceLeDiff, if_true, Zn, reduceCtorEq, ZA, eq_self, Int.reduceLE, Int.reduceLT, Int.reduceToNat, ne_eq, Nat.reduceSub, hl, hm, en, xl, ol, nb2_b1, nb3_b2, nb3_b1, a1, a2, a3, nb4_b3, nb4_b2, nb4_b1, nb5_b4, nb5_b3, nb5_b2, nb5_b1, s1, s2, s3]
        repeat refine And.intro (by omega) ?_
        intro g
        simp only [List.map_cons, List.map_nil, updL, upd, Nat.reduceEqDiff, if_true, if_false, ↓reduceIte]
        refine hK _ _ ?_; clear hK K
        refine Cd.seq ?_
        refine Cd.rs [1, 2, 3, 6, 7, 10, 11, 12, 14, 31, 32, 41] fun K hK => ?_
        simp (maxSteps := 2000000) (disch := first | (simp only [E4, hl, hm, en, xl, ol, nb2_b1, nb3_b2, nb3_b1, a1, a2, a3, nb4_b3, nb4_b2, nb4_b1, nb5_b4, nb5_b3, nb5_b2, nb5_b1, s1, s2, s3] <;> omega) | omega | fail) only [↓E2, E3, bare, bareJ, ↓E0, E1, evP, evPlan, env0, envN, evOps, evOp, evQs, evQ, evV, setD, pureOp, ev, upd, updL, gate, binW, eqOp, binV, intOp, shOp, boolOp, unV, convV, nilV, fieldAddrV, indexAddrV, extractV, cellAt, cellsAt, findB, setB, fillL, buildV, Value.cells, lenV, minV, maxV, hav, sliceV, loV, hiV, bslQ, mksQ, appQ, partsOk, partsCells, delB, eqL, SameI, strOp, apzQ, cvtQ, capV, ↓reduceIte, Zj, Zk, Nat.reduceAdd, Nat.reduceLT, Nat.reduceEqDiff, Nat.reduceMul, Nat.reduceLeDiff, if_true, Zn, reduceCtorEq, ZA, eq_self, Int.reduceLE, Int.reduceLT, Int.reduceToNat, ne_eq, Nat.reduceSub, Tfld87_2, Tld3, hl, hm, en, xl, ol, nb2_b1, nb3_b2, nb3_b1, a1, a2, a3, nb4_b3, nb4_b2, nb4_b1, nb5_b4, nb5_b3, nb5_b2, nb5_b1, s1, s2, s3]
        repeat refine And.intro (by omega) ?_
        intro g
        simp only [List.map_cons, List.map_nil, updL, upd, Nat.reduceEqDiff, if_true, if_false, ↓reduceIte]
        refine hK _ _ ?_; clear hK K
        refine Cd.cond rfl (fun h3 => ?_) (fun h3 => ?_)
        · simp only [decide_eq_true_eq, decide_eq_false_iff_not, beq_iff_eq, beq_eq_false_iff_ne, bne_iff_ne, bne_eq_false_iff_eq, Bool.and_eq_true, Bool.or_eq_true, Bool.or_eq_false_iff, Bool.not_eq_true', Bool.not_eq_false', Bool.and_eq_false_imp, ne_eq, gt_iff_lt, ge_iff_le, Int.not_lt, Int.not_le, Classical.not_not] at h3
          rw [shrK_same (show c = i + 1 - k / 2 % 2 by omega) (by omega), shrK_same (show c = i + 1 - k / 2 % 2 by omega) (by omega)]
          refine Cd.exit (thenX (inBX ?_))
          exact midN ⟨_, (norm_of (by repeat (first | exact trivial | refine And.intro rfl ?_))), rfl⟩
        · simp only [decide_eq_true_eq, decide_eq_false_iff_not, beq_iff_eq, beq_eq_false_iff_ne, bne_iff_ne, bne_eq_false_iff_eq, Bool.and_eq_true, Bool.or_eq_true, Bool.or_eq_false_iff, Bool.not_eq_true', Bool.not_eq_false', Bool.and_eq_false_imp, ne_eq, gt_iff_lt, ge_iff_le, Int.not_lt, Int.not_le, Classical.not_not] at h3
          have h3 : c ≠ i + 1 - k / 2 % 2 := by omega
          refine Cd.skip ?_
          refine thenN ?_
          refine Cd.rs [1, 2, 3, 6, 7, 10, 11, 12, 13, 14, 31, 32] fun K hK => ?_
          simp (maxSteps := 2000000) (disch := first | (simp only [E4, hl, hm, en, xl, ol, nb2_b1, nb3_b2, nb3_b1, a1, a2, a3, nb4_b3, nb4_b2, nb4_b1, nb5_b4, nb5_b3, nb5_b2, nb5_b1, s1, s2, s3] <;> omega) | omega | fail) only [↓E2, E3, bare, bareJ, ↓E0, E1, evP, evPlan, env0, envN, evOps, evOp, evQs, evQ, evV, setD, pureOp, ev, upd, updL, gate, binW, eqOp, binV, intOp, shOp, boolOp, unV, convV, nilV, fieldAddrV, indexAddrV, extractV, cellAt, cellsAt, findB, setB, fillL, buildV, Value.cells, lenV, minV, maxV, hav, sliceV, loV, hiV, bslQ, mksQ, appQ, partsOk, partsCells, delB, eqL, SameI, strOp, apzQ, cvtQ, capV, ↓reduceIte, Zj, Zk, Nat.reduceAdd, Nat.reduceLT, Nat.reduceEqDiff, Nat.reduceMul, Nat.reduceLeDiff, if_true, Zn, reduceCtorEq, ZA, eq_self, Int.reduceLE, Int.reduceLT, Int.reduceToNat, ne_eq, Nat.reduceSub, hl, hm, en, xl, ol, nb2_b1, nb3_b2, nb3_b1, a1, a2, a3, nb4_b3, nb4_b2, nb4_b1, nb5_b4, nb5_b3, nb5_b2, nb5_b1, s1, s2, s3]
          repeat refine And.intro (by omega) ?_
          intro g
          simp only [List.map_cons, List.map_nil, updL, upd, Nat.reduceEqDiff, if_true, if_false, ↓reduceIte]
          refine hK _ _ ?_; clear hK K
          refine Cd.midq (fun ρ M => ∃ g, ρ = updL ([(1, .int .i64 (i : Int)), (2, .int .i64 r), (3, .pointer (some ⟨b1, 0, none⟩)), (6, .pointer (some ⟨b2, 0, none⟩)), (7, .pointer (some ⟨b3, 0, none⟩)), (10, .pointer (some ⟨b4, 0, none⟩)), (11, .pointer (some ⟨b5, 0, none⟩)), (12, .int .i64 (c : Int)), (13, .int .i64 (colS i c : Int)), (14, .int .i64 (k : Int)), (31, .int .i64 (n : Int)), (32, .int .i64 (c : Int))]) g ∧ M = [(b5, gc ((n - 1 : Nat) : Int) (tab (shrK x i (k / 2 % 2) r c)) (tab (shrK o i (k / 2 % 2) r c))), (b4, [.int .i64 (i : Int), .int .i64 ((k % 2 : Nat) : Int), .int .i64 ((k / 2 % 2 : Nat) : Int), .int .i64 ((k / 4 : Nat) : Int)]), (b3, [.int .i64 0, .int .i64 0, .int .i64 0, .int .i64 0]), (b2, gc 0 z8 z8), (b1, gc (n : Int) x o)]) ?_ ?_
          · refine Cd.rs [1, 2, 3, 6, 7, 10, 11, 12, 13, 14, 31, 32, 45] fun K hK => ?_
            simp (maxSteps := 2000000) (disch := first | (simp only [E4, hl, hm, en, xl, ol, nb2_b1, nb3_b2, nb3_b1, a1, a2, a3, nb4_b3, nb4_b2, nb4_b1, nb5_b4, nb5_b3, nb5_b2, nb5_b1, s1, s2, s3] <;> omega) | omega | fail) only [↓E2, E3, bare, bareJ, ↓E0, E1, evP, evPlan, env0, envN, evOps, evOp, evQs, evQ, evV, setD, pureOp, ev, upd, updL, gate, binW, eqOp, binV, intOp, shOp, boolOp, unV, convV, nilV, fieldAddrV, indexAddrV, extractV, cellAt, cellsAt, findB, setB, fillL, buildV, Value.cells, lenV, minV, maxV, hav, sliceV, loV, hiV, bslQ, mksQ, appQ, partsOk, partsCells, delB, eqL, SameI, strOp, apzQ, cvtQ, capV, ↓reduceIte, Zj, Zk, Nat.reduceAdd, Nat.reduceLT, Nat.reduceEqDiff, Nat.reduceMul, Nat.reduceLeDiff, if_true, Zn, reduceCtorEq, ZA, eq_self, Int.reduceLE, Int.reduceLT, Int.reduceToNat, ne_eq, Nat.reduceSub, hl, hm, en, xl, ol, nb2_b1, nb3_b2, nb3_b1, a1, a2, a3, nb4_b3, nb4_b2, nb4_b1, nb5_b4, nb5_b3, nb5_b2, nb5_b1, s1, s2, s3]
            repeat refine And.intro (by omega) ?_
            intro g
            simp only [List.map_cons, List.map_nil, updL, upd, Nat.reduceEqDiff, if_true, if_false, ↓reduceIte]
            refine hK _ _ ?_; clear hK K
            refine Cd.condd rfl (fun h4 => ?_) (fun h4 => ?_)
            · refine Cd.rr [1, 2, 3, 6, 7, 10, 11, 12, 13, 14, 31, 32] fun K hK => ?_
              simp (maxSteps := 2000000) (disch := first | (simp only [E4, hl, hm, en, xl, ol, nb2_b1, nb3_b2, nb3_b1, a1, a2, a3, nb4_b3, nb4_b2, nb4_b1, nb5_b4, nb5_b3, nb5_b2, nb5_b1, s1, s2, s3] <;> omega) | omega | fail) only [↓E2, E3, bare, bareJ, ↓E0, E1, evP, evPlan, env0, envN, evOps, evOp, evQs, evQ, evV, setD, pureOp, ev, upd, updL, gate, binW, eqOp, binV, intOp, shOp, boolOp, unV, convV, nilV, fieldAddrV, indexAddrV, extractV, cellAt, cellsAt, findB, setB, fillL, buildV, Value.cells, lenV, minV, maxV, hav, sliceV, loV, hiV, bslQ, mksQ, appQ, partsOk, partsCells, delB, eqL, SameI, strOp, apzQ, cvtQ, capV, ↓reduceIte, Zj, Zk, Nat.reduceAdd, Nat.reduceLT, Nat.reduceEqDiff, Nat.reduceMul, Nat.reduceLeDiff, if_true, Zn, reduceCtorEq, ZA, eq_self, Int.reduceLE, Int.reduceLT, Int.reduceToNat, ne_eq, Nat.reduceSub, hl, hm, en, xl, ol, nb2_b1, nb3_b2, nb3_b1, a1, a2, a3, nb4_b3, nb4_b2, nb4_b1, nb5_b4, nb5_b3, nb5_b2, nb5_b1, s1, s2, s3]
              rw [show (c : Int) - 1 = (colS i c : Int) by unfold colS; rw [if_pos (by omega)]; omega]
              repeat refine And.intro (by omega) ?_
              intro g
              simp only [List.map_cons, List.map_nil, updL, upd, Nat.reduceEqDiff, if_true, if_false, ↓reduceIte]
              refine hK _ _ ?_; clear hK K
              exact midN ⟨_, rfl, rfl⟩
            · rw [show colS i c = c by unfold colS; rw [if_neg (by omega)]]
              refine Cd.skip ?_
              exact midN ⟨_, (norm_of (by repeat (first | exact trivial | refine And.intro rfl ?_))), rfl⟩
          · rintro ρ M ⟨g, rfl, rfl⟩
            refine Cd.ps [1, 2, 3, 6, 7, 10, 11, 12, 13, 14, 31, 32] (Plan.take 0 (Plan.take 1 (Plan.take 2 (Plan.take 3 (Plan.take 4 (Plan.take 5 (Plan.take 6 (Plan.take 7 (Plan.take 8 (Plan.take 10 (Plan.take 11 (Plan.take 13 (Plan.more 9 (Plan.one 12 (Plan.take 14 (Plan.one 15 (Plan.done)))) (Plan.one 12 (Plan.take 9 (Plan.take 14 (Plan.one 15 (Plan.done)))))))))))))))))) fol (by kernel_rfl) (Nat.le_of_ble_eq_true rfl) fun K hK => ?_
            simp (maxSteps := 2000000) (disch := first | (simp only [E4, hl, hm, en, xl, ol, nb2_b1, nb3_b2, nb3_b1, a1, a2, a3, nb4_b3, nb4_b2, nb4_b1, nb5_b4, nb5_b3, nb5_b2, nb5_b1, s1, s2, s3] <;> omega) | omega | fail) only [↓E2, E3, bare, bareJ, ↓E0, E1, evP, evPlan, env0, envN, evOps, evOp, evQs, evQ, evV, setD, pureOp, ev, upd, updL, gate, binW, eqOp, binV, intOp, shOp, boolOp, unV, convV, nilV, fieldAddrV, indexAddrV, extractV, cellAt, cellsAt, findB, setB, fillL, buildV, Value.cells, lenV, minV, maxV, hav, sliceV, loV, hiV, bslQ, mksQ, appQ, partsOk, partsCells, delB, eqL, SameI, strOp, apzQ, cvtQ, capV, ↓reduceIte, Zj, Zk, Nat.reduceAdd, Nat.reduceLT, Nat.reduceEqDiff, Nat.reduceMul, Nat.reduceLeDiff, if_true, Zn, reduceCtorEq, ZA, eq_self, Int.reduceLE, Int.reduceLT, Int.reduceToNat, ne_eq, Nat.reduceSub, Tarr30, Tfld32_1, Tfld32_2, Tld5, Tst5, hl, hm, en, xl, ol, nb2_b1, nb3_b2, nb3_b1, a1, a2, a3, nb4_b3, nb4_b2, nb4_b1, nb5_b4, nb5_b3, nb5_b2, nb5_b1, s1, s2, s3]
            repeat refine And.intro (by omega) ?_
            intro g
            simp only [List.map_cons, List.map_nil, updL, upd, Nat.reduceEqDiff, if_true, if_false, ↓reduceIte]
            refine hK _ _ ?_; clear hK K
            refine Cd.midq (fun ρ M => ∃ g, ρ = updL ([(1, .int .i64 (i : Int)), (2, .int .i64 r), (3, .pointer (some ⟨b1, 0, none⟩)), (6, .pointer (some ⟨b2, 0, none⟩)), (7, .pointer (some ⟨b3, 0, none⟩)), (10, .pointer (some ⟨b4, 0, none⟩)), (11, .pointer (some ⟨b5, 0, none⟩)), (12, .int .i64 (c : Int)), (13, .int .i64 (colS i c : Int)), (14, .int .i64 (k : Int)), (31, .int .i64 (n : Int)), (32, .int .i64 (c : Int))]) g ∧ M = [(b5, gc ((n - 1 : Nat) : Int) ((tab (shrK x i (k / 2 % 2) r c)).set (colS i c) (lowF r (x.getD c 0))) ((tab (shrK o i (k / 2 % 2) r c)).set (colS i c) (o.getD c 0))), (b4, [.int .i64 (i : Int), .int .i64 ((k % 2 : Nat) : Int), .int .i64 ((k / 2 % 2 : Nat) : Int), .int .i64 ((k / 4 : Nat) : Int)]), (b3, [.int .i64 0, .int .i64 0, .int .i64 0, .int .i64 0]), (b2, gc 0 z8 z8), (b1, gc (n : Int) x o)]) ?_ ?_
            · refine Cd.rs [1, 2, 3, 6, 7, 10, 11, 12, 13, 14, 31, 32, 68] fun K hK => ?_
              simp (maxSteps := 2000000) (disch := first | (simp only [E4, hl, hm, en, xl, ol, nb2_b1, nb3_b2, nb3_b1, a1, a2, a3, nb4_b3, nb4_b2, nb4_b1, nb5_b4, nb5_b3, nb5_b2, nb5_b1, s1, s2, s3] <;> omega) | omega | fail) only [↓E2, E3, bare, bareJ, ↓E0, E1, evP, evPlan, env0, envN, evOps, evOp, evQs, evQ, evV, setD, pureOp, ev, upd, updL, gate, binW, eqOp, binV, intOp, shOp, boolOp, unV, convV, nilV, fieldAddrV, indexAddrV, extractV, cellAt, cellsAt, findB, setB, fillL, buildV, Value.cells, lenV, minV, maxV, hav, sliceV, loV, hiV, bslQ, mksQ, appQ, partsOk, partsCells, delB, eqL, SameI, strOp, apzQ, cvtQ, capV, ↓reduceIte, Zj, Zk, Nat.reduceAdd, Nat.reduceLT, Nat.reduceEqDiff, Nat.reduceMul, Nat.reduceLeDiff, if_true, Zn, reduceCtorEq, ZA, eq_self, Int.reduceLE, Int.reduceLT, Int.reduceToNat, ne_eq, Nat.reduceSub, Tarr30, Tfld32_1, Tint3, Tld5, Tpar5, hl, hm, en, xl, ol, nb2_b1, nb3_b2, nb3_b1, a1, a2, a3, nb4_b3, nb4_b2, nb4_b1, nb5_b4, nb5_b3, nb5_b2, nb5_b1, s1, s2, s3]
              repeat refine And.intro (by omega) ?_
              intro g
              simp only [List.map_cons, List.map_nil, updL, upd, Nat.reduceEqDiff, if_true, if_false, ↓reduceIte]
              refine hK _ _ ?_; clear hK K
              refine Cd.condd rfl (fun h5 => ?_) (fun h5 => ?_)
              · rw [show lowF r (x.getD c 0) = x.getD c 0 - 1 from if_pos h5]
                refine Cd.rr [1, 2, 3, 6, 7, 10, 11, 12, 13, 14, 31, 32] fun K hK => ?_
                simp (maxSteps := 2000000) (disch := first | (simp only [E4, hl, hm, en, xl, ol, nb2_b1, nb3_b2, nb3_b1, a1, a2, a3, nb4_b3, nb4_b2, nb4_b1, nb5_b4, nb5_b3, nb5_b2, nb5_b1, s1, s2, s3] <;> omega) | omega | fail) only [↓E2, E3, bare, bareJ, ↓E0, E1, evP, evPlan, env0, envN, evOps, evOp, evQs, evQ, evV, setD, pureOp, ev, upd, updL, gate, binW, eqOp, binV, intOp, shOp, boolOp, unV, convV, nilV, fieldAddrV, indexAddrV, extractV, cellAt, cellsAt, findB, setB, fillL, buildV, Value.cells, lenV, minV, maxV, hav, sliceV, loV, hiV, bslQ, mksQ, appQ, partsOk, partsCells, delB, eqL, SameI, strOp, apzQ, cvtQ, capV, ↓reduceIte, Zj, Zk, Nat.reduceAdd, Nat.reduceLT, Nat.reduceEqDiff, Nat.reduceMul, Nat.reduceLeDiff, if_true, Zn, reduceCtorEq, ZA, eq_self, Int.reduceLE, Int.reduceLT, Int.reduceToNat, ne_eq, Nat.reduceSub, Tarr30, Tfld32_1, Tld5, Tst5, hl, hm, en, xl, ol, nb2_b1, nb3_b2, nb3_b1, a1, a2, a3, nb4_b3, nb4_b2, nb4_b1, nb5_b4, nb5_b3, nb5_b2, nb5_b1, s1, s2, s3]
                repeat refine And.intro (by omega) ?_
                intro g
                simp only [List.map_cons, List.map_nil, updL, upd, Nat.reduceEqDiff, if_true, if_false, ↓reduceIte]
                refine hK _ _ ?_; clear hK K
                exact midN ⟨_, rfl, rfl⟩
              · rw [show lowF r (x.getD c 0) = x.getD c 0 from if_neg h5]
                refine Cd.skip ?_
                exact midN ⟨_, (norm_of (by repeat (first | exact trivial | refine And.intro rfl ?_))), rfl⟩
            · rintro ρ M ⟨g, rfl, rfl⟩
              rw [← shrK_set (l := x) h3 (by omega) rfl, ← shrK_set (l := o) h3 (by omega) rfl]
              refine Cd.rs [1, 2, 3, 6, 7, 10, 11, 13, 14, 31, 32, 82] fun K hK => ?_
              simp (maxSteps := 2000000) (disch := first | (simp only [E4, hl, hm, en, xl, ol, nb2_b1, nb3_b2, nb3_b1, a1, a2, a3, nb4_b3, nb4_b2, nb4_b1, nb5_b4, nb5_b3, nb5_b2, nb5_b1, s1, s2, s3] <;> omega) | omega | fail) only [↓E2, E3, bare, bareJ, ↓E0, E1, evP, evPlan, env0, envN, evOps, evOp, evQs, evQ, evV, setD, pureOp, ev, upd, updL, gate, binW, eqOp, binV, intOp, shOp, boolOp, unV, convV, nilV, fieldAddrV, indexAddrV, extractV, cellAt, cellsAt, findB, setB, fillL, buildV, Value.cells, lenV, minV, maxV, hav, sliceV, loV, hiV, bslQ, mksQ, appQ, partsOk, partsCells, delB, eqL, SameI, strOp, apzQ, cvtQ, capV, ↓reduceIte, Zj, Zk, Nat.reduceAdd, Nat.reduceLT, Nat.reduceEqDiff, Nat.reduceMul, Nat.reduceLeDiff, if_true, Zn, reduceCtorEq, ZA, eq_self, Int.reduceLE, Int.reduceLT, Int.reduceToNat, ne_eq, Nat.reduceSub, Tarr30, Tfld32_2, Tint3, Tld5, Tpar5, hl, hm, en, xl, ol, nb2_b1, nb3_b2, nb3_b1, a1, a2, a3, nb4_b3, nb4_b2, nb4_b1, nb5_b4, nb5_b3, nb5_b2, nb5_b1, s1, s2, s3]
              repeat refine And.intro (by omega) ?_
              intro g
              simp only [List.map_cons, List.map_nil, updL, upd, Nat.reduceEqDiff, if_true, if_false, ↓reduceIte]
              refine hK _ _ ?_; clear hK K
              refine Cd.condd rfl (fun h6 => ?_) (fun h6 => ?_)
              · rw [show lowF r (o.getD c 0) = o.getD c 0 - 1 from if_pos h6]
                refine Cd.rr [1, 2, 3, 6, 7, 10, 11, 14, 31, 32] fun K hK => ?_
                simp (maxSteps := 2000000) (disch := first | (simp only [E4, hl, hm, en, xl, ol, nb2_b1, nb3_b2, nb3_b1, a1, a2, a3, nb4_b3, nb4_b2, nb4_b1, nb5_b4, nb5_b3, nb5_b2, nb5_b1, s1, s2, s3] <;> omega) | omega | fail) only [↓E2, E3, bare, bareJ, ↓E0, E1, evP, evPlan, env0, envN, evOps, evOp, evQs, evQ, evV, setD, pureOp, ev, upd, updL, gate, binW, eqOp, binV, intOp, shOp, boolOp, unV, convV, nilV, fieldAddrV, indexAddrV, extractV, cellAt, cellsAt, findB, setB, fillL, buildV, Value.cells, lenV, minV, maxV, hav, sliceV, loV, hiV, bslQ, mksQ, appQ, partsOk, partsCells, delB, eqL, SameI, strOp, apzQ, cvtQ, capV, ↓reduceIte, Zj, Zk, Nat.reduceAdd, Nat.reduceLT, Nat.reduceEqDiff, Nat.reduceMul, Nat.reduceLeDiff, if_true, Zn, reduceCtorEq, ZA, eq_self, Int.reduceLE, Int.reduceLT, Int.reduceToNat, ne_eq, Nat.reduceSub, Tarr30, Tfld32_2, Tld5, Tst5, hl, hm, en, xl, ol, nb2_b1, nb3_b2, nb3_b1, a1, a2, a3, nb4_b3, nb4_b2, nb4_b1, nb5_b4, nb5_b3, nb5_b2, nb5_b1, s1, s2, s3]
                repeat refine And.intro (by omega) ?_
                intro g
                simp only [List.map_cons, List.map_nil, updL, upd, Nat.reduceEqDiff, if_true, if_false, ↓reduceIte]
                refine hK _ _ ?_; clear hK K
                refine inBN ?_
                exact midN ⟨_, rfl, rfl⟩
              · rw [show lowF r (o.getD c 0) = o.getD c 0 from if_neg h6]
                refine Cd.skip ?_
                refine inBN ?_
                exact midN ⟨_, (norm_of (by repeat (first | exact trivial | refine And.intro rfl ?_))), rfl⟩
      · rintro ρ M ⟨g, rfl, rfl⟩
        refine Cd.rr [1, 2, 3, 6, 7, 10, 11, 14, 31, 32] fun K hK => ?_
        simp (maxSteps := 2000000) (disch := first | (simp only [E4, hl, hm, en, xl, ol, nb2_b1, nb3_b2, nb3_b1, a1, a2, a3, nb4_b3, nb4_b2, nb4_b1, nb5_b4, nb5_b3, nb5_b2, nb5_b1, s1, s2, s3] <;> omega) | omega | fail) only [↓E2, E3, bare, bareJ, ↓E0, E1, evP, evPlan, env0, envN, evOps, evOp, evQs, evQ, evV, setD, pureOp, ev, upd, updL, gate, binW, eqOp, binV, intOp, shOp, boolOp, unV, convV, nilV, fieldAddrV, indexAddrV, extractV, cellAt, cellsAt, findB, setB, fillL, buildV, Value.cells, lenV, minV, maxV, hav, sliceV, loV, hiV, bslQ, mksQ, appQ, partsOk, partsCells, delB, eqL, SameI, strOp, apzQ, cvtQ, capV, ↓reduceIte, Zj, Zk, Nat.reduceAdd, Nat.reduceLT, Nat.reduceEqDiff, Nat.reduceMul, Nat.reduceLeDiff, if_true, Zn, reduceCtorEq, ZA, eq_self, Int.reduceLE, Int.reduceLT, Int.reduceToNat, ne_eq, Nat.reduceSub, hl, hm, en, xl, ol, nb2_b1, nb3_b2, nb3_b1, a1, a2, a3, nb4_b3, nb4_b2, nb4_b1, nb5_b4, nb5_b3, nb5_b2, nb5_b1, s1, s2, s3]
        repeat refine And.intro (by omega) ?_
        intro g
        simp only [List.map_cons, List.map_nil, updL, upd, Nat.reduceEqDiff, if_true, if_false, ↓reduceIte]
        refine hK _ _ ?_; clear hK K
        refine roundN (m := m' - 1) (by omega) ⟨_, c + 1, by omega, rfl, rfl⟩
    · refine Cd.exit (thenX (roundX (inBX ?_)))
      refine thenN ?_
      obtain rfl : c = n := by omega
      rw [show tab (shrK x i (k / 2 % 2) r c) = oldX x i r c k from rfl, show tab (shrK o i (k / 2 % 2) r c) = oldX o i r c k from rfl]
      have bx := old_bytes hx hn (i := i) (k := k) hr0 hi
      have bo := old_bytes ho hn (i := i) (k := k) hr0 hi
      have gbx := bytes_get bx (i := i) (by omega)
      have gbo := bytes_get bo (i := i) (by omega)
      rcases Nat.mod_two_eq_zero_or_one k with h4 | h4
      · have hB := bk_even hl hm hn px po h0 h0' hd hi hr0 hr (k := k) (by omega) h4
        have hmk : ((k % 2 : Nat) : Int) = 0 := by omega
        have tl := fun f : Nat → Int => tab_len f
        skip
        rw [hmk]
        refine Cd.qs [1, 2, 3, 6, 7, 10, 11, 14, 111] fol (by kernel_rfl) fun K hK => ?_
        simp (maxSteps := 2000000) (disch := first | (simp only [E4, hl, hm, en, xl, ol, nb2_b1, nb3_b2, nb3_b1, a1, a2, a3, nb4_b3, nb4_b2, nb4_b1, nb5_b4, nb5_b3, nb5_b2, nb5_b1, tl] <;> omega) | omega | fail) only [↓E2, E3, bare, bareJ, ↓E0, E1, evP, evPlan, env0, envN, evOps, evOp, evQs, evQ, evV, setD, pureOp, ev, upd, updL, gate, binW, eqOp, binV, intOp, shOp, boolOp, unV, convV, nilV, fieldAddrV, indexAddrV, extractV, cellAt, cellsAt, findB, setB, fillL, buildV, Value.cells, lenV, minV, maxV, hav, sliceV, loV, hiV, bslQ, mksQ, appQ, partsOk, partsCells, delB, eqL, SameI, strOp, apzQ, cvtQ, capV, ↓reduceIte, Zj, Zk, Nat.reduceAdd, Nat.reduceLT, Nat.reduceEqDiff, Nat.reduceMul, Nat.reduceLeDiff, if_true, Zn, reduceCtorEq, ZA, eq_self, Int.reduceLE, Int.reduceLT, Int.reduceToNat, ne_eq, Nat.reduceSub, Tarr30, Teqt32, Tfld87_1, Tint3, Tld3, Tld32, Tld5, Tld87, Tpar5, hl, hm, en, xl, ol, nb2_b1, nb3_b2, nb3_b1, a1, a2, a3, nb4_b3, nb4_b2, nb4_b1, nb5_b4, nb5_b3, nb5_b2, nb5_b1, tl]
        refine callQ_gives (IsGrid_c _ _ _ bx bo) ?_
        simp (maxSteps := 2000000) (disch := first | (simp only [E4, hl, hm, en, xl, ol, nb2_b1, nb3_b2, nb3_b1, a1, a2, a3, nb4_b3, nb4_b2, nb4_b1, nb5_b4, nb5_b3, nb5_b2, nb5_b1, tl] <;> omega) | omega | fail) only [↓E2, E3, bare, bareJ, ↓E0, E1, evP, evPlan, env0, envN, evOps, evOp, evQs, evQ, evV, setD, pureOp, ev, upd, updL, gate, binW, eqOp, binV, intOp, shOp, boolOp, unV, convV, nilV, fieldAddrV, indexAddrV, extractV, cellAt, cellsAt, findB, setB, fillL, buildV, Value.cells, lenV, minV, maxV, hav, sliceV, loV, hiV, bslQ, mksQ, appQ, partsOk, partsCells, delB, eqL, SameI, strOp, apzQ, cvtQ, capV, ↓reduceIte, Zj, Zk, Nat.reduceAdd, Nat.reduceLT, Nat.reduceEqDiff, Nat.reduceMul, Nat.reduceLeDiff, if_true, Zn, reduceCtorEq, ZA, eq_self, Int.reduceLE, Int.reduceLT, Int.reduceToNat, ne_eq, Nat.reduceSub, Tarr30, Teqt32, Tfld87_1, Tint3, Tld3, Tld32, Tld5, Tld87, Tpar5, hl, hm, en, xl, ol, nb2_b1, nb3_b2, nb3_b1, a1, a2, a3, nb4_b3, nb4_b2, nb4_b1, nb5_b4, nb5_b3, nb5_b2, nb5_b1, tl]
        apply guardY_and 10 [94, 95, 96, 97, 98, 99, 100, 101, 102, 103] (j := 2) (d := 93) (tp := 104) (tl := 103) rfl rfl rfl rfl rfl
        · intro hq
          simp (maxSteps := 2000000) (disch := first | (simp only [E4, hl, hm, en, xl, ol, nb2_b1, nb3_b2, nb3_b1, a1, a2, a3, nb4_b3, nb4_b2, nb4_b1, nb5_b4, nb5_b3, nb5_b2, nb5_b1, tl] <;> omega) | omega | fail) only [↓E2, E3, bare, bareJ, ↓E0, E1, evP, evPlan, env0, envN, evOps, evOp, evQs, evQ, evV, setD, pureOp, ev, upd, updL, gate, binW, eqOp, binV, intOp, shOp, boolOp, unV, convV, nilV, fieldAddrV, indexAddrV, extractV, cellAt, cellsAt, findB, setB, fillL, buildV, Value.cells, lenV, minV, maxV, hav, sliceV, loV, hiV, bslQ, mksQ, appQ, partsOk, partsCells, delB, eqL, SameI, strOp, apzQ, cvtQ, capV, ↓reduceIte, Zj, Zk, Nat.reduceAdd, Nat.reduceLT, Nat.reduceEqDiff, Nat.reduceMul, Nat.reduceLeDiff, if_true, Zn, reduceCtorEq, ZA, eq_self, Int.reduceLE, Int.reduceLT, Int.reduceToNat, ne_eq, Nat.reduceSub, Tarr30, Teqt32, Tfld87_1, Tint3, Tld3, Tld32, Tld5, Tld87, Tpar5, hl, hm, en, xl, ol, nb2_b1, nb3_b2, nb3_b1, a1, a2, a3, nb4_b3, nb4_b2, nb4_b1, nb5_b4, nb5_b3, nb5_b2, nb5_b1, tl]
          refine callQ_gives (rows0_c _ _) ?_
          simp (maxSteps := 2000000) (disch := first | (simp only [E4, hl, hm, en, xl, ol, nb2_b1, nb3_b2, nb3_b1, a1, a2, a3, nb4_b3, nb4_b2, nb4_b1, nb5_b4, nb5_b3, nb5_b2, nb5_b1, tl] <;> omega) | omega | fail) only [↓E2, E3, bare, bareJ, ↓E0, E1, evP, evPlan, env0, envN, evOps, evOp, evQs, evQ, evV, setD, pureOp, ev, upd, updL, gate, binW, eqOp, binV, intOp, shOp, boolOp, unV, convV, nilV, fieldAddrV, indexAddrV, extractV, cellAt, cellsAt, findB, setB, fillL, buildV, Value.cells, lenV, minV, maxV, hav, sliceV, loV, hiV, bslQ, mksQ, appQ, partsOk, partsCells, delB, eqL, SameI, strOp, apzQ, cvtQ, capV, ↓reduceIte, Zj, Zk, Nat.reduceAdd, Nat.reduceLT, Nat.reduceEqDiff, Nat.reduceMul, Nat.reduceLeDiff, if_true, Zn, reduceCtorEq, ZA, eq_self, Int.reduceLE, Int.reduceLT, Int.reduceToNat, ne_eq, Nat.reduceSub, Tarr30, Teqt32, Tfld87_1, Tint3, Tld3, Tld32, Tld5, Tld87, Tpar5, hl, hm, en, xl, ol, nb2_b1, nb3_b2, nb3_b1, a1, a2, a3, nb4_b3, nb4_b2, nb4_b1, nb5_b4, nb5_b3, nb5_b2, nb5_b1, tl]
          repeat refine And.intro (by omega) ?_
          exact rfl
        intro g
        simp (maxSteps := 2000000) (disch := first | (simp only [E4, hl, hm, en, xl, ol, nb2_b1, nb3_b2, nb3_b1, a1, a2, a3, nb4_b3, nb4_b2, nb4_b1, nb5_b4, nb5_b3, nb5_b2, nb5_b1, tl] <;> omega) | omega | fail) only [↓E2, E3, bare, bareJ, ↓E0, E1, evP, evPlan, env0, envN, evOps, evOp, evQs, evQ, evV, setD, pureOp, ev, upd, updL, gate, binW, eqOp, binV, intOp, shOp, boolOp, unV, convV, nilV, fieldAddrV, indexAddrV, extractV, cellAt, cellsAt, findB, setB, fillL, buildV, Value.cells, lenV, minV, maxV, hav, sliceV, loV, hiV, bslQ, mksQ, appQ, partsOk, partsCells, delB, eqL, SameI, strOp, apzQ, cvtQ, capV, ↓reduceIte, Zj, Zk, Nat.reduceAdd, Nat.reduceLT, Nat.reduceEqDiff, Nat.reduceMul, Nat.reduceLeDiff, if_true, Zn, reduceCtorEq, ZA, eq_self, Int.reduceLE, Int.reduceLT, Int.reduceToNat, ne_eq, Nat.reduceSub, Tarr30, Teqt32, Tfld87_1, Tint3, Tld3, Tld32, Tld5, Tld87, Tpar5, hl, hm, en, xl, ol, nb2_b1, nb3_b2, nb3_b1, a1, a2, a3, nb4_b3, nb4_b2, nb4_b1, nb5_b4, nb5_b3, nb5_b2, nb5_b1, tl]
        apply guardY_and 5 [106, 107, 108, 109, 110] (j := 14) (d := 105) (tp := 111) (tl := 110) rfl rfl rfl rfl rfl
        · intro hq
          have hg : gridB ((c - 1 : Nat) : Int) (oldX x i r c k) (oldX o i r c k) = true := by
            simp only [decide_eq_true_eq, decide_eq_false_iff_not, beq_iff_eq, beq_eq_false_iff_ne, bne_iff_ne, bne_eq_false_iff_eq, Bool.and_eq_true, Bool.or_eq_true, Bool.or_eq_false_iff, Bool.not_eq_true', Bool.not_eq_false', Bool.and_eq_false_imp, ne_eq, gt_iff_lt, ge_iff_le, Int.not_lt, Int.not_le, Classical.not_not] at hq
            exact hq.1
          obtain ⟨n', hn1, hn2, hn3, px', po'⟩ := gridB_perm hg
          obtain rfl : n' = c - 1 := by omega
          simp (maxSteps := 2000000) (disch := first | (simp only [E4, hl, hm, en, xl, ol, nb2_b1, nb3_b2, nb3_b1, a1, a2, a3, nb4_b3, nb4_b2, nb4_b1, nb5_b4, nb5_b3, nb5_b2, nb5_b1, tl] <;> omega) | omega | fail) only [↓E2, E3, bare, bareJ, ↓E0, E1, evP, evPlan, env0, envN, evOps, evOp, evQs, evQ, evV, setD, pureOp, ev, upd, updL, gate, binW, eqOp, binV, intOp, shOp, boolOp, unV, convV, nilV, fieldAddrV, indexAddrV, extractV, cellAt, cellsAt, findB, setB, fillL, buildV, Value.cells, lenV, minV, maxV, hav, sliceV, loV, hiV, bslQ, mksQ, appQ, partsOk, partsCells, delB, eqL, SameI, strOp, apzQ, cvtQ, capV, ↓reduceIte, Zj, Zk, Nat.reduceAdd, Nat.reduceLT, Nat.reduceEqDiff, Nat.reduceMul, Nat.reduceLeDiff, if_true, Zn, reduceCtorEq, ZA, eq_self, Int.reduceLE, Int.reduceLT, Int.reduceToNat, ne_eq, Nat.reduceSub, Tarr30, Teqt32, Tfld87_1, Tint3, Tld3, Tld32, Tld5, Tld87, Tpar5, hl, hm, en, xl, ol, nb2_b1, nb3_b2, nb3_b1, a1, a2, a3, nb4_b3, nb4_b2, nb4_b1, nb5_b4, nb5_b3, nb5_b2, nb5_b1, tl]
          refine callQ_gives (grown0_c (c - 1) _ _ bx bo (by omega) px' po' i (k / 2 % 2) (k / 4) (by omega) (by omega) (by omega)) ?_
          simp (maxSteps := 2000000) (disch := first | (simp only [E4, hl, hm, en, xl, ol, nb2_b1, nb3_b2, nb3_b1, a1, a2, a3, nb4_b3, nb4_b2, nb4_b1, nb5_b4, nb5_b3, nb5_b2, nb5_b1, tl] <;> omega) | omega | fail) only [↓E2, E3, bare, bareJ, ↓E0, E1, evP, evPlan, env0, envN, evOps, evOp, evQs, evQ, evV, setD, pureOp, ev, upd, updL, gate, binW, eqOp, binV, intOp, shOp, boolOp, unV, convV, nilV, fieldAddrV, indexAddrV, extractV, cellAt, cellsAt, findB, setB, fillL, buildV, Value.cells, lenV, minV, maxV, hav, sliceV, loV, hiV, bslQ, mksQ, appQ, partsOk, partsCells, delB, eqL, SameI, strOp, apzQ, cvtQ, capV, ↓reduceIte, Zj, Zk, Nat.reduceAdd, Nat.reduceLT, Nat.reduceEqDiff, Nat.reduceMul, Nat.reduceLeDiff, if_true, Zn, reduceCtorEq, ZA, eq_self, Int.reduceLE, Int.reduceLT, Int.reduceToNat, ne_eq, Nat.reduceSub, Tarr30, Teqt32, Tfld87_1, Tint3, Tld3, Tld32, Tld5, Tld87, Tpar5, hl, hm, en, xl, ol, nb2_b1, nb3_b2, nb3_b1, a1, a2, a3, nb4_b3, nb4_b2, nb4_b1, nb5_b4, nb5_b3, nb5_b2, nb5_b1, tl]
          exact rfl
        intro g
        simp (maxSteps := 2000000) (disch := first | (simp only [E4, hl, hm, en, xl, ol, nb2_b1, nb3_b2, nb3_b1, a1, a2, a3, nb4_b3, nb4_b2, nb4_b1, nb5_b4, nb5_b3, nb5_b2, nb5_b1, tl] <;> omega) | omega | fail) only [↓E2, E3, bare, bareJ, ↓E0, E1, evP, evPlan, env0, envN, evOps, evOp, evQs, evQ, evV, setD, pureOp, ev, upd, updL, gate, binW, eqOp, binV, intOp, shOp, boolOp, unV, convV, nilV, fieldAddrV, indexAddrV, extractV, cellAt, cellsAt, findB, setB, fillL, buildV, Value.cells, lenV, minV, maxV, hav, sliceV, loV, hiV, bslQ, mksQ, appQ, partsOk, partsCells, delB, eqL, SameI, strOp, apzQ, cvtQ, capV, ↓reduceIte, Zj, Zk, Nat.reduceAdd, Nat.reduceLT, Nat.reduceEqDiff, Nat.reduceMul, Nat.reduceLeDiff, if_true, Zn, reduceCtorEq, ZA, eq_self, Int.reduceLE, Int.reduceLT, Int.reduceToNat, ne_eq, Nat.reduceSub, Tarr30, Teqt32, Tfld87_1, Tint3, Tld3, Tld32, Tld5, Tld87, Tpar5, hl, hm, en, xl, ol, nb2_b1, nb3_b2, nb3_b1, a1, a2, a3, nb4_b3, nb4_b2, nb4_b1, nb5_b4, nb5_b3, nb5_b2, nb5_b1, tl]
        repeat refine And.intro (by omega) ?_
        intro g
        simp only [List.map_cons, List.map_nil, updL, upd, Nat.reduceEqDiff, if_true, if_false, ↓reduceIte]
        refine hK _ ?_; clear hK K
        refine Cd.cond rfl (fun h7 => ?_) (fun h7 => ?_)
        · have h8 : bk x o i r k = true := by rw [← hB]; exact h7
          refine Cd.ps [6, 7, 8] (Plan.take 0 (Plan.more 1 (Plan.one 2 (Plan.one 3 (Plan.take 4 (Plan.done)))) (Plan.one 2 (Plan.take 1 (Plan.one 3 (Plan.take 4 (Plan.done))))))) fol (by kernel_rfl) (Nat.le_of_ble_eq_true rfl) fun K hK => ?_
          simp (maxSteps := 2000000) (disch := first | (simp only [E4, hl, hm, en, xl, ol, nb2_b1, nb3_b2, nb3_b1, a1, a2, a3, nb4_b3, nb4_b2, nb4_b1, nb5_b4, nb5_b3, nb5_b2, nb5_b1, tl] <;> omega) | omega | fail) only [↓E2, E3, bare, bareJ, ↓E0, E1, evP, evPlan, env0, envN, evOps, evOp, evQs, evQ, evV, setD, pureOp, ev, upd, updL, gate, binW, eqOp, binV, intOp, shOp, boolOp, unV, convV, nilV, fieldAddrV, indexAddrV, extractV, cellAt, cellsAt, findB, setB, fillL, buildV, Value.cells, lenV, minV, maxV, hav, sliceV, loV, hiV, bslQ, mksQ, appQ, partsOk, partsCells, delB, eqL, SameI, strOp, apzQ, cvtQ, capV, ↓reduceIte, Zj, Zk, Nat.reduceAdd, Nat.reduceLT, Nat.reduceEqDiff, Nat.reduceMul, Nat.reduceLeDiff, if_true, Zn, reduceCtorEq, ZA, eq_self, Int.reduceLE, Int.reduceLT, Int.reduceToNat, ne_eq, Nat.reduceSub, Tld32, Tld87, Tst32, Tst87, hl, hm, en, xl, ol, nb2_b1, nb3_b2, nb3_b1, a1, a2, a3, nb4_b3, nb4_b2, nb4_b1, nb5_b4, nb5_b3, nb5_b2, nb5_b1, tl]
          repeat refine And.intro (by omega) ?_
          intro g
          simp only [List.map_cons, List.map_nil, updL, upd, Nat.reduceEqDiff, if_true, if_false, ↓reduceIte]
          refine hK _ _ ?_; clear hK K
          refine Cd.ret (inBR (thenR (roundR (inBR (thenR ?_)))))
          simp (maxSteps := 2000000) (disch := first | (simp only [E4, hl, hm, en, xl, ol, nb2_b1, nb3_b2, nb3_b1, a1, a2, a3, nb4_b3, nb4_b2, nb4_b1, nb5_b4, nb5_b3, nb5_b2, nb5_b1, tl] <;> omega) | omega | fail) only [↓E2, E3, bare, bareJ, ↓E0, E1, evP, evPlan, env0, envN, evOps, evOp, evQs, evQ, evV, setD, pureOp, ev, upd, updL, gate, binW, eqOp, binV, intOp, shOp, boolOp, unV, convV, nilV, fieldAddrV, indexAddrV, extractV, cellAt, cellsAt, findB, setB, fillL, buildV, Value.cells, lenV, minV, maxV, hav, sliceV, loV, hiV, bslQ, mksQ, appQ, partsOk, partsCells, delB, eqL, SameI, strOp, apzQ, cvtQ, capV, ↓reduceIte, Zj, Zk, Nat.reduceAdd, Nat.reduceLT, Nat.reduceEqDiff, Nat.reduceMul, Nat.reduceLeDiff, if_true, Zn, reduceCtorEq, ZA, eq_self, Int.reduceLE, Int.reduceLT, Int.reduceToNat, ne_eq, Nat.reduceSub, Tld32, Tld87, hl, hm, en, xl, ol, nb2_b1, nb3_b2, nb3_b1, a1, a2, a3, nb4_b3, nb4_b2, nb4_b1, nb5_b4, nb5_b3, nb5_b2, nb5_b1, tl]
          unfold shrR
          rw [bkFind_hit (by omega) h8]
          simp only [hmk]
        · have h8 : bk x o i r k = false := by rw [← hB]; exact h7
          refine Cd.skip ?_
          refine inBN ?_
          refine thenN ?_
          refine Cd.rr [1, 2, 3, 6, 7, 14] fun K hK => ?_
          simp (maxSteps := 2000000) (disch := first | (simp only [E4, hl, hm, en, xl, ol, nb2_b1, nb3_b2, nb3_b1, a1, a2, a3, nb4_b3, nb4_b2, nb4_b1, nb5_b4, nb5_b3, nb5_b2, nb5_b1, tl] <;> omega) | omega | fail) only [↓E2, E3, bare, bareJ, ↓E0, E1, evP, evPlan, env0, envN, evOps, evOp, evQs, evQ, evV, setD, pureOp, ev, upd, updL, gate, binW, eqOp, binV, intOp, shOp, boolOp, unV, convV, nilV, fieldAddrV, indexAddrV, extractV, cellAt, cellsAt, findB, setB, fillL, buildV, Value.cells, lenV, minV, maxV, hav, sliceV, loV, hiV, bslQ, mksQ, appQ, partsOk, partsCells, delB, eqL, SameI, strOp, apzQ, cvtQ, capV, ↓reduceIte, Zj, Zk, Nat.reduceAdd, Nat.reduceLT, Nat.reduceEqDiff, Nat.reduceMul, Nat.reduceLeDiff, if_true, Zn, reduceCtorEq, ZA, eq_self, Int.reduceLE, Int.reduceLT, Int.reduceToNat, ne_eq, Nat.reduceSub, hl, hm, en, xl, ol, nb2_b1, nb3_b2, nb3_b1, a1, a2, a3, nb4_b3, nb4_b2, nb4_b1, nb5_b4, nb5_b3, nb5_b2, nb5_b1, tl]
          repeat refine And.intro (by omega) ?_
          intro g
          simp only [List.map_cons, List.map_nil, updL, upd, Nat.reduceEqDiff, if_true, if_false, ↓reduceIte]
          refine hK _ _ ?_; clear hK K
          refine roundN (m := m - 1) (by omega) ⟨_, k + 1, by omega, fun j hj => ?_, rfl, List.sublist_append_right [_, _] _⟩
          rcases Nat.lt_succ_iff_lt_or_eq.1 hj with h9 | rfl
          · exact hno j h9
          · exact h8

      · have hB := bk_odd hl hm hn px po h0 h0' hd hi hr0 hr (k := k) (by omega) h4
        have hmk : ((k % 2 : Nat) : Int) = 1 := by omega
        have tl := fun f : Nat → Int => tab_len f
        skip
        rw [hmk]
        refine Cd.qs [1, 2, 3, 6, 7, 10, 11, 14, 111] fol (by kernel_rfl) fun K hK => ?_
        simp (maxSteps := 2000000) (disch := first | (simp only [E4, hl, hm, en, xl, ol, nb2_b1, nb3_b2, nb3_b1, a1, a2, a3, nb4_b3, nb4_b2, nb4_b1, nb5_b4, nb5_b3, nb5_b2, nb5_b1, tl] <;> omega) | omega | fail) only [↓E2, E3, bare, bareJ, ↓E0, E1, evP, evPlan, env0, envN, evOps, evOp, evQs, evQ, evV, setD, pureOp, ev, upd, updL, gate, binW, eqOp, binV, intOp, shOp, boolOp, unV, convV, nilV, fieldAddrV, indexAddrV, extractV, cellAt, cellsAt, findB, setB, fillL, buildV, Value.cells, lenV, minV, maxV, hav, sliceV, loV, hiV, bslQ, mksQ, appQ, partsOk, partsCells, delB, eqL, SameI, strOp, apzQ, cvtQ, capV, ↓reduceIte, Zj, Zk, Nat.reduceAdd, Nat.reduceLT, Nat.reduceEqDiff, Nat.reduceMul, Nat.reduceLeDiff, if_true, Zn, reduceCtorEq, ZA, eq_self, Int.reduceLE, Int.reduceLT, Int.reduceToNat, ne_eq, Nat.reduceSub, Tarr30, Teqt32, Tfld87_1, Tint3, Tld3, Tld32, Tld5, Tld87, Tpar5, hl, hm, en, xl, ol, nb2_b1, nb3_b2, nb3_b1, a1, a2, a3, nb4_b3, nb4_b2, nb4_b1, nb5_b4, nb5_b3, nb5_b2, nb5_b1, tl]
        refine callQ_gives (IsGrid_c _ _ _ bx bo) ?_
        simp (maxSteps := 2000000) (disch := first | (simp only [E4, hl, hm, en, xl, ol, nb2_b1, nb3_b2, nb3_b1, a1, a2, a3, nb4_b3, nb4_b2, nb4_b1, nb5_b4, nb5_b3, nb5_b2, nb5_b1, tl] <;> omega) | omega | fail) only [↓E2, E3, bare, bareJ, ↓E0, E1, evP, evPlan, env0, envN, evOps, evOp, evQs, evQ, evV, setD, pureOp, ev, upd, updL, gate, binW, eqOp, binV, intOp, shOp, boolOp, unV, convV, nilV, fieldAddrV, indexAddrV, extractV, cellAt, cellsAt, findB, setB, fillL, buildV, Value.cells, lenV, minV, maxV, hav, sliceV, loV, hiV, bslQ, mksQ, appQ, partsOk, partsCells, delB, eqL, SameI, strOp, apzQ, cvtQ, capV, ↓reduceIte, Zj, Zk, Nat.reduceAdd, Nat.reduceLT, Nat.reduceEqDiff, Nat.reduceMul, Nat.reduceLeDiff, if_true, Zn, reduceCtorEq, ZA, eq_self, Int.reduceLE, Int.reduceLT, Int.reduceToNat, ne_eq, Nat.reduceSub, Tarr30, Teqt32, Tfld87_1, Tint3, Tld3, Tld32, Tld5, Tld87, Tpar5, hl, hm, en, xl, ol, nb2_b1, nb3_b2, nb3_b1, a1, a2, a3, nb4_b3, nb4_b2, nb4_b1, nb5_b4, nb5_b3, nb5_b2, nb5_b1, tl]
        apply guardY_and 10 [94, 95, 96, 97, 98, 99, 100, 101, 102, 103] (j := 2) (d := 93) (tp := 104) (tl := 103) rfl rfl rfl rfl rfl
        · intro hq
          simp (maxSteps := 2000000) (disch := first | (simp only [E4, hl, hm, en, xl, ol, nb2_b1, nb3_b2, nb3_b1, a1, a2, a3, nb4_b3, nb4_b2, nb4_b1, nb5_b4, nb5_b3, nb5_b2, nb5_b1, tl] <;> omega) | omega | fail) only [↓E2, E3, bare, bareJ, ↓E0, E1, evP, evPlan, env0, envN, evOps, evOp, evQs, evQ, evV, setD, pureOp, ev, upd, updL, gate, binW, eqOp, binV, intOp, shOp, boolOp, unV, convV, nilV, fieldAddrV, indexAddrV, extractV, cellAt, cellsAt, findB, setB, fillL, buildV, Value.cells, lenV, minV, maxV, hav, sliceV, loV, hiV, bslQ, mksQ, appQ, partsOk, partsCells, delB, eqL, SameI, strOp, apzQ, cvtQ, capV, ↓reduceIte, Zj, Zk, Nat.reduceAdd, Nat.reduceLT, Nat.reduceEqDiff, Nat.reduceMul, Nat.reduceLeDiff, if_true, Zn, reduceCtorEq, ZA, eq_self, Int.reduceLE, Int.reduceLT, Int.reduceToNat, ne_eq, Nat.reduceSub, Tarr30, Teqt32, Tfld87_1, Tint3, Tld3, Tld32, Tld5, Tld87, Tpar5, hl, hm, en, xl, ol, nb2_b1, nb3_b2, nb3_b1, a1, a2, a3, nb4_b3, nb4_b2, nb4_b1, nb5_b4, nb5_b3, nb5_b2, nb5_b1, tl]
          refine callQ_gives (rows1_c _ _) ?_
          simp (maxSteps := 2000000) (disch := first | (simp only [E4, hl, hm, en, xl, ol, nb2_b1, nb3_b2, nb3_b1, a1, a2, a3, nb4_b3, nb4_b2, nb4_b1, nb5_b4, nb5_b3, nb5_b2, nb5_b1, tl] <;> omega) | omega | fail) only [↓E2, E3, bare, bareJ, ↓E0, E1, evP, evPlan, env0, envN, evOps, evOp, evQs, evQ, evV, setD, pureOp, ev, upd, updL, gate, binW, eqOp, binV, intOp, shOp, boolOp, unV, convV, nilV, fieldAddrV, indexAddrV, extractV, cellAt, cellsAt, findB, setB, fillL, buildV, Value.cells, lenV, minV, maxV, hav, sliceV, loV, hiV, bslQ, mksQ, appQ, partsOk, partsCells, delB, eqL, SameI, strOp, apzQ, cvtQ, capV, ↓reduceIte, Zj, Zk, Nat.reduceAdd, Nat.reduceLT, Nat.reduceEqDiff, Nat.reduceMul, Nat.reduceLeDiff, if_true, Zn, reduceCtorEq, ZA, eq_self, Int.reduceLE, Int.reduceLT, Int.reduceToNat, ne_eq, Nat.reduceSub, Tarr30, Teqt32, Tfld87_1, Tint3, Tld3, Tld32, Tld5, Tld87, Tpar5, hl, hm, en, xl, ol, nb2_b1, nb3_b2, nb3_b1, a1, a2, a3, nb4_b3, nb4_b2, nb4_b1, nb5_b4, nb5_b3, nb5_b2, nb5_b1, tl]
          repeat refine And.intro (by omega) ?_
          exact rfl
        intro g
        simp (maxSteps := 2000000) (disch := first | (simp only [E4, hl, hm, en, xl, ol, nb2_b1, nb3_b2, nb3_b1, a1, a2, a3, nb4_b3, nb4_b2, nb4_b1, nb5_b4, nb5_b3, nb5_b2, nb5_b1, tl] <;> omega) | omega | fail) only [↓E2, E3, bare, bareJ, ↓E0, E1, evP, evPlan, env0, envN, evOps, evOp, evQs, evQ, evV, setD, pureOp, ev, upd, updL, gate, binW, eqOp, binV, intOp, shOp, boolOp, unV, convV, nilV, fieldAddrV, indexAddrV, extractV, cellAt, cellsAt, findB, setB, fillL, buildV, Value.cells, lenV, minV, maxV, hav, sliceV, loV, hiV, bslQ, mksQ, appQ, partsOk, partsCells, delB, eqL, SameI, strOp, apzQ, cvtQ, capV, ↓reduceIte, Zj, Zk, Nat.reduceAdd, Nat.reduceLT, Nat.reduceEqDiff, Nat.reduceMul, Nat.reduceLeDiff, if_true, Zn, reduceCtorEq, ZA, eq_self, Int.reduceLE, Int.reduceLT, Int.reduceToNat, ne_eq, Nat.reduceSub, Tarr30, Teqt32, Tfld87_1, Tint3, Tld3, Tld32, Tld5, Tld87, Tpar5, hl, hm, en, xl, ol, nb2_b1, nb3_b2, nb3_b1, a1, a2, a3, nb4_b3, nb4_b2, nb4_b1, nb5_b4, nb5_b3, nb5_b2, nb5_b1, tl]
        apply guardY_and 5 [106, 107, 108, 109, 110] (j := 14) (d := 105) (tp := 111) (tl := 110) rfl rfl rfl rfl rfl
        · intro hq
          have hg : gridB ((c - 1 : Nat) : Int) (oldX x i r c k) (oldX o i r c k) = true := by
            simp only [decide_eq_true_eq, decide_eq_false_iff_not, beq_iff_eq, beq_eq_false_iff_ne, bne_iff_ne, bne_eq_false_iff_eq, Bool.and_eq_true, Bool.or_eq_true, Bool.or_eq_false_iff, Bool.not_eq_true', Bool.not_eq_false', Bool.and_eq_false_imp, ne_eq, gt_iff_lt, ge_iff_le, Int.not_lt, Int.not_le, Classical.not_not] at hq
            exact hq.1
          obtain ⟨n', hn1, hn2, hn3, px', po'⟩ := gridB_perm hg
          obtain rfl : n' = c - 1 := by omega
          simp (maxSteps := 2000000) (disch := first | (simp only [E4, hl, hm, en, xl, ol, nb2_b1, nb3_b2, nb3_b1, a1, a2, a3, nb4_b3, nb4_b2, nb4_b1, nb5_b4, nb5_b3, nb5_b2, nb5_b1, tl] <;> omega) | omega | fail) only [↓E2, E3, bare, bareJ, ↓E0, E1, evP, evPlan, env0, envN, evOps, evOp, evQs, evQ, evV, setD, pureOp, ev, upd, updL, gate, binW, eqOp, binV, intOp, shOp, boolOp, unV, convV, nilV, fieldAddrV, indexAddrV, extractV, cellAt, cellsAt, findB, setB, fillL, buildV, Value.cells, lenV, minV, maxV, hav, sliceV, loV, hiV, bslQ, mksQ, appQ, partsOk, partsCells, delB, eqL, SameI, strOp, apzQ, cvtQ, capV, ↓reduceIte, Zj, Zk, Nat.reduceAdd, Nat.reduceLT, Nat.reduceEqDiff, Nat.reduceMul, Nat.reduceLeDiff, if_true, Zn, reduceCtorEq, ZA, eq_self, Int.reduceLE, Int.reduceLT, Int.reduceToNat, ne_eq, Nat.reduceSub, Tarr30, Teqt32, Tfld87_1, Tint3, Tld3, Tld32, Tld5, Tld87, Tpar5, hl, hm, en, xl, ol, nb2_b1, nb3_b2, nb3_b1, a1, a2, a3, nb4_b3, nb4_b2, nb4_b1, nb5_b4, nb5_b3, nb5_b2, nb5_b1, tl]
          refine callQ_gives (grown1_c (c - 1) _ _ bx bo (by omega) px' po' i (k / 2 % 2) (k / 4) (by omega) (by omega) (by omega)) ?_
          simp (maxSteps := 2000000) (disch := first | (simp only [E4, hl, hm, en, xl, ol, nb2_b1, nb3_b2, nb3_b1, a1, a2, a3, nb4_b3, nb4_b2, nb4_b1, nb5_b4, nb5_b3, nb5_b2, nb5_b1, tl] <;> omega) | omega | fail) only [↓E2, E3, bare, bareJ, ↓E0, E1, evP, evPlan, env0, envN, evOps, evOp, evQs, evQ, evV, setD, pureOp, ev, upd, updL, gate, binW, eqOp, binV, intOp, shOp, boolOp, unV, convV, nilV, fieldAddrV, indexAddrV, extractV, cellAt, cellsAt, findB, setB, fillL, buildV, Value.cells, lenV, minV, maxV, hav, sliceV, loV, hiV, bslQ, mksQ, appQ, partsOk, partsCells, delB, eqL, SameI, strOp, apzQ, cvtQ, capV, ↓reduceIte, Zj, Zk, Nat.reduceAdd, Nat.reduceLT, Nat.reduceEqDiff, Nat.reduceMul, Nat.reduceLeDiff, if_true, Zn, reduceCtorEq, ZA, eq_self, Int.reduceLE, Int.reduceLT, Int.reduceToNat, ne_eq, Nat.reduceSub, Tarr30, Teqt32, Tfld87_1, Tint3, Tld3, Tld32, Tld5, Tld87, Tpar5, hl, hm, en, xl, ol, nb2_b1, nb3_b2, nb3_b1, a1, a2, a3, nb4_b3, nb4_b2, nb4_b1, nb5_b4, nb5_b3, nb5_b2, nb5_b1, tl]
          exact rfl
        intro g
        simp (maxSteps := 2000000) (disch := first | (simp only [E4, hl, hm, en, xl, ol, nb2_b1, nb3_b2, nb3_b1, a1, a2, a3, nb4_b3, nb4_b2, nb4_b1, nb5_b4, nb5_b3, nb5_b2, nb5_b1, tl] <;> omega) | omega | fail) only [↓E2, E3, bare, bareJ, ↓E0, E1, evP, evPlan, env0, envN, evOps, evOp, evQs, evQ, evV, setD, pureOp, ev, upd, updL, gate, binW, eqOp, binV, intOp, shOp, boolOp, unV, convV, nilV, fieldAddrV, indexAddrV, extractV, cellAt, cellsAt, findB, setB, fillL, buildV, Value.cells, lenV, minV, maxV, hav, sliceV, loV, hiV, bslQ, mksQ, appQ, partsOk, partsCells, delB, eqL, SameI, strOp, apzQ, cvtQ, capV, ↓reduceIte, Zj, Zk, Nat.reduceAdd, Nat.reduceLT, Nat.reduceEqDiff, Nat.reduceMul, Nat.reduceLeDiff, if_true, Zn, reduceCtorEq, ZA, eq_self, Int.reduceLE, Int.reduceLT, Int.reduceToNat, ne_eq, Nat.reduceSub, Tarr30, Teqt32, Tfld87_1, Tint3, Tld3, Tld32, Tld5, Tld87, Tpar5, hl, hm, en, xl, ol, nb2_b1, nb3_b2, nb3_b1, a1, a2, a3, nb4_b3, nb4_b2, nb4_b1, nb5_b4, nb5_b3, nb5_b2, nb5_b1, tl]
        repeat refine And.intro (by omega) ?_
        intro g
        simp only [List.map_cons, List.map_nil, updL, upd, Nat.reduceEqDiff, if_true, if_false, ↓reduceIte]
        refine hK _ ?_; clear hK K
        refine Cd.cond rfl (fun h7 => ?_) (fun h7 => ?_)
        · have h8 : bk x o i r k = true := by rw [← hB]; exact h7
          refine Cd.ps [6, 7, 8] (Plan.take 0 (Plan.more 1 (Plan.one 2 (Plan.one 3 (Plan.take 4 (Plan.done)))) (Plan.one 2 (Plan.take 1 (Plan.one 3 (Plan.take 4 (Plan.done))))))) fol (by kernel_rfl) (Nat.le_of_ble_eq_true rfl) fun K hK => ?_
          simp (maxSteps := 2000000) (disch := first | (simp only [E4, hl, hm, en, xl, ol, nb2_b1, nb3_b2, nb3_b1, a1, a2, a3, nb4_b3, nb4_b2, nb4_b1, nb5_b4, nb5_b3, nb5_b2, nb5_b1, tl] <;> omega) | omega | fail) only [↓E2, E3, bare, bareJ, ↓E0, E1, evP, evPlan, env0, envN, evOps, evOp, evQs, evQ, evV, setD, pureOp, ev, upd, updL, gate, binW, eqOp, binV, intOp, shOp, boolOp, unV, convV, nilV, fieldAddrV, indexAddrV, extractV, cellAt, cellsAt, findB, setB, fillL, buildV, Value.cells, lenV, minV, maxV, hav, sliceV, loV, hiV, bslQ, mksQ, appQ, partsOk, partsCells, delB, eqL, SameI, strOp, apzQ, cvtQ, capV, ↓reduceIte, Zj, Zk, Nat.reduceAdd, Nat.reduceLT, Nat.reduceEqDiff, Nat.reduceMul, Nat.reduceLeDiff, if_true, Zn, reduceCtorEq, ZA, eq_self, Int.reduceLE, Int.reduceLT, Int.reduceToNat, ne_eq, Nat.reduceSub, Tld32, Tld87, Tst32, Tst87, hl, hm, en, xl, ol, nb2_b1, nb3_b2, nb3_b1, a1, a2, a3, nb4_b3, nb4_b2, nb4_b1, nb5_b4, nb5_b3, nb5_b2, nb5_b1, tl]
          repeat refine And.intro (by omega) ?_
          intro g
          simp only [List.map_cons, List.map_nil, updL, upd, Nat.reduceEqDiff, if_true, if_false, ↓reduceIte]
          refine hK _ _ ?_; clear hK K
          refine Cd.ret (inBR (thenR (roundR (inBR (thenR ?_)))))
          simp (maxSteps := 2000000) (disch := first | (simp only [E4, hl, hm, en, xl, ol, nb2_b1, nb3_b2, nb3_b1, a1, a2, a3, nb4_b3, nb4_b2, nb4_b1, nb5_b4, nb5_b3, nb5_b2, nb5_b1, tl] <;> omega) | omega | fail) only [↓E2, E3, bare, bareJ, ↓E0, E1, evP, evPlan, env0, envN, evOps, evOp, evQs, evQ, evV, setD, pureOp, ev, upd, updL, gate, binW, eqOp, binV, intOp, shOp, boolOp, unV, convV, nilV, fieldAddrV, indexAddrV, extractV, cellAt, cellsAt, findB, setB, fillL, buildV, Value.cells, lenV, minV, maxV, hav, sliceV, loV, hiV, bslQ, mksQ, appQ, partsOk, partsCells, delB, eqL, SameI, strOp, apzQ, cvtQ, capV, ↓reduceIte, Zj, Zk, Nat.reduceAdd, Nat.reduceLT, Nat.reduceEqDiff, Nat.reduceMul, Nat.reduceLeDiff, if_true, Zn, reduceCtorEq, ZA, eq_self, Int.reduceLE, Int.reduceLT, Int.reduceToNat, ne_eq, Nat.reduceSub, Tld32, Tld87, hl, hm, en, xl, ol, nb2_b1, nb3_b2, nb3_b1, a1, a2, a3, nb4_b3, nb4_b2, nb4_b1, nb5_b4, nb5_b3, nb5_b2, nb5_b1, tl]
          unfold shrR
          rw [bkFind_hit (by omega) h8]
          simp only [hmk]
        · have h8 : bk x o i r k = false := by rw [← hB]; exact h7
          refine Cd.skip ?_
          refine inBN ?_
          refine thenN ?_
          refine Cd.rr [1, 2, 3, 6, 7, 14] fun K hK => ?_
          simp (maxSteps := 2000000) (disch := first | (simp only [E4, hl, hm, en, xl, ol, nb2_b1, nb3_b2, nb3_b1, a1, a2, a3, nb4_b3, nb4_b2, nb4_b1, nb5_b4, nb5_b3, nb5_b2, nb5_b1, tl] <;> omega) | omega | fail) only [↓E2, E3, bare, bareJ, ↓E0, E1, evP, evPlan, env0, envN, evOps, evOp, evQs, evQ, evV, setD, pureOp, ev, upd, updL, gate, binW, eqOp, binV, intOp, shOp, boolOp, unV, convV, nilV, fieldAddrV, indexAddrV, extractV, cellAt, cellsAt, findB, setB, fillL, buildV, Value.cells, lenV, minV, maxV, hav, sliceV, loV, hiV, bslQ, mksQ, appQ, partsOk, partsCells, delB, eqL, SameI, strOp, apzQ, cvtQ, capV, ↓reduceIte, Zj, Zk, Nat.reduceAdd, Nat.reduceLT, Nat.reduceEqDiff, Nat.reduceMul, Nat.reduceLeDiff, if_true, Zn, reduceCtorEq, ZA, eq_self, Int.reduceLE, Int.reduceLT, Int.reduceToNat, ne_eq, Nat.reduceSub, hl, hm, en, xl, ol, nb2_b1, nb3_b2, nb3_b1, a1, a2, a3, nb4_b3, nb4_b2, nb4_b1, nb5_b4, nb5_b3, nb5_b2, nb5_b1, tl]
          repeat refine And.intro (by omega) ?_
          intro g
          simp only [List.map_cons, List.map_nil, updL, upd, Nat.reduceEqDiff, if_true, if_false, ↓reduceIte]
          refine hK _ _ ?_; clear hK K
          refine roundN (m := m - 1) (by omega) ⟨_, k + 1, by omega, fun j hj => ?_, rfl, List.sublist_append_right [_, _] _⟩
          rcases Nat.lt_succ_iff_lt_or_eq.1 hj with h9 | rfl
          · exact hno j h9
          · exact h8

  · refine Cd.exit (thenX (roundX (inBX ?_)))
    refine thenN ?_
    obtain rfl : k = 8 := by omega
    refine Cd.rs [6, 7, 8] fun K hK => ?_
    simp (maxSteps := 2000000) (disch := first | (simp only [E4, hl, hm, en, xl, ol, nb2_b1, nb3_b2, nb3_b1] <;> omega) | omega | fail) only [↓E2, E3, bare, bareJ, ↓E0, E1, evP, evPlan, env0, envN, evOps, evOp, evQs, evQ, evV, setD, pureOp, ev, upd, updL, gate, binW, eqOp, binV, intOp, shOp, boolOp, unV, convV, nilV, fieldAddrV, indexAddrV, extractV, cellAt, cellsAt, findB, setB, fillL, buildV, Value.cells, lenV, minV, maxV, hav, sliceV, loV, hiV, bslQ, mksQ, appQ, partsOk, partsCells, delB, eqL, SameI, strOp, apzQ, cvtQ, capV, ↓reduceIte, Zj, Zk, Nat.reduceAdd, Nat.reduceLT, Nat.reduceEqDiff, Nat.reduceMul, Nat.reduceLeDiff, if_true, Zn, reduceCtorEq, ZA, eq_self, Int.reduceLE, Int.reduceLT, Int.reduceToNat, ne_eq, Nat.reduceSub, Tbld32, Tbld87, Tst32, Tst87, hl, hm, en, xl, ol, nb2_b1, nb3_b2, nb3_b1]
    repeat refine And.intro (by omega) ?_
    intro g
    simp only [List.map_cons, List.map_nil, updL, upd, Nat.reduceEqDiff, if_true, if_false, ↓reduceIte]
    refine hK _ _ ?_; clear hK K
    refine Cd.ret ?_
    simp (maxSteps := 2000000) (disch := first | (simp only [E4, hl, hm, en, xl, ol, nb2_b1, nb3_b2, nb3_b1] <;> omega) | omega | fail) only [↓E2, E3, bare, bareJ, ↓E0, E1, evP, evPlan, env0, envN, evOps, evOp, evQs, evQ, evV, setD, pureOp, ev, upd, updL, gate, binW, eqOp, binV, intOp, shOp, boolOp, unV, convV, nilV, fieldAddrV, indexAddrV, extractV, cellAt, cellsAt, findB, setB, fillL, buildV, Value.cells, lenV, minV, maxV, hav, sliceV, loV, hiV, bslQ, mksQ, appQ, partsOk, partsCells, delB, eqL, SameI, strOp, apzQ, cvtQ, capV, ↓reduceIte, Zj, Zk, Nat.reduceAdd, Nat.reduceLT, Nat.reduceEqDiff, Nat.reduceMul, Nat.reduceLeDiff, if_true, Zn, reduceCtorEq, ZA, eq_self, Int.reduceLE, Int.reduceLT, Int.reduceToNat, ne_eq, Nat.reduceSub, Tld32, Tld87, hl, hm, en, xl, ol, nb2_b1, nb3_b2, nb3_b1]
    unfold shrR
    rw [bkFind_none fun j hj => hno j hj]
end

end Go.Proofs

/-
  What the functions of this part hand back: each as a plain function of its arguments. Conditions: none.
-/
namespace Go.Proofs
open Go.W8
set_option linter.unusedVariables false
set_option linter.unusedSimpArgs false
set_option linter.unusedSectionVars false
set_option maxRecDepth 8000
set_option maxHeartbeats 4000000
theorem l02Lowered_c (v r : Int) (h0 : 0 ≤ v) (h1 : v < 256) (h2 : 0 ≤ r) : Gives Try.prog 189 #[.int .u8 v, .int .i64 r] (.int .u8 (lowF r v)) := by
  refine Gives.of fun w => ?_
  refine acall_of (N := 12) (c := _) (rs := [.tmp 4]) (args := [_, _]) Try.func189 rfl (by decide) rfl rfl (Nat.le_of_ble_eq_true rfl) ?_
  refine Cd.rs [0, 1] fun K hK => ?_
  simp (maxSteps := 2000000) (disch := first | (simp only [E4] <;> omega) | omega | fail) only [↓E2, E3, bare, bareJ, ↓E0, E1, evP, evPlan, env0, envN, evOps, evOp, evQs, evQ, evV, setD, pureOp, ev, upd, updL, gate, binW, eqOp, binV, intOp, shOp, boolOp, unV, convV, nilV, fieldAddrV, indexAddrV, extractV, cellAt, cellsAt, findB, setB, fillL, buildV, Value.cells, lenV, minV, maxV, hav, sliceV, loV, hiV, bslQ, mksQ, appQ, partsOk, partsCells, delB, eqL, SameI, strOp, apzQ, cvtQ, capV, ↓reduceIte, Zj, Zk, Nat.reduceAdd, Nat.reduceLT, Nat.reduceEqDiff, Nat.reduceMul, Nat.reduceLeDiff, if_true, Zn, reduceCtorEq, ZA, eq_self, Int.reduceLE, Int.reduceLT, Int.reduceToNat, ne_eq, Nat.reduceSub]
  repeat refine And.intro (by omega) ?_
  intro g
  simp only [List.map_cons, List.map_nil, updL, upd, Nat.reduceEqDiff, if_true, if_false, ↓reduceIte]
  refine hK _ _ ?_; clear hK K
  refine Cd.seq ?_
  refine Cd.rs [0, 8] fun K hK => ?_
  simp (maxSteps := 2000000) (disch := first | (simp only [E4] <;> omega) | omega | fail) only [↓E2, E3, bare, bareJ, ↓E0, E1, evP, evPlan, env0, envN, evOps, evOp, evQs, evQ, evV, setD, pureOp, ev, upd, updL, gate, binW, eqOp, binV, intOp, shOp, boolOp, unV, convV, nilV, fieldAddrV, indexAddrV, extractV, cellAt, cellsAt, findB, setB, fillL, buildV, Value.cells, lenV, minV, maxV, hav, sliceV, loV, hiV, bslQ, mksQ, appQ, partsOk, partsCells, delB, eqL, SameI, strOp, apzQ, cvtQ, capV, ↓reduceIte, Zj, Zk, Nat.reduceAdd, Nat.reduceLT, Nat.reduceEqDiff, Nat.reduceMul, Nat.reduceLeDiff, if_true, Zn, reduceCtorEq, ZA, eq_self, Int.reduceLE, Int.reduceLT, Int.reduceToNat, ne_eq, Nat.reduceSub, Tint2, Tpar5]
  repeat refine And.intro (by omega) ?_
  intro g
  simp only [List.map_cons, List.map_nil, updL, upd, Nat.reduceEqDiff, if_true, if_false, ↓reduceIte]
  refine hK _ _ ?_; clear hK K
  refine Cd.condd rfl (fun h3 => ?_) (fun h3 => ?_)
  · refine Cd.rs [4] fun K hK => ?_
    simp (maxSteps := 2000000) (disch := first | (simp only [E4] <;> omega) | omega | fail) only [↓E2, E3, bare, bareJ, ↓E0, E1, evP, evPlan, env0, envN, evOps, evOp, evQs, evQ, evV, setD, pureOp, ev, upd, updL, gate, binW, eqOp, binV, intOp, shOp, boolOp, unV, convV, nilV, fieldAddrV, indexAddrV, extractV, cellAt, cellsAt, findB, setB, fillL, buildV, Value.cells, lenV, minV, maxV, hav, sliceV, loV, hiV, bslQ, mksQ, appQ, partsOk, partsCells, delB, eqL, SameI, strOp, apzQ, cvtQ, capV, ↓reduceIte, Zj, Zk, Nat.reduceAdd, Nat.reduceLT, Nat.reduceEqDiff, Nat.reduceMul, Nat.reduceLeDiff, if_true, Zn, reduceCtorEq, ZA, eq_self, Int.reduceLE, Int.reduceLT, Int.reduceToNat, ne_eq, Nat.reduceSub]
    repeat refine And.intro (by omega) ?_
    intro g
    simp only [List.map_cons, List.map_nil, updL, upd, Nat.reduceEqDiff, if_true, if_false, ↓reduceIte]
    refine hK _ _ ?_; clear hK K
    refine Cd.ret (thenR ?_)
    simp (maxSteps := 2000000) (disch := first | (simp only [E4] <;> omega) | omega | fail) only [↓E2, E3, bare, bareJ, ↓E0, E1, evP, evPlan, env0, envN, evOps, evOp, evQs, evQ, evV, setD, pureOp, ev, upd, updL, gate, binW, eqOp, binV, intOp, shOp, boolOp, unV, convV, nilV, fieldAddrV, indexAddrV, extractV, cellAt, cellsAt, findB, setB, fillL, buildV, Value.cells, lenV, minV, maxV, hav, sliceV, loV, hiV, bslQ, mksQ, appQ, partsOk, partsCells, delB, eqL, SameI, strOp, apzQ, cvtQ, capV, ↓reduceIte, Zj, Zk, Nat.reduceAdd, Nat.reduceLT, Nat.reduceEqDiff, Nat.reduceMul, Nat.reduceLeDiff, if_true, Zn, reduceCtorEq, ZA, eq_self, Int.reduceLE, Int.reduceLT, Int.reduceToNat, ne_eq, Nat.reduceSub]
    unfold lowF
    rw [if_pos h3]
  · refine Cd.skip ?_
    refine thenN ?_
    refine Cd.rs [4] fun K hK => ?_
    simp (maxSteps := 2000000) (disch := first | (simp only [E4] <;> omega) | omega | fail) only [↓E2, E3, bare, bareJ, ↓E0, E1, evP, evPlan, env0, envN, evOps, evOp, evQs, evQ, evV, setD, pureOp, ev, upd, updL, gate, binW, eqOp, binV, intOp, shOp, boolOp, unV, convV, nilV, fieldAddrV, indexAddrV, extractV, cellAt, cellsAt, findB, setB, fillL, buildV, Value.cells, lenV, minV, maxV, hav, sliceV, loV, hiV, bslQ, mksQ, appQ, partsOk, partsCells, delB, eqL, SameI, strOp, apzQ, cvtQ, capV, ↓reduceIte, Zj, Zk, Nat.reduceAdd, Nat.reduceLT, Nat.reduceEqDiff, Nat.reduceMul, Nat.reduceLeDiff, if_true, Zn, reduceCtorEq, ZA, eq_self, Int.reduceLE, Int.reduceLT, Int.reduceToNat, ne_eq, Nat.reduceSub]
    repeat refine And.intro (by omega) ?_
    intro g
    simp only [List.map_cons, List.map_nil, updL, upd, Nat.reduceEqDiff, if_true, if_false, ↓reduceIte]
    refine hK _ _ ?_; clear hK K
    refine Cd.ret ?_
    simp (maxSteps := 2000000) (disch := first | (simp only [E4] <;> omega) | omega | fail) only [↓E2, E3, bare, bareJ, ↓E0, E1, evP, evPlan, env0, envN, evOps, evOp, evQs, evQ, evV, setD, pureOp, ev, upd, updL, gate, binW, eqOp, binV, intOp, shOp, boolOp, unV, convV, nilV, fieldAddrV, indexAddrV, extractV, cellAt, cellsAt, findB, setB, fillL, buildV, Value.cells, lenV, minV, maxV, hav, sliceV, loV, hiV, bslQ, mksQ, appQ, partsOk, partsCells, delB, eqL, SameI, strOp, apzQ, cvtQ, capV, ↓reduceIte, Zj, Zk, Nat.reduceAdd, Nat.reduceLT, Nat.reduceEqDiff, Nat.reduceMul, Nat.reduceLeDiff, if_true, Zn, reduceCtorEq, ZA, eq_self, Int.reduceLE, Int.reduceLT, Int.reduceToNat, ne_eq, Nat.reduceSub]
    unfold lowF
    rw [if_neg h3]

def toW (d k : Nat) : Nat := if d < k then k - 1 else k
theorem l02Without_c (n : Nat) (x o : List Int) (hx : Bytes8 x) (ho : Bytes8 o) (hn : n ≤ 8) (d : Nat) (r : Int) (hr : 0 ≤ r) :
    Gives Try.prog 165 #[.agg (gc (n : Int) x o).toArray, .int .i64 (d : Int), .int .i64 r] (.agg (gc ((n : Int) - 1) (tab (wthK x d r n)) (tab (wthK o d r n))).toArray) := by
  have hl := hx.len
  have hm := ho.len
  skip
  refine Gives.of fun w => ?_
  refine acall_of (N := 48) (c := _) (rs := [.cell 6 32]) (args := [_, _, _]) Try.func165 rfl (by decide) rfl rfl (Nat.le_of_ble_eq_true rfl) ?_
  refine Cd.rs [1, 2, 3, 6] fun K hK => ?_
  simp (maxSteps := 2000000) (disch := first | (simp only [E4, hl, hm] <;> omega) | omega | fail) only [↓E2, E3, bare, bareJ, ↓E0, E1, evP, evPlan, env0, envN, evOps, evOp, evQs, evQ, evV, setD, pureOp, ev, upd, updL, gate, binW, eqOp, binV, intOp, shOp, boolOp, unV, convV, nilV, fieldAddrV, indexAddrV, extractV, cellAt, cellsAt, findB, setB, fillL, buildV, Value.cells, lenV, minV, maxV, hav, sliceV, loV, hiV, bslQ, mksQ, appQ, partsOk, partsCells, delB, eqL, SameI, strOp, apzQ, cvtQ, capV, ↓reduceIte, Zj, Zk, Nat.reduceAdd, Nat.reduceLT, Nat.reduceEqDiff, Nat.reduceMul, Nat.reduceLeDiff, if_true, Zn, reduceCtorEq, ZA, eq_self, Int.reduceLE, Int.reduceLT, Int.reduceToNat, ne_eq, Nat.reduceSub, Tzero32, hl, hm]
  repeat refine And.intro (by omega) ?_
  intro b1 hb1
  intro b2 hb2
  have nb2_b1 := hb2.ne
  try simp (maxSteps := 2000000) (disch := first | (simp only [E4, hl, hm, nb2_b1] <;> omega) | omega | fail) only [↓E2, E3, bare, bareJ, ↓E0, E1, evP, evPlan, env0, envN, evOps, evOp, evQs, evQ, evV, setD, pureOp, ev, upd, updL, gate, binW, eqOp, binV, intOp, shOp, boolOp, unV, convV, nilV, fieldAddrV, indexAddrV, extractV, cellAt, cellsAt, findB, setB, fillL, buildV, Value.cells, lenV, minV, maxV, hav, sliceV, loV, hiV, bslQ, mksQ, appQ, partsOk, partsCells, delB, eqL, SameI, strOp, apzQ, cvtQ, capV, ↓reduceIte, Zj, Zk, Nat.reduceAdd, Nat.reduceLT, Nat.reduceEqDiff, Nat.reduceMul, Nat.reduceLeDiff, if_true, Zn, reduceCtorEq, ZA, eq_self, Int.reduceLE, Int.reduceLT, Int.reduceToNat, ne_eq, Nat.reduceSub, Tzero32, hl, hm, nb2_b1]
  repeat refine And.intro (by omega) ?_
  intro g
  simp only [List.map_cons, List.map_nil, updL, upd, Nat.reduceEqDiff, if_true, if_false, ↓reduceIte]
  refine hK _ _ ?_; clear hK K
  refine Cd.rs [1, 2, 3, 6, 7] fun K hK => ?_
  simp (maxSteps := 2000000) (disch := first | (simp only [E4, hl, hm, nb2_b1] <;> omega) | omega | fail) only [↓E2, E3, bare, bareJ, ↓E0, E1, evP, evPlan, env0, envN, evOps, evOp, evQs, evQ, evV, setD, pureOp, ev, upd, updL, gate, binW, eqOp, binV, intOp, shOp, boolOp, unV, convV, nilV, fieldAddrV, indexAddrV, extractV, cellAt, cellsAt, findB, setB, fillL, buildV, Value.cells, lenV, minV, maxV, hav, sliceV, loV, hiV, bslQ, mksQ, appQ, partsOk, partsCells, delB, eqL, SameI, strOp, apzQ, cvtQ, capV, ↓reduceIte, Zj, Zk, Nat.reduceAdd, Nat.reduceLT, Nat.reduceEqDiff, Nat.reduceMul, Nat.reduceLeDiff, if_true, Zn, reduceCtorEq, ZA, eq_self, Int.reduceLE, Int.reduceLT, Int.reduceToNat, ne_eq, Nat.reduceSub, Tbld32, Tfld32_0, Tld2, Tst32, Tzero32, hl, hm, nb2_b1]
  repeat refine And.intro (by omega) ?_
  intro b3 hb3
  have nb3_b2 := hb3.ne
  have nb3_b1 := hb3.tail.ne
  try simp (maxSteps := 2000000) (disch := first | (simp only [E4, hl, hm, nb2_b1, nb3_b2, nb3_b1] <;> omega) | omega | fail) only [↓E2, E3, bare, bareJ, ↓E0, E1, evP, evPlan, env0, envN, evOps, evOp, evQs, evQ, evV, setD, pureOp, ev, upd, updL, gate, binW, eqOp, binV, intOp, shOp, boolOp, unV, convV, nilV, fieldAddrV, indexAddrV, extractV, cellAt, cellsAt, findB, setB, fillL, buildV, Value.cells, lenV, minV, maxV, hav, sliceV, loV, hiV, bslQ, mksQ, appQ, partsOk, partsCells, delB, eqL, SameI, strOp, apzQ, cvtQ, capV, ↓reduceIte, Zj, Zk, Nat.reduceAdd, Nat.reduceLT, Nat.reduceEqDiff, Nat.reduceMul, Nat.reduceLeDiff, if_true, Zn, reduceCtorEq, ZA, eq_self, Int.reduceLE, Int.reduceLT, Int.reduceToNat, ne_eq, Nat.reduceSub, Tbld32, Tfld32_0, Tld2, Tst32, Tzero32, hl, hm, nb2_b1, nb3_b2, nb3_b1]
  repeat refine And.intro (by omega) ?_
  intro g
  simp only [List.map_cons, List.map_nil, updL, upd, Nat.reduceEqDiff, if_true, if_false, ↓reduceIte]
  refine hK _ _ ?_; clear hK K
  refine Cd.seq ?_
  refine Cd.rs [1, 2, 3, 6, 7, 8] fun K hK => ?_
  simp (maxSteps := 2000000) (disch := first | (simp only [E4, hl, hm, nb2_b1, nb3_b2, nb3_b1] <;> omega) | omega | fail) only [↓E2, E3, bare, bareJ, ↓E0, E1, evP, evPlan, env0, envN, evOps, evOp, evQs, evQ, evV, setD, pureOp, ev, upd, updL, gate, binW, eqOp, binV, intOp, shOp, boolOp, unV, convV, nilV, fieldAddrV, indexAddrV, extractV, cellAt, cellsAt, findB, setB, fillL, buildV, Value.cells, lenV, minV, maxV, hav, sliceV, loV, hiV, bslQ, mksQ, appQ, partsOk, partsCells, delB, eqL, SameI, strOp, apzQ, cvtQ, capV, ↓reduceIte, Zj, Zk, Nat.reduceAdd, Nat.reduceLT, Nat.reduceEqDiff, Nat.reduceMul, Nat.reduceLeDiff, if_true, Zn, reduceCtorEq, ZA, eq_self, Int.reduceLE, Int.reduceLT, Int.reduceToNat, ne_eq, Nat.reduceSub, hl, hm, nb2_b1, nb3_b2, nb3_b1]
  repeat refine And.intro (by omega) ?_
  intro g
  simp only [List.map_cons, List.map_nil, updL, upd, Nat.reduceEqDiff, if_true, if_false, ↓reduceIte]
  refine hK _ _ ?_; clear hK K
  refine Cd.block ?_
  refine Cd.loop (fun m ρ M => ∃ g k, k + m = n ∧ ρ = updL ([(1, .int .i64 (d : Int)), (2, .int .i64 r), (3, .pointer (some ⟨b1, 0, none⟩)), (6, .pointer (some ⟨b2, 0, none⟩)), (7, .pointer (some ⟨b3, 0, none⟩)), (8, .int .i64 (k : Int))]) g ∧ M = [(b3, gc ((n : Int) - 1) (tab (wthK x d r k)) (tab (wthK o d r k))), (b2, gc 0 z8 z8), (b1, gc (n : Int) x o)]) n ⟨_, 0, Nat.zero_add _, rfl, by rw [wthK_zero, wthK_zero]⟩ ?_
  rintro m ρ M ⟨g, k, hk, rfl, rfl⟩
  refine Cd.seq ?_
  refine Cd.rs [1, 2, 3, 6, 7, 8, 17] fun K hK => ?_
  simp (maxSteps := 2000000) (disch := first | (simp only [E4, hl, hm, nb2_b1, nb3_b2, nb3_b1] <;> omega) | omega | fail) only [↓E2, E3, bare, bareJ, ↓E0, E1, evP, evPlan, env0, envN, evOps, evOp, evQs, evQ, evV, setD, pureOp, ev, upd, updL, gate, binW, eqOp, binV, intOp, shOp, boolOp, unV, convV, nilV, fieldAddrV, indexAddrV, extractV, cellAt, cellsAt, findB, setB, fillL, buildV, Value.cells, lenV, minV, maxV, hav, sliceV, loV, hiV, bslQ, mksQ, appQ, partsOk, partsCells, delB, eqL, SameI, strOp, apzQ, cvtQ, capV, ↓reduceIte, Zj, Zk, Nat.reduceAdd, Nat.reduceLT, Nat.reduceEqDiff, Nat.reduceMul, Nat.reduceLeDiff, if_true, Zn, reduceCtorEq, ZA, eq_self, Int.reduceLE, Int.reduceLT, Int.reduceToNat, ne_eq, Nat.reduceSub, Tfld32_0, Tld2, hl, hm, nb2_b1, nb3_b2, nb3_b1]
  repeat refine And.intro (by omega) ?_
  intro g
  simp only [List.map_cons, List.map_nil, updL, upd, Nat.reduceEqDiff, if_true, if_false, ↓reduceIte]
  refine hK _ _ ?_; clear hK K
  refine Cd.condd rfl (fun h1 => ?_) (fun h1 => ?_)
  · have ck := bytes_get hx (i := k) (by omega)
    have dk := bytes_get ho (i := k) (by omega)
    refine Cd.skip ?_
    refine thenN ?_
    refine Cd.midq (fun ρ M => ∃ g, ρ = updL ([(1, .int .i64 (d : Int)), (2, .int .i64 r), (3, .pointer (some ⟨b1, 0, none⟩)), (6, .pointer (some ⟨b2, 0, none⟩)), (7, .pointer (some ⟨b3, 0, none⟩)), (8, .int .i64 (k : Int))]) g ∧ M = [(b3, gc ((n : Int) - 1) (tab (wthK x d r (k + 1))) (tab (wthK o d r (k + 1)))), (b2, gc 0 z8 z8), (b1, gc (n : Int) x o)]) ?_ ?_
    · refine Cd.block ?_
      refine Cd.rs [1, 2, 3, 6, 7, 8, 9] fun K hK => ?_
      simp (maxSteps := 2000000) (disch := first | (simp only [E4, hl, hm, nb2_b1, nb3_b2, nb3_b1] <;> omega) | omega | fail) only [↓E2, E3, bare, bareJ, ↓E0, E1, evP, evPlan, env0, envN, evOps, evOp, evQs, evQ, evV, setD, pureOp, ev, upd, updL, gate, binW, eqOp, binV, intOp, shOp, boolOp, unV, convV, nilV, fieldAddrV, indexAddrV, extractV, cellAt, cellsAt, findB, setB, fillL, buildV, Value.cells, lenV, minV, maxV, hav, sliceV, loV, hiV, bslQ, mksQ, appQ, partsOk, partsCells, delB, eqL, SameI, strOp, apzQ, cvtQ, capV, ↓reduceIte, Zj, Zk, Nat.reduceAdd, Nat.reduceLT, Nat.reduceEqDiff, Nat.reduceMul, Nat.reduceLeDiff, if_true, Zn, reduceCtorEq, ZA, eq_self, Int.reduceLE, Int.reduceLT, Int.reduceToNat, ne_eq, Nat.reduceSub, hl, hm, nb2_b1, nb3_b2, nb3_b1]
      repeat refine And.intro (by omega) ?_
      intro g
      simp only [List.map_cons, List.map_nil, updL, upd, Nat.reduceEqDiff, if_true, if_false, ↓reduceIte]
      refine hK _ _ ?_; clear hK K
      refine Cd.midq (fun ρ M => ∃ g, ρ = updL ([(1, .int .i64 (d : Int)), (2, .int .i64 r), (3, .pointer (some ⟨b1, 0, none⟩)), (6, .pointer (some ⟨b2, 0, none⟩)), (7, .pointer (some ⟨b3, 0, none⟩)), (8, .int .i64 (k : Int)), (9, .int .i64 (toW d k : Int))]) g ∧ M = [(b3, gc ((n : Int) - 1) (tab (wthK x d r k)) (tab (wthK o d r k))), (b2, gc 0 z8 z8), (b1, gc (n : Int) x o)]) ?_ ?_
      · refine Cd.rs [1, 2, 3, 6, 7, 8, 9, 23] fun K hK => ?_
        simp (maxSteps := 2000000) (disch := first | (simp only [E4, hl, hm, nb2_b1, nb3_b2, nb3_b1] <;> omega) | omega | fail) only [↓E2, E3, bare, bareJ, ↓E0, E1, evP, evPlan, env0, envN, evOps, evOp, evQs, evQ, evV, setD, pureOp, ev, upd, updL, gate, binW, eqOp, binV, intOp, shOp, boolOp, unV, convV, nilV, fieldAddrV, indexAddrV, extractV, cellAt, cellsAt, findB, setB, fillL, buildV, Value.cells, lenV, minV, maxV, hav, sliceV, loV, hiV, bslQ, mksQ, appQ, partsOk, partsCells, delB, eqL, SameI, strOp, apzQ, cvtQ, capV, ↓reduceIte, Zj, Zk, Nat.reduceAdd, Nat.reduceLT, Nat.reduceEqDiff, Nat.reduceMul, Nat.reduceLeDiff, if_true, Zn, reduceCtorEq, ZA, eq_self, Int.reduceLE, Int.reduceLT, Int.reduceToNat, ne_eq, Nat.reduceSub, hl, hm, nb2_b1, nb3_b2, nb3_b1]
        repeat refine And.intro (by omega) ?_
        intro g
        simp only [List.map_cons, List.map_nil, updL, upd, Nat.reduceEqDiff, if_true, if_false, ↓reduceIte]
        refine hK _ _ ?_; clear hK K
        refine Cd.condd rfl (fun h2 => ?_) (fun h2 => ?_)
        · refine Cd.rr [1, 2, 3, 6, 7, 8, 9] fun K hK => ?_
          simp (maxSteps := 2000000) (disch := first | (simp only [E4, hl, hm, nb2_b1, nb3_b2, nb3_b1] <;> omega) | omega | fail) only [↓E2, E3, bare, bareJ, ↓E0, E1, evP, evPlan, env0, envN, evOps, evOp, evQs, evQ, evV, setD, pureOp, ev, upd, updL, gate, binW, eqOp, binV, intOp, shOp, boolOp, unV, convV, nilV, fieldAddrV, indexAddrV, extractV, cellAt, cellsAt, findB, setB, fillL, buildV, Value.cells, lenV, minV, maxV, hav, sliceV, loV, hiV, bslQ, mksQ, appQ, partsOk, partsCells, delB, eqL, SameI, strOp, apzQ, cvtQ, capV, ↓reduceIte, Zj, Zk, Nat.reduceAdd, Nat.reduceLT, Nat.reduceEqDiff, Nat.reduceMul, Nat.reduceLeDiff, if_true, Zn, reduceCtorEq, ZA, eq_self, Int.reduceLE, Int.reduceLT, Int.reduceToNat, ne_eq, Nat.reduceSub, hl, hm, nb2_b1, nb3_b2, nb3_b1]
          rw [show (k : Int) - 1 = (toW d k : Int) by unfold toW; rw [if_pos (by omega)]; omega]
          repeat refine And.intro (by omega) ?_
          intro g
          simp only [List.map_cons, List.map_nil, updL, upd, Nat.reduceEqDiff, if_true, if_false, ↓reduceIte]
          refine hK _ _ ?_; clear hK K
          exact midN ⟨_, rfl, rfl⟩
        · rw [show toW d k = k by unfold toW; rw [if_neg (by omega)]]
          refine Cd.skip ?_
          exact midN ⟨_, (norm_of (by repeat (first | exact trivial | refine And.intro rfl ?_))), rfl⟩
      · rintro ρ M ⟨g, rfl, rfl⟩
        have ht : toW d k ≤ 7 := by unfold toW; split <;> omega
        refine Cd.rs [1, 2, 3, 6, 7, 8, 9, 28] fun K hK => ?_
        simp (maxSteps := 2000000) (disch := first | (simp only [E4, hl, hm, nb2_b1, nb3_b2, nb3_b1] <;> omega) | omega | fail) only [↓E2, E3, bare, bareJ, ↓E0, E1, evP, evPlan, env0, envN, evOps, evOp, evQs, evQ, evV, setD, pureOp, ev, upd, updL, gate, binW, eqOp, binV, intOp, shOp, boolOp, unV, convV, nilV, fieldAddrV, indexAddrV, extractV, cellAt, cellsAt, findB, setB, fillL, buildV, Value.cells, lenV, minV, maxV, hav, sliceV, loV, hiV, bslQ, mksQ, appQ, partsOk, partsCells, delB, eqL, SameI, strOp, apzQ, cvtQ, capV, ↓reduceIte, Zj, Zk, Nat.reduceAdd, Nat.reduceLT, Nat.reduceEqDiff, Nat.reduceMul, Nat.reduceLeDiff, if_true, Zn, reduceCtorEq, ZA, eq_self, Int.reduceLE, Int.reduceLT, Int.reduceToNat, ne_eq, Nat.reduceSub, hl, hm, nb2_b1, nb3_b2, nb3_b1]
        repeat refine And.intro (by omega) ?_
        intro g
        simp only [List.map_cons, List.map_nil, updL, upd, Nat.reduceEqDiff, if_true, if_false, ↓reduceIte]
        refine hK _ _ ?_; clear hK K
        refine Cd.cond rfl (fun h3 => ?_) (fun h3 => ?_)
        · simp only [decide_eq_true_eq, decide_eq_false_iff_not, beq_iff_eq, beq_eq_false_iff_ne, bne_iff_ne, bne_eq_false_iff_eq, Bool.and_eq_true, Bool.or_eq_true, Bool.or_eq_false_iff, Bool.not_eq_true', Bool.not_eq_false', Bool.and_eq_false_imp, ne_eq, gt_iff_lt, ge_iff_le, Int.not_lt, Int.not_le, Classical.not_not] at h3
          have h3 : k ≠ d := by omega
          refine Cd.rs [1, 2, 3, 6, 7, 8, 9] fun K hK => ?_
          simp (maxSteps := 2000000) (disch := first | (simp only [E4, hl, hm, nb2_b1, nb3_b2, nb3_b1] <;> omega) | omega | fail) only [↓E2, E3, bare, bareJ, ↓E0, E1, evP, evPlan, env0, envN, evOps, evOp, evQs, evQ, evV, setD, pureOp, ev, upd, updL, gate, binW, eqOp, binV, intOp, shOp, boolOp, unV, convV, nilV, fieldAddrV, indexAddrV, extractV, cellAt, cellsAt, findB, setB, fillL, buildV, Value.cells, lenV, minV, maxV, hav, sliceV, loV, hiV, bslQ, mksQ, appQ, partsOk, partsCells, delB, eqL, SameI, strOp, apzQ, cvtQ, capV, ↓reduceIte, Zj, Zk, Nat.reduceAdd, Nat.reduceLT, Nat.reduceEqDiff, Nat.reduceMul, Nat.reduceLeDiff, if_true, Zn, reduceCtorEq, ZA, eq_self, Int.reduceLE, Int.reduceLT, Int.reduceToNat, ne_eq, Nat.reduceSub, Tarr30, Tfld32_1, Tld5, Tst5, hl, hm, nb2_b1, nb3_b2, nb3_b1]
          repeat refine And.intro (by omega) ?_
          refine callK_gives (l02Lowered_c _ _ (by omega) (by omega) hr) ?_
          simp (maxSteps := 2000000) (disch := first | (simp only [E4, hl, hm, nb2_b1, nb3_b2, nb3_b1] <;> omega) | omega | fail) only [↓E2, E3, bare, bareJ, ↓E0, E1, evP, evPlan, env0, envN, evOps, evOp, evQs, evQ, evV, setD, pureOp, ev, upd, updL, gate, binW, eqOp, binV, intOp, shOp, boolOp, unV, convV, nilV, fieldAddrV, indexAddrV, extractV, cellAt, cellsAt, findB, setB, fillL, buildV, Value.cells, lenV, minV, maxV, hav, sliceV, loV, hiV, bslQ, mksQ, appQ, partsOk, partsCells, delB, eqL, SameI, strOp, apzQ, cvtQ, capV, ↓reduceIte, Zj, Zk, Nat.reduceAdd, Nat.reduceLT, Nat.reduceEqDiff, Nat.reduceMul, Nat.reduceLeDiff, if_true, Zn, reduceCtorEq, ZA, eq_self, Int.reduceLE, Int.reduceLT, Int.reduceToNat, ne_eq, Nat.reduceSub, Tarr30, Tfld32_1, Tld5, Tst5, hl, hm, nb2_b1, nb3_b2, nb3_b1]
          repeat refine And.intro (by omega) ?_
          rw [show (tab (wthK x d r k)).set (toW d k) (lowF r (x.getD k 0)) = _ from wthK_set h3 rfl]
          repeat refine And.intro (by omega) ?_
          intro g
          simp only [List.map_cons, List.map_nil, updL, upd, Nat.reduceEqDiff, if_true, if_false, ↓reduceIte]
          refine hK _ _ ?_; clear hK K
          refine Cd.rr [1, 2, 3, 6, 7, 8] fun K hK => ?_
          simp (maxSteps := 2000000) (disch := first | (simp only [E4, hl, hm, nb2_b1, nb3_b2, nb3_b1] <;> omega) | omega | fail) only [↓E2, E3, bare, bareJ, ↓E0, E1, evP, evPlan, env0, envN, evOps, evOp, evQs, evQ, evV, setD, pureOp, ev, upd, updL, gate, binW, eqOp, binV, intOp, shOp, boolOp, unV, convV, nilV, fieldAddrV, indexAddrV, extractV, cellAt, cellsAt, findB, setB, fillL, buildV, Value.cells, lenV, minV, maxV, hav, sliceV, loV, hiV, bslQ, mksQ, appQ, partsOk, partsCells, delB, eqL, SameI, strOp, apzQ, cvtQ, capV, ↓reduceIte, Zj, Zk, Nat.reduceAdd, Nat.reduceLT, Nat.reduceEqDiff, Nat.reduceMul, Nat.reduceLeDiff, if_true, Zn, reduceCtorEq, ZA, eq_self, Int.reduceLE, Int.reduceLT, Int.reduceToNat, ne_eq, Nat.reduceSub, Tarr30, Tfld32_2, Tld5, Tst5, hl, hm, nb2_b1, nb3_b2, nb3_b1]
          repeat refine And.intro (by omega) ?_
          refine callK_gives (l02Lowered_c _ _ (by omega) (by omega) hr) ?_
          simp (maxSteps := 2000000) (disch := first | (simp only [E4, hl, hm, nb2_b1, nb3_b2, nb3_b1] <;> omega) | omega | fail) only [↓E2, E3, bare, bareJ, ↓E0, E1, evP, evPlan, env0, envN, evOps, evOp, evQs, evQ, evV, setD, pureOp, ev, upd, updL, gate, binW, eqOp, binV, intOp, shOp, boolOp, unV, convV, nilV, fieldAddrV, indexAddrV, extractV, cellAt, cellsAt, findB, setB, fillL, buildV, Value.cells, lenV, minV, maxV, hav, sliceV, loV, hiV, bslQ, mksQ, appQ, partsOk, partsCells, delB, eqL, SameI, strOp, apzQ, cvtQ, capV, ↓reduceIte, Zj, Zk, Nat.reduceAdd, Nat.reduceLT, Nat.reduceEqDiff, Nat.reduceMul, Nat.reduceLeDiff, if_true, Zn, reduceCtorEq, ZA, eq_self, Int.reduceLE, Int.reduceLT, Int.reduceToNat, ne_eq, Nat.reduceSub, Tarr30, Tfld32_2, Tld5, Tst5, hl, hm, nb2_b1, nb3_b2, nb3_b1]
          repeat refine And.intro (by omega) ?_
          rw [show (tab (wthK o d r k)).set (toW d k) (lowF r (o.getD k 0)) = _ from wthK_set h3 rfl]
          repeat refine And.intro (by omega) ?_
          intro g
          simp only [List.map_cons, List.map_nil, updL, upd, Nat.reduceEqDiff, if_true, if_false, ↓reduceIte]
          refine hK _ _ ?_; clear hK K
          refine inBN ?_
          exact midN ⟨_, rfl, rfl⟩
        · simp only [decide_eq_true_eq, decide_eq_false_iff_not, beq_iff_eq, beq_eq_false_iff_ne, bne_iff_ne, bne_eq_false_iff_eq, Bool.and_eq_true, Bool.or_eq_true, Bool.or_eq_false_iff, Bool.not_eq_true', Bool.not_eq_false', Bool.and_eq_false_imp, ne_eq, gt_iff_lt, ge_iff_le, Int.not_lt, Int.not_le, Classical.not_not] at h3
          have h3 : k = d := by omega
          rw [wthK_same h3, wthK_same h3]
          refine Cd.skip ?_
          refine inBN ?_
          exact midN ⟨_, (norm_of (by repeat (first | exact trivial | refine And.intro rfl ?_))), rfl⟩
    · rintro ρ M ⟨g, rfl, rfl⟩
      refine Cd.rr [1, 2, 3, 6, 7, 8] fun K hK => ?_
      simp (maxSteps := 2000000) (disch := first | (simp only [E4, hl, hm, nb2_b1, nb3_b2, nb3_b1] <;> omega) | omega | fail) only [↓E2, E3, bare, bareJ, ↓E0, E1, evP, evPlan, env0, envN, evOps, evOp, evQs, evQ, evV, setD, pureOp, ev, upd, updL, gate, binW, eqOp, binV, intOp, shOp, boolOp, unV, convV, nilV, fieldAddrV, indexAddrV, extractV, cellAt, cellsAt, findB, setB, fillL, buildV, Value.cells, lenV, minV, maxV, hav, sliceV, loV, hiV, bslQ, mksQ, appQ, partsOk, partsCells, delB, eqL, SameI, strOp, apzQ, cvtQ, capV, ↓reduceIte, Zj, Zk, Nat.reduceAdd, Nat.reduceLT, Nat.reduceEqDiff, Nat.reduceMul, Nat.reduceLeDiff, if_true, Zn, reduceCtorEq, ZA, eq_self, Int.reduceLE, Int.reduceLT, Int.reduceToNat, ne_eq, Nat.reduceSub, hl, hm, nb2_b1, nb3_b2, nb3_b1]
      repeat refine And.intro (by omega) ?_
      intro g
      simp only [List.map_cons, List.map_nil, updL, upd, Nat.reduceEqDiff, if_true, if_false, ↓reduceIte]
      refine hK _ _ ?_; clear hK K
      refine roundN (m := m - 1) (by omega) ⟨_, k + 1, by omega, rfl, rfl⟩
  · refine Cd.exit (thenX (roundX (inBX ?_)))
    refine thenN ?_
    obtain rfl : k = n := by omega
    refine Cd.rs [6] fun K hK => ?_
    simp (maxSteps := 2000000) (disch := first | (simp only [E4, hl, hm, nb2_b1, nb3_b2, nb3_b1] <;> omega) | omega | fail) only [↓E2, E3, bare, bareJ, ↓E0, E1, evP, evPlan, env0, envN, evOps, evOp, evQs, evQ, evV, setD, pureOp, ev, upd, updL, gate, binW, eqOp, binV, intOp, shOp, boolOp, unV, convV, nilV, fieldAddrV, indexAddrV, extractV, cellAt, cellsAt, findB, setB, fillL, buildV, Value.cells, lenV, minV, maxV, hav, sliceV, loV, hiV, bslQ, mksQ, appQ, partsOk, partsCells, delB, eqL, SameI, strOp, apzQ, cvtQ, capV, ↓reduceIte, Zj, Zk, Nat.reduceAdd, Nat.reduceLT, Nat.reduceEqDiff, Nat.reduceMul, Nat.reduceLeDiff, if_true, Zn, reduceCtorEq, ZA, eq_self, Int.reduceLE, Int.reduceLT, Int.reduceToNat, ne_eq, Nat.reduceSub, Tld32, Tst32, hl, hm, nb2_b1, nb3_b2, nb3_b1]
    repeat refine And.intro (by omega) ?_
    intro g
    simp only [List.map_cons, List.map_nil, updL, upd, Nat.reduceEqDiff, if_true, if_false, ↓reduceIte]
    refine hK _ _ ?_; clear hK K
    refine Cd.ret ?_
    simp (maxSteps := 2000000) (disch := first | (simp only [E4, hl, hm, nb2_b1, nb3_b2, nb3_b1] <;> omega) | omega | fail) only [↓E2, E3, bare, bareJ, ↓E0, E1, evP, evPlan, env0, envN, evOps, evOp, evQs, evQ, evV, setD, pureOp, ev, upd, updL, gate, binW, eqOp, binV, intOp, shOp, boolOp, unV, convV, nilV, fieldAddrV, indexAddrV, extractV, cellAt, cellsAt, findB, setB, fillL, buildV, Value.cells, lenV, minV, maxV, hav, sliceV, loV, hiV, bslQ, mksQ, appQ, partsOk, partsCells, delB, eqL, SameI, strOp, apzQ, cvtQ, capV, ↓reduceIte, Zj, Zk, Nat.reduceAdd, Nat.reduceLT, Nat.reduceEqDiff, Nat.reduceMul, Nat.reduceLeDiff, if_true, Zn, reduceCtorEq, ZA, eq_self, Int.reduceLE, Int.reduceLT, Int.reduceToNat, ne_eq, Nat.reduceSub, Tld32, hl, hm, nb2_b1, nb3_b2, nb3_b1]

end Go.Proofs

/-
  What the functions of this part hand back: each as a plain function of its arguments. Conditions: none.
-/
namespace Go.Proofs
open Go.W8
set_option linter.unusedVariables false
set_option linter.unusedSimpArgs false
set_option linter.unusedSectionVars false
set_option maxRecDepth 8000
set_option maxHeartbeats 4000000
def backR (n : Nat) (x o : List Int) (i : Nat) (r : Int) : Value :=
  match bkFind x o i r with
  | some k => .tuple #[.agg (gc ((n : Int) - 1) (oldX x i r n k) (oldX o i r n k)).toArray, .agg #[.int .i64 2, .int .i64 (i : Int), .int .i64 0, .int .i64 ((k % 2 : Nat) : Int), .int .i64 ((k / 2 % 2 : Nat) : Int), .int .i64 ((k / 4 : Nat) : Int)], .bool true]
  | none => .tuple #[.agg (gc 0 z8 z8).toArray, .agg #[.int .i64 0, .int .i64 0, .int .i64 0, .int .i64 0, .int .i64 0, .int .i64 0], .bool false]
def ownM (m : Nat) (x o : List Int) : List Int := if m = 0 then x else o
theorem ownM_bytes {m : Nat} {x o : List Int} (hx : Bytes8 x) (ho : Bytes8 o) : Bytes8 (ownM m x o) := by
  unfold ownM
  split
  · exact hx
  · exact ho
theorem bk_back {x o : List Int} {i m rt u : Nat} {r : Int} (hm : m ≤ 1) (hrt : rt ≤ 1) (hu : u ≤ 1) : bk x o i r (m + 2 * rt + 4 * u) = decide (Back (ownM m x o) (ownM m o x) i r rt u) := by
  have e1 : (m + 2 * rt + 4 * u) % 2 = m := by omega
  have e2 : (m + 2 * rt + 4 * u) / 2 % 2 = rt := by omega
  have e3 : (m + 2 * rt + 4 * u) / 4 = u := by omega
  unfold bk ownM
  rw [e1, e2, e3]
  by_cases h : m = 0
  · rw [if_pos h, if_pos h, if_pos h]
  · rw [if_neg h, if_neg h, if_neg h]
theorem bytes_set {x : List Int} (hx : Bytes8 x) {i : Nat} {v : Int} (h0 : 0 ≤ v) (h1 : v < 256) : Bytes8 (x.set i v) := by
  refine ⟨by rw [List.length_set]; exact hx.len, fun a ha => ?_, fun a ha => ?_⟩
  · rcases List.mem_or_eq_of_mem_set ha with h | rfl
    · exact hx.lo a h
    · exact h0
  · rcases List.mem_or_eq_of_mem_set ha with h | rfl
    · exact hx.hi a h
    · exact h1

section
variable (n : Nat) (x o : List Int) (hx : Bytes8 x) (ho : Bytes8 o) (hn : n ≤ 8) (px : IsPerm x n) (po : IsPerm o n) (hd : ∀ c, c < n → x.getD c 0 ≠ o.getD c 0) (i : Nat) (hi : i + 1 < n) (r : Int) (hr0 : 0 ≤ r) (hr : r + 1 < n)
include hx ho hn px po hd hi hr0 hr
theorem bk_small (h3 : n < 3) : bkFind x o i r = none := by
  refine bkFind_none fun k hk => ?_
  have h0 : ∀ c, c < n → 0 ≤ x.getD c 0 := fun c hc => (bytes_get hx (by omega)).1
  have h0' : ∀ c, c < n → 0 ≤ o.getD c 0 := fun c hc => (bytes_get ho (by omega)).1
  cases hb : bk x o i r k with
  | false => rfl
  | true =>
    exfalso
    unfold bk at hb
    split at hb
    · have := back_three hx.len ho.len hn px po h0 h0' hd hi hr0 hr hk px po h0 h0' (by omega) (by omega) (of_decide_eq_true hb)
      omega
    · have := back_three hx.len ho.len hn px po h0 h0' hd hi hr0 hr hk po px h0' h0 (by omega) (by omega) (of_decide_eq_true hb)
      omega

theorem l02Back_c : Gives Try.prog 96 #[.agg (gc (n : Int) x o).toArray, .int .i64 (i : Int), .int .i64 r] (backR n x o i r) := by
  have hl := hx.len
  have hm := ho.len
  have h0 : ∀ c, c < n → 0 ≤ x.getD c 0 := fun c hc => (bytes_get hx (by omega)).1
  have h0' : ∀ c, c < n → 0 ≤ o.getD c 0 := fun c hc => (bytes_get ho (by omega)).1
  skip
  refine Gives.of fun w => ?_
  refine acall_of (N := 130) (c := _) (rs := [.cell 6 32, .cell 7 93, .tmp 8]) (args := [_, _, _]) Try.func96 rfl (by decide) rfl rfl (Nat.le_of_ble_eq_true rfl) ?_
  refine Cd.rs [1, 2, 3, 6, 7] fun K hK => ?_
  simp (maxSteps := 2000000) (disch := first | (simp only [E4, hl, hm] <;> omega) | omega | fail) only [↓E2, E3, bare, bareJ, ↓E0, E1, evP, evPlan, env0, envN, evOps, evOp, evQs, evQ, evV, setD, pureOp, ev, upd, updL, gate, binW, eqOp, binV, intOp, shOp, boolOp, unV, convV, nilV, fieldAddrV, indexAddrV, extractV, cellAt, cellsAt, findB, setB, fillL, buildV, Value.cells, lenV, minV, maxV, hav, sliceV, loV, hiV, bslQ, mksQ, appQ, partsOk, partsCells, delB, eqL, SameI, strOp, apzQ, cvtQ, capV, ↓reduceIte, Zj, Zk, Nat.reduceAdd, Nat.reduceLT, Nat.reduceEqDiff, Nat.reduceMul, Nat.reduceLeDiff, if_true, Zn, reduceCtorEq, ZA, eq_self, Int.reduceLE, Int.reduceLT, Int.reduceToNat, ne_eq, Nat.reduceSub, Tzero32, Tzero93, hl, hm]
  repeat refine And.intro (by omega) ?_
  intro b1 hb1
  intro b2 hb2
  have nb2_b1 := hb2.ne
  intro b3 hb3
  have nb3_b2 := hb3.ne
  have nb3_b1 := hb3.tail.ne
  try simp (maxSteps := 2000000) (disch := first | (simp only [E4, hl, hm, nb2_b1, nb3_b2, nb3_b1] <;> omega) | omega | fail) only [↓E2, E3, bare, bareJ, ↓E0, E1, evP, evPlan, env0, envN, evOps, evOp, evQs, evQ, evV, setD, pureOp, ev, upd, updL, gate, binW, eqOp, binV, intOp, shOp, boolOp, unV, convV, nilV, fieldAddrV, indexAddrV, extractV, cellAt, cellsAt, findB, setB, fillL, buildV, Value.cells, lenV, minV, maxV, hav, sliceV, loV, hiV, bslQ, mksQ, appQ, partsOk, partsCells, delB, eqL, SameI, strOp, apzQ, cvtQ, capV, ↓reduceIte, Zj, Zk, Nat.reduceAdd, Nat.reduceLT, Nat.reduceEqDiff, Nat.reduceMul, Nat.reduceLeDiff, if_true, Zn, reduceCtorEq, ZA, eq_self, Int.reduceLE, Int.reduceLT, Int.reduceToNat, ne_eq, Nat.reduceSub, Tzero32, Tzero93, hl, hm, nb2_b1, nb3_b2, nb3_b1]
  repeat refine And.intro (by omega) ?_
  intro g
  simp only [List.map_cons, List.map_nil, updL, upd, Nat.reduceEqDiff, if_true, if_false, ↓reduceIte]
  refine hK _ _ ?_; clear hK K
  refine Cd.seq ?_
  refine Cd.rs [1, 2, 3, 6, 7, 17] fun K hK => ?_
  simp (maxSteps := 2000000) (disch := first | (simp only [E4, hl, hm, nb2_b1, nb3_b2, nb3_b1] <;> omega) | omega | fail) only [↓E2, E3, bare, bareJ, ↓E0, E1, evP, evPlan, env0, envN, evOps, evOp, evQs, evQ, evV, setD, pureOp, ev, upd, updL, gate, binW, eqOp, binV, intOp, shOp, boolOp, unV, convV, nilV, fieldAddrV, indexAddrV, extractV, cellAt, cellsAt, findB, setB, fillL, buildV, Value.cells, lenV, minV, maxV, hav, sliceV, loV, hiV, bslQ, mksQ, appQ, partsOk, partsCells, delB, eqL, SameI, strOp, apzQ, cvtQ, capV, ↓reduceIte, Zj, Zk, Nat.reduceAdd, Nat.reduceLT, Nat.reduceEqDiff, Nat.reduceMul, Nat.reduceLeDiff, if_true, Zn, reduceCtorEq, ZA, eq_self, Int.reduceLE, Int.reduceLT, Int.reduceToNat, ne_eq, Nat.reduceSub, Tfld32_0, Tld2, hl, hm, nb2_b1, nb3_b2, nb3_b1]
  repeat refine And.intro (by omega) ?_
  intro g
  simp only [List.map_cons, List.map_nil, updL, upd, Nat.reduceEqDiff, if_true, if_false, ↓reduceIte]
  refine hK _ _ ?_; clear hK K
  refine Cd.condd rfl (fun h1 => ?_) (fun h1 => ?_)
  · refine Cd.rs [6, 7, 8] fun K hK => ?_
    simp (maxSteps := 2000000) (disch := first | (simp only [E4, hl, hm, nb2_b1, nb3_b2, nb3_b1] <;> omega) | omega | fail) only [↓E2, E3, bare, bareJ, ↓E0, E1, evP, evPlan, env0, envN, evOps, evOp, evQs, evQ, evV, setD, pureOp, ev, upd, updL, gate, binW, eqOp, binV, intOp, shOp, boolOp, unV, convV, nilV, fieldAddrV, indexAddrV, extractV, cellAt, cellsAt, findB, setB, fillL, buildV, Value.cells, lenV, minV, maxV, hav, sliceV, loV, hiV, bslQ, mksQ, appQ, partsOk, partsCells, delB, eqL, SameI, strOp, apzQ, cvtQ, capV, ↓reduceIte, Zj, Zk, Nat.reduceAdd, Nat.reduceLT, Nat.reduceEqDiff, Nat.reduceMul, Nat.reduceLeDiff, if_true, Zn, reduceCtorEq, ZA, eq_self, Int.reduceLE, Int.reduceLT, Int.reduceToNat, ne_eq, Nat.reduceSub, Tbld32, Tbld93, Tst32, Tst93, hl, hm, nb2_b1, nb3_b2, nb3_b1]
    repeat refine And.intro (by omega) ?_
    intro g
    simp only [List.map_cons, List.map_nil, updL, upd, Nat.reduceEqDiff, if_true, if_false, ↓reduceIte]
    refine hK _ _ ?_; clear hK K
    refine Cd.ret (thenR ?_)
    simp (maxSteps := 2000000) (disch := first | (simp only [E4, hl, hm, nb2_b1, nb3_b2, nb3_b1] <;> omega) | omega | fail) only [↓E2, E3, bare, bareJ, ↓E0, E1, evP, evPlan, env0, envN, evOps, evOp, evQs, evQ, evV, setD, pureOp, ev, upd, updL, gate, binW, eqOp, binV, intOp, shOp, boolOp, unV, convV, nilV, fieldAddrV, indexAddrV, extractV, cellAt, cellsAt, findB, setB, fillL, buildV, Value.cells, lenV, minV, maxV, hav, sliceV, loV, hiV, bslQ, mksQ, appQ, partsOk, partsCells, delB, eqL, SameI, strOp, apzQ, cvtQ, capV, ↓reduceIte, Zj, Zk, Nat.reduceAdd, Nat.reduceLT, Nat.reduceEqDiff, Nat.reduceMul, Nat.reduceLeDiff, if_true, Zn, reduceCtorEq, ZA, eq_self, Int.reduceLE, Int.reduceLT, Int.reduceToNat, ne_eq, Nat.reduceSub, Tld32, Tld93, hl, hm, nb2_b1, nb3_b2, nb3_b1]
    unfold backR
    rw [bk_small n x o hx ho hn px po hd i hi r hr0 hr (by omega)]
  · refine Cd.skip ?_
    refine thenN ?_
    refine Cd.seq ?_
    refine Cd.rs [1, 2, 3, 6, 7, 9] fun K hK => ?_
    simp (maxSteps := 2000000) (disch := first | (simp only [E4, hl, hm, nb2_b1, nb3_b2, nb3_b1] <;> omega) | omega | fail) only [↓E2, E3, bare, bareJ, ↓E0, E1, evP, evPlan, env0, envN, evOps, evOp, evQs, evQ, evV, setD, pureOp, ev, upd, updL, gate, binW, eqOp, binV, intOp, shOp, boolOp, unV, convV, nilV, fieldAddrV, indexAddrV, extractV, cellAt, cellsAt, findB, setB, fillL, buildV, Value.cells, lenV, minV, maxV, hav, sliceV, loV, hiV, bslQ, mksQ, appQ, partsOk, partsCells, delB, eqL, SameI, strOp, apzQ, cvtQ, capV, ↓reduceIte, Zj, Zk, Nat.reduceAdd, Nat.reduceLT, Nat.reduceEqDiff, Nat.reduceMul, Nat.reduceLeDiff, if_true, Zn, reduceCtorEq, ZA, eq_self, Int.reduceLE, Int.reduceLT, Int.reduceToNat, ne_eq, Nat.reduceSub, hl, hm, nb2_b1, nb3_b2, nb3_b1]
    repeat refine And.intro (by omega) ?_
    intro g
    simp only [List.map_cons, List.map_nil, updL, upd, Nat.reduceEqDiff, if_true, if_false, ↓reduceIte]
    refine hK _ _ ?_; clear hK K
    refine Cd.block ?_
    refine Cd.loop (fun q ρ M => ∃ g m, m + q = 2 ∧ (∀ m' rt u, m' < m → rt ≤ 1 → u ≤ 1 → bk x o i r (m' + 2 * rt + 4 * u) = false) ∧ ρ = updL ([(1, .int .i64 (i : Int)), (2, .int .i64 r), (3, .pointer (some ⟨b1, 0, none⟩)), (6, .pointer (some ⟨b2, 0, none⟩)), (7, .pointer (some ⟨b3, 0, none⟩)), (9, .int .i64 (m : Int))]) g ∧ List.Sublist [(b3, [.int .i64 0, .int .i64 0, .int .i64 0, .int .i64 0, .int .i64 0, .int .i64 0]), (b2, gc 0 z8 z8), (b1, gc (n : Int) x o)] M) 2 ⟨_, 0, Nat.zero_add _, (fun _ _ _ h => absurd h (Nat.not_lt_zero _)), rfl, List.Sublist.refl _⟩ ?_
    rintro q ρ M ⟨g, m, hq, hno, rfl, hM⟩
    refine Cd.drop hM ?_
    clear hM M
    refine Cd.seq ?_
    refine Cd.rs [1, 2, 3, 6, 7, 9, 21] fun K hK => ?_
    simp (maxSteps := 2000000) (disch := first | (simp only [E4, hl, hm, nb2_b1, nb3_b2, nb3_b1] <;> omega) | omega | fail) only [↓E2, E3, bare, bareJ, ↓E0, E1, evP, evPlan, env0, envN, evOps, evOp, evQs, evQ, evV, setD, pureOp, ev, upd, updL, gate, binW, eqOp, binV, intOp, shOp, boolOp, unV, convV, nilV, fieldAddrV, indexAddrV, extractV, cellAt, cellsAt, findB, setB, fillL, buildV, Value.cells, lenV, minV, maxV, hav, sliceV, loV, hiV, bslQ, mksQ, appQ, partsOk, partsCells, delB, eqL, SameI, strOp, apzQ, cvtQ, capV, ↓reduceIte, Zj, Zk, Nat.reduceAdd, Nat.reduceLT, Nat.reduceEqDiff, Nat.reduceMul, Nat.reduceLeDiff, if_true, Zn, reduceCtorEq, ZA, eq_self, Int.reduceLE, Int.reduceLT, Int.reduceToNat, ne_eq, Nat.reduceSub, hl, hm, nb2_b1, nb3_b2, nb3_b1]
    repeat refine And.intro (by omega) ?_
    intro g
    simp only [List.map_cons, List.map_nil, updL, upd, Nat.reduceEqDiff, if_true, if_false, ↓reduceIte]
    refine hK _ _ ?_; clear hK K
    refine Cd.condd rfl (fun h2 => ?_) (fun h2 => ?_)
    · have hm1 : m ≤ 1 := by omega
      refine Cd.skip ?_
      refine thenN ?_
      refine Cd.seq ?_
      refine Cd.block ?_
      refine Cd.rs [1, 2, 3, 6, 7, 9, 10] fun K hK => ?_
      simp (maxSteps := 2000000) (disch := first | (simp only [E4, hl, hm, nb2_b1, nb3_b2, nb3_b1] <;> omega) | omega | fail) only [↓E2, E3, bare, bareJ, ↓E0, E1, evP, evPlan, env0, envN, evOps, evOp, evQs, evQ, evV, setD, pureOp, ev, upd, updL, gate, binW, eqOp, binV, intOp, shOp, boolOp, unV, convV, nilV, fieldAddrV, indexAddrV, extractV, cellAt, cellsAt, findB, setB, fillL, buildV, Value.cells, lenV, minV, maxV, hav, sliceV, loV, hiV, bslQ, mksQ, appQ, partsOk, partsCells, delB, eqL, SameI, strOp, apzQ, cvtQ, capV, ↓reduceIte, Zj, Zk, Nat.reduceAdd, Nat.reduceLT, Nat.reduceEqDiff, Nat.reduceMul, Nat.reduceLeDiff, if_true, Zn, reduceCtorEq, ZA, eq_self, Int.reduceLE, Int.reduceLT, Int.reduceToNat, ne_eq, Nat.reduceSub, hl, hm, nb2_b1, nb3_b2, nb3_b1]
      repeat refine And.intro (by omega) ?_
      intro g
      simp only [List.map_cons, List.map_nil, updL, upd, Nat.reduceEqDiff, if_true, if_false, ↓reduceIte]
      refine hK _ _ ?_; clear hK K
      refine Cd.block ?_
      refine Cd.loop (fun q ρ M => ∃ g rt, rt + q = 2 ∧ (∀ rt' u, rt' < rt → u ≤ 1 → bk x o i r (m + 2 * rt' + 4 * u) = false) ∧ ρ = updL ([(1, .int .i64 (i : Int)), (2, .int .i64 r), (3, .pointer (some ⟨b1, 0, none⟩)), (6, .pointer (some ⟨b2, 0, none⟩)), (7, .pointer (some ⟨b3, 0, none⟩)), (9, .int .i64 (m : Int)), (10, .int .i64 (rt : Int))]) g ∧ List.Sublist [(b3, [.int .i64 0, .int .i64 0, .int .i64 0, .int .i64 0, .int .i64 0, .int .i64 0]), (b2, gc 0 z8 z8), (b1, gc (n : Int) x o)] M) 2 ⟨_, 0, Nat.zero_add _, (fun _ _ h => absurd h (Nat.not_lt_zero _)), rfl, List.Sublist.refl _⟩ ?_
      rintro q2 ρ M ⟨g, rt, hq2, hno2, rfl, hM⟩
      refine Cd.drop hM ?_
      clear hM M
      refine Cd.seq ?_
      refine Cd.rs [1, 2, 3, 6, 7, 9, 10, 25] fun K hK => ?_
      simp (maxSteps := 2000000) (disch := first | (simp only [E4, hl, hm, nb2_b1, nb3_b2, nb3_b1] <;> omega) | omega | fail) only [↓E2, E3, bare, bareJ, ↓E0, E1, evP, evPlan, env0, envN, evOps, evOp, evQs, evQ, evV, setD, pureOp, ev, upd, updL, gate, binW, eqOp, binV, intOp, shOp, boolOp, unV, convV, nilV, fieldAddrV, indexAddrV, extractV, cellAt, cellsAt, findB, setB, fillL, buildV, Value.cells, lenV, minV, maxV, hav, sliceV, loV, hiV, bslQ, mksQ, appQ, partsOk, partsCells, delB, eqL, SameI, strOp, apzQ, cvtQ, capV, ↓reduceIte, Zj, Zk, Nat.reduceAdd, Nat.reduceLT, Nat.reduceEqDiff, Nat.reduceMul, Nat.reduceLeDiff, if_true, Zn, reduceCtorEq, ZA, eq_self, Int.reduceLE, Int.reduceLT, Int.reduceToNat, ne_eq, Nat.reduceSub, hl, hm, nb2_b1, nb3_b2, nb3_b1]
      repeat refine And.intro (by omega) ?_
      intro g
      simp only [List.map_cons, List.map_nil, updL, upd, Nat.reduceEqDiff, if_true, if_false, ↓reduceIte]
      refine hK _ _ ?_; clear hK K
      refine Cd.condd rfl (fun h3 => ?_) (fun h3 => ?_)
      · have hrt : rt ≤ 1 := by omega
        refine Cd.skip ?_
        refine thenN ?_
        refine Cd.seq ?_
        refine Cd.block ?_
        refine Cd.rs [1, 2, 3, 6, 7, 9, 10, 11] fun K hK => ?_
        simp (maxSteps := 2000000) (disch := first | (simp only [E4, hl, hm, nb2_b1, nb3_b2, nb3_b1] <;> omega) | omega | fail) only [↓E2, E3, bare, bareJ, ↓E0, E1, evP, evPlan, env0, envN, evOps, evOp, evQs, evQ, evV, setD, pureOp, ev, upd, updL, gate, binW, eqOp, binV, intOp, shOp, boolOp, unV, convV, nilV, fieldAddrV, indexAddrV, extractV, cellAt, cellsAt, findB, setB, fillL, buildV, Value.cells, lenV, minV, maxV, hav, sliceV, loV, hiV, bslQ, mksQ, appQ, partsOk, partsCells, delB, eqL, SameI, strOp, apzQ, cvtQ, capV, ↓reduceIte, Zj, Zk, Nat.reduceAdd, Nat.reduceLT, Nat.reduceEqDiff, Nat.reduceMul, Nat.reduceLeDiff, if_true, Zn, reduceCtorEq, ZA, eq_self, Int.reduceLE, Int.reduceLT, Int.reduceToNat, ne_eq, Nat.reduceSub, hl, hm, nb2_b1, nb3_b2, nb3_b1]
        repeat refine And.intro (by omega) ?_
        intro g
        simp only [List.map_cons, List.map_nil, updL, upd, Nat.reduceEqDiff, if_true, if_false, ↓reduceIte]
        refine hK _ _ ?_; clear hK K
        refine Cd.block ?_
        refine Cd.loop (fun q ρ M => ∃ g u, u + q = 2 ∧ (∀ u', u' < u → bk x o i r (m + 2 * rt + 4 * u') = false) ∧ ρ = updL ([(1, .int .i64 (i : Int)), (2, .int .i64 r), (3, .pointer (some ⟨b1, 0, none⟩)), (6, .pointer (some ⟨b2, 0, none⟩)), (7, .pointer (some ⟨b3, 0, none⟩)), (9, .int .i64 (m : Int)), (10, .int .i64 (rt : Int)), (11, .int .i64 (u : Int))]) g ∧ List.Sublist [(b3, [.int .i64 0, .int .i64 0, .int .i64 0, .int .i64 0, .int .i64 0, .int .i64 0]), (b2, gc 0 z8 z8), (b1, gc (n : Int) x o)] M) 2 ⟨_, 0, Nat.zero_add _, (fun _ h => absurd h (Nat.not_lt_zero _)), rfl, List.Sublist.refl _⟩ ?_
        rintro q3 ρ M ⟨g, u, hq3, hno3, rfl, hM⟩
        refine Cd.drop hM ?_
        clear hM M
        refine Cd.seq ?_
        refine Cd.rs [1, 2, 3, 6, 7, 9, 10, 11, 29] fun K hK => ?_
        simp (maxSteps := 2000000) (disch := first | (simp only [E4, hl, hm, nb2_b1, nb3_b2, nb3_b1] <;> omega) | omega | fail) only [↓E2, E3, bare, bareJ, ↓E0, E1, evP, evPlan, env0, envN, evOps, evOp, evQs, evQ, evV, setD, pureOp, ev, upd, updL, gate, binW, eqOp, binV, intOp, shOp, boolOp, unV, convV, nilV, fieldAddrV, indexAddrV, extractV, cellAt, cellsAt, findB, setB, fillL, buildV, Value.cells, lenV, minV, maxV, hav, sliceV, loV, hiV, bslQ, mksQ, appQ, partsOk, partsCells, delB, eqL, SameI, strOp, apzQ, cvtQ, capV, ↓reduceIte, Zj, Zk, Nat.reduceAdd, Nat.reduceLT, Nat.reduceEqDiff, Nat.reduceMul, Nat.reduceLeDiff, if_true, Zn, reduceCtorEq, ZA, eq_self, Int.reduceLE, Int.reduceLT, Int.reduceToNat, ne_eq, Nat.reduceSub, hl, hm, nb2_b1, nb3_b2, nb3_b1]
        repeat refine And.intro (by omega) ?_
        intro g
        simp only [List.map_cons, List.map_nil, updL, upd, Nat.reduceEqDiff, if_true, if_false, ↓reduceIte]
        refine hK _ _ ?_; clear hK K
        refine Cd.condd rfl (fun h4 => ?_) (fun h4 => ?_)
        · have hu : u ≤ 1 := by omega
          have hbk := bk_back (x := x) (o := o) (i := i) (r := r) hm1 hrt hu
          refine Cd.skip ?_
          refine thenN ?_
          refine Cd.seq ?_
          refine Cd.block ?_
          refine Cd.ps [1, 2, 3, 6, 7, 9, 10, 11, 12, 13] (Plan.take 0 (Plan.take 1 (Plan.take 2 (Plan.more 3 (Plan.more 4 (Plan.one 5 (Plan.one 6 (Plan.one 7 (Plan.done)))) (Plan.one 5 (Plan.one 4 (Plan.one 6 (Plan.one 7 (Plan.done)))))) (Plan.more 4 (Plan.more 3 (Plan.one 5 (Plan.one 6 (Plan.one 7 (Plan.done)))) (Plan.one 5 (Plan.more 3 (Plan.one 6 (Plan.one 7 (Plan.done))) (Plan.one 6 (Plan.take 3 (Plan.one 7 (Plan.done))))))) (Plan.one 5 (Plan.more 3 (Plan.one 4 (Plan.one 6 (Plan.one 7 (Plan.done)))) (Plan.one 4 (Plan.more 3 (Plan.one 6 (Plan.one 7 (Plan.done))) (Plan.one 6 (Plan.take 3 (Plan.one 7 (Plan.done))))))))))))) fol (by kernel_rfl) (Nat.le_of_ble_eq_true rfl) fun K hK => ?_
          have J : ∀ g c1 c2 M, [(c2, ints .u8 o), (c1, ints .u8 x), (b3, [.int .i64 0, .int .i64 0, .int .i64 0, .int .i64 0, .int .i64 0, .int .i64 0]), (b2, gc 0 z8 z8), (b1, gc (n : Int) x o)].Perm M → K (updL ([(1, .int .i64 (i : Int)), (2, .int .i64 r), (3, .pointer (some ⟨b1, 0, none⟩)), (6, .pointer (some ⟨b2, 0, none⟩)), (7, .pointer (some ⟨b3, 0, none⟩)), (9, .int .i64 (m : Int)), (10, .int .i64 (rt : Int)), (11, .int .i64 (u : Int)), (12, .pointer (some ⟨c1, 0, none⟩)), (13, .pointer (some ⟨c2, 0, none⟩))]) g) M := by
            intro g c1 c2 M hM
            refine hK _ _ (Cd.turn hM (Cd.nodup fun hnd => ?_)); clear hK K
            obtain ⟨⟨d1, d2, d3, d4⟩, ⟨d5, d6, d7⟩, _, _⟩ := nodup5 hnd
            clear hnd hM
            skip
            skip
            refine Cd.midq (fun ρ M => ∃ g, ρ = updL ([(1, .int .i64 (i : Int)), (2, .int .i64 r), (3, .pointer (some ⟨b1, 0, none⟩)), (6, .pointer (some ⟨b2, 0, none⟩)), (7, .pointer (some ⟨b3, 0, none⟩)), (9, .int .i64 (m : Int)), (10, .int .i64 (rt : Int)), (11, .int .i64 (u : Int)), (12, .pointer (some ⟨c1, 0, none⟩)), (13, .pointer (some ⟨c2, 0, none⟩))]) g ∧ M = [(c2, ints .u8 (ownM m o x)), (c1, ints .u8 (ownM m x o)), (b3, [.int .i64 0, .int .i64 0, .int .i64 0, .int .i64 0, .int .i64 0, .int .i64 0]), (b2, gc 0 z8 z8), (b1, gc (n : Int) x o)]) ?_ ?_
            · refine Cd.rs [1, 2, 3, 6, 7, 9, 10, 11, 12, 13, 37] fun K hK => ?_
              simp (maxSteps := 2000000) (disch := first | (simp only [E4, hl, hm, nb2_b1, nb3_b2, nb3_b1, d1, d2, d3, d4, d5, d6, d7] <;> omega) | omega | fail) only [↓E2, E3, bare, bareJ, ↓E0, E1, evP, evPlan, env0, envN, evOps, evOp, evQs, evQ, evV, setD, pureOp, ev, upd, updL, gate, binW, eqOp, binV, intOp, shOp, boolOp, unV, convV, nilV, fieldAddrV, indexAddrV, extractV, cellAt, cellsAt, findB, setB, fillL, buildV, Value.cells, lenV, minV, maxV, hav, sliceV, loV, hiV, bslQ, mksQ, appQ, partsOk, partsCells, delB, eqL, SameI, strOp, apzQ, cvtQ, capV, ↓reduceIte, Zj, Zk, Nat.reduceAdd, Nat.reduceLT, Nat.reduceEqDiff, Nat.reduceMul, Nat.reduceLeDiff, if_true, Zn, reduceCtorEq, ZA, eq_self, Int.reduceLE, Int.reduceLT, Int.reduceToNat, ne_eq, Nat.reduceSub, hl, hm, nb2_b1, nb3_b2, nb3_b1, d1, d2, d3, d4, d5, d6, d7]
              repeat refine And.intro (by omega) ?_
              intro g
              simp only [List.map_cons, List.map_nil, updL, upd, Nat.reduceEqDiff, if_true, if_false, ↓reduceIte]
              refine hK _ _ ?_; clear hK K
              refine Cd.cond rfl (fun h5 => ?_) (fun h5 => ?_)
              · simp only [decide_eq_true_eq, decide_eq_false_iff_not, beq_iff_eq, beq_eq_false_iff_ne, bne_iff_ne, bne_eq_false_iff_eq, Bool.and_eq_true, Bool.or_eq_true, Bool.or_eq_false_iff, Bool.not_eq_true', Bool.not_eq_false', Bool.and_eq_false_imp, ne_eq, gt_iff_lt, ge_iff_le, Int.not_lt, Int.not_le, Classical.not_not] at h5
                obtain rfl : m = 1 := by omega
                refine Cd.rs [1, 2, 3, 6, 7, 9, 10, 11, 12, 13] fun K hK => ?_
                simp (maxSteps := 2000000) (disch := first | (simp only [E4, hl, hm, nb2_b1, nb3_b2, nb3_b1, d1, d2, d3, d4, d5, d6, d7] <;> omega) | omega | fail) only [↓E2, E3, bare, bareJ, ↓E0, E1, evP, evPlan, env0, envN, evOps, evOp, evQs, evQ, evV, setD, pureOp, ev, upd, updL, gate, binW, eqOp, binV, intOp, shOp, boolOp, unV, convV, nilV, fieldAddrV, indexAddrV, extractV, cellAt, cellsAt, findB, setB, fillL, buildV, Value.cells, lenV, minV, maxV, hav, sliceV, loV, hiV, bslQ, mksQ, appQ, partsOk, partsCells, delB, eqL, SameI, strOp, apzQ, cvtQ, capV, ↓reduceIte, Zj, Zk, Nat.reduceAdd, Nat.reduceLT, Nat.reduceEqDiff, Nat.reduceMul, Nat.reduceLeDiff, if_true, Zn, reduceCtorEq, ZA, eq_self, Int.reduceLE, Int.reduceLT, Int.reduceToNat, ne_eq, Nat.reduceSub, Tfld32_2, Tld30, Tst30, hl, hm, nb2_b1, nb3_b2, nb3_b1, d1, d2, d3, d4, d5, d6, d7]
                repeat refine And.intro (by omega) ?_
                intro g
                simp only [List.map_cons, List.map_nil, updL, upd, Nat.reduceEqDiff, if_true, if_false, ↓reduceIte]
                refine hK _ _ ?_; clear hK K
                refine Cd.rr [1, 2, 3, 6, 7, 9, 10, 11, 12, 13] fun K hK => ?_
                simp (maxSteps := 2000000) (disch := first | (simp only [E4, hl, hm, nb2_b1, nb3_b2, nb3_b1, d1, d2, d3, d4, d5, d6, d7] <;> omega) | omega | fail) only [↓E2, E3, bare, bareJ, ↓E0, E1, evP, evPlan, env0, envN, evOps, evOp, evQs, evQ, evV, setD, pureOp, ev, upd, updL, gate, binW, eqOp, binV, intOp, shOp, boolOp, unV, convV, nilV, fieldAddrV, indexAddrV, extractV, cellAt, cellsAt, findB, setB, fillL, buildV, Value.cells, lenV, minV, maxV, hav, sliceV, loV, hiV, bslQ, mksQ, appQ, partsOk, partsCells, delB, eqL, SameI, strOp, apzQ, cvtQ, capV, ↓reduceIte, Zj, Zk, Nat.reduceAdd, Nat.reduceLT, Nat.reduceEqDiff, Nat.reduceMul, Nat.reduceLeDiff, if_true, Zn, reduceCtorEq, ZA, eq_self, Int.reduceLE, Int.reduceLT, Int.reduceToNat, ne_eq, Nat.reduceSub, Tfld32_1, Tld30, Tst30, hl, hm, nb2_b1, nb3_b2, nb3_b1, d1, d2, d3, d4, d5, d6, d7]
                repeat refine And.intro (by omega) ?_
                intro g
                simp only [List.map_cons, List.map_nil, updL, upd, Nat.reduceEqDiff, if_true, if_false, ↓reduceIte]
                refine hK _ _ ?_; clear hK K
                exact midN ⟨_, rfl, rfl⟩
              · simp only [decide_eq_true_eq, decide_eq_false_iff_not, beq_iff_eq, beq_eq_false_iff_ne, bne_iff_ne, bne_eq_false_iff_eq, Bool.and_eq_true, Bool.or_eq_true, Bool.or_eq_false_iff, Bool.not_eq_true', Bool.not_eq_false', Bool.and_eq_false_imp, ne_eq, gt_iff_lt, ge_iff_le, Int.not_lt, Int.not_le, Classical.not_not] at h5
                obtain rfl : m = 0 := by omega
                refine Cd.skip ?_
                exact midN ⟨_, (norm_of (by repeat (first | exact trivial | refine And.intro rfl ?_))), rfl⟩
            · rintro ρ M ⟨g, rfl, rfl⟩
              have xb := ownM_bytes (m := m) hx ho
              have ob := ownM_bytes (m := m) ho hx
              have xl := xb.len
              have ol := ob.len
              have e1 : ((i : Int) + (rt : Int)).toNat = i + rt := by omega
              have e2 : ((i : Int) + 1 - (rt : Int)).toNat = i + 1 - rt := by omega
              have g1 := bytes_get xb (i := i + rt) (by omega)
              have g2 := bytes_get xb (i := i + 1 - rt) (by omega)
              have g3 := bytes_get ob (i := i + rt) (by omega)
              have g4 := bytes_get ob (i := i + 1 - rt) (by omega)
              skip
              refine Cd.seq ?_
              refine Cd.rs [1, 2, 3, 6, 7, 9, 10, 11, 91] fun K hK => ?_
              simp (maxSteps := 2000000) (disch := first | (simp only [E4, hl, hm, nb2_b1, nb3_b2, nb3_b1, d1, d2, d3, d4, d5, d6, d7, xl, ol, e1, e2] <;> omega) | omega | fail) only [↓E2, E3, bare, bareJ, ↓E0, E1, evP, evPlan, env0, envN, evOps, evOp, evQs, evQ, evV, setD, pureOp, ev, upd, updL, gate, binW, eqOp, binV, intOp, shOp, boolOp, unV, convV, nilV, fieldAddrV, indexAddrV, extractV, cellAt, cellsAt, findB, setB, fillL, buildV, Value.cells, lenV, minV, maxV, hav, sliceV, loV, hiV, bslQ, mksQ, appQ, partsOk, partsCells, delB, eqL, SameI, strOp, apzQ, cvtQ, capV, ↓reduceIte, Zj, Zk, Nat.reduceAdd, Nat.reduceLT, Nat.reduceEqDiff, Nat.reduceMul, Nat.reduceLeDiff, if_true, Zn, reduceCtorEq, ZA, eq_self, Int.reduceLE, Int.reduceLT, Int.reduceToNat, ne_eq, Nat.reduceSub, Tarr30, Tint2, Tld5, Tpar5, hl, hm, nb2_b1, nb3_b2, nb3_b1, d1, d2, d3, d4, d5, d6, d7, xl, ol, e1, e2]
              repeat refine And.intro (by omega) ?_
              apply guardX_or 11 [54, 55, 56, 57, 58, 59, 60, 61, 62, 63, 64] (j := 11) (d := 53) (tp := 65) (tl := 64) rfl rfl rfl rfl rfl
              · intro hq
                simp (maxSteps := 2000000) (disch := first | (simp only [E4, hl, hm, nb2_b1, nb3_b2, nb3_b1, d1, d2, d3, d4, d5, d6, d7, xl, ol, e1, e2] <;> omega) | omega | fail) only [↓E2, E3, bare, bareJ, ↓E0, E1, evP, evPlan, env0, envN, evOps, evOp, evQs, evQ, evV, setD, pureOp, ev, upd, updL, gate, binW, eqOp, binV, intOp, shOp, boolOp, unV, convV, nilV, fieldAddrV, indexAddrV, extractV, cellAt, cellsAt, findB, setB, fillL, buildV, Value.cells, lenV, minV, maxV, hav, sliceV, loV, hiV, bslQ, mksQ, appQ, partsOk, partsCells, delB, eqL, SameI, strOp, apzQ, cvtQ, capV, ↓reduceIte, Zj, Zk, Nat.reduceAdd, Nat.reduceLT, Nat.reduceEqDiff, Nat.reduceMul, Nat.reduceLeDiff, if_true, Zn, reduceCtorEq, ZA, eq_self, Int.reduceLE, Int.reduceLT, Int.reduceToNat, ne_eq, Nat.reduceSub, Tarr30, Tint2, Tld5, Tpar5, hl, hm, nb2_b1, nb3_b2, nb3_b1, d1, d2, d3, d4, d5, d6, d7, xl, ol, e1, e2]
                repeat refine And.intro (by omega) ?_
                exact rfl
              intro g
              simp (maxSteps := 2000000) (disch := first | (simp only [E4, hl, hm, nb2_b1, nb3_b2, nb3_b1, d1, d2, d3, d4, d5, d6, d7, xl, ol, e1, e2] <;> omega) | omega | fail) only [↓E2, E3, bare, bareJ, ↓E0, E1, evP, evPlan, env0, envN, evOps, evOp, evQs, evQ, evV, setD, pureOp, ev, upd, updL, gate, binW, eqOp, binV, intOp, shOp, boolOp, unV, convV, nilV, fieldAddrV, indexAddrV, extractV, cellAt, cellsAt, findB, setB, fillL, buildV, Value.cells, lenV, minV, maxV, hav, sliceV, loV, hiV, bslQ, mksQ, appQ, partsOk, partsCells, delB, eqL, SameI, strOp, apzQ, cvtQ, capV, ↓reduceIte, Zj, Zk, Nat.reduceAdd, Nat.reduceLT, Nat.reduceEqDiff, Nat.reduceMul, Nat.reduceLeDiff, if_true, Zn, reduceCtorEq, ZA, eq_self, Int.reduceLE, Int.reduceLT, Int.reduceToNat, ne_eq, Nat.reduceSub, Tarr30, Tint2, Tld5, Tpar5, hl, hm, nb2_b1, nb3_b2, nb3_b1, d1, d2, d3, d4, d5, d6, d7, xl, ol, e1, e2]
              apply guardX_or 12 [67, 68, 69, 70, 71, 72, 73, 74, 75, 76, 77, 78] (j := 24) (d := 66) (tp := 79) (tl := 78) rfl rfl rfl rfl rfl
              · intro hq
                simp (maxSteps := 2000000) (disch := first | (simp only [E4, hl, hm, nb2_b1, nb3_b2, nb3_b1, d1, d2, d3, d4, d5, d6, d7, xl, ol, e1, e2] <;> omega) | omega | fail) only [↓E2, E3, bare, bareJ, ↓E0, E1, evP, evPlan, env0, envN, evOps, evOp, evQs, evQ, evV, setD, pureOp, ev, upd, updL, gate, binW, eqOp, binV, intOp, shOp, boolOp, unV, convV, nilV, fieldAddrV, indexAddrV, extractV, cellAt, cellsAt, findB, setB, fillL, buildV, Value.cells, lenV, minV, maxV, hav, sliceV, loV, hiV, bslQ, mksQ, appQ, partsOk, partsCells, delB, eqL, SameI, strOp, apzQ, cvtQ, capV, ↓reduceIte, Zj, Zk, Nat.reduceAdd, Nat.reduceLT, Nat.reduceEqDiff, Nat.reduceMul, Nat.reduceLeDiff, if_true, Zn, reduceCtorEq, ZA, eq_self, Int.reduceLE, Int.reduceLT, Int.reduceToNat, ne_eq, Nat.reduceSub, Tarr30, Tint2, Tld5, Tpar5, hl, hm, nb2_b1, nb3_b2, nb3_b1, d1, d2, d3, d4, d5, d6, d7, xl, ol, e1, e2]
                repeat refine And.intro (by omega) ?_
                exact rfl
              intro g
              simp (maxSteps := 2000000) (disch := first | (simp only [E4, hl, hm, nb2_b1, nb3_b2, nb3_b1, d1, d2, d3, d4, d5, d6, d7, xl, ol, e1, e2] <;> omega) | omega | fail) only [↓E2, E3, bare, bareJ, ↓E0, E1, evP, evPlan, env0, envN, evOps, evOp, evQs, evQ, evV, setD, pureOp, ev, upd, updL, gate, binW, eqOp, binV, intOp, shOp, boolOp, unV, convV, nilV, fieldAddrV, indexAddrV, extractV, cellAt, cellsAt, findB, setB, fillL, buildV, Value.cells, lenV, minV, maxV, hav, sliceV, loV, hiV, bslQ, mksQ, appQ, partsOk, partsCells, delB, eqL, SameI, strOp, apzQ, cvtQ, capV, ↓reduceIte, Zj, Zk, Nat.reduceAdd, Nat.reduceLT, Nat.reduceEqDiff, Nat.reduceMul, Nat.reduceLeDiff, if_true, Zn, reduceCtorEq, ZA, eq_self, Int.reduceLE, Int.reduceLT, Int.reduceToNat, ne_eq, Nat.reduceSub, Tarr30, Tint2, Tld5, Tpar5, hl, hm, nb2_b1, nb3_b2, nb3_b1, d1, d2, d3, d4, d5, d6, d7, xl, ol, e1, e2]
              apply guardX_or 10 [81, 82, 83, 84, 85, 86, 87, 88, 89, 90] (j := 38) (d := 80) (tp := 91) (tl := 90) rfl rfl rfl rfl rfl
              · intro hq
                simp (maxSteps := 2000000) (disch := first | (simp only [E4, hl, hm, nb2_b1, nb3_b2, nb3_b1, d1, d2, d3, d4, d5, d6, d7, xl, ol, e1, e2] <;> omega) | omega | fail) only [↓E2, E3, bare, bareJ, ↓E0, E1, evP, evPlan, env0, envN, evOps, evOp, evQs, evQ, evV, setD, pureOp, ev, upd, updL, gate, binW, eqOp, binV, intOp, shOp, boolOp, unV, convV, nilV, fieldAddrV, indexAddrV, extractV, cellAt, cellsAt, findB, setB, fillL, buildV, Value.cells, lenV, minV, maxV, hav, sliceV, loV, hiV, bslQ, mksQ, appQ, partsOk, partsCells, delB, eqL, SameI, strOp, apzQ, cvtQ, capV, ↓reduceIte, Zj, Zk, Nat.reduceAdd, Nat.reduceLT, Nat.reduceEqDiff, Nat.reduceMul, Nat.reduceLeDiff, if_true, Zn, reduceCtorEq, ZA, eq_self, Int.reduceLE, Int.reduceLT, Int.reduceToNat, ne_eq, Nat.reduceSub, Tarr30, Tint2, Tld5, Tpar5, hl, hm, nb2_b1, nb3_b2, nb3_b1, d1, d2, d3, d4, d5, d6, d7, xl, ol, e1, e2]
                repeat refine And.intro (by omega) ?_
                exact rfl
              intro g
              simp (maxSteps := 2000000) (disch := first | (simp only [E4, hl, hm, nb2_b1, nb3_b2, nb3_b1, d1, d2, d3, d4, d5, d6, d7, xl, ol, e1, e2] <;> omega) | omega | fail) only [↓E2, E3, bare, bareJ, ↓E0, E1, evP, evPlan, env0, envN, evOps, evOp, evQs, evQ, evV, setD, pureOp, ev, upd, updL, gate, binW, eqOp, binV, intOp, shOp, boolOp, unV, convV, nilV, fieldAddrV, indexAddrV, extractV, cellAt, cellsAt, findB, setB, fillL, buildV, Value.cells, lenV, minV, maxV, hav, sliceV, loV, hiV, bslQ, mksQ, appQ, partsOk, partsCells, delB, eqL, SameI, strOp, apzQ, cvtQ, capV, ↓reduceIte, Zj, Zk, Nat.reduceAdd, Nat.reduceLT, Nat.reduceEqDiff, Nat.reduceMul, Nat.reduceLeDiff, if_true, Zn, reduceCtorEq, ZA, eq_self, Int.reduceLE, Int.reduceLT, Int.reduceToNat, ne_eq, Nat.reduceSub, Tarr30, Tint2, Tld5, Tpar5, hl, hm, nb2_b1, nb3_b2, nb3_b1, d1, d2, d3, d4, d5, d6, d7, xl, ol, e1, e2]
              repeat refine And.intro (by omega) ?_
              intro g
              simp only [List.map_cons, List.map_nil, updL, upd, Nat.reduceEqDiff, if_true, if_false, ↓reduceIte]
              refine hK _ _ ?_; clear hK K
              refine Cd.cond rfl (fun h6 => ?_) (fun h6 => ?_)
              · have hb : bk x o i r (m + 2 * rt + 4 * u) = false := by
                  rw [hbk]
                  refine decide_eq_false fun hB => ?_
                  obtain ⟨c1, c2, c3, c4⟩ := hB
                  simp only [decide_eq_true_eq, decide_eq_false_iff_not, beq_iff_eq, beq_eq_false_iff_ne, bne_iff_ne, bne_eq_false_iff_eq, Bool.and_eq_true, Bool.or_eq_true, Bool.or_eq_false_iff, Bool.not_eq_true', Bool.not_eq_false', Bool.and_eq_false_imp, ne_eq, gt_iff_lt, ge_iff_le, Int.not_lt, Int.not_le, Classical.not_not] at h6
                  omega
                refine Cd.exit (thenX (inBX ?_))
                refine thenN ?_
                refine Cd.rr [1, 2, 3, 6, 7, 9, 10, 11] fun K hK => ?_
                simp (maxSteps := 2000000) (disch := first | (simp only [E4, hl, hm, nb2_b1, nb3_b2, nb3_b1, d1, d2, d3, d4, d5, d6, d7, xl, ol, e1, e2] <;> omega) | omega | fail) only [↓E2, E3, bare, bareJ, ↓E0, E1, evP, evPlan, env0, envN, evOps, evOp, evQs, evQ, evV, setD, pureOp, ev, upd, updL, gate, binW, eqOp, binV, intOp, shOp, boolOp, unV, convV, nilV, fieldAddrV, indexAddrV, extractV, cellAt, cellsAt, findB, setB, fillL, buildV, Value.cells, lenV, minV, maxV, hav, sliceV, loV, hiV, bslQ, mksQ, appQ, partsOk, partsCells, delB, eqL, SameI, strOp, apzQ, cvtQ, capV, ↓reduceIte, Zj, Zk, Nat.reduceAdd, Nat.reduceLT, Nat.reduceEqDiff, Nat.reduceMul, Nat.reduceLeDiff, if_true, Zn, reduceCtorEq, ZA, eq_self, Int.reduceLE, Int.reduceLT, Int.reduceToNat, ne_eq, Nat.reduceSub, hl, hm, nb2_b1, nb3_b2, nb3_b1, d1, d2, d3, d4, d5, d6, d7, xl, ol, e1, e2]
                repeat refine And.intro (by omega) ?_
                intro g
                simp only [List.map_cons, List.map_nil, updL, upd, Nat.reduceEqDiff, if_true, if_false, ↓reduceIte]
                refine hK _ _ ?_; clear hK K
                refine roundN (m := q3 - 1) (by omega) ⟨_, u + 1, by omega, fun u' hu' => ?_, rfl, List.sublist_append_right [_, _] _⟩
                rcases Nat.lt_succ_iff_lt_or_eq.1 hu' with h9 | rfl
                · exact hno3 u' h9
                · exact hb
              · have hB : Back (ownM m x o) (ownM m o x) i r rt u := by
                  simp only [decide_eq_true_eq, decide_eq_false_iff_not, beq_iff_eq, beq_eq_false_iff_ne, bne_iff_ne, bne_eq_false_iff_eq, Bool.and_eq_true, Bool.or_eq_true, Bool.or_eq_false_iff, Bool.not_eq_true', Bool.not_eq_false', Bool.and_eq_false_imp, ne_eq, gt_iff_lt, ge_iff_le, Int.not_lt, Int.not_le, Classical.not_not] at h6
                  exact ⟨by omega, by omega, by omega, by omega⟩
                have hb : bk x o i r (m + 2 * rt + 4 * u) = true := by rw [hbk]; exact decide_eq_true hB
                have hf := bkFind_hit (show m + 2 * rt + 4 * u < 8 by omega) hb
                have k1 : (m + 2 * rt + 4 * u) % 2 = m := by omega
                have k2 : (m + 2 * rt + 4 * u) / 2 % 2 = rt := by omega
                have k3 : (m + 2 * rt + 4 * u) / 4 = u := by omega
                have er : (r + 1 - (u : Int)) = r + 1 - u := rfl
                refine Cd.skip ?_
                refine thenN ?_
                refine Cd.rs [1, 2, 6, 7, 9, 10, 11, 14] fun K hK => ?_
                simp (maxSteps := 2000000) (disch := first | (simp only [E4, hl, hm, nb2_b1, nb3_b2, nb3_b1, d1, d2, d3, d4, d5, d6, d7, xl, ol, e1, e2] <;> omega) | omega | fail) only [↓E2, E3, bare, bareJ, ↓E0, E1, evP, evPlan, env0, envN, evOps, evOp, evQs, evQ, evV, setD, pureOp, ev, upd, updL, gate, binW, eqOp, binV, intOp, shOp, boolOp, unV, convV, nilV, fieldAddrV, indexAddrV, extractV, cellAt, cellsAt, findB, setB, fillL, buildV, Value.cells, lenV, minV, maxV, hav, sliceV, loV, hiV, bslQ, mksQ, appQ, partsOk, partsCells, delB, eqL, SameI, strOp, apzQ, cvtQ, capV, ↓reduceIte, Zj, Zk, Nat.reduceAdd, Nat.reduceLT, Nat.reduceEqDiff, Nat.reduceMul, Nat.reduceLeDiff, if_true, Zn, reduceCtorEq, ZA, eq_self, Int.reduceLE, Int.reduceLT, Int.reduceToNat, ne_eq, Nat.reduceSub, Tld32, Tst32, Tzero32, hl, hm, nb2_b1, nb3_b2, nb3_b1, d1, d2, d3, d4, d5, d6, d7, xl, ol, e1, e2]
                repeat refine And.intro (by omega) ?_
                intro b6 hb6
                have nb6_c2 := hb6.ne
                have nb6_c1 := hb6.tail.ne
                have nb6_b3 := hb6.tail.tail.ne
                have nb6_b2 := hb6.tail.tail.tail.ne
                have nb6_b1 := hb6.tail.tail.tail.tail.ne
                try simp (maxSteps := 2000000) (disch := first | (simp only [E4, hl, hm, nb2_b1, nb3_b2, nb3_b1, d1, d2, d3, d4, d5, d6, d7, xl, ol, e1, e2, nb6_c2, nb6_c1, nb6_b3, nb6_b2, nb6_b1] <;> omega) | omega | fail) only [↓E2, E3, bare, bareJ, ↓E0, E1, evP, evPlan, env0, envN, evOps, evOp, evQs, evQ, evV, setD, pureOp, ev, upd, updL, gate, binW, eqOp, binV, intOp, shOp, boolOp, unV, convV, nilV, fieldAddrV, indexAddrV, extractV, cellAt, cellsAt, findB, setB, fillL, buildV, Value.cells, lenV, minV, maxV, hav, sliceV, loV, hiV, bslQ, mksQ, appQ, partsOk, partsCells, delB, eqL, SameI, strOp, apzQ, cvtQ, capV, ↓reduceIte, Zj, Zk, Nat.reduceAdd, Nat.reduceLT, Nat.reduceEqDiff, Nat.reduceMul, Nat.reduceLeDiff, if_true, Zn, reduceCtorEq, ZA, eq_self, Int.reduceLE, Int.reduceLT, Int.reduceToNat, ne_eq, Nat.reduceSub, Tld32, Tst32, Tzero32, hl, hm, nb2_b1, nb3_b2, nb3_b1, d1, d2, d3, d4, d5, d6, d7, xl, ol, e1, e2, nb6_c2, nb6_c1, nb6_b3, nb6_b2, nb6_b1]
                repeat refine And.intro (by omega) ?_
                intro g
                simp only [List.map_cons, List.map_nil, updL, upd, Nat.reduceEqDiff, if_true, if_false, ↓reduceIte]
                refine hK _ _ ?_; clear hK K
                rcases (show m = 0 ∨ m = 1 by omega) with rfl | rfl
                · have bX := bytes_set hx (i := i + rt) (v := r + (u : Int)) (by omega) (by omega)
                  have bO := bytes_set ho (i := i + rt) (v := r + (u : Int)) (by omega) (by omega)
                  refine Cd.seq ?_
                  refine Cd.rs [1, 2, 6, 7, 9, 10, 11, 14, 94] fun K hK => ?_
                  simp (maxSteps := 2000000) (disch := first | (simp only [E4, hl, hm, nb2_b1, nb3_b2, nb3_b1, d1, d2, d3, d4, d5, d6, d7, xl, ol, e1, e2, nb6_c2, nb6_c1, nb6_b3, nb6_b2, nb6_b1] <;> omega) | omega | fail) only [↓E2, E3, bare, bareJ, ↓E0, E1, evP, evPlan, env0, envN, evOps, evOp, evQs, evQ, evV, setD, pureOp, ev, upd, updL, gate, binW, eqOp, binV, intOp, shOp, boolOp, unV, convV, nilV, fieldAddrV, indexAddrV, extractV, cellAt, cellsAt, findB, setB, fillL, buildV, Value.cells, lenV, minV, maxV, hav, sliceV, loV, hiV, bslQ, mksQ, appQ, partsOk, partsCells, delB, eqL, SameI, strOp, apzQ, cvtQ, capV, ↓reduceIte, Zj, Zk, Nat.reduceAdd, Nat.reduceLT, Nat.reduceEqDiff, Nat.reduceMul, Nat.reduceLeDiff, if_true, Zn, reduceCtorEq, ZA, eq_self, Int.reduceLE, Int.reduceLT, Int.reduceToNat, ne_eq, Nat.reduceSub, hl, hm, nb2_b1, nb3_b2, nb3_b1, d1, d2, d3, d4, d5, d6, d7, xl, ol, e1, e2, nb6_c2, nb6_c1, nb6_b3, nb6_b2, nb6_b1]
                  repeat refine And.intro (by omega) ?_
                  intro g
                  simp only [List.map_cons, List.map_nil, updL, upd, Nat.reduceEqDiff, if_true, if_false, ↓reduceIte]
                  refine hK _ _ ?_; clear hK K
                  refine Cd.no rfl ?_
                  refine Cd.rr [1, 2, 6, 7, 9, 10, 11, 14] fun K hK => ?_
                  simp (maxSteps := 2000000) (disch := first | (simp only [E4, hl, hm, nb2_b1, nb3_b2, nb3_b1, d1, d2, d3, d4, d5, d6, d7, xl, ol, e1, e2, nb6_c2, nb6_c1, nb6_b3, nb6_b2, nb6_b1] <;> omega) | omega | fail) only [↓E2, E3, bare, bareJ, ↓E0, E1, evP, evPlan, env0, envN, evOps, evOp, evQs, evQ, evV, setD, pureOp, ev, upd, updL, gate, binW, eqOp, binV, intOp, shOp, boolOp, unV, convV, nilV, fieldAddrV, indexAddrV, extractV, cellAt, cellsAt, findB, setB, fillL, buildV, Value.cells, lenV, minV, maxV, hav, sliceV, loV, hiV, bslQ, mksQ, appQ, partsOk, partsCells, delB, eqL, SameI, strOp, apzQ, cvtQ, capV, ↓reduceIte, Zj, Zk, Nat.reduceAdd, Nat.reduceLT, Nat.reduceEqDiff, Nat.reduceMul, Nat.reduceLeDiff, if_true, Zn, reduceCtorEq, ZA, eq_self, Int.reduceLE, Int.reduceLT, Int.reduceToNat, ne_eq, Nat.reduceSub, Tarr30, Tfld32_1, Tint5, Tpar2, Tst5, hl, hm, nb2_b1, nb3_b2, nb3_b1, d1, d2, d3, d4, d5, d6, d7, xl, ol, e1, e2, nb6_c2, nb6_c1, nb6_b3, nb6_b2, nb6_b1]
                  repeat refine And.intro (by omega) ?_
                  intro g
                  simp only [List.map_cons, List.map_nil, updL, upd, Nat.reduceEqDiff, if_true, if_false, ↓reduceIte]
                  refine hK _ _ ?_; clear hK K
                  refine thenN ?_
                  refine Cd.rs [6, 7, 8] fun K hK => ?_
                  simp (maxSteps := 2000000) (disch := first | (simp only [E4, hl, hm, nb2_b1, nb3_b2, nb3_b1, d1, d2, d3, d4, d5, d6, d7, xl, ol, e1, e2, nb6_c2, nb6_c1, nb6_b3, nb6_b2, nb6_b1] <;> omega) | omega | fail) only [↓E2, E3, bare, bareJ, ↓E0, E1, evP, evPlan, env0, envN, evOps, evOp, evQs, evQ, evV, setD, pureOp, ev, upd, updL, gate, binW, eqOp, binV, intOp, shOp, boolOp, unV, convV, nilV, fieldAddrV, indexAddrV, extractV, cellAt, cellsAt, findB, setB, fillL, buildV, Value.cells, lenV, minV, maxV, hav, sliceV, loV, hiV, bslQ, mksQ, appQ, partsOk, partsCells, delB, eqL, SameI, strOp, apzQ, cvtQ, capV, ↓reduceIte, Zj, Zk, Nat.reduceAdd, Nat.reduceLT, Nat.reduceEqDiff, Nat.reduceMul, Nat.reduceLeDiff, if_true, Zn, reduceCtorEq, ZA, eq_self, Int.reduceLE, Int.reduceLT, Int.reduceToNat, ne_eq, Nat.reduceSub, Tbld93, Tld32, Tst32, Tst93, hl, hm, nb2_b1, nb3_b2, nb3_b1, d1, d2, d3, d4, d5, d6, d7, xl, ol, e1, e2, nb6_c2, nb6_c1, nb6_b3, nb6_b2, nb6_b1]
                  rw [show (i : Int) + 1 - (rt : Int) = ((i + 1 - rt : Nat) : Int) by omega]
                  refine callK_gives (l02Without_c n (x.set (i + rt) (r + (u : Int))) o (by assumption) (by assumption) hn (i + 1 - rt) (r + 1 - (u : Int)) (by omega)) ?_
                  rw [back_wth_own hl hi hn hrt hu (fun c hc h1 h2 => back_own_ne hn px po h0 h0' hd hi hr0 hr hrt hu hB hc h1 h2) hB.1, back_wth hi hn hrt hu (fun c hc h2 => back_oth_ne hn px po h0 h0' hd hi hr0 hr hrt hu hB hc h2)]
                  have tl := fun f : Nat → Int => tab_len f
                  skip
                  simp (maxSteps := 2000000) (disch := first | (simp only [E4, hl, hm, nb2_b1, nb3_b2, nb3_b1, d1, d2, d3, d4, d5, d6, d7, xl, ol, e1, e2, nb6_c2, nb6_c1, nb6_b3, nb6_b2, nb6_b1, tl] <;> omega) | omega | fail) only [↓E2, E3, bare, bareJ, ↓E0, E1, evP, evPlan, env0, envN, evOps, evOp, evQs, evQ, evV, setD, pureOp, ev, upd, updL, gate, binW, eqOp, binV, intOp, shOp, boolOp, unV, convV, nilV, fieldAddrV, indexAddrV, extractV, cellAt, cellsAt, findB, setB, fillL, buildV, Value.cells, lenV, minV, maxV, hav, sliceV, loV, hiV, bslQ, mksQ, appQ, partsOk, partsCells, delB, eqL, SameI, strOp, apzQ, cvtQ, capV, ↓reduceIte, Zj, Zk, Nat.reduceAdd, Nat.reduceLT, Nat.reduceEqDiff, Nat.reduceMul, Nat.reduceLeDiff, if_true, Zn, reduceCtorEq, ZA, eq_self, Int.reduceLE, Int.reduceLT, Int.reduceToNat, ne_eq, Nat.reduceSub, Tbld93, Tld32, Tst32, Tst93, hl, hm, nb2_b1, nb3_b2, nb3_b1, d1, d2, d3, d4, d5, d6, d7, xl, ol, e1, e2, nb6_c2, nb6_c1, nb6_b3, nb6_b2, nb6_b1, tl]
                  repeat refine And.intro (by omega) ?_
                  intro g
                  simp only [List.map_cons, List.map_nil, updL, upd, Nat.reduceEqDiff, if_true, if_false, ↓reduceIte]
                  refine hK _ _ ?_; clear hK K
                  refine Cd.ret (inBR (thenR (roundR (inBR (inBR (thenR (roundR (inBR (inBR (thenR (roundR (inBR (thenR ?_)))))))))))))
                  simp (maxSteps := 2000000) (disch := first | (simp only [E4, hl, hm, nb2_b1, nb3_b2, nb3_b1, d1, d2, d3, d4, d5, d6, d7, xl, ol, e1, e2, nb6_c2, nb6_c1, nb6_b3, nb6_b2, nb6_b1, tl] <;> omega) | omega | fail) only [↓E2, E3, bare, bareJ, ↓E0, E1, evP, evPlan, env0, envN, evOps, evOp, evQs, evQ, evV, setD, pureOp, ev, upd, updL, gate, binW, eqOp, binV, intOp, shOp, boolOp, unV, convV, nilV, fieldAddrV, indexAddrV, extractV, cellAt, cellsAt, findB, setB, fillL, buildV, Value.cells, lenV, minV, maxV, hav, sliceV, loV, hiV, bslQ, mksQ, appQ, partsOk, partsCells, delB, eqL, SameI, strOp, apzQ, cvtQ, capV, ↓reduceIte, Zj, Zk, Nat.reduceAdd, Nat.reduceLT, Nat.reduceEqDiff, Nat.reduceMul, Nat.reduceLeDiff, if_true, Zn, reduceCtorEq, ZA, eq_self, Int.reduceLE, Int.reduceLT, Int.reduceToNat, ne_eq, Nat.reduceSub, Tld32, Tld93, hl, hm, nb2_b1, nb3_b2, nb3_b1, d1, d2, d3, d4, d5, d6, d7, xl, ol, e1, e2, nb6_c2, nb6_c1, nb6_b3, nb6_b2, nb6_b1, tl]
                  unfold backR
                  rw [hf]
                  simp only [k1, k2, k3, oldX]
                  rfl

                · have bX := bytes_set hx (i := i + rt) (v := r + (u : Int)) (by omega) (by omega)
                  have bO := bytes_set ho (i := i + rt) (v := r + (u : Int)) (by omega) (by omega)
                  refine Cd.seq ?_
                  refine Cd.rs [1, 2, 6, 7, 9, 10, 11, 14, 94] fun K hK => ?_
                  simp (maxSteps := 2000000) (disch := first | (simp only [E4, hl, hm, nb2_b1, nb3_b2, nb3_b1, d1, d2, d3, d4, d5, d6, d7, xl, ol, e1, e2, nb6_c2, nb6_c1, nb6_b3, nb6_b2, nb6_b1] <;> omega) | omega | fail) only [↓E2, E3, bare, bareJ, ↓E0, E1, evP, evPlan, env0, envN, evOps, evOp, evQs, evQ, evV, setD, pureOp, ev, upd, updL, gate, binW, eqOp, binV, intOp, shOp, boolOp, unV, convV, nilV, fieldAddrV, indexAddrV, extractV, cellAt, cellsAt, findB, setB, fillL, buildV, Value.cells, lenV, minV, maxV, hav, sliceV, loV, hiV, bslQ, mksQ, appQ, partsOk, partsCells, delB, eqL, SameI, strOp, apzQ, cvtQ, capV, ↓reduceIte, Zj, Zk, Nat.reduceAdd, Nat.reduceLT, Nat.reduceEqDiff, Nat.reduceMul, Nat.reduceLeDiff, if_true, Zn, reduceCtorEq, ZA, eq_self, Int.reduceLE, Int.reduceLT, Int.reduceToNat, ne_eq, Nat.reduceSub, hl, hm, nb2_b1, nb3_b2, nb3_b1, d1, d2, d3, d4, d5, d6, d7, xl, ol, e1, e2, nb6_c2, nb6_c1, nb6_b3, nb6_b2, nb6_b1]
                  repeat refine And.intro (by omega) ?_
                  intro g
                  simp only [List.map_cons, List.map_nil, updL, upd, Nat.reduceEqDiff, if_true, if_false, ↓reduceIte]
                  refine hK _ _ ?_; clear hK K
                  refine Cd.yes rfl ?_
                  refine Cd.rr [1, 2, 6, 7, 9, 10, 11, 14] fun K hK => ?_
                  simp (maxSteps := 2000000) (disch := first | (simp only [E4, hl, hm, nb2_b1, nb3_b2, nb3_b1, d1, d2, d3, d4, d5, d6, d7, xl, ol, e1, e2, nb6_c2, nb6_c1, nb6_b3, nb6_b2, nb6_b1] <;> omega) | omega | fail) only [↓E2, E3, bare, bareJ, ↓E0, E1, evP, evPlan, env0, envN, evOps, evOp, evQs, evQ, evV, setD, pureOp, ev, upd, updL, gate, binW, eqOp, binV, intOp, shOp, boolOp, unV, convV, nilV, fieldAddrV, indexAddrV, extractV, cellAt, cellsAt, findB, setB, fillL, buildV, Value.cells, lenV, minV, maxV, hav, sliceV, loV, hiV, bslQ, mksQ, appQ, partsOk, partsCells, delB, eqL, SameI, strOp, apzQ, cvtQ, capV, ↓reduceIte, Zj, Zk, Nat.reduceAdd, Nat.reduceLT, Nat.reduceEqDiff, Nat.reduceMul, Nat.reduceLeDiff, if_true, Zn, reduceCtorEq, ZA, eq_self, Int.reduceLE, Int.reduceLT, Int.reduceToNat, ne_eq, Nat.reduceSub, Tarr30, Tfld32_2, Tint5, Tpar2, Tst5, hl, hm, nb2_b1, nb3_b2, nb3_b1, d1, d2, d3, d4, d5, d6, d7, xl, ol, e1, e2, nb6_c2, nb6_c1, nb6_b3, nb6_b2, nb6_b1]
                  repeat refine And.intro (by omega) ?_
                  intro g
                  simp only [List.map_cons, List.map_nil, updL, upd, Nat.reduceEqDiff, if_true, if_false, ↓reduceIte]
                  refine hK _ _ ?_; clear hK K
                  refine thenN ?_
                  refine Cd.rs [6, 7, 8] fun K hK => ?_
                  simp (maxSteps := 2000000) (disch := first | (simp only [E4, hl, hm, nb2_b1, nb3_b2, nb3_b1, d1, d2, d3, d4, d5, d6, d7, xl, ol, e1, e2, nb6_c2, nb6_c1, nb6_b3, nb6_b2, nb6_b1] <;> omega) | omega | fail) only [↓E2, E3, bare, bareJ, ↓E0, E1, evP, evPlan, env0, envN, evOps, evOp, evQs, evQ, evV, setD, pureOp, ev, upd, updL, gate, binW, eqOp, binV, intOp, shOp, boolOp, unV, convV, nilV, fieldAddrV, indexAddrV, extractV, cellAt, cellsAt, findB, setB, fillL, buildV, Value.cells, lenV, minV, maxV, hav, sliceV, loV, hiV, bslQ, mksQ, appQ, partsOk, partsCells, delB, eqL, SameI, strOp, apzQ, cvtQ, capV, ↓reduceIte, Zj, Zk, Nat.reduceAdd, Nat.reduceLT, Nat.reduceEqDiff, Nat.reduceMul, Nat.reduceLeDiff, if_true, Zn, reduceCtorEq, ZA, eq_self, Int.reduceLE, Int.reduceLT, Int.reduceToNat, ne_eq, Nat.reduceSub, Tbld93, Tld32, Tst32, Tst93, hl, hm, nb2_b1, nb3_b2, nb3_b1, d1, d2, d3, d4, d5, d6, d7, xl, ol, e1, e2, nb6_c2, nb6_c1, nb6_b3, nb6_b2, nb6_b1]
                  rw [show (i : Int) + 1 - (rt : Int) = ((i + 1 - rt : Nat) : Int) by omega]
                  refine callK_gives (l02Without_c n x (o.set (i + rt) (r + (u : Int))) (by assumption) (by assumption) hn (i + 1 - rt) (r + 1 - (u : Int)) (by omega)) ?_
                  rw [back_wth hi hn hrt hu (fun c hc h2 => back_oth_ne hn po px h0' h0 (fun c hc => (hd c hc).symm) hi hr0 hr hrt hu hB hc h2), back_wth_own hm hi hn hrt hu (fun c hc h1 h2 => back_own_ne hn po px h0' h0 (fun c hc => (hd c hc).symm) hi hr0 hr hrt hu hB hc h1 h2) hB.1]
                  have tl := fun f : Nat → Int => tab_len f
                  skip
                  simp (maxSteps := 2000000) (disch := first | (simp only [E4, hl, hm, nb2_b1, nb3_b2, nb3_b1, d1, d2, d3, d4, d5, d6, d7, xl, ol, e1, e2, nb6_c2, nb6_c1, nb6_b3, nb6_b2, nb6_b1, tl] <;> omega) | omega | fail) only [↓E2, E3, bare, bareJ, ↓E0, E1, evP, evPlan, env0, envN, evOps, evOp, evQs, evQ, evV, setD, pureOp, ev, upd, updL, gate, binW, eqOp, binV, intOp, shOp, boolOp, unV, convV, nilV, fieldAddrV, indexAddrV, extractV, cellAt, cellsAt, findB, setB, fillL, buildV, Value.cells, lenV, minV, maxV, hav, sliceV, loV, hiV, bslQ, mksQ, appQ, partsOk, partsCells, delB, eqL, SameI, strOp, apzQ, cvtQ, capV, ↓reduceIte, Zj, Zk, Nat.reduceAdd, Nat.reduceLT, Nat.reduceEqDiff, Nat.reduceMul, Nat.reduceLeDiff, if_true, Zn, reduceCtorEq, ZA, eq_self, Int.reduceLE, Int.reduceLT, Int.reduceToNat, ne_eq, Nat.reduceSub, Tbld93, Tld32, Tst32, Tst93, hl, hm, nb2_b1, nb3_b2, nb3_b1, d1, d2, d3, d4, d5, d6, d7, xl, ol, e1, e2, nb6_c2, nb6_c1, nb6_b3, nb6_b2, nb6_b1, tl]
                  repeat refine And.intro (by omega) ?_
                  intro g
                  simp only [List.map_cons, List.map_nil, updL, upd, Nat.reduceEqDiff, if_true, if_false, ↓reduceIte]
                  refine hK _ _ ?_; clear hK K
                  refine Cd.ret (inBR (thenR (roundR (inBR (inBR (thenR (roundR (inBR (inBR (thenR (roundR (inBR (thenR ?_)))))))))))))
                  simp (maxSteps := 2000000) (disch := first | (simp only [E4, hl, hm, nb2_b1, nb3_b2, nb3_b1, d1, d2, d3, d4, d5, d6, d7, xl, ol, e1, e2, nb6_c2, nb6_c1, nb6_b3, nb6_b2, nb6_b1, tl] <;> omega) | omega | fail) only [↓E2, E3, bare, bareJ, ↓E0, E1, evP, evPlan, env0, envN, evOps, evOp, evQs, evQ, evV, setD, pureOp, ev, upd, updL, gate, binW, eqOp, binV, intOp, shOp, boolOp, unV, convV, nilV, fieldAddrV, indexAddrV, extractV, cellAt, cellsAt, findB, setB, fillL, buildV, Value.cells, lenV, minV, maxV, hav, sliceV, loV, hiV, bslQ, mksQ, appQ, partsOk, partsCells, delB, eqL, SameI, strOp, apzQ, cvtQ, capV, ↓reduceIte, Zj, Zk, Nat.reduceAdd, Nat.reduceLT, Nat.reduceEqDiff, Nat.reduceMul, Nat.reduceLeDiff, if_true, Zn, reduceCtorEq, ZA, eq_self, Int.reduceLE, Int.reduceLT, Int.reduceToNat, ne_eq, Nat.reduceSub, Tld32, Tld93, hl, hm, nb2_b1, nb3_b2, nb3_b1, d1, d2, d3, d4, d5, d6, d7, xl, ol, e1, e2, nb6_c2, nb6_c1, nb6_b3, nb6_b2, nb6_b1, tl]
                  unfold backR
                  rw [hf]
                  simp only [k1, k2, k3, oldX]
                  rfl

          clear hK
          simp (maxSteps := 2000000) (disch := first | (simp only [E4, hl, hm, nb2_b1, nb3_b2, nb3_b1] <;> omega) | omega | fail) only [↓E2, E3, bare, bareJ, ↓E0, E1, evP, evPlan, env0, envN, evOps, evOp, evQs, evQ, evV, setD, pureOp, ev, upd, updL, gate, binW, eqOp, binV, intOp, shOp, boolOp, unV, convV, nilV, fieldAddrV, indexAddrV, extractV, cellAt, cellsAt, findB, setB, fillL, buildV, Value.cells, lenV, minV, maxV, hav, sliceV, loV, hiV, bslQ, mksQ, appQ, partsOk, partsCells, delB, eqL, SameI, strOp, apzQ, cvtQ, capV, ↓reduceIte, Zj, Zk, Nat.reduceAdd, Nat.reduceLT, Nat.reduceEqDiff, Nat.reduceMul, Nat.reduceLeDiff, if_true, Zn, reduceCtorEq, ZA, eq_self, Int.reduceLE, Int.reduceLT, Int.reduceToNat, ne_eq, Nat.reduceSub, Tfld32_1, Tfld32_2, Tld30, Tst30, Tzero30, ↓YR, hl, hm, nb2_b1, nb3_b2, nb3_b1]
          repeat' first
              | omega
              | refine moreX_go ?_ ?_
              | with_reducible refine And.intro ?_ ?_
              | (with_reducible intro (b : Nat) (hb : Fresh _ _ b); have hb := hb.all; simp only [List.mem_cons, List.not_mem_nil, forall_eq_or_imp, or_false, forall_eq, false_implies, implies_true, and_true] at hb)
              | (with_reducible intro (b' : Nat) (cap' : Nat) (rest' : List Value) (hf' : Fresh _ _ b') (hc' : _ ≤ cap') (hr' : rest'.length = _); have hfa := hf'.all; simp only [List.mem_cons, List.not_mem_nil, forall_eq_or_imp, or_false, forall_eq, false_implies, implies_true, and_true] at hfa)
              | simp (maxSteps := 2000000) (disch := first | (simp only [E4, hl, hm, nb2_b1, nb3_b2, nb3_b1] <;> omega) | omega | fail) only [↓E2, E3, bare, bareJ, ↓E0, E1, evP, evPlan, env0, envN, evOps, evOp, evQs, evQ, evV, setD, pureOp, ev, upd, updL, gate, binW, eqOp, binV, intOp, shOp, boolOp, unV, convV, nilV, fieldAddrV, indexAddrV, extractV, cellAt, cellsAt, findB, setB, fillL, buildV, Value.cells, lenV, minV, maxV, hav, sliceV, loV, hiV, bslQ, mksQ, appQ, partsOk, partsCells, delB, eqL, SameI, strOp, apzQ, cvtQ, capV, ↓reduceIte, Zj, Zk, Nat.reduceAdd, Nat.reduceLT, Nat.reduceEqDiff, Nat.reduceMul, Nat.reduceLeDiff, if_true, Zn, reduceCtorEq, ZA, eq_self, Int.reduceLE, Int.reduceLT, Int.reduceToNat, ne_eq, Nat.reduceSub, Tfld32_1, Tfld32_2, Tld30, Tst30, Tzero30, ↓YR, hl, hm, nb2_b1, nb3_b2, nb3_b1, *]
          all_goals
            repeat refine And.intro (by omega) ?_
            intro g
            simp only [List.map_cons, List.map_nil, updL, upd, Nat.reduceEqDiff, if_true, if_false, ↓reduceIte]
            first
            | exact J g _ _ _ (.refl _)
            | exact J g _ _ _ (.swap ..)
        · refine Cd.exit (thenX (roundX (inBX ?_)))
          refine inBN ?_
          refine thenN ?_
          refine Cd.rr [1, 2, 3, 6, 7, 9, 10] fun K hK => ?_
          simp (maxSteps := 2000000) (disch := first | (simp only [E4, hl, hm, nb2_b1, nb3_b2, nb3_b1] <;> omega) | omega | fail) only [↓E2, E3, bare, bareJ, ↓E0, E1, evP, evPlan, env0, envN, evOps, evOp, evQs, evQ, evV, setD, pureOp, ev, upd, updL, gate, binW, eqOp, binV, intOp, shOp, boolOp, unV, convV, nilV, fieldAddrV, indexAddrV, extractV, cellAt, cellsAt, findB, setB, fillL, buildV, Value.cells, lenV, minV, maxV, hav, sliceV, loV, hiV, bslQ, mksQ, appQ, partsOk, partsCells, delB, eqL, SameI, strOp, apzQ, cvtQ, capV, ↓reduceIte, Zj, Zk, Nat.reduceAdd, Nat.reduceLT, Nat.reduceEqDiff, Nat.reduceMul, Nat.reduceLeDiff, if_true, Zn, reduceCtorEq, ZA, eq_self, Int.reduceLE, Int.reduceLT, Int.reduceToNat, ne_eq, Nat.reduceSub, hl, hm, nb2_b1, nb3_b2, nb3_b1]
          repeat refine And.intro (by omega) ?_
          intro g
          simp only [List.map_cons, List.map_nil, updL, upd, Nat.reduceEqDiff, if_true, if_false, ↓reduceIte]
          refine hK _ _ ?_; clear hK K
          refine roundN (m := q2 - 1) (by omega) ⟨_, rt + 1, by omega, fun rt' u' hr' hu' => ?_, rfl, List.Sublist.refl _⟩
          rcases Nat.lt_succ_iff_lt_or_eq.1 hr' with h9 | rfl
          · exact hno2 rt' u' h9 hu'
          · exact hno3 u' (by omega)
      · refine Cd.exit (thenX (roundX (inBX ?_)))
        refine inBN ?_
        refine thenN ?_
        refine Cd.rr [1, 2, 3, 6, 7, 9] fun K hK => ?_
        simp (maxSteps := 2000000) (disch := first | (simp only [E4, hl, hm, nb2_b1, nb3_b2, nb3_b1] <;> omega) | omega | fail) only [↓E2, E3, bare, bareJ, ↓E0, E1, evP, evPlan, env0, envN, evOps, evOp, evQs, evQ, evV, setD, pureOp, ev, upd, updL, gate, binW, eqOp, binV, intOp, shOp, boolOp, unV, convV, nilV, fieldAddrV, indexAddrV, extractV, cellAt, cellsAt, findB, setB, fillL, buildV, Value.cells, lenV, minV, maxV, hav, sliceV, loV, hiV, bslQ, mksQ, appQ, partsOk, partsCells, delB, eqL, SameI, strOp, apzQ, cvtQ, capV, ↓reduceIte, Zj, Zk, Nat.reduceAdd, Nat.reduceLT, Nat.reduceEqDiff, Nat.reduceMul, Nat.reduceLeDiff, if_true, Zn, reduceCtorEq, ZA, eq_self, Int.reduceLE, Int.reduceLT, Int.reduceToNat, ne_eq, Nat.reduceSub, hl, hm, nb2_b1, nb3_b2, nb3_b1]
        repeat refine And.intro (by omega) ?_
        intro g
        simp only [List.map_cons, List.map_nil, updL, upd, Nat.reduceEqDiff, if_true, if_false, ↓reduceIte]
        refine hK _ _ ?_; clear hK K
        refine roundN (m := q - 1) (by omega) ⟨_, m + 1, by omega, fun m' rt' u' h' hr' hu' => ?_, rfl, List.Sublist.refl _⟩
        rcases Nat.lt_succ_iff_lt_or_eq.1 h' with h9 | rfl
        · exact hno m' rt' u' h9 hr' hu'
        · exact hno2 rt' u' (by omega) hu'
    · refine Cd.exit (thenX (roundX (inBX ?_)))
      refine thenN ?_
      refine Cd.rs [6, 7, 8] fun K hK => ?_
      simp (maxSteps := 2000000) (disch := first | (simp only [E4, hl, hm, nb2_b1, nb3_b2, nb3_b1] <;> omega) | omega | fail) only [↓E2, E3, bare, bareJ, ↓E0, E1, evP, evPlan, env0, envN, evOps, evOp, evQs, evQ, evV, setD, pureOp, ev, upd, updL, gate, binW, eqOp, binV, intOp, shOp, boolOp, unV, convV, nilV, fieldAddrV, indexAddrV, extractV, cellAt, cellsAt, findB, setB, fillL, buildV, Value.cells, lenV, minV, maxV, hav, sliceV, loV, hiV, bslQ, mksQ, appQ, partsOk, partsCells, delB, eqL, SameI, strOp, apzQ, cvtQ, capV, ↓reduceIte, Zj, Zk, Nat.reduceAdd, Nat.reduceLT, Nat.reduceEqDiff, Nat.reduceMul, Nat.reduceLeDiff, if_true, Zn, reduceCtorEq, ZA, eq_self, Int.reduceLE, Int.reduceLT, Int.reduceToNat, ne_eq, Nat.reduceSub, Tbld32, Tbld93, Tst32, Tst93, hl, hm, nb2_b1, nb3_b2, nb3_b1]
      repeat refine And.intro (by omega) ?_
      intro g
      simp only [List.map_cons, List.map_nil, updL, upd, Nat.reduceEqDiff, if_true, if_false, ↓reduceIte]
      refine hK _ _ ?_; clear hK K
      refine Cd.ret ?_
      simp (maxSteps := 2000000) (disch := first | (simp only [E4, hl, hm, nb2_b1, nb3_b2, nb3_b1] <;> omega) | omega | fail) only [↓E2, E3, bare, bareJ, ↓E0, E1, evP, evPlan, env0, envN, evOps, evOp, evQs, evQ, evV, setD, pureOp, ev, upd, updL, gate, binW, eqOp, binV, intOp, shOp, boolOp, unV, convV, nilV, fieldAddrV, indexAddrV, extractV, cellAt, cellsAt, findB, setB, fillL, buildV, Value.cells, lenV, minV, maxV, hav, sliceV, loV, hiV, bslQ, mksQ, appQ, partsOk, partsCells, delB, eqL, SameI, strOp, apzQ, cvtQ, capV, ↓reduceIte, Zj, Zk, Nat.reduceAdd, Nat.reduceLT, Nat.reduceEqDiff, Nat.reduceMul, Nat.reduceLeDiff, if_true, Zn, reduceCtorEq, ZA, eq_self, Int.reduceLE, Int.reduceLT, Int.reduceToNat, ne_eq, Nat.reduceSub, Tld32, Tld93, hl, hm, nb2_b1, nb3_b2, nb3_b1]
      unfold backR
      rw [bkFind_none fun k hk => ?_]
      have := hno (k % 2) (k / 2 % 2) (k / 4) (by omega) (by omega) (by omega)
      rwa [show k % 2 + 2 * (k / 2 % 2) + 4 * (k / 4) = k by omega] at this
end

end Go.Proofs

