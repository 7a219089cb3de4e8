/-
  What the functions of this part hand back: each as a plain function of its arguments. Conditions: none.
-/
import Derived.Test.YtdfddcfgagfdoaaFx
import Derived.Test.YtdfddcfgagfdoaaUorder
namespace Go.Proofs
open Go.W8
set_option linter.unusedVariables false
set_option linter.unusedSimpArgs false
set_option linter.unusedSectionVars false
set_option maxRecDepth 8000
set_option maxHeartbeats 4000000
/-- What a column adds to the winding numbers behind it. -/
def wstep (x o : List Int) (b : Int) (k : Nat) : Int := if o.getD k 0 < b ∧ b ≤ x.getD k 0 then 1 else if x.getD k 0 < b ∧ b ≤ o.getD k 0 then -1 else 0
def wnd (x o : List Int) (b : Int) : Nat → Int
  | 0 => 0
  | k + 1 => wnd x o b k + wstep x o b k
theorem wnd_bound (x o : List Int) (b : Int) : ∀ k : Nat, -(k : Int) ≤ wnd x o b k ∧ wnd x o b k ≤ (k : Int)
  | 0 => by simp [wnd]
  | k + 1 => by
    have ih := wnd_bound x o b k
    have : -1 ≤ wstep x o b k ∧ wstep x o b k ≤ 1 := by unfold wstep; split <;> (try split) <;> omega
    show _ ≤ wnd x o b k + wstep x o b k ∧ wnd x o b k + wstep x o b k ≤ _
    omega
theorem wnd_up {x o : List Int} {b : Int} {k : Nat} (h : o.getD k 0 < b ∧ b ≤ x.getD k 0) : wnd x o b k + 1 = wnd x o b (k + 1) := by
  show _ = wnd x o b k + wstep x o b k
  unfold wstep; rw [if_pos h]
theorem wnd_down {x o : List Int} {b : Int} {k : Nat} (h : ¬ (o.getD k 0 < b ∧ b ≤ x.getD k 0)) (h' : x.getD k 0 < b ∧ b ≤ o.getD k 0) : wnd x o b k - 1 = wnd x o b (k + 1) := by
  show _ = wnd x o b k + wstep x o b k
  unfold wstep; rw [if_neg h, if_pos h']; omega
theorem wnd_same {x o : List Int} {b : Int} {k : Nat} (h : ¬ (o.getD k 0 < b ∧ b ≤ x.getD k 0)) (h' : ¬ (x.getD k 0 < b ∧ b ≤ o.getD k 0)) : wnd x o b k = wnd x o b (k + 1) := by
  show _ = wnd x o b k + wstep x o b k
  unfold wstep; rw [if_neg h, if_neg h']; omega

theorem winding_c (s : Int) (x o : List Int) (hx : Bytes8 x) (ho : Bytes8 o) (a b : Int) (ha : a ≤ 8) : Gives Try.prog 135 #[.agg (gc s x o).toArray, .int .i64 a, .int .i64 b] (.int .i64 (wnd x o b a.toNat)) := by
  have hl := hx.len
  have hm := ho.len
  skip
  refine Gives.of fun w => ?_
  refine acall_of (N := 49) (c := _) (rs := [.tmp 6]) (args := [_, _, _]) Try.func135 rfl (by decide) rfl rfl (Nat.le_of_ble_eq_true rfl) ?_
  refine Cd.rs [1, 2, 3] fun K hK => ?_
  simp (maxSteps := 2000000) (disch := first | omega | (simp only [E4, hl, hm, *] <;> omega) | fail) only [↓E0, E1, evP, evPlan, env0, envN, evOps, evOp, evQs, evQ, evV, setD, pureOp, ev, upd, updL, gate, binW, eqOp, binV, intOp, shOp, boolOp, unV, convV, nilV, fieldAddrV, indexAddrV, extractV, cellAt, cellsAt, findB, setB, fillL, buildV, Value.cells, lenV, minV, maxV, hav, sliceV, loV, hiV, bslQ, mksQ, appQ, partsOk, partsCells, delB, eqL, SameI, strOp, apzQ, cvtQ, capV, ↓reduceIte, Zj, Zk, Nat.reduceAdd, Nat.reduceLT, Nat.reduceEqDiff, Nat.reduceMul, Nat.reduceLeDiff, if_true, Zn, reduceCtorEq, ZA, eq_self, Int.reduceLE, Int.reduceLT, Int.reduceToNat, ne_eq, Nat.reduceSub, hl, hm]
  intro b1 hb1
  try simp (maxSteps := 2000000) (disch := first | omega | (simp only [E4, hl, hm, *] <;> omega) | fail) only [↓E0, E1, evP, evPlan, env0, envN, evOps, evOp, evQs, evQ, evV, setD, pureOp, ev, upd, updL, gate, binW, eqOp, binV, intOp, shOp, boolOp, unV, convV, nilV, fieldAddrV, indexAddrV, extractV, cellAt, cellsAt, findB, setB, fillL, buildV, Value.cells, lenV, minV, maxV, hav, sliceV, loV, hiV, bslQ, mksQ, appQ, partsOk, partsCells, delB, eqL, SameI, strOp, apzQ, cvtQ, capV, ↓reduceIte, Zj, Zk, Nat.reduceAdd, Nat.reduceLT, Nat.reduceEqDiff, Nat.reduceMul, Nat.reduceLeDiff, if_true, Zn, reduceCtorEq, ZA, eq_self, Int.reduceLE, Int.reduceLT, Int.reduceToNat, ne_eq, Nat.reduceSub, hl, hm]
  repeat refine And.intro (by omega) ?_
  intro g
  simp only [List.map_cons, List.map_nil, updL, upd, Nat.reduceEqDiff, if_true, if_false, ↓reduceIte]
  refine hK _ _ ?_; clear hK K
  refine Cd.rs [1, 2, 3, 7] fun K hK => ?_
  simp (maxSteps := 2000000) (disch := first | omega | (simp only [E4, hl, hm, *] <;> omega) | fail) only [↓E0, E1, evP, evPlan, env0, envN, evOps, evOp, evQs, evQ, evV, setD, pureOp, ev, upd, updL, gate, binW, eqOp, binV, intOp, shOp, boolOp, unV, convV, nilV, fieldAddrV, indexAddrV, extractV, cellAt, cellsAt, findB, setB, fillL, buildV, Value.cells, lenV, minV, maxV, hav, sliceV, loV, hiV, bslQ, mksQ, appQ, partsOk, partsCells, delB, eqL, SameI, strOp, apzQ, cvtQ, capV, ↓reduceIte, Zj, Zk, Nat.reduceAdd, Nat.reduceLT, Nat.reduceEqDiff, Nat.reduceMul, Nat.reduceLeDiff, if_true, Zn, reduceCtorEq, ZA, eq_self, Int.reduceLE, Int.reduceLT, Int.reduceToNat, ne_eq, Nat.reduceSub, hl, hm]
  repeat refine And.intro (by omega) ?_
  intro g
  simp only [List.map_cons, List.map_nil, updL, upd, Nat.reduceEqDiff, if_true, if_false, ↓reduceIte]
  refine hK _ _ ?_; clear hK K
  refine Cd.seq ?_
  refine Cd.rs [2, 3, 7, 11, 12] fun K hK => ?_
  simp (maxSteps := 2000000) (disch := first | omega | (simp only [E4, hl, hm, *] <;> omega) | fail) only [↓E0, E1, evP, evPlan, env0, envN, evOps, evOp, evQs, evQ, evV, setD, pureOp, ev, upd, updL, gate, binW, eqOp, binV, intOp, shOp, boolOp, unV, convV, nilV, fieldAddrV, indexAddrV, extractV, cellAt, cellsAt, findB, setB, fillL, buildV, Value.cells, lenV, minV, maxV, hav, sliceV, loV, hiV, bslQ, mksQ, appQ, partsOk, partsCells, delB, eqL, SameI, strOp, apzQ, cvtQ, capV, ↓reduceIte, Zj, Zk, Nat.reduceAdd, Nat.reduceLT, Nat.reduceEqDiff, Nat.reduceMul, Nat.reduceLeDiff, if_true, Zn, reduceCtorEq, ZA, eq_self, Int.reduceLE, Int.reduceLT, Int.reduceToNat, ne_eq, Nat.reduceSub, hl, hm]
  repeat refine And.intro (by omega) ?_
  intro g
  simp only [List.map_cons, List.map_nil, updL, upd, Nat.reduceEqDiff, if_true, if_false, ↓reduceIte]
  refine hK _ _ ?_; clear hK K
  refine Cd.block ?_
  refine Cd.loop (fun m ρ M => ∃ g k, k + m = a.toNat ∧ ρ = updL [(2, .int .i64 b), (3, .pointer (some ⟨b1, 0, none⟩)), (7, .int .i64 (wnd x o b k)), (11, .int .i64 a), (12, .int .i64 (k : Int))] g ∧ M = [(b1, gc s x o)]) a.toNat ⟨_, 0, Nat.zero_add _, rfl, rfl⟩ ?_
  rintro m ρ M ⟨g, k, hk, rfl, rfl⟩
  refine Cd.rs [2, 3, 7, 11, 12, 13] fun K hK => ?_
  simp (maxSteps := 2000000) (disch := first | omega | (simp only [E4, hl, hm, *] <;> omega) | fail) only [↓E0, E1, evP, evPlan, env0, envN, evOps, evOp, evQs, evQ, evV, setD, pureOp, ev, upd, updL, gate, binW, eqOp, binV, intOp, shOp, boolOp, unV, convV, nilV, fieldAddrV, indexAddrV, extractV, cellAt, cellsAt, findB, setB, fillL, buildV, Value.cells, lenV, minV, maxV, hav, sliceV, loV, hiV, bslQ, mksQ, appQ, partsOk, partsCells, delB, eqL, SameI, strOp, apzQ, cvtQ, capV, ↓reduceIte, Zj, Zk, Nat.reduceAdd, Nat.reduceLT, Nat.reduceEqDiff, Nat.reduceMul, Nat.reduceLeDiff, if_true, Zn, reduceCtorEq, ZA, eq_self, Int.reduceLE, Int.reduceLT, Int.reduceToNat, ne_eq, Nat.reduceSub, hl, hm]
  repeat refine And.intro (by omega) ?_
  intro g
  simp only [List.map_cons, List.map_nil, updL, upd, Nat.reduceEqDiff, if_true, if_false, ↓reduceIte]
  refine hK _ _ ?_; clear hK K
  refine Cd.seq ?_
  refine Cd.condd rfl (fun h1 => ?_) (fun h1 => ?_)
  · have c1 := bytes_get hx (i := k) (by omega)
    have c2 := bytes_get ho (i := k) (by omega)
    have c3 := wnd_bound x o b k
    refine Cd.skip ?_
    refine thenN ?_
    refine Cd.seq ?_
    refine Cd.block ?_
    refine Cd.rs [2, 3, 7, 8, 11, 12] fun K hK => ?_
    simp (maxSteps := 2000000) (disch := first | omega | (simp only [E4, hl, hm, *] <;> omega) | fail) only [↓E0, E1, evP, evPlan, env0, envN, evOps, evOp, evQs, evQ, evV, setD, pureOp, ev, upd, updL, gate, binW, eqOp, binV, intOp, shOp, boolOp, unV, convV, nilV, fieldAddrV, indexAddrV, extractV, cellAt, cellsAt, findB, setB, fillL, buildV, Value.cells, lenV, minV, maxV, hav, sliceV, loV, hiV, bslQ, mksQ, appQ, partsOk, partsCells, delB, eqL, SameI, strOp, apzQ, cvtQ, capV, ↓reduceIte, Zj, Zk, Nat.reduceAdd, Nat.reduceLT, Nat.reduceEqDiff, Nat.reduceMul, Nat.reduceLeDiff, if_true, Zn, reduceCtorEq, ZA, eq_self, Int.reduceLE, Int.reduceLT, Int.reduceToNat, ne_eq, Nat.reduceSub, hl, hm]
    repeat refine And.intro (by omega) ?_
    intro g
    simp only [List.map_cons, List.map_nil, updL, upd, Nat.reduceEqDiff, if_true, if_false, ↓reduceIte]
    refine hK _ _ ?_; clear hK K
    refine Cd.qs [2, 3, 7, 9, 10, 11, 12] fol (by kernel_rfl) fun K hK => ?_
    simp (maxSteps := 2000000) (disch := first | omega | (simp only [E4, hl, hm, *] <;> omega) | fail) only [↓E0, E1, evP, evPlan, env0, envN, evOps, evOp, evQs, evQ, evV, setD, pureOp, ev, upd, updL, gate, binW, eqOp, binV, intOp, shOp, boolOp, unV, convV, nilV, fieldAddrV, indexAddrV, extractV, cellAt, cellsAt, findB, setB, fillL, buildV, Value.cells, lenV, minV, maxV, hav, sliceV, loV, hiV, bslQ, mksQ, appQ, partsOk, partsCells, delB, eqL, SameI, strOp, apzQ, cvtQ, capV, ↓reduceIte, Zj, Zk, Nat.reduceAdd, Nat.reduceLT, Nat.reduceEqDiff, Nat.reduceMul, Nat.reduceLeDiff, if_true, Zn, reduceCtorEq, ZA, eq_self, Int.reduceLE, Int.reduceLT, Int.reduceToNat, ne_eq, Nat.reduceSub, Tarr30, Tfld32_1, Tfld32_2, Tint3, Tld5, Tpar5, hl, hm]
    repeat refine And.intro (by omega) ?_
    repeat refine And.intro (by omega) ?_
    intro g
    simp only [List.map_cons, List.map_nil, updL, upd, Nat.reduceEqDiff, if_true, if_false, ↓reduceIte]
    refine hK _ ?_; clear hK K
    refine Cd.block ?_
    refine Cd.rs [2, 3, 7, 9, 10, 11, 12, 25] fun K hK => ?_
    have J : ∀ g d, (d = true ↔ o.getD k 0 < b ∧ b ≤ x.getD k 0) → K (updL ([(2, .int .i64 b), (3, .pointer (some ⟨b1, 0, none⟩)), (7, .int .i64 (wnd x o b k)), (9, .int .i64 (x.getD k 0)), (10, .int .i64 (o.getD k 0)), (11, .int .i64 a), (12, .int .i64 (k : Int)), (25, .bool d)]) g) [(b1, gc s x o)] := by
      intro g d hd
      refine hK _ _ ?_
      clear hK K
      refine Cd.cond rfl (fun h2 => ?_) (fun h2 => ?_)
      · refine Cd.rr [2, 3, 7, 11, 12] fun K hK => ?_
        simp (maxSteps := 2000000) (disch := first | omega | (simp only [E4, hl, hm, *] <;> omega) | fail) only [↓E0, E1, evP, evPlan, env0, envN, evOps, evOp, evQs, evQ, evV, setD, pureOp, ev, upd, updL, gate, binW, eqOp, binV, intOp, shOp, boolOp, unV, convV, nilV, fieldAddrV, indexAddrV, extractV, cellAt, cellsAt, findB, setB, fillL, buildV, Value.cells, lenV, minV, maxV, hav, sliceV, loV, hiV, bslQ, mksQ, appQ, partsOk, partsCells, delB, eqL, SameI, strOp, apzQ, cvtQ, capV, ↓reduceIte, Zj, Zk, Nat.reduceAdd, Nat.reduceLT, Nat.reduceEqDiff, Nat.reduceMul, Nat.reduceLeDiff, if_true, Zn, reduceCtorEq, ZA, eq_self, Int.reduceLE, Int.reduceLT, Int.reduceToNat, ne_eq, Nat.reduceSub, hl, hm]
        rw [wnd_up (hd.1 h2)]
        repeat refine And.intro (by omega) ?_
        intro g
        simp only [List.map_cons, List.map_nil, updL, upd, Nat.reduceEqDiff, if_true, if_false, ↓reduceIte]
        refine hK _ _ ?_; clear hK K
        refine inBN ?_
        refine inBN ?_
        refine thenN ?_
        refine Cd.rr [2, 3, 7, 11, 12] fun K hK => ?_
        simp (maxSteps := 2000000) (disch := first | omega | (simp only [E4, hl, hm, *] <;> omega) | fail) only [↓E0, E1, evP, evPlan, env0, envN, evOps, evOp, evQs, evQ, evV, setD, pureOp, ev, upd, updL, gate, binW, eqOp, binV, intOp, shOp, boolOp, unV, convV, nilV, fieldAddrV, indexAddrV, extractV, cellAt, cellsAt, findB, setB, fillL, buildV, Value.cells, lenV, minV, maxV, hav, sliceV, loV, hiV, bslQ, mksQ, appQ, partsOk, partsCells, delB, eqL, SameI, strOp, apzQ, cvtQ, capV, ↓reduceIte, Zj, Zk, Nat.reduceAdd, Nat.reduceLT, Nat.reduceEqDiff, Nat.reduceMul, Nat.reduceLeDiff, if_true, Zn, reduceCtorEq, ZA, eq_self, Int.reduceLE, Int.reduceLT, Int.reduceToNat, ne_eq, Nat.reduceSub, hl, hm]
        repeat refine And.intro (by omega) ?_
        intro g
        simp only [List.map_cons, List.map_nil, updL, upd, Nat.reduceEqDiff, if_true, if_false, ↓reduceIte]
        refine hK _ _ ?_; clear hK K
        exact roundN (m := m - 1) (by omega) ⟨_, k + 1, by omega, rfl, rfl⟩
      · have h3 : ¬ (o.getD k 0 < b ∧ b ≤ x.getD k 0) := fun h => by rw [hd.2 h] at h2; cases h2
        refine Cd.rs [2, 3, 7, 11, 12, 36] fun K hK => ?_
        have J : ∀ g d, (d = true ↔ x.getD k 0 < b ∧ b ≤ o.getD k 0) → K (updL [(2, .int .i64 b), (3, .pointer (some ⟨b1, 0, none⟩)), (7, .int .i64 (wnd x o b k)), (11, .int .i64 a), (12, .int .i64 (k : Int)), (36, .bool d)] g) [(b1, gc s x o)] := by
          intro g d hd
          refine hK _ _ ?_
          clear hK K
          refine Cd.cond rfl (fun h2 => ?_) (fun h2 => ?_)
          · refine Cd.rr [2, 3, 7, 11, 12] fun K hK => ?_
            simp (maxSteps := 2000000) (disch := first | omega | (simp only [E4, hl, hm, *] <;> omega) | fail) only [↓E0, E1, evP, evPlan, env0, envN, evOps, evOp, evQs, evQ, evV, setD, pureOp, ev, upd, updL, gate, binW, eqOp, binV, intOp, shOp, boolOp, unV, convV, nilV, fieldAddrV, indexAddrV, extractV, cellAt, cellsAt, findB, setB, fillL, buildV, Value.cells, lenV, minV, maxV, hav, sliceV, loV, hiV, bslQ, mksQ, appQ, partsOk, partsCells, delB, eqL, SameI, strOp, apzQ, cvtQ, capV, ↓reduceIte, Zj, Zk, Nat.reduceAdd, Nat.reduceLT, Nat.reduceEqDiff, Nat.reduceMul, Nat.reduceLeDiff, if_true, Zn, reduceCtorEq, ZA, eq_self, Int.reduceLE, Int.reduceLT, Int.reduceToNat, ne_eq, Nat.reduceSub, hl, hm]
            rw [wnd_down h3 (hd.1 h2)]
            repeat refine And.intro (by omega) ?_
            intro g
            simp only [List.map_cons, List.map_nil, updL, upd, Nat.reduceEqDiff, if_true, if_false, ↓reduceIte]
            refine hK _ _ ?_; clear hK K
            refine inBN ?_
            refine inBN ?_
            refine thenN ?_
            refine Cd.rr [2, 3, 7, 11, 12] fun K hK => ?_
            simp (maxSteps := 2000000) (disch := first | omega | (simp only [E4, hl, hm, *] <;> omega) | fail) only [↓E0, E1, evP, evPlan, env0, envN, evOps, evOp, evQs, evQ, evV, setD, pureOp, ev, upd, updL, gate, binW, eqOp, binV, intOp, shOp, boolOp, unV, convV, nilV, fieldAddrV, indexAddrV, extractV, cellAt, cellsAt, findB, setB, fillL, buildV, Value.cells, lenV, minV, maxV, hav, sliceV, loV, hiV, bslQ, mksQ, appQ, partsOk, partsCells, delB, eqL, SameI, strOp, apzQ, cvtQ, capV, ↓reduceIte, Zj, Zk, Nat.reduceAdd, Nat.reduceLT, Nat.reduceEqDiff, Nat.reduceMul, Nat.reduceLeDiff, if_true, Zn, reduceCtorEq, ZA, eq_self, Int.reduceLE, Int.reduceLT, Int.reduceToNat, ne_eq, Nat.reduceSub, hl, hm]
            repeat refine And.intro (by omega) ?_
            intro g
            simp only [List.map_cons, List.map_nil, updL, upd, Nat.reduceEqDiff, if_true, if_false, ↓reduceIte]
            refine hK _ _ ?_; clear hK K
            exact roundN (m := m - 1) (by omega) ⟨_, k + 1, by omega, rfl, rfl⟩
          · have h4 : ¬ (x.getD k 0 < b ∧ b ≤ o.getD k 0) := fun h => by rw [hd.2 h] at h2; cases h2
            refine Cd.skip ?_
            refine inBN ?_
            refine inBN ?_
            refine thenN ?_
            refine Cd.rr [2, 3, 7, 11, 12] fun K hK => ?_
            simp (maxSteps := 2000000) (disch := first | omega | (simp only [E4, hl, hm, *] <;> omega) | fail) only [↓E0, E1, evP, evPlan, env0, envN, evOps, evOp, evQs, evQ, evV, setD, pureOp, ev, upd, updL, gate, binW, eqOp, binV, intOp, shOp, boolOp, unV, convV, nilV, fieldAddrV, indexAddrV, extractV, cellAt, cellsAt, findB, setB, fillL, buildV, Value.cells, lenV, minV, maxV, hav, sliceV, loV, hiV, bslQ, mksQ, appQ, partsOk, partsCells, delB, eqL, SameI, strOp, apzQ, cvtQ, capV, ↓reduceIte, Zj, Zk, Nat.reduceAdd, Nat.reduceLT, Nat.reduceEqDiff, Nat.reduceMul, Nat.reduceLeDiff, if_true, Zn, reduceCtorEq, ZA, eq_self, Int.reduceLE, Int.reduceLT, Int.reduceToNat, ne_eq, Nat.reduceSub, hl, hm]
            rw [wnd_same h3 h4]
            repeat refine And.intro (by omega) ?_
            intro g
            simp only [List.map_cons, List.map_nil, updL, upd, Nat.reduceEqDiff, if_true, if_false, ↓reduceIte]
            refine hK _ _ ?_; clear hK K
            exact roundN (m := m - 1) (by omega) ⟨_, k + 1, by omega, rfl, rfl⟩
        clear hK
        simp (maxSteps := 2000000) (disch := first | omega | (simp only [E4, hl, hm, *] <;> omega) | fail) only [↓E0, E1, evP, evPlan, env0, envN, evOps, evOp, evQs, evQ, evV, setD, pureOp, ev, upd, updL, gate, binW, eqOp, binV, intOp, shOp, boolOp, unV, convV, nilV, fieldAddrV, indexAddrV, extractV, cellAt, cellsAt, findB, setB, fillL, buildV, Value.cells, lenV, minV, maxV, hav, sliceV, loV, hiV, bslQ, mksQ, appQ, partsOk, partsCells, delB, eqL, SameI, strOp, apzQ, cvtQ, capV, ↓reduceIte, Zj, Zk, Nat.reduceAdd, Nat.reduceLT, Nat.reduceEqDiff, Nat.reduceMul, Nat.reduceLeDiff, if_true, Zn, reduceCtorEq, ZA, eq_self, Int.reduceLE, Int.reduceLT, Int.reduceToNat, ne_eq, Nat.reduceSub, hl, hm]
        refine ⟨fun h => ?_, fun h => ?_⟩
        all_goals
          repeat refine And.intro (by omega) ?_
          intro g
          simp only [List.map_cons, List.map_nil, updL, upd, Nat.reduceEqDiff, if_true, if_false, ↓reduceIte]
          refine J g _ ?_
          simp at h ⊢
          omega
    clear hK
    simp (maxSteps := 2000000) (disch := first | omega | (simp only [E4, hl, hm, *] <;> omega) | fail) only [↓E0, E1, evP, evPlan, env0, envN, evOps, evOp, evQs, evQ, evV, setD, pureOp, ev, upd, updL, gate, binW, eqOp, binV, intOp, shOp, boolOp, unV, convV, nilV, fieldAddrV, indexAddrV, extractV, cellAt, cellsAt, findB, setB, fillL, buildV, Value.cells, lenV, minV, maxV, hav, sliceV, loV, hiV, bslQ, mksQ, appQ, partsOk, partsCells, delB, eqL, SameI, strOp, apzQ, cvtQ, capV, ↓reduceIte, Zj, Zk, Nat.reduceAdd, Nat.reduceLT, Nat.reduceEqDiff, Nat.reduceMul, Nat.reduceLeDiff, if_true, Zn, reduceCtorEq, ZA, eq_self, Int.reduceLE, Int.reduceLT, Int.reduceToNat, ne_eq, Nat.reduceSub, hl, hm]
    refine ⟨fun h => ?_, fun h => ?_⟩
    all_goals
      repeat refine And.intro (by omega) ?_
      intro g
      simp only [List.map_cons, List.map_nil, updL, upd, Nat.reduceEqDiff, if_true, if_false, ↓reduceIte]
      refine J g _ ?_
      simp at h ⊢
      omega
  · refine Cd.exit (thenX (roundX (inBX ?_)))
    refine thenN ?_
    obtain rfl : k = a.toNat := by omega
    refine Cd.rs [6] fun K hK => ?_
    simp (maxSteps := 2000000) (disch := first | omega | (simp only [E4, hl, hm, *] <;> omega) | fail) only [↓E0, E1, evP, evPlan, env0, envN, evOps, evOp, evQs, evQ, evV, setD, pureOp, ev, upd, updL, gate, binW, eqOp, binV, intOp, shOp, boolOp, unV, convV, nilV, fieldAddrV, indexAddrV, extractV, cellAt, cellsAt, findB, setB, fillL, buildV, Value.cells, lenV, minV, maxV, hav, sliceV, loV, hiV, bslQ, mksQ, appQ, partsOk, partsCells, delB, eqL, SameI, strOp, apzQ, cvtQ, capV, ↓reduceIte, Zj, Zk, Nat.reduceAdd, Nat.reduceLT, Nat.reduceEqDiff, Nat.reduceMul, Nat.reduceLeDiff, if_true, Zn, reduceCtorEq, ZA, eq_self, Int.reduceLE, Int.reduceLT, Int.reduceToNat, ne_eq, Nat.reduceSub, hl, hm]
    repeat refine And.intro (by omega) ?_
    intro g
    simp only [List.map_cons, List.map_nil, updL, upd, Nat.reduceEqDiff, if_true, if_false, ↓reduceIte]
    refine hK _ _ ?_; clear hK K
    refine Cd.ret ?_
    simp (maxSteps := 2000000) (disch := first | omega | (simp only [E4, hl, hm, *] <;> omega) | fail) only [↓E0, E1, evP, evPlan, env0, envN, evOps, evOp, evQs, evQ, evV, setD, pureOp, ev, upd, updL, gate, binW, eqOp, binV, intOp, shOp, boolOp, unV, convV, nilV, fieldAddrV, indexAddrV, extractV, cellAt, cellsAt, findB, setB, fillL, buildV, Value.cells, lenV, minV, maxV, hav, sliceV, loV, hiV, bslQ, mksQ, appQ, partsOk, partsCells, delB, eqL, SameI, strOp, apzQ, cvtQ, capV, ↓reduceIte, Zj, Zk, Nat.reduceAdd, Nat.reduceLT, Nat.reduceEqDiff, Nat.reduceMul, Nat.reduceLeDiff, if_true, Zn, reduceCtorEq, ZA, eq_self, Int.reduceLE, Int.reduceLT, Int.reduceToNat, ne_eq, Nat.reduceSub, hl, hm]

end Go.Proofs
