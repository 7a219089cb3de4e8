/-
  What the functions of this part hand back: each as a plain function of its arguments. Conditions: none.
-/
import Derived.ProofKit
import Derived.OpenShut
import Derived.Below
import Derived.ChangeSame
import Derived.Test.YtdfddcfgagfdoaaM1
import Derived.Test.YtdfddcfgagfdoaaM2
import Derived.Test.YtdfddcfgagfdoaaM3
import Derived.Test.YtdfddcfgagfdoaaM4
namespace Go.Proofs
open Go.W8
set_option linter.unusedVariables false
set_option linter.unusedSimpArgs false
set_option linter.unusedSectionVars false
set_option maxRecDepth 8000
set_option maxHeartbeats 4000000
theorem l02Lifted_c (v r : Int) (u : Nat) (h0 : 0 ≤ v) (h1 : v < 255) (h2 : 0 ≤ r) (h3 : r < 255) (hu : u ≤ 1) : Gives Try.prog 164 #[.int .u8 v, .int .i64 r, .int .i64 (u : Int)] (.int .u8 (liftF r u v)) := by
  refine Gives.of fun w => ?_
  refine acall_of (N := 24) (c := _) (rs := [.tmp 6]) (args := [_, _, _]) Try.func164 rfl (by decide) rfl rfl (Nat.le_of_ble_eq_true rfl) ?_
  refine Cd.rs [0, 1, 2] fun K hK => ?_
  simp (maxSteps := 2000000) (disch := first | (simp only [E4] <;> omega) | omega | fail) only [↓E2, E3, bare, bareJ, ↓E0, E1, env0, envN, evOps, evOp, evQs, evQ, evV, setD, pureOp, ev, upd, updL, hav, ↓reduceIte, Zj, Zk, Nat.reduceAdd, Nat.reduceLT, Nat.reduceEqDiff, Nat.reduceMul, Nat.reduceLeDiff, if_true, Zn, reduceCtorEq, ZA, eq_self, Int.reduceLE, Int.reduceLT, Int.reduceToNat, ne_eq, Nat.reduceSub]
  repeat refine And.intro (by omega) ?_
  intro g
  simp only [List.map_cons, List.map_nil, updL, upd, Nat.reduceEqDiff, if_true, if_false, ↓reduceIte]
  refine hK _ _ ?_; clear hK K
  refine Cd.seq ?_
  refine Cd.block ?_
  refine Cd.rs [0, 1, 2, 7] fun K hK => ?_
  simp (maxSteps := 2000000) (disch := first | (simp only [E4] <;> omega) | omega | fail) only [↓E2, E3, bare, bareJ, ↓E0, E1, env0, envN, evOps, evOp, evQs, evQ, evV, setD, pureOp, ev, upd, updL, binW, eqOp, binV, intOp, shOp, boolOp, convV, hav, eqL, SameI, strOp, cvtQ, ↓reduceIte, Zj, Zk, Nat.reduceAdd, Nat.reduceLT, Nat.reduceEqDiff, Nat.reduceMul, Nat.reduceLeDiff, if_true, Zn, reduceCtorEq, ZA, eq_self, Int.reduceLE, Int.reduceLT, Int.reduceToNat, ne_eq, Nat.reduceSub, Tint2, Tpar5]
  repeat refine And.intro (by omega) ?_
  intro g
  simp only [List.map_cons, List.map_nil, updL, upd, Nat.reduceEqDiff, if_true, if_false, ↓reduceIte]
  refine hK _ _ ?_; clear hK K
  refine Cd.condd rfl (fun h1 => ?_) (fun h1 => ?_)
  · refine Cd.rs [6] fun K hK => ?_
    simp (maxSteps := 2000000) (disch := first | (simp only [E4] <;> omega) | omega | fail) only [↓E2, E3, bare, bareJ, ↓E0, E1, env0, envN, evOps, evOp, evQs, evQ, evV, setD, pureOp, ev, upd, updL, binW, eqOp, binV, intOp, shOp, boolOp, hav, eqL, SameI, strOp, ↓reduceIte, Zj, Zk, Nat.reduceAdd, Nat.reduceLT, Nat.reduceEqDiff, Nat.reduceMul, Nat.reduceLeDiff, if_true, Zn, reduceCtorEq, ZA, eq_self, Int.reduceLE, Int.reduceLT, Int.reduceToNat, ne_eq, Nat.reduceSub]
    repeat refine And.intro (by omega) ?_
    intro g
    simp only [List.map_cons, List.map_nil, updL, upd, Nat.reduceEqDiff, if_true, if_false, ↓reduceIte]
    refine hK _ _ ?_; clear hK K
    refine Cd.ret (inBR (thenR ?_))
    simp (maxSteps := 2000000) (disch := first | (simp only [E4] <;> omega) | omega | fail) only [↓E2, E3, bare, bareJ, ↓E0, E1, evP, evPlan, env0, envN, evOps, evOp, evQs, evQ, evV, setD, pureOp, ev, upd, updL, gate, binW, eqOp, binV, intOp, shOp, boolOp, unV, convV, nilV, fieldAddrV, indexAddrV, extractV, cellAt, cellsAt, findB, setB, fillL, buildV, Value.cells, lenV, minV, maxV, hav, sliceV, loV, hiV, bslQ, mksQ, appQ, partsOk, partsCells, delB, eqL, SameI, strOp, apzQ, cvtQ, capV, ↓reduceIte, Zj, Zk, Nat.reduceAdd, Nat.reduceLT, Nat.reduceEqDiff, Nat.reduceMul, Nat.reduceLeDiff, if_true, Zn, reduceCtorEq, ZA, eq_self, Int.reduceLE, Int.reduceLT, Int.reduceToNat, ne_eq, Nat.reduceSub]
    unfold liftF
    rw [if_pos h1]
  · refine Cd.rs [0, 1, 2, 14] fun K hK => ?_
    simp (maxSteps := 2000000) (disch := first | (simp only [E4] <;> omega) | omega | fail) only [↓E2, E3, bare, bareJ, ↓E0, E1, env0, envN, evOps, evOp, evQs, evQ, evV, setD, pureOp, ev, upd, updL, binW, eqOp, binV, intOp, shOp, boolOp, convV, hav, eqL, SameI, strOp, cvtQ, ↓reduceIte, Zj, Zk, Nat.reduceAdd, Nat.reduceLT, Nat.reduceEqDiff, Nat.reduceMul, Nat.reduceLeDiff, if_true, Zn, reduceCtorEq, ZA, eq_self, Int.reduceLE, Int.reduceLT, Int.reduceToNat, ne_eq, Nat.reduceSub, Tint2, Tpar5]
    repeat refine And.intro (by omega) ?_
    intro g
    simp only [List.map_cons, List.map_nil, updL, upd, Nat.reduceEqDiff, if_true, if_false, ↓reduceIte]
    refine hK _ _ ?_; clear hK K
    refine Cd.cond rfl (fun h2 => ?_) (fun h2 => ?_)
    · simp only [decide_eq_true_eq, decide_eq_false_iff_not, beq_iff_eq, beq_eq_false_iff_ne, bne_iff_ne, bne_eq_false_iff_eq, Bool.and_eq_true, Bool.or_eq_true, Bool.or_eq_false_iff, Bool.not_eq_true', Bool.not_eq_false', Bool.and_eq_false_imp, ne_eq, gt_iff_lt, ge_iff_le, Int.not_lt, Int.not_le, Classical.not_not] at h2
      refine Cd.rs [6] fun K hK => ?_
      simp (maxSteps := 2000000) (disch := first | (simp only [E4] <;> omega) | omega | fail) only [↓E2, E3, bare, bareJ, ↓E0, E1, env0, envN, evOps, evOp, evQs, evQ, evV, setD, pureOp, ev, upd, updL, binW, eqOp, binV, intOp, shOp, boolOp, convV, hav, eqL, SameI, strOp, cvtQ, ↓reduceIte, Zj, Zk, Nat.reduceAdd, Nat.reduceLT, Nat.reduceEqDiff, Nat.reduceMul, Nat.reduceLeDiff, if_true, Zn, reduceCtorEq, ZA, eq_self, Int.reduceLE, Int.reduceLT, Int.reduceToNat, ne_eq, Nat.reduceSub, Tint5, Tpar2]
      repeat refine And.intro (by omega) ?_
      intro g
      simp only [List.map_cons, List.map_nil, updL, upd, Nat.reduceEqDiff, if_true, if_false, ↓reduceIte]
      refine hK _ _ ?_; clear hK K
      refine Cd.ret (inBR (thenR ?_))
      simp (maxSteps := 2000000) (disch := first | (simp only [E4] <;> omega) | omega | fail) only [↓E2, E3, bare, bareJ, ↓E0, E1, evP, evPlan, env0, envN, evOps, evOp, evQs, evQ, evV, setD, pureOp, ev, upd, updL, gate, binW, eqOp, binV, intOp, shOp, boolOp, unV, convV, nilV, fieldAddrV, indexAddrV, extractV, cellAt, cellsAt, findB, setB, fillL, buildV, Value.cells, lenV, minV, maxV, hav, sliceV, loV, hiV, bslQ, mksQ, appQ, partsOk, partsCells, delB, eqL, SameI, strOp, apzQ, cvtQ, capV, ↓reduceIte, Zj, Zk, Nat.reduceAdd, Nat.reduceLT, Nat.reduceEqDiff, Nat.reduceMul, Nat.reduceLeDiff, if_true, Zn, reduceCtorEq, ZA, eq_self, Int.reduceLE, Int.reduceLT, Int.reduceToNat, ne_eq, Nat.reduceSub]
      unfold liftF
      rw [if_neg h1, if_pos h2]
    · simp only [decide_eq_true_eq, decide_eq_false_iff_not, beq_iff_eq, beq_eq_false_iff_ne, bne_iff_ne, bne_eq_false_iff_eq, Bool.and_eq_true, Bool.or_eq_true, Bool.or_eq_false_iff, Bool.not_eq_true', Bool.not_eq_false', Bool.and_eq_false_imp, ne_eq, gt_iff_lt, ge_iff_le, Int.not_lt, Int.not_le, Classical.not_not] at h2
      refine Cd.skip ?_
      refine inBN ?_
      refine thenN ?_
      refine Cd.rs [6] fun K hK => ?_
      simp (maxSteps := 2000000) (disch := first | (simp only [E4] <;> omega) | omega | fail) only [↓E2, E3, bare, bareJ, ↓E0, E1, env0, envN, evOps, evOp, evQs, evQ, evV, setD, pureOp, ev, upd, updL, hav, ↓reduceIte, Zj, Zk, Nat.reduceAdd, Nat.reduceLT, Nat.reduceEqDiff, Nat.reduceMul, Nat.reduceLeDiff, if_true, Zn, reduceCtorEq, ZA, eq_self, Int.reduceLE, Int.reduceLT, Int.reduceToNat, ne_eq, Nat.reduceSub]
      repeat refine And.intro (by omega) ?_
      intro g
      simp only [List.map_cons, List.map_nil, updL, upd, Nat.reduceEqDiff, if_true, if_false, ↓reduceIte]
      refine hK _ _ ?_; clear hK K
      refine Cd.ret ?_
      simp (maxSteps := 2000000) (disch := first | (simp only [E4] <;> omega) | omega | fail) only [↓E2, E3, bare, bareJ, ↓E0, E1, evP, evPlan, env0, envN, evOps, evOp, evQs, evQ, evV, setD, pureOp, ev, upd, updL, gate, binW, eqOp, binV, intOp, shOp, boolOp, unV, convV, nilV, fieldAddrV, indexAddrV, extractV, cellAt, cellsAt, findB, setB, fillL, buildV, Value.cells, lenV, minV, maxV, hav, sliceV, loV, hiV, bslQ, mksQ, appQ, partsOk, partsCells, delB, eqL, SameI, strOp, apzQ, cvtQ, capV, ↓reduceIte, Zj, Zk, Nat.reduceAdd, Nat.reduceLT, Nat.reduceEqDiff, Nat.reduceMul, Nat.reduceLeDiff, if_true, Zn, reduceCtorEq, ZA, eq_self, Int.reduceLE, Int.reduceLT, Int.reduceToNat, ne_eq, Nat.reduceSub]
      unfold liftF
      rw [if_neg h1, if_neg h2]

def toS (i k : Nat) : Nat := if i < k then k + 1 else k
theorem nodup4S {a b c d : Nat} {x y z u : List Value} (h : ([(a, x), (b, y), (c, z), (d, u)].map (·.1)).Nodup) : (¬ a = b ∧ ¬ a = c ∧ ¬ a = d) ∧ (¬ b = c ∧ ¬ b = d) ∧ ¬ c = d := by
  simp at h
  exact h

theorem stab0_c (n : Nat) (x o : List Int) (hx : Bytes8 x) (ho : Bytes8 o) (hn : n ≤ 7) (px : IsPerm x n) (po : IsPerm o n) (i rt u : Nat) (hi : i < n) (hrt : rt ≤ 1) (hu : u ≤ 1) :
    Gives Try.prog 91 #[.agg (gc (n : Int) x o).toArray, .int .i64 (i : Int), .int .i64 0, .int .i64 (rt : Int), .int .i64 (u : Int)] (.agg (gc ((n : Int) + 1) (tab (grA x i rt (u : Int) n)) (tab (grB x o i rt (u : Int) n))).toArray) := by
  have hl := hx.len
  have hm := ho.len
  have cr := bytes_get hx (i := i) (by omega)
  have pr := (px).1 i hi
  have e1 : ((i : Int) + (rt : Int)).toNat = i + rt := by omega
  have e2 : ((i : Int) + 1 - (rt : Int)).toNat = i + 1 - rt := by omega
  skip
  refine Gives.of fun w => ?_
  refine acall_of (N := 117) (c := _) (rs := [.cell 10 32]) (args := [_, _, _, _, _]) Try.func91 rfl (by decide) rfl rfl (Nat.le_of_ble_eq_true rfl) ?_
  refine Cd.rs [1, 2, 3, 4, 5, 10] fun K hK => ?_
  simp (maxSteps := 2000000) (disch := first | (simp only [E4, hl, hm, e1, e2] <;> omega) | omega | fail) only [↓E2, E3, bare, bareJ, ↓E0, E1, env0, envN, evOps, evOp, evQs, evQ, evV, setD, pureOp, ev, upd, updL, Value.cells, hav, ↓reduceIte, Zj, Zk, Nat.reduceAdd, Nat.reduceLT, Nat.reduceEqDiff, Nat.reduceMul, Nat.reduceLeDiff, if_true, Zn, reduceCtorEq, ZA, eq_self, Int.reduceLE, Int.reduceLT, Int.reduceToNat, ne_eq, Nat.reduceSub, Tzero32, hl, hm, e1, e2]
  repeat refine And.intro (by omega) ?_
  intro b1 hb1
  intro b2 hb2
  have nb2_b1 := hb2.ne
  try simp (maxSteps := 2000000) (disch := first | (simp only [E4, hl, hm, e1, e2] <;> omega) | omega | fail) only [↓E2, E3, bare, bareJ, ↓E0, E1, env0, envN, evOps, evOp, evQs, evQ, evV, setD, pureOp, ev, upd, updL, Value.cells, hav, ↓reduceIte, Zj, Zk, Nat.reduceAdd, Nat.reduceLT, Nat.reduceEqDiff, Nat.reduceMul, Nat.reduceLeDiff, if_true, Zn, reduceCtorEq, ZA, eq_self, Int.reduceLE, Int.reduceLT, Int.reduceToNat, ne_eq, Nat.reduceSub, Tzero32, hl, hm, e1, e2, nb2_b1]
  repeat refine And.intro (by omega) ?_
  intro g
  simp only [List.map_cons, List.map_nil, updL, upd, Nat.reduceEqDiff, if_true, if_false, ↓reduceIte]
  refine hK _ _ ?_; clear hK K
  refine Cd.ps [1, 2, 3, 4, 5, 10, 11, 12] (Plan.take 0 (Plan.take 1 (Plan.take 2 (Plan.more 3 (Plan.more 4 (Plan.one 5 (Plan.one 6 (Plan.one 7 (Plan.done)))) (Plan.one 5 (Plan.one 4 (Plan.one 6 (Plan.one 7 (Plan.done)))))) (Plan.more 4 (Plan.more 3 (Plan.one 5 (Plan.one 6 (Plan.one 7 (Plan.done)))) (Plan.one 5 (Plan.more 3 (Plan.one 6 (Plan.one 7 (Plan.done))) (Plan.one 6 (Plan.take 3 (Plan.one 7 (Plan.done))))))) (Plan.one 5 (Plan.more 3 (Plan.one 4 (Plan.one 6 (Plan.one 7 (Plan.done)))) (Plan.one 4 (Plan.more 3 (Plan.one 6 (Plan.one 7 (Plan.done))) (Plan.one 6 (Plan.take 3 (Plan.one 7 (Plan.done))))))))))))) fol (by kernel_rfl) (Nat.le_of_ble_eq_true rfl) fun K hK => ?_
  have J : ∀ g c1 c2 M, [(c2, ints .u8 o), (c1, ints .u8 x), (b2, gc 0 z8 z8), (b1, gc (n : Int) x o)].Perm M → K (updL [(1, .int .i64 (i : Int)), (2, .int .i64 0), (3, .int .i64 (rt : Int)), (4, .int .i64 (u : Int)), (5, .pointer (some ⟨b1, 0, none⟩)), (10, .pointer (some ⟨b2, 0, none⟩)), (11, .pointer (some ⟨c1, 0, none⟩)), (12, .pointer (some ⟨c2, 0, none⟩))] g) M := by
    intro g c1 c2 M hM
    refine hK _ _ (Cd.turn hM (Cd.nodup fun hnd => ?_)); clear hK K
    obtain ⟨⟨d1, d2, d3⟩, ⟨d4, d5⟩, _⟩ := nodup4S hnd
    clear hnd hM
    skip
    skip
    refine Cd.seq ?_
    refine Cd.rs [1, 2, 3, 4, 5, 10, 11, 12, 23] fun K hK => ?_
    simp (maxSteps := 2000000) (disch := first | (simp only [E4, hl, hm, e1, e2, d1, d2, d3, d4, d5] <;> omega) | omega | fail) only [↓E2, E3, bare, bareJ, ↓E0, E1, env0, envN, evOps, evOp, evQs, evQ, evV, setD, pureOp, ev, upd, updL, binW, eqOp, binV, intOp, shOp, boolOp, hav, eqL, SameI, strOp, ↓reduceIte, Zj, Zk, Nat.reduceAdd, Nat.reduceLT, Nat.reduceEqDiff, Nat.reduceMul, Nat.reduceLeDiff, if_true, Zn, reduceCtorEq, ZA, eq_self, Int.reduceLE, Int.reduceLT, Int.reduceToNat, ne_eq, Nat.reduceSub, hl, hm, e1, e2, nb2_b1, d1, d2, d3, d4, d5]
    repeat refine And.intro (by omega) ?_
    intro g
    simp only [List.map_cons, List.map_nil, updL, upd, Nat.reduceEqDiff, if_true, if_false, ↓reduceIte]
    refine hK _ _ ?_; clear hK K
    refine Cd.no rfl ?_
    refine Cd.skip ?_
    refine thenN ?_
    refine Cd.rs [1, 2, 3, 4, 5, 10, 11, 12, 13] fun K hK => ?_
    simp (maxSteps := 2000000) (disch := first | (simp only [E4, hl, hm, e1, e2, d1, d2, d3, d4, d5] <;> omega) | omega | fail) only [↓E2, E3, bare, bareJ, ↓E0, E1, env0, envN, evOps, evOp, evQs, evQ, evV, setD, pureOp, ev, upd, updL, convV, indexAddrV, cellAt, cellsAt, findB, hav, cvtQ, ↓reduceIte, Zj, Zk, Nat.reduceAdd, Nat.reduceLT, Nat.reduceEqDiff, Nat.reduceMul, Nat.reduceLeDiff, if_true, Zn, reduceCtorEq, ZA, eq_self, Int.reduceLE, Int.reduceLT, Int.reduceToNat, ne_eq, Nat.reduceSub, Tarr30, Tint2, Tld5, Tpar5, hl, hm, e1, e2, nb2_b1, d1, d2, d3, d4, d5]
    repeat refine And.intro (by omega) ?_
    intro g
    simp only [List.map_cons, List.map_nil, updL, upd, Nat.reduceEqDiff, if_true, if_false, ↓reduceIte]
    refine hK _ _ ?_; clear hK K
    refine Cd.rs [1, 2, 3, 4, 5, 10, 11, 12, 13, 14, 15] fun K hK => ?_
    simp (maxSteps := 2000000) (disch := first | (simp only [E4, hl, hm, e1, e2, d1, d2, d3, d4, d5] <;> omega) | omega | fail) only [↓E2, E3, bare, bareJ, ↓E0, E1, evP, env0, envN, evOps, evOp, evQs, evQ, evV, setD, pureOp, ev, upd, updL, cellAt, cellsAt, findB, setB, fillL, buildV, Value.cells, hav, ↓reduceIte, Zj, Zk, Nat.reduceAdd, Nat.reduceLT, Nat.reduceEqDiff, Nat.reduceMul, Nat.reduceLeDiff, if_true, Zn, reduceCtorEq, ZA, eq_self, Int.reduceLE, Int.reduceLT, Int.reduceToNat, ne_eq, Nat.reduceSub, Tbld30, Tst30, Tzero30, hl, hm, e1, e2, nb2_b1, d1, d2, d3, d4, d5]
    repeat refine And.intro (by omega) ?_
    intro b5 hb5
    have nb5_c2 := hb5.ne
    have nb5_c1 := hb5.tail.ne
    have nb5_b2 := hb5.tail.tail.ne
    have nb5_b1 := hb5.tail.tail.tail.ne
    intro b6 hb6
    have nb6_b5 := hb6.ne
    have nb6_c2 := hb6.tail.ne
    have nb6_c1 := hb6.tail.tail.ne
    have nb6_b2 := hb6.tail.tail.tail.ne
    have nb6_b1 := hb6.tail.tail.tail.tail.ne
    try simp (maxSteps := 2000000) (disch := first | (simp only [E4, hl, hm, e1, e2, d1, d2, d3, d4, d5] <;> omega) | omega | fail) only [↓E2, E3, bare, bareJ, ↓E0, E1, evP, env0, envN, evOps, evOp, evQs, evQ, evV, setD, pureOp, ev, upd, updL, cellAt, cellsAt, findB, setB, fillL, buildV, Value.cells, hav, ↓reduceIte, Zj, Zk, Nat.reduceAdd, Nat.reduceLT, Nat.reduceEqDiff, Nat.reduceMul, Nat.reduceLeDiff, if_true, Zn, reduceCtorEq, ZA, eq_self, Int.reduceLE, Int.reduceLT, Int.reduceToNat, ne_eq, Nat.reduceSub, Tbld30, Tst30, Tzero30, hl, hm, e1, e2, nb2_b1, d1, d2, d3, d4, d5, nb5_c2, nb5_c1, nb5_b2, nb5_b1, nb6_b5, nb6_c2, nb6_c1, nb6_b2, nb6_b1]
    repeat refine And.intro (by omega) ?_
    intro g
    simp only [List.map_cons, List.map_nil, updL, upd, Nat.reduceEqDiff, if_true, if_false, ↓reduceIte]
    refine hK _ _ ?_; clear hK K
    refine Cd.seq ?_
    refine Cd.rs [1, 2, 3, 4, 5, 10, 11, 12, 13, 14, 15, 16] fun K hK => ?_
    simp (maxSteps := 2000000) (disch := first | (simp only [E4, hl, hm, e1, e2, d1, d2, d3, d4, d5] <;> omega) | omega | fail) only [↓E2, E3, bare, bareJ, ↓E0, E1, env0, envN, evOps, evOp, evQs, evQ, evV, setD, pureOp, ev, upd, updL, hav, ↓reduceIte, Zj, Zk, Nat.reduceAdd, Nat.reduceLT, Nat.reduceEqDiff, Nat.reduceMul, Nat.reduceLeDiff, if_true, Zn, reduceCtorEq, ZA, eq_self, Int.reduceLE, Int.reduceLT, Int.reduceToNat, ne_eq, Nat.reduceSub, hl, hm, e1, e2, nb2_b1, d1, d2, d3, d4, d5, nb5_c2, nb5_c1, nb5_b2, nb5_b1, nb6_b5, nb6_c2, nb6_c1, nb6_b2, nb6_b1]
    repeat refine And.intro (by omega) ?_
    intro g
    simp only [List.map_cons, List.map_nil, updL, upd, Nat.reduceEqDiff, if_true, if_false, ↓reduceIte]
    refine hK _ _ ?_; clear hK K
    refine Cd.block ?_
    refine Cd.loop (fun m ρ M => ∃ g k, k + m = n ∧ ρ = updL [(1, .int .i64 (i : Int)), (2, .int .i64 0), (3, .int .i64 (rt : Int)), (4, .int .i64 (u : Int)), (5, .pointer (some ⟨b1, 0, none⟩)), (10, .pointer (some ⟨b2, 0, none⟩)), (11, .pointer (some ⟨c1, 0, none⟩)), (12, .pointer (some ⟨c2, 0, none⟩)), (13, .int .i64 (x.getD i 0)), (14, .pointer (some ⟨b5, 0, none⟩)), (15, .pointer (some ⟨b6, 0, none⟩)), (16, .int .i64 (k : Int))] g ∧
      M = [(b6, ints .u8 (tab (genS (fun c => liftF (x.getD i 0) (u : Int) (o.getD c 0)) i k))), (b5, ints .u8 (tab (genS (fun c => liftF (x.getD i 0) (u : Int) (x.getD c 0)) i k))), (c2, ints .u8 o), (c1, ints .u8 x), (b2, gc 0 z8 z8), (b1, gc (n : Int) x o)]) n ⟨_, 0, Nat.zero_add _, rfl, by rw [genS_zero, genS_zero]⟩ ?_
    rintro m ρ M ⟨g, k, hk, rfl, rfl⟩
    refine Cd.seq ?_
    refine Cd.rs [1, 2, 3, 4, 5, 10, 11, 12, 13, 14, 15, 16, 37] fun K hK => ?_
    simp (maxSteps := 2000000) (disch := first | (simp only [E4, hl, hm, e1, e2, d1, d2, d3, d4, d5] <;> omega) | omega | fail) only [↓E2, E3, bare, bareJ, ↓E0, E1, env0, envN, evOps, evOp, evQs, evQ, evV, setD, pureOp, ev, upd, updL, binW, eqOp, binV, intOp, shOp, boolOp, fieldAddrV, cellAt, cellsAt, findB, hav, eqL, SameI, strOp, ↓reduceIte, Zj, Zk, Nat.reduceAdd, Nat.reduceLT, Nat.reduceEqDiff, Nat.reduceMul, Nat.reduceLeDiff, if_true, Zn, reduceCtorEq, ZA, eq_self, Int.reduceLE, Int.reduceLT, Int.reduceToNat, ne_eq, Nat.reduceSub, Tfld32_0, Tld2, hl, hm, e1, e2, nb2_b1, d1, d2, d3, d4, d5, nb5_c2, nb5_c1, nb5_b2, nb5_b1, nb6_b5, nb6_c2, nb6_c1, nb6_b2, nb6_b1]
    repeat refine And.intro (by omega) ?_
    intro g
    simp only [List.map_cons, List.map_nil, updL, upd, Nat.reduceEqDiff, if_true, if_false, ↓reduceIte]
    refine hK _ _ ?_; clear hK K
    refine Cd.condd rfl (fun h1 => ?_) (fun h1 => ?_)
    · have ck := bytes_get hx (i := k) (by omega)
      have dk := bytes_get ho (i := k) (by omega)
      have qk := po.1 k (by omega)
      have qk' := px.1 k (by omega)
      refine Cd.skip ?_
      refine thenN ?_
      refine Cd.midq (fun ρ M => ∃ g, ρ = updL [(1, .int .i64 (i : Int)), (2, .int .i64 0), (3, .int .i64 (rt : Int)), (4, .int .i64 (u : Int)), (5, .pointer (some ⟨b1, 0, none⟩)), (10, .pointer (some ⟨b2, 0, none⟩)), (11, .pointer (some ⟨c1, 0, none⟩)), (12, .pointer (some ⟨c2, 0, none⟩)), (13, .int .i64 (x.getD i 0)), (14, .pointer (some ⟨b5, 0, none⟩)), (15, .pointer (some ⟨b6, 0, none⟩)), (16, .int .i64 (k : Int))] g ∧
        M = [(b6, ints .u8 (tab (genS (fun c => liftF (x.getD i 0) (u : Int) (o.getD c 0)) i (k + 1)))), (b5, ints .u8 (tab (genS (fun c => liftF (x.getD i 0) (u : Int) (x.getD c 0)) i (k + 1)))), (c2, ints .u8 o), (c1, ints .u8 x), (b2, gc 0 z8 z8), (b1, gc (n : Int) x o)]) ?_ ?_
      · refine Cd.block ?_
        refine Cd.rs [1, 2, 3, 4, 5, 10, 11, 12, 13, 14, 15, 16, 17] fun K hK => ?_
        simp (maxSteps := 2000000) (disch := first | (simp only [E4, hl, hm, e1, e2, d1, d2, d3, d4, d5] <;> omega) | omega | fail) only [↓E2, E3, bare, bareJ, ↓E0, E1, env0, envN, evOps, evOp, evQs, evQ, evV, setD, pureOp, ev, upd, updL, hav, ↓reduceIte, Zj, Zk, Nat.reduceAdd, Nat.reduceLT, Nat.reduceEqDiff, Nat.reduceMul, Nat.reduceLeDiff, if_true, Zn, reduceCtorEq, ZA, eq_self, Int.reduceLE, Int.reduceLT, Int.reduceToNat, ne_eq, Nat.reduceSub, hl, hm, e1, e2, nb2_b1, d1, d2, d3, d4, d5, nb5_c2, nb5_c1, nb5_b2, nb5_b1, nb6_b5, nb6_c2, nb6_c1, nb6_b2, nb6_b1]
        repeat refine And.intro (by omega) ?_
        intro g
        simp only [List.map_cons, List.map_nil, updL, upd, Nat.reduceEqDiff, if_true, if_false, ↓reduceIte]
        refine hK _ _ ?_; clear hK K
        refine Cd.midq (fun ρ M => ∃ g, ρ = updL [(1, .int .i64 (i : Int)), (2, .int .i64 0), (3, .int .i64 (rt : Int)), (4, .int .i64 (u : Int)), (5, .pointer (some ⟨b1, 0, none⟩)), (10, .pointer (some ⟨b2, 0, none⟩)), (11, .pointer (some ⟨c1, 0, none⟩)), (12, .pointer (some ⟨c2, 0, none⟩)), (13, .int .i64 (x.getD i 0)), (14, .pointer (some ⟨b5, 0, none⟩)), (15, .pointer (some ⟨b6, 0, none⟩)), (16, .int .i64 (k : Int)), (17, .int .i64 (toS i k : Int))] g ∧
          M = [(b6, ints .u8 (tab (genS (fun c => liftF (x.getD i 0) (u : Int) (o.getD c 0)) i k))), (b5, ints .u8 (tab (genS (fun c => liftF (x.getD i 0) (u : Int) (x.getD c 0)) i k))), (c2, ints .u8 o), (c1, ints .u8 x), (b2, gc 0 z8 z8), (b1, gc (n : Int) x o)]) ?_ ?_
        · refine Cd.rs [1, 2, 3, 4, 5, 10, 11, 12, 13, 14, 15, 16, 17, 43] fun K hK => ?_
          simp (maxSteps := 2000000) (disch := first | (simp only [E4, hl, hm, e1, e2, d1, d2, d3, d4, d5] <;> omega) | omega | fail) only [↓E2, E3, bare, bareJ, ↓E0, E1, env0, envN, evOps, evOp, evQs, evQ, evV, setD, pureOp, ev, upd, updL, binW, eqOp, binV, intOp, shOp, boolOp, hav, eqL, SameI, strOp, ↓reduceIte, Zj, Zk, Nat.reduceAdd, Nat.reduceLT, Nat.reduceEqDiff, Nat.reduceMul, Nat.reduceLeDiff, if_true, Zn, reduceCtorEq, ZA, eq_self, Int.reduceLE, Int.reduceLT, Int.reduceToNat, ne_eq, Nat.reduceSub, hl, hm, e1, e2, nb2_b1, d1, d2, d3, d4, d5, nb5_c2, nb5_c1, nb5_b2, nb5_b1, nb6_b5, nb6_c2, nb6_c1, nb6_b2, nb6_b1]
          repeat refine And.intro (by omega) ?_
          intro g
          simp only [List.map_cons, List.map_nil, updL, upd, Nat.reduceEqDiff, if_true, if_false, ↓reduceIte]
          refine hK _ _ ?_; clear hK K
          refine Cd.condd rfl (fun h2 => ?_) (fun h2 => ?_)
          · refine Cd.rr [1, 2, 3, 4, 5, 10, 11, 12, 13, 14, 15, 16, 17] fun K hK => ?_
            simp (maxSteps := 2000000) (disch := first | (simp only [E4, hl, hm, e1, e2, d1, d2, d3, d4, d5] <;> omega) | omega | fail) only [↓E2, E3, bare, bareJ, ↓E0, E1, env0, envN, evOps, evOp, evQs, evQ, evV, setD, pureOp, ev, upd, updL, binW, eqOp, binV, intOp, shOp, boolOp, hav, eqL, SameI, strOp, ↓reduceIte, Zj, Zk, Nat.reduceAdd, Nat.reduceLT, Nat.reduceEqDiff, Nat.reduceMul, Nat.reduceLeDiff, if_true, Zn, reduceCtorEq, ZA, eq_self, Int.reduceLE, Int.reduceLT, Int.reduceToNat, ne_eq, Nat.reduceSub, hl, hm, e1, e2, nb2_b1, d1, d2, d3, d4, d5, nb5_c2, nb5_c1, nb5_b2, nb5_b1, nb6_b5, nb6_c2, nb6_c1, nb6_b2, nb6_b1]
            rw [show (k : Int) + 1 = (toS i k : Int) by unfold toS; rw [if_pos (by omega)]; rfl]
            repeat refine And.intro (by omega) ?_
            intro g
            simp only [List.map_cons, List.map_nil, updL, upd, Nat.reduceEqDiff, if_true, if_false, ↓reduceIte]
            refine hK _ _ ?_; clear hK K
            exact midN ⟨_, rfl, rfl⟩
          · rw [show toS i k = k by unfold toS; rw [if_neg (by omega)]]
            refine Cd.skip ?_
            exact midN ⟨_, (norm_of (by repeat (first | exact trivial | refine And.intro rfl ?_))), rfl⟩
        · rintro ρ M ⟨g, rfl, rfl⟩
          have ht : toS i k ≤ 7 := by unfold toS; split <;> omega
          refine Cd.rs [1, 2, 3, 4, 5, 10, 11, 12, 13, 14, 15, 16, 17, 48] fun K hK => ?_
          simp (maxSteps := 2000000) (disch := first | (simp only [E4, hl, hm, e1, e2, d1, d2, d3, d4, d5] <;> omega) | omega | fail) only [↓E2, E3, bare, bareJ, ↓E0, E1, env0, envN, evOps, evOp, evQs, evQ, evV, setD, pureOp, ev, upd, updL, binW, eqOp, binV, intOp, shOp, boolOp, hav, eqL, SameI, strOp, ↓reduceIte, Zj, Zk, Nat.reduceAdd, Nat.reduceLT, Nat.reduceEqDiff, Nat.reduceMul, Nat.reduceLeDiff, if_true, Zn, reduceCtorEq, ZA, eq_self, Int.reduceLE, Int.reduceLT, Int.reduceToNat, ne_eq, Nat.reduceSub, hl, hm, e1, e2, nb2_b1, d1, d2, d3, d4, d5, nb5_c2, nb5_c1, nb5_b2, nb5_b1, nb6_b5, nb6_c2, nb6_c1, nb6_b2, nb6_b1]
          repeat refine And.intro (by omega) ?_
          intro g
          simp only [List.map_cons, List.map_nil, updL, upd, Nat.reduceEqDiff, if_true, if_false, ↓reduceIte]
          refine hK _ _ ?_; clear hK K
          refine Cd.cond rfl (fun h4 => ?_) (fun h4 => ?_)
          · simp only [decide_eq_true_eq, decide_eq_false_iff_not, beq_iff_eq, beq_eq_false_iff_ne, bne_iff_ne, bne_eq_false_iff_eq, Bool.and_eq_true, Bool.or_eq_true, Bool.or_eq_false_iff, Bool.not_eq_true', Bool.not_eq_false', Bool.and_eq_false_imp, ne_eq, gt_iff_lt, ge_iff_le, Int.not_lt, Int.not_le, Classical.not_not] at h4
            have h4 : k ≠ i := by omega
            refine Cd.rs [1, 2, 3, 4, 5, 10, 11, 12, 13, 14, 15, 16, 17] fun K hK => ?_
            simp (maxSteps := 2000000) (disch := first | (simp only [E4, hl, hm, e1, e2, d1, d2, d3, d4, d5] <;> omega) | omega | fail) only [↓E2, E3, bare, bareJ, ↓E0, E1, env0, envN, evOps, evOp, evQs, evQ, evV, setD, pureOp, ev, upd, updL, indexAddrV, cellAt, cellsAt, findB, setB, Value.cells, hav, ↓reduceIte, Zj, Zk, Nat.reduceAdd, Nat.reduceLT, Nat.reduceEqDiff, Nat.reduceMul, Nat.reduceLeDiff, if_true, Zn, reduceCtorEq, ZA, eq_self, Int.reduceLE, Int.reduceLT, Int.reduceToNat, ne_eq, Nat.reduceSub, Tarr30, Tld5, Tst5, hl, hm, e1, e2, nb2_b1, d1, d2, d3, d4, d5, nb5_c2, nb5_c1, nb5_b2, nb5_b1, nb6_b5, nb6_c2, nb6_c1, nb6_b2, nb6_b1]
            repeat refine And.intro (by omega) ?_
            refine callK_gives (l02Lifted_c _ _ u (by omega) (by omega) (by omega) (by omega) hu) ?_
            simp (maxSteps := 2000000) (disch := first | (simp only [E4, hl, hm, e1, e2, d1, d2, d3, d4, d5] <;> omega) | omega | fail) only [↓E2, E3, bare, bareJ, ↓E0, E1, env0, envN, evOps, evOp, evQs, evQ, evV, setD, pureOp, ev, upd, updL, indexAddrV, cellAt, cellsAt, findB, setB, Value.cells, hav, ↓reduceIte, Zj, Zk, Nat.reduceAdd, Nat.reduceLT, Nat.reduceEqDiff, Nat.reduceMul, Nat.reduceLeDiff, if_true, Zn, reduceCtorEq, ZA, eq_self, Int.reduceLE, Int.reduceLT, Int.reduceToNat, ne_eq, Nat.reduceSub, Tarr30, Tld5, Tst5, hl, hm, e1, e2, nb2_b1, d1, d2, d3, d4, d5, nb5_c2, nb5_c1, nb5_b2, nb5_b1, nb6_b5, nb6_c2, nb6_c1, nb6_b2, nb6_b1]
            repeat refine And.intro (by omega) ?_
            rw [show (tab (genS (fun c => liftF (x.getD i 0) (u : Int) (x.getD c 0)) i k)).set (toS i k) (liftF (x.getD i 0) (u : Int) (x.getD k 0)) = _ from genS_set h4 rfl]
            repeat refine And.intro (by omega) ?_
            intro g
            simp only [List.map_cons, List.map_nil, updL, upd, Nat.reduceEqDiff, if_true, if_false, ↓reduceIte]
            refine hK _ _ ?_; clear hK K
            refine Cd.rr [1, 2, 3, 4, 5, 10, 11, 12, 13, 14, 15, 16] fun K hK => ?_
            simp (maxSteps := 2000000) (disch := first | (simp only [E4, hl, hm, e1, e2, d1, d2, d3, d4, d5] <;> omega) | omega | fail) only [↓E2, E3, bare, bareJ, ↓E0, E1, env0, envN, evOps, evOp, evQs, evQ, evV, setD, pureOp, ev, upd, updL, indexAddrV, cellAt, cellsAt, findB, setB, Value.cells, hav, ↓reduceIte, Zj, Zk, Nat.reduceAdd, Nat.reduceLT, Nat.reduceEqDiff, Nat.reduceMul, Nat.reduceLeDiff, if_true, Zn, reduceCtorEq, ZA, eq_self, Int.reduceLE, Int.reduceLT, Int.reduceToNat, ne_eq, Nat.reduceSub, Tarr30, Tld5, Tst5, hl, hm, e1, e2, nb2_b1, d1, d2, d3, d4, d5, nb5_c2, nb5_c1, nb5_b2, nb5_b1, nb6_b5, nb6_c2, nb6_c1, nb6_b2, nb6_b1]
            repeat refine And.intro (by omega) ?_
            refine callK_gives (l02Lifted_c _ _ u (by omega) (by omega) (by omega) (by omega) hu) ?_
            simp (maxSteps := 2000000) (disch := first | (simp only [E4, hl, hm, e1, e2, d1, d2, d3, d4, d5] <;> omega) | omega | fail) only [↓E2, E3, bare, bareJ, ↓E0, E1, env0, envN, evOps, evOp, evQs, evQ, evV, setD, pureOp, ev, upd, updL, indexAddrV, cellAt, cellsAt, findB, setB, Value.cells, hav, ↓reduceIte, Zj, Zk, Nat.reduceAdd, Nat.reduceLT, Nat.reduceEqDiff, Nat.reduceMul, Nat.reduceLeDiff, if_true, Zn, reduceCtorEq, ZA, eq_self, Int.reduceLE, Int.reduceLT, Int.reduceToNat, ne_eq, Nat.reduceSub, Tarr30, Tld5, Tst5, hl, hm, e1, e2, nb2_b1, d1, d2, d3, d4, d5, nb5_c2, nb5_c1, nb5_b2, nb5_b1, nb6_b5, nb6_c2, nb6_c1, nb6_b2, nb6_b1]
            repeat refine And.intro (by omega) ?_
            rw [show (tab (genS (fun c => liftF (x.getD i 0) (u : Int) (o.getD c 0)) i k)).set (toS i k) (liftF (x.getD i 0) (u : Int) (o.getD k 0)) = _ from genS_set h4 rfl]
            repeat refine And.intro (by omega) ?_
            intro g
            simp only [List.map_cons, List.map_nil, updL, upd, Nat.reduceEqDiff, if_true, if_false, ↓reduceIte]
            refine hK _ _ ?_; clear hK K
            refine inBN ?_
            exact midN ⟨_, rfl, rfl⟩
          · simp only [decide_eq_true_eq, decide_eq_false_iff_not, beq_iff_eq, beq_eq_false_iff_ne, bne_iff_ne, bne_eq_false_iff_eq, Bool.and_eq_true, Bool.or_eq_true, Bool.or_eq_false_iff, Bool.not_eq_true', Bool.not_eq_false', Bool.and_eq_false_imp, ne_eq, gt_iff_lt, ge_iff_le, Int.not_lt, Int.not_le, Classical.not_not] at h4
            have h4 : k = i := by omega
            rw [genS_same h4, genS_same h4]
            refine Cd.skip ?_
            refine inBN ?_
            exact midN ⟨_, (norm_of (by repeat (first | exact trivial | refine And.intro rfl ?_))), rfl⟩
      · rintro ρ M ⟨g, rfl, rfl⟩
        refine Cd.rr [1, 2, 3, 4, 5, 10, 11, 12, 13, 14, 15, 16] fun K hK => ?_
        simp (maxSteps := 2000000) (disch := first | (simp only [E4, hl, hm, e1, e2, d1, d2, d3, d4, d5] <;> omega) | omega | fail) only [↓E2, E3, bare, bareJ, ↓E0, E1, env0, envN, evOps, evOp, evQs, evQ, evV, setD, pureOp, ev, upd, updL, binW, eqOp, binV, intOp, shOp, boolOp, hav, eqL, SameI, strOp, ↓reduceIte, Zj, Zk, Nat.reduceAdd, Nat.reduceLT, Nat.reduceEqDiff, Nat.reduceMul, Nat.reduceLeDiff, if_true, Zn, reduceCtorEq, ZA, eq_self, Int.reduceLE, Int.reduceLT, Int.reduceToNat, ne_eq, Nat.reduceSub, hl, hm, e1, e2, nb2_b1, d1, d2, d3, d4, d5, nb5_c2, nb5_c1, nb5_b2, nb5_b1, nb6_b5, nb6_c2, nb6_c1, nb6_b2, nb6_b1]
        repeat refine And.intro (by omega) ?_
        intro g
        simp only [List.map_cons, List.map_nil, updL, upd, Nat.reduceEqDiff, if_true, if_false, ↓reduceIte]
        refine hK _ _ ?_; clear hK K
        refine roundN (m := m - 1) (by omega) ⟨_, k + 1, by omega, rfl, rfl⟩
    · refine Cd.exit (thenX (roundX (inBX ?_)))
      refine thenN ?_
      obtain rfl : k = n := by omega
      have dr := bytes_get ho (i := i) (by omega)
      have dq := px.1 i hi
      have dq' := po.1 i hi
      refine Cd.rs [1, 2, 3, 4, 5, 10, 12, 13, 14, 15] fun K hK => ?_
      simp (maxSteps := 2000000) (disch := first | (simp only [E4, hl, hm, e1, e2, d1, d2, d3, d4, d5] <;> omega) | omega | fail) only [↓E2, E3, bare, bareJ, ↓E0, E1, env0, envN, evOps, evOp, evQs, evQ, evV, setD, pureOp, ev, upd, updL, binW, eqOp, binV, intOp, shOp, boolOp, convV, indexAddrV, cellAt, cellsAt, findB, setB, Value.cells, hav, eqL, SameI, strOp, cvtQ, ↓reduceIte, Zj, Zk, Nat.reduceAdd, Nat.reduceLT, Nat.reduceEqDiff, Nat.reduceMul, Nat.reduceLeDiff, if_true, Zn, reduceCtorEq, ZA, eq_self, Int.reduceLE, Int.reduceLT, Int.reduceToNat, ne_eq, Nat.reduceSub, Tarr30, Tint5, Tpar2, Tst5, hl, hm, e1, e2, nb2_b1, d1, d2, d3, d4, d5, nb5_c2, nb5_c1, nb5_b2, nb5_b1, nb6_b5, nb6_c2, nb6_c1, nb6_b2, nb6_b1]
      repeat refine And.intro (by omega) ?_
      rw [Int.add_sub_assoc (x.getD i 0)]
      repeat refine And.intro (by omega) ?_
      intro g
      simp only [List.map_cons, List.map_nil, updL, upd, Nat.reduceEqDiff, if_true, if_false, ↓reduceIte]
      refine hK _ _ ?_; clear hK K
      refine Cd.rs [1, 2, 3, 4, 5, 10, 12, 13, 14, 15] fun K hK => ?_
      simp (maxSteps := 2000000) (disch := first | (simp only [E4, hl, hm, e1, e2, d1, d2, d3, d4, d5] <;> omega) | omega | fail) only [↓E2, E3, bare, bareJ, ↓E0, E1, env0, envN, evOps, evOp, evQs, evQ, evV, setD, pureOp, ev, upd, updL, binW, eqOp, binV, intOp, shOp, boolOp, convV, indexAddrV, cellAt, cellsAt, findB, setB, Value.cells, hav, eqL, SameI, strOp, cvtQ, ↓reduceIte, Zj, Zk, Nat.reduceAdd, Nat.reduceLT, Nat.reduceEqDiff, Nat.reduceMul, Nat.reduceLeDiff, if_true, Zn, reduceCtorEq, ZA, eq_self, Int.reduceLE, Int.reduceLT, Int.reduceToNat, ne_eq, Nat.reduceSub, Tarr30, Tint5, Tpar2, Tst5, hl, hm, e1, e2, nb2_b1, d1, d2, d3, d4, d5, nb5_c2, nb5_c1, nb5_b2, nb5_b1, nb6_b5, nb6_c2, nb6_c1, nb6_b2, nb6_b1]
      repeat refine And.intro (by omega) ?_
      rw [grA_endS hrt hi]
      repeat refine And.intro (by omega) ?_
      intro g
      simp only [List.map_cons, List.map_nil, updL, upd, Nat.reduceEqDiff, if_true, if_false, ↓reduceIte]
      refine hK _ _ ?_; clear hK K
      refine Cd.rs [1, 2, 3, 4, 5, 10, 12, 13, 14, 15] fun K hK => ?_
      simp (maxSteps := 2000000) (disch := first | (simp only [E4, hl, hm, e1, e2, d1, d2, d3, d4, d5] <;> omega) | omega | fail) only [↓E2, E3, bare, bareJ, ↓E0, E1, env0, envN, evOps, evOp, evQs, evQ, evV, setD, pureOp, ev, upd, updL, binW, eqOp, binV, intOp, shOp, boolOp, convV, indexAddrV, cellAt, cellsAt, findB, setB, Value.cells, hav, eqL, SameI, strOp, cvtQ, ↓reduceIte, Zj, Zk, Nat.reduceAdd, Nat.reduceLT, Nat.reduceEqDiff, Nat.reduceMul, Nat.reduceLeDiff, if_true, Zn, reduceCtorEq, ZA, eq_self, Int.reduceLE, Int.reduceLT, Int.reduceToNat, ne_eq, Nat.reduceSub, Tarr30, Tint5, Tpar2, Tst5, hl, hm, e1, e2, nb2_b1, d1, d2, d3, d4, d5, nb5_c2, nb5_c1, nb5_b2, nb5_b1, nb6_b5, nb6_c2, nb6_c1, nb6_b2, nb6_b1]
      repeat refine And.intro (by omega) ?_
      rw [Int.add_sub_assoc (x.getD i 0)]
      repeat refine And.intro (by omega) ?_
      intro g
      simp only [List.map_cons, List.map_nil, updL, upd, Nat.reduceEqDiff, if_true, if_false, ↓reduceIte]
      refine hK _ _ ?_; clear hK K
      refine Cd.rs [2, 5, 10, 14, 15] fun K hK => ?_
      simp (maxSteps := 2000000) (disch := first | (simp only [E4, hl, hm, e1, e2, d1, d2, d3, d4, d5] <;> omega) | omega | fail) only [↓E2, E3, bare, bareJ, ↓E0, E1, env0, envN, evOps, evOp, evQs, evQ, evV, setD, pureOp, ev, upd, updL, binW, eqOp, binV, intOp, shOp, boolOp, indexAddrV, cellAt, cellsAt, findB, setB, Value.cells, hav, eqL, SameI, strOp, ↓reduceIte, Zj, Zk, Nat.reduceAdd, Nat.reduceLT, Nat.reduceEqDiff, Nat.reduceMul, Nat.reduceLeDiff, if_true, Zn, reduceCtorEq, ZA, eq_self, Int.reduceLE, Int.reduceLT, Int.reduceToNat, ne_eq, Nat.reduceSub, Tarr30, Tld5, Tst5, hl, hm, e1, e2, nb2_b1, d1, d2, d3, d4, d5, nb5_c2, nb5_c1, nb5_b2, nb5_b1, nb6_b5, nb6_c2, nb6_c1, nb6_b2, nb6_b1]
      repeat refine And.intro (by omega) ?_
      refine callK_gives (l02Lifted_c _ _ u (by omega) (by omega) (by omega) (by omega) hu) ?_
      simp (maxSteps := 2000000) (disch := first | (simp only [E4, hl, hm, e1, e2, d1, d2, d3, d4, d5] <;> omega) | omega | fail) only [↓E2, E3, bare, bareJ, ↓E0, E1, env0, envN, evOps, evOp, evQs, evQ, evV, setD, pureOp, ev, upd, updL, binW, eqOp, binV, intOp, shOp, boolOp, indexAddrV, cellAt, cellsAt, findB, setB, Value.cells, hav, eqL, SameI, strOp, ↓reduceIte, Zj, Zk, Nat.reduceAdd, Nat.reduceLT, Nat.reduceEqDiff, Nat.reduceMul, Nat.reduceLeDiff, if_true, Zn, reduceCtorEq, ZA, eq_self, Int.reduceLE, Int.reduceLT, Int.reduceToNat, ne_eq, Nat.reduceSub, Tarr30, Tld5, Tst5, hl, hm, e1, e2, nb2_b1, d1, d2, d3, d4, d5, nb5_c2, nb5_c1, nb5_b2, nb5_b1, nb6_b5, nb6_c2, nb6_c1, nb6_b2, nb6_b1]
      repeat refine And.intro (by omega) ?_
      rw [grB_endS hrt hi]
      repeat refine And.intro (by omega) ?_
      intro g
      simp only [List.map_cons, List.map_nil, updL, upd, Nat.reduceEqDiff, if_true, if_false, ↓reduceIte]
      refine hK _ _ ?_; clear hK K
      refine Cd.seq ?_
      refine Cd.rs [5, 10, 14, 15, 104] fun K hK => ?_
      simp (maxSteps := 2000000) (disch := first | (simp only [E4, hl, hm, e1, e2, d1, d2, d3, d4, d5] <;> omega) | omega | fail) only [↓E2, E3, bare, bareJ, ↓E0, E1, env0, envN, evOps, evOp, evQs, evQ, evV, setD, pureOp, ev, upd, updL, binW, eqOp, binV, intOp, shOp, boolOp, hav, eqL, SameI, strOp, ↓reduceIte, Zj, Zk, Nat.reduceAdd, Nat.reduceLT, Nat.reduceEqDiff, Nat.reduceMul, Nat.reduceLeDiff, if_true, Zn, reduceCtorEq, ZA, eq_self, Int.reduceLE, Int.reduceLT, Int.reduceToNat, ne_eq, Nat.reduceSub, hl, hm, e1, e2, nb2_b1, d1, d2, d3, d4, d5, nb5_c2, nb5_c1, nb5_b2, nb5_b1, nb6_b5, nb6_c2, nb6_c1, nb6_b2, nb6_b1]
      repeat refine And.intro (by omega) ?_
      intro g
      simp only [List.map_cons, List.map_nil, updL, upd, Nat.reduceEqDiff, if_true, if_false, ↓reduceIte]
      refine hK _ _ ?_; clear hK K
      refine Cd.no rfl ?_
      refine Cd.skip ?_
      refine thenN ?_
      refine Cd.rs [10] fun K hK => ?_
      simp (maxSteps := 2000000) (disch := first | (simp only [E4, hl, hm, e1, e2, d1, d2, d3, d4, d5] <;> omega) | omega | fail) only [↓E2, E3, bare, bareJ, ↓E0, E1, evP, env0, envN, evOps, evOp, evQs, evQ, evV, setD, pureOp, ev, upd, updL, binW, eqOp, binV, intOp, shOp, boolOp, fieldAddrV, cellAt, cellsAt, findB, setB, fillL, buildV, Value.cells, hav, eqL, SameI, strOp, ↓reduceIte, Zj, Zk, Nat.reduceAdd, Nat.reduceLT, Nat.reduceEqDiff, Nat.reduceMul, Nat.reduceLeDiff, if_true, Zn, reduceCtorEq, ZA, eq_self, Int.reduceLE, Int.reduceLT, Int.reduceToNat, ne_eq, Nat.reduceSub, Tbld32, Tfld32_0, Tld2, Tld30, Tst32, hl, hm, e1, e2, nb2_b1, d1, d2, d3, d4, d5, nb5_c2, nb5_c1, nb5_b2, nb5_b1, nb6_b5, nb6_c2, nb6_c1, nb6_b2, nb6_b1]
      repeat refine And.intro (by omega) ?_
      intro g
      simp only [List.map_cons, List.map_nil, updL, upd, Nat.reduceEqDiff, if_true, if_false, ↓reduceIte]
      refine hK _ _ ?_; clear hK K
      refine Cd.ret ?_
      simp (maxSteps := 2000000) (disch := first | (simp only [E4, hl, hm, e1, e2, d1, d2, d3, d4, d5] <;> omega) | omega | fail) only [↓E2, E3, bare, bareJ, ↓E0, E1, evP, evPlan, env0, envN, evOps, evOp, evQs, evQ, evV, setD, pureOp, ev, upd, updL, gate, binW, eqOp, binV, intOp, shOp, boolOp, unV, convV, nilV, fieldAddrV, indexAddrV, extractV, cellAt, cellsAt, findB, setB, fillL, buildV, Value.cells, lenV, minV, maxV, hav, sliceV, loV, hiV, bslQ, mksQ, appQ, partsOk, partsCells, delB, eqL, SameI, strOp, apzQ, cvtQ, capV, ↓reduceIte, Zj, Zk, Nat.reduceAdd, Nat.reduceLT, Nat.reduceEqDiff, Nat.reduceMul, Nat.reduceLeDiff, if_true, Zn, reduceCtorEq, ZA, eq_self, Int.reduceLE, Int.reduceLT, Int.reduceToNat, ne_eq, Nat.reduceSub, Tld32, hl, hm, e1, e2, nb2_b1, d1, d2, d3, d4, d5, nb5_c2, nb5_c1, nb5_b2, nb5_b1, nb6_b5, nb6_c2, nb6_c1, nb6_b2, nb6_b1]
  clear hK
  simp (maxSteps := 2000000) (disch := first | (simp only [E4, hl, hm, e1, e2] <;> omega) | omega | fail) only [↓E2, E3, bare, bareJ, ↓E0, E1, evPlan, env0, envN, evOps, evOp, evQs, evQ, evV, setD, pureOp, ev, upd, updL, fieldAddrV, cellAt, cellsAt, findB, setB, Value.cells, hav, ↓reduceIte, Zj, Zk, Nat.reduceAdd, Nat.reduceLT, Nat.reduceEqDiff, Nat.reduceMul, Nat.reduceLeDiff, if_true, Zn, reduceCtorEq, ZA, eq_self, Int.reduceLE, Int.reduceLT, Int.reduceToNat, ne_eq, Nat.reduceSub, Tfld32_1, Tfld32_2, Tld30, Tst30, Tzero30, ↓YR, hl, hm, e1, e2, nb2_b1]
  repeat' first
      | omega
      | refine moreX_go ?_ ?_
      | with_reducible refine And.intro ?_ ?_
      | (with_reducible intro (b : Nat) (hb : Fresh _ _ b); have hb := hb.all; simp only [List.mem_cons, List.not_mem_nil, forall_eq_or_imp, or_false, forall_eq, false_implies, implies_true, and_true] at hb)
      | (with_reducible intro (b' : Nat) (cap' : Nat) (rest' : List Value) (hf' : Fresh _ _ b') (hc' : _ ≤ cap') (hr' : rest'.length = _); have hfa := hf'.all; simp only [List.mem_cons, List.not_mem_nil, forall_eq_or_imp, or_false, forall_eq, false_implies, implies_true, and_true] at hfa)
      | simp (maxSteps := 2000000) (disch := first | (simp only [E4, hl, hm, e1, e2] <;> omega) | omega | fail) only [↓E2, E3, bare, bareJ, ↓E0, E1, evPlan, env0, envN, evOps, evOp, evQs, evQ, evV, setD, pureOp, ev, upd, updL, fieldAddrV, cellAt, cellsAt, findB, setB, Value.cells, hav, ↓reduceIte, Zj, Zk, Nat.reduceAdd, Nat.reduceLT, Nat.reduceEqDiff, Nat.reduceMul, Nat.reduceLeDiff, if_true, Zn, reduceCtorEq, ZA, eq_self, Int.reduceLE, Int.reduceLT, Int.reduceToNat, ne_eq, Nat.reduceSub, Tfld32_1, Tfld32_2, Tld30, Tst30, Tzero30, ↓YR, hl, hm, e1, e2, nb2_b1, *]
  all_goals
    repeat refine And.intro (by omega) ?_
    intro g
    simp only [List.map_cons, List.map_nil, updL, upd, Nat.reduceEqDiff, if_true, if_false, ↓reduceIte]
    first
    | exact J g _ _ _ (.refl _)
    | exact J g _ _ _ (.swap ..)


theorem stab1_c (n : Nat) (x o : List Int) (hx : Bytes8 x) (ho : Bytes8 o) (hn : n ≤ 7) (px : IsPerm x n) (po : IsPerm o n) (i rt u : Nat) (hi : i < n) (hrt : rt ≤ 1) (hu : u ≤ 1) :
    Gives Try.prog 91 #[.agg (gc (n : Int) x o).toArray, .int .i64 (i : Int), .int .i64 1, .int .i64 (rt : Int), .int .i64 (u : Int)] (.agg (gc ((n : Int) + 1) (tab (grB o x i rt (u : Int) n)) (tab (grA o i rt (u : Int) n))).toArray) := by
  have hl := hx.len
  have hm := ho.len
  have cr := bytes_get ho (i := i) (by omega)
  have pr := (po).1 i hi
  have e1 : ((i : Int) + (rt : Int)).toNat = i + rt := by omega
  have e2 : ((i : Int) + 1 - (rt : Int)).toNat = i + 1 - rt := by omega
  skip
  refine Gives.of fun w => ?_
  refine acall_of (N := 117) (c := _) (rs := [.cell 10 32]) (args := [_, _, _, _, _]) Try.func91 rfl (by decide) rfl rfl (Nat.le_of_ble_eq_true rfl) ?_
  refine Cd.rs [1, 2, 3, 4, 5, 10] fun K hK => ?_
  simp (maxSteps := 2000000) (disch := first | (simp only [E4, hl, hm, e1, e2] <;> omega) | omega | fail) only [↓E2, E3, bare, bareJ, ↓E0, E1, env0, envN, evOps, evOp, evQs, evQ, evV, setD, pureOp, ev, upd, updL, Value.cells, hav, ↓reduceIte, Zj, Zk, Nat.reduceAdd, Nat.reduceLT, Nat.reduceEqDiff, Nat.reduceMul, Nat.reduceLeDiff, if_true, Zn, reduceCtorEq, ZA, eq_self, Int.reduceLE, Int.reduceLT, Int.reduceToNat, ne_eq, Nat.reduceSub, Tzero32, hl, hm, e1, e2]
  repeat refine And.intro (by omega) ?_
  intro b1 hb1
  intro b2 hb2
  have nb2_b1 := hb2.ne
  try simp (maxSteps := 2000000) (disch := first | (simp only [E4, hl, hm, e1, e2] <;> omega) | omega | fail) only [↓E2, E3, bare, bareJ, ↓E0, E1, env0, envN, evOps, evOp, evQs, evQ, evV, setD, pureOp, ev, upd, updL, Value.cells, hav, ↓reduceIte, Zj, Zk, Nat.reduceAdd, Nat.reduceLT, Nat.reduceEqDiff, Nat.reduceMul, Nat.reduceLeDiff, if_true, Zn, reduceCtorEq, ZA, eq_self, Int.reduceLE, Int.reduceLT, Int.reduceToNat, ne_eq, Nat.reduceSub, Tzero32, hl, hm, e1, e2, nb2_b1]
  repeat refine And.intro (by omega) ?_
  intro g
  simp only [List.map_cons, List.map_nil, updL, upd, Nat.reduceEqDiff, if_true, if_false, ↓reduceIte]
  refine hK _ _ ?_; clear hK K
  refine Cd.ps [1, 2, 3, 4, 5, 10, 11, 12] (Plan.take 0 (Plan.take 1 (Plan.take 2 (Plan.more 3 (Plan.more 4 (Plan.one 5 (Plan.one 6 (Plan.one 7 (Plan.done)))) (Plan.one 5 (Plan.one 4 (Plan.one 6 (Plan.one 7 (Plan.done)))))) (Plan.more 4 (Plan.more 3 (Plan.one 5 (Plan.one 6 (Plan.one 7 (Plan.done)))) (Plan.one 5 (Plan.more 3 (Plan.one 6 (Plan.one 7 (Plan.done))) (Plan.one 6 (Plan.take 3 (Plan.one 7 (Plan.done))))))) (Plan.one 5 (Plan.more 3 (Plan.one 4 (Plan.one 6 (Plan.one 7 (Plan.done)))) (Plan.one 4 (Plan.more 3 (Plan.one 6 (Plan.one 7 (Plan.done))) (Plan.one 6 (Plan.take 3 (Plan.one 7 (Plan.done))))))))))))) fol (by kernel_rfl) (Nat.le_of_ble_eq_true rfl) fun K hK => ?_
  have J : ∀ g c1 c2 M, [(c2, ints .u8 o), (c1, ints .u8 x), (b2, gc 0 z8 z8), (b1, gc (n : Int) x o)].Perm M → K (updL [(1, .int .i64 (i : Int)), (2, .int .i64 1), (3, .int .i64 (rt : Int)), (4, .int .i64 (u : Int)), (5, .pointer (some ⟨b1, 0, none⟩)), (10, .pointer (some ⟨b2, 0, none⟩)), (11, .pointer (some ⟨c1, 0, none⟩)), (12, .pointer (some ⟨c2, 0, none⟩))] g) M := by
    intro g c1 c2 M hM
    refine hK _ _ (Cd.turn hM (Cd.nodup fun hnd => ?_)); clear hK K
    obtain ⟨⟨d1, d2, d3⟩, ⟨d4, d5⟩, _⟩ := nodup4S hnd
    clear hnd hM
    skip
    skip
    refine Cd.seq ?_
    refine Cd.rs [1, 2, 3, 4, 5, 10, 11, 12, 23] fun K hK => ?_
    simp (maxSteps := 2000000) (disch := first | (simp only [E4, hl, hm, e1, e2, d1, d2, d3, d4, d5] <;> omega) | omega | fail) only [↓E2, E3, bare, bareJ, ↓E0, E1, env0, envN, evOps, evOp, evQs, evQ, evV, setD, pureOp, ev, upd, updL, binW, eqOp, binV, intOp, shOp, boolOp, hav, eqL, SameI, strOp, ↓reduceIte, Zj, Zk, Nat.reduceAdd, Nat.reduceLT, Nat.reduceEqDiff, Nat.reduceMul, Nat.reduceLeDiff, if_true, Zn, reduceCtorEq, ZA, eq_self, Int.reduceLE, Int.reduceLT, Int.reduceToNat, ne_eq, Nat.reduceSub, hl, hm, e1, e2, nb2_b1, d1, d2, d3, d4, d5]
    repeat refine And.intro (by omega) ?_
    intro g
    simp only [List.map_cons, List.map_nil, updL, upd, Nat.reduceEqDiff, if_true, if_false, ↓reduceIte]
    refine hK _ _ ?_; clear hK K
    refine Cd.yes rfl ?_
    refine Cd.rs [1, 2, 3, 4, 5, 10, 11, 12] fun K hK => ?_
    simp (maxSteps := 2000000) (disch := first | (simp only [E4, hl, hm, e1, e2, d1, d2, d3, d4, d5] <;> omega) | omega | fail) only [↓E2, E3, bare, bareJ, ↓E0, E1, env0, envN, evOps, evOp, evQs, evQ, evV, setD, pureOp, ev, upd, updL, fieldAddrV, cellAt, cellsAt, findB, setB, Value.cells, hav, ↓reduceIte, Zj, Zk, Nat.reduceAdd, Nat.reduceLT, Nat.reduceEqDiff, Nat.reduceMul, Nat.reduceLeDiff, if_true, Zn, reduceCtorEq, ZA, eq_self, Int.reduceLE, Int.reduceLT, Int.reduceToNat, ne_eq, Nat.reduceSub, Tfld32_2, Tld30, Tst30, hl, hm, e1, e2, nb2_b1, d1, d2, d3, d4, d5]
    repeat refine And.intro (by omega) ?_
    intro g
    simp only [List.map_cons, List.map_nil, updL, upd, Nat.reduceEqDiff, if_true, if_false, ↓reduceIte]
    refine hK _ _ ?_; clear hK K
    refine Cd.rr [1, 2, 3, 4, 5, 10, 11, 12] fun K hK => ?_
    simp (maxSteps := 2000000) (disch := first | (simp only [E4, hl, hm, e1, e2, d1, d2, d3, d4, d5] <;> omega) | omega | fail) only [↓E2, E3, bare, bareJ, ↓E0, E1, env0, envN, evOps, evOp, evQs, evQ, evV, setD, pureOp, ev, upd, updL, fieldAddrV, cellAt, cellsAt, findB, setB, Value.cells, hav, ↓reduceIte, Zj, Zk, Nat.reduceAdd, Nat.reduceLT, Nat.reduceEqDiff, Nat.reduceMul, Nat.reduceLeDiff, if_true, Zn, reduceCtorEq, ZA, eq_self, Int.reduceLE, Int.reduceLT, Int.reduceToNat, ne_eq, Nat.reduceSub, Tfld32_1, Tld30, Tst30, hl, hm, e1, e2, nb2_b1, d1, d2, d3, d4, d5]
    repeat refine And.intro (by omega) ?_
    intro g
    simp only [List.map_cons, List.map_nil, updL, upd, Nat.reduceEqDiff, if_true, if_false, ↓reduceIte]
    refine hK _ _ ?_; clear hK K
    refine thenN ?_
    refine Cd.rs [1, 2, 3, 4, 5, 10, 11, 12, 13] fun K hK => ?_
    simp (maxSteps := 2000000) (disch := first | (simp only [E4, hl, hm, e1, e2, d1, d2, d3, d4, d5] <;> omega) | omega | fail) only [↓E2, E3, bare, bareJ, ↓E0, E1, env0, envN, evOps, evOp, evQs, evQ, evV, setD, pureOp, ev, upd, updL, convV, indexAddrV, cellAt, cellsAt, findB, hav, cvtQ, ↓reduceIte, Zj, Zk, Nat.reduceAdd, Nat.reduceLT, Nat.reduceEqDiff, Nat.reduceMul, Nat.reduceLeDiff, if_true, Zn, reduceCtorEq, ZA, eq_self, Int.reduceLE, Int.reduceLT, Int.reduceToNat, ne_eq, Nat.reduceSub, Tarr30, Tint2, Tld5, Tpar5, hl, hm, e1, e2, nb2_b1, d1, d2, d3, d4, d5]
    repeat refine And.intro (by omega) ?_
    intro g
    simp only [List.map_cons, List.map_nil, updL, upd, Nat.reduceEqDiff, if_true, if_false, ↓reduceIte]
    refine hK _ _ ?_; clear hK K
    refine Cd.rs [1, 2, 3, 4, 5, 10, 11, 12, 13, 14, 15] fun K hK => ?_
    simp (maxSteps := 2000000) (disch := first | (simp only [E4, hl, hm, e1, e2, d1, d2, d3, d4, d5] <;> omega) | omega | fail) only [↓E2, E3, bare, bareJ, ↓E0, E1, evP, env0, envN, evOps, evOp, evQs, evQ, evV, setD, pureOp, ev, upd, updL, cellAt, cellsAt, findB, setB, fillL, buildV, Value.cells, hav, ↓reduceIte, Zj, Zk, Nat.reduceAdd, Nat.reduceLT, Nat.reduceEqDiff, Nat.reduceMul, Nat.reduceLeDiff, if_true, Zn, reduceCtorEq, ZA, eq_self, Int.reduceLE, Int.reduceLT, Int.reduceToNat, ne_eq, Nat.reduceSub, Tbld30, Tst30, Tzero30, hl, hm, e1, e2, nb2_b1, d1, d2, d3, d4, d5]
    repeat refine And.intro (by omega) ?_
    intro b5 hb5
    have nb5_c2 := hb5.ne
    have nb5_c1 := hb5.tail.ne
    have nb5_b2 := hb5.tail.tail.ne
    have nb5_b1 := hb5.tail.tail.tail.ne
    intro b6 hb6
    have nb6_b5 := hb6.ne
    have nb6_c2 := hb6.tail.ne
    have nb6_c1 := hb6.tail.tail.ne
    have nb6_b2 := hb6.tail.tail.tail.ne
    have nb6_b1 := hb6.tail.tail.tail.tail.ne
    try simp (maxSteps := 2000000) (disch := first | (simp only [E4, hl, hm, e1, e2, d1, d2, d3, d4, d5] <;> omega) | omega | fail) only [↓E2, E3, bare, bareJ, ↓E0, E1, evP, env0, envN, evOps, evOp, evQs, evQ, evV, setD, pureOp, ev, upd, updL, cellAt, cellsAt, findB, setB, fillL, buildV, Value.cells, hav, ↓reduceIte, Zj, Zk, Nat.reduceAdd, Nat.reduceLT, Nat.reduceEqDiff, Nat.reduceMul, Nat.reduceLeDiff, if_true, Zn, reduceCtorEq, ZA, eq_self, Int.reduceLE, Int.reduceLT, Int.reduceToNat, ne_eq, Nat.reduceSub, Tbld30, Tst30, Tzero30, hl, hm, e1, e2, nb2_b1, d1, d2, d3, d4, d5, nb5_c2, nb5_c1, nb5_b2, nb5_b1, nb6_b5, nb6_c2, nb6_c1, nb6_b2, nb6_b1]
    repeat refine And.intro (by omega) ?_
    intro g
    simp only [List.map_cons, List.map_nil, updL, upd, Nat.reduceEqDiff, if_true, if_false, ↓reduceIte]
    refine hK _ _ ?_; clear hK K
    refine Cd.seq ?_
    refine Cd.rs [1, 2, 3, 4, 5, 10, 11, 12, 13, 14, 15, 16] fun K hK => ?_
    simp (maxSteps := 2000000) (disch := first | (simp only [E4, hl, hm, e1, e2, d1, d2, d3, d4, d5] <;> omega) | omega | fail) only [↓E2, E3, bare, bareJ, ↓E0, E1, env0, envN, evOps, evOp, evQs, evQ, evV, setD, pureOp, ev, upd, updL, hav, ↓reduceIte, Zj, Zk, Nat.reduceAdd, Nat.reduceLT, Nat.reduceEqDiff, Nat.reduceMul, Nat.reduceLeDiff, if_true, Zn, reduceCtorEq, ZA, eq_self, Int.reduceLE, Int.reduceLT, Int.reduceToNat, ne_eq, Nat.reduceSub, hl, hm, e1, e2, nb2_b1, d1, d2, d3, d4, d5, nb5_c2, nb5_c1, nb5_b2, nb5_b1, nb6_b5, nb6_c2, nb6_c1, nb6_b2, nb6_b1]
    repeat refine And.intro (by omega) ?_
    intro g
    simp only [List.map_cons, List.map_nil, updL, upd, Nat.reduceEqDiff, if_true, if_false, ↓reduceIte]
    refine hK _ _ ?_; clear hK K
    refine Cd.block ?_
    refine Cd.loop (fun m ρ M => ∃ g k, k + m = n ∧ ρ = updL [(1, .int .i64 (i : Int)), (2, .int .i64 1), (3, .int .i64 (rt : Int)), (4, .int .i64 (u : Int)), (5, .pointer (some ⟨b1, 0, none⟩)), (10, .pointer (some ⟨b2, 0, none⟩)), (11, .pointer (some ⟨c1, 0, none⟩)), (12, .pointer (some ⟨c2, 0, none⟩)), (13, .int .i64 (o.getD i 0)), (14, .pointer (some ⟨b5, 0, none⟩)), (15, .pointer (some ⟨b6, 0, none⟩)), (16, .int .i64 (k : Int))] g ∧
      M = [(b6, ints .u8 (tab (genS (fun c => liftF (o.getD i 0) (u : Int) (x.getD c 0)) i k))), (b5, ints .u8 (tab (genS (fun c => liftF (o.getD i 0) (u : Int) (o.getD c 0)) i k))), (c2, ints .u8 x), (c1, ints .u8 o), (b2, gc 0 z8 z8), (b1, gc (n : Int) x o)]) n ⟨_, 0, Nat.zero_add _, rfl, by rw [genS_zero, genS_zero]⟩ ?_
    rintro m ρ M ⟨g, k, hk, rfl, rfl⟩
    refine Cd.seq ?_
    refine Cd.rs [1, 2, 3, 4, 5, 10, 11, 12, 13, 14, 15, 16, 37] fun K hK => ?_
    simp (maxSteps := 2000000) (disch := first | (simp only [E4, hl, hm, e1, e2, d1, d2, d3, d4, d5] <;> omega) | omega | fail) only [↓E2, E3, bare, bareJ, ↓E0, E1, env0, envN, evOps, evOp, evQs, evQ, evV, setD, pureOp, ev, upd, updL, binW, eqOp, binV, intOp, shOp, boolOp, fieldAddrV, cellAt, cellsAt, findB, hav, eqL, SameI, strOp, ↓reduceIte, Zj, Zk, Nat.reduceAdd, Nat.reduceLT, Nat.reduceEqDiff, Nat.reduceMul, Nat.reduceLeDiff, if_true, Zn, reduceCtorEq, ZA, eq_self, Int.reduceLE, Int.reduceLT, Int.reduceToNat, ne_eq, Nat.reduceSub, Tfld32_0, Tld2, hl, hm, e1, e2, nb2_b1, d1, d2, d3, d4, d5, nb5_c2, nb5_c1, nb5_b2, nb5_b1, nb6_b5, nb6_c2, nb6_c1, nb6_b2, nb6_b1]
    repeat refine And.intro (by omega) ?_
    intro g
    simp only [List.map_cons, List.map_nil, updL, upd, Nat.reduceEqDiff, if_true, if_false, ↓reduceIte]
    refine hK _ _ ?_; clear hK K
    refine Cd.condd rfl (fun h1 => ?_) (fun h1 => ?_)
    · have ck := bytes_get ho (i := k) (by omega)
      have dk := bytes_get hx (i := k) (by omega)
      have qk := po.1 k (by omega)
      have qk' := px.1 k (by omega)
      refine Cd.skip ?_
      refine thenN ?_
      refine Cd.midq (fun ρ M => ∃ g, ρ = updL [(1, .int .i64 (i : Int)), (2, .int .i64 1), (3, .int .i64 (rt : Int)), (4, .int .i64 (u : Int)), (5, .pointer (some ⟨b1, 0, none⟩)), (10, .pointer (some ⟨b2, 0, none⟩)), (11, .pointer (some ⟨c1, 0, none⟩)), (12, .pointer (some ⟨c2, 0, none⟩)), (13, .int .i64 (o.getD i 0)), (14, .pointer (some ⟨b5, 0, none⟩)), (15, .pointer (some ⟨b6, 0, none⟩)), (16, .int .i64 (k : Int))] g ∧
        M = [(b6, ints .u8 (tab (genS (fun c => liftF (o.getD i 0) (u : Int) (x.getD c 0)) i (k + 1)))), (b5, ints .u8 (tab (genS (fun c => liftF (o.getD i 0) (u : Int) (o.getD c 0)) i (k + 1)))), (c2, ints .u8 x), (c1, ints .u8 o), (b2, gc 0 z8 z8), (b1, gc (n : Int) x o)]) ?_ ?_
      · refine Cd.block ?_
        refine Cd.rs [1, 2, 3, 4, 5, 10, 11, 12, 13, 14, 15, 16, 17] fun K hK => ?_
        simp (maxSteps := 2000000) (disch := first | (simp only [E4, hl, hm, e1, e2, d1, d2, d3, d4, d5] <;> omega) | omega | fail) only [↓E2, E3, bare, bareJ, ↓E0, E1, env0, envN, evOps, evOp, evQs, evQ, evV, setD, pureOp, ev, upd, updL, hav, ↓reduceIte, Zj, Zk, Nat.reduceAdd, Nat.reduceLT, Nat.reduceEqDiff, Nat.reduceMul, Nat.reduceLeDiff, if_true, Zn, reduceCtorEq, ZA, eq_self, Int.reduceLE, Int.reduceLT, Int.reduceToNat, ne_eq, Nat.reduceSub, hl, hm, e1, e2, nb2_b1, d1, d2, d3, d4, d5, nb5_c2, nb5_c1, nb5_b2, nb5_b1, nb6_b5, nb6_c2, nb6_c1, nb6_b2, nb6_b1]
        repeat refine And.intro (by omega) ?_
        intro g
        simp only [List.map_cons, List.map_nil, updL, upd, Nat.reduceEqDiff, if_true, if_false, ↓reduceIte]
        refine hK _ _ ?_; clear hK K
        refine Cd.midq (fun ρ M => ∃ g, ρ = updL [(1, .int .i64 (i : Int)), (2, .int .i64 1), (3, .int .i64 (rt : Int)), (4, .int .i64 (u : Int)), (5, .pointer (some ⟨b1, 0, none⟩)), (10, .pointer (some ⟨b2, 0, none⟩)), (11, .pointer (some ⟨c1, 0, none⟩)), (12, .pointer (some ⟨c2, 0, none⟩)), (13, .int .i64 (o.getD i 0)), (14, .pointer (some ⟨b5, 0, none⟩)), (15, .pointer (some ⟨b6, 0, none⟩)), (16, .int .i64 (k : Int)), (17, .int .i64 (toS i k : Int))] g ∧
          M = [(b6, ints .u8 (tab (genS (fun c => liftF (o.getD i 0) (u : Int) (x.getD c 0)) i k))), (b5, ints .u8 (tab (genS (fun c => liftF (o.getD i 0) (u : Int) (o.getD c 0)) i k))), (c2, ints .u8 x), (c1, ints .u8 o), (b2, gc 0 z8 z8), (b1, gc (n : Int) x o)]) ?_ ?_
        · refine Cd.rs [1, 2, 3, 4, 5, 10, 11, 12, 13, 14, 15, 16, 17, 43] fun K hK => ?_
          simp (maxSteps := 2000000) (disch := first | (simp only [E4, hl, hm, e1, e2, d1, d2, d3, d4, d5] <;> omega) | omega | fail) only [↓E2, E3, bare, bareJ, ↓E0, E1, env0, envN, evOps, evOp, evQs, evQ, evV, setD, pureOp, ev, upd, updL, binW, eqOp, binV, intOp, shOp, boolOp, hav, eqL, SameI, strOp, ↓reduceIte, Zj, Zk, Nat.reduceAdd, Nat.reduceLT, Nat.reduceEqDiff, Nat.reduceMul, Nat.reduceLeDiff, if_true, Zn, reduceCtorEq, ZA, eq_self, Int.reduceLE, Int.reduceLT, Int.reduceToNat, ne_eq, Nat.reduceSub, hl, hm, e1, e2, nb2_b1, d1, d2, d3, d4, d5, nb5_c2, nb5_c1, nb5_b2, nb5_b1, nb6_b5, nb6_c2, nb6_c1, nb6_b2, nb6_b1]
          repeat refine And.intro (by omega) ?_
          intro g
          simp only [List.map_cons, List.map_nil, updL, upd, Nat.reduceEqDiff, if_true, if_false, ↓reduceIte]
          refine hK _ _ ?_; clear hK K
          refine Cd.condd rfl (fun h2 => ?_) (fun h2 => ?_)
          · refine Cd.rr [1, 2, 3, 4, 5, 10, 11, 12, 13, 14, 15, 16, 17] fun K hK => ?_
            simp (maxSteps := 2000000) (disch := first | (simp only [E4, hl, hm, e1, e2, d1, d2, d3, d4, d5] <;> omega) | omega | fail) only [↓E2, E3, bare, bareJ, ↓E0, E1, env0, envN, evOps, evOp, evQs, evQ, evV, setD, pureOp, ev, upd, updL, binW, eqOp, binV, intOp, shOp, boolOp, hav, eqL, SameI, strOp, ↓reduceIte, Zj, Zk, Nat.reduceAdd, Nat.reduceLT, Nat.reduceEqDiff, Nat.reduceMul, Nat.reduceLeDiff, if_true, Zn, reduceCtorEq, ZA, eq_self, Int.reduceLE, Int.reduceLT, Int.reduceToNat, ne_eq, Nat.reduceSub, hl, hm, e1, e2, nb2_b1, d1, d2, d3, d4, d5, nb5_c2, nb5_c1, nb5_b2, nb5_b1, nb6_b5, nb6_c2, nb6_c1, nb6_b2, nb6_b1]
            rw [show (k : Int) + 1 = (toS i k : Int) by unfold toS; rw [if_pos (by omega)]; rfl]
            repeat refine And.intro (by omega) ?_
            intro g
            simp only [List.map_cons, List.map_nil, updL, upd, Nat.reduceEqDiff, if_true, if_false, ↓reduceIte]
            refine hK _ _ ?_; clear hK K
            exact midN ⟨_, rfl, rfl⟩
          · rw [show toS i k = k by unfold toS; rw [if_neg (by omega)]]
            refine Cd.skip ?_
            exact midN ⟨_, (norm_of (by repeat (first | exact trivial | refine And.intro rfl ?_))), rfl⟩
        · rintro ρ M ⟨g, rfl, rfl⟩
          have ht : toS i k ≤ 7 := by unfold toS; split <;> omega
          refine Cd.rs [1, 2, 3, 4, 5, 10, 11, 12, 13, 14, 15, 16, 17, 48] fun K hK => ?_
          simp (maxSteps := 2000000) (disch := first | (simp only [E4, hl, hm, e1, e2, d1, d2, d3, d4, d5] <;> omega) | omega | fail) only [↓E2, E3, bare, bareJ, ↓E0, E1, env0, envN, evOps, evOp, evQs, evQ, evV, setD, pureOp, ev, upd, updL, binW, eqOp, binV, intOp, shOp, boolOp, hav, eqL, SameI, strOp, ↓reduceIte, Zj, Zk, Nat.reduceAdd, Nat.reduceLT, Nat.reduceEqDiff, Nat.reduceMul, Nat.reduceLeDiff, if_true, Zn, reduceCtorEq, ZA, eq_self, Int.reduceLE, Int.reduceLT, Int.reduceToNat, ne_eq, Nat.reduceSub, hl, hm, e1, e2, nb2_b1, d1, d2, d3, d4, d5, nb5_c2, nb5_c1, nb5_b2, nb5_b1, nb6_b5, nb6_c2, nb6_c1, nb6_b2, nb6_b1]
          repeat refine And.intro (by omega) ?_
          intro g
          simp only [List.map_cons, List.map_nil, updL, upd, Nat.reduceEqDiff, if_true, if_false, ↓reduceIte]
          refine hK _ _ ?_; clear hK K
          refine Cd.cond rfl (fun h4 => ?_) (fun h4 => ?_)
          · simp only [decide_eq_true_eq, decide_eq_false_iff_not, beq_iff_eq, beq_eq_false_iff_ne, bne_iff_ne, bne_eq_false_iff_eq, Bool.and_eq_true, Bool.or_eq_true, Bool.or_eq_false_iff, Bool.not_eq_true', Bool.not_eq_false', Bool.and_eq_false_imp, ne_eq, gt_iff_lt, ge_iff_le, Int.not_lt, Int.not_le, Classical.not_not] at h4
            have h4 : k ≠ i := by omega
            refine Cd.rs [1, 2, 3, 4, 5, 10, 11, 12, 13, 14, 15, 16, 17] fun K hK => ?_
            simp (maxSteps := 2000000) (disch := first | (simp only [E4, hl, hm, e1, e2, d1, d2, d3, d4, d5] <;> omega) | omega | fail) only [↓E2, E3, bare, bareJ, ↓E0, E1, env0, envN, evOps, evOp, evQs, evQ, evV, setD, pureOp, ev, upd, updL, indexAddrV, cellAt, cellsAt, findB, setB, Value.cells, hav, ↓reduceIte, Zj, Zk, Nat.reduceAdd, Nat.reduceLT, Nat.reduceEqDiff, Nat.reduceMul, Nat.reduceLeDiff, if_true, Zn, reduceCtorEq, ZA, eq_self, Int.reduceLE, Int.reduceLT, Int.reduceToNat, ne_eq, Nat.reduceSub, Tarr30, Tld5, Tst5, hl, hm, e1, e2, nb2_b1, d1, d2, d3, d4, d5, nb5_c2, nb5_c1, nb5_b2, nb5_b1, nb6_b5, nb6_c2, nb6_c1, nb6_b2, nb6_b1]
            repeat refine And.intro (by omega) ?_
            refine callK_gives (l02Lifted_c _ _ u (by omega) (by omega) (by omega) (by omega) hu) ?_
            simp (maxSteps := 2000000) (disch := first | (simp only [E4, hl, hm, e1, e2, d1, d2, d3, d4, d5] <;> omega) | omega | fail) only [↓E2, E3, bare, bareJ, ↓E0, E1, env0, envN, evOps, evOp, evQs, evQ, evV, setD, pureOp, ev, upd, updL, indexAddrV, cellAt, cellsAt, findB, setB, Value.cells, hav, ↓reduceIte, Zj, Zk, Nat.reduceAdd, Nat.reduceLT, Nat.reduceEqDiff, Nat.reduceMul, Nat.reduceLeDiff, if_true, Zn, reduceCtorEq, ZA, eq_self, Int.reduceLE, Int.reduceLT, Int.reduceToNat, ne_eq, Nat.reduceSub, Tarr30, Tld5, Tst5, hl, hm, e1, e2, nb2_b1, d1, d2, d3, d4, d5, nb5_c2, nb5_c1, nb5_b2, nb5_b1, nb6_b5, nb6_c2, nb6_c1, nb6_b2, nb6_b1]
            repeat refine And.intro (by omega) ?_
            rw [show (tab (genS (fun c => liftF (o.getD i 0) (u : Int) (o.getD c 0)) i k)).set (toS i k) (liftF (o.getD i 0) (u : Int) (o.getD k 0)) = _ from genS_set h4 rfl]
            repeat refine And.intro (by omega) ?_
            intro g
            simp only [List.map_cons, List.map_nil, updL, upd, Nat.reduceEqDiff, if_true, if_false, ↓reduceIte]
            refine hK _ _ ?_; clear hK K
            refine Cd.rr [1, 2, 3, 4, 5, 10, 11, 12, 13, 14, 15, 16] fun K hK => ?_
            simp (maxSteps := 2000000) (disch := first | (simp only [E4, hl, hm, e1, e2, d1, d2, d3, d4, d5] <;> omega) | omega | fail) only [↓E2, E3, bare, bareJ, ↓E0, E1, env0, envN, evOps, evOp, evQs, evQ, evV, setD, pureOp, ev, upd, updL, indexAddrV, cellAt, cellsAt, findB, setB, Value.cells, hav, ↓reduceIte, Zj, Zk, Nat.reduceAdd, Nat.reduceLT, Nat.reduceEqDiff, Nat.reduceMul, Nat.reduceLeDiff, if_true, Zn, reduceCtorEq, ZA, eq_self, Int.reduceLE, Int.reduceLT, Int.reduceToNat, ne_eq, Nat.reduceSub, Tarr30, Tld5, Tst5, hl, hm, e1, e2, nb2_b1, d1, d2, d3, d4, d5, nb5_c2, nb5_c1, nb5_b2, nb5_b1, nb6_b5, nb6_c2, nb6_c1, nb6_b2, nb6_b1]
            repeat refine And.intro (by omega) ?_
            refine callK_gives (l02Lifted_c _ _ u (by omega) (by omega) (by omega) (by omega) hu) ?_
            simp (maxSteps := 2000000) (disch := first | (simp only [E4, hl, hm, e1, e2, d1, d2, d3, d4, d5] <;> omega) | omega | fail) only [↓E2, E3, bare, bareJ, ↓E0, E1, env0, envN, evOps, evOp, evQs, evQ, evV, setD, pureOp, ev, upd, updL, indexAddrV, cellAt, cellsAt, findB, setB, Value.cells, hav, ↓reduceIte, Zj, Zk, Nat.reduceAdd, Nat.reduceLT, Nat.reduceEqDiff, Nat.reduceMul, Nat.reduceLeDiff, if_true, Zn, reduceCtorEq, ZA, eq_self, Int.reduceLE, Int.reduceLT, Int.reduceToNat, ne_eq, Nat.reduceSub, Tarr30, Tld5, Tst5, hl, hm, e1, e2, nb2_b1, d1, d2, d3, d4, d5, nb5_c2, nb5_c1, nb5_b2, nb5_b1, nb6_b5, nb6_c2, nb6_c1, nb6_b2, nb6_b1]
            repeat refine And.intro (by omega) ?_
            rw [show (tab (genS (fun c => liftF (o.getD i 0) (u : Int) (x.getD c 0)) i k)).set (toS i k) (liftF (o.getD i 0) (u : Int) (x.getD k 0)) = _ from genS_set h4 rfl]
            repeat refine And.intro (by omega) ?_
            intro g
            simp only [List.map_cons, List.map_nil, updL, upd, Nat.reduceEqDiff, if_true, if_false, ↓reduceIte]
            refine hK _ _ ?_; clear hK K
            refine inBN ?_
            exact midN ⟨_, rfl, rfl⟩
          · simp only [decide_eq_true_eq, decide_eq_false_iff_not, beq_iff_eq, beq_eq_false_iff_ne, bne_iff_ne, bne_eq_false_iff_eq, Bool.and_eq_true, Bool.or_eq_true, Bool.or_eq_false_iff, Bool.not_eq_true', Bool.not_eq_false', Bool.and_eq_false_imp, ne_eq, gt_iff_lt, ge_iff_le, Int.not_lt, Int.not_le, Classical.not_not] at h4
            have h4 : k = i := by omega
            rw [genS_same h4, genS_same h4]
            refine Cd.skip ?_
            refine inBN ?_
            exact midN ⟨_, (norm_of (by repeat (first | exact trivial | refine And.intro rfl ?_))), rfl⟩
      · rintro ρ M ⟨g, rfl, rfl⟩
        refine Cd.rr [1, 2, 3, 4, 5, 10, 11, 12, 13, 14, 15, 16] fun K hK => ?_
        simp (maxSteps := 2000000) (disch := first | (simp only [E4, hl, hm, e1, e2, d1, d2, d3, d4, d5] <;> omega) | omega | fail) only [↓E2, E3, bare, bareJ, ↓E0, E1, env0, envN, evOps, evOp, evQs, evQ, evV, setD, pureOp, ev, upd, updL, binW, eqOp, binV, intOp, shOp, boolOp, hav, eqL, SameI, strOp, ↓reduceIte, Zj, Zk, Nat.reduceAdd, Nat.reduceLT, Nat.reduceEqDiff, Nat.reduceMul, Nat.reduceLeDiff, if_true, Zn, reduceCtorEq, ZA, eq_self, Int.reduceLE, Int.reduceLT, Int.reduceToNat, ne_eq, Nat.reduceSub, hl, hm, e1, e2, nb2_b1, d1, d2, d3, d4, d5, nb5_c2, nb5_c1, nb5_b2, nb5_b1, nb6_b5, nb6_c2, nb6_c1, nb6_b2, nb6_b1]
        repeat refine And.intro (by omega) ?_
        intro g
        simp only [List.map_cons, List.map_nil, updL, upd, Nat.reduceEqDiff, if_true, if_false, ↓reduceIte]
        refine hK _ _ ?_; clear hK K
        refine roundN (m := m - 1) (by omega) ⟨_, k + 1, by omega, rfl, rfl⟩
    · refine Cd.exit (thenX (roundX (inBX ?_)))
      refine thenN ?_
      obtain rfl : k = n := by omega
      have dr := bytes_get hx (i := i) (by omega)
      have dq := px.1 i hi
      have dq' := po.1 i hi
      refine Cd.rs [1, 2, 3, 4, 5, 10, 12, 13, 14, 15] fun K hK => ?_
      simp (maxSteps := 2000000) (disch := first | (simp only [E4, hl, hm, e1, e2, d1, d2, d3, d4, d5] <;> omega) | omega | fail) only [↓E2, E3, bare, bareJ, ↓E0, E1, env0, envN, evOps, evOp, evQs, evQ, evV, setD, pureOp, ev, upd, updL, binW, eqOp, binV, intOp, shOp, boolOp, convV, indexAddrV, cellAt, cellsAt, findB, setB, Value.cells, hav, eqL, SameI, strOp, cvtQ, ↓reduceIte, Zj, Zk, Nat.reduceAdd, Nat.reduceLT, Nat.reduceEqDiff, Nat.reduceMul, Nat.reduceLeDiff, if_true, Zn, reduceCtorEq, ZA, eq_self, Int.reduceLE, Int.reduceLT, Int.reduceToNat, ne_eq, Nat.reduceSub, Tarr30, Tint5, Tpar2, Tst5, hl, hm, e1, e2, nb2_b1, d1, d2, d3, d4, d5, nb5_c2, nb5_c1, nb5_b2, nb5_b1, nb6_b5, nb6_c2, nb6_c1, nb6_b2, nb6_b1]
      repeat refine And.intro (by omega) ?_
      rw [Int.add_sub_assoc (o.getD i 0)]
      repeat refine And.intro (by omega) ?_
      intro g
      simp only [List.map_cons, List.map_nil, updL, upd, Nat.reduceEqDiff, if_true, if_false, ↓reduceIte]
      refine hK _ _ ?_; clear hK K
      refine Cd.rs [1, 2, 3, 4, 5, 10, 12, 13, 14, 15] fun K hK => ?_
      simp (maxSteps := 2000000) (disch := first | (simp only [E4, hl, hm, e1, e2, d1, d2, d3, d4, d5] <;> omega) | omega | fail) only [↓E2, E3, bare, bareJ, ↓E0, E1, env0, envN, evOps, evOp, evQs, evQ, evV, setD, pureOp, ev, upd, updL, binW, eqOp, binV, intOp, shOp, boolOp, convV, indexAddrV, cellAt, cellsAt, findB, setB, Value.cells, hav, eqL, SameI, strOp, cvtQ, ↓reduceIte, Zj, Zk, Nat.reduceAdd, Nat.reduceLT, Nat.reduceEqDiff, Nat.reduceMul, Nat.reduceLeDiff, if_true, Zn, reduceCtorEq, ZA, eq_self, Int.reduceLE, Int.reduceLT, Int.reduceToNat, ne_eq, Nat.reduceSub, Tarr30, Tint5, Tpar2, Tst5, hl, hm, e1, e2, nb2_b1, d1, d2, d3, d4, d5, nb5_c2, nb5_c1, nb5_b2, nb5_b1, nb6_b5, nb6_c2, nb6_c1, nb6_b2, nb6_b1]
      repeat refine And.intro (by omega) ?_
      rw [grA_endS hrt hi]
      repeat refine And.intro (by omega) ?_
      intro g
      simp only [List.map_cons, List.map_nil, updL, upd, Nat.reduceEqDiff, if_true, if_false, ↓reduceIte]
      refine hK _ _ ?_; clear hK K
      refine Cd.rs [1, 2, 3, 4, 5, 10, 12, 13, 14, 15] fun K hK => ?_
      simp (maxSteps := 2000000) (disch := first | (simp only [E4, hl, hm, e1, e2, d1, d2, d3, d4, d5] <;> omega) | omega | fail) only [↓E2, E3, bare, bareJ, ↓E0, E1, env0, envN, evOps, evOp, evQs, evQ, evV, setD, pureOp, ev, upd, updL, binW, eqOp, binV, intOp, shOp, boolOp, convV, indexAddrV, cellAt, cellsAt, findB, setB, Value.cells, hav, eqL, SameI, strOp, cvtQ, ↓reduceIte, Zj, Zk, Nat.reduceAdd, Nat.reduceLT, Nat.reduceEqDiff, Nat.reduceMul, Nat.reduceLeDiff, if_true, Zn, reduceCtorEq, ZA, eq_self, Int.reduceLE, Int.reduceLT, Int.reduceToNat, ne_eq, Nat.reduceSub, Tarr30, Tint5, Tpar2, Tst5, hl, hm, e1, e2, nb2_b1, d1, d2, d3, d4, d5, nb5_c2, nb5_c1, nb5_b2, nb5_b1, nb6_b5, nb6_c2, nb6_c1, nb6_b2, nb6_b1]
      repeat refine And.intro (by omega) ?_
      rw [Int.add_sub_assoc (o.getD i 0)]
      repeat refine And.intro (by omega) ?_
      intro g
      simp only [List.map_cons, List.map_nil, updL, upd, Nat.reduceEqDiff, if_true, if_false, ↓reduceIte]
      refine hK _ _ ?_; clear hK K
      refine Cd.rs [2, 5, 10, 14, 15] fun K hK => ?_
      simp (maxSteps := 2000000) (disch := first | (simp only [E4, hl, hm, e1, e2, d1, d2, d3, d4, d5] <;> omega) | omega | fail) only [↓E2, E3, bare, bareJ, ↓E0, E1, env0, envN, evOps, evOp, evQs, evQ, evV, setD, pureOp, ev, upd, updL, binW, eqOp, binV, intOp, shOp, boolOp, indexAddrV, cellAt, cellsAt, findB, setB, Value.cells, hav, eqL, SameI, strOp, ↓reduceIte, Zj, Zk, Nat.reduceAdd, Nat.reduceLT, Nat.reduceEqDiff, Nat.reduceMul, Nat.reduceLeDiff, if_true, Zn, reduceCtorEq, ZA, eq_self, Int.reduceLE, Int.reduceLT, Int.reduceToNat, ne_eq, Nat.reduceSub, Tarr30, Tld5, Tst5, hl, hm, e1, e2, nb2_b1, d1, d2, d3, d4, d5, nb5_c2, nb5_c1, nb5_b2, nb5_b1, nb6_b5, nb6_c2, nb6_c1, nb6_b2, nb6_b1]
      repeat refine And.intro (by omega) ?_
      refine callK_gives (l02Lifted_c _ _ u (by omega) (by omega) (by omega) (by omega) hu) ?_
      simp (maxSteps := 2000000) (disch := first | (simp only [E4, hl, hm, e1, e2, d1, d2, d3, d4, d5] <;> omega) | omega | fail) only [↓E2, E3, bare, bareJ, ↓E0, E1, env0, envN, evOps, evOp, evQs, evQ, evV, setD, pureOp, ev, upd, updL, binW, eqOp, binV, intOp, shOp, boolOp, indexAddrV, cellAt, cellsAt, findB, setB, Value.cells, hav, eqL, SameI, strOp, ↓reduceIte, Zj, Zk, Nat.reduceAdd, Nat.reduceLT, Nat.reduceEqDiff, Nat.reduceMul, Nat.reduceLeDiff, if_true, Zn, reduceCtorEq, ZA, eq_self, Int.reduceLE, Int.reduceLT, Int.reduceToNat, ne_eq, Nat.reduceSub, Tarr30, Tld5, Tst5, hl, hm, e1, e2, nb2_b1, d1, d2, d3, d4, d5, nb5_c2, nb5_c1, nb5_b2, nb5_b1, nb6_b5, nb6_c2, nb6_c1, nb6_b2, nb6_b1]
      repeat refine And.intro (by omega) ?_
      rw [grB_endS hrt hi]
      repeat refine And.intro (by omega) ?_
      intro g
      simp only [List.map_cons, List.map_nil, updL, upd, Nat.reduceEqDiff, if_true, if_false, ↓reduceIte]
      refine hK _ _ ?_; clear hK K
      refine Cd.seq ?_
      refine Cd.rs [5, 10, 14, 15, 104] fun K hK => ?_
      simp (maxSteps := 2000000) (disch := first | (simp only [E4, hl, hm, e1, e2, d1, d2, d3, d4, d5] <;> omega) | omega | fail) only [↓E2, E3, bare, bareJ, ↓E0, E1, env0, envN, evOps, evOp, evQs, evQ, evV, setD, pureOp, ev, upd, updL, binW, eqOp, binV, intOp, shOp, boolOp, hav, eqL, SameI, strOp, ↓reduceIte, Zj, Zk, Nat.reduceAdd, Nat.reduceLT, Nat.reduceEqDiff, Nat.reduceMul, Nat.reduceLeDiff, if_true, Zn, reduceCtorEq, ZA, eq_self, Int.reduceLE, Int.reduceLT, Int.reduceToNat, ne_eq, Nat.reduceSub, hl, hm, e1, e2, nb2_b1, d1, d2, d3, d4, d5, nb5_c2, nb5_c1, nb5_b2, nb5_b1, nb6_b5, nb6_c2, nb6_c1, nb6_b2, nb6_b1]
      repeat refine And.intro (by omega) ?_
      intro g
      simp only [List.map_cons, List.map_nil, updL, upd, Nat.reduceEqDiff, if_true, if_false, ↓reduceIte]
      refine hK _ _ ?_; clear hK K
      refine Cd.yes rfl ?_
      refine Cd.rs [10] fun K hK => ?_
      simp (maxSteps := 2000000) (disch := first | (simp only [E4, hl, hm, e1, e2, d1, d2, d3, d4, d5] <;> omega) | omega | fail) only [↓E2, E3, bare, bareJ, ↓E0, E1, evP, env0, envN, evOps, evOp, evQs, evQ, evV, setD, pureOp, ev, upd, updL, binW, eqOp, binV, intOp, shOp, boolOp, fieldAddrV, cellAt, cellsAt, findB, setB, fillL, buildV, Value.cells, hav, eqL, SameI, strOp, ↓reduceIte, Zj, Zk, Nat.reduceAdd, Nat.reduceLT, Nat.reduceEqDiff, Nat.reduceMul, Nat.reduceLeDiff, if_true, Zn, reduceCtorEq, ZA, eq_self, Int.reduceLE, Int.reduceLT, Int.reduceToNat, ne_eq, Nat.reduceSub, Tbld32, Tfld32_0, Tld2, Tld30, Tst32, hl, hm, e1, e2, nb2_b1, d1, d2, d3, d4, d5, nb5_c2, nb5_c1, nb5_b2, nb5_b1, nb6_b5, nb6_c2, nb6_c1, nb6_b2, nb6_b1]
      repeat refine And.intro (by omega) ?_
      intro g
      simp only [List.map_cons, List.map_nil, updL, upd, Nat.reduceEqDiff, if_true, if_false, ↓reduceIte]
      refine hK _ _ ?_; clear hK K
      refine Cd.ret (thenR ?_)
      simp (maxSteps := 2000000) (disch := first | (simp only [E4, hl, hm, e1, e2, d1, d2, d3, d4, d5] <;> omega) | omega | fail) only [↓E2, E3, bare, bareJ, ↓E0, E1, evP, evPlan, env0, envN, evOps, evOp, evQs, evQ, evV, setD, pureOp, ev, upd, updL, gate, binW, eqOp, binV, intOp, shOp, boolOp, unV, convV, nilV, fieldAddrV, indexAddrV, extractV, cellAt, cellsAt, findB, setB, fillL, buildV, Value.cells, lenV, minV, maxV, hav, sliceV, loV, hiV, bslQ, mksQ, appQ, partsOk, partsCells, delB, eqL, SameI, strOp, apzQ, cvtQ, capV, ↓reduceIte, Zj, Zk, Nat.reduceAdd, Nat.reduceLT, Nat.reduceEqDiff, Nat.reduceMul, Nat.reduceLeDiff, if_true, Zn, reduceCtorEq, ZA, eq_self, Int.reduceLE, Int.reduceLT, Int.reduceToNat, ne_eq, Nat.reduceSub, Tld32, hl, hm, e1, e2, nb2_b1, d1, d2, d3, d4, d5, nb5_c2, nb5_c1, nb5_b2, nb5_b1, nb6_b5, nb6_c2, nb6_c1, nb6_b2, nb6_b1]
  clear hK
  simp (maxSteps := 2000000) (disch := first | (simp only [E4, hl, hm, e1, e2] <;> omega) | omega | fail) only [↓E2, E3, bare, bareJ, ↓E0, E1, evPlan, env0, envN, evOps, evOp, evQs, evQ, evV, setD, pureOp, ev, upd, updL, fieldAddrV, cellAt, cellsAt, findB, setB, Value.cells, hav, ↓reduceIte, Zj, Zk, Nat.reduceAdd, Nat.reduceLT, Nat.reduceEqDiff, Nat.reduceMul, Nat.reduceLeDiff, if_true, Zn, reduceCtorEq, ZA, eq_self, Int.reduceLE, Int.reduceLT, Int.reduceToNat, ne_eq, Nat.reduceSub, Tfld32_1, Tfld32_2, Tld30, Tst30, Tzero30, ↓YR, hl, hm, e1, e2, nb2_b1]
  repeat' first
      | omega
      | refine moreX_go ?_ ?_
      | with_reducible refine And.intro ?_ ?_
      | (with_reducible intro (b : Nat) (hb : Fresh _ _ b); have hb := hb.all; simp only [List.mem_cons, List.not_mem_nil, forall_eq_or_imp, or_false, forall_eq, false_implies, implies_true, and_true] at hb)
      | (with_reducible intro (b' : Nat) (cap' : Nat) (rest' : List Value) (hf' : Fresh _ _ b') (hc' : _ ≤ cap') (hr' : rest'.length = _); have hfa := hf'.all; simp only [List.mem_cons, List.not_mem_nil, forall_eq_or_imp, or_false, forall_eq, false_implies, implies_true, and_true] at hfa)
      | simp (maxSteps := 2000000) (disch := first | (simp only [E4, hl, hm, e1, e2] <;> omega) | omega | fail) only [↓E2, E3, bare, bareJ, ↓E0, E1, evPlan, env0, envN, evOps, evOp, evQs, evQ, evV, setD, pureOp, ev, upd, updL, fieldAddrV, cellAt, cellsAt, findB, setB, Value.cells, hav, ↓reduceIte, Zj, Zk, Nat.reduceAdd, Nat.reduceLT, Nat.reduceEqDiff, Nat.reduceMul, Nat.reduceLeDiff, if_true, Zn, reduceCtorEq, ZA, eq_self, Int.reduceLE, Int.reduceLT, Int.reduceToNat, ne_eq, Nat.reduceSub, Tfld32_1, Tfld32_2, Tld30, Tst30, Tzero30, ↓YR, hl, hm, e1, e2, nb2_b1, *]
  all_goals
    repeat refine And.intro (by omega) ?_
    intro g
    simp only [List.map_cons, List.map_nil, updL, upd, Nat.reduceEqDiff, if_true, if_false, ↓reduceIte]
    first
    | exact J g _ _ _ (.refl _)
    | exact J g _ _ _ (.swap ..)



end Go.Proofs

/-
  What the functions of this part hand back: each as a plain function of its arguments. Conditions: none.
-/
namespace Go.Proofs
open Go.W8
set_option linter.unusedVariables false
set_option linter.unusedSimpArgs false
set_option linter.unusedSectionVars false
set_option maxRecDepth 8000
set_option maxHeartbeats 4000000
def stabG (s : Int) (x o : List Int) (i mark rt u : Int) : Value :=
  if mark = 0 then .agg (gc (s + 1) (tab (grA x i.toNat rt.toNat u s.toNat)) (tab (grB x o i.toNat rt.toNat u s.toNat))).toArray
  else .agg (gc (s + 1) (tab (grB o x i.toNat rt.toNat u s.toNat)) (tab (grA o i.toNat rt.toNat u s.toNat))).toArray
def stabOk (s i mark rt u : Int) : Bool := (decide (0 ≤ i) && decide (i ≤ s - 1)) && (decide (0 ≤ mark) && decide (mark ≤ 1)) && (decide (0 ≤ rt) && decide (rt ≤ 1)) && (decide (0 ≤ u) && decide (u ≤ 1))
def noneG (c : Int) : Value := .tuple #[.agg (gc 0 z8 z8).toArray, .int .i64 c]
def stabR (s : Int) (x o : List Int) (i mark rt u : Int) : Value :=
  if gridB s x o then if stabOk s i mark rt u then if s = 8 then noneG 3 else .tuple #[stabG s x o i mark rt u, .int .i64 0] else noneG 2 else noneG 1

section
variable (s : Int) (x o : List Int) (hx : Bytes8 x) (ho : Bytes8 o) (i : Int) (wi : -9223372036854775808 ≤ i ∧ i < 9223372036854775808) (mark : Int) (wm : -9223372036854775808 ≤ mark ∧ mark < 9223372036854775808)
  (rt : Int) (wr : -9223372036854775808 ≤ rt ∧ rt < 9223372036854775808) (u : Int) (wu : -9223372036854775808 ≤ u ∧ u < 9223372036854775808)
include hx ho wi wm wr wu
theorem grown_s (hg : gridB s x o = true) (hk : stabOk s i mark rt u = true) (h8 : ¬ s = 8) : Gives Try.prog 89 #[.agg (gc s x o).toArray, .agg #[.int .i64 i, .int .i64 mark, .int .i64 rt, .int .i64 u]] (stabG s x o i mark rt u) := by
  obtain ⟨n, rfl, hn2, hn, px, po⟩ := gridB_perm hg
  unfold stabOk at hk
  simp only [decide_eq_true_eq, decide_eq_false_iff_not, beq_iff_eq, beq_eq_false_iff_ne, bne_iff_ne, bne_eq_false_iff_eq, Bool.and_eq_true, Bool.or_eq_true, Bool.or_eq_false_iff, Bool.not_eq_true', Bool.not_eq_false', Bool.and_eq_false_imp, ne_eq, gt_iff_lt, ge_iff_le, Int.not_lt, Int.not_le, Classical.not_not] at hk
  obtain ⟨j, rfl⟩ : ∃ j : Nat, i = (j : Int) := ⟨i.toNat, by omega⟩
  obtain ⟨r, rfl⟩ : ∃ r : Nat, rt = (r : Int) := ⟨rt.toNat, by omega⟩
  obtain ⟨v, rfl⟩ : ∃ v : Nat, u = (v : Int) := ⟨u.toNat, by omega⟩
  unfold stabG
  rw [Int.toNat_natCast, Int.toNat_natCast, Int.toNat_natCast]
  by_cases hm : mark = 0
  · subst hm
    rw [if_pos rfl]
    exact grown0_c n x o hx ho (by omega) px po j r v (by omega) (by omega) (by omega)
  · obtain rfl : mark = 1 := by omega
    rw [if_neg hm]
    exact grown1_c n x o hx ho (by omega) px po j r v (by omega) (by omega) (by omega)


theorem stab_s (hg : gridB s x o = true) (hk : stabOk s i mark rt u = true) (h8 : ¬ s = 8) : Gives Try.prog 91 #[.agg (gc s x o).toArray, .int .i64 i, .int .i64 mark, .int .i64 rt, .int .i64 u] (stabG s x o i mark rt u) := by
  obtain ⟨n, rfl, hn2, hn, px, po⟩ := gridB_perm hg
  unfold stabOk at hk
  simp only [decide_eq_true_eq, decide_eq_false_iff_not, beq_iff_eq, beq_eq_false_iff_ne, bne_iff_ne, bne_eq_false_iff_eq, Bool.and_eq_true, Bool.or_eq_true, Bool.or_eq_false_iff, Bool.not_eq_true', Bool.not_eq_false', Bool.and_eq_false_imp, ne_eq, gt_iff_lt, ge_iff_le, Int.not_lt, Int.not_le, Classical.not_not] at hk
  obtain ⟨j, rfl⟩ : ∃ j : Nat, i = (j : Int) := ⟨i.toNat, by omega⟩
  obtain ⟨r, rfl⟩ : ∃ r : Nat, rt = (r : Int) := ⟨rt.toNat, by omega⟩
  obtain ⟨v, rfl⟩ : ∃ v : Nat, u = (v : Int) := ⟨u.toNat, by omega⟩
  unfold stabG
  rw [Int.toNat_natCast, Int.toNat_natCast, Int.toNat_natCast]
  by_cases hm : mark = 0
  · subst hm
    rw [if_pos rfl]
    exact stab0_c n x o hx ho (by omega) px po j r v (by omega) (by omega) (by omega)
  · obtain rfl : mark = 1 := by omega
    rw [if_neg hm]
    exact stab1_c n x o hx ho (by omega) px po j r v (by omega) (by omega) (by omega)


theorem stabG_agg : ∃ s' x' o', stabG s x o i mark rt u = .agg (gc s' x' o').toArray ∧ x'.length = 8 ∧ o'.length = 8 := by
  unfold stabG
  split
  · exact ⟨_, _, _, rfl, tab_len _, tab_len _⟩
  · exact ⟨_, _, _, rfl, tab_len _, tab_len _⟩

theorem implStabilizeAt_c : Gives Try.prog 22 #[.agg (gc s x o).toArray, .int .i64 i, .int .i64 mark, .int .i64 rt, .int .i64 u] (stabR s x o i mark rt u) := by
  have hl := hx.len
  have hm := ho.len
  skip
  unfold stabR noneG
  refine Gives.of fun w => ?_
  refine acall_of (N := 52) (c := _) (rs := [.cell 10 32, .tmp 11]) (args := [_, _, _, _, _]) Try.func22 rfl (by decide) rfl rfl (Nat.le_of_ble_eq_true rfl) ?_
  refine Cd.rs [1, 2, 3, 4, 5, 10] fun K hK => ?_
  simp (maxSteps := 2000000) (disch := first | (simp only [E4, hl, hm] <;> omega) | omega | fail) only [↓E2, E3, bare, bareJ, ↓E0, E1, env0, envN, evOps, evOp, evQs, evQ, evV, setD, pureOp, ev, upd, updL, Value.cells, hav, ↓reduceIte, Zj, Zk, Nat.reduceAdd, Nat.reduceLT, Nat.reduceEqDiff, Nat.reduceMul, Nat.reduceLeDiff, if_true, Zn, reduceCtorEq, ZA, eq_self, Int.reduceLE, Int.reduceLT, Int.reduceToNat, ne_eq, Nat.reduceSub, Tzero32, hl, hm]
  repeat refine And.intro (by omega) ?_
  intro b1 hb1
  intro b2 hb2
  have nb2_b1 := hb2.ne
  try simp (maxSteps := 2000000) (disch := first | (simp only [E4, hl, hm] <;> omega) | omega | fail) only [↓E2, E3, bare, bareJ, ↓E0, E1, env0, envN, evOps, evOp, evQs, evQ, evV, setD, pureOp, ev, upd, updL, Value.cells, hav, ↓reduceIte, Zj, Zk, Nat.reduceAdd, Nat.reduceLT, Nat.reduceEqDiff, Nat.reduceMul, Nat.reduceLeDiff, if_true, Zn, reduceCtorEq, ZA, eq_self, Int.reduceLE, Int.reduceLT, Int.reduceToNat, ne_eq, Nat.reduceSub, Tzero32, hl, hm, nb2_b1]
  repeat refine And.intro (by omega) ?_
  intro g
  simp only [List.map_cons, List.map_nil, updL, upd, Nat.reduceEqDiff, if_true, if_false, ↓reduceIte]
  refine hK _ _ ?_; clear hK K
  refine Cd.seq ?_
  refine Cd.block ?_
  refine Cd.rs [1, 2, 3, 4, 5, 10, 12] fun K hK => ?_
  simp (maxSteps := 2000000) (disch := first | (simp only [E4, hl, hm] <;> omega) | omega | fail) only [↓E2, E3, bare, bareJ, ↓E0, E1, env0, envN, evOps, evOp, evQs, evQ, evV, setD, pureOp, ev, upd, updL, unV, cellAt, cellsAt, findB, setB, hav, ↓reduceIte, Zj, Zk, Nat.reduceAdd, Nat.reduceLT, Nat.reduceEqDiff, Nat.reduceMul, Nat.reduceLeDiff, if_true, Zn, reduceCtorEq, ZA, eq_self, Int.reduceLE, Int.reduceLT, Int.reduceToNat, ne_eq, Nat.reduceSub, Tld32, hl, hm, nb2_b1]
  refine callK_gives (IsGrid_c _ _ _ hx ho) ?_
  simp (maxSteps := 2000000) (disch := first | (simp only [E4, hl, hm] <;> omega) | omega | fail) only [↓E2, E3, bare, bareJ, ↓E0, E1, env0, envN, evOps, evOp, evQs, evQ, evV, setD, pureOp, ev, upd, updL, unV, cellAt, cellsAt, findB, setB, hav, ↓reduceIte, Zj, Zk, Nat.reduceAdd, Nat.reduceLT, Nat.reduceEqDiff, Nat.reduceMul, Nat.reduceLeDiff, if_true, Zn, reduceCtorEq, ZA, eq_self, Int.reduceLE, Int.reduceLT, Int.reduceToNat, ne_eq, Nat.reduceSub, Tld32, hl, hm, nb2_b1]
  repeat refine And.intro (by omega) ?_
  intro g
  simp only [List.map_cons, List.map_nil, updL, upd, Nat.reduceEqDiff, if_true, if_false, ↓reduceIte]
  refine hK _ _ ?_; clear hK K
  refine Cd.cond rfl (fun h1 => ?_) (fun h1 => ?_)
  · refine Cd.rs [10, 11] fun K hK => ?_
    simp (maxSteps := 2000000) (disch := first | (simp only [E4, hl, hm] <;> omega) | omega | fail) only [↓E2, E3, bare, bareJ, ↓E0, E1, evP, env0, envN, evOps, evOp, evQs, evQ, evV, setD, pureOp, ev, upd, updL, cellAt, cellsAt, findB, setB, fillL, buildV, Value.cells, hav, ↓reduceIte, Zj, Zk, Nat.reduceAdd, Nat.reduceLT, Nat.reduceEqDiff, Nat.reduceMul, Nat.reduceLeDiff, if_true, Zn, reduceCtorEq, ZA, eq_self, Int.reduceLE, Int.reduceLT, Int.reduceToNat, ne_eq, Nat.reduceSub, Tbld32, Tst32, hl, hm, nb2_b1]
    repeat refine And.intro (by omega) ?_
    intro g
    simp only [List.map_cons, List.map_nil, updL, upd, Nat.reduceEqDiff, if_true, if_false, ↓reduceIte]
    refine hK _ _ ?_; clear hK K
    refine Cd.ret (inBR (thenR ?_))
    simp (maxSteps := 2000000) (disch := first | (simp only [E4, hl, hm] <;> omega) | omega | fail) only [↓E2, E3, bare, bareJ, ↓E0, E1, evP, evPlan, env0, envN, evOps, evOp, evQs, evQ, evV, setD, pureOp, ev, upd, updL, gate, binW, eqOp, binV, intOp, shOp, boolOp, unV, convV, nilV, fieldAddrV, indexAddrV, extractV, cellAt, cellsAt, findB, setB, fillL, buildV, Value.cells, lenV, minV, maxV, hav, sliceV, loV, hiV, bslQ, mksQ, appQ, partsOk, partsCells, delB, eqL, SameI, strOp, apzQ, cvtQ, capV, ↓reduceIte, Zj, Zk, Nat.reduceAdd, Nat.reduceLT, Nat.reduceEqDiff, Nat.reduceMul, Nat.reduceLeDiff, if_true, Zn, reduceCtorEq, ZA, eq_self, Int.reduceLE, Int.reduceLT, Int.reduceToNat, ne_eq, Nat.reduceSub, Tld32, hl, hm, nb2_b1]
    rw [if_neg (by simpa using h1)]
  · have hg : gridB s x o = true := by simpa using h1
    have hs := gridB_s hg
    obtain ⟨n, hn1, hn2, hn3⟩ := hs
    rw [if_pos hg]
    refine Cd.rs [1, 2, 3, 4, 5, 10, 17] fun K hK => ?_
    simp (maxSteps := 2000000) (disch := first | (simp only [E4, hl, hm] <;> omega) | omega | fail) only [↓E2, E3, bare, bareJ, ↓E0, E1, env0, envN, evOps, evOp, evQs, evQ, evV, setD, pureOp, ev, upd, updL, gate, binW, eqOp, binV, intOp, shOp, boolOp, unV, fieldAddrV, cellAt, cellsAt, findB, setB, hav, eqL, SameI, strOp, ↓reduceIte, Zj, Zk, Nat.reduceAdd, Nat.reduceLT, Nat.reduceEqDiff, Nat.reduceMul, Nat.reduceLeDiff, if_true, Zn, reduceCtorEq, ZA, eq_self, Int.reduceLE, Int.reduceLT, Int.reduceToNat, ne_eq, Nat.reduceSub, Tfld32_0, Tld2, hl, hm, nb2_b1]
    refine callK_gives (within_c _ _ _) ?_
    simp (maxSteps := 2000000) (disch := first | (simp only [E4, hl, hm] <;> omega) | omega | fail) only [↓E2, E3, bare, bareJ, ↓E0, E1, env0, envN, evOps, evOp, evQs, evQ, evV, setD, pureOp, ev, upd, updL, gate, binW, eqOp, binV, intOp, shOp, boolOp, unV, fieldAddrV, cellAt, cellsAt, findB, setB, hav, eqL, SameI, strOp, ↓reduceIte, Zj, Zk, Nat.reduceAdd, Nat.reduceLT, Nat.reduceEqDiff, Nat.reduceMul, Nat.reduceLeDiff, if_true, Zn, reduceCtorEq, ZA, eq_self, Int.reduceLE, Int.reduceLT, Int.reduceToNat, ne_eq, Nat.reduceSub, Tfld32_0, Tld2, hl, hm, nb2_b1]
    apply guardX_or 3 [25, 26, 27] (j := 6) (d := 24) (tp := 28) (tl := 27) rfl rfl rfl rfl rfl
    · intro hq
      simp (maxSteps := 2000000) (disch := first | (simp only [E4, hl, hm] <;> omega) | omega | fail) only [↓E2, E3, bare, bareJ, ↓E0, E1, env0, envN, evOps, evOp, evQs, evQ, evV, setD, pureOp, ev, upd, updL, gate, binW, eqOp, binV, intOp, shOp, boolOp, unV, fieldAddrV, cellAt, cellsAt, findB, setB, hav, eqL, SameI, strOp, ↓reduceIte, Zj, Zk, Nat.reduceAdd, Nat.reduceLT, Nat.reduceEqDiff, Nat.reduceMul, Nat.reduceLeDiff, if_true, Zn, reduceCtorEq, ZA, eq_self, Int.reduceLE, Int.reduceLT, Int.reduceToNat, ne_eq, Nat.reduceSub, Tfld32_0, Tld2, hl, hm, nb2_b1]
      refine callK_gives (within_c _ _ _) ?_
      simp (maxSteps := 2000000) (disch := first | (simp only [E4, hl, hm] <;> omega) | omega | fail) only [↓E2, E3, bare, bareJ, ↓E0, E1, env0, envN, evOps, evOp, evQs, evQ, evV, setD, pureOp, ev, upd, updL, gate, binW, eqOp, binV, intOp, shOp, boolOp, unV, fieldAddrV, cellAt, cellsAt, findB, setB, hav, eqL, SameI, strOp, ↓reduceIte, Zj, Zk, Nat.reduceAdd, Nat.reduceLT, Nat.reduceEqDiff, Nat.reduceMul, Nat.reduceLeDiff, if_true, Zn, reduceCtorEq, ZA, eq_self, Int.reduceLE, Int.reduceLT, Int.reduceToNat, ne_eq, Nat.reduceSub, Tfld32_0, Tld2, hl, hm, nb2_b1]
      exact rfl
    intro g
    simp (maxSteps := 2000000) (disch := first | (simp only [E4, hl, hm] <;> omega) | omega | fail) only [↓E2, E3, bare, bareJ, ↓E0, E1, env0, envN, evOps, evOp, evQs, evQ, evV, setD, pureOp, ev, upd, updL, gate, binW, eqOp, binV, intOp, shOp, boolOp, unV, fieldAddrV, cellAt, cellsAt, findB, setB, hav, eqL, SameI, strOp, ↓reduceIte, Zj, Zk, Nat.reduceAdd, Nat.reduceLT, Nat.reduceEqDiff, Nat.reduceMul, Nat.reduceLeDiff, if_true, Zn, reduceCtorEq, ZA, eq_self, Int.reduceLE, Int.reduceLT, Int.reduceToNat, ne_eq, Nat.reduceSub, Tfld32_0, Tld2, hl, hm, nb2_b1]
    apply guardX_or 3 [30, 31, 32] (j := 11) (d := 29) (tp := 33) (tl := 32) rfl rfl rfl rfl rfl
    · intro hq
      simp (maxSteps := 2000000) (disch := first | (simp only [E4, hl, hm] <;> omega) | omega | fail) only [↓E2, E3, bare, bareJ, ↓E0, E1, env0, envN, evOps, evOp, evQs, evQ, evV, setD, pureOp, ev, upd, updL, gate, binW, eqOp, binV, intOp, shOp, boolOp, unV, fieldAddrV, cellAt, cellsAt, findB, setB, hav, eqL, SameI, strOp, ↓reduceIte, Zj, Zk, Nat.reduceAdd, Nat.reduceLT, Nat.reduceEqDiff, Nat.reduceMul, Nat.reduceLeDiff, if_true, Zn, reduceCtorEq, ZA, eq_self, Int.reduceLE, Int.reduceLT, Int.reduceToNat, ne_eq, Nat.reduceSub, Tfld32_0, Tld2, hl, hm, nb2_b1]
      refine callK_gives (within_c _ _ _) ?_
      simp (maxSteps := 2000000) (disch := first | (simp only [E4, hl, hm] <;> omega) | omega | fail) only [↓E2, E3, bare, bareJ, ↓E0, E1, env0, envN, evOps, evOp, evQs, evQ, evV, setD, pureOp, ev, upd, updL, gate, binW, eqOp, binV, intOp, shOp, boolOp, unV, fieldAddrV, cellAt, cellsAt, findB, setB, hav, eqL, SameI, strOp, ↓reduceIte, Zj, Zk, Nat.reduceAdd, Nat.reduceLT, Nat.reduceEqDiff, Nat.reduceMul, Nat.reduceLeDiff, if_true, Zn, reduceCtorEq, ZA, eq_self, Int.reduceLE, Int.reduceLT, Int.reduceToNat, ne_eq, Nat.reduceSub, Tfld32_0, Tld2, hl, hm, nb2_b1]
      exact rfl
    intro g
    simp (maxSteps := 2000000) (disch := first | (simp only [E4, hl, hm] <;> omega) | omega | fail) only [↓E2, E3, bare, bareJ, ↓E0, E1, env0, envN, evOps, evOp, evQs, evQ, evV, setD, pureOp, ev, upd, updL, gate, binW, eqOp, binV, intOp, shOp, boolOp, unV, fieldAddrV, cellAt, cellsAt, findB, setB, hav, eqL, SameI, strOp, ↓reduceIte, Zj, Zk, Nat.reduceAdd, Nat.reduceLT, Nat.reduceEqDiff, Nat.reduceMul, Nat.reduceLeDiff, if_true, Zn, reduceCtorEq, ZA, eq_self, Int.reduceLE, Int.reduceLT, Int.reduceToNat, ne_eq, Nat.reduceSub, Tfld32_0, Tld2, hl, hm, nb2_b1]
    apply guardX_or 3 [35, 36, 37] (j := 16) (d := 34) (tp := 38) (tl := 37) rfl rfl rfl rfl rfl
    · intro hq
      simp (maxSteps := 2000000) (disch := first | (simp only [E4, hl, hm] <;> omega) | omega | fail) only [↓E2, E3, bare, bareJ, ↓E0, E1, env0, envN, evOps, evOp, evQs, evQ, evV, setD, pureOp, ev, upd, updL, gate, binW, eqOp, binV, intOp, shOp, boolOp, unV, fieldAddrV, cellAt, cellsAt, findB, setB, hav, eqL, SameI, strOp, ↓reduceIte, Zj, Zk, Nat.reduceAdd, Nat.reduceLT, Nat.reduceEqDiff, Nat.reduceMul, Nat.reduceLeDiff, if_true, Zn, reduceCtorEq, ZA, eq_self, Int.reduceLE, Int.reduceLT, Int.reduceToNat, ne_eq, Nat.reduceSub, Tfld32_0, Tld2, hl, hm, nb2_b1]
      refine callK_gives (within_c _ _ _) ?_
      simp (maxSteps := 2000000) (disch := first | (simp only [E4, hl, hm] <;> omega) | omega | fail) only [↓E2, E3, bare, bareJ, ↓E0, E1, env0, envN, evOps, evOp, evQs, evQ, evV, setD, pureOp, ev, upd, updL, gate, binW, eqOp, binV, intOp, shOp, boolOp, unV, fieldAddrV, cellAt, cellsAt, findB, setB, hav, eqL, SameI, strOp, ↓reduceIte, Zj, Zk, Nat.reduceAdd, Nat.reduceLT, Nat.reduceEqDiff, Nat.reduceMul, Nat.reduceLeDiff, if_true, Zn, reduceCtorEq, ZA, eq_self, Int.reduceLE, Int.reduceLT, Int.reduceToNat, ne_eq, Nat.reduceSub, Tfld32_0, Tld2, hl, hm, nb2_b1]
      exact rfl
    intro g
    simp (maxSteps := 2000000) (disch := first | (simp only [E4, hl, hm] <;> omega) | omega | fail) only [↓E2, E3, bare, bareJ, ↓E0, E1, env0, envN, evOps, evOp, evQs, evQ, evV, setD, pureOp, ev, upd, updL, gate, binW, eqOp, binV, intOp, shOp, boolOp, unV, fieldAddrV, cellAt, cellsAt, findB, setB, hav, eqL, SameI, strOp, ↓reduceIte, Zj, Zk, Nat.reduceAdd, Nat.reduceLT, Nat.reduceEqDiff, Nat.reduceMul, Nat.reduceLeDiff, if_true, Zn, reduceCtorEq, ZA, eq_self, Int.reduceLE, Int.reduceLT, Int.reduceToNat, ne_eq, Nat.reduceSub, Tfld32_0, Tld2, hl, hm, nb2_b1]
    repeat refine And.intro (by omega) ?_
    intro g
    simp only [List.map_cons, List.map_nil, updL, upd, Nat.reduceEqDiff, if_true, if_false, ↓reduceIte]
    refine hK _ _ ?_; clear hK K
    refine Cd.cond rfl (fun h2 => ?_) (fun h2 => ?_)
    · have hk : ¬ stabOk s i mark rt u = true := fun h => by
        unfold stabOk at h
        simp only [decide_eq_true_eq, decide_eq_false_iff_not, beq_iff_eq, beq_eq_false_iff_ne, bne_iff_ne, bne_eq_false_iff_eq, Bool.and_eq_true, Bool.or_eq_true, Bool.or_eq_false_iff, Bool.not_eq_true', Bool.not_eq_false', Bool.and_eq_false_imp, ne_eq, gt_iff_lt, ge_iff_le, Int.not_lt, Int.not_le, Classical.not_not] at h2 h
        omega
      rw [if_neg hk]
      refine Cd.rs [10, 11] fun K hK => ?_
      simp (maxSteps := 2000000) (disch := first | (simp only [E4, hl, hm] <;> omega) | omega | fail) only [↓E2, E3, bare, bareJ, ↓E0, E1, evP, env0, envN, evOps, evOp, evQs, evQ, evV, setD, pureOp, ev, upd, updL, cellAt, cellsAt, findB, setB, fillL, buildV, Value.cells, hav, ↓reduceIte, Zj, Zk, Nat.reduceAdd, Nat.reduceLT, Nat.reduceEqDiff, Nat.reduceMul, Nat.reduceLeDiff, if_true, Zn, reduceCtorEq, ZA, eq_self, Int.reduceLE, Int.reduceLT, Int.reduceToNat, ne_eq, Nat.reduceSub, Tbld32, Tst32, hl, hm, nb2_b1]
      repeat refine And.intro (by omega) ?_
      intro g
      simp only [List.map_cons, List.map_nil, updL, upd, Nat.reduceEqDiff, if_true, if_false, ↓reduceIte]
      refine hK _ _ ?_; clear hK K
      refine Cd.ret (inBR (thenR ?_))
      simp (maxSteps := 2000000) (disch := first | (simp only [E4, hl, hm] <;> omega) | omega | fail) only [↓E2, E3, bare, bareJ, ↓E0, E1, evP, evPlan, env0, envN, evOps, evOp, evQs, evQ, evV, setD, pureOp, ev, upd, updL, gate, binW, eqOp, binV, intOp, shOp, boolOp, unV, convV, nilV, fieldAddrV, indexAddrV, extractV, cellAt, cellsAt, findB, setB, fillL, buildV, Value.cells, lenV, minV, maxV, hav, sliceV, loV, hiV, bslQ, mksQ, appQ, partsOk, partsCells, delB, eqL, SameI, strOp, apzQ, cvtQ, capV, ↓reduceIte, Zj, Zk, Nat.reduceAdd, Nat.reduceLT, Nat.reduceEqDiff, Nat.reduceMul, Nat.reduceLeDiff, if_true, Zn, reduceCtorEq, ZA, eq_self, Int.reduceLE, Int.reduceLT, Int.reduceToNat, ne_eq, Nat.reduceSub, Tld32, hl, hm, nb2_b1]
    · have hk : stabOk s i mark rt u = true := by
        unfold stabOk
        simp only [decide_eq_true_eq, decide_eq_false_iff_not, beq_iff_eq, beq_eq_false_iff_ne, bne_iff_ne, bne_eq_false_iff_eq, Bool.and_eq_true, Bool.or_eq_true, Bool.or_eq_false_iff, Bool.not_eq_true', Bool.not_eq_false', Bool.and_eq_false_imp, ne_eq, gt_iff_lt, ge_iff_le, Int.not_lt, Int.not_le, Classical.not_not] at h2
        simp [h2]
      rw [if_pos hk]
      refine Cd.rs [1, 2, 3, 4, 5, 10, 40] fun K hK => ?_
      simp (maxSteps := 2000000) (disch := first | (simp only [E4, hl, hm] <;> omega) | omega | fail) only [↓E2, E3, bare, bareJ, ↓E0, E1, env0, envN, evOps, evOp, evQs, evQ, evV, setD, pureOp, ev, upd, updL, binW, eqOp, binV, intOp, shOp, boolOp, fieldAddrV, cellAt, cellsAt, findB, hav, eqL, SameI, strOp, ↓reduceIte, Zj, Zk, Nat.reduceAdd, Nat.reduceLT, Nat.reduceEqDiff, Nat.reduceMul, Nat.reduceLeDiff, if_true, Zn, reduceCtorEq, ZA, eq_self, Int.reduceLE, Int.reduceLT, Int.reduceToNat, ne_eq, Nat.reduceSub, Tfld32_0, Tld2, hl, hm, nb2_b1]
      repeat refine And.intro (by omega) ?_
      intro g
      simp only [List.map_cons, List.map_nil, updL, upd, Nat.reduceEqDiff, if_true, if_false, ↓reduceIte]
      refine hK _ _ ?_; clear hK K
      refine Cd.cond rfl (fun h3 => ?_) (fun h3 => ?_)
      · refine Cd.rs [10, 11] fun K hK => ?_
        simp (maxSteps := 2000000) (disch := first | (simp only [E4, hl, hm] <;> omega) | omega | fail) only [↓E2, E3, bare, bareJ, ↓E0, E1, evP, env0, envN, evOps, evOp, evQs, evQ, evV, setD, pureOp, ev, upd, updL, cellAt, cellsAt, findB, setB, fillL, buildV, Value.cells, hav, ↓reduceIte, Zj, Zk, Nat.reduceAdd, Nat.reduceLT, Nat.reduceEqDiff, Nat.reduceMul, Nat.reduceLeDiff, if_true, Zn, reduceCtorEq, ZA, eq_self, Int.reduceLE, Int.reduceLT, Int.reduceToNat, ne_eq, Nat.reduceSub, Tbld32, Tst32, hl, hm, nb2_b1]
        repeat refine And.intro (by omega) ?_
        intro g
        simp only [List.map_cons, List.map_nil, updL, upd, Nat.reduceEqDiff, if_true, if_false, ↓reduceIte]
        refine hK _ _ ?_; clear hK K
        refine Cd.ret (inBR (thenR ?_))
        simp (maxSteps := 2000000) (disch := first | (simp only [E4, hl, hm] <;> omega) | omega | fail) only [↓E2, E3, bare, bareJ, ↓E0, E1, evP, evPlan, env0, envN, evOps, evOp, evQs, evQ, evV, setD, pureOp, ev, upd, updL, gate, binW, eqOp, binV, intOp, shOp, boolOp, unV, convV, nilV, fieldAddrV, indexAddrV, extractV, cellAt, cellsAt, findB, setB, fillL, buildV, Value.cells, lenV, minV, maxV, hav, sliceV, loV, hiV, bslQ, mksQ, appQ, partsOk, partsCells, delB, eqL, SameI, strOp, apzQ, cvtQ, capV, ↓reduceIte, Zj, Zk, Nat.reduceAdd, Nat.reduceLT, Nat.reduceEqDiff, Nat.reduceMul, Nat.reduceLeDiff, if_true, Zn, reduceCtorEq, ZA, eq_self, Int.reduceLE, Int.reduceLT, Int.reduceToNat, ne_eq, Nat.reduceSub, Tld32, hl, hm, nb2_b1]
        rw [if_pos (by simpa using h3)]
      · have h8 : ¬ s = 8 := by simpa using h3
        rw [if_neg h8]
        have hG := grown_s s x o hx ho i wi mark wm rt wr u wu hg hk h8
        obtain ⟨s', x', o', hR, hx', ho'⟩ := stabG_agg s x o hx ho i wi mark wm rt wr u wu
        rw [hR] at hG ⊢
        skip
        refine Cd.skip ?_
        refine inBN ?_
        refine thenN ?_
        refine Cd.rs [10, 11] fun K hK => ?_
        simp (maxSteps := 2000000) (disch := first | (simp only [E4, hl, hm, hx', ho'] <;> omega) | omega | fail) only [↓E2, E3, bare, bareJ, ↓E0, E1, evP, env0, envN, evOps, evOp, evQs, evQ, evV, setD, pureOp, ev, upd, updL, cellAt, cellsAt, findB, setB, fillL, buildV, Value.cells, hav, ↓reduceIte, Zj, Zk, Nat.reduceAdd, Nat.reduceLT, Nat.reduceEqDiff, Nat.reduceMul, Nat.reduceLeDiff, if_true, Zn, reduceCtorEq, ZA, eq_self, Int.reduceLE, Int.reduceLT, Int.reduceToNat, ne_eq, Nat.reduceSub, Tbld87, Tld32, Tst32, hl, hm, nb2_b1, hx', ho']
        refine callK_gives hG ?_
        simp (maxSteps := 2000000) (disch := first | (simp only [E4, hl, hm, hx', ho'] <;> omega) | omega | fail) only [↓E2, E3, bare, bareJ, ↓E0, E1, evP, env0, envN, evOps, evOp, evQs, evQ, evV, setD, pureOp, ev, upd, updL, cellAt, cellsAt, findB, setB, fillL, buildV, Value.cells, hav, ↓reduceIte, Zj, Zk, Nat.reduceAdd, Nat.reduceLT, Nat.reduceEqDiff, Nat.reduceMul, Nat.reduceLeDiff, if_true, Zn, reduceCtorEq, ZA, eq_self, Int.reduceLE, Int.reduceLT, Int.reduceToNat, ne_eq, Nat.reduceSub, Tbld87, Tld32, Tst32, hl, hm, nb2_b1, hx', ho']
        repeat refine And.intro (by omega) ?_
        intro g
        simp only [List.map_cons, List.map_nil, updL, upd, Nat.reduceEqDiff, if_true, if_false, ↓reduceIte]
        refine hK _ _ ?_; clear hK K
        refine Cd.ret ?_
        simp (maxSteps := 2000000) (disch := first | (simp only [E4, hl, hm, hx', ho'] <;> omega) | omega | fail) only [↓E2, E3, bare, bareJ, ↓E0, E1, evP, evPlan, env0, envN, evOps, evOp, evQs, evQ, evV, setD, pureOp, ev, upd, updL, gate, binW, eqOp, binV, intOp, shOp, boolOp, unV, convV, nilV, fieldAddrV, indexAddrV, extractV, cellAt, cellsAt, findB, setB, fillL, buildV, Value.cells, lenV, minV, maxV, hav, sliceV, loV, hiV, bslQ, mksQ, appQ, partsOk, partsCells, delB, eqL, SameI, strOp, apzQ, cvtQ, capV, ↓reduceIte, Zj, Zk, Nat.reduceAdd, Nat.reduceLT, Nat.reduceEqDiff, Nat.reduceMul, Nat.reduceLeDiff, if_true, Zn, reduceCtorEq, ZA, eq_self, Int.reduceLE, Int.reduceLT, Int.reduceToNat, ne_eq, Nat.reduceSub, Tld32, hl, hm, nb2_b1, hx', ho']


theorem specStabilizeAt_c : Gives Try.prog 23 #[.agg (gc s x o).toArray, .int .i64 i, .int .i64 mark, .int .i64 rt, .int .i64 u] (stabR s x o i mark rt u) := by
  have hl := hx.len
  have hm := ho.len
  skip
  unfold stabR noneG
  refine Gives.of fun w => ?_
  refine acall_of (N := 51) (c := _) (rs := [.cell 10 32, .tmp 11]) (args := [_, _, _, _, _]) Try.func23 rfl (by decide) rfl rfl (Nat.le_of_ble_eq_true rfl) ?_
  refine Cd.rs [1, 2, 3, 4, 5, 10] fun K hK => ?_
  simp (maxSteps := 2000000) (disch := first | (simp only [E4, hl, hm] <;> omega) | omega | fail) only [↓E2, E3, bare, bareJ, ↓E0, E1, env0, envN, evOps, evOp, evQs, evQ, evV, setD, pureOp, ev, upd, updL, Value.cells, hav, ↓reduceIte, Zj, Zk, Nat.reduceAdd, Nat.reduceLT, Nat.reduceEqDiff, Nat.reduceMul, Nat.reduceLeDiff, if_true, Zn, reduceCtorEq, ZA, eq_self, Int.reduceLE, Int.reduceLT, Int.reduceToNat, ne_eq, Nat.reduceSub, Tzero32, hl, hm]
  repeat refine And.intro (by omega) ?_
  intro b1 hb1
  intro b2 hb2
  have nb2_b1 := hb2.ne
  try simp (maxSteps := 2000000) (disch := first | (simp only [E4, hl, hm] <;> omega) | omega | fail) only [↓E2, E3, bare, bareJ, ↓E0, E1, env0, envN, evOps, evOp, evQs, evQ, evV, setD, pureOp, ev, upd, updL, Value.cells, hav, ↓reduceIte, Zj, Zk, Nat.reduceAdd, Nat.reduceLT, Nat.reduceEqDiff, Nat.reduceMul, Nat.reduceLeDiff, if_true, Zn, reduceCtorEq, ZA, eq_self, Int.reduceLE, Int.reduceLT, Int.reduceToNat, ne_eq, Nat.reduceSub, Tzero32, hl, hm, nb2_b1]
  repeat refine And.intro (by omega) ?_
  intro g
  simp only [List.map_cons, List.map_nil, updL, upd, Nat.reduceEqDiff, if_true, if_false, ↓reduceIte]
  refine hK _ _ ?_; clear hK K
  refine Cd.seq ?_
  refine Cd.block ?_
  refine Cd.rs [1, 2, 3, 4, 5, 10, 12] fun K hK => ?_
  simp (maxSteps := 2000000) (disch := first | (simp only [E4, hl, hm] <;> omega) | omega | fail) only [↓E2, E3, bare, bareJ, ↓E0, E1, env0, envN, evOps, evOp, evQs, evQ, evV, setD, pureOp, ev, upd, updL, unV, cellAt, cellsAt, findB, setB, hav, ↓reduceIte, Zj, Zk, Nat.reduceAdd, Nat.reduceLT, Nat.reduceEqDiff, Nat.reduceMul, Nat.reduceLeDiff, if_true, Zn, reduceCtorEq, ZA, eq_self, Int.reduceLE, Int.reduceLT, Int.reduceToNat, ne_eq, Nat.reduceSub, Tld32, hl, hm, nb2_b1]
  refine callK_gives (l01Is_c _ _ _ hx ho) ?_
  simp (maxSteps := 2000000) (disch := first | (simp only [E4, hl, hm] <;> omega) | omega | fail) only [↓E2, E3, bare, bareJ, ↓E0, E1, env0, envN, evOps, evOp, evQs, evQ, evV, setD, pureOp, ev, upd, updL, unV, cellAt, cellsAt, findB, setB, hav, ↓reduceIte, Zj, Zk, Nat.reduceAdd, Nat.reduceLT, Nat.reduceEqDiff, Nat.reduceMul, Nat.reduceLeDiff, if_true, Zn, reduceCtorEq, ZA, eq_self, Int.reduceLE, Int.reduceLT, Int.reduceToNat, ne_eq, Nat.reduceSub, Tld32, hl, hm, nb2_b1]
  repeat refine And.intro (by omega) ?_
  intro g
  simp only [List.map_cons, List.map_nil, updL, upd, Nat.reduceEqDiff, if_true, if_false, ↓reduceIte]
  refine hK _ _ ?_; clear hK K
  refine Cd.cond rfl (fun h1 => ?_) (fun h1 => ?_)
  · refine Cd.rs [10, 11] fun K hK => ?_
    simp (maxSteps := 2000000) (disch := first | (simp only [E4, hl, hm] <;> omega) | omega | fail) only [↓E2, E3, bare, bareJ, ↓E0, E1, evP, env0, envN, evOps, evOp, evQs, evQ, evV, setD, pureOp, ev, upd, updL, cellAt, cellsAt, findB, setB, fillL, buildV, Value.cells, hav, ↓reduceIte, Zj, Zk, Nat.reduceAdd, Nat.reduceLT, Nat.reduceEqDiff, Nat.reduceMul, Nat.reduceLeDiff, if_true, Zn, reduceCtorEq, ZA, eq_self, Int.reduceLE, Int.reduceLT, Int.reduceToNat, ne_eq, Nat.reduceSub, Tbld32, Tst32, hl, hm, nb2_b1]
    repeat refine And.intro (by omega) ?_
    intro g
    simp only [List.map_cons, List.map_nil, updL, upd, Nat.reduceEqDiff, if_true, if_false, ↓reduceIte]
    refine hK _ _ ?_; clear hK K
    refine Cd.ret (inBR (thenR ?_))
    simp (maxSteps := 2000000) (disch := first | (simp only [E4, hl, hm] <;> omega) | omega | fail) only [↓E2, E3, bare, bareJ, ↓E0, E1, evP, evPlan, env0, envN, evOps, evOp, evQs, evQ, evV, setD, pureOp, ev, upd, updL, gate, binW, eqOp, binV, intOp, shOp, boolOp, unV, convV, nilV, fieldAddrV, indexAddrV, extractV, cellAt, cellsAt, findB, setB, fillL, buildV, Value.cells, lenV, minV, maxV, hav, sliceV, loV, hiV, bslQ, mksQ, appQ, partsOk, partsCells, delB, eqL, SameI, strOp, apzQ, cvtQ, capV, ↓reduceIte, Zj, Zk, Nat.reduceAdd, Nat.reduceLT, Nat.reduceEqDiff, Nat.reduceMul, Nat.reduceLeDiff, if_true, Zn, reduceCtorEq, ZA, eq_self, Int.reduceLE, Int.reduceLT, Int.reduceToNat, ne_eq, Nat.reduceSub, Tld32, hl, hm, nb2_b1]
    rw [if_neg (by simpa using h1)]
  · have hg : gridB s x o = true := by simpa using h1
    have hs := gridB_s hg
    obtain ⟨n, hn1, hn2, hn3⟩ := hs
    rw [if_pos hg]
    refine Cd.rs [1, 2, 3, 4, 5, 10, 17] fun K hK => ?_
    simp (maxSteps := 2000000) (disch := first | (simp only [E4, hl, hm] <;> omega) | omega | fail) only [↓E2, E3, bare, bareJ, ↓E0, E1, env0, envN, evOps, evOp, evQs, evQ, evV, setD, pureOp, ev, upd, updL, gate, binW, eqOp, binV, intOp, shOp, boolOp, unV, fieldAddrV, cellAt, cellsAt, findB, setB, hav, eqL, SameI, strOp, ↓reduceIte, Zj, Zk, Nat.reduceAdd, Nat.reduceLT, Nat.reduceEqDiff, Nat.reduceMul, Nat.reduceLeDiff, if_true, Zn, reduceCtorEq, ZA, eq_self, Int.reduceLE, Int.reduceLT, Int.reduceToNat, ne_eq, Nat.reduceSub, Tfld32_0, Tld2, hl, hm, nb2_b1]
    refine callK_gives (l01In_c _ _ _) ?_
    simp (maxSteps := 2000000) (disch := first | (simp only [E4, hl, hm] <;> omega) | omega | fail) only [↓E2, E3, bare, bareJ, ↓E0, E1, env0, envN, evOps, evOp, evQs, evQ, evV, setD, pureOp, ev, upd, updL, gate, binW, eqOp, binV, intOp, shOp, boolOp, unV, fieldAddrV, cellAt, cellsAt, findB, setB, hav, eqL, SameI, strOp, ↓reduceIte, Zj, Zk, Nat.reduceAdd, Nat.reduceLT, Nat.reduceEqDiff, Nat.reduceMul, Nat.reduceLeDiff, if_true, Zn, reduceCtorEq, ZA, eq_self, Int.reduceLE, Int.reduceLT, Int.reduceToNat, ne_eq, Nat.reduceSub, Tfld32_0, Tld2, hl, hm, nb2_b1]
    apply guardX_or 3 [25, 26, 27] (j := 6) (d := 24) (tp := 28) (tl := 27) rfl rfl rfl rfl rfl
    · intro hq
      simp (maxSteps := 2000000) (disch := first | (simp only [E4, hl, hm] <;> omega) | omega | fail) only [↓E2, E3, bare, bareJ, ↓E0, E1, env0, envN, evOps, evOp, evQs, evQ, evV, setD, pureOp, ev, upd, updL, gate, binW, eqOp, binV, intOp, shOp, boolOp, unV, fieldAddrV, cellAt, cellsAt, findB, setB, hav, eqL, SameI, strOp, ↓reduceIte, Zj, Zk, Nat.reduceAdd, Nat.reduceLT, Nat.reduceEqDiff, Nat.reduceMul, Nat.reduceLeDiff, if_true, Zn, reduceCtorEq, ZA, eq_self, Int.reduceLE, Int.reduceLT, Int.reduceToNat, ne_eq, Nat.reduceSub, Tfld32_0, Tld2, hl, hm, nb2_b1]
      refine callK_gives (l01In_c _ _ _) ?_
      simp (maxSteps := 2000000) (disch := first | (simp only [E4, hl, hm] <;> omega) | omega | fail) only [↓E2, E3, bare, bareJ, ↓E0, E1, env0, envN, evOps, evOp, evQs, evQ, evV, setD, pureOp, ev, upd, updL, gate, binW, eqOp, binV, intOp, shOp, boolOp, unV, fieldAddrV, cellAt, cellsAt, findB, setB, hav, eqL, SameI, strOp, ↓reduceIte, Zj, Zk, Nat.reduceAdd, Nat.reduceLT, Nat.reduceEqDiff, Nat.reduceMul, Nat.reduceLeDiff, if_true, Zn, reduceCtorEq, ZA, eq_self, Int.reduceLE, Int.reduceLT, Int.reduceToNat, ne_eq, Nat.reduceSub, Tfld32_0, Tld2, hl, hm, nb2_b1]
      exact rfl
    intro g
    simp (maxSteps := 2000000) (disch := first | (simp only [E4, hl, hm] <;> omega) | omega | fail) only [↓E2, E3, bare, bareJ, ↓E0, E1, env0, envN, evOps, evOp, evQs, evQ, evV, setD, pureOp, ev, upd, updL, gate, binW, eqOp, binV, intOp, shOp, boolOp, unV, fieldAddrV, cellAt, cellsAt, findB, setB, hav, eqL, SameI, strOp, ↓reduceIte, Zj, Zk, Nat.reduceAdd, Nat.reduceLT, Nat.reduceEqDiff, Nat.reduceMul, Nat.reduceLeDiff, if_true, Zn, reduceCtorEq, ZA, eq_self, Int.reduceLE, Int.reduceLT, Int.reduceToNat, ne_eq, Nat.reduceSub, Tfld32_0, Tld2, hl, hm, nb2_b1]
    apply guardX_or 3 [30, 31, 32] (j := 11) (d := 29) (tp := 33) (tl := 32) rfl rfl rfl rfl rfl
    · intro hq
      simp (maxSteps := 2000000) (disch := first | (simp only [E4, hl, hm] <;> omega) | omega | fail) only [↓E2, E3, bare, bareJ, ↓E0, E1, env0, envN, evOps, evOp, evQs, evQ, evV, setD, pureOp, ev, upd, updL, gate, binW, eqOp, binV, intOp, shOp, boolOp, unV, fieldAddrV, cellAt, cellsAt, findB, setB, hav, eqL, SameI, strOp, ↓reduceIte, Zj, Zk, Nat.reduceAdd, Nat.reduceLT, Nat.reduceEqDiff, Nat.reduceMul, Nat.reduceLeDiff, if_true, Zn, reduceCtorEq, ZA, eq_self, Int.reduceLE, Int.reduceLT, Int.reduceToNat, ne_eq, Nat.reduceSub, Tfld32_0, Tld2, hl, hm, nb2_b1]
      refine callK_gives (l01In_c _ _ _) ?_
      simp (maxSteps := 2000000) (disch := first | (simp only [E4, hl, hm] <;> omega) | omega | fail) only [↓E2, E3, bare, bareJ, ↓E0, E1, env0, envN, evOps, evOp, evQs, evQ, evV, setD, pureOp, ev, upd, updL, gate, binW, eqOp, binV, intOp, shOp, boolOp, unV, fieldAddrV, cellAt, cellsAt, findB, setB, hav, eqL, SameI, strOp, ↓reduceIte, Zj, Zk, Nat.reduceAdd, Nat.reduceLT, Nat.reduceEqDiff, Nat.reduceMul, Nat.reduceLeDiff, if_true, Zn, reduceCtorEq, ZA, eq_self, Int.reduceLE, Int.reduceLT, Int.reduceToNat, ne_eq, Nat.reduceSub, Tfld32_0, Tld2, hl, hm, nb2_b1]
      exact rfl
    intro g
    simp (maxSteps := 2000000) (disch := first | (simp only [E4, hl, hm] <;> omega) | omega | fail) only [↓E2, E3, bare, bareJ, ↓E0, E1, env0, envN, evOps, evOp, evQs, evQ, evV, setD, pureOp, ev, upd, updL, gate, binW, eqOp, binV, intOp, shOp, boolOp, unV, fieldAddrV, cellAt, cellsAt, findB, setB, hav, eqL, SameI, strOp, ↓reduceIte, Zj, Zk, Nat.reduceAdd, Nat.reduceLT, Nat.reduceEqDiff, Nat.reduceMul, Nat.reduceLeDiff, if_true, Zn, reduceCtorEq, ZA, eq_self, Int.reduceLE, Int.reduceLT, Int.reduceToNat, ne_eq, Nat.reduceSub, Tfld32_0, Tld2, hl, hm, nb2_b1]
    apply guardX_or 3 [35, 36, 37] (j := 16) (d := 34) (tp := 38) (tl := 37) rfl rfl rfl rfl rfl
    · intro hq
      simp (maxSteps := 2000000) (disch := first | (simp only [E4, hl, hm] <;> omega) | omega | fail) only [↓E2, E3, bare, bareJ, ↓E0, E1, env0, envN, evOps, evOp, evQs, evQ, evV, setD, pureOp, ev, upd, updL, gate, binW, eqOp, binV, intOp, shOp, boolOp, unV, fieldAddrV, cellAt, cellsAt, findB, setB, hav, eqL, SameI, strOp, ↓reduceIte, Zj, Zk, Nat.reduceAdd, Nat.reduceLT, Nat.reduceEqDiff, Nat.reduceMul, Nat.reduceLeDiff, if_true, Zn, reduceCtorEq, ZA, eq_self, Int.reduceLE, Int.reduceLT, Int.reduceToNat, ne_eq, Nat.reduceSub, Tfld32_0, Tld2, hl, hm, nb2_b1]
      refine callK_gives (l01In_c _ _ _) ?_
      simp (maxSteps := 2000000) (disch := first | (simp only [E4, hl, hm] <;> omega) | omega | fail) only [↓E2, E3, bare, bareJ, ↓E0, E1, env0, envN, evOps, evOp, evQs, evQ, evV, setD, pureOp, ev, upd, updL, gate, binW, eqOp, binV, intOp, shOp, boolOp, unV, fieldAddrV, cellAt, cellsAt, findB, setB, hav, eqL, SameI, strOp, ↓reduceIte, Zj, Zk, Nat.reduceAdd, Nat.reduceLT, Nat.reduceEqDiff, Nat.reduceMul, Nat.reduceLeDiff, if_true, Zn, reduceCtorEq, ZA, eq_self, Int.reduceLE, Int.reduceLT, Int.reduceToNat, ne_eq, Nat.reduceSub, Tfld32_0, Tld2, hl, hm, nb2_b1]
      exact rfl
    intro g
    simp (maxSteps := 2000000) (disch := first | (simp only [E4, hl, hm] <;> omega) | omega | fail) only [↓E2, E3, bare, bareJ, ↓E0, E1, env0, envN, evOps, evOp, evQs, evQ, evV, setD, pureOp, ev, upd, updL, gate, binW, eqOp, binV, intOp, shOp, boolOp, unV, fieldAddrV, cellAt, cellsAt, findB, setB, hav, eqL, SameI, strOp, ↓reduceIte, Zj, Zk, Nat.reduceAdd, Nat.reduceLT, Nat.reduceEqDiff, Nat.reduceMul, Nat.reduceLeDiff, if_true, Zn, reduceCtorEq, ZA, eq_self, Int.reduceLE, Int.reduceLT, Int.reduceToNat, ne_eq, Nat.reduceSub, Tfld32_0, Tld2, hl, hm, nb2_b1]
    repeat refine And.intro (by omega) ?_
    intro g
    simp only [List.map_cons, List.map_nil, updL, upd, Nat.reduceEqDiff, if_true, if_false, ↓reduceIte]
    refine hK _ _ ?_; clear hK K
    refine Cd.cond rfl (fun h2 => ?_) (fun h2 => ?_)
    · have hk : ¬ stabOk s i mark rt u = true := fun h => by
        unfold stabOk at h
        simp only [decide_eq_true_eq, decide_eq_false_iff_not, beq_iff_eq, beq_eq_false_iff_ne, bne_iff_ne, bne_eq_false_iff_eq, Bool.and_eq_true, Bool.or_eq_true, Bool.or_eq_false_iff, Bool.not_eq_true', Bool.not_eq_false', Bool.and_eq_false_imp, ne_eq, gt_iff_lt, ge_iff_le, Int.not_lt, Int.not_le, Classical.not_not] at h2 h
        omega
      rw [if_neg hk]
      refine Cd.rs [10, 11] fun K hK => ?_
      simp (maxSteps := 2000000) (disch := first | (simp only [E4, hl, hm] <;> omega) | omega | fail) only [↓E2, E3, bare, bareJ, ↓E0, E1, evP, env0, envN, evOps, evOp, evQs, evQ, evV, setD, pureOp, ev, upd, updL, cellAt, cellsAt, findB, setB, fillL, buildV, Value.cells, hav, ↓reduceIte, Zj, Zk, Nat.reduceAdd, Nat.reduceLT, Nat.reduceEqDiff, Nat.reduceMul, Nat.reduceLeDiff, if_true, Zn, reduceCtorEq, ZA, eq_self, Int.reduceLE, Int.reduceLT, Int.reduceToNat, ne_eq, Nat.reduceSub, Tbld32, Tst32, hl, hm, nb2_b1]
      repeat refine And.intro (by omega) ?_
      intro g
      simp only [List.map_cons, List.map_nil, updL, upd, Nat.reduceEqDiff, if_true, if_false, ↓reduceIte]
      refine hK _ _ ?_; clear hK K
      refine Cd.ret (inBR (thenR ?_))
      simp (maxSteps := 2000000) (disch := first | (simp only [E4, hl, hm] <;> omega) | omega | fail) only [↓E2, E3, bare, bareJ, ↓E0, E1, evP, evPlan, env0, envN, evOps, evOp, evQs, evQ, evV, setD, pureOp, ev, upd, updL, gate, binW, eqOp, binV, intOp, shOp, boolOp, unV, convV, nilV, fieldAddrV, indexAddrV, extractV, cellAt, cellsAt, findB, setB, fillL, buildV, Value.cells, lenV, minV, maxV, hav, sliceV, loV, hiV, bslQ, mksQ, appQ, partsOk, partsCells, delB, eqL, SameI, strOp, apzQ, cvtQ, capV, ↓reduceIte, Zj, Zk, Nat.reduceAdd, Nat.reduceLT, Nat.reduceEqDiff, Nat.reduceMul, Nat.reduceLeDiff, if_true, Zn, reduceCtorEq, ZA, eq_self, Int.reduceLE, Int.reduceLT, Int.reduceToNat, ne_eq, Nat.reduceSub, Tld32, hl, hm, nb2_b1]
    · have hk : stabOk s i mark rt u = true := by
        unfold stabOk
        simp only [decide_eq_true_eq, decide_eq_false_iff_not, beq_iff_eq, beq_eq_false_iff_ne, bne_iff_ne, bne_eq_false_iff_eq, Bool.and_eq_true, Bool.or_eq_true, Bool.or_eq_false_iff, Bool.not_eq_true', Bool.not_eq_false', Bool.and_eq_false_imp, ne_eq, gt_iff_lt, ge_iff_le, Int.not_lt, Int.not_le, Classical.not_not] at h2
        simp [h2]
      rw [if_pos hk]
      refine Cd.rs [1, 2, 3, 4, 5, 10, 40] fun K hK => ?_
      simp (maxSteps := 2000000) (disch := first | (simp only [E4, hl, hm] <;> omega) | omega | fail) only [↓E2, E3, bare, bareJ, ↓E0, E1, env0, envN, evOps, evOp, evQs, evQ, evV, setD, pureOp, ev, upd, updL, binW, eqOp, binV, intOp, shOp, boolOp, fieldAddrV, cellAt, cellsAt, findB, hav, eqL, SameI, strOp, ↓reduceIte, Zj, Zk, Nat.reduceAdd, Nat.reduceLT, Nat.reduceEqDiff, Nat.reduceMul, Nat.reduceLeDiff, if_true, Zn, reduceCtorEq, ZA, eq_self, Int.reduceLE, Int.reduceLT, Int.reduceToNat, ne_eq, Nat.reduceSub, Tfld32_0, Tld2, hl, hm, nb2_b1]
      repeat refine And.intro (by omega) ?_
      intro g
      simp only [List.map_cons, List.map_nil, updL, upd, Nat.reduceEqDiff, if_true, if_false, ↓reduceIte]
      refine hK _ _ ?_; clear hK K
      refine Cd.cond rfl (fun h3 => ?_) (fun h3 => ?_)
      · refine Cd.rs [10, 11] fun K hK => ?_
        simp (maxSteps := 2000000) (disch := first | (simp only [E4, hl, hm] <;> omega) | omega | fail) only [↓E2, E3, bare, bareJ, ↓E0, E1, evP, env0, envN, evOps, evOp, evQs, evQ, evV, setD, pureOp, ev, upd, updL, cellAt, cellsAt, findB, setB, fillL, buildV, Value.cells, hav, ↓reduceIte, Zj, Zk, Nat.reduceAdd, Nat.reduceLT, Nat.reduceEqDiff, Nat.reduceMul, Nat.reduceLeDiff, if_true, Zn, reduceCtorEq, ZA, eq_self, Int.reduceLE, Int.reduceLT, Int.reduceToNat, ne_eq, Nat.reduceSub, Tbld32, Tst32, hl, hm, nb2_b1]
        repeat refine And.intro (by omega) ?_
        intro g
        simp only [List.map_cons, List.map_nil, updL, upd, Nat.reduceEqDiff, if_true, if_false, ↓reduceIte]
        refine hK _ _ ?_; clear hK K
        refine Cd.ret (inBR (thenR ?_))
        simp (maxSteps := 2000000) (disch := first | (simp only [E4, hl, hm] <;> omega) | omega | fail) only [↓E2, E3, bare, bareJ, ↓E0, E1, evP, evPlan, env0, envN, evOps, evOp, evQs, evQ, evV, setD, pureOp, ev, upd, updL, gate, binW, eqOp, binV, intOp, shOp, boolOp, unV, convV, nilV, fieldAddrV, indexAddrV, extractV, cellAt, cellsAt, findB, setB, fillL, buildV, Value.cells, lenV, minV, maxV, hav, sliceV, loV, hiV, bslQ, mksQ, appQ, partsOk, partsCells, delB, eqL, SameI, strOp, apzQ, cvtQ, capV, ↓reduceIte, Zj, Zk, Nat.reduceAdd, Nat.reduceLT, Nat.reduceEqDiff, Nat.reduceMul, Nat.reduceLeDiff, if_true, Zn, reduceCtorEq, ZA, eq_self, Int.reduceLE, Int.reduceLT, Int.reduceToNat, ne_eq, Nat.reduceSub, Tld32, hl, hm, nb2_b1]
        rw [if_pos (by simpa using h3)]
      · have h8 : ¬ s = 8 := by simpa using h3
        rw [if_neg h8]
        have hG := stab_s s x o hx ho i wi mark wm rt wr u wu hg hk h8
        obtain ⟨s', x', o', hR, hx', ho'⟩ := stabG_agg s x o hx ho i wi mark wm rt wr u wu
        rw [hR] at hG ⊢
        skip
        refine Cd.skip ?_
        refine inBN ?_
        refine thenN ?_
        refine Cd.rs [10, 11] fun K hK => ?_
        simp (maxSteps := 2000000) (disch := first | (simp only [E4, hl, hm, hx', ho'] <;> omega) | omega | fail) only [↓E2, E3, bare, bareJ, ↓E0, E1, env0, envN, evOps, evOp, evQs, evQ, evV, setD, pureOp, ev, upd, updL, cellAt, cellsAt, findB, setB, Value.cells, hav, ↓reduceIte, Zj, Zk, Nat.reduceAdd, Nat.reduceLT, Nat.reduceEqDiff, Nat.reduceMul, Nat.reduceLeDiff, if_true, Zn, reduceCtorEq, ZA, eq_self, Int.reduceLE, Int.reduceLT, Int.reduceToNat, ne_eq, Nat.reduceSub, Tld32, Tst32, hl, hm, nb2_b1, hx', ho']
        refine callK_gives hG ?_
        simp (maxSteps := 2000000) (disch := first | (simp only [E4, hl, hm, hx', ho'] <;> omega) | omega | fail) only [↓E2, E3, bare, bareJ, ↓E0, E1, env0, envN, evOps, evOp, evQs, evQ, evV, setD, pureOp, ev, upd, updL, cellAt, cellsAt, findB, setB, Value.cells, hav, ↓reduceIte, Zj, Zk, Nat.reduceAdd, Nat.reduceLT, Nat.reduceEqDiff, Nat.reduceMul, Nat.reduceLeDiff, if_true, Zn, reduceCtorEq, ZA, eq_self, Int.reduceLE, Int.reduceLT, Int.reduceToNat, ne_eq, Nat.reduceSub, Tld32, Tst32, hl, hm, nb2_b1, hx', ho']
        repeat refine And.intro (by omega) ?_
        intro g
        simp only [List.map_cons, List.map_nil, updL, upd, Nat.reduceEqDiff, if_true, if_false, ↓reduceIte]
        refine hK _ _ ?_; clear hK K
        refine Cd.ret ?_
        simp (maxSteps := 2000000) (disch := first | (simp only [E4, hl, hm, hx', ho'] <;> omega) | omega | fail) only [↓E2, E3, bare, bareJ, ↓E0, E1, evP, evPlan, env0, envN, evOps, evOp, evQs, evQ, evV, setD, pureOp, ev, upd, updL, gate, binW, eqOp, binV, intOp, shOp, boolOp, unV, convV, nilV, fieldAddrV, indexAddrV, extractV, cellAt, cellsAt, findB, setB, fillL, buildV, Value.cells, lenV, minV, maxV, hav, sliceV, loV, hiV, bslQ, mksQ, appQ, partsOk, partsCells, delB, eqL, SameI, strOp, apzQ, cvtQ, capV, ↓reduceIte, Zj, Zk, Nat.reduceAdd, Nat.reduceLT, Nat.reduceEqDiff, Nat.reduceMul, Nat.reduceLeDiff, if_true, Zn, reduceCtorEq, ZA, eq_self, Int.reduceLE, Int.reduceLT, Int.reduceToNat, ne_eq, Nat.reduceSub, Tld32, hl, hm, nb2_b1, hx', ho']


end

end Go.Proofs

/-
  What the functions of this part hand back: each as a plain function of its arguments. Conditions: none.
-/
namespace Go.Proofs
open Go.W8
set_option linter.unusedVariables false
set_option linter.unusedSimpArgs false
set_option linter.unusedSectionVars false
set_option maxRecDepth 8000
set_option maxHeartbeats 4000000
--@plain
/-- The first place at which a row has the entry r. -/
def rowGo (x : List Int) (r : Int) : Nat → Nat → Nat
  | _, 0 => 0
  | i, m + 1 => if x.getD i 0 = r then i else rowGo x r (i + 1) m
def rowOf (x : List Int) (n : Nat) (r : Int) : Nat := rowGo x r 0 n

theorem rowGo_hit {x : List Int} {r : Int} : ∀ (m i j : Nat), i ≤ j → j < i + m → x.getD j 0 = r → (∀ l, i ≤ l → l < j → x.getD l 0 ≠ r) → rowGo x r i m = j
  | 0, i, j, h1, h2, _, _ => by omega
  | m + 1, i, j, h1, h2, h3, h4 => by
    unfold rowGo
    by_cases h : i = j
    · subst h; rw [if_pos h3]
    · rw [if_neg (h4 i (Nat.le_refl _) (by omega))]
      exact rowGo_hit m (i + 1) j (by omega) (by omega) h3 fun l hl => h4 l (by omega)
theorem rowGo_none {x : List Int} {r : Int} : ∀ (m i : Nat), (∀ l, i ≤ l → l < i + m → x.getD l 0 ≠ r) → rowGo x r i m = 0
  | 0, _, _ => rfl
  | m + 1, i, h => by
    unfold rowGo
    rw [if_neg (h i (Nat.le_refl _) (by omega))]
    exact rowGo_none m (i + 1) fun l hl hl' => h l (by omega) (by omega)
theorem rowOf_hit {x : List Int} {n j : Nat} {r : Int} (hj : j < n) (h : x.getD j 0 = r) (h' : ∀ l, l < j → x.getD l 0 ≠ r) : rowOf x n r = j := rowGo_hit n 0 j (Nat.zero_le _) (by omega) h fun l _ => h' l
theorem rowOf_none {x : List Int} {n : Nat} {r : Int} (h : ∀ l, l < n → x.getD l 0 ≠ r) : rowOf x n r = 0 := rowGo_none n 0 fun l _ hl => h l (by omega)
theorem rowOf_perm {x : List Int} {n j : Nat} (hp : IsPerm x n) (hj : j < n) : rowOf x n (x.getD j 0) = j := rowOf_hit hj rfl fun l hl => hp.2.1 j hj l hl
theorem perm_surj {x : List Int} {n : Nat} (hx : ∀ i, i < n → 0 ≤ x.getD i 0) (hp : IsPerm x n) {r : Int} (h0 : 0 ≤ r) (h1 : r < n) : ∃ i, i < n ∧ x.getD i 0 = r := by
  obtain ⟨i, hi, h⟩ := inj_surj n (fun i => (x.getD i 0).toNat) (fun i hi => by have := hp.1 i hi; have := hx i hi; omega)
    (fun i hi j hj h => by
      have a := hx i hi
      have b := hx j hj
      have h' : (x.getD i 0).toNat = (x.getD j 0).toNat := h
      rcases Nat.lt_trichotomy i j with h2 | h2 | h2
      · exact absurd (by omega) (hp.2.1 j hj i h2)
      · exact h2
      · exact absurd (by omega) (hp.2.1 i hi j h2)) r.toNat (by omega)
  have h' : (x.getD i 0).toNat = r.toNat := h
  exact ⟨i, hi, by have := hx i hi; omega⟩
theorem rowOf_lt {x : List Int} {n : Nat} (hx : ∀ i, i < n → 0 ≤ x.getD i 0) (hp : IsPerm x n) {r : Int} (h0 : 0 ≤ r) (h1 : r < n) : rowOf x n r < n ∧ x.getD (rowOf x n r) 0 = r := by
  obtain ⟨i, hi, rfl⟩ := perm_surj hx hp h0 h1
  rw [rowOf_perm hp hi]
  exact ⟨hi, rfl⟩
theorem rowOf_inj {x : List Int} {n : Nat} (hx : ∀ i, i < n → 0 ≤ x.getD i 0) (hp : IsPerm x n) {r r' : Int} (h0 : 0 ≤ r) (h1 : r < n) (h0' : 0 ≤ r') (h1' : r' < n) (h : rowOf x n r = rowOf x n r') : r = r' := by
  rw [← (rowOf_lt hx hp h0 h1).2, ← (rowOf_lt hx hp h0' h1').2, h]
/-- The columns of the rows' marks. -/
def plc (x : List Int) (n : Nat) : List Int := (List.range 8).map fun (r : Nat) => (rowOf x n (r : Int) : Int)
def plcTo (x : List Int) (n k : Nat) : List Int := (List.range 8).map fun (r : Nat) => if rowOf x n (r : Int) < k ∧ x.getD (rowOf x n (r : Int)) 0 = (r : Int) then (rowOf x n (r : Int) : Int) else 0
theorem plc_len (x : List Int) (n : Nat) : (plc x n).length = 8 := by simp [plc]
theorem plcTo_len (x : List Int) (n k : Nat) : (plcTo x n k).length = 8 := by simp [plcTo]
theorem plc_get {x : List Int} {n r : Nat} (h : r < 8) : (plc x n).getD r 0 = (rowOf x n (r : Int) : Int) := by
  unfold plc
  rw [List.getD_eq_getElem?_getD, List.getElem?_map, List.getElem?_range h]; rfl
theorem plc_geti {x : List Int} {n : Nat} {r : Int} (h0 : 0 ≤ r) (h : r < 8) : (plc x n).getD r.toNat 0 = (rowOf x n r : Int) := by
  rw [plc_get (by omega)]
  rw [Int.toNat_of_nonneg h0]
theorem plcTo_zero (x : List Int) (n : Nat) : plcTo x n 0 = z8 := by
  unfold plcTo
  simp only [Nat.not_lt_zero, false_and, if_false]
  rfl
theorem plcTo_set {x : List Int} {n k : Nat} (hp : IsPerm x n) (hk : k < n) (hn : n ≤ 8) (h0 : 0 ≤ x.getD k 0) : (plcTo x n k).set (x.getD k 0).toNat (k : Int) = plcTo x n (k + 1) := by
  have h8 := hp.1 k hk
  apply List.ext_getElem?
  intro r
  unfold plcTo
  by_cases hr : r < 8
  · by_cases e : (x.getD k 0).toNat = r
    · subst e
      rw [List.getElem?_set_self (by simpa using hr), List.getElem?_map, List.getElem?_range hr]
      simp only [Option.map_some]
      have e1 : (((x.getD k 0).toNat : Nat) : Int) = x.getD k 0 := Int.toNat_of_nonneg h0
      rw [e1, rowOf_perm hp hk, if_pos ⟨Nat.lt_succ_self k, rfl⟩]
    · rw [List.getElem?_set_ne e, List.getElem?_map, List.getElem?_map, List.getElem?_range hr]
      simp only [Option.map_some]
      congr 1
      by_cases h : rowOf x n (r : Int) < k ∧ x.getD (rowOf x n (r : Int)) 0 = (r : Int)
      · rw [if_pos h, if_pos ⟨by omega, h.2⟩]
      · rw [if_neg h, if_neg fun h' => ?_]
        by_cases h3 : rowOf x n (r : Int) = k
        · rw [h3] at h'
          exact e (by omega)
        · exact h ⟨by omega, h'.2⟩
  · rw [List.getElem?_eq_none (by simp; omega), List.getElem?_eq_none (by simp; omega)]
theorem plcTo_full {x : List Int} {n : Nat} (hx : ∀ i, i < n → 0 ≤ x.getD i 0) (hp : IsPerm x n) : plcTo x n n = plc x n := by
  unfold plcTo plc
  apply List.map_congr_left
  intro r _
  by_cases hr : (r : Int) < n
  · have := rowOf_lt hx hp (r := (r : Int)) (by omega) hr
    rw [if_pos this]
  · have h0 : rowOf x n (r : Int) = 0 := rowOf_none fun l hl he => by have := hp.1 l hl; omega
    rw [h0]
    split <;> rfl

end Go.Proofs

/-
  What the functions of this part hand back: each as a plain function of its arguments. Conditions: none.
-/
namespace Go.Proofs
open Go.W8
set_option linter.unusedVariables false
set_option linter.unusedSimpArgs false
set_option linter.unusedSectionVars false
set_option maxRecDepth 8000
set_option maxHeartbeats 4000000
--@plain
/-- The labels of a walk that goes on till it meets a label. -/
def walkC (nx : Nat → Nat) (c : Int) : Nat → Nat → List Int → List Int
  | 0, _, l => l
  | f + 1, k, l => if l.getD k 0 < 0 then walkC nx c f (nx k) (l.set k c) else l
/-- The labels and their number, by the columns ahead of i. -/
def compTo (nx : Nat → Nat) : Nat → List Int × Nat
  | 0 => (List.replicate 8 (-1), 0)
  | i + 1 => if 0 ≤ (compTo nx i).1.getD i 0 then compTo nx i else (walkC nx (compTo nx i).2 8 i (compTo nx i).1, (compTo nx i).2 + 1)
def negs (l : List Int) : Nat := l.countP fun e => decide (e < 0)

theorem cgetD_set {l : List Int} {i j : Nat} {v : Int} (h : i < l.length) : (l.set i v).getD j 0 = if i = j then v else l.getD j 0 := by
  rw [List.getD_eq_getElem?_getD, List.getElem?_set]
  by_cases e : i = j
  · subst e; rw [if_pos rfl, if_pos h, if_pos rfl]; rfl
  · rw [if_neg e, if_neg e, List.getD_eq_getElem?_getD]

theorem negs_set {c : Int} (hc : 0 ≤ c) : ∀ (l : List Int) (k : Nat), k < l.length → l.getD k 0 < 0 → negs (l.set k c) + 1 = negs l
  | [], k, h, _ => by simp at h
  | a :: l, 0, _, h => by
    have h : a < 0 := by simpa using h
    have h' : ¬ c < 0 := by omega
    simp [negs, h, h']
  | a :: l, k + 1, h, h1 => by
    have ih := negs_set hc l k (by simpa using h) (by simpa using h1)
    unfold negs at ih ⊢
    rw [List.set_cons_succ, List.countP_cons, List.countP_cons]
    omega
theorem negs_le {l : List Int} (h : l.length = 8) : negs l ≤ 8 := by
  unfold negs
  rw [← h]
  exact List.countP_le_length
theorem negs_pos {l : List Int} {k : Nat} (h : k < l.length) (h' : l.getD k 0 < 0) : 0 < negs l := by
  have := negs_set (c := 0) (Int.le_refl _) l k h h'
  omega

theorem walkC_end {nx : Nat → Nat} {c : Int} {k : Nat} {l : List Int} (h : ¬ l.getD k 0 < 0) : ∀ f, walkC nx c f k l = l
  | 0 => rfl
  | f + 1 => by unfold walkC; rw [if_neg h]
theorem walkC_step {nx : Nat → Nat} {c : Int} {k f : Nat} {l : List Int} (h : l.getD k 0 < 0) : walkC nx c (f + 1) k l = walkC nx c f (nx k) (l.set k c) := by
  show (if _ then _ else _) = _
  rw [if_pos h]
theorem walkC_len {nx : Nat → Nat} {c : Int} : ∀ (f k : Nat) (l : List Int), (walkC nx c f k l).length = l.length
  | 0, _, _ => rfl
  | f + 1, k, l => by
    unfold walkC
    split
    · rw [walkC_len f, List.length_set]
    · rfl
theorem walkC_get {nx : Nat → Nat} {c : Int} (hc : 0 ≤ c) : ∀ (f k : Nat) (l : List Int) (i : Nat), (walkC nx c f k l).getD i 0 = l.getD i 0 ∨ ((walkC nx c f k l).getD i 0 = c ∧ l.getD i 0 < 0)
  | 0, _, _, _ => .inl rfl
  | f + 1, k, l, i => by
    unfold walkC
    split
    · rename_i hk
      by_cases hkl : k < l.length
      · rcases walkC_get hc f (nx k) (l.set k c) i with h | ⟨h, h'⟩
        · rw [h, cgetD_set hkl]
          by_cases e : k = i
          · subst e; rw [if_pos rfl]; exact .inr ⟨rfl, hk⟩
          · rw [if_neg e]; exact .inl rfl
        · rw [cgetD_set hkl] at h'
          by_cases e : k = i
          · rw [if_pos e] at h'; omega
          · rw [if_neg e] at h'; exact .inr ⟨h, h'⟩
      · rw [List.set_eq_of_length_le (by omega)]
        exact walkC_get hc f (nx k) l i
    · exact .inl rfl
theorem walkC_self {nx : Nat → Nat} {c : Int} (hc : 0 ≤ c) {f k : Nat} {l : List Int} (hk : k < l.length) (h : l.getD k 0 < 0) : (walkC nx c (f + 1) k l).getD k 0 = c := by
  rw [walkC_step h]
  rcases walkC_get (nx := nx) hc f (nx k) (l.set k c) k with h | ⟨h, h'⟩
  · rw [h, cgetD_set hk, if_pos rfl]
  · exact h

theorem compTo_len (nx : Nat → Nat) : ∀ i, (compTo nx i).1.length = 8
  | 0 => rfl
  | i + 1 => by
    unfold compTo
    split
    · exact compTo_len nx i
    · show (walkC _ _ _ _ _).length = 8
      rw [walkC_len]; exact compTo_len nx i
theorem compTo_count (nx : Nat → Nat) : ∀ i, (compTo nx i).2 ≤ i
  | 0 => Nat.le_refl _
  | i + 1 => by
    have ih := compTo_count nx i
    unfold compTo
    split
    · omega
    · show (compTo nx i).2 + 1 ≤ _; omega
theorem compTo_bound (nx : Nat → Nat) : ∀ i j, j < 8 → -1 ≤ (compTo nx i).1.getD j 0 ∧ (compTo nx i).1.getD j 0 < ((compTo nx i).2 : Int)
  | 0, j, h => by
    have : (compTo nx 0).1.getD j 0 = -1 := by
      show (List.replicate 8 (-1 : Int)).getD j 0 = -1
      rw [List.getD_eq_getElem?_getD, List.getElem?_replicate_of_lt h]; rfl
    rw [this]
    show _ ∧ (-1 : Int) < ((0 : Nat) : Int)
    omega
  | i + 1, j, h => by
    have ih := compTo_bound nx i j h
    unfold compTo
    split
    · exact ih
    · show _ ≤ (walkC _ _ _ _ _).getD j 0 ∧ (walkC _ _ _ _ _).getD j 0 < (((compTo nx i).2 + 1 : Nat) : Int)
      rcases walkC_get (nx := nx) (c := ((compTo nx i).2 : Int)) (by omega) 8 i (compTo nx i).1 j with h1 | ⟨h1, _⟩
      · rw [h1]; omega
      · rw [h1]; omega
theorem compTo_done (nx : Nat → Nat) : ∀ i, i ≤ 8 → ∀ j, j < i → 0 ≤ (compTo nx i).1.getD j 0
  | 0, _, j, h => absurd h (Nat.not_lt_zero _)
  | i + 1, hi, j, h => by
    unfold compTo
    split
    · rename_i h0
      rcases Nat.lt_succ_iff_lt_or_eq.1 h with h1 | rfl
      · exact compTo_done nx i (by omega) j h1
      · exact h0
    · rename_i h0
      show 0 ≤ (walkC _ _ _ _ _).getD j 0
      rcases Nat.lt_succ_iff_lt_or_eq.1 h with h1 | rfl
      · have := compTo_done nx i (by omega) j h1
        rcases walkC_get (nx := nx) (c := ((compTo nx i).2 : Int)) (by omega) 8 i (compTo nx i).1 j with h1 | ⟨h1, _⟩
        · rw [h1]; exact this
        · rw [h1]; omega
      · rw [walkC_self (by omega) (by rw [compTo_len]; omega) (by omega)]
        omega
theorem compTo_same {nx : Nat → Nat} {i : Nat} (h : 0 ≤ (compTo nx i).1.getD i 0) : compTo nx (i + 1) = compTo nx i := by
  show (if _ then _ else _) = _
  rw [if_pos h]
theorem compTo_more {nx : Nat → Nat} {i : Nat} (h : ¬ 0 ≤ (compTo nx i).1.getD i 0) : compTo nx (i + 1) = (walkC nx (compTo nx i).2 8 i (compTo nx i).1, (compTo nx i).2 + 1) := by
  show (if _ then _ else _) = _
  rw [if_neg h]

/-- The next column of a component. -/
def nextOf (n : Nat) (x o : List Int) (k : Nat) : Nat := rowOf x n (o.getD k 0)
def comps (n : Nat) (x o : List Int) : List Int × Nat := compTo (nextOf n x o) n
/-- All entries one more. -/
def incL (l : List Int) : List Int := l.map (· + 1)
theorem incL_len (l : List Int) : (incL l).length = l.length := by simp [incL]
theorem incL_get {l : List Int} {i : Nat} (h : i < l.length) : (incL l).getD i 0 = l.getD i 0 + 1 := by
  unfold incL
  rw [List.getD_eq_getElem?_getD, List.getElem?_map, List.getD_eq_getElem?_getD, List.getElem?_eq_getElem h]
  rfl
theorem incL_set {l : List Int} {i : Nat} {v : Int} : (incL l).set i (v + 1) = incL (l.set i v) := by
  unfold incL
  rw [List.map_set]
/-- The first k entries one less again. -/
def decTo (l : List Int) (k : Nat) : List Int := (List.range 8).map fun j => if j < k then l.getD j 0 else l.getD j 0 + 1
theorem decTo_len (l : List Int) (k : Nat) : (decTo l k).length = 8 := by simp [decTo]
theorem decTo_get {l : List Int} {k j : Nat} (h : j < 8) : (decTo l k).getD j 0 = if j < k then l.getD j 0 else l.getD j 0 + 1 := by
  unfold decTo
  rw [List.getD_eq_getElem?_getD, List.getElem?_map, List.getElem?_range h]; rfl
theorem decTo_zero {l : List Int} (h : l.length = 8) : decTo l 0 = incL l := by
  apply List.ext_getElem?
  intro j
  unfold decTo incL
  rw [List.getElem?_map, List.getElem?_map]
  by_cases hj : j < 8
  · rw [List.getElem?_range hj, List.getElem?_eq_getElem (by omega)]
    simp [List.getD_eq_getElem?_getD, List.getElem?_eq_getElem (show j < l.length by omega)]
  · rw [List.getElem?_eq_none (by simp; omega), List.getElem?_eq_none (by omega)]; rfl
theorem decTo_set {l : List Int} {k : Nat} (hk : k < 8) : (decTo l k).set k (l.getD k 0) = decTo l (k + 1) := by
  apply List.ext_getElem?
  intro j
  unfold decTo
  by_cases hj : j < 8
  · by_cases e : k = j
    · subst e
      rw [List.getElem?_set_self (by simpa using hj), List.getElem?_map, List.getElem?_range hj]
      simp
    · rw [List.getElem?_set_ne e, List.getElem?_map, List.getElem?_map, List.getElem?_range hj]
      simp only [Option.map_some]
      by_cases h : j < k
      · rw [if_pos h, if_pos (by omega)]
      · rw [if_neg h, if_neg (by omega)]
  · rw [List.getElem?_eq_none (by simp; omega), List.getElem?_eq_none (by simp; omega)]
end Go.Proofs

/-
  What the functions of this part hand back: each as a plain function of its arguments. Conditions: none.
-/
namespace Go.Proofs
open Go.W8
set_option linter.unusedVariables false
set_option linter.unusedSimpArgs false
set_option linter.unusedSectionVars false
set_option maxRecDepth 8000
set_option maxHeartbeats 4000000
theorem places_c (n : Nat) (x o y : List Int) (hx : Bytes8 x) (ho : Bytes8 o) (hy : Bytes8 y) (hn : n ≤ 8) (hp : IsPerm y n) : Gives Try.prog 166 #[.agg (gc (n : Int) x o).toArray, .agg (ints .u8 y).toArray] (.agg (ints .i64 (plc y n)).toArray) := by
  have hl := hx.len
  have hm := ho.len
  have hz := hy.len
  have pl := plcTo_len y n
  skip
  refine Gives.of fun w => ?_
  refine acall_of (N := 20) (c := _) (rs := [.cell 4 100]) (args := [_, _]) Try.func166 rfl (by decide) rfl rfl (Nat.le_of_ble_eq_true rfl) ?_
  refine Cd.rs [2, 3, 4] fun K hK => ?_
  simp (maxSteps := 2000000) (disch := first | (simp only [E4, hl, hm, hz, pl] <;> omega) | omega | fail) only [↓E2, E3, bare, bareJ, ↓E0, E1, env0, envN, evOps, evOp, evQs, evQ, evV, setD, pureOp, ev, upd, updL, Value.cells, hav, ↓reduceIte, Zj, Zk, Nat.reduceAdd, Nat.reduceLT, Nat.reduceEqDiff, Nat.reduceMul, Nat.reduceLeDiff, if_true, Zn, reduceCtorEq, ZA, eq_self, Int.reduceLE, Int.reduceLT, Int.reduceToNat, ne_eq, Nat.reduceSub, Tzero100, hl, hm, hz, pl]
  repeat refine And.intro (by omega) ?_
  intro b1 hb1
  intro b2 hb2
  have nb2_b1 := hb2.ne
  intro b3 hb3
  have nb3_b2 := hb3.ne
  have nb3_b1 := hb3.tail.ne
  try simp (maxSteps := 2000000) (disch := first | (simp only [E4, hl, hm, hz, pl] <;> omega) | omega | fail) only [↓E2, E3, bare, bareJ, ↓E0, E1, env0, envN, evOps, evOp, evQs, evQ, evV, setD, pureOp, ev, upd, updL, Value.cells, hav, ↓reduceIte, Zj, Zk, Nat.reduceAdd, Nat.reduceLT, Nat.reduceEqDiff, Nat.reduceMul, Nat.reduceLeDiff, if_true, Zn, reduceCtorEq, ZA, eq_self, Int.reduceLE, Int.reduceLT, Int.reduceToNat, ne_eq, Nat.reduceSub, Tzero100, hl, hm, hz, pl, nb2_b1, nb3_b2, nb3_b1]
  repeat refine And.intro (by omega) ?_
  intro g
  simp only [List.map_cons, List.map_nil, updL, upd, Nat.reduceEqDiff, if_true, if_false, ↓reduceIte]
  refine hK _ _ ?_; clear hK K
  refine Cd.rs [2, 3, 4, 5] fun K hK => ?_
  simp (maxSteps := 2000000) (disch := first | (simp only [E4, hl, hm, hz, pl] <;> omega) | omega | fail) only [↓E2, E3, bare, bareJ, ↓E0, E1, evP, env0, envN, evOps, evOp, evQs, evQ, evV, setD, pureOp, ev, upd, updL, cellAt, cellsAt, findB, setB, fillL, buildV, Value.cells, hav, ↓reduceIte, Zj, Zk, Nat.reduceAdd, Nat.reduceLT, Nat.reduceEqDiff, Nat.reduceMul, Nat.reduceLeDiff, if_true, Zn, reduceCtorEq, ZA, eq_self, Int.reduceLE, Int.reduceLT, Int.reduceToNat, ne_eq, Nat.reduceSub, Tbld100, Tst100, Tzero100, hl, hm, hz, pl, nb2_b1, nb3_b2, nb3_b1]
  repeat refine And.intro (by omega) ?_
  intro b4 hb4
  have nb4_b3 := hb4.ne
  have nb4_b2 := hb4.tail.ne
  have nb4_b1 := hb4.tail.tail.ne
  try simp (maxSteps := 2000000) (disch := first | (simp only [E4, hl, hm, hz, pl] <;> omega) | omega | fail) only [↓E2, E3, bare, bareJ, ↓E0, E1, evP, env0, envN, evOps, evOp, evQs, evQ, evV, setD, pureOp, ev, upd, updL, cellAt, cellsAt, findB, setB, fillL, buildV, Value.cells, hav, ↓reduceIte, Zj, Zk, Nat.reduceAdd, Nat.reduceLT, Nat.reduceEqDiff, Nat.reduceMul, Nat.reduceLeDiff, if_true, Zn, reduceCtorEq, ZA, eq_self, Int.reduceLE, Int.reduceLT, Int.reduceToNat, ne_eq, Nat.reduceSub, Tbld100, Tst100, Tzero100, hl, hm, hz, pl, nb2_b1, nb3_b2, nb3_b1, nb4_b3, nb4_b2, nb4_b1]
  repeat refine And.intro (by omega) ?_
  intro g
  simp only [List.map_cons, List.map_nil, updL, upd, Nat.reduceEqDiff, if_true, if_false, ↓reduceIte]
  refine hK _ _ ?_; clear hK K
  refine Cd.seq ?_
  refine Cd.rs [3, 4, 5, 9, 10] fun K hK => ?_
  simp (maxSteps := 2000000) (disch := first | (simp only [E4, hl, hm, hz, pl] <;> omega) | omega | fail) only [↓E2, E3, bare, bareJ, ↓E0, E1, env0, envN, evOps, evOp, evQs, evQ, evV, setD, pureOp, ev, upd, updL, cellAt, cellsAt, findB, setB, hav, ↓reduceIte, Zj, Zk, Nat.reduceAdd, Nat.reduceLT, Nat.reduceEqDiff, Nat.reduceMul, Nat.reduceLeDiff, if_true, Zn, reduceCtorEq, ZA, eq_self, Int.reduceLE, Int.reduceLT, Int.reduceToNat, ne_eq, Nat.reduceSub, Tld32, hl, hm, hz, pl, nb2_b1, nb3_b2, nb3_b1, nb4_b3, nb4_b2, nb4_b1]
  refine callK_gives (n_c _ _ _ hl hm) ?_
  simp (maxSteps := 2000000) (disch := first | (simp only [E4, hl, hm, hz, pl] <;> omega) | omega | fail) only [↓E2, E3, bare, bareJ, ↓E0, E1, env0, envN, evOps, evOp, evQs, evQ, evV, setD, pureOp, ev, upd, updL, cellAt, cellsAt, findB, setB, hav, ↓reduceIte, Zj, Zk, Nat.reduceAdd, Nat.reduceLT, Nat.reduceEqDiff, Nat.reduceMul, Nat.reduceLeDiff, if_true, Zn, reduceCtorEq, ZA, eq_self, Int.reduceLE, Int.reduceLT, Int.reduceToNat, ne_eq, Nat.reduceSub, Tld32, hl, hm, hz, pl, nb2_b1, nb3_b2, nb3_b1, nb4_b3, nb4_b2, nb4_b1]
  repeat refine And.intro (by omega) ?_
  intro g
  simp only [List.map_cons, List.map_nil, updL, upd, Nat.reduceEqDiff, if_true, if_false, ↓reduceIte]
  refine hK _ _ ?_; clear hK K
  refine Cd.block ?_
  refine Cd.loop (fun m ρ M => ∃ g k, k + m = n ∧ ρ = updL [(3, .pointer (some ⟨b2, 0, none⟩)), (4, .pointer (some ⟨b3, 0, none⟩)), (5, .pointer (some ⟨b4, 0, none⟩)), (9, .int .i64 (n : Int)), (10, .int .i64 (k : Int))] g ∧
    M = [(b4, ints .i64 (plcTo y n k)), (b3, ints .i64 z8), (b2, ints .u8 y), (b1, gc (n : Int) x o)]) n ⟨_, 0, Nat.zero_add _, rfl, by rw [plcTo_zero]⟩ ?_
  rintro m ρ M ⟨g, k, hk, rfl, rfl⟩
  refine Cd.rs [3, 4, 5, 9, 10, 11] fun K hK => ?_
  simp (maxSteps := 2000000) (disch := first | (simp only [E4, hl, hm, hz, pl] <;> omega) | omega | fail) only [↓E2, E3, bare, bareJ, ↓E0, E1, env0, envN, evOps, evOp, evQs, evQ, evV, setD, pureOp, ev, upd, updL, binW, eqOp, binV, intOp, shOp, boolOp, hav, eqL, SameI, strOp, ↓reduceIte, Zj, Zk, Nat.reduceAdd, Nat.reduceLT, Nat.reduceEqDiff, Nat.reduceMul, Nat.reduceLeDiff, if_true, Zn, reduceCtorEq, ZA, eq_self, Int.reduceLE, Int.reduceLT, Int.reduceToNat, ne_eq, Nat.reduceSub, hl, hm, hz, pl, nb2_b1, nb3_b2, nb3_b1, nb4_b3, nb4_b2, nb4_b1]
  repeat refine And.intro (by omega) ?_
  intro g
  simp only [List.map_cons, List.map_nil, updL, upd, Nat.reduceEqDiff, if_true, if_false, ↓reduceIte]
  refine hK _ _ ?_; clear hK K
  refine Cd.seq ?_
  refine Cd.condd rfl (fun h1 => ?_) (fun h1 => ?_)
  · have c1 := bytes_get hy (i := k) (by omega)
    have c2 := hp.1 k (by omega)
    refine Cd.skip ?_
    refine thenN ?_
    refine Cd.seq ?_
    refine Cd.block ?_
    refine Cd.rs [3, 4, 5, 6, 9, 10] fun K hK => ?_
    simp (maxSteps := 2000000) (disch := first | (simp only [E4, hl, hm, hz, pl] <;> omega) | omega | fail) only [↓E2, E3, bare, bareJ, ↓E0, E1, env0, envN, evOps, evOp, evQs, evQ, evV, setD, pureOp, ev, upd, updL, hav, ↓reduceIte, Zj, Zk, Nat.reduceAdd, Nat.reduceLT, Nat.reduceEqDiff, Nat.reduceMul, Nat.reduceLeDiff, if_true, Zn, reduceCtorEq, ZA, eq_self, Int.reduceLE, Int.reduceLT, Int.reduceToNat, ne_eq, Nat.reduceSub, hl, hm, hz, pl, nb2_b1, nb3_b2, nb3_b1, nb4_b3, nb4_b2, nb4_b1]
    repeat refine And.intro (by omega) ?_
    intro g
    simp only [List.map_cons, List.map_nil, updL, upd, Nat.reduceEqDiff, if_true, if_false, ↓reduceIte]
    refine hK _ _ ?_; clear hK K
    refine Cd.rr [3, 4, 5, 9, 10] fun K hK => ?_
    simp (maxSteps := 2000000) (disch := first | (simp only [E4, hl, hm, hz, pl] <;> omega) | omega | fail) only [↓E2, E3, bare, bareJ, ↓E0, E1, env0, envN, evOps, evOp, evQs, evQ, evV, setD, pureOp, ev, upd, updL, indexAddrV, cellAt, cellsAt, findB, setB, Value.cells, hav, ↓reduceIte, Zj, Zk, Nat.reduceAdd, Nat.reduceLT, Nat.reduceEqDiff, Nat.reduceMul, Nat.reduceLeDiff, if_true, Zn, reduceCtorEq, ZA, eq_self, Int.reduceLE, Int.reduceLT, Int.reduceToNat, ne_eq, Nat.reduceSub, Tarr100, Tarr30, Tld5, Tst3, hl, hm, hz, pl, nb2_b1, nb3_b2, nb3_b1, nb4_b3, nb4_b2, nb4_b1]
    repeat refine And.intro (by omega) ?_
    rw [plcTo_set hp (by omega) hn c1.1]
    repeat refine And.intro (by omega) ?_
    intro g
    simp only [List.map_cons, List.map_nil, updL, upd, Nat.reduceEqDiff, if_true, if_false, ↓reduceIte]
    refine hK _ _ ?_; clear hK K
    refine inBN ?_
    refine thenN ?_
    refine Cd.rr [3, 4, 5, 9, 10] fun K hK => ?_
    simp (maxSteps := 2000000) (disch := first | (simp only [E4, hl, hm, hz, pl] <;> omega) | omega | fail) only [↓E2, E3, bare, bareJ, ↓E0, E1, env0, envN, evOps, evOp, evQs, evQ, evV, setD, pureOp, ev, upd, updL, binW, eqOp, binV, intOp, shOp, boolOp, hav, eqL, SameI, strOp, ↓reduceIte, Zj, Zk, Nat.reduceAdd, Nat.reduceLT, Nat.reduceEqDiff, Nat.reduceMul, Nat.reduceLeDiff, if_true, Zn, reduceCtorEq, ZA, eq_self, Int.reduceLE, Int.reduceLT, Int.reduceToNat, ne_eq, Nat.reduceSub, hl, hm, hz, pl, nb2_b1, nb3_b2, nb3_b1, nb4_b3, nb4_b2, nb4_b1]
    repeat refine And.intro (by omega) ?_
    intro g
    simp only [List.map_cons, List.map_nil, updL, upd, Nat.reduceEqDiff, if_true, if_false, ↓reduceIte]
    refine hK _ _ ?_; clear hK K
    exact roundN (m := m - 1) (by omega) ⟨_, k + 1, by omega, rfl, rfl⟩
  · refine Cd.exit (thenX (roundX (inBX ?_)))
    refine thenN ?_
    obtain rfl : k = n := by omega
    rw [plcTo_full (fun i hi => (bytes_get hy (by omega)).1) hp]
    have pl := plc_len y k
    skip
    refine Cd.rs [4] fun K hK => ?_
    simp (maxSteps := 2000000) (disch := first | (simp only [E4, hl, hm, hz, pl] <;> omega) | omega | fail) only [↓E2, E3, bare, bareJ, ↓E0, E1, env0, envN, evOps, evOp, evQs, evQ, evV, setD, pureOp, ev, upd, updL, cellAt, cellsAt, findB, setB, Value.cells, hav, ↓reduceIte, Zj, Zk, Nat.reduceAdd, Nat.reduceLT, Nat.reduceEqDiff, Nat.reduceMul, Nat.reduceLeDiff, if_true, Zn, reduceCtorEq, ZA, eq_self, Int.reduceLE, Int.reduceLT, Int.reduceToNat, ne_eq, Nat.reduceSub, Tld100, Tst100, hl, hm, hz, pl, nb2_b1, nb3_b2, nb3_b1, nb4_b3, nb4_b2, nb4_b1]
    repeat refine And.intro (by omega) ?_
    intro g
    simp only [List.map_cons, List.map_nil, updL, upd, Nat.reduceEqDiff, if_true, if_false, ↓reduceIte]
    refine hK _ _ ?_; clear hK K
    refine Cd.ret ?_
    simp (maxSteps := 2000000) (disch := first | (simp only [E4, hl, hm, hz, pl] <;> omega) | omega | fail) only [↓E2, E3, bare, bareJ, ↓E0, E1, evP, evPlan, env0, envN, evOps, evOp, evQs, evQ, evV, setD, pureOp, ev, upd, updL, gate, binW, eqOp, binV, intOp, shOp, boolOp, unV, convV, nilV, fieldAddrV, indexAddrV, extractV, cellAt, cellsAt, findB, setB, fillL, buildV, Value.cells, lenV, minV, maxV, hav, sliceV, loV, hiV, bslQ, mksQ, appQ, partsOk, partsCells, delB, eqL, SameI, strOp, apzQ, cvtQ, capV, ↓reduceIte, Zj, Zk, Nat.reduceAdd, Nat.reduceLT, Nat.reduceEqDiff, Nat.reduceMul, Nat.reduceLeDiff, if_true, Zn, reduceCtorEq, ZA, eq_self, Int.reduceLE, Int.reduceLT, Int.reduceToNat, ne_eq, Nat.reduceSub, Tld100, hl, hm, hz, pl, nb2_b1, nb3_b2, nb3_b1, nb4_b3, nb4_b2, nb4_b1]

end Go.Proofs

/-
  What the functions of this part hand back: each as a plain function of its arguments. Conditions: none.
-/
namespace Go.Proofs
open Go.W8
set_option linter.unusedVariables false
set_option linter.unusedSimpArgs false
set_option linter.unusedSectionVars false
set_option maxRecDepth 8000
set_option maxHeartbeats 4000000
theorem component_c (n : Nat) (x o : List Int) (hx : Bytes8 x) (ho : Bytes8 o) (hn : n ≤ 8) (hp : IsPerm x n) (hq : IsPerm o n) : Gives Try.prog 104 #[.agg (gc (n : Int) x o).toArray] (.tuple #[.agg (ints .i64 (decTo (comps n x o).1 n)).toArray, .int .i64 ((comps n x o).2 : Int)]) := by
  have hl := hx.len
  have hm := ho.len
  have pl := plc_len x n
  skip
  refine Gives.of fun w => ?_
  refine acall_of (N := 54) (c := _) (rs := [.cell 2 100, .tmp 3]) (args := [_]) Try.func104 rfl (by decide) rfl rfl (Nat.le_of_ble_eq_true rfl) ?_
  refine Cd.rs [1, 2] fun K hK => ?_
  simp (maxSteps := 2000000) (disch := first | (simp only [E4, hl, hm, pl] <;> omega) | omega | fail) only [↓E2, E3, bare, bareJ, ↓E0, E1, env0, envN, evOps, evOp, evQs, evQ, evV, setD, pureOp, ev, upd, updL, Value.cells, hav, ↓reduceIte, Zj, Zk, Nat.reduceAdd, Nat.reduceLT, Nat.reduceEqDiff, Nat.reduceMul, Nat.reduceLeDiff, if_true, Zn, reduceCtorEq, ZA, eq_self, Int.reduceLE, Int.reduceLT, Int.reduceToNat, ne_eq, Nat.reduceSub, Tzero100, hl, hm, pl]
  repeat refine And.intro (by omega) ?_
  intro b1 hb1
  intro b2 hb2
  have nb2_b1 := hb2.ne
  try simp (maxSteps := 2000000) (disch := first | (simp only [E4, hl, hm, pl] <;> omega) | omega | fail) only [↓E2, E3, bare, bareJ, ↓E0, E1, env0, envN, evOps, evOp, evQs, evQ, evV, setD, pureOp, ev, upd, updL, Value.cells, hav, ↓reduceIte, Zj, Zk, Nat.reduceAdd, Nat.reduceLT, Nat.reduceEqDiff, Nat.reduceMul, Nat.reduceLeDiff, if_true, Zn, reduceCtorEq, ZA, eq_self, Int.reduceLE, Int.reduceLT, Int.reduceToNat, ne_eq, Nat.reduceSub, Tzero100, hl, hm, pl, nb2_b1]
  repeat refine And.intro (by omega) ?_
  intro g
  simp only [List.map_cons, List.map_nil, updL, upd, Nat.reduceEqDiff, if_true, if_false, ↓reduceIte]
  refine hK _ _ ?_; clear hK K
  refine Cd.rs [1, 2, 4, 5, 6] fun K hK => ?_
  simp (maxSteps := 2000000) (disch := first | (simp only [E4, hl, hm, pl] <;> omega) | omega | fail) only [↓E2, E3, bare, bareJ, ↓E0, E1, evP, env0, envN, evOps, evOp, evQs, evQ, evV, setD, pureOp, ev, upd, updL, fieldAddrV, cellAt, cellsAt, findB, setB, fillL, buildV, Value.cells, hav, ↓reduceIte, Zj, Zk, Nat.reduceAdd, Nat.reduceLT, Nat.reduceEqDiff, Nat.reduceMul, Nat.reduceLeDiff, if_true, Zn, reduceCtorEq, ZA, eq_self, Int.reduceLE, Int.reduceLT, Int.reduceToNat, ne_eq, Nat.reduceSub, Tbld100, Tfld32_1, Tld30, Tld32, Tst100, Tzero100, hl, hm, pl, nb2_b1]
  refine callK_gives (places_c n x o x hx ho hx hn hp) ?_
  simp (maxSteps := 2000000) (disch := first | (simp only [E4, hl, hm, pl] <;> omega) | omega | fail) only [↓E2, E3, bare, bareJ, ↓E0, E1, evP, env0, envN, evOps, evOp, evQs, evQ, evV, setD, pureOp, ev, upd, updL, fieldAddrV, cellAt, cellsAt, findB, setB, fillL, buildV, Value.cells, hav, ↓reduceIte, Zj, Zk, Nat.reduceAdd, Nat.reduceLT, Nat.reduceEqDiff, Nat.reduceMul, Nat.reduceLeDiff, if_true, Zn, reduceCtorEq, ZA, eq_self, Int.reduceLE, Int.reduceLT, Int.reduceToNat, ne_eq, Nat.reduceSub, Tbld100, Tfld32_1, Tld30, Tld32, Tst100, Tzero100, hl, hm, pl, nb2_b1]
  repeat refine And.intro (by omega) ?_
  intro b3 hb3
  have nb3_b2 := hb3.ne
  have nb3_b1 := hb3.tail.ne
  intro b4 hb4
  have nb4_b3 := hb4.ne
  have nb4_b2 := hb4.tail.ne
  have nb4_b1 := hb4.tail.tail.ne
  try simp (maxSteps := 2000000) (disch := first | (simp only [E4, hl, hm, pl] <;> omega) | omega | fail) only [↓E2, E3, bare, bareJ, ↓E0, E1, evP, env0, envN, evOps, evOp, evQs, evQ, evV, setD, pureOp, ev, upd, updL, fieldAddrV, cellAt, cellsAt, findB, setB, fillL, buildV, Value.cells, hav, ↓reduceIte, Zj, Zk, Nat.reduceAdd, Nat.reduceLT, Nat.reduceEqDiff, Nat.reduceMul, Nat.reduceLeDiff, if_true, Zn, reduceCtorEq, ZA, eq_self, Int.reduceLE, Int.reduceLT, Int.reduceToNat, ne_eq, Nat.reduceSub, Tbld100, Tfld32_1, Tld30, Tld32, Tst100, Tzero100, hl, hm, pl, nb2_b1, nb3_b2, nb3_b1, nb4_b3, nb4_b2, nb4_b1]
  repeat refine And.intro (by omega) ?_
  intro g
  simp only [List.map_cons, List.map_nil, updL, upd, Nat.reduceEqDiff, if_true, if_false, ↓reduceIte]
  refine hK _ _ ?_; clear hK K
  refine Cd.seq ?_
  refine Cd.rs [1, 2, 4, 5, 6, 16, 17] fun K hK => ?_
  simp (maxSteps := 2000000) (disch := first | (simp only [E4, hl, hm, pl] <;> omega) | omega | fail) only [↓E2, E3, bare, bareJ, ↓E0, E1, env0, envN, evOps, evOp, evQs, evQ, evV, setD, pureOp, ev, upd, updL, cellAt, cellsAt, findB, setB, hav, ↓reduceIte, Zj, Zk, Nat.reduceAdd, Nat.reduceLT, Nat.reduceEqDiff, Nat.reduceMul, Nat.reduceLeDiff, if_true, Zn, reduceCtorEq, ZA, eq_self, Int.reduceLE, Int.reduceLT, Int.reduceToNat, ne_eq, Nat.reduceSub, Tld32, hl, hm, pl, nb2_b1, nb3_b2, nb3_b1, nb4_b3, nb4_b2, nb4_b1]
  refine callK_gives (n_c _ _ _ hl hm) ?_
  simp (maxSteps := 2000000) (disch := first | (simp only [E4, hl, hm, pl] <;> omega) | omega | fail) only [↓E2, E3, bare, bareJ, ↓E0, E1, env0, envN, evOps, evOp, evQs, evQ, evV, setD, pureOp, ev, upd, updL, cellAt, cellsAt, findB, setB, hav, ↓reduceIte, Zj, Zk, Nat.reduceAdd, Nat.reduceLT, Nat.reduceEqDiff, Nat.reduceMul, Nat.reduceLeDiff, if_true, Zn, reduceCtorEq, ZA, eq_self, Int.reduceLE, Int.reduceLT, Int.reduceToNat, ne_eq, Nat.reduceSub, Tld32, hl, hm, pl, nb2_b1, nb3_b2, nb3_b1, nb4_b3, nb4_b2, nb4_b1]
  repeat refine And.intro (by omega) ?_
  intro g
  simp only [List.map_cons, List.map_nil, updL, upd, Nat.reduceEqDiff, if_true, if_false, ↓reduceIte]
  refine hK _ _ ?_; clear hK K
  refine Cd.block ?_
  refine Cd.loop (fun m ρ M => ∃ g k, k + m = n ∧ ρ = updL ([(1, .pointer (some ⟨b1, 0, none⟩)), (2, .pointer (some ⟨b2, 0, none⟩)), (4, .pointer (some ⟨b3, 0, none⟩)), (5, .int .i64 ((compTo (nextOf n x o) k).2 : Int)), (6, .pointer (some ⟨b4, 0, none⟩)), (16, .int .i64 (n : Int)), (17, .int .i64 (k : Int))]) g ∧ M = [(b4, ints .i64 (plc x n)), (b3, ints .i64 (incL (compTo (nextOf n x o) k).1)), (b2, ints .i64 z8), (b1, gc (n : Int) x o)]) n ⟨_, 0, Nat.zero_add _, rfl, rfl⟩ ?_
  rintro m ρ M ⟨g, k, hk, rfl, rfl⟩
  have cl := compTo_len (nextOf n x o) k
  have il := incL_len (compTo (nextOf n x o) k).1
  rw [cl] at il
  have cc := compTo_count (nextOf n x o) k
  skip
  refine Cd.rs [1, 2, 4, 5, 6, 16, 17, 18] fun K hK => ?_
  simp (maxSteps := 2000000) (disch := first | (simp only [E4, hl, hm, pl, cl, il] <;> omega) | omega | fail) only [↓E2, E3, bare, bareJ, ↓E0, E1, env0, envN, evOps, evOp, evQs, evQ, evV, setD, pureOp, ev, upd, updL, binW, eqOp, binV, intOp, shOp, boolOp, hav, eqL, SameI, strOp, ↓reduceIte, Zj, Zk, Nat.reduceAdd, Nat.reduceLT, Nat.reduceEqDiff, Nat.reduceMul, Nat.reduceLeDiff, if_true, Zn, reduceCtorEq, ZA, eq_self, Int.reduceLE, Int.reduceLT, Int.reduceToNat, ne_eq, Nat.reduceSub, hl, hm, pl, nb2_b1, nb3_b2, nb3_b1, nb4_b3, nb4_b2, nb4_b1, cl, il]
  repeat refine And.intro (by omega) ?_
  intro g
  simp only [List.map_cons, List.map_nil, updL, upd, Nat.reduceEqDiff, if_true, if_false, ↓reduceIte]
  refine hK _ _ ?_; clear hK K
  refine Cd.seq ?_
  refine Cd.condd rfl (fun h1 => ?_) (fun h1 => ?_)
  · have cg := incL_get (l := (compTo (nextOf n x o) k).1) (i := k) (by omega)
    skip
    have cb := compTo_bound (nextOf n x o) k k (by omega)
    refine Cd.skip ?_
    refine thenN ?_
    refine Cd.seq ?_
    refine Cd.block ?_
    refine Cd.rs [1, 2, 4, 5, 6, 7, 16, 17] fun K hK => ?_
    simp (maxSteps := 2000000) (disch := first | (simp only [E4, hl, hm, pl, cl, il, cg] <;> omega) | omega | fail) only [↓E2, E3, bare, bareJ, ↓E0, E1, env0, envN, evOps, evOp, evQs, evQ, evV, setD, pureOp, ev, upd, updL, hav, ↓reduceIte, Zj, Zk, Nat.reduceAdd, Nat.reduceLT, Nat.reduceEqDiff, Nat.reduceMul, Nat.reduceLeDiff, if_true, Zn, reduceCtorEq, ZA, eq_self, Int.reduceLE, Int.reduceLT, Int.reduceToNat, ne_eq, Nat.reduceSub, hl, hm, pl, nb2_b1, nb3_b2, nb3_b1, nb4_b3, nb4_b2, nb4_b1, cl, il, cg]
    repeat refine And.intro (by omega) ?_
    intro g
    simp only [List.map_cons, List.map_nil, updL, upd, Nat.reduceEqDiff, if_true, if_false, ↓reduceIte]
    refine hK _ _ ?_; clear hK K
    refine Cd.seq ?_
    refine Cd.rs [1, 2, 4, 5, 6, 7, 16, 17, 23] fun K hK => ?_
    simp (maxSteps := 2000000) (disch := first | (simp only [E4, hl, hm, pl, cl, il, cg] <;> omega) | omega | fail) only [↓E2, E3, bare, bareJ, ↓E0, E1, env0, envN, evOps, evOp, evQs, evQ, evV, setD, pureOp, ev, upd, updL, binW, eqOp, binV, intOp, shOp, boolOp, indexAddrV, cellAt, cellsAt, findB, hav, eqL, SameI, strOp, ↓reduceIte, Zj, Zk, Nat.reduceAdd, Nat.reduceLT, Nat.reduceEqDiff, Nat.reduceMul, Nat.reduceLeDiff, if_true, Zn, reduceCtorEq, ZA, eq_self, Int.reduceLE, Int.reduceLT, Int.reduceToNat, ne_eq, Nat.reduceSub, Tarr100, Tld3, hl, hm, pl, nb2_b1, nb3_b2, nb3_b1, nb4_b3, nb4_b2, nb4_b1, cl, il, cg]
    repeat refine And.intro (by omega) ?_
    repeat refine And.intro (by omega) ?_
    intro g
    simp only [List.map_cons, List.map_nil, updL, upd, Nat.reduceEqDiff, if_true, if_false, ↓reduceIte]
    refine hK _ _ ?_; clear hK K
    refine Cd.cond rfl (fun h2 => ?_) (fun h2 => ?_)
    · have h2 : 0 ≤ (compTo (nextOf n x o) k).1.getD k 0 := by simp only [decide_eq_true_eq, decide_eq_false_iff_not, beq_iff_eq, beq_eq_false_iff_ne, bne_iff_ne, bne_eq_false_iff_eq, Bool.and_eq_true, Bool.or_eq_true, Bool.or_eq_false_iff, Bool.not_eq_true', Bool.not_eq_false', Bool.and_eq_false_imp, ne_eq, gt_iff_lt, ge_iff_le, Int.not_lt, Int.not_le, Classical.not_not] at h2; omega
      refine Cd.exit (thenX (inBX ?_))
      refine thenN ?_
      refine Cd.rr [1, 2, 4, 5, 6, 16, 17] fun K hK => ?_
      simp (maxSteps := 2000000) (disch := first | (simp only [E4, hl, hm, pl, cl, il, cg] <;> omega) | omega | fail) only [↓E2, E3, bare, bareJ, ↓E0, E1, env0, envN, evOps, evOp, evQs, evQ, evV, setD, pureOp, ev, upd, updL, binW, eqOp, binV, intOp, shOp, boolOp, hav, eqL, SameI, strOp, ↓reduceIte, Zj, Zk, Nat.reduceAdd, Nat.reduceLT, Nat.reduceEqDiff, Nat.reduceMul, Nat.reduceLeDiff, if_true, Zn, reduceCtorEq, ZA, eq_self, Int.reduceLE, Int.reduceLT, Int.reduceToNat, ne_eq, Nat.reduceSub, hl, hm, pl, nb2_b1, nb3_b2, nb3_b1, nb4_b3, nb4_b2, nb4_b1, cl, il, cg]
      repeat refine And.intro (by omega) ?_
      intro g
      simp only [List.map_cons, List.map_nil, updL, upd, Nat.reduceEqDiff, if_true, if_false, ↓reduceIte]
      refine hK _ _ ?_; clear hK K
      rw [← compTo_same (nx := nextOf n x o) (i := k) h2]
      exact roundN (m := m - 1) (by omega) ⟨_, k + 1, by omega, rfl, rfl⟩
    · have h3 : ¬ 0 ≤ (compTo (nextOf n x o) k).1.getD k 0 := by simp only [decide_eq_true_eq, decide_eq_false_iff_not, beq_iff_eq, beq_eq_false_iff_ne, bne_iff_ne, bne_eq_false_iff_eq, Bool.and_eq_true, Bool.or_eq_true, Bool.or_eq_false_iff, Bool.not_eq_true', Bool.not_eq_false', Bool.and_eq_false_imp, ne_eq, gt_iff_lt, ge_iff_le, Int.not_lt, Int.not_le, Classical.not_not] at h2; omega
      refine Cd.skip ?_
      refine thenN ?_
      refine Cd.rs [1, 2, 4, 5, 6, 7, 16, 17] fun K hK => ?_
      simp (maxSteps := 2000000) (disch := first | (simp only [E4, hl, hm, pl, cl, il, cg] <;> omega) | omega | fail) only [↓E2, E3, bare, bareJ, ↓E0, E1, env0, envN, evOps, evOp, evQs, evQ, evV, setD, pureOp, ev, upd, updL, binW, eqOp, binV, intOp, shOp, boolOp, hav, eqL, SameI, strOp, ↓reduceIte, Zj, Zk, Nat.reduceAdd, Nat.reduceLT, Nat.reduceEqDiff, Nat.reduceMul, Nat.reduceLeDiff, if_true, Zn, reduceCtorEq, ZA, eq_self, Int.reduceLE, Int.reduceLT, Int.reduceToNat, ne_eq, Nat.reduceSub, hl, hm, pl, nb2_b1, nb3_b2, nb3_b1, nb4_b3, nb4_b2, nb4_b1, cl, il, cg]
      repeat refine And.intro (by omega) ?_
      repeat refine And.intro (by omega) ?_
      intro g
      simp only [List.map_cons, List.map_nil, updL, upd, Nat.reduceEqDiff, if_true, if_false, ↓reduceIte]
      refine hK _ _ ?_; clear hK K
      refine Cd.rs [1, 2, 4, 5, 6, 8, 16, 17] fun K hK => ?_
      simp (maxSteps := 2000000) (disch := first | (simp only [E4, hl, hm, pl, cl, il, cg] <;> omega) | omega | fail) only [↓E2, E3, bare, bareJ, ↓E0, E1, env0, envN, evOps, evOp, evQs, evQ, evV, setD, pureOp, ev, upd, updL, hav, ↓reduceIte, Zj, Zk, Nat.reduceAdd, Nat.reduceLT, Nat.reduceEqDiff, Nat.reduceMul, Nat.reduceLeDiff, if_true, Zn, reduceCtorEq, ZA, eq_self, Int.reduceLE, Int.reduceLT, Int.reduceToNat, ne_eq, Nat.reduceSub, hl, hm, pl, nb2_b1, nb3_b2, nb3_b1, nb4_b3, nb4_b2, nb4_b1, cl, il, cg]
      repeat refine And.intro (by omega) ?_
      intro g
      simp only [List.map_cons, List.map_nil, updL, upd, Nat.reduceEqDiff, if_true, if_false, ↓reduceIte]
      refine hK _ _ ?_; clear hK K
      refine Cd.block ?_
      refine Cd.loop (fun f ρ M => ∃ g j l, j < n ∧ l.length = 8 ∧ (∀ i, i < 8 → -1 ≤ l.getD i 0 ∧ l.getD i 0 ≤ 8) ∧ negs l ≤ f ∧ walkC (nextOf n x o) (compTo (nextOf n x o) k).2 f j l = walkC (nextOf n x o) (compTo (nextOf n x o) k).2 8 k (compTo (nextOf n x o) k).1 ∧
        ρ = updL ([(1, .pointer (some ⟨b1, 0, none⟩)), (2, .pointer (some ⟨b2, 0, none⟩)), (4, .pointer (some ⟨b3, 0, none⟩)), (5, .int .i64 (((compTo (nextOf n x o) k).2 : Int) + 1)), (6, .pointer (some ⟨b4, 0, none⟩)), (8, .int .i64 (j : Int)), (16, .int .i64 (n : Int)), (17, .int .i64 (k : Int))]) g ∧ M = [(b4, ints .i64 (plc x n)), (b3, ints .i64 (incL l)), (b2, ints .i64 z8), (b1, gc (n : Int) x o)]) 8
        ⟨_, k, _, by omega, cl, (fun i hi => by have := compTo_bound (nextOf n x o) k i hi; omega), negs_le cl, rfl, rfl, rfl⟩ ?_
      rintro f ρ M ⟨g, j, l, hj, hll, hlb, hng, hw, rfl, rfl⟩
      have il2 := incL_len l
      rw [hll] at il2
      have cg2 := incL_get (l := l) (i := j) (by omega)
      have cb2 := hlb j (by omega)
      skip
      refine Cd.seq ?_
      refine Cd.rs [1, 2, 4, 5, 6, 8, 16, 17, 30] fun K hK => ?_
      simp (maxSteps := 2000000) (disch := first | (simp only [E4, hl, hm, pl, cl, il, cg, hll, il2, cg2] <;> omega) | omega | fail) only [↓E2, E3, bare, bareJ, ↓E0, E1, env0, envN, evOps, evOp, evQs, evQ, evV, setD, pureOp, ev, upd, updL, binW, eqOp, binV, intOp, shOp, boolOp, indexAddrV, cellAt, cellsAt, findB, hav, eqL, SameI, strOp, ↓reduceIte, Zj, Zk, Nat.reduceAdd, Nat.reduceLT, Nat.reduceEqDiff, Nat.reduceMul, Nat.reduceLeDiff, if_true, Zn, reduceCtorEq, ZA, eq_self, Int.reduceLE, Int.reduceLT, Int.reduceToNat, ne_eq, Nat.reduceSub, Tarr100, Tld3, hl, hm, pl, nb2_b1, nb3_b2, nb3_b1, nb4_b3, nb4_b2, nb4_b1, cl, il, cg, hll, il2, cg2]
      repeat refine And.intro (by omega) ?_
      repeat refine And.intro (by omega) ?_
      intro g
      simp only [List.map_cons, List.map_nil, updL, upd, Nat.reduceEqDiff, if_true, if_false, ↓reduceIte]
      refine hK _ _ ?_; clear hK K
      refine Cd.cond rfl (fun h4 => ?_) (fun h4 => ?_)
      · have h4 : l.getD j 0 < 0 := by simp only [decide_eq_true_eq, decide_eq_false_iff_not, beq_iff_eq, beq_eq_false_iff_ne, bne_iff_ne, bne_eq_false_iff_eq, Bool.and_eq_true, Bool.or_eq_true, Bool.or_eq_false_iff, Bool.not_eq_true', Bool.not_eq_false', Bool.and_eq_false_imp, ne_eq, gt_iff_lt, ge_iff_le, Int.not_lt, Int.not_le, Classical.not_not] at h4; omega
        have hpos := negs_pos (l := l) (k := j) (by omega) h4
        obtain ⟨f', rfl⟩ : ∃ f', f = f' + 1 := ⟨f - 1, by omega⟩
        have hs := negs_set (c := ((compTo (nextOf n x o) k).2 : Int)) (by omega) l j (by omega) h4
        rw [walkC_step h4] at hw
        have c2 := hq.1 j hj
        have c3 := bytes_get ho (i := j) (by omega)
        have c4 := plc_geti (x := x) (n := n) c3.1 (by omega)
        skip
        refine Cd.skip ?_
        refine thenN ?_
        refine Cd.seq ?_
        refine Cd.block ?_
        refine Cd.rr [1, 2, 4, 5, 6, 8, 16, 17] fun K hK => ?_
        simp (maxSteps := 2000000) (disch := first | (simp only [E4, hl, hm, pl, cl, il, cg, hll, il2, cg2, c4] <;> omega) | omega | fail) only [↓E2, E3, bare, bareJ, ↓E0, E1, env0, envN, evOps, evOp, evQs, evQ, evV, setD, pureOp, ev, upd, updL, indexAddrV, cellAt, cellsAt, findB, setB, Value.cells, hav, ↓reduceIte, Zj, Zk, Nat.reduceAdd, Nat.reduceLT, Nat.reduceEqDiff, Nat.reduceMul, Nat.reduceLeDiff, if_true, Zn, reduceCtorEq, ZA, eq_self, Int.reduceLE, Int.reduceLT, Int.reduceToNat, ne_eq, Nat.reduceSub, Tarr100, Tst3, hl, hm, pl, nb2_b1, nb3_b2, nb3_b1, nb4_b3, nb4_b2, nb4_b1, cl, il, cg, hll, il2, cg2, c4]
        repeat refine And.intro (by omega) ?_
        rw [incL_set]
        repeat refine And.intro (by omega) ?_
        intro g
        simp only [List.map_cons, List.map_nil, updL, upd, Nat.reduceEqDiff, if_true, if_false, ↓reduceIte]
        refine hK _ _ ?_; clear hK K
        refine inBN ?_
        refine thenN ?_
        refine Cd.rr [1, 2, 4, 5, 6, 8, 16, 17] fun K hK => ?_
        simp (maxSteps := 2000000) (disch := first | (simp only [E4, hl, hm, pl, cl, il, cg, hll, il2, cg2, c4] <;> omega) | omega | fail) only [↓E2, E3, bare, bareJ, ↓E0, E1, env0, envN, evOps, evOp, evQs, evQ, evV, setD, pureOp, ev, upd, updL, fieldAddrV, indexAddrV, cellAt, cellsAt, findB, hav, ↓reduceIte, Zj, Zk, Nat.reduceAdd, Nat.reduceLT, Nat.reduceEqDiff, Nat.reduceMul, Nat.reduceLeDiff, if_true, Zn, reduceCtorEq, ZA, eq_self, Int.reduceLE, Int.reduceLT, Int.reduceToNat, ne_eq, Nat.reduceSub, Tarr100, Tarr30, Tfld32_2, Tld3, Tld5, hl, hm, pl, nb2_b1, nb3_b2, nb3_b1, nb4_b3, nb4_b2, nb4_b1, cl, il, cg, hll, il2, cg2, c4]
        repeat refine And.intro (by omega) ?_
        repeat refine And.intro (by omega) ?_
        intro g
        simp only [List.map_cons, List.map_nil, updL, upd, Nat.reduceEqDiff, if_true, if_false, ↓reduceIte]
        refine hK _ _ ?_; clear hK K
        refine roundN (m := f') (by omega) ⟨_, nextOf n x o j, _, (rowOf_lt (fun i hi => (bytes_get hx (by omega)).1) hp c3.1 c2).1, by rw [List.length_set]; exact hll, fun i hi => ?_, by omega, hw, rfl, rfl⟩
        rw [cgetD_set (by omega)]
        split
        · omega
        · exact hlb i hi
      · have h4 : ¬ l.getD j 0 < 0 := by simp only [decide_eq_true_eq, decide_eq_false_iff_not, beq_iff_eq, beq_eq_false_iff_ne, bne_iff_ne, bne_eq_false_iff_eq, Bool.and_eq_true, Bool.or_eq_true, Bool.or_eq_false_iff, Bool.not_eq_true', Bool.not_eq_false', Bool.and_eq_false_imp, ne_eq, gt_iff_lt, ge_iff_le, Int.not_lt, Int.not_le, Classical.not_not] at h4; omega
        refine Cd.exit (thenX (roundX (inBX ?_)))
        refine inBN ?_
        refine thenN ?_
        rw [walkC_end h4] at hw
        refine Cd.rr [1, 2, 4, 5, 6, 16, 17] fun K hK => ?_
        simp (maxSteps := 2000000) (disch := first | (simp only [E4, hl, hm, pl, cl, il, cg, hll, il2, cg2] <;> omega) | omega | fail) only [↓E2, E3, bare, bareJ, ↓E0, E1, env0, envN, evOps, evOp, evQs, evQ, evV, setD, pureOp, ev, upd, updL, binW, eqOp, binV, intOp, shOp, boolOp, hav, eqL, SameI, strOp, ↓reduceIte, Zj, Zk, Nat.reduceAdd, Nat.reduceLT, Nat.reduceEqDiff, Nat.reduceMul, Nat.reduceLeDiff, if_true, Zn, reduceCtorEq, ZA, eq_self, Int.reduceLE, Int.reduceLT, Int.reduceToNat, ne_eq, Nat.reduceSub, hl, hm, pl, nb2_b1, nb3_b2, nb3_b1, nb4_b3, nb4_b2, nb4_b1, cl, il, cg, hll, il2, cg2]
        repeat refine And.intro (by omega) ?_
        intro g
        simp only [List.map_cons, List.map_nil, updL, upd, Nat.reduceEqDiff, if_true, if_false, ↓reduceIte]
        refine hK _ _ ?_; clear hK K
        have e1 : ((compTo (nextOf n x o) k).2 : Int) + 1 = ((compTo (nextOf n x o) (k + 1)).2 : Int) := by rw [compTo_more h3]; rfl
        have e2 : l = (compTo (nextOf n x o) (k + 1)).1 := by rw [compTo_more h3]; exact hw
        rw [e1, e2]
        exact roundN (m := m - 1) (by omega) ⟨_, k + 1, by omega, rfl, rfl⟩
  · refine Cd.exit (thenX (roundX (inBX ?_)))
    refine thenN ?_
    obtain rfl : k = n := by omega
    refine Cd.seq ?_
    refine Cd.rs [2, 4, 5, 42, 43] fun K hK => ?_
    simp (maxSteps := 2000000) (disch := first | (simp only [E4, hl, hm, pl, cl, il] <;> omega) | omega | fail) only [↓E2, E3, bare, bareJ, ↓E0, E1, env0, envN, evOps, evOp, evQs, evQ, evV, setD, pureOp, ev, upd, updL, cellAt, cellsAt, findB, setB, hav, ↓reduceIte, Zj, Zk, Nat.reduceAdd, Nat.reduceLT, Nat.reduceEqDiff, Nat.reduceMul, Nat.reduceLeDiff, if_true, Zn, reduceCtorEq, ZA, eq_self, Int.reduceLE, Int.reduceLT, Int.reduceToNat, ne_eq, Nat.reduceSub, Tld32, hl, hm, pl, nb2_b1, nb3_b2, nb3_b1, nb4_b3, nb4_b2, nb4_b1, cl, il]
    refine callK_gives (n_c _ _ _ hl hm) ?_
    simp (maxSteps := 2000000) (disch := first | (simp only [E4, hl, hm, pl, cl, il] <;> omega) | omega | fail) only [↓E2, E3, bare, bareJ, ↓E0, E1, env0, envN, evOps, evOp, evQs, evQ, evV, setD, pureOp, ev, upd, updL, cellAt, cellsAt, findB, setB, hav, ↓reduceIte, Zj, Zk, Nat.reduceAdd, Nat.reduceLT, Nat.reduceEqDiff, Nat.reduceMul, Nat.reduceLeDiff, if_true, Zn, reduceCtorEq, ZA, eq_self, Int.reduceLE, Int.reduceLT, Int.reduceToNat, ne_eq, Nat.reduceSub, Tld32, hl, hm, pl, nb2_b1, nb3_b2, nb3_b1, nb4_b3, nb4_b2, nb4_b1, cl, il]
    repeat refine And.intro (by omega) ?_
    intro g
    simp only [List.map_cons, List.map_nil, updL, upd, Nat.reduceEqDiff, if_true, if_false, ↓reduceIte]
    refine hK _ _ ?_; clear hK K
    refine Cd.block ?_
    refine Cd.loop (fun m ρ M => ∃ g j, j + m = k ∧ ρ = updL [(2, .pointer (some ⟨b2, 0, none⟩)), (4, .pointer (some ⟨b3, 0, none⟩)), (5, .int .i64 ((compTo (nextOf k x o) k).2 : Int)), (42, .int .i64 (k : Int)), (43, .int .i64 (j : Int))] g ∧ M = [(b4, ints .i64 (plc x k)), (b3, ints .i64 (decTo (compTo (nextOf k x o) k).1 j)), (b2, ints .i64 z8), (b1, gc (k : Int) x o)]) k ⟨_, 0, Nat.zero_add _, rfl, by rw [decTo_zero cl]⟩ ?_
    rintro m ρ M ⟨g, j, hj, rfl, rfl⟩
    have dl := decTo_len (compTo (nextOf k x o) k).1 j
    skip
    refine Cd.rs [2, 4, 5, 42, 43, 44] fun K hK => ?_
    simp (maxSteps := 2000000) (disch := first | (simp only [E4, hl, hm, pl, cl, il, dl] <;> omega) | omega | fail) only [↓E2, E3, bare, bareJ, ↓E0, E1, env0, envN, evOps, evOp, evQs, evQ, evV, setD, pureOp, ev, upd, updL, binW, eqOp, binV, intOp, shOp, boolOp, hav, eqL, SameI, strOp, ↓reduceIte, Zj, Zk, Nat.reduceAdd, Nat.reduceLT, Nat.reduceEqDiff, Nat.reduceMul, Nat.reduceLeDiff, if_true, Zn, reduceCtorEq, ZA, eq_self, Int.reduceLE, Int.reduceLT, Int.reduceToNat, ne_eq, Nat.reduceSub, hl, hm, pl, nb2_b1, nb3_b2, nb3_b1, nb4_b3, nb4_b2, nb4_b1, cl, il, dl]
    repeat refine And.intro (by omega) ?_
    intro g
    simp only [List.map_cons, List.map_nil, updL, upd, Nat.reduceEqDiff, if_true, if_false, ↓reduceIte]
    refine hK _ _ ?_; clear hK K
    refine Cd.seq ?_
    refine Cd.condd rfl (fun h4 => ?_) (fun h4 => ?_)
    · have dg : (decTo (compTo (nextOf k x o) k).1 j).getD j 0 = (compTo (nextOf k x o) k).1.getD j 0 + 1 := by rw [decTo_get (by omega), if_neg (by omega)]
      have db := compTo_bound (nextOf k x o) k j (by omega)
      skip
      refine Cd.skip ?_
      refine thenN ?_
      refine Cd.seq ?_
      refine Cd.block ?_
      refine Cd.rs [2, 4, 5, 9, 42, 43] fun K hK => ?_
      simp (maxSteps := 2000000) (disch := first | (simp only [E4, hl, hm, pl, cl, il, dl, dg] <;> omega) | omega | fail) only [↓E2, E3, bare, bareJ, ↓E0, E1, env0, envN, evOps, evOp, evQs, evQ, evV, setD, pureOp, ev, upd, updL, hav, ↓reduceIte, Zj, Zk, Nat.reduceAdd, Nat.reduceLT, Nat.reduceEqDiff, Nat.reduceMul, Nat.reduceLeDiff, if_true, Zn, reduceCtorEq, ZA, eq_self, Int.reduceLE, Int.reduceLT, Int.reduceToNat, ne_eq, Nat.reduceSub, hl, hm, pl, nb2_b1, nb3_b2, nb3_b1, nb4_b3, nb4_b2, nb4_b1, cl, il, dl, dg]
      repeat refine And.intro (by omega) ?_
      intro g
      simp only [List.map_cons, List.map_nil, updL, upd, Nat.reduceEqDiff, if_true, if_false, ↓reduceIte]
      refine hK _ _ ?_; clear hK K
      refine Cd.rr [2, 4, 5, 42, 43] fun K hK => ?_
      simp (maxSteps := 2000000) (disch := first | (simp only [E4, hl, hm, pl, cl, il, dl, dg] <;> omega) | omega | fail) only [↓E2, E3, bare, bareJ, ↓E0, E1, env0, envN, evOps, evOp, evQs, evQ, evV, setD, pureOp, ev, upd, updL, binW, eqOp, binV, intOp, shOp, boolOp, indexAddrV, cellAt, cellsAt, findB, setB, Value.cells, hav, eqL, SameI, strOp, ↓reduceIte, Zj, Zk, Nat.reduceAdd, Nat.reduceLT, Nat.reduceEqDiff, Nat.reduceMul, Nat.reduceLeDiff, if_true, Zn, reduceCtorEq, ZA, eq_self, Int.reduceLE, Int.reduceLT, Int.reduceToNat, ne_eq, Nat.reduceSub, Tarr100, Tld3, Tst3, hl, hm, pl, nb2_b1, nb3_b2, nb3_b1, nb4_b3, nb4_b2, nb4_b1, cl, il, dl, dg]
      repeat refine And.intro (by omega) ?_
      rw [Int.add_sub_cancel, decTo_set (by omega)]
      repeat refine And.intro (by omega) ?_
      intro g
      simp only [List.map_cons, List.map_nil, updL, upd, Nat.reduceEqDiff, if_true, if_false, ↓reduceIte]
      refine hK _ _ ?_; clear hK K
      refine inBN ?_
      refine thenN ?_
      refine Cd.rr [2, 4, 5, 42, 43] fun K hK => ?_
      simp (maxSteps := 2000000) (disch := first | (simp only [E4, hl, hm, pl, cl, il, dl, dg] <;> omega) | omega | fail) only [↓E2, E3, bare, bareJ, ↓E0, E1, env0, envN, evOps, evOp, evQs, evQ, evV, setD, pureOp, ev, upd, updL, binW, eqOp, binV, intOp, shOp, boolOp, hav, eqL, SameI, strOp, ↓reduceIte, Zj, Zk, Nat.reduceAdd, Nat.reduceLT, Nat.reduceEqDiff, Nat.reduceMul, Nat.reduceLeDiff, if_true, Zn, reduceCtorEq, ZA, eq_self, Int.reduceLE, Int.reduceLT, Int.reduceToNat, ne_eq, Nat.reduceSub, hl, hm, pl, nb2_b1, nb3_b2, nb3_b1, nb4_b3, nb4_b2, nb4_b1, cl, il, dl, dg]
      repeat refine And.intro (by omega) ?_
      intro g
      simp only [List.map_cons, List.map_nil, updL, upd, Nat.reduceEqDiff, if_true, if_false, ↓reduceIte]
      refine hK _ _ ?_; clear hK K
      refine roundN (m := m - 1) (by omega) ⟨_, j + 1, by omega, rfl, rfl⟩
    · refine Cd.exit (thenX (roundX (inBX ?_)))
      refine thenN ?_
      obtain rfl : j = k := by omega
      refine Cd.rs [2, 3] fun K hK => ?_
      simp (maxSteps := 2000000) (disch := first | (simp only [E4, hl, hm, pl, cl, il, dl] <;> omega) | omega | fail) only [↓E2, E3, bare, bareJ, ↓E0, E1, env0, envN, evOps, evOp, evQs, evQ, evV, setD, pureOp, ev, upd, updL, cellAt, cellsAt, findB, setB, Value.cells, hav, ↓reduceIte, Zj, Zk, Nat.reduceAdd, Nat.reduceLT, Nat.reduceEqDiff, Nat.reduceMul, Nat.reduceLeDiff, if_true, Zn, reduceCtorEq, ZA, eq_self, Int.reduceLE, Int.reduceLT, Int.reduceToNat, ne_eq, Nat.reduceSub, Tld100, Tst100, hl, hm, pl, nb2_b1, nb3_b2, nb3_b1, nb4_b3, nb4_b2, nb4_b1, cl, il, dl]
      repeat refine And.intro (by omega) ?_
      intro g
      simp only [List.map_cons, List.map_nil, updL, upd, Nat.reduceEqDiff, if_true, if_false, ↓reduceIte]
      refine hK _ _ ?_; clear hK K
      refine Cd.ret ?_
      simp (maxSteps := 2000000) (disch := first | (simp only [E4, hl, hm, pl, cl, il, dl] <;> omega) | omega | fail) only [↓E2, E3, bare, bareJ, ↓E0, E1, evP, evPlan, env0, envN, evOps, evOp, evQs, evQ, evV, setD, pureOp, ev, upd, updL, gate, binW, eqOp, binV, intOp, shOp, boolOp, unV, convV, nilV, fieldAddrV, indexAddrV, extractV, cellAt, cellsAt, findB, setB, fillL, buildV, Value.cells, lenV, minV, maxV, hav, sliceV, loV, hiV, bslQ, mksQ, appQ, partsOk, partsCells, delB, eqL, SameI, strOp, apzQ, cvtQ, capV, ↓reduceIte, Zj, Zk, Nat.reduceAdd, Nat.reduceLT, Nat.reduceEqDiff, Nat.reduceMul, Nat.reduceLeDiff, if_true, Zn, reduceCtorEq, ZA, eq_self, Int.reduceLE, Int.reduceLT, Int.reduceToNat, ne_eq, Nat.reduceSub, Tld100, hl, hm, pl, nb2_b1, nb3_b2, nb3_b1, nb4_b3, nb4_b2, nb4_b1, cl, il, dl]
      rfl

end Go.Proofs

/-
  What the functions of this part hand back: each as a plain function of its arguments. Conditions: none.
-/
namespace Go.Proofs
open Go.W8
set_option linter.unusedVariables false
set_option linter.unusedSimpArgs false
set_option linter.unusedSectionVars false
set_option maxRecDepth 8000
set_option maxHeartbeats 4000000
theorem wholeSS_c (s : Int) (x o : List Int) (hx : Bytes8 x) (ho : Bytes8 o) (n : Nat) (fs cs : Array Value) (Post : Value → Blks → Prop)
    (h : gridB s x o = true → GivesX Try.prog n (fs.toList ++ ([Value.agg (gc s x o).toArray] ++ cs.toList)).toArray [] [] Post) :
    GivesX Try.prog 97 #[.agg (gc s x o).toArray, .func (.func n) fs cs] [] [] (wrapP s x o Post (.slice none 0 0)) := by
  have hl := hx.len
  have hm := ho.len
  skip
  refine GivesX.of (callable_of Try.func97 rfl (by decide)) ?_ fun w hnd hlt hR => ?_
  · simp
  refine acall_of (N := 14) (c := _) (rs := [.tmp 4, .tmp 5]) (args := [_, _]) Try.func97 rfl (by decide) rfl rfl (Nat.le_of_ble_eq_true rfl) ?_
  refine Cd.rs [1, 2] fun K hK => ?_
  simp (maxSteps := 2000000) (disch := first | (simp only [E4, hl, hm] <;> omega) | omega | fail) only [↓E2, E3, bare, bareJ, ↓E0, E1, env0, envN, evOps, evOp, evQs, evQ, evV, setD, pureOp, ev, upd, updL, Value.cells, hav, ↓reduceIte, Zj, Zk, Nat.reduceAdd, Nat.reduceLT, Nat.reduceEqDiff, Nat.reduceMul, Nat.reduceLeDiff, if_true, Zn, reduceCtorEq, ZA, eq_self, Int.reduceLE, Int.reduceLT, Int.reduceToNat, ne_eq, Nat.reduceSub, hl, hm]
  repeat refine And.intro (by omega) ?_
  intro b1 hb1
  try simp (maxSteps := 2000000) (disch := first | (simp only [E4, hl, hm] <;> omega) | omega | fail) only [↓E2, E3, bare, bareJ, ↓E0, E1, env0, envN, evOps, evOp, evQs, evQ, evV, setD, pureOp, ev, upd, updL, Value.cells, hav, ↓reduceIte, Zj, Zk, Nat.reduceAdd, Nat.reduceLT, Nat.reduceEqDiff, Nat.reduceMul, Nat.reduceLeDiff, if_true, Zn, reduceCtorEq, ZA, eq_self, Int.reduceLE, Int.reduceLT, Int.reduceToNat, ne_eq, Nat.reduceSub, hl, hm]
  repeat refine And.intro (by omega) ?_
  repeat refine And.intro (by omega) ?_
  intro g
  simp only [List.map_cons, List.map_nil, updL, upd, Nat.reduceEqDiff, if_true, if_false, ↓reduceIte]
  refine hK _ _ ?_; clear hK K
  refine Cd.seq ?_
  refine Cd.rs [1, 2, 9] fun K hK => ?_
  simp (maxSteps := 2000000) (disch := first | (simp only [E4, hl, hm] <;> omega) | omega | fail) only [↓E2, E3, bare, bareJ, ↓E0, E1, env0, envN, evOps, evOp, evQs, evQ, evV, setD, pureOp, ev, upd, updL, unV, cellAt, cellsAt, findB, setB, hav, ↓reduceIte, Zj, Zk, Nat.reduceAdd, Nat.reduceLT, Nat.reduceEqDiff, Nat.reduceMul, Nat.reduceLeDiff, if_true, Zn, reduceCtorEq, ZA, eq_self, Int.reduceLE, Int.reduceLT, Int.reduceToNat, ne_eq, Nat.reduceSub, Tld32, hl, hm]
  repeat refine And.intro (by omega) ?_
  refine callK_gives (IsGrid_c _ _ _ hx ho) ?_
  simp (maxSteps := 2000000) (disch := first | (simp only [E4, hl, hm] <;> omega) | omega | fail) only [↓E2, E3, bare, bareJ, ↓E0, E1, env0, envN, evOps, evOp, evQs, evQ, evV, setD, pureOp, ev, upd, updL, unV, cellAt, cellsAt, findB, setB, hav, ↓reduceIte, Zj, Zk, Nat.reduceAdd, Nat.reduceLT, Nat.reduceEqDiff, Nat.reduceMul, Nat.reduceLeDiff, if_true, Zn, reduceCtorEq, ZA, eq_self, Int.reduceLE, Int.reduceLT, Int.reduceToNat, ne_eq, Nat.reduceSub, Tld32, hl, hm]
  repeat refine And.intro (by omega) ?_
  repeat refine And.intro (by omega) ?_
  intro g
  simp only [List.map_cons, List.map_nil, updL, upd, Nat.reduceEqDiff, if_true, if_false, ↓reduceIte]
  refine hK _ _ ?_; clear hK K
  refine Cd.cond rfl (fun h1 => ?_) (fun h1 => ?_)
  · refine Cd.rs [6] fun K hK => ?_
    simp (maxSteps := 2000000) (disch := first | (simp only [E4, hl, hm] <;> omega) | omega | fail) only [↓E2, E3, bare, bareJ, ↓E0, E1, env0, envN, evOps, evOp, evQs, evQ, evV, setD, pureOp, ev, upd, updL, hav, ↓reduceIte, Zj, Zk, Nat.reduceAdd, Nat.reduceLT, Nat.reduceEqDiff, Nat.reduceMul, Nat.reduceLeDiff, if_true, Zn, reduceCtorEq, ZA, eq_self, Int.reduceLE, Int.reduceLT, Int.reduceToNat, ne_eq, Nat.reduceSub, hl, hm]
    repeat refine And.intro (by omega) ?_
    repeat refine And.intro (by omega) ?_
    intro g
    simp only [List.map_cons, List.map_nil, updL, upd, Nat.reduceEqDiff, if_true, if_false, ↓reduceIte]
    refine hK _ _ ?_; clear hK K
    refine Cd.rs [4, 5] fun K hK => ?_
    simp (maxSteps := 2000000) (disch := first | (simp only [E4, hl, hm] <;> omega) | omega | fail) only [↓E2, E3, bare, bareJ, ↓E0, E1, env0, envN, evOps, evOp, evQs, evQ, evV, setD, pureOp, ev, upd, updL, hav, ↓reduceIte, Zj, Zk, Nat.reduceAdd, Nat.reduceLT, Nat.reduceEqDiff, Nat.reduceMul, Nat.reduceLeDiff, if_true, Zn, reduceCtorEq, ZA, eq_self, Int.reduceLE, Int.reduceLT, Int.reduceToNat, ne_eq, Nat.reduceSub, hl, hm]
    repeat refine And.intro (by omega) ?_
    repeat refine And.intro (by omega) ?_
    intro g
    simp only [List.map_cons, List.map_nil, updL, upd, Nat.reduceEqDiff, if_true, if_false, ↓reduceIte]
    refine hK _ _ ?_; clear hK K
    refine Cd.drop (List.nil_sublist _) ?_
    refine Cd.ret (thenR ?_)
    simp (maxSteps := 2000000) (disch := first | (simp only [E4, hl, hm] <;> omega) | omega | fail) only [↓E2, E3, bare, bareJ, ↓E0, E1, evP, evPlan, env0, envN, evOps, evOp, evQs, evQ, evV, setD, pureOp, ev, upd, updL, gate, binW, eqOp, binV, intOp, shOp, boolOp, unV, convV, nilV, fieldAddrV, indexAddrV, extractV, cellAt, cellsAt, findB, setB, fillL, buildV, Value.cells, lenV, minV, maxV, hav, sliceV, loV, hiV, bslQ, mksQ, appQ, partsOk, partsCells, delB, eqL, SameI, strOp, apzQ, cvtQ, capV, ↓reduceIte, Zj, Zk, Nat.reduceAdd, Nat.reduceLT, Nat.reduceEqDiff, Nat.reduceMul, Nat.reduceLeDiff, if_true, Zn, reduceCtorEq, ZA, eq_self, Int.reduceLE, Int.reduceLT, Int.reduceToNat, ne_eq, Nat.reduceSub, hl, hm]
    repeat refine And.intro (by omega) ?_
    exact wrapP_no (by simpa using h1)
  · have h2 : gridB s x o = true := by simpa using h1
    refine Cd.skip ?_
    refine thenN ?_
    refine Cd.rs [4, 5] fun K hK => ?_
    simp (maxSteps := 2000000) (disch := first | (simp only [E4, hl, hm] <;> omega) | omega | fail) only [↓E2, E3, bare, bareJ, ↓E0, E1, env0, envN, evOps, evOp, evQs, evQ, evV, setD, pureOp, ev, upd, updL, cellAt, cellsAt, findB, setB, hav, ↓reduceIte, Zj, Zk, Nat.reduceAdd, Nat.reduceLT, Nat.reduceEqDiff, Nat.reduceMul, Nat.reduceLeDiff, if_true, Zn, reduceCtorEq, ZA, eq_self, Int.reduceLE, Int.reduceLT, Int.reduceToNat, ne_eq, Nat.reduceSub, Tld32, hl, hm]
    repeat refine And.intro (by omega) ?_
    refine callK_new (h h2) (fun _ _ => toldW_nil) ?_
    intro v M' hP _ _
    simp (maxSteps := 2000000) (disch := first | (simp only [E4, hl, hm] <;> omega) | omega | fail) only [↓E2, E3, bare, bareJ, ↓E0, E1, env0, envN, evOps, evOp, evQs, evQ, evV, setD, pureOp, ev, upd, updL, cellAt, cellsAt, findB, setB, hav, ↓reduceIte, Zj, Zk, Nat.reduceAdd, Nat.reduceLT, Nat.reduceEqDiff, Nat.reduceMul, Nat.reduceLeDiff, if_true, Zn, reduceCtorEq, ZA, eq_self, Int.reduceLE, Int.reduceLT, Int.reduceToNat, ne_eq, Nat.reduceSub, Tld32, hl, hm]
    repeat refine And.intro (by omega) ?_
    repeat refine And.intro (by omega) ?_
    intro g
    simp only [List.map_cons, List.map_nil, updL, upd, Nat.reduceEqDiff, if_true, if_false, ↓reduceIte]
    refine hK _ _ ?_; clear hK K
    refine Cd.drop (List.sublist_append_left _ _) ?_
    refine Cd.ret ?_
    simp (maxSteps := 2000000) (disch := first | (simp only [E4, hl, hm] <;> omega) | omega | fail) only [↓E2, E3, bare, bareJ, ↓E0, E1, evP, evPlan, env0, envN, evOps, evOp, evQs, evQ, evV, setD, pureOp, ev, upd, updL, gate, binW, eqOp, binV, intOp, shOp, boolOp, unV, convV, nilV, fieldAddrV, indexAddrV, extractV, cellAt, cellsAt, findB, setB, fillL, buildV, Value.cells, lenV, minV, maxV, hav, sliceV, loV, hiV, bslQ, mksQ, appQ, partsOk, partsCells, delB, eqL, SameI, strOp, apzQ, cvtQ, capV, ↓reduceIte, Zj, Zk, Nat.reduceAdd, Nat.reduceLT, Nat.reduceEqDiff, Nat.reduceMul, Nat.reduceLeDiff, if_true, Zn, reduceCtorEq, ZA, eq_self, Int.reduceLE, Int.reduceLT, Int.reduceToNat, ne_eq, Nat.reduceSub, hl, hm]
    repeat refine And.intro (by omega) ?_
    exact wrapP_yes h2 hP


end Go.Proofs

/-
  What the functions of this part hand back: each as a plain function of its arguments. Conditions: none.
-/
namespace Go.Proofs
open Go.W8
set_option linter.unusedVariables false
set_option linter.unusedSimpArgs false
set_option linter.unusedSectionVars false
set_option maxRecDepth 8000
set_option maxHeartbeats 4000000
def coRow (w : List Int) (k : Int) : Nat → List Int
  | 0 => []
  | i + 1 => coRow w k i ++ if w.getD i 0 = k then [(i : Int)] else []
def coTab (w : List Int) (i c : Nat) : List (List Int) := (List.range c).map fun (k : Nat) => coRow w (k : Int) i
theorem coRow_yes {w : List Int} {k : Int} {i : Nat} (h : w.getD i 0 = k) : coRow w k (i + 1) = coRow w k i ++ [(i : Int)] := by
  show _ ++ (if _ then _ else _) = _
  rw [if_pos h]
theorem coRow_no {w : List Int} {k : Int} {i : Nat} (h : ¬ w.getD i 0 = k) : coRow w k (i + 1) = coRow w k i := by
  show _ ++ (if _ then _ else _) = _
  rw [if_neg h, List.append_nil]
theorem coRow_len (w : List Int) (k : Int) : ∀ i, (coRow w k i).length ≤ i
  | 0 => Nat.le_refl _
  | i + 1 => by
    have := coRow_len w k i
    unfold coRow
    rw [List.length_append]
    split
    · simp; omega
    · simp; omega
theorem coTab_len (w : List Int) (i c : Nat) : (coTab w i c).length = c := by simp [coTab]
theorem coTab_get {w : List Int} {i c k : Nat} (h : k < c) : (coTab w i c)[k]? = some (coRow w (k : Int) i) := by
  unfold coTab
  rw [List.getElem?_map, List.getElem?_range h]; rfl
theorem coTab_zero (w : List Int) (c : Nat) : coTab w 0 c = List.replicate c [] := by
  apply List.ext_getElem?
  intro k
  by_cases h : k < c
  · rw [coTab_get h, List.getElem?_replicate_of_lt h]; rfl
  · rw [List.getElem?_eq_none (by rw [coTab_len]; omega), List.getElem?_eq_none (by simp; omega)]
theorem coTab_set {w : List Int} {i c j : Nat} (hj : j < c) (h : w.getD i 0 = (j : Int)) : (coTab w i c).set j (coRow w (j : Int) i ++ [(i : Int)]) = coTab w (i + 1) c := by
  apply List.ext_getElem?
  intro k
  by_cases e : j = k
  · subst e
    rw [List.getElem?_set_self (by rw [coTab_len]; exact hj), coTab_get hj, coRow_yes h]
  · rw [List.getElem?_set_ne e]
    by_cases hk : k < c
    · rw [coTab_get hk, coTab_get hk, coRow_no (by rw [h]; omega)]
    · rw [List.getElem?_eq_none (by rw [coTab_len]; omega), List.getElem?_eq_none (by rw [coTab_len]; omega)]
theorem perm_row {p q e : Nat × List Value} {A B : Blks} : (e :: q :: (A ++ ([p] ++ B))).Perm (p :: e :: q :: (A ++ B)) := by
  have h : (A ++ ([p] ++ B)).Perm (p :: (A ++ B)) := List.perm_middle
  exact (((h.cons q).trans (.swap ..)).cons e).trans (.swap ..)
section
variable (n : Nat) (x o : List Int) (hx : Bytes8 x) (ho : Bytes8 o) (hn : n ≤ 8) (px : IsPerm x n) (po : IsPerm o n)
include hx ho hn px po
theorem iComponentsOf1_c : GivesX Try.prog 103 #[.agg (gc (n : Int) x o).toArray] [] [] (SlSl (coTab (comps n x o).1 n (comps n x o).2)) := by
  have hl := hx.len
  have hm := ho.len
  have dl := decTo_len (comps n x o).1 n
  have cb : (comps n x o).2 ≤ 8 := Nat.le_trans (compTo_count (nextOf n x o) n) hn
  have hw : ∀ k, k < n → (decTo (comps n x o).1 n).getD k 0 = (comps n x o).1.getD k 0 := fun k hk => by rw [decTo_get (by omega), if_pos hk]
  have hlo : ∀ k, k < n → 0 ≤ (comps n x o).1.getD k 0 := fun k hk => compTo_done (nextOf n x o) n hn k hk
  have hhi : ∀ k, k < n → (comps n x o).1.getD k 0 < ((comps n x o).2 : Int) := fun k hk => (compTo_bound (nextOf n x o) n k (by omega)).2
  skip
  refine GivesX.of (callable_of Try.func103 rfl (by decide)) ?_ fun w hnd hlt hR => ?_
  · simp
  refine acall_of (N := 35) (c := _) (rs := [.tmp 2]) (args := [_]) Try.func103 rfl (by decide) rfl rfl (Nat.le_of_ble_eq_true rfl) ?_
  refine Cd.rs [1] fun K hK => ?_
  simp (maxSteps := 2000000) (disch := first | (simp only [E4, hl, hm, dl] <;> omega) | omega | fail) only [↓E2, E3, bare, bareJ, ↓E0, E1, env0, envN, evOps, evOp, evQs, evQ, evV, setD, pureOp, ev, upd, updL, Value.cells, hav, ↓reduceIte, Zj, Zk, Nat.reduceAdd, Nat.reduceLT, Nat.reduceEqDiff, Nat.reduceMul, Nat.reduceLeDiff, if_true, Zn, reduceCtorEq, ZA, eq_self, Int.reduceLE, Int.reduceLT, Int.reduceToNat, ne_eq, Nat.reduceSub, hl, hm, dl]
  repeat refine And.intro (by omega) ?_
  intro b1 hb1
  try simp (maxSteps := 2000000) (disch := first | (simp only [E4, hl, hm, dl] <;> omega) | omega | fail) only [↓E2, E3, bare, bareJ, ↓E0, E1, env0, envN, evOps, evOp, evQs, evQ, evV, setD, pureOp, ev, upd, updL, Value.cells, hav, ↓reduceIte, Zj, Zk, Nat.reduceAdd, Nat.reduceLT, Nat.reduceEqDiff, Nat.reduceMul, Nat.reduceLeDiff, if_true, Zn, reduceCtorEq, ZA, eq_self, Int.reduceLE, Int.reduceLT, Int.reduceToNat, ne_eq, Nat.reduceSub, hl, hm, dl]
  repeat refine And.intro (by omega) ?_
  repeat refine And.intro (by omega) ?_
  intro g
  simp only [List.map_cons, List.map_nil, updL, upd, Nat.reduceEqDiff, if_true, if_false, ↓reduceIte]
  refine hK _ _ ?_; clear hK K
  refine Cd.rs [1, 3, 4] fun K hK => ?_
  simp (maxSteps := 2000000) (disch := first | (simp only [E4, hl, hm, dl] <;> omega) | omega | fail) only [↓E2, E3, bare, bareJ, ↓E0, E1, env0, envN, evOps, evOp, evQs, evQ, evV, setD, pureOp, ev, upd, updL, extractV, cellAt, cellsAt, findB, setB, Value.cells, hav, ↓reduceIte, Zj, Zk, Nat.reduceAdd, Nat.reduceLT, Nat.reduceEqDiff, Nat.reduceMul, Nat.reduceLeDiff, if_true, Zn, reduceCtorEq, ZA, eq_self, Int.reduceLE, Int.reduceLT, Int.reduceToNat, ne_eq, Nat.reduceSub, Tld32, Tst100, Tzero100, hl, hm, dl]
  repeat refine And.intro (by omega) ?_
  refine callK_gives (component_c n x o hx ho hn px po) ?_
  simp (maxSteps := 2000000) (disch := first | (simp only [E4, hl, hm, dl] <;> omega) | omega | fail) only [↓E2, E3, bare, bareJ, ↓E0, E1, env0, envN, evOps, evOp, evQs, evQ, evV, setD, pureOp, ev, upd, updL, extractV, cellAt, cellsAt, findB, setB, Value.cells, hav, ↓reduceIte, Zj, Zk, Nat.reduceAdd, Nat.reduceLT, Nat.reduceEqDiff, Nat.reduceMul, Nat.reduceLeDiff, if_true, Zn, reduceCtorEq, ZA, eq_self, Int.reduceLE, Int.reduceLT, Int.reduceToNat, ne_eq, Nat.reduceSub, Tld32, Tst100, Tzero100, hl, hm, dl]
  repeat refine And.intro (by omega) ?_
  intro b2 hb2
  have nb2_b1 := hb2.ne
  try simp (maxSteps := 2000000) (disch := first | (simp only [E4, hl, hm, dl] <;> omega) | omega | fail) only [↓E2, E3, bare, bareJ, ↓E0, E1, env0, envN, evOps, evOp, evQs, evQ, evV, setD, pureOp, ev, upd, updL, extractV, cellAt, cellsAt, findB, setB, Value.cells, hav, ↓reduceIte, Zj, Zk, Nat.reduceAdd, Nat.reduceLT, Nat.reduceEqDiff, Nat.reduceMul, Nat.reduceLeDiff, if_true, Zn, reduceCtorEq, ZA, eq_self, Int.reduceLE, Int.reduceLT, Int.reduceToNat, ne_eq, Nat.reduceSub, Tld32, Tst100, Tzero100, hl, hm, dl, nb2_b1]
  repeat refine And.intro (by omega) ?_
  repeat refine And.intro (by omega) ?_
  intro g
  simp only [List.map_cons, List.map_nil, updL, upd, Nat.reduceEqDiff, if_true, if_false, ↓reduceIte]
  refine hK _ _ ?_; clear hK K
  refine Cd.rs [1, 3, 5] fun K hK => ?_
  simp (maxSteps := 2000000) (disch := first | (simp only [E4, hl, hm, dl] <;> omega) | omega | fail) only [↓E2, E3, bare, bareJ, ↓E0, E1, env0, envN, evOps, evOp, evQs, evQ, evV, setD, pureOp, ev, upd, updL, Value.cells, hav, mksQ, ↓reduceIte, Zj, Zk, Nat.reduceAdd, Nat.reduceLT, Nat.reduceEqDiff, Nat.reduceMul, Nat.reduceLeDiff, if_true, Zn, reduceCtorEq, ZA, eq_self, Int.reduceLE, Int.reduceLT, Int.reduceToNat, ne_eq, Nat.reduceSub, Tby47, Tslc43, Tslce43, Tzero47, hl, hm, dl, nb2_b1]
  repeat refine And.intro (by omega) ?_
  intro b3 hb3
  have nb3_b2 := hb3.ne
  have nb3_b1 := hb3.tail.ne
  try simp (maxSteps := 2000000) (disch := first | (simp only [E4, hl, hm, dl] <;> omega) | omega | fail) only [↓E2, E3, bare, bareJ, ↓E0, E1, env0, envN, evOps, evOp, evQs, evQ, evV, setD, pureOp, ev, upd, updL, Value.cells, hav, mksQ, ↓reduceIte, Zj, Zk, Nat.reduceAdd, Nat.reduceLT, Nat.reduceEqDiff, Nat.reduceMul, Nat.reduceLeDiff, if_true, Zn, reduceCtorEq, ZA, eq_self, Int.reduceLE, Int.reduceLT, Int.reduceToNat, ne_eq, Nat.reduceSub, Tby47, Tslc43, Tslce43, Tzero47, hl, hm, dl, nb2_b1, nb3_b2, nb3_b1]
  repeat refine And.intro (by omega) ?_
  repeat refine And.intro (by omega) ?_
  intro g
  simp only [List.map_cons, List.map_nil, updL, upd, Nat.reduceEqDiff, if_true, if_false, ↓reduceIte]
  refine hK _ _ ?_; clear hK K
  refine Cd.seq ?_
  refine Cd.rs [3, 5, 15, 16] fun K hK => ?_
  simp (maxSteps := 2000000) (disch := first | (simp only [E4, hl, hm, dl] <;> omega) | omega | fail) only [↓E2, E3, bare, bareJ, ↓E0, E1, env0, envN, evOps, evOp, evQs, evQ, evV, setD, pureOp, ev, upd, updL, cellAt, cellsAt, findB, setB, hav, ↓reduceIte, Zj, Zk, Nat.reduceAdd, Nat.reduceLT, Nat.reduceEqDiff, Nat.reduceMul, Nat.reduceLeDiff, if_true, Zn, reduceCtorEq, ZA, eq_self, Int.reduceLE, Int.reduceLT, Int.reduceToNat, ne_eq, Nat.reduceSub, Tld32, hl, hm, dl, nb2_b1, nb3_b2, nb3_b1]
  repeat refine And.intro (by omega) ?_
  refine callK_gives (n_c _ _ _ hl hm) ?_
  simp (maxSteps := 2000000) (disch := first | (simp only [E4, hl, hm, dl] <;> omega) | omega | fail) only [↓E2, E3, bare, bareJ, ↓E0, E1, env0, envN, evOps, evOp, evQs, evQ, evV, setD, pureOp, ev, upd, updL, cellAt, cellsAt, findB, setB, hav, ↓reduceIte, Zj, Zk, Nat.reduceAdd, Nat.reduceLT, Nat.reduceEqDiff, Nat.reduceMul, Nat.reduceLeDiff, if_true, Zn, reduceCtorEq, ZA, eq_self, Int.reduceLE, Int.reduceLT, Int.reduceToNat, ne_eq, Nat.reduceSub, Tld32, hl, hm, dl, nb2_b1, nb3_b2, nb3_b1]
  repeat refine And.intro (by omega) ?_
  repeat refine And.intro (by omega) ?_
  intro g
  simp only [List.map_cons, List.map_nil, updL, upd, Nat.reduceEqDiff, if_true, if_false, ↓reduceIte]
  refine hK _ _ ?_; clear hK K
  generalize (comps n x o).1 = w at *
  generalize (comps n x o).2 = c at *
  refine Cd.block ?_
  refine Cd.loop (fun q ρ M => ∃ g i cs vs Mi M1, i + q = n ∧ Row 1 vs c c cs ∧ RowsI (coTab w i c) vs Mi ∧ ρ = updL [(3, .pointer (some ⟨b2, 0, none⟩)), (5, .slice (some ⟨b3, 0, none⟩) c c), (15, .int .i64 (n : Int)), (16, .int .i64 (i : Int))] g ∧
    ((b3, cs) :: (b2, ints .i64 (decTo w n)) :: Mi).Perm M1 ∧ M1.Sublist M) n ⟨_, 0, _, _, [], _, Nat.zero_add _, Row.full (l := List.replicate c (.slice none 0 0)) (by simp), by rw [coTab_zero]; exact RowsI.nils c, rfl, .refl _, List.Sublist.cons_cons _ (List.Sublist.cons_cons _ (List.nil_sublist _))⟩ ?_
  rintro q ρ M ⟨g, i, cs, vs, Mi, M1, hi, hrow, hrows, rfl, hp, hs⟩
  refine Cd.subp hp hs ?_
  clear hp hs M1 M
  refine Cd.rs [3, 5, 15, 16, 17] fun K hK => ?_
  simp (maxSteps := 2000000) (disch := first | (simp only [E4, hl, hm, dl] <;> omega) | omega | fail) only [↓E2, E3, bare, bareJ, ↓E0, E1, env0, envN, evOps, evOp, evQs, evQ, evV, setD, pureOp, ev, upd, updL, binW, eqOp, binV, intOp, shOp, boolOp, hav, eqL, SameI, strOp, ↓reduceIte, Zj, Zk, Nat.reduceAdd, Nat.reduceLT, Nat.reduceEqDiff, Nat.reduceMul, Nat.reduceLeDiff, if_true, Zn, reduceCtorEq, ZA, eq_self, Int.reduceLE, Int.reduceLT, Int.reduceToNat, ne_eq, Nat.reduceSub, hl, hm, dl, nb2_b1, nb3_b2, nb3_b1]
  repeat refine And.intro (by omega) ?_
  repeat refine And.intro (by omega) ?_
  intro g
  simp only [List.map_cons, List.map_nil, updL, upd, Nat.reduceEqDiff, if_true, if_false, ↓reduceIte]
  refine hK _ _ ?_; clear hK K
  refine Cd.seq ?_
  refine Cd.condd rfl (fun h1 => ?_) (fun h1 => ?_)
  · obtain ⟨j, hj⟩ : ∃ j : Nat, w.getD i 0 = (j : Int) := ⟨(w.getD i 0).toNat, by have := hlo i (by omega); omega⟩
    have hjc : j < c := by have := hhi i (by omega); omega
    have hdj := hw i (by omega)
    rw [hj] at hdj
    have rl := coRow_len w (j : Int) i
    obtain ⟨l, v, A, Mj, B, g1, g2, rfl, g4, g5⟩ := hrows.split (j := j) (by rw [coTab_len]; exact hjc)
    rw [coTab_get hjc] at g1
    cases g1
    have hu := hrow.get g2
    have s1 := hrow.size1
    refine Cd.skip ?_
    refine thenN ?_
    refine Cd.seq ?_
    refine Cd.block ?_
    rcases g4 with ⟨e1, rfl, rfl⟩ | ⟨bj, m, cap, csj, rfl, rfl, hr⟩
    · refine Cd.nodup fun hnd => ?_
      have d2 : ¬ b3 = b2 := (nodup_cases hnd).1 (b2, ints .i64 (decTo w n)) (by simp)
      clear hnd
      rw [show A ++ ([] ++ B) = A ++ B from rfl]
      generalize hT : A ++ B = T
      have f3 : j + 1 ≤ cs.length := by omega
      skip
      skip
      refine Cd.rs [3, 5, 6, 15, 16] fun K hK => ?_
      simp (maxSteps := 2000000) (disch := first | (simp only [E4, hl, hm, dl, hdj, hu, d2] <;> omega) | omega | fail) only [↓E2, E3, bare, bareJ, ↓E0, E1, env0, envN, evOps, evOp, evQs, evQ, evV, setD, pureOp, ev, upd, updL, hav, ↓reduceIte, Zj, Zk, Nat.reduceAdd, Nat.reduceLT, Nat.reduceEqDiff, Nat.reduceMul, Nat.reduceLeDiff, if_true, Zn, reduceCtorEq, ZA, eq_self, Int.reduceLE, Int.reduceLT, Int.reduceToNat, ne_eq, Nat.reduceSub, hl, hm, dl, nb2_b1, nb3_b2, nb3_b1, hdj, hu, d2]
      repeat refine And.intro (by omega) ?_
      repeat refine And.intro (by omega) ?_
      intro g
      simp only [List.map_cons, List.map_nil, updL, upd, Nat.reduceEqDiff, if_true, if_false, ↓reduceIte]
      refine hK _ _ ?_; clear hK K
      refine Cd.pr [3, 5, 15, 16] (Plan.take 0 (Plan.take 1 (Plan.take 2 (Plan.take 4 (Plan.take 5 (Plan.take 6 (Plan.take 7 (Plan.take 8 (Plan.take 9 (Plan.take 10 (Plan.more 3 (Plan.one 11 (Plan.one 12 (Plan.take 13 (Plan.one 14 (Plan.done))))) (Plan.one 11 (Plan.more 3 (Plan.one 12 (Plan.take 13 (Plan.one 14 (Plan.done)))) (Plan.one 12 (Plan.take 3 (Plan.take 13 (Plan.one 14 (Plan.done)))))))))))))))))) fol (by kernel_rfl) (Nat.le_of_ble_eq_true rfl) fun K hK => ?_
      have J : ∀ g b4 b' cap' rest', 1 ≤ cap' → rest'.length = cap' - 1 → K (updL [(3, .pointer (some ⟨b2, 0, none⟩)), (5, .slice (some ⟨b3, 0, none⟩) c c), (15, .int .i64 (n : Int)), (16, .int .i64 (i : Int))] g) ((b', [.int .i64 (i : Int)] ++ rest') :: (b4, [.int .i64 (i : Int)]) :: (b3, cs.set j (.slice (some ⟨b', 0, none⟩) 1 cap')) :: (b2, ints .i64 (decTo w n)) :: T) := by
        intro g b4 b' cap' rest' hc hr'
        have hr2 : Row 1 (ints .i64 [(i : Int)]) 1 cap' ([.int .i64 (i : Int)] ++ rest') := Row.first rfl hc (by omega)
        have h5 := g5 [(i : Int)] _ _ (SlN.row (b := b') hr2)
        have e2 : [(i : Int)] = coRow w (j : Int) i ++ [(i : Int)] := by
          have := congrArg List.length e1
          rw [ints_length] at this
          rw [List.eq_nil_of_length_eq_zero this]; rfl
        rw [e2, coTab_set hjc hj] at h5
        refine hK _ _ ?_
        clear hK K
        refine inBN ?_
        refine thenN ?_
        refine Cd.rr [3, 5, 15, 16] fun K hK => ?_
        simp (maxSteps := 2000000) (disch := first | (simp only [E4, hl, hm, dl, hdj, hu, d2] <;> omega) | omega | fail) only [↓E2, E3, bare, bareJ, ↓E0, E1, env0, envN, evOps, evOp, evQs, evQ, evV, setD, pureOp, ev, upd, updL, binW, eqOp, binV, intOp, shOp, boolOp, hav, eqL, SameI, strOp, ↓reduceIte, Zj, Zk, Nat.reduceAdd, Nat.reduceLT, Nat.reduceEqDiff, Nat.reduceMul, Nat.reduceLeDiff, if_true, Zn, reduceCtorEq, ZA, eq_self, Int.reduceLE, Int.reduceLT, Int.reduceToNat, ne_eq, Nat.reduceSub, hl, hm, dl, nb2_b1, nb3_b2, nb3_b1, hdj, hu, d2]
        repeat refine And.intro (by omega) ?_
        repeat refine And.intro (by omega) ?_
        intro g
        simp only [List.map_cons, List.map_nil, updL, upd, Nat.reduceEqDiff, if_true, if_false, ↓reduceIte]
        refine hK _ _ ?_; clear hK K
        subst hT
        exact roundN (m := q - 1) (by omega) ⟨_, i + 1, _, _, _, _, by omega, hrow.set (by omega) _, h5, rfl, perm_row, List.Sublist.cons_cons _ (List.Sublist.cons _ (List.Sublist.refl _))⟩
      clear hK
      simp (maxSteps := 2000000) (disch := first | (simp only [E4, hl, hm, dl, hdj, hu, d2] <;> omega) | omega | fail) only [↓E2, E3, bare, bareJ, ↓E0, E1, evP, evPlan, env0, envN, evOps, evOp, evQs, evQ, evV, setD, pureOp, ev, upd, updL, indexAddrV, cellAt, cellsAt, findB, setB, Value.cells, lenV, hav, bslQ, appQ, partsOk, partsCells, delB, apzQ, ↓reduceIte, Zj, Zk, Nat.reduceAdd, Nat.reduceLT, Nat.reduceEqDiff, Nat.reduceMul, Nat.reduceLeDiff, if_true, Zn, reduceCtorEq, ZA, eq_self, Int.reduceLE, Int.reduceLT, Int.reduceToNat, ne_eq, Nat.reduceSub, Tarr100, Tby2, Tld3, Tld47, Tslc43, Tslc47, Tslce47, Tst47, Tzero2, ↓YR, hl, hm, dl, nb2_b1, nb3_b2, nb3_b1, hdj, hu, d2]
      repeat' first
          | omega
          | refine moreX_go ?_ ?_
          | with_reducible refine And.intro ?_ ?_
          | (with_reducible intro (b : Nat) (hb : Fresh _ _ b); have hb := hb.all; simp only [List.mem_cons, List.not_mem_nil, forall_eq_or_imp, or_false, forall_eq, false_implies, implies_true, and_true] at hb)
          | (with_reducible intro (b' : Nat) (cap' : Nat) (rest' : List Value) (hf' : Fresh _ _ b') (hc' : _ ≤ cap') (hr' : rest'.length = _); have hfa := hf'.all; simp only [List.mem_cons, List.not_mem_nil, forall_eq_or_imp, or_false, forall_eq, false_implies, implies_true, and_true] at hfa)
          | simp (maxSteps := 2000000) (disch := first | (simp only [E4, hl, hm, dl, hdj, hu, d2] <;> omega) | omega | fail) only [↓E2, E3, bare, bareJ, ↓E0, E1, evP, evPlan, env0, envN, evOps, evOp, evQs, evQ, evV, setD, pureOp, ev, upd, updL, indexAddrV, cellAt, cellsAt, findB, setB, Value.cells, lenV, hav, bslQ, appQ, partsOk, partsCells, delB, apzQ, ↓reduceIte, Zj, Zk, Nat.reduceAdd, Nat.reduceLT, Nat.reduceEqDiff, Nat.reduceMul, Nat.reduceLeDiff, if_true, Zn, reduceCtorEq, ZA, eq_self, Int.reduceLE, Int.reduceLT, Int.reduceToNat, ne_eq, Nat.reduceSub, Tarr100, Tby2, Tld3, Tld47, Tslc43, Tslc47, Tslce47, Tst47, Tzero2, ↓YR, hl, hm, dl, nb2_b1, nb3_b2, nb3_b1, hdj, hu, d2, *]
      all_goals
        repeat refine And.intro (by omega) ?_
        intro g
        simp only [List.map_cons, List.map_nil, updL, upd, Nat.reduceEqDiff, if_true, if_false, ↓reduceIte]
        exact J g _ _ _ _ hc' hr'
    · have s2 := hr.size1
      have s3 := hr.le
      have s4 := hr.len1
      rw [ints_length] at s4
      refine Cd.turn perm_row.symm ?_
      refine Cd.nodup fun hnd => ?_
      have d2 : ¬ b3 = b2 := (nodup_cases (nodup_cases hnd).2).1 (b2, ints .i64 (decTo w n)) (by simp)
      have d3 : ¬ bj = b2 := (nodup_cases hnd).1 (b2, ints .i64 (decTo w n)) (by simp)
      have d4 : ¬ bj = b3 := (nodup_cases hnd).1 (b3, cs) (by simp)
      have d4' : ¬ b3 = bj := fun e => d4 e.symm
      clear hnd
      generalize hT : A ++ B = T
      have f3 : j + 1 ≤ cs.length := by omega
      skip
      skip
      refine Cd.rs [3, 5, 6, 15, 16] fun K hK => ?_
      simp (maxSteps := 2000000) (disch := first | (simp only [E4, hl, hm, dl, hdj, hu, d2, d3, d4, d4'] <;> omega) | omega | fail) only [↓E2, E3, bare, bareJ, ↓E0, E1, env0, envN, evOps, evOp, evQs, evQ, evV, setD, pureOp, ev, upd, updL, hav, ↓reduceIte, Zj, Zk, Nat.reduceAdd, Nat.reduceLT, Nat.reduceEqDiff, Nat.reduceMul, Nat.reduceLeDiff, if_true, Zn, reduceCtorEq, ZA, eq_self, Int.reduceLE, Int.reduceLT, Int.reduceToNat, ne_eq, Nat.reduceSub, hl, hm, dl, nb2_b1, nb3_b2, nb3_b1, hdj, hu, d2, d3, d4, d4']
      repeat refine And.intro (by omega) ?_
      repeat refine And.intro (by omega) ?_
      intro g
      simp only [List.map_cons, List.map_nil, updL, upd, Nat.reduceEqDiff, if_true, if_false, ↓reduceIte]
      refine hK _ _ ?_; clear hK K
      refine Cd.pr [3, 5, 15, 16] (Plan.take 0 (Plan.take 1 (Plan.take 2 (Plan.take 4 (Plan.take 5 (Plan.take 6 (Plan.take 7 (Plan.take 8 (Plan.take 9 (Plan.take 10 (Plan.more 3 (Plan.one 11 (Plan.one 12 (Plan.take 13 (Plan.one 14 (Plan.done))))) (Plan.one 11 (Plan.more 3 (Plan.one 12 (Plan.take 13 (Plan.one 14 (Plan.done)))) (Plan.one 12 (Plan.take 3 (Plan.take 13 (Plan.one 14 (Plan.done)))))))))))))))))) fol (by kernel_rfl) (Nat.le_of_ble_eq_true rfl) fun K hK => ?_
      have J : ∀ g b4 b' cap' rest', m + 1 ≤ cap' → rest'.length = cap' - (m + 1) → K (updL [(3, .pointer (some ⟨b2, 0, none⟩)), (5, .slice (some ⟨b3, 0, none⟩) c c), (15, .int .i64 (n : Int)), (16, .int .i64 (i : Int))] g) ((b', csj.take m ++ [.int .i64 (i : Int)] ++ rest') :: (b4, [.int .i64 (i : Int)]) :: (b3, cs.set j (.slice (some ⟨b', 0, none⟩) (m + 1) cap')) :: (b2, ints .i64 (decTo w n)) :: T) := by
        intro g b4 b' cap' rest' hc hr'
        have hr2 := hr.snoc1 (news := [.int .i64 (i : Int)]) rfl hc hr'
        rw [ints_snoc] at hr2
        have h5 := g5 _ _ _ (SlN.row (b := b') hr2)
        rw [coTab_set hjc hj] at h5
        refine hK _ _ ?_
        clear hK K
        refine inBN ?_
        refine thenN ?_
        refine Cd.rr [3, 5, 15, 16] fun K hK => ?_
        simp (maxSteps := 2000000) (disch := first | (simp only [E4, hl, hm, dl, hdj, hu, d2, d3, d4, d4'] <;> omega) | omega | fail) only [↓E2, E3, bare, bareJ, ↓E0, E1, env0, envN, evOps, evOp, evQs, evQ, evV, setD, pureOp, ev, upd, updL, binW, eqOp, binV, intOp, shOp, boolOp, hav, eqL, SameI, strOp, ↓reduceIte, Zj, Zk, Nat.reduceAdd, Nat.reduceLT, Nat.reduceEqDiff, Nat.reduceMul, Nat.reduceLeDiff, if_true, Zn, reduceCtorEq, ZA, eq_self, Int.reduceLE, Int.reduceLT, Int.reduceToNat, ne_eq, Nat.reduceSub, hl, hm, dl, nb2_b1, nb3_b2, nb3_b1, hdj, hu, d2, d3, d4, d4']
        repeat refine And.intro (by omega) ?_
        repeat refine And.intro (by omega) ?_
        intro g
        simp only [List.map_cons, List.map_nil, updL, upd, Nat.reduceEqDiff, if_true, if_false, ↓reduceIte]
        refine hK _ _ ?_; clear hK K
        subst hT
        exact roundN (m := q - 1) (by omega) ⟨_, i + 1, _, _, _, _, by omega, hrow.set (by omega) _, h5, rfl, perm_row, List.Sublist.cons_cons _ (List.Sublist.cons _ (List.Sublist.refl _))⟩
      clear hK
      simp (maxSteps := 2000000) (disch := first | (simp only [E4, hl, hm, dl, hdj, hu, d2, d3, d4, d4'] <;> omega) | omega | fail) only [↓E2, E3, bare, bareJ, ↓E0, E1, evP, evPlan, env0, envN, evOps, evOp, evQs, evQ, evV, setD, pureOp, ev, upd, updL, indexAddrV, cellAt, cellsAt, findB, setB, Value.cells, lenV, hav, bslQ, appQ, partsOk, partsCells, delB, apzQ, ↓reduceIte, Zj, Zk, Nat.reduceAdd, Nat.reduceLT, Nat.reduceEqDiff, Nat.reduceMul, Nat.reduceLeDiff, if_true, Zn, reduceCtorEq, ZA, eq_self, Int.reduceLE, Int.reduceLT, Int.reduceToNat, ne_eq, Nat.reduceSub, Tarr100, Tby2, Tld3, Tld47, Tslc43, Tslc47, Tslce47, Tst47, Tzero2, ↓YR, hl, hm, dl, nb2_b1, nb3_b2, nb3_b1, hdj, hu, d2, d3, d4, d4']
      repeat' first
          | omega
          | refine moreX_go ?_ ?_
          | with_reducible refine And.intro ?_ ?_
          | (with_reducible intro (b : Nat) (hb : Fresh _ _ b); have hb := hb.all; simp only [List.mem_cons, List.not_mem_nil, forall_eq_or_imp, or_false, forall_eq, false_implies, implies_true, and_true] at hb)
          | (with_reducible intro (b' : Nat) (cap' : Nat) (rest' : List Value) (hf' : Fresh _ _ b') (hc' : _ ≤ cap') (hr' : rest'.length = _); have hfa := hf'.all; simp only [List.mem_cons, List.not_mem_nil, forall_eq_or_imp, or_false, forall_eq, false_implies, implies_true, and_true] at hfa)
          | simp (maxSteps := 2000000) (disch := first | (simp only [E4, hl, hm, dl, hdj, hu, d2, d3, d4, d4'] <;> omega) | omega | fail) only [↓E2, E3, bare, bareJ, ↓E0, E1, evP, evPlan, env0, envN, evOps, evOp, evQs, evQ, evV, setD, pureOp, ev, upd, updL, indexAddrV, cellAt, cellsAt, findB, setB, Value.cells, lenV, hav, bslQ, appQ, partsOk, partsCells, delB, apzQ, ↓reduceIte, Zj, Zk, Nat.reduceAdd, Nat.reduceLT, Nat.reduceEqDiff, Nat.reduceMul, Nat.reduceLeDiff, if_true, Zn, reduceCtorEq, ZA, eq_self, Int.reduceLE, Int.reduceLT, Int.reduceToNat, ne_eq, Nat.reduceSub, Tarr100, Tby2, Tld3, Tld47, Tslc43, Tslc47, Tslce47, Tst47, Tzero2, ↓YR, hl, hm, dl, nb2_b1, nb3_b2, nb3_b1, hdj, hu, d2, d3, d4, d4', *]
      all_goals
        repeat refine And.intro (by omega) ?_
        intro g
        simp only [List.map_cons, List.map_nil, updL, upd, Nat.reduceEqDiff, if_true, if_false, ↓reduceIte]
        exact J g _ _ _ _ hc' hr'
  · refine Cd.exit (thenX (roundX (inBX ?_)))
    refine thenN ?_
    obtain rfl : i = n := by omega
    refine Cd.rs [2] fun K hK => ?_
    simp (maxSteps := 2000000) (disch := first | (simp only [E4, hl, hm, dl] <;> omega) | omega | fail) only [↓E2, E3, bare, bareJ, ↓E0, E1, env0, envN, evOps, evOp, evQs, evQ, evV, setD, pureOp, ev, upd, updL, hav, ↓reduceIte, Zj, Zk, Nat.reduceAdd, Nat.reduceLT, Nat.reduceEqDiff, Nat.reduceMul, Nat.reduceLeDiff, if_true, Zn, reduceCtorEq, ZA, eq_self, Int.reduceLE, Int.reduceLT, Int.reduceToNat, ne_eq, Nat.reduceSub, hl, hm, dl, nb2_b1, nb3_b2, nb3_b1]
    repeat refine And.intro (by omega) ?_
    repeat refine And.intro (by omega) ?_
    intro g
    simp only [List.map_cons, List.map_nil, updL, upd, Nat.reduceEqDiff, if_true, if_false, ↓reduceIte]
    refine hK _ _ ?_; clear hK K
    refine Cd.drop (M' := (b3, cs) :: Mi) (List.Sublist.cons_cons _ (List.Sublist.cons _ (List.Sublist.refl _))) ?_
    refine Cd.ret ?_
    simp (maxSteps := 2000000) (disch := first | (simp only [E4, hl, hm, dl] <;> omega) | omega | fail) only [↓E2, E3, bare, bareJ, ↓E0, E1, evP, evPlan, env0, envN, evOps, evOp, evQs, evQ, evV, setD, pureOp, ev, upd, updL, gate, binW, eqOp, binV, intOp, shOp, boolOp, unV, convV, nilV, fieldAddrV, indexAddrV, extractV, cellAt, cellsAt, findB, setB, fillL, buildV, Value.cells, lenV, minV, maxV, hav, sliceV, loV, hiV, bslQ, mksQ, appQ, partsOk, partsCells, delB, eqL, SameI, strOp, apzQ, cvtQ, capV, ↓reduceIte, Zj, Zk, Nat.reduceAdd, Nat.reduceLT, Nat.reduceEqDiff, Nat.reduceMul, Nat.reduceLeDiff, if_true, Zn, reduceCtorEq, ZA, eq_self, Int.reduceLE, Int.reduceLT, Int.reduceToNat, ne_eq, Nat.reduceSub, hl, hm, dl, nb2_b1, nb3_b2, nb3_b1]
    repeat refine And.intro (by omega) ?_
    exact .inr ⟨b3, c, c, cs, vs, Mi, rfl, rfl, hrow, hrows⟩
end

end Go.Proofs

/-
  What the functions of this part hand back: each as a plain function of its arguments. Conditions: none.
-/
namespace Go.Proofs
open Go.W8
set_option linter.unusedVariables false
set_option linter.unusedSimpArgs false
set_option linter.unusedSectionVars false
set_option maxRecDepth 8000
set_option maxHeartbeats 4000000
section
variable (s : Int) (x o : List Int) (hx : Bytes8 x) (ho : Bytes8 o)
include hx ho
end
def coL (s : Int) (x o : List Int) : List (List Int) := if gridB s x o then coTab (comps s.toNat x o).1 s.toNat (comps s.toNat x o).2 else []
theorem iComponentsOf_c (s : Int) (x o : List Int) (hx : Bytes8 x) (ho : Bytes8 o) (Post : Value → Blks → Prop) (h : gridB s x o = true → GivesX Try.prog 103 #[.agg (gc s x o).toArray] [] [] Post) :
    GivesX Try.prog 34 #[.agg (gc s x o).toArray] [] [] (wrapP s x o Post (.slice none 0 0)) := by
  have hl := hx.len
  have hm := ho.len
  skip
  have hW := wholeSS_c s x o hx ho 103 #[] #[] Post h
  refine GivesX.of (callable_of Try.func34 rfl (by decide)) ?_ fun w hnd hlt hR => ?_
  · simp
  refine acall_of (N := 8) (c := _) (rs := [.tmp 2, .tmp 3]) (args := [_]) Try.func34 rfl (by decide) rfl rfl (Nat.le_of_ble_eq_true rfl) ?_
  refine Cd.rs [1] fun K hK => ?_
  simp (maxSteps := 2000000) (disch := first | (simp only [E4, hl, hm] <;> omega) | omega | fail) only [↓E2, E3, bare, bareJ, ↓E0, E1, env0, envN, evOps, evOp, evQs, evQ, evV, setD, pureOp, ev, upd, updL, Value.cells, hav, ↓reduceIte, Zj, Zk, Nat.reduceAdd, Nat.reduceLT, Nat.reduceEqDiff, Nat.reduceMul, Nat.reduceLeDiff, if_true, Zn, reduceCtorEq, ZA, eq_self, Int.reduceLE, Int.reduceLT, Int.reduceToNat, ne_eq, Nat.reduceSub, hl, hm]
  repeat refine And.intro (by omega) ?_
  intro b1 hb1
  try simp (maxSteps := 2000000) (disch := first | (simp only [E4, hl, hm] <;> omega) | omega | fail) only [↓E2, E3, bare, bareJ, ↓E0, E1, env0, envN, evOps, evOp, evQs, evQ, evV, setD, pureOp, ev, upd, updL, Value.cells, hav, ↓reduceIte, Zj, Zk, Nat.reduceAdd, Nat.reduceLT, Nat.reduceEqDiff, Nat.reduceMul, Nat.reduceLeDiff, if_true, Zn, reduceCtorEq, ZA, eq_self, Int.reduceLE, Int.reduceLT, Int.reduceToNat, ne_eq, Nat.reduceSub, hl, hm]
  repeat refine And.intro (by omega) ?_
  repeat refine And.intro (by omega) ?_
  intro g
  simp only [List.map_cons, List.map_nil, updL, upd, Nat.reduceEqDiff, if_true, if_false, ↓reduceIte]
  refine hK _ _ ?_; clear hK K
  refine Cd.rs [2, 3] fun K hK => ?_
  simp (maxSteps := 2000000) (disch := first | (simp only [E4, hl, hm] <;> omega) | omega | fail) only [↓E2, E3, bare, bareJ, ↓E0, E1, env0, envN, evOps, evOp, evQs, evQ, evV, setD, pureOp, ev, upd, updL, extractV, cellAt, cellsAt, findB, setB, hav, ↓reduceIte, Zj, Zk, Nat.reduceAdd, Nat.reduceLT, Nat.reduceEqDiff, Nat.reduceMul, Nat.reduceLeDiff, if_true, Zn, reduceCtorEq, ZA, eq_self, Int.reduceLE, Int.reduceLT, Int.reduceToNat, ne_eq, Nat.reduceSub, Tld32, hl, hm]
  repeat refine And.intro (by omega) ?_
  refine callK_new0 hW (fun _ _ => toldW_nil) ?_
  intro v M' hP _ _
  obtain ⟨u, c, rfl⟩ := wrapP_pair hP
  simp (maxSteps := 2000000) (disch := first | (simp only [E4, hl, hm] <;> omega) | omega | fail) only [↓E2, E3, bare, bareJ, ↓E0, E1, env0, envN, evOps, evOp, evQs, evQ, evV, setD, pureOp, ev, upd, updL, extractV, cellAt, cellsAt, findB, setB, hav, ↓reduceIte, Zj, Zk, Nat.reduceAdd, Nat.reduceLT, Nat.reduceEqDiff, Nat.reduceMul, Nat.reduceLeDiff, if_true, Zn, reduceCtorEq, ZA, eq_self, Int.reduceLE, Int.reduceLT, Int.reduceToNat, ne_eq, Nat.reduceSub, Tld32, hl, hm]
  repeat refine And.intro (by omega) ?_
  repeat refine And.intro (by omega) ?_
  intro g
  simp only [List.map_cons, List.map_nil, updL, upd, Nat.reduceEqDiff, if_true, if_false, ↓reduceIte]
  refine hK _ _ ?_; clear hK K
  refine Cd.drop (List.sublist_append_left _ _) ?_
  refine Cd.ret ?_
  simp (maxSteps := 2000000) (disch := first | (simp only [E4, hl, hm] <;> omega) | omega | fail) only [↓E2, E3, bare, bareJ, ↓E0, E1, evP, evPlan, env0, envN, evOps, evOp, evQs, evQ, evV, setD, pureOp, ev, upd, updL, gate, binW, eqOp, binV, intOp, shOp, boolOp, unV, convV, nilV, fieldAddrV, indexAddrV, extractV, cellAt, cellsAt, findB, setB, fillL, buildV, Value.cells, lenV, minV, maxV, hav, sliceV, loV, hiV, bslQ, mksQ, appQ, partsOk, partsCells, delB, eqL, SameI, strOp, apzQ, cvtQ, capV, ↓reduceIte, Zj, Zk, Nat.reduceAdd, Nat.reduceLT, Nat.reduceEqDiff, Nat.reduceMul, Nat.reduceLeDiff, if_true, Zn, reduceCtorEq, ZA, eq_self, Int.reduceLE, Int.reduceLT, Int.reduceToNat, ne_eq, Nat.reduceSub, hl, hm]
  repeat refine And.intro (by omega) ?_
  exact hP

theorem implComponentsOf_c (s : Int) (x o : List Int) (hx : Bytes8 x) (ho : Bytes8 o) : GivesX Try.prog 34 #[.agg (gc s x o).toArray] [] [] (ResS (SlSl (coL s x o)) (codeG s x o)) := by
  refine (iComponentsOf_c s x o hx ho (SlSl (coTab (comps s.toNat x o).1 s.toNat (comps s.toNat x o).2)) fun h1 => ?_).mono fun v M h => wrapP_res h (fun hg _ _ h => by unfold coL; rw [if_pos hg]; exact h) fun hn => by unfold coL; rw [if_neg hn]; exact .inl ⟨rfl, rfl, rfl⟩
  obtain ⟨n, rfl, h2, h8, px, po⟩ := gridB_perm h1
  rw [Int.toNat_natCast]
  exact iComponentsOf1_c n x o hx ho h8 px po

end Go.Proofs

/-
  What the functions of this part hand back: each as a plain function of its arguments. Conditions: none.
-/
namespace Go.Proofs
open Go.W8
set_option linter.unusedVariables false
set_option linter.unusedSimpArgs false
set_option linter.unusedSectionVars false
set_option maxRecDepth 8000
set_option maxHeartbeats 4000000
/-- Two spans have no end in common, and lie beside or within each other. -/
def freeB (a b c d : Int) : Bool := !(a == c || a == d || b == c || b == d) && ((decide (min a b < c) && decide (c < max a b)) == (decide (min a b < d) && decide (d < max a b)))

end Go.Proofs

/-
  What the functions of this part hand back: each as a plain function of its arguments. Conditions: none.
-/
namespace Go.Proofs
open Go.W8
set_option linter.unusedVariables false
set_option linter.unusedSimpArgs false
set_option linter.unusedSectionVars false
set_option maxRecDepth 8000
set_option maxHeartbeats 4000000
def betw (x a b : Int) : Bool := decide (min a b < x) && decide (x < max a b)
/-- The sign of the crossing of a column and a row, 0 if there is none. -/
def crossS (n : Nat) (x o : List Int) (i r : Nat) : Int :=
  if betw (r : Int) (x.getD i 0) (o.getD i 0) && betw (i : Int) (rowOf x n (r : Int)) (rowOf o n (r : Int)) then if (decide (o.getD i 0 > x.getD i 0) == decide ((rowOf x n (r : Int) : Int) < (rowOf o n (r : Int) : Int))) then 1 else -1 else 0
section
variable (n : Nat) (x o : List Int) (hx : Bytes8 x) (ho : Bytes8 o) (hn : n ≤ 8) (i r : Nat) (hi : i < n) (hr : r < n)
include hx ho hn hi hr
end

end Go.Proofs

/-
  What the functions of this part hand back: each as a plain function of its arguments. Conditions: none.
-/
namespace Go.Proofs
open Go.W8
set_option linter.unusedVariables false
set_option linter.unusedSimpArgs false
set_option linter.unusedSectionVars false
set_option maxRecDepth 8000
set_option maxHeartbeats 4000000
def crRow (n : Nat) (x o : List Int) (i : Nat) : Nat → List Int
  | 0 => []
  | r + 1 => crRow n x o i r ++ if crossS n x o i r = 0 then [] else [(i : Int), (r : Int), crossS n x o i r]
/-- The crossings, column by column, three numbers each. -/
def crTo (n : Nat) (x o : List Int) : Nat → List Int
  | 0 => []
  | i + 1 => crTo n x o i ++ crRow n x o i n
/-- A slice of rows of w numbers each, in a block of its own. -/
def Sl (w : Nat) (l : List Int) (v : Value) (M : Blks) : Prop := ∃ b m cap rest, v = .slice (some ⟨b, 0, none⟩) m cap ∧ l.length = m * w ∧ m ≤ cap ∧ (ints .i64 l ++ rest).length = cap * w ∧ M = [(b, ints .i64 l ++ rest)]
section
variable (n : Nat) (x o : List Int) (hx : Bytes8 x) (ho : Bytes8 o) (hn : n ≤ 8)
include hx ho hn
end

end Go.Proofs

/-
  What the functions of this part hand back: each as a plain function of its arguments. Conditions: none.
-/
namespace Go.Proofs
open Go.W8
set_option linter.unusedVariables false
set_option linter.unusedSimpArgs false
set_option linter.unusedSectionVars false
set_option maxRecDepth 8000
set_option maxHeartbeats 4000000
def crL (s : Int) (x o : List Int) : List Int := if gridB s x o then crTo s.toNat x o s.toNat else []
def crR (s : Int) (x o : List Int) : Value → Blks → Prop := ResS (SlN 3 (ints .i64 (crL s x o))) (codeG s x o)
end Go.Proofs

/-
  What the functions of this part hand back: each as a plain function of its arguments. Conditions: none.
-/
namespace Go.Proofs
open Go.W8
set_option linter.unusedVariables false
set_option linter.unusedSimpArgs false
set_option linter.unusedSectionVars false
set_option maxRecDepth 8000
set_option maxHeartbeats 4000000
/-- Rows of three: a column, a row and a sign each. -/
def Trip (n : Nat) (l : List Int) (m : Nat) : Prop := l.length = m * 3 ∧ ∀ k, k < m → ∃ i r : Nat, i < n ∧ r < n ∧ l.getD (k * 3) 0 = (i : Int) ∧ l.getD (k * 3 + 1) 0 = (r : Int) ∧ (l.getD (k * 3 + 2) 0 = 1 ∨ l.getD (k * 3 + 2) 0 = -1)
theorem getD_app {l l' : List Int} {i : Nat} : (l ++ l').getD i 0 = if i < l.length then l.getD i 0 else l'.getD (i - l.length) 0 := by
  rw [List.getD_eq_getElem?_getD]
  split
  · rename_i h
    rw [List.getElem?_append_left h, ← List.getD_eq_getElem?_getD]
  · rename_i h
    rw [List.getElem?_append_right (by omega), ← List.getD_eq_getElem?_getD]
theorem Trip.append {n : Nat} {l l' : List Int} {m m' : Nat} (h : Trip n l m) (h' : Trip n l' m') : Trip n (l ++ l') (m + m') := by
  refine ⟨by rw [List.length_append, h.1, h'.1]; omega, fun k hk => ?_⟩
  rw [getD_app, getD_app, getD_app, h.1]
  by_cases hkm : k < m
  · rw [if_pos (by omega), if_pos (by omega), if_pos (by omega)]
    exact h.2 k hkm
  · rw [if_neg (by omega), if_neg (by omega), if_neg (by omega)]
    have := h'.2 (k - m) (by omega)
    rw [show k * 3 - m * 3 = (k - m) * 3 by omega, show k * 3 + 1 - m * 3 = (k - m) * 3 + 1 by omega, show k * 3 + 2 - m * 3 = (k - m) * 3 + 2 by omega]
    exact this
/-- The sums of the signs of the first k crossings, by two numbers of each. -/
def lkS (A B : Nat → Nat) (l : List Int) : Nat → Nat → Nat → Int
  | 0, _, _ => 0
  | k + 1, a, b => lkS A B l k a b + if A k = a ∧ B k = b then l.getD (k * 3 + 2) 0 else 0
def lkE (A B : Nat → Nat) (l : List Int) (k a b : Nat) : Int := if a = b then lkS A B l k a b else lkS A B l k a b + lkS A B l k b a
def lkF (A B : Nat → Nat) (l : List Int) (k a b : Nat) : Int := if a = b then lkS A B l k a b else (lkS A B l k a b + lkS A B l k b a).tdiv 2
/-- A square table. -/
def gtab (c : Nat) (F : Nat → Nat → Int) : List (List Int) := (List.range c).map fun a => (List.range c).map fun b => F a b
def grow (c : Nat) (F : Nat → Nat → Int) (a : Nat) : List Int := (List.range c).map fun b => F a b
section
variable {c a b : Nat} {F G : Nat → Nat → Int}
end
section
variable {A B : Nat → Nat} {l : List Int} {k c : Nat}
/-- Halved up to a place. -/
def lkH (A B : Nat → Nat) (l : List Int) (m p q : Nat) : Nat → Nat → Int := fun a b => if a < p ∨ (a = p ∧ b < q) then lkF A B l m a b else lkE A B l m a b
end
/-- The components of a crossing's column and of its row's X. -/
def lkA (n : Nat) (x o : List Int) (k : Nat) : Nat := ((comps n x o).1.getD ((crTo n x o n).getD (k * 3) 0).toNat 0).toNat
def lkB (n : Nat) (x o : List Int) (k : Nat) : Nat := ((comps n x o).1.getD (rowOf x n ((crTo n x o n).getD (k * 3 + 1) 0)) 0).toNat
def lkTab (n : Nat) (x o : List Int) : List (List Int) := gtab (comps n x o).2 (lkF (lkA n x o) (lkB n x o) (crTo n x o n) ((crTo n x o n).length / 3))

end Go.Proofs

/-
  What the functions of this part hand back: each as a plain function of its arguments. Conditions: none.
-/
namespace Go.Proofs
open Go.W8
set_option linter.unusedVariables false
set_option linter.unusedSimpArgs false
set_option linter.unusedSectionVars false
set_option maxRecDepth 8000
set_option maxHeartbeats 4000000
/-- The numbers other than 0 among the first ones. -/
def fz (F : Nat → Int) : Nat → List Int
  | 0 => []
  | k + 1 => fz F k ++ if F k = 0 then [] else [F k]
/-- The same from the last one down. -/
def fzr (F : Nat → Int) (n : Nat) : Nat → List Int
  | 0 => []
  | d + 1 => fzr F n d ++ if F (n - d - 1) = 0 then [] else [F (n - d - 1)]
/-- The number of the first crossing in a column and a row. -/
def numT (T : List Int) (i r : Int) : Nat → Int
  | 0 => 0
  | k + 1 => if numT T i r k = 0 then (if T.getD (k * 3) 0 = i ∧ T.getD (k * 3 + 1) 0 = r then (k : Int) + 1 else 0) else numT T i r k
def dnT (T : List Int) (i : Int) : Nat → List Int
  | 0 => []
  | k + 1 => dnT T i k ++ if T.getD (k * 3) 0 = i then [(k : Int) + 1] else []
def acT (T : List Int) (r : Int) : Nat → List Int
  | 0 => []
  | k + 1 => acT T r k ++ if T.getD (k * 3 + 1) 0 = r then [-((k : Int) + 1)] else []
section
variable (n : Nat) (x o : List Int)
def cR (i : Nat) : Nat → Nat
  | 0 => 0
  | r + 1 => cR i r + if crossS n x o i r = 0 then 0 else 1
def cC : Nat → Nat
  | 0 => 0
  | i + 1 => cC i + cR n x o i n
def nm (i r : Nat) : Int := if crossS n x o i r = 0 then 0 else ((cC n x o i + cR n x o i r : Nat) : Int) + 1
end
section
variable {n : Nat} {x o : List Int}
end

end Go.Proofs

/-
  What the functions of this part hand back: each as a plain function of its arguments. Conditions: none.
-/
namespace Go.Proofs
open Go.W8
set_option linter.unusedVariables false
set_option linter.unusedSimpArgs false
set_option linter.unusedSectionVars false
set_option maxRecDepth 8000
set_option maxHeartbeats 4000000
/-- The columns that a walk labels. -/
def walkL (nx : Nat → Nat) (c : Int) : Nat → Nat → List Int → List Nat
  | 0, _, _ => []
  | f + 1, k, l => if l.getD k 0 < 0 then k :: walkL nx c f (nx k) (l.set k c) else []
/-- The walks from the columns ahead of i. -/
def wTo (nx : Nat → Nat) : Nat → List (List Nat)
  | 0 => []
  | i + 1 => if 0 ≤ (compTo nx i).1.getD i 0 then wTo nx i else wTo nx i ++ [walkL nx (compTo nx i).2 8 i (compTo nx i).1]
/-- A walk that ends where i0 is met again. -/
def Ch (nx : Nat → Nat) (n i0 : Nat) : Nat → List Nat → Prop
  | k, [] => k = i0
  | k, a :: W => a = k ∧ k < n ∧ (W ≠ [] → nx k ≠ i0) ∧ Ch nx n i0 (nx k) W
theorem walkL_nil {nx : Nat → Nat} {c : Int} {k : Nat} {l : List Int} (h : ¬ l.getD k 0 < 0) : ∀ f, walkL nx c f k l = []
  | 0 => rfl
  | f + 1 => by unfold walkL; rw [if_neg h]
theorem walkL_step {nx : Nat → Nat} {c : Int} {k f : Nat} {l : List Int} (h : l.getD k 0 < 0) : walkL nx c (f + 1) k l = k :: walkL nx c f (nx k) (l.set k c) := by
  show (if _ then _ else _) = _
  rw [if_pos h]
theorem wTo_same {nx : Nat → Nat} {i : Nat} (h : 0 ≤ (compTo nx i).1.getD i 0) : wTo nx (i + 1) = wTo nx i := by
  show (if _ then _ else _) = _
  rw [if_pos h]
theorem wTo_more {nx : Nat → Nat} {i : Nat} (h : ¬ 0 ≤ (compTo nx i).1.getD i 0) : wTo nx (i + 1) = wTo nx i ++ [walkL nx (compTo nx i).2 8 i (compTo nx i).1] := by
  show (if _ then _ else _) = _
  rw [if_neg h]
theorem wTo_len (nx : Nat → Nat) : ∀ i, (wTo nx i).length = (compTo nx i).2
  | 0 => rfl
  | i + 1 => by
    by_cases h : 0 ≤ (compTo nx i).1.getD i 0
    · rw [wTo_same h, compTo_same h]; exact wTo_len nx i
    · rw [wTo_more h, compTo_more h, List.length_append, wTo_len nx i]; rfl
section
variable {nx : Nat → Nat} {n : Nat} (hlt : ∀ j, j < n → nx j < n) (hinj : ∀ j, j < n → ∀ k, k < n → nx j = nx k → j = k)
include hlt hinj
/-- A walk along columns of which none is labelled without the one ahead of it closes where it began. -/
theorem walk_ch {c : Int} (hc : 0 ≤ c) {i0 : Nat} : ∀ (f k : Nat) (l : List Int), negs l ≤ f → l.length = 8 → n ≤ 8 → k < n → (∀ j, j < n → 0 ≤ l.getD (nx j) 0 → 0 ≤ l.getD j 0 ∨ nx j = i0) →
    ((k = i0 ∧ l.getD k 0 < 0) ∨ (0 ≤ l.getD i0 0 ∧ (l.getD k 0 < 0 ∨ k = i0) ∧ ∃ p, p < n ∧ nx p = k ∧ 0 ≤ l.getD p 0)) →
    Ch nx n i0 k (walkL nx c f k l) ∧ (∀ j, j < n → 0 ≤ (walkC nx c f k l).getD (nx j) 0 → 0 ≤ (walkC nx c f k l).getD j 0) := by
  intro f
  induction f with
  | zero =>
    intro k l hng hl hn hk hcl hd
    have hng0 : negs l = 0 := by omega
    have hk0 : ¬ l.getD k 0 < 0 := fun h => by
      have := negs_pos (l := l) (k := k) (by omega) h
      omega
    rcases hd with ⟨_, h⟩ | ⟨h1, h2, p, hp, hpk, hpl⟩
    · exact absurd h hk0
    · have e : k = i0 := h2.resolve_left hk0
      refine ⟨e, fun j hj h => ?_⟩
      rcases hcl j hj h with h3 | h3
      · exact h3
      · have : j = p := hinj j hj p hp (by rw [h3, hpk, e])
        rw [this]; exact hpl
  | succ f ih =>
    intro k l hng hl hn hk hcl hd
    by_cases h : l.getD k 0 < 0
    · have hs := negs_set hc l k (by omega) h
      rw [walkL_step h, walkC_step h]
      have hset : ∀ j, (l.set k c).getD j 0 = if k = j then c else l.getD j 0 := fun j => cgetD_set (by omega)
      have hpre : k ≠ i0 → ∃ p, p < n ∧ nx p = k ∧ 0 ≤ l.getD p 0 := fun he => by
        rcases hd with ⟨h1, _⟩ | ⟨_, _, hp⟩
        · exact absurd h1 he
        · exact hp
      have hi0 : 0 ≤ (l.set k c).getD i0 0 := by
        rw [hset]
        split
        · exact hc
        · rename_i he
          rcases hd with ⟨h1, _⟩ | ⟨h1, _⟩
          · exact absurd h1 he
          · exact h1
      have hend : 0 ≤ (l.set k c).getD (nx k) 0 → nx k = i0 := fun h1 => by
        rw [hset] at h1
        by_cases e : k = nx k
        · by_cases e0 : k = i0
          · omega
          · obtain ⟨p, hp, hpk, hpl⟩ := hpre e0
            have := hinj p hp k hk (by rw [hpk]; exact e)
            rw [this] at hpl
            omega
        · rw [if_neg e] at h1
          rcases hcl k hk h1 with h2 | h2
          · omega
          · exact h2
      have hst : (l.set k c).getD (nx k) 0 < 0 ∨ nx k = i0 := by
        by_cases h1 : 0 ≤ (l.set k c).getD (nx k) 0
        · exact .inr (hend h1)
        · exact .inl (by omega)
      have := ih (nx k) (l.set k c) (by omega) (by rw [List.length_set]; exact hl) hn (hlt k hk) (fun j hj h1 => by
          rw [hset] at h1
          rw [hset]
          by_cases e : k = nx j
          · by_cases e0 : k = i0
            · right; omega
            · left
              obtain ⟨p, hp, hpk, hpl⟩ := hpre e0
              have := hinj p hp j hj (by rw [hpk]; exact e)
              subst this
              split
              · exact hc
              · exact hpl
          · rw [if_neg e] at h1
            rcases hcl j hj h1 with h2 | h2
            · left
              split
              · exact hc
              · exact h2
            · right; exact h2) (.inr ⟨hi0, hst, k, hk, rfl, by rw [hset, if_pos rfl]; exact hc⟩)
      refine ⟨⟨rfl, hk, fun hW he => hW ?_, this.1⟩, this.2⟩
      refine walkL_nil ?_ f
      rw [he]; omega
    · rw [walkL_nil h, walkC_end h]
      rcases hd with ⟨_, h1⟩ | ⟨h1, h2, p, hp, hpk, hpl⟩
      · exact absurd h1 h
      · have e : k = i0 := h2.resolve_left h
        refine ⟨e, fun j hj h => ?_⟩
        rcases hcl j hj h with h3 | h3
        · exact h3
        · have : j = p := hinj j hj p hp (by rw [h3, hpk, e])
          rw [this]; exact hpl
theorem compTo_closed (hn : n ≤ 8) : ∀ i, i ≤ n → ∀ j, j < n → 0 ≤ (compTo nx i).1.getD (nx j) 0 → 0 ≤ (compTo nx i).1.getD j 0
  | 0, _, j, hj, h => by
    have hb := hlt j hj
    have : (compTo nx 0).1.getD (nx j) 0 = -1 := by
      show (List.replicate 8 (-1 : Int)).getD (nx j) 0 = -1
      rw [List.getD_eq_getElem?_getD, List.getElem?_replicate_of_lt (by omega)]; rfl
    omega
  | i + 1, hi, j, hj, h => by
    have ih := compTo_closed hn i (by omega)
    by_cases h0 : 0 ≤ (compTo nx i).1.getD i 0
    · rw [compTo_same h0] at h ⊢
      exact ih j hj h
    · rw [compTo_more h0] at h ⊢
      exact (walk_ch hlt hinj (c := ((compTo nx i).2 : Int)) (by omega) (i0 := i) 8 i (compTo nx i).1 (negs_le (compTo_len nx i)) (compTo_len nx i) hn (by omega) (fun j hj h => .inl (ih j hj h)) (.inl ⟨rfl, by omega⟩)).2 j hj h
theorem walk_at (hn : n ≤ 8) {i : Nat} (hi : i < n) (h0 : ¬ 0 ≤ (compTo nx i).1.getD i 0) : ∃ W, walkL nx (compTo nx i).2 8 i (compTo nx i).1 = i :: W ∧ Ch nx n i i (i :: W) := by
  have h := (walk_ch hlt hinj (c := ((compTo nx i).2 : Int)) (by omega) (i0 := i) 8 i (compTo nx i).1 (negs_le (compTo_len nx i)) (compTo_len nx i) hn hi (fun j hj h => .inl (compTo_closed hlt hinj hn i (by omega) j hj h)) (.inl ⟨rfl, by omega⟩)).1
  rw [walkL_step (by omega)] at h ⊢
  exact ⟨_, rfl, h⟩
/-- The reference's way to a component: the first column with its label. -/
theorem comp_start (hn : n ≤ 8) : ∀ m, m ≤ n → ∀ c, c < (compTo nx m).2 → ∃ i, i < m ∧ (compTo nx m).1.getD i 0 = (c : Int) ∧ (∀ j, j < i → (compTo nx m).1.getD j 0 ≠ (c : Int)) ∧ ∃ W, (wTo nx m)[c]? = some (i :: W) ∧ Ch nx n i i (i :: W)
  | 0, _, c, hc => absurd hc (Nat.not_lt_zero _)
  | m + 1, hm, c, hc => by
    have ih := comp_start hn m (by omega)
    by_cases h0 : 0 ≤ (compTo nx m).1.getD m 0
    · rw [compTo_same h0] at hc ⊢
      rw [wTo_same h0]
      obtain ⟨i, h1, h2⟩ := ih c hc
      exact ⟨i, by omega, h2⟩
    · have hold : ∀ j, j < m → (compTo nx (m + 1)).1.getD j 0 = (compTo nx m).1.getD j 0 := fun j hj => by
        rw [compTo_more h0]
        rcases walkC_get (nx := nx) (c := ((compTo nx m).2 : Int)) (by omega) 8 m (compTo nx m).1 j with h | ⟨_, h⟩
        · exact h
        · have := compTo_done nx m (by omega) j hj
          omega
      have hself : (compTo nx (m + 1)).1.getD m 0 = ((compTo nx m).2 : Int) := by
        rw [compTo_more h0]
        exact walkC_self (by omega) (by rw [compTo_len]; omega) (by omega)
      have hcnt : (compTo nx (m + 1)).2 = (compTo nx m).2 + 1 := by rw [compTo_more h0]
      rw [wTo_more h0]
      by_cases hcm : c < (compTo nx m).2
      · obtain ⟨i, h1, h2, h3, W, h4, h5⟩ := ih c hcm
        refine ⟨i, by omega, by rw [hold i h1]; exact h2, fun j hj => by rw [hold j (by omega)]; exact h3 j hj, W, ?_, h5⟩
        rw [List.getElem?_append_left (by rw [wTo_len]; exact hcm)]
        exact h4
      · have e : c = (compTo nx m).2 := by omega
        subst e
        obtain ⟨W, hW, hCh⟩ := walk_at hlt hinj hn (i := m) (by omega) h0
        refine ⟨m, by omega, hself, fun j hj => ?_, W, ?_, hCh⟩
        · rw [hold j hj]
          have := compTo_bound nx m j (by omega)
          omega
        · rw [List.getElem?_append_right (by rw [wTo_len]; exact Nat.le_refl _), wTo_len, Nat.sub_self, hW]
          rfl
end
section
variable {n : Nat} {x o : List Int} (hx : Bytes8 x) (ho : Bytes8 o) (hn : n ≤ 8) (hp : IsPerm x n) (hq : IsPerm o n)
include hx ho hn hp hq
theorem nextOf_lt : ∀ j, j < n → nextOf n x o j < n := fun j hj => by
  have c2 := hq.1 j hj
  have c3 := bytes_get ho (i := j) (by omega)
  exact (rowOf_lt (fun i hi => (bytes_get hx (by omega)).1) hp c3.1 c2).1
theorem nextOf_inj : ∀ j, j < n → ∀ k, k < n → nextOf n x o j = nextOf n x o k → j = k := fun j hj k hk h => by
  have c2 := hq.1 j hj
  have c3 := bytes_get ho (i := j) (by omega)
  have d2 := hq.1 k hk
  have d3 := bytes_get ho (i := k) (by omega)
  have := rowOf_inj (fun i hi => (bytes_get hx (by omega)).1) hp c3.1 c2 d3.1 d2 h
  rcases Nat.lt_trichotomy j k with h2 | h2 | h2
  · exact absurd this (hq.2.1 k hk j h2)
  · exact h2
  · exact absurd this.symm (hq.2.1 j hj k h2)
end
/-- The numbers that a walk meets in a column and in the row of its O. -/
def cdL (n : Nat) (x o : List Int) (i : Nat) : List Int :=
  (if o.getD i 0 < x.getD i 0 then (fz (nm n x o i) n).reverse else fz (nm n x o i) n) ++
  (if nextOf n x o i < i then (fz (fun j => -nm n x o j (o.getD i 0).toNat) n).reverse else fz (fun j => -nm n x o j (o.getD i 0).toNat) n)
def cdW (n : Nat) (x o : List Int) : List Nat → List Int
  | [] => []
  | a :: W => cdL n x o a ++ cdW n x o W
def gaussL (n : Nat) (x o : List Int) : List (List Int) := (wTo (nextOf n x o) n).map (cdW n x o)
end Go.Proofs

/-
  What the functions of this part hand back: each as a plain function of its arguments. Conditions: none.
-/
namespace Go.Proofs
open Go.W8
set_option linter.unusedVariables false
set_option linter.unusedSimpArgs false
set_option linter.unusedSectionVars false
set_option maxRecDepth 8000
set_option maxHeartbeats 4000000
--@plain
section
variable {nx : Nat → Nat} {n : Nat} (hlt : ∀ j, j < n → nx j < n) (hinj : ∀ j, j < n → ∀ k, k < n → nx j = nx k → j = k)
include hlt
/-- A walk labels columns so that a label stands at the next column too. -/
theorem walk_same {c : Int} (hc : 0 ≤ c) {l0 : List Int} (H0 : ∀ j, j < n → 0 ≤ l0.getD j 0 → l0.getD (nx j) 0 = l0.getD j 0) (C0 : ∀ j, j < n → 0 ≤ l0.getD (nx j) 0 → 0 ≤ l0.getD j 0) (hn : n ≤ 8) :
    ∀ (f k : Nat) (l : List Int), negs l ≤ f → l.length = 8 → k < n → l0.getD k 0 < 0 → (∀ j, l.getD j 0 = l0.getD j 0 ∨ (l.getD j 0 = c ∧ l0.getD j 0 < 0)) → (∀ j, j < n → l0.getD j 0 < 0 → l.getD j 0 = c → l.getD (nx j) 0 = c ∨ nx j = k) →
      ∀ j, j < n → 0 ≤ (walkC nx c f k l).getD j 0 → (walkC nx c f k l).getD (nx j) 0 = (walkC nx c f k l).getD j 0 := by
  have fin : ∀ (k : Nat) (l : List Int), l0.getD k 0 < 0 → ¬ l.getD k 0 < 0 → (∀ j, l.getD j 0 = l0.getD j 0 ∨ (l.getD j 0 = c ∧ l0.getD j 0 < 0)) → (∀ j, j < n → l0.getD j 0 < 0 → l.getD j 0 = c → l.getD (nx j) 0 = c ∨ nx j = k) →
      ∀ j, j < n → 0 ≤ l.getD j 0 → l.getD (nx j) 0 = l.getD j 0 := by
    intro k l hk hlk ha hb j hj hlj
    have hkc : l.getD k 0 = c := by
      rcases ha k with h | h
      · omega
      · exact h.1
    rcases ha j with h | h
    · have h1 := H0 j hj (by omega)
      rcases ha (nx j) with h2 | h2
      · omega
      · omega
    · rcases hb j hj h.2 h.1 with h2 | h2
      · omega
      · rw [h2]; omega
  intro f
  induction f with
  | zero =>
    intro k l hng hl hk hlk ha hb
    have hk0 : ¬ l.getD k 0 < 0 := fun h => by
      have := negs_pos (l := l) (k := k) (by omega) h
      omega
    exact fin k l hlk hk0 ha hb
  | succ f ih =>
    intro k l hng hl hk hlk ha hb
    by_cases h : l.getD k 0 < 0
    · have hs := negs_set hc l k (by omega) h
      have hset : ∀ j, (l.set k c).getD j 0 = if k = j then c else l.getD j 0 := fun j => cgetD_set (by omega)
      rw [walkC_step h]
      refine ih (nx k) (l.set k c) (by omega) (by rw [List.length_set]; exact hl) (hlt k hk) ?_ (fun j => ?_) (fun j hj hj0 hjc => ?_)
      · rcases Int.lt_or_le (l0.getD (nx k) 0) 0 with h1 | h1
        · exact h1
        · have := C0 k hk h1
          omega
      · rw [hset]
        split
        · rename_i e; subst e; exact .inr ⟨rfl, hlk⟩
        · exact ha j
      · rw [hset] at hjc ⊢
        by_cases e : k = j
        · subst e; exact .inr rfl
        · rw [if_neg e] at hjc
          rcases hb j hj hj0 hjc with h1 | h1
          · left
            split
            · rfl
            · exact h1
          · left; rw [if_pos h1.symm]
    · rw [walkC_end h]
      exact fin k l hlk h ha hb
include hinj
theorem comp_same (hn : n ≤ 8) : ∀ i, i ≤ n → ∀ j, j < n → 0 ≤ (compTo nx i).1.getD j 0 → (compTo nx i).1.getD (nx j) 0 = (compTo nx i).1.getD j 0
  | 0, _, j, hj, h => by
    have : (compTo nx 0).1.getD j 0 = -1 := by
      show (List.replicate 8 (-1 : Int)).getD j 0 = -1
      rw [List.getD_eq_getElem?_getD, List.getElem?_replicate_of_lt (by omega)]; rfl
    omega
  | i + 1, hi, j, hj, h => by
    have ih := comp_same hn i (by omega)
    by_cases h0 : 0 ≤ (compTo nx i).1.getD i 0
    · rw [compTo_same h0] at h ⊢
      exact ih j hj h
    · rw [compTo_more h0] at h ⊢
      exact walk_same hlt (c := ((compTo nx i).2 : Int)) (by omega) ih (compTo_closed hlt hinj hn i (by omega)) hn 8 i (compTo nx i).1 (negs_le (compTo_len nx i)) (compTo_len nx i) (by omega) (by omega) (fun j => .inl rfl) (fun j hj h1 h2 => by omega) j hj h
omit hinj
theorem walk_val {c : Int} {g : Nat → Nat} (hg : ∀ j, j < n → g (nx j) = g j) : ∀ (f k : Nat) (l : List Int), k < n → ∀ j, j < n → 0 ≤ (walkC nx c f k l).getD j 0 → 0 ≤ l.getD j 0 ∨ g j = g k
  | 0, _, _, _, _, _, h => .inl h
  | f + 1, k, l, hk, j, hj, h => by
    by_cases h0 : l.getD k 0 < 0
    · rw [walkC_step h0] at h
      rcases walk_val hg f (nx k) (l.set k c) (hlt k hk) j hj h with h1 | h1
      · by_cases hkl : k < l.length
        · rw [cgetD_set hkl] at h1
          by_cases e : k = j
          · subst e; exact .inr rfl
          · rw [if_neg e] at h1; exact .inl h1
        · rw [List.set_eq_of_length_le (by omega)] at h1
          exact .inl h1
      · right; rw [h1]; exact hg k hk
    · rw [walkC_end h0] at h; exact .inl h
theorem comp_vals {g : Nat → Nat} (hg : ∀ j, j < n → g (nx j) = g j) : ∀ i, i ≤ n → ∃ L : List Nat, L.length = (compTo nx i).2 ∧ ∀ j, j < n → 0 ≤ (compTo nx i).1.getD j 0 → j < 8 → g j ∈ L
  | 0, _ => ⟨[], rfl, fun j hj h h8 => by
    have : (compTo nx 0).1.getD j 0 = -1 := by
      show (List.replicate 8 (-1 : Int)).getD j 0 = -1
      rw [List.getD_eq_getElem?_getD, List.getElem?_replicate_of_lt h8]; rfl
    omega⟩
  | i + 1, hi => by
    obtain ⟨L, h1, h2⟩ := comp_vals hg i (by omega)
    by_cases h0 : 0 ≤ (compTo nx i).1.getD i 0
    · rw [compTo_same h0]; exact ⟨L, h1, h2⟩
    · rw [compTo_more h0]
      refine ⟨g i :: L, by simp [h1], fun j hj h h8 => ?_⟩
      rcases walk_val hlt hg 8 i (compTo nx i).1 (by omega) j hj h with h3 | h3
      · exact List.mem_cons_of_mem _ (h2 j hj h3 h8)
      · rw [h3]; exact List.mem_cons_self ..
omit hlt
theorem cover_le : ∀ (d : Nat) (L : List Nat), (∀ k, k < d → k ∈ L) → d ≤ L.length
  | 0, _, _ => Nat.zero_le _
  | d + 1, L, h => by
    have h1 := h d (by omega)
    have h2 := cover_le d (L.erase d) fun k hk => (List.mem_erase_of_ne (by omega)).2 (h k (by omega))
    rw [List.length_erase_of_mem h1] at h2
    have : 0 < L.length := List.length_pos_of_mem h1
    omega
include hlt
theorem comp_le (hn : n ≤ 8) {g : Nat → Nat} (hg : ∀ j, j < n → g (nx j) = g j) {d : Nat} (hs : ∀ k, k < d → ∃ j, j < n ∧ g j = k) : d ≤ (compTo nx n).2 := by
  obtain ⟨L, h1, h2⟩ := comp_vals hlt hg n (Nat.le_refl _)
  rw [← h1]
  refine cover_le d L fun k hk => ?_
  obtain ⟨j, hj, rfl⟩ := hs k hk
  exact h2 j hj (compTo_done nx n hn j hj) (by omega)
include hinj
theorem comp_val (hn : n ≤ 8) : ∃ g : Nat → Nat, (∀ j, j < n → g (nx j) = g j) ∧ ∀ k, k < (compTo nx n).2 → ∃ j, j < n ∧ g j = k := by
  refine ⟨fun j => ((compTo nx n).1.getD j 0).toNat, fun j hj => ?_, fun k hk => ?_⟩
  · show ((compTo nx n).1.getD (nx j) 0).toNat = _
    rw [comp_same hlt hinj hn n (Nat.le_refl _) j hj (compTo_done nx n hn j hj)]
  · obtain ⟨i, h1, h2, _⟩ := comp_start hlt hinj hn n (Nat.le_refl _) k hk
    exact ⟨i, h1, by show ((compTo nx n).1.getD i 0).toNat = k; rw [h2]; omega⟩
end
/-- A column more on the way: as many components. -/
theorem comp_insert {nx nx' : Nat → Nat} {n v k0 : Nat} {e : Nat → Nat} (hn : n + 1 ≤ 8) (hlt : ∀ j, j < n → nx j < n) (hinj : ∀ j, j < n → ∀ k, k < n → nx j = nx k → j = k)
    (hlt' : ∀ j, j < n + 1 → nx' j < n + 1) (hinj' : ∀ j, j < n + 1 → ∀ k, k < n + 1 → nx' j = nx' k → j = k)
    (he : ∀ k, k < n → e k < n + 1) (hv : v < n + 1) (hcov : ∀ q, q < n + 1 → q = v ∨ ∃ k, k < n ∧ q = e k) (heinj : ∀ k k', k < n → k' < n → e k = e k' → k = k') (hne : ∀ k, k < n → e k ≠ v)
    (hk0 : k0 < n) (hk0' : nx' (e k0) = v) (hstep : ∀ k, k < n → nx' (e k) = e (nx k) ∨ (nx' (e k) = v ∧ nx' v = e (nx k))) : (compTo nx' (n + 1)).2 = (compTo nx n).2 := by
  refine Nat.le_antisymm ?_ ?_
  · obtain ⟨g, h1, h2⟩ := comp_val hlt' hinj' hn
    refine comp_le hlt (by omega) (g := fun j => g (e j)) (fun j hj => ?_) fun k hk => ?_
    · show g (e (nx j)) = g (e j)
      rcases hstep j hj with h | ⟨h, h'⟩
      · rw [← h]; exact h1 _ (he j hj)
      · rw [← h', h1 v hv, ← h]; exact h1 _ (he j hj)
    · obtain ⟨q, hq, hgq⟩ := h2 k hk
      rcases hcov q hq with rfl | ⟨j, hj, rfl⟩
      · refine ⟨k0, hk0, ?_⟩
        show g (e k0) = k
        rw [← h1 (e k0) (he k0 hk0), hk0']; exact hgq
      · exact ⟨j, hj, hgq⟩
  · obtain ⟨g, h1, h2⟩ := comp_val hlt hinj (by omega)
    have hp : ∀ q, ∃ p, p < n ∧ ∀ k, k < n → q = e k → p = k := fun q => by
      by_cases h : ∃ k, k < n ∧ q = e k
      · obtain ⟨k, hk, rfl⟩ := h
        exact ⟨k, hk, fun k' hk' e' => heinj k k' hk hk' e'⟩
      · exact ⟨k0, hk0, fun k hk e' => absurd ⟨k, hk, e'⟩ h⟩
    have hw : ∃ p : Nat → Nat, ∀ q, (q = v → p q = k0) ∧ ∀ k, k < n → q = e k → p q = k := by
      refine ⟨fun q => if q = v then k0 else (hp q).choose, fun q => ⟨fun h => if_pos h, fun k hk h => ?_⟩⟩
      show (if q = v then k0 else (hp q).choose) = k
      rw [if_neg (fun h' => hne k hk (by rw [← h, h']))]
      exact (hp q).choose_spec.2 k hk h
    obtain ⟨p, hpp⟩ := hw
    have hpv : p v = k0 := (hpp v).1 rfl
    have hpe : ∀ k, k < n → p (e k) = k := fun k hk => (hpp (e k)).2 k hk rfl
    refine comp_le hlt' hn (g := fun q => g (p q)) (fun q hq => ?_) fun k hk => ?_
    · show g (p (nx' q)) = g (p q)
      rcases hcov q hq with rfl | ⟨j, hj, rfl⟩
      · rcases hstep k0 hk0 with h | ⟨h, h'⟩
        · exact absurd (hk0'.symm.trans h).symm (hne _ (hlt k0 hk0))
        · rw [h', hpe _ (hlt k0 hk0), hpv]; exact h1 k0 hk0
      · rcases hstep j hj with h | ⟨h, h'⟩
        · rw [h, hpe _ (hlt j hj), hpe j hj]; exact h1 j hj
        · rw [h, hpv, hpe j hj]
          have := hinj' _ (he j hj) _ (he k0 hk0) (h.trans hk0'.symm)
          rw [heinj j k0 hj hk0 this]
    · obtain ⟨j, hj, hgj⟩ := h2 k hk
      exact ⟨e j, he j hj, by show g (p (e j)) = k; rw [hpe j hj]; exact hgj⟩

end Go.Proofs

/-
  What the functions of this part hand back: each as a plain function of its arguments. Conditions: none.
-/
namespace Go.Proofs
open Go.W8
set_option linter.unusedVariables false
set_option linter.unusedSimpArgs false
set_option linter.unusedSectionVars false
set_option maxRecDepth 8000
set_option maxHeartbeats 4000000
--@plain
theorem bytes8_of {x : List Int} (hl : x.length = 8) (h : ∀ q, q < 8 → 0 ≤ x.getD q 0 ∧ x.getD q 0 < 256) : Bytes8 x := by
  have key : ∀ a ∈ x, 0 ≤ a ∧ a < 256 := fun a ha => by
    obtain ⟨q, hq, rfl⟩ := List.mem_iff_getElem.1 ha
    have := h q (by omega)
    rwa [List.getD_eq_getElem?_getD, List.getElem?_eq_getElem hq] at this
  exact ⟨hl, fun a ha => (key a ha).1, fun a ha => (key a ha).2⟩
theorem lf_inj {r u a b : Int} (hu : u = 0 ∨ u = 1) (h : liftF r u a = liftF r u b) : a = b := by
  unfold liftF at h
  split at h <;> split at h <;> (try split at h) <;> (try split at h) <;> omega
theorem lf_ne {r u a : Int} (hu : u = 0 ∨ u = 1) : liftF r u a ≠ r + (1 - u) := by
  unfold liftF
  split <;> (try split) <;> omega
theorem lf_nr {r u a : Int} (h : a ≠ r) : liftF r u a ≠ r ∧ liftF r u a ≠ r + 1 := by
  unfold liftF
  split <;> (try split) <;> omega
theorem lf_rng {r u a n : Int} (hu : u = 0 ∨ u = 1) (h0 : 0 ≤ a) (h : a < n) : 0 ≤ liftF r u a ∧ liftF r u a < n + 1 := by
  unfold liftF
  split <;> (try split) <;> omega
section
variable {own oth : List Int} {n i rt : Nat} {u : Int} (hn : n + 1 ≤ 8) (po : IsPerm own n) (pt : IsPerm oth n) (h0 : ∀ c, c < n → 0 ≤ own.getD c 0) (h0' : ∀ c, c < n → 0 ≤ oth.getD c 0)
  (hd : ∀ c, c < n → own.getD c 0 ≠ oth.getD c 0) (hi : i < n) (hrt : rt ≤ 1) (hu : u = 0 ∨ u = 1)
include hn hi hrt
omit hn in
theorem st_cov {q : Nat} (hq : q < n + 1) : q = i + 1 - rt ∨ ∃ k, k < n ∧ q = colK i rt k := by
  by_cases h1 : q = i + 1 - rt
  · exact .inl h1
  · right
    by_cases h2 : q < i
    · exact ⟨q, by omega, by unfold colK; rw [if_pos h2]⟩
    · by_cases h3 : q = i + rt
      · exact ⟨i, hi, by unfold colK; rw [if_neg (by omega), if_pos rfl, h3]⟩
      · exact ⟨q - 1, by omega, by unfold colK; rw [if_neg (by omega), if_neg (by omega)]; omega⟩
omit hn in
theorem st_inj {k k' : Nat} (h : colK i rt k = colK i rt k') : k = k' := by
  unfold colK at h
  split at h <;> split at h <;> (try split at h) <;> (try split at h) <;> omega
omit hn in
theorem st_nv (k : Nat) : colK i rt k ≠ i + 1 - rt := by
  unfold colK
  split <;> (try split) <;> omega
omit hn in
theorem st_lt {k : Nat} (hk : k < n) : colK i rt k < n + 1 := by
  unfold colK
  split <;> (try split) <;> omega
theorem stA_e {k : Nat} (hk : k < n) (h : k ≠ i) : (tab (grA own i rt u n)).getD (colK i rt k) 0 = liftF (own.getD i 0) u (own.getD k 0) := by
  rw [tab_get (by have := st_lt hi hrt hk; omega)]
  unfold grA colK
  grind
theorem stA_a : (tab (grA own i rt u n)).getD (colK i rt i) 0 = own.getD i 0 + (1 - u) := by
  rw [tab_get (by have := st_lt hi hrt hi; omega)]
  unfold grA colK
  grind
theorem stA_v : (tab (grA own i rt u n)).getD (i + 1 - rt) 0 = own.getD i 0 + u := by
  rw [tab_get (by omega)]
  unfold grA
  grind
theorem stB_e {k : Nat} (hk : k < n) : (tab (grB own oth i rt u n)).getD (colK i rt k) 0 = liftF (own.getD i 0) u (oth.getD k 0) := by
  rw [tab_get (by have := st_lt hi hrt hk; omega)]
  unfold grB colK
  grind
theorem stB_v : (tab (grB own oth i rt u n)).getD (i + 1 - rt) 0 = own.getD i 0 + (1 - u) := by
  rw [tab_get (by omega)]
  unfold grB
  grind
theorem stA_z {q : Nat} (hq : q < 8) (h : n + 1 ≤ q) : (tab (grA own i rt u n)).getD q 0 = 0 := by
  rw [tab_get hq]
  unfold grA
  grind
theorem stB_z {q : Nat} (hq : q < 8) (h : n + 1 ≤ q) : (tab (grB own oth i rt u n)).getD q 0 = 0 := by
  rw [tab_get hq]
  unfold grB
  grind
include hu po h0
theorem stA_rng {q : Nat} (hq : q < n + 1) : 0 ≤ (tab (grA own i rt u n)).getD q 0 ∧ (tab (grA own i rt u n)).getD q 0 < (n : Int) + 1 := by
  have hr := po.1 i hi
  have hr0 := h0 i hi
  rcases st_cov hi hrt hq with rfl | ⟨k, hk, rfl⟩
  · rw [stA_v hn hi hrt]; omega
  · by_cases e : k = i
    · subst e; rw [stA_a hn hi hrt]; omega
    · rw [stA_e hn hi hrt hk e]; exact lf_rng hu (h0 k hk) (po.1 k hk)
theorem stA_inj {q p : Nat} (hq : q < n + 1) (hp : p < n + 1) (h : (tab (grA own i rt u n)).getD q 0 = (tab (grA own i rt u n)).getD p 0) : q = p := by
  have hne : ∀ k, k < n → k ≠ i → own.getD k 0 ≠ own.getD i 0 := fun k hk e => perm_ne po hk hi e
  rcases st_cov hi hrt hq with rfl | ⟨k, hk, rfl⟩ <;> rcases st_cov hi hrt hp with rfl | ⟨k', hk', rfl⟩
  · rfl
  · rw [stA_v hn hi hrt] at h
    by_cases e : k' = i
    · subst e; rw [stA_a hn hi hrt] at h; omega
    · rw [stA_e hn hi hrt hk' e] at h
      have := lf_nr (u := u) (hne k' hk' e)
      omega
  · rw [stA_v hn hi hrt] at h
    by_cases e : k = i
    · subst e; rw [stA_a hn hi hrt] at h; omega
    · rw [stA_e hn hi hrt hk e] at h
      have := lf_nr (u := u) (hne k hk e)
      omega
  · congr 1
    by_cases e : k = i <;> by_cases e' : k' = i
    · omega
    · subst e
      rw [stA_a hn hi hrt, stA_e hn hi hrt hk' e'] at h
      exact absurd h.symm (lf_ne hu)
    · subst e'
      rw [stA_a hn hi hrt, stA_e hn hi hrt hk e] at h
      exact absurd h (lf_ne hu)
    · rw [stA_e hn hi hrt hk e, stA_e hn hi hrt hk' e'] at h
      have := lf_inj hu h
      by_cases e2 : k = k'
      · exact e2
      · exact absurd this (perm_ne po hk hk' e2)
theorem stA_perm : IsPerm (tab (grA own i rt u n)) (n + 1) := by
  refine ⟨fun q hq => by have := (stA_rng hn po h0 hi hrt hu hq).2; omega, fun q hq p hp h => ?_, fun q hq h => stA_z hn hi hrt hq h⟩
  have := stA_inj hn po h0 hi hrt hu (by omega) hq h
  omega
theorem stA_bytes : Bytes8 (tab (grA own i rt u n)) := by
  refine bytes8_of (tab_len _) fun q hq => ?_
  by_cases h : q < n + 1
  · have := stA_rng hn po h0 hi hrt hu h; omega
  · rw [stA_z hn hi hrt hq (by omega)]; omega
include pt h0'
theorem stB_rng {q : Nat} (hq : q < n + 1) : 0 ≤ (tab (grB own oth i rt u n)).getD q 0 ∧ (tab (grB own oth i rt u n)).getD q 0 < (n : Int) + 1 := by
  have hr := po.1 i hi
  have hr0 := h0 i hi
  rcases st_cov hi hrt hq with rfl | ⟨k, hk, rfl⟩
  · rw [stB_v hn hi hrt]; omega
  · rw [stB_e hn hi hrt hk]; exact lf_rng hu (h0' k hk) (pt.1 k hk)
theorem stB_inj {q p : Nat} (hq : q < n + 1) (hp : p < n + 1) (h : (tab (grB own oth i rt u n)).getD q 0 = (tab (grB own oth i rt u n)).getD p 0) : q = p := by
  rcases st_cov hi hrt hq with rfl | ⟨k, hk, rfl⟩ <;> rcases st_cov hi hrt hp with rfl | ⟨k', hk', rfl⟩
  · rfl
  · rw [stB_v hn hi hrt, stB_e hn hi hrt hk'] at h
    exact absurd h.symm (lf_ne hu)
  · rw [stB_v hn hi hrt, stB_e hn hi hrt hk] at h
    exact absurd h (lf_ne hu)
  · congr 1
    rw [stB_e hn hi hrt hk, stB_e hn hi hrt hk'] at h
    have := lf_inj hu h
    by_cases e2 : k = k'
    · exact e2
    · exact absurd this (perm_ne pt hk hk' e2)
theorem stB_perm : IsPerm (tab (grB own oth i rt u n)) (n + 1) := by
  refine ⟨fun q hq => by have := (stB_rng hn po pt h0 h0' hi hrt hu hq).2; omega, fun q hq p hp h => ?_, fun q hq h => stB_z hn hi hrt hq h⟩
  have := stB_inj hn po pt h0 h0' hi hrt hu (by omega) hq h
  omega
theorem stB_bytes : Bytes8 (tab (grB own oth i rt u n)) := by
  refine bytes8_of (tab_len _) fun q hq => ?_
  by_cases h : q < n + 1
  · have := stB_rng hn po pt h0 h0' hi hrt hu h; omega
  · rw [stB_z hn hi hrt hq (by omega)]; omega
include hd
theorem st_apart {q : Nat} (hq : q < n + 1) : (tab (grA own i rt u n)).getD q 0 ≠ (tab (grB own oth i rt u n)).getD q 0 := by
  rcases st_cov hi hrt hq with rfl | ⟨k, hk, rfl⟩
  · rw [stA_v hn hi hrt, stB_v hn hi hrt]; omega
  · rw [stB_e hn hi hrt hk]
    by_cases e : k = i
    · subst e; rw [stA_a hn hi hrt]; exact (lf_ne hu).symm
    · rw [stA_e hn hi hrt hk e]
      exact fun h => hd k hk (lf_inj hu h)
theorem st_back {u' : Nat} (e : u = (u' : Int)) : Back (tab (grA own i rt u n)) (tab (grB own oth i rt u n)) i (own.getD i 0) rt u' := by
  refine back_of (a := own) (b := oth) (n := n + 1) (by omega) (by omega) hrt (by omega) rfl (hd i hi) ?_ ?_
  · rw [e, Nat.add_sub_cancel]
  · rw [e, Nat.add_sub_cancel]
theorem st_oldA (hl : own.length = 8) : tab (shrK (tab (grA own i rt u n)) i rt (own.getD i 0) (n + 1)) = own := by
  refine (tab_eq hl fun q hq => ?_).symm
  have z := po.2.2 q hq
  have k1 : q < n → q ≠ i → own.getD q 0 ≠ own.getD i 0 := fun h e => perm_ne po h hi e
  have g1 : ∀ k, k < n → k ≠ i → (tab (grA own i rt u n)).getD (colK i rt k) 0 = liftF (own.getD i 0) u (own.getD k 0) := fun k hk e => stA_e hn hi hrt hk e
  have g2 := stA_a (own := own) (u := u) hn hi hrt
  have g3 := g1 q
  have g4 := stA_z (own := own) (u := u) hn hi hrt (q := q) hq
  unfold colK at g2 g3
  unfold shrK lowF
  unfold liftF at g3
  grind
theorem st_oldB (hl : oth.length = 8) : tab (shrK (tab (grB own oth i rt u n)) i rt (own.getD i 0) (n + 1)) = oth := by
  refine (tab_eq hl fun q hq => ?_).symm
  have z := pt.2.2 q hq
  have g3 : q < n → _ := fun h => stB_e (own := own) (oth := oth) (u := u) hn hi hrt h
  have g2 := stB_e (own := own) (oth := oth) (u := u) hn hi hrt hi
  unfold colK at g2 g3
  unfold shrK lowF
  unfold liftF at g3 g2
  grind
end

end Go.Proofs

/-
  What the functions of this part hand back: each as a plain function of its arguments. Conditions: none.
-/
namespace Go.Proofs
open Go.W8
set_option linter.unusedVariables false
set_option linter.unusedSimpArgs false
set_option linter.unusedSectionVars false
set_option maxRecDepth 8000
set_option maxHeartbeats 4000000
--@plain
theorem lf_self {r u : Int} : liftF r u r = r + u := by
  unfold liftF
  rw [if_neg (by omega), if_pos rfl]
section
variable {own oth : List Int} {n i rt : Nat} {u : Int} (hx : Bytes8 own) (ho : Bytes8 oth) (hn : n + 1 ≤ 8) (po : IsPerm own n) (pt : IsPerm oth n)
  (hd : ∀ c, c < n → own.getD c 0 ≠ oth.getD c 0) (hi : i < n) (hrt : rt ≤ 1) (hu : u = 0 ∨ u = 1)
include hx ho hn po pt hi hrt hu
theorem st_comps0 : (comps (n + 1) (tab (grA own i rt u n)) (tab (grB own oth i rt u n))).2 = (comps n own oth).2 := by
  have h0 : ∀ c, c < n → 0 ≤ own.getD c 0 := fun c hc => (bytes_get hx (by omega)).1
  have h0' : ∀ c, c < n → 0 ≤ oth.getD c 0 := fun c hc => (bytes_get ho (by omega)).1
  have pA := stA_perm hn po h0 hi hrt hu
  have pB := stB_perm hn po pt h0 h0' hi hrt hu
  have bA := stA_bytes hn po h0 hi hrt hu
  have bB := stB_bytes hn po pt h0 h0' hi hrt hu
  have hv : i + 1 - rt < n + 1 := by omega
  have hAv := rowOf_perm pA hv
  rw [stA_v hn hi hrt] at hAv
  have hAi := rowOf_perm pA (st_lt hi hrt hi)
  rw [stA_a hn hi hrt] at hAi
  have hm := fun k (hk : k < n) => rowOf_lt h0 po (h0' k hk) (pt.1 k hk)
  obtain ⟨k0, hk0, hk0r⟩ := perm_surj h0' pt (h0 i hi) (po.1 i hi)
  have step1 : ∀ k, k < n → oth.getD k 0 = own.getD i 0 → nextOf (n + 1) (tab (grA own i rt u n)) (tab (grB own oth i rt u n)) (colK i rt k) = i + 1 - rt := fun k hk e => by
    unfold nextOf
    rw [stB_e hn hi hrt hk, e, lf_self, hAv]
  refine comp_insert (e := colK i rt) (v := i + 1 - rt) (k0 := k0) hn (nextOf_lt hx ho (by omega) po pt) (nextOf_inj hx ho (by omega) po pt) (nextOf_lt bA bB hn pA pB) (nextOf_inj bA bB hn pA pB)
    (fun k hk => st_lt hi hrt hk) hv (fun q hq => st_cov hi hrt hq) (fun k k' _ _ h => st_inj hi hrt h) (fun k _ => st_nv hi hrt k) hk0 (step1 k0 hk0 hk0r) fun k hk => ?_
  obtain ⟨m1, m2⟩ := hm k hk
  by_cases e : oth.getD k 0 = own.getD i 0
  · right
    refine ⟨step1 k hk e, ?_⟩
    have hmi : nextOf n own oth k = i := by
      unfold nextOf
      by_cases h : rowOf own n (oth.getD k 0) = i
      · exact h
      · exact absurd (m2.trans e) (perm_ne po m1 hi h)
    rw [hmi]
    show rowOf _ (n + 1) _ = _
    rw [stB_v hn hi hrt, hAi]
  · left
    show rowOf _ (n + 1) _ = colK i rt (rowOf own n (oth.getD k 0))
    have hne : rowOf own n (oth.getD k 0) ≠ i := fun h => e (by rw [← m2, h])
    have := rowOf_perm pA (st_lt hi hrt m1)
    rw [stA_e hn hi hrt m1 hne, m2] at this
    rw [stB_e hn hi hrt hk, this]
theorem st_comps1 : (comps (n + 1) (tab (grB own oth i rt u n)) (tab (grA own i rt u n))).2 = (comps n oth own).2 := by
  have h0 : ∀ c, c < n → 0 ≤ own.getD c 0 := fun c hc => (bytes_get hx (by omega)).1
  have h0' : ∀ c, c < n → 0 ≤ oth.getD c 0 := fun c hc => (bytes_get ho (by omega)).1
  have pA := stA_perm hn po h0 hi hrt hu
  have pB := stB_perm hn po pt h0 h0' hi hrt hu
  have bA := stA_bytes hn po h0 hi hrt hu
  have bB := stB_bytes hn po pt h0 h0' hi hrt hu
  have hv : i + 1 - rt < n + 1 := by omega
  have hBv := rowOf_perm pB hv
  rw [stB_v hn hi hrt] at hBv
  have hm := fun k (hk : k < n) => rowOf_lt h0' pt (h0 k hk) (po.1 k hk)
  have step1 : nextOf (n + 1) (tab (grB own oth i rt u n)) (tab (grA own i rt u n)) (colK i rt i) = i + 1 - rt := by
    unfold nextOf
    rw [stA_a hn hi hrt, hBv]
  refine comp_insert (e := colK i rt) (v := i + 1 - rt) (k0 := i) hn (nextOf_lt ho hx (by omega) pt po) (nextOf_inj ho hx (by omega) pt po) (nextOf_lt bB bA hn pB pA) (nextOf_inj bB bA hn pB pA)
    (fun k hk => st_lt hi hrt hk) hv (fun q hq => st_cov hi hrt hq) (fun k k' _ _ h => st_inj hi hrt h) (fun k _ => st_nv hi hrt k) hi step1 fun k hk => ?_
  obtain ⟨m1, m2⟩ := hm k hk
  have hB := rowOf_perm pB (st_lt hi hrt m1)
  rw [stB_e hn hi hrt m1, m2] at hB
  by_cases e : k = i
  · right
    subst e
    refine ⟨step1, ?_⟩
    show rowOf _ (n + 1) _ = colK k rt (rowOf oth n (own.getD k 0))
    rw [stA_v hn hi hrt]
    rw [lf_self] at hB
    exact hB
  · left
    show rowOf _ (n + 1) _ = colK i rt (rowOf oth n (own.getD k 0))
    rw [stA_e hn hi hrt hk e, hB]
end

end Go.Proofs

/-
  What the functions of this part hand back: each as a plain function of its arguments. Conditions: none.
-/
namespace Go.Proofs
open Go.W8
set_option linter.unusedVariables false
set_option linter.unusedSimpArgs false
set_option linter.unusedSectionVars false
set_option maxRecDepth 8000
set_option maxHeartbeats 4000000
def dpL (s : Int) (x o : List Int) : List (List Int) := if gridB s x o then plTo x o (s.toNat - 1) (s.toNat - 1) else []
theorem dpL_bound (s : Int) (x o : List Int) : (dpL s x o).length < 1000000 ∧ sumL (dpL s x o) < 1000000 := by
  unfold dpL
  split
  · rename_i h
    obtain ⟨n, rfl, h2, h8⟩ := gridB_s h
    rw [Int.toNat_natCast]
    have := plTo_bound x o (n - 1) (by omega) (n - 1)
    omega
  · simp [sumL]
theorem iDestabilizePlaces_c (s : Int) (x o : List Int) (hx : Bytes8 x) (ho : Bytes8 o) (Post : Value → Blks → Prop) (h : gridB s x o = true → GivesX Try.prog 98 #[.agg (gc s x o).toArray] [] [] Post) :
    GivesX Try.prog 30 #[.agg (gc s x o).toArray] [] [] (wrapP s x o Post (.slice none 0 0)) := by
  have hl := hx.len
  have hm := ho.len
  skip
  have hW := wholeSS_c s x o hx ho 98 #[] #[] Post h
  refine GivesX.of (callable_of Try.func30 rfl (by decide)) ?_ fun w hnd hlt hR => ?_
  · simp
  refine acall_of (N := 8) (c := _) (rs := [.tmp 2, .tmp 3]) (args := [_]) Try.func30 rfl (by decide) rfl rfl (Nat.le_of_ble_eq_true rfl) ?_
  refine Cd.rs [1] fun K hK => ?_
  simp (maxSteps := 2000000) (disch := first | (simp only [E4, hl, hm] <;> omega) | omega | fail) only [↓E2, E3, bare, bareJ, ↓E0, E1, env0, envN, evOps, evOp, evQs, evQ, evV, setD, pureOp, ev, upd, updL, Value.cells, hav, ↓reduceIte, Zj, Zk, Nat.reduceAdd, Nat.reduceLT, Nat.reduceEqDiff, Nat.reduceMul, Nat.reduceLeDiff, if_true, Zn, reduceCtorEq, ZA, eq_self, Int.reduceLE, Int.reduceLT, Int.reduceToNat, ne_eq, Nat.reduceSub, hl, hm]
  repeat refine And.intro (by omega) ?_
  intro b1 hb1
  try simp (maxSteps := 2000000) (disch := first | (simp only [E4, hl, hm] <;> omega) | omega | fail) only [↓E2, E3, bare, bareJ, ↓E0, E1, env0, envN, evOps, evOp, evQs, evQ, evV, setD, pureOp, ev, upd, updL, Value.cells, hav, ↓reduceIte, Zj, Zk, Nat.reduceAdd, Nat.reduceLT, Nat.reduceEqDiff, Nat.reduceMul, Nat.reduceLeDiff, if_true, Zn, reduceCtorEq, ZA, eq_self, Int.reduceLE, Int.reduceLT, Int.reduceToNat, ne_eq, Nat.reduceSub, hl, hm]
  repeat refine And.intro (by omega) ?_
  repeat refine And.intro (by omega) ?_
  intro g
  simp only [List.map_cons, List.map_nil, updL, upd, Nat.reduceEqDiff, if_true, if_false, ↓reduceIte]
  refine hK _ _ ?_; clear hK K
  refine Cd.rs [2, 3] fun K hK => ?_
  simp (maxSteps := 2000000) (disch := first | (simp only [E4, hl, hm] <;> omega) | omega | fail) only [↓E2, E3, bare, bareJ, ↓E0, E1, env0, envN, evOps, evOp, evQs, evQ, evV, setD, pureOp, ev, upd, updL, extractV, cellAt, cellsAt, findB, setB, hav, ↓reduceIte, Zj, Zk, Nat.reduceAdd, Nat.reduceLT, Nat.reduceEqDiff, Nat.reduceMul, Nat.reduceLeDiff, if_true, Zn, reduceCtorEq, ZA, eq_self, Int.reduceLE, Int.reduceLT, Int.reduceToNat, ne_eq, Nat.reduceSub, Tld32, hl, hm]
  repeat refine And.intro (by omega) ?_
  refine callK_new0 hW (fun _ _ => toldW_nil) ?_
  intro v M' hP _ _
  obtain ⟨u, c, rfl⟩ := wrapP_pair hP
  simp (maxSteps := 2000000) (disch := first | (simp only [E4, hl, hm] <;> omega) | omega | fail) only [↓E2, E3, bare, bareJ, ↓E0, E1, env0, envN, evOps, evOp, evQs, evQ, evV, setD, pureOp, ev, upd, updL, extractV, cellAt, cellsAt, findB, setB, hav, ↓reduceIte, Zj, Zk, Nat.reduceAdd, Nat.reduceLT, Nat.reduceEqDiff, Nat.reduceMul, Nat.reduceLeDiff, if_true, Zn, reduceCtorEq, ZA, eq_self, Int.reduceLE, Int.reduceLT, Int.reduceToNat, ne_eq, Nat.reduceSub, Tld32, hl, hm]
  repeat refine And.intro (by omega) ?_
  repeat refine And.intro (by omega) ?_
  intro g
  simp only [List.map_cons, List.map_nil, updL, upd, Nat.reduceEqDiff, if_true, if_false, ↓reduceIte]
  refine hK _ _ ?_; clear hK K
  refine Cd.drop (List.sublist_append_left _ _) ?_
  refine Cd.ret ?_
  simp (maxSteps := 2000000) (disch := first | (simp only [E4, hl, hm] <;> omega) | omega | fail) only [↓E2, E3, bare, bareJ, ↓E0, E1, evP, evPlan, env0, envN, evOps, evOp, evQs, evQ, evV, setD, pureOp, ev, upd, updL, gate, binW, eqOp, binV, intOp, shOp, boolOp, unV, convV, nilV, fieldAddrV, indexAddrV, extractV, cellAt, cellsAt, findB, setB, fillL, buildV, Value.cells, lenV, minV, maxV, hav, sliceV, loV, hiV, bslQ, mksQ, appQ, partsOk, partsCells, delB, eqL, SameI, strOp, apzQ, cvtQ, capV, ↓reduceIte, Zj, Zk, Nat.reduceAdd, Nat.reduceLT, Nat.reduceEqDiff, Nat.reduceMul, Nat.reduceLeDiff, if_true, Zn, reduceCtorEq, ZA, eq_self, Int.reduceLE, Int.reduceLT, Int.reduceToNat, ne_eq, Nat.reduceSub, hl, hm]
  repeat refine And.intro (by omega) ?_
  exact hP

theorem sDestabilizePlaces_c (s : Int) (x o : List Int) (hx : Bytes8 x) (ho : Bytes8 o) (Post : Value → Blks → Prop) (h : gridB s x o = true → GivesX Try.prog 100 #[.agg (gc s x o).toArray] [] [] Post) :
    GivesX Try.prog 31 #[.agg (gc s x o).toArray] [] [] (wrapP s x o Post (.slice none 0 0)) := by
  have hl := hx.len
  have hm := ho.len
  skip
  refine GivesX.of (callable_of Try.func31 rfl (by decide)) ?_ fun w hnd hlt hR => ?_
  · simp
  refine acall_of (N := 9) (c := _) (rs := [.tmp 2, .tmp 3]) (args := [_]) Try.func31 rfl (by decide) rfl rfl (Nat.le_of_ble_eq_true rfl) ?_
  refine Cd.rs [1] fun K hK => ?_
  simp (maxSteps := 2000000) (disch := first | (simp only [E4, hl, hm] <;> omega) | omega | fail) only [↓E2, E3, bare, bareJ, ↓E0, E1, env0, envN, evOps, evOp, evQs, evQ, evV, setD, pureOp, ev, upd, updL, Value.cells, hav, ↓reduceIte, Zj, Zk, Nat.reduceAdd, Nat.reduceLT, Nat.reduceEqDiff, Nat.reduceMul, Nat.reduceLeDiff, if_true, Zn, reduceCtorEq, ZA, eq_self, Int.reduceLE, Int.reduceLT, Int.reduceToNat, ne_eq, Nat.reduceSub, hl, hm]
  repeat refine And.intro (by omega) ?_
  intro b1 hb1
  try simp (maxSteps := 2000000) (disch := first | (simp only [E4, hl, hm] <;> omega) | omega | fail) only [↓E2, E3, bare, bareJ, ↓E0, E1, env0, envN, evOps, evOp, evQs, evQ, evV, setD, pureOp, ev, upd, updL, Value.cells, hav, ↓reduceIte, Zj, Zk, Nat.reduceAdd, Nat.reduceLT, Nat.reduceEqDiff, Nat.reduceMul, Nat.reduceLeDiff, if_true, Zn, reduceCtorEq, ZA, eq_self, Int.reduceLE, Int.reduceLT, Int.reduceToNat, ne_eq, Nat.reduceSub, hl, hm]
  repeat refine And.intro (by omega) ?_
  repeat refine And.intro (by omega) ?_
  intro g
  simp only [List.map_cons, List.map_nil, updL, upd, Nat.reduceEqDiff, if_true, if_false, ↓reduceIte]
  refine hK _ _ ?_; clear hK K
  refine Cd.seq ?_
  refine Cd.rs [1, 6] fun K hK => ?_
  simp (maxSteps := 2000000) (disch := first | (simp only [E4, hl, hm] <;> omega) | omega | fail) only [↓E2, E3, bare, bareJ, ↓E0, E1, env0, envN, evOps, evOp, evQs, evQ, evV, setD, pureOp, ev, upd, updL, unV, cellAt, cellsAt, findB, setB, hav, ↓reduceIte, Zj, Zk, Nat.reduceAdd, Nat.reduceLT, Nat.reduceEqDiff, Nat.reduceMul, Nat.reduceLeDiff, if_true, Zn, reduceCtorEq, ZA, eq_self, Int.reduceLE, Int.reduceLT, Int.reduceToNat, ne_eq, Nat.reduceSub, Tld32, hl, hm]
  repeat refine And.intro (by omega) ?_
  refine callK_gives (l01Is_c _ _ _ hx ho) ?_
  simp (maxSteps := 2000000) (disch := first | (simp only [E4, hl, hm] <;> omega) | omega | fail) only [↓E2, E3, bare, bareJ, ↓E0, E1, env0, envN, evOps, evOp, evQs, evQ, evV, setD, pureOp, ev, upd, updL, unV, cellAt, cellsAt, findB, setB, hav, ↓reduceIte, Zj, Zk, Nat.reduceAdd, Nat.reduceLT, Nat.reduceEqDiff, Nat.reduceMul, Nat.reduceLeDiff, if_true, Zn, reduceCtorEq, ZA, eq_self, Int.reduceLE, Int.reduceLT, Int.reduceToNat, ne_eq, Nat.reduceSub, Tld32, hl, hm]
  repeat refine And.intro (by omega) ?_
  repeat refine And.intro (by omega) ?_
  intro g
  simp only [List.map_cons, List.map_nil, updL, upd, Nat.reduceEqDiff, if_true, if_false, ↓reduceIte]
  refine hK _ _ ?_; clear hK K
  refine Cd.cond rfl (fun h1 => ?_) (fun h1 => ?_)
  · refine Cd.rs [2, 3] fun K hK => ?_
    simp (maxSteps := 2000000) (disch := first | (simp only [E4, hl, hm] <;> omega) | omega | fail) only [↓E2, E3, bare, bareJ, ↓E0, E1, env0, envN, evOps, evOp, evQs, evQ, evV, setD, pureOp, ev, upd, updL, hav, ↓reduceIte, Zj, Zk, Nat.reduceAdd, Nat.reduceLT, Nat.reduceEqDiff, Nat.reduceMul, Nat.reduceLeDiff, if_true, Zn, reduceCtorEq, ZA, eq_self, Int.reduceLE, Int.reduceLT, Int.reduceToNat, ne_eq, Nat.reduceSub, hl, hm]
    repeat refine And.intro (by omega) ?_
    repeat refine And.intro (by omega) ?_
    intro g
    simp only [List.map_cons, List.map_nil, updL, upd, Nat.reduceEqDiff, if_true, if_false, ↓reduceIte]
    refine hK _ _ ?_; clear hK K
    refine Cd.drop (List.nil_sublist _) ?_
    refine Cd.ret (thenR ?_)
    simp (maxSteps := 2000000) (disch := first | (simp only [E4, hl, hm] <;> omega) | omega | fail) only [↓E2, E3, bare, bareJ, ↓E0, E1, evP, evPlan, env0, envN, evOps, evOp, evQs, evQ, evV, setD, pureOp, ev, upd, updL, gate, binW, eqOp, binV, intOp, shOp, boolOp, unV, convV, nilV, fieldAddrV, indexAddrV, extractV, cellAt, cellsAt, findB, setB, fillL, buildV, Value.cells, lenV, minV, maxV, hav, sliceV, loV, hiV, bslQ, mksQ, appQ, partsOk, partsCells, delB, eqL, SameI, strOp, apzQ, cvtQ, capV, ↓reduceIte, Zj, Zk, Nat.reduceAdd, Nat.reduceLT, Nat.reduceEqDiff, Nat.reduceMul, Nat.reduceLeDiff, if_true, Zn, reduceCtorEq, ZA, eq_self, Int.reduceLE, Int.reduceLT, Int.reduceToNat, ne_eq, Nat.reduceSub, hl, hm]
    repeat refine And.intro (by omega) ?_
    exact wrapP_no (by simpa using h1)
  · have h2 : gridB s x o = true := by simpa using h1
    refine Cd.skip ?_
    refine thenN ?_
    refine Cd.rs [2, 3] fun K hK => ?_
    simp (maxSteps := 2000000) (disch := first | (simp only [E4, hl, hm] <;> omega) | omega | fail) only [↓E2, E3, bare, bareJ, ↓E0, E1, env0, envN, evOps, evOp, evQs, evQ, evV, setD, pureOp, ev, upd, updL, cellAt, cellsAt, findB, setB, hav, ↓reduceIte, Zj, Zk, Nat.reduceAdd, Nat.reduceLT, Nat.reduceEqDiff, Nat.reduceMul, Nat.reduceLeDiff, if_true, Zn, reduceCtorEq, ZA, eq_self, Int.reduceLE, Int.reduceLT, Int.reduceToNat, ne_eq, Nat.reduceSub, Tld32, hl, hm]
    repeat refine And.intro (by omega) ?_
    refine callK_new0 (h h2) (fun _ _ => toldW_nil) ?_
    intro v M' hP _ _
    simp (maxSteps := 2000000) (disch := first | (simp only [E4, hl, hm] <;> omega) | omega | fail) only [↓E2, E3, bare, bareJ, ↓E0, E1, env0, envN, evOps, evOp, evQs, evQ, evV, setD, pureOp, ev, upd, updL, cellAt, cellsAt, findB, setB, hav, ↓reduceIte, Zj, Zk, Nat.reduceAdd, Nat.reduceLT, Nat.reduceEqDiff, Nat.reduceMul, Nat.reduceLeDiff, if_true, Zn, reduceCtorEq, ZA, eq_self, Int.reduceLE, Int.reduceLT, Int.reduceToNat, ne_eq, Nat.reduceSub, Tld32, hl, hm]
    repeat refine And.intro (by omega) ?_
    repeat refine And.intro (by omega) ?_
    intro g
    simp only [List.map_cons, List.map_nil, updL, upd, Nat.reduceEqDiff, if_true, if_false, ↓reduceIte]
    refine hK _ _ ?_; clear hK K
    refine Cd.drop (List.sublist_append_left _ _) ?_
    refine Cd.ret ?_
    simp (maxSteps := 2000000) (disch := first | (simp only [E4, hl, hm] <;> omega) | omega | fail) only [↓E2, E3, bare, bareJ, ↓E0, E1, evP, evPlan, env0, envN, evOps, evOp, evQs, evQ, evV, setD, pureOp, ev, upd, updL, gate, binW, eqOp, binV, intOp, shOp, boolOp, unV, convV, nilV, fieldAddrV, indexAddrV, extractV, cellAt, cellsAt, findB, setB, fillL, buildV, Value.cells, lenV, minV, maxV, hav, sliceV, loV, hiV, bslQ, mksQ, appQ, partsOk, partsCells, delB, eqL, SameI, strOp, apzQ, cvtQ, capV, ↓reduceIte, Zj, Zk, Nat.reduceAdd, Nat.reduceLT, Nat.reduceEqDiff, Nat.reduceMul, Nat.reduceLeDiff, if_true, Zn, reduceCtorEq, ZA, eq_self, Int.reduceLE, Int.reduceLT, Int.reduceToNat, ne_eq, Nat.reduceSub, hl, hm]
    repeat refine And.intro (by omega) ?_
    exact wrapP_yes h2 hP

theorem specDestabilizePlaces_c (s : Int) (x o : List Int) (hx : Bytes8 x) (ho : Bytes8 o) : GivesX Try.prog 31 #[.agg (gc s x o).toArray] [] [] (ResS (SlSl (dpL s x o)) (codeG s x o)) := by
  refine (sDestabilizePlaces_c s x o hx ho (SlSl (plTo x o (s.toNat - 1) (s.toNat - 1))) fun h1 => ?_).mono fun v M h => wrapP_res h (fun hg _ _ h => by unfold dpL; rw [if_pos hg]; exact h) fun hn => by unfold dpL; rw [if_neg hn]; exact .inl ⟨rfl, rfl, rfl⟩
  have hd := fun n h => gridB_ne (n := n) h1 h
  obtain ⟨n, rfl, h2, h8, px, po⟩ := gridB_perm h1
  rw [Int.toNat_natCast]
  exact l02Places_c n x o hx ho h2 h8 px po (hd n rfl)

theorem implDestabilizePlaces_c (s : Int) (x o : List Int) (hx : Bytes8 x) (ho : Bytes8 o) : GivesX Try.prog 30 #[.agg (gc s x o).toArray] [] [] (ResS (SlSl (dpL s x o)) (codeG s x o)) := by
  refine (iDestabilizePlaces_c s x o hx ho (SlSl (plTo x o (s.toNat - 1) (s.toNat - 1))) fun h1 => ?_).mono fun v M h => wrapP_res h (fun hg _ _ h => by unfold dpL; rw [if_pos hg]; exact h) fun hn => by unfold dpL; rw [if_neg hn]; exact .inl ⟨rfl, rfl, rfl⟩
  have hd := fun n h => gridB_ne (n := n) h1 h
  obtain ⟨n, rfl, h2, h8, px, po⟩ := gridB_perm h1
  rw [Int.toNat_natCast]
  exact iDestabilizePlaces1_c n x o hx ho h2 h8 px po (hd n rfl)


end Go.Proofs

/-
  What the functions of this part hand back: each as a plain function of its arguments. Conditions: none.
-/
namespace Go.Proofs
open Go.W8
set_option linter.unusedVariables false
set_option linter.unusedSimpArgs false
set_option linter.unusedSectionVars false
set_option maxRecDepth 8000
set_option maxHeartbeats 4000000
--@plain
theorem place_law {s : Int} {x o L : List Int} (h : L ∈ dpL s x o) : ∃ i r : Nat, L = [(i : Int), (r : Int)] ∧ i < 8 ∧ r < 8 ∧ canDestR s x o (i : Int) (r : Int) = .tuple #[.bool true, .int .i64 0] := by
  unfold dpL at h
  split at h
  · rename_i hg
    obtain ⟨n, rfl, n2, n8⟩ := gridB_s hg
    rw [Int.toNat_natCast] at h
    obtain ⟨i, r, e, hi, hr, hb⟩ := plTo_mem _ _ h
    refine ⟨i, r, e, by omega, by omega, ?_⟩
    have hp : pairC (n : Int) x o [(i : Int), (r : Int)] = 0 := by
      unfold pairC
      rw [if_pos hg, if_pos]
      intro a ha
      simp only [List.mem_cons, List.not_mem_nil, or_false] at ha
      omega
    unfold canDestR
    rw [if_pos hp, Int.toNat_natCast, hb]
  · cases h
theorem byte_at {x : List Int} (hx : Bytes8 x) (j : Nat) : 0 ≤ x.getD j 0 ∧ x.getD j 0 < 256 := by
  rcases Nat.lt_or_ge j 8 with h | h
  · exact bytes_get hx h
  · rw [List.getD_eq_getElem?_getD, List.getElem?_eq_none (by rw [hx.len]; exact h)]
    exact ⟨Int.le_refl _, by decide⟩
theorem oldb_rng {x : List Int} (hx : Bytes8 x) {i n k : Nat} {r : Int} (hr : 0 ≤ r) : Bytes8 (oldX x i r n k) := by
  refine bytes8_of (tab_len _) fun q hq => ?_
  unfold oldX
  rw [tab_get hq]
  have key : ∀ j, 0 ≤ lowF r (x.getD j 0) ∧ lowF r (x.getD j 0) < 256 := fun j => by
    have := byte_at hx j
    unfold lowF
    split <;> omega
  unfold shrK
  split
  · split
    · exact key _
    · omega
  · split
    · split
      · exact key _
      · omega
    · split
      · exact key _
      · omega
theorem bytes_zero : Bytes8 z8 := ⟨rfl, by decide, by decide⟩
theorem dest_law {s : Int} {x o : List Int} (hx : Bytes8 x) (ho : Bytes8 o) (i r : Int) : ∃ s1 x1 o1 c1, destR s x o i r = .tuple #[.agg (gc s1 x1 o1).toArray, .int .i64 c1] ∧ Bytes8 x1 ∧ Bytes8 o1 ∧
    (c1 = 0 → canDestR s x o i r = .tuple #[.bool true, .int .i64 0] ∧ gridB s1 x1 o1 = true ∧ s1 = s - 1 ∧ 2 ≤ s ∧ s ≤ 8) := by
  by_cases hp : pairC s x o [i, r] = 0
  · obtain ⟨hg, hi, hr⟩ := pair_two hp
    have hd := fun n h => gridB_ne (n := n) hg h
    obtain ⟨n, rfl, n2, n8, px, po⟩ := gridB_perm hg
    have hd := hd n rfl
    unfold destR canDestR
    rw [if_pos hp, if_pos hp]
    cases hb : bkFind x o i.toNat r with
    | none => exact ⟨_, _, _, _, rfl, bytes_zero, bytes_zero, fun h => by cases h⟩
    | some k =>
      refine ⟨_, _, _, _, rfl, oldb_rng hx hr.1, oldb_rng ho hr.1, fun _ => ⟨rfl, ?_, rfl, by omega, by omega⟩⟩
      have hk : k < 8 := List.mem_range.1 (List.mem_of_find?_eq_some hb)
      have hbk : bk x o i.toNat r k = true := List.find?_some hb
      have h0 : ∀ c, c < n → 0 ≤ x.getD c 0 := fun c _ => (byte_at hx c).1
      have h0' : ∀ c, c < n → 0 ≤ o.getD c 0 := fun c _ => (byte_at ho c).1
      rw [Int.toNat_natCast, show (n : Int) - 1 = ((n - 1 : Nat) : Int) by omega]
      rcases Nat.mod_two_eq_zero_or_one k with h | h
      · rw [← bk_even hx.len ho.len n8 px po h0 h0' hd (by omega) hr.1 (by omega) hk h] at hbk
        simp only [Bool.and_eq_true] at hbk
        exact hbk.1.1
      · rw [← bk_odd hx.len ho.len n8 px po h0 h0' hd (by omega) hr.1 (by omega) hk h] at hbk
        simp only [Bool.and_eq_true] at hbk
        exact hbk.1.1
  · unfold destR
    rw [if_neg hp]
    exact ⟨_, _, _, _, rfl, bytes_zero, bytes_zero, fun h => absurd h hp⟩
theorem coL_len {s : Int} {x o : List Int} (h : gridB s x o = true) : (coL s x o).length = (comps s.toNat x o).2 := by
  unfold coL
  rw [if_pos h, coTab_len]
theorem stab_law {s : Int} {x o : List Int} (hx : Bytes8 x) (ho : Bytes8 o) (i m rt u : Int) : ∃ s1 x1 o1 c1, stabR s x o i m rt u = .tuple #[.agg (gc s1 x1 o1).toArray, .int .i64 c1] ∧ Bytes8 x1 ∧ Bytes8 o1 ∧
    ((c1 ≠ 0 ∧ s1 = 0 ∧ x1 = z8 ∧ o1 = z8) ∨ (c1 = 0 ∧ gridB s x o = true ∧ gridB s1 x1 o1 = true ∧ (0 ≤ i ∧ i < 8) ∧ destR s1 x1 o1 i (if m = 1 then o.getD i.toNat 0 else x.getD i.toNat 0) = .tuple #[.agg (gc s x o).toArray, .int .i64 0] ∧ (coL s x o).length = (coL s1 x1 o1).length)) := by
  unfold stabR noneG
  by_cases hg : gridB s x o = true
  · rw [if_pos hg]
    by_cases hk : stabOk s i m rt u = true
    · rw [if_pos hk]
      by_cases h8 : s = 8
      · rw [if_pos h8]
        exact ⟨_, _, _, _, rfl, bytes_zero, bytes_zero, .inl ⟨by decide, rfl, rfl, rfl⟩⟩
      · rw [if_neg h8]
        unfold stabOk at hk
        simp only [Bool.and_eq_true, decide_eq_true_eq] at hk
        have hd := fun n h => gridB_ne (n := n) hg h
        obtain ⟨n, rfl, n2, n8, px, po⟩ := gridB_perm hg
        have hd := hd n rfl
        obtain ⟨j, rfl⟩ : ∃ j : Nat, i = (j : Int) := ⟨i.toNat, by omega⟩
        obtain ⟨r, rfl⟩ : ∃ r : Nat, rt = (r : Int) := ⟨rt.toNat, by omega⟩
        obtain ⟨v, rfl⟩ : ∃ v : Nat, u = (v : Int) := ⟨u.toNat, by omega⟩
        have h0 : ∀ c, c < n → 0 ≤ x.getD c 0 := fun c _ => (byte_at hx c).1
        have h0' : ∀ c, c < n → 0 ≤ o.getD c 0 := fun c _ => (byte_at ho c).1
        have hu : (v : Int) = 0 ∨ (v : Int) = 1 := by omega
        have hn : n + 1 ≤ 8 := by omega
        have hj : j < n := by omega
        have hr : r ≤ 1 := by omega
        have en : ((n : Int) + 1).toNat = n + 1 := by omega
        have hd' : ∀ c, c < n → o.getD c 0 ≠ x.getD c 0 := fun c hc => (hd c hc).symm
        unfold stabG
        rw [Int.toNat_natCast, Int.toNat_natCast, Int.toNat_natCast]
        have hm : m = 0 ∨ m = 1 := by omega
        rcases hm with rfl | rfl
        · rw [if_pos rfl, if_neg (by decide)]
          have bA := stA_bytes (rt := r) hn px h0 hj hr hu
          have bB := stB_bytes (rt := r) hn px po h0 h0' hj hr hu
          have hG : gridB ((n : Int) + 1) (tab (grA x j r (v : Int) n)) (tab (grB x o j r (v : Int) n)) = true := by
            refine decide_eq_true ⟨by omega, by omega, ?_, ?_, ?_⟩
            · rw [en]; exact stA_perm hn px h0 hj hr hu
            · rw [en]; exact stB_perm hn px po h0 h0' hj hr hu
            · rw [en]; exact fun q hq => st_apart hn px po h0 h0' hd hj hr hu hq
          refine ⟨_, _, _, _, rfl, bA, bB, .inr ⟨rfl, hg, hG, ⟨by omega, by omega⟩, ?_, ?_⟩⟩
          · have hp : pairC ((n : Int) + 1) (tab (grA x j r (v : Int) n)) (tab (grB x o j r (v : Int) n)) [(j : Int), x.getD j 0] = 0 := by
              unfold pairC
              rw [if_pos hG, if_pos]
              intro a ha
              simp only [List.mem_cons, List.not_mem_nil, or_false] at ha
              have h1 := px.1 j hj
              have h2 := h0 j hj
              omega
            have hb : bkFind (tab (grA x j r (v : Int) n)) (tab (grB x o j r (v : Int) n)) j (x.getD j 0) = some (0 + 2 * r + 4 * v) := by
              refine bkFind_hit (by omega) ?_
              rw [bk_back (by omega) hr (by omega)]
              exact decide_eq_true (st_back hn px po h0 h0' hd hj hr hu rfl)
            unfold destR
            rw [if_pos hp, Int.toNat_natCast, hb]
            show Value.tuple #[.agg (gc ((n : Int) + 1 - 1) (oldX _ j _ _ _) (oldX _ j _ _ _)).toArray, _] = _
            have e1 : (0 + 2 * r + 4 * v) / 2 % 2 = r := by omega
            unfold oldX
            rw [e1, en, st_oldA hn px po h0 h0' hd hj hr hu hx.len, st_oldB hn px po h0 h0' hd hj hr hu ho.len, Int.add_sub_cancel]
          · rw [coL_len hg, coL_len hG, en, Int.toNat_natCast]
            exact (st_comps0 hx ho hn px po hj hr hu).symm
        · rw [if_neg (by decide), if_pos rfl]
          have bA := stA_bytes (rt := r) hn po h0' hj hr hu
          have bB := stB_bytes (rt := r) hn po px h0' h0 hj hr hu
          have hG : gridB ((n : Int) + 1) (tab (grB o x j r (v : Int) n)) (tab (grA o j r (v : Int) n)) = true := by
            refine decide_eq_true ⟨by omega, by omega, ?_, ?_, ?_⟩
            · rw [en]; exact stB_perm hn po px h0' h0 hj hr hu
            · rw [en]; exact stA_perm hn po h0' hj hr hu
            · rw [en]; exact fun q hq => (st_apart hn po px h0' h0 hd' hj hr hu hq).symm
          refine ⟨_, _, _, _, rfl, bB, bA, .inr ⟨rfl, hg, hG, ⟨by omega, by omega⟩, ?_, ?_⟩⟩
          · have hp : pairC ((n : Int) + 1) (tab (grB o x j r (v : Int) n)) (tab (grA o j r (v : Int) n)) [(j : Int), o.getD j 0] = 0 := by
              unfold pairC
              rw [if_pos hG, if_pos]
              intro a ha
              simp only [List.mem_cons, List.not_mem_nil, or_false] at ha
              have h1 := po.1 j hj
              have h2 := h0' j hj
              omega
            have hb : bkFind (tab (grB o x j r (v : Int) n)) (tab (grA o j r (v : Int) n)) j (o.getD j 0) = some (1 + 2 * r + 4 * v) := by
              refine bkFind_hit (by omega) ?_
              rw [bk_back (by omega) hr (by omega)]
              exact decide_eq_true (st_back hn po px h0' h0 hd' hj hr hu rfl)
            unfold destR
            rw [if_pos hp, Int.toNat_natCast, hb]
            show Value.tuple #[.agg (gc ((n : Int) + 1 - 1) (oldX _ j _ _ _) (oldX _ j _ _ _)).toArray, _] = _
            have e1 : (1 + 2 * r + 4 * v) / 2 % 2 = r := by omega
            unfold oldX
            rw [e1, en, st_oldA hn po px h0' h0 hd' hj hr hu ho.len, st_oldB hn po px h0' h0 hd' hj hr hu hx.len, Int.add_sub_cancel]
          · rw [coL_len hg, coL_len hG, en, Int.toNat_natCast]
            exact (st_comps1 ho hx hn po px hj hr hu).symm
    · rw [if_neg hk]
      exact ⟨_, _, _, _, rfl, bytes_zero, bytes_zero, .inl ⟨by decide, rfl, rfl, rfl⟩⟩
  · rw [if_neg hg]
    exact ⟨_, _, _, _, rfl, bytes_zero, bytes_zero, .inl ⟨by decide, rfl, rfl, rfl⟩⟩

end Go.Proofs

